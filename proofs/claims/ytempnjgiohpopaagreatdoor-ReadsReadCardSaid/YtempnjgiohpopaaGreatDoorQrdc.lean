/- Texts joined: Lite6 Lite7 Lite8 Lite9 Lite10 Lite11 LiteC. -/
import Derived.Test.YtempnjgiohpopaaGreatDoorQrdb
import Derived.RowKit
import Derived.ChangeSame
import Derived.Carry
import Derived.OpenShut
import Derived.Deep.Slices
import Derived.Deep.Fields
import Derived.Lib.LaidTab
import Derived.Laws.OwnMore
set_option linter.all false
section
namespace bt
open Go Go.RowKit
structure Tok{α:Type}(a:α):Type where
def dT(P:Program)(c:eV)(Q:dN→Fr→World→Prop)(S:Fr)(w:World)(_:Tok (P,c,Q)):Prop:=dM P c Q S w
def iX(P:Program)(bY:List Step)(S:Fr)(w:World)(K:Fr→World→Prop)(_:Tok (P,bY,K)):Prop:=steps P bY S w K
def k5(P:Program)(bY:List Step)(S:Fr)(w:World)(K:Fr→Prop)(_:Tok (P,bY,K)):Prop:=qV P bY S w K
def fh(P:Program)(w0:World)(x:eE)(S:Fr)(w:World)(K:Fr→World→Prop)(_:Tok (P,w0,x,K)):Prop:=mN P w0 x S w K
def xz(P:Program)(w0:World)(s:Step)(S:Fr)(K:Fr→Prop)(_:Tok (P,w0,s,K)):Prop:=Dt P w0 s S K
def qt(P:Program)(s:Step)(S:Fr)(w:World)(K:Fr→World→Prop)(_:Tok (P,s,K)):Prop:=nh P s S w K
def qj(P:Program)(w0:World)(s:Step)(S:Fr)(w:World)(K:Fr→World→Prop)(_:Tok (P,w0,s,K)):Prop:=Au P w0 s S w K
def lP(P:Program)(i:Ins)(S:Fr)(w:World)(K:Value→World→Prop)(_:Tok (P,i,K)):Prop:=ir P i S w K
def oD(P:Program)(i:Ins)(S:Fr)(w:World)(K:Value→World→Prop)(_:Tok (P,i,K)):Prop:=sb P i S w K
def vu(P:Program)(i:oC)(S:Fr)(w:World)(K:Value→World→Prop)(_:Tok (P,i,K)):Prop:=L5 P i S w K
def vv(P:Program)(x:Value)(l:List Value)(w:World)(K:Value→World→Prop)(_:Tok (P,K)):Prop:=L6 P x l w K
def mV(P:Program)(i:Ins)(S:Fr)(w:World)(K:Value→Prop)(_:Tok (P,i,K)):Prop:=lb P i S w K
def vE(P:Program)(i:oC)(S:Fr)(w:World)(K:Value→Prop)(_:Tok (P,i,K)):Prop:=VF P i S w K
def Ea(P:Program)(f:FuncId)(l:List Value)(w:World)(K:Value→Prop)(_:Tok (P,f,K)):Prop:=NM P f l w K
def Al(P:Program)(x:Value)(l:List Value)(w:World)(K:Value→Prop)(_:Tok (P,K)):Prop:=VG P x l w K
def eh(P:Program)(i:tW)(S:Fr)(K:Value→Prop)(_:Tok (P,i,K)):Prop:=mU P i S K
def mW(i:se)(S:Fr)(w:World)(K:Value→Prop)(_:Tok (i,K)):Prop:=lU i S w K
def hv(P:Program)(i:p8)(S:Fr)(w:World)(K:Value→World→Prop)(_:Tok (P,i,K)):Prop:=lO P i S w K
def vt(P:Program)(i:oC)(S:Fr)(w:World)(K:Value→World→Prop)(_:Tok (P,i,K)):Prop:=p6 P i S w K
def gx(P:Program)(op:BinOp)(t:TypeId)(cW:Operand)(dd:Operand)(x:Value)(y:Value)(K:Value→Prop)(_:Tok (P,op,t,cW,dd,K)):Prop:=mm P op t cW dd x y K
def vM(op:UnOp)(x:Value)(K:Value→Prop)(_:Tok (op,K)):Prop:=xY op x K
def z1(k:IntKind)(x:Value)(K:Value→Prop)(_:Tok (k,K)):Prop:=DO k x K
def mY(k:IntKind)(n:Int)(K:Value→Prop)(_:Tok (k,K)):Prop:=qf k n K
def jn(v:Value)(A:Prop)(B:Prop)(_:Tok (A,B)):Prop:=kR v A B
def iK(v:Value)(b:Bool)(A:Prop)(B:Prop)(C:Prop)(_:Tok (b,A,B,C)):Prop:=kl v b A B C
def z8(off:Nat)(x:Value)(K:Value→Prop)(_:Tok (off,K)):Prop:=DP off x K
def xO(sz:Nat)(x:Value)(i:Value)(K:Value→Prop)(_:Tok (sz,K)):Prop:=DU sz x i K
def DT(len:Nat)(sz:Nat)(x:Value)(i:Value)(K:Value→Prop)(_:Tok (len,sz,K)):Prop:=G0 len sz x i K
def DW(x:Value)(i:Value)(K:Value→Prop)(_:Tok (K)):Prop:=G2 x i K
def DV(len:Nat)(x:Value)(i:Value)(K:Value→Prop)(_:Tok (len,K)):Prop:=G1 len x i K
def DR(off:Nat)(x:Value)(K:Value→Prop)(_:Tok (off,K)):Prop:=GZ off x K
def Aa(off:Nat)(n:Nat)(x:Value)(K:Value→Prop)(_:Tok (off,n,K)):Prop:=DQ off n x K
def DK(S:Fr)(z:List Value)(pl:List (Nat×Nat))(db:List (Nat×Operand))(K:Value→Prop)(_:Tok (z,pl,db,K)):Prop:=GS S z pl db K
def sg(S:Fr)(sz:Nat)(x:Value)(aZ:Option Operand)(ad:Option Operand)(mx:Option Operand)(K:Value→Prop)(_:Tok (sz,aZ,ad,mx,K)):Prop:=Hb S sz x aZ ad mx K
def Ec(S:Fr)(x:Value)(aZ:Option Operand)(ad:Option Operand)(K:Value→Prop)(_:Tok (aZ,ad,K)):Prop:=Ha S x aZ ad K
def r9(x:Value)(i:Nat)(K:Value→Prop)(_:Tok (i,K)):Prop:=tQ x i K
def Ac(x:Value)(K:Value→Prop)(_:Tok (K)):Prop:=D2 x K
def Ab(x:Value)(K:Value→Prop)(_:Tok (K)):Prop:=D0 x K
def zY(x:Value)(K:Value→Prop)(_:Tok (K)):Prop:=DN x K
def Ad(x:Value)(y:Value)(K:Value→Prop)(_:Tok (K)):Prop:=D4 x y K
def Ae(x:Value)(y:Value)(K:Value→Prop)(_:Tok (K)):Prop:=D5 x y K
def vC(x:Value)(K:Value→Prop)(_:Tok (K)):Prop:=vB x K
def pr(x:Value)(w:World)(K:Value→Prop)(_:Tok (K)):Prop:=DZ x w K
def q4(n:Nat)(x:Value)(w:World)(K:Value→Prop)(_:Tok (n,K)):Prop:=DY n x w K
def xP(d:TypeDesc)(z:Value)(ok:Bool)(m:Value)(k:Value)(w:World)(K:Value→Prop)(_:Tok (d,z,ok,K)):Prop:=G4 d z ok m k w K
def D1(m:Value)(w:World)(K:Value→Prop)(_:Tok (K)):Prop:=G3 m w K
def q7(x:Value)(v:Value)(w:World)(K:World→Prop)(_:Tok (K)):Prop:=vK x v w K
def Ap(n:Nat)(x:Value)(v:Value)(w:World)(K:World→Prop)(_:Tok (n,K)):Prop:=xX n x v w K
def Af(e:TypeId)(sz:Nat)(b:Nat)(z:Value)(l:Value)(c:Value)(w:World)(K:Value→World→Prop)(_:Tok (e,sz,b,z,K)):Prop:=G5 e sz b z l c w K
def zW(S:Fr)(e:TypeId)(len:Nat)(sz:Nat)(z:List Value)(db:List (Nat×Operand))(w:World)(K:Value→World→Prop)(_:Tok (e,len,sz,z,db,K)):Prop:=DJ S e len sz z db w K
def ki(P:Program)(t:TypeId)(e:TypeId)(sz:Nat)(b:Nat)(s:Value)(x:Value)(w:World)(K:Value→World→Prop)(_:Tok (P,t,e,sz,b,K)):Prop:=vr P t e sz b s x w K
def vz(d:TypeDesc)(m:Value)(k:Value)(v:Value)(w:World)(K:World→Prop)(_:Tok (d,K)):Prop:=G6 d m k v w K
def D8(x:Value)(w:World)(K:Value→World→Prop)(_:Tok (K)):Prop:=G9 x w K
def Eb(x:Value)(w:World)(K:Value→World→Prop)(_:Tok (K)):Prop:=NY x w K
def tZ(P:Program)(op:Op)(ty:TypeId)(S:Fr)(w:World)(K:Value→World→Prop)(_:Tok (P,op,ty,K)):Prop:=NV P op ty S w K
def xK(P:Program)(f:FuncId)(l:List Value)(w:World)(K:Value→World→Prop)(_:Tok (P,f,K)):Prop:=DM P f l w K
def Ed(P:Program)(f:FuncId)(l:List Value)(w:World)(K:Value→World→Prop)(Z:List PanicEntry→World→Prop)(_:Tok (P,f,K,Z)):Prop:=vL P f l w K Z
def Ak(v:Value)(Z:List PanicEntry→Prop)(_:Tok (Z)):Prop:=sd v Z
def tO(P:Program)(x:Value)(l:List Value)(w:World)(K:Value→World→Prop)(_:Tok (P,K)):Prop:=xJ P x l w K
def vA(t:TypeId)(cs:Array Value)(w:World)(K:Value→World→Prop)(_:Tok (t,K)):Prop:=Vz t cs w K
def D6(w:World)(K:Value→World→Prop)(_:Tok (K)):Prop:=Vy w K
def vy(P:Program)(b:eV)(Q:dN→Fr→World→Prop)(S:Fr)(w:World)(_:Tok (P,b,Q)):Prop:=M3 P b Q S w
def hL(r:List lS)(S:Fr)(w:World)(K:List Value→Prop)(_:Tok (r,K)):Prop:=ny r S w K
def h0(N:Fr→World→Prop)(Q:dN→Fr→World→Prop)(_:Tok (N,Q)):dN→Fr→World→Prop:=tG N Q
def oT(i:Nat)(Q:dN→Fr→World→Prop)(_:Tok (i,Q)):dN→Fr→World→Prop:=x9 i Q
def sx(r:List lS)(R:Value→World→Prop)(_:Tok (r,R)):dN→Fr→World→Prop:=A1 r R
def uu(r:List lS)(R:Value→World→Prop)(Z:List PanicEntry→World→Prop)(_:Tok (r,R,Z)):dN→Fr→World→Prop:=PL r R Z
section
variable{P:Program}{Q:dN→Fr→World→Prop}{N cI:Fr→World→Prop}{gy:Fr→Prop}{aF:Value→Prop}{K:Value→World→Prop}{km:List Value→Prop}{R:Value→World→Prop}{Z:List PanicEntry→World→Prop}{x0:List PanicEntry→Prop}{S:Fr}{w:World}{A B C:Prop}
set_option linter.unusedVariables false
theorem Lz  {t}:dT P .skip Q S w t=Q .normal S w:=propext Iff.rfl
theorem LA  {bY}{t}:dT P (.bJ bY) Q S w t=iX P bY S w (fun S w=>Q .normal S w) ⟨⟩:=propext Iff.rfl
theorem LB  {bY}{t}:dT P (.dR bY) Q S w t=k5 P bY S w (fun S => ∀w',Ext w w'→Q .normal S w') ⟨⟩:=propext Iff.rfl
theorem LC  {x}{t}:dT P (.dS x) Q S w t=(∀av,Ext w av→fh P av x S av (fun S w=>Q .normal S w) ⟨⟩):=propext Iff.rfl
theorem LD  {w0}{t}:fh P w0 .done S w cI t=cI S w:=propext Iff.rfl
theorem LF  {w0}{t}:fh P w0 .nil S w cI t=True:=propext Iff.rfl
theorem LG  {w0 s r}{t}:fh P w0 (.take s r) S w cI t=xz P w0 s S (fun S=>fh P w0 r S w cI ⟨⟩) ⟨⟩:=propext Iff.rfl
theorem LH  {w0 s r}{t}:fh P w0 (.alt s r .nil) S w cI t=qj P w0 s S w (fun S w=>fh P w0 r S w cI ⟨⟩) ⟨⟩:=and_true _
theorem LI  {w0 s r gX ho jH}{t}:fh P w0 (.alt s r (.alt gX ho jH)) S w cI t=(qj P w0 s S w (fun S w=>fh P w0 r S w cI ⟨⟩) ⟨⟩∧fh P w0 (.alt gX ho jH) S w cI ⟨⟩):=propext Iff.rfl
theorem LJ  {w0 s r gX ho jH}{t}:fh P w0 (.alt s r (.b0 gX ho jH)) S w cI t=(qj P w0 s S w (fun S w=>fh P w0 r S w cI ⟨⟩) ⟨⟩∧fh P w0 (.b0 gX ho jH) S w cI ⟨⟩):=propext Iff.rfl
theorem LL  {w0 s r}{t}:fh P w0 (.b0 s r .nil) S w cI t=qt P s S w (fun S w=>fh P w0 r S w cI ⟨⟩) ⟨⟩:=and_true _
theorem LM  {w0 s r gX ho jH}{t}:fh P w0 (.b0 s r (.alt gX ho jH)) S w cI t=(qt P s S w (fun S w=>fh P w0 r S w cI ⟨⟩) ⟨⟩∧fh P w0 (.alt gX ho jH) S w cI ⟨⟩):=propext Iff.rfl
theorem LN  {w0 s r gX ho jH}{t}:fh P w0 (.b0 s r (.b0 gX ho jH)) S w cI t=(qt P s S w (fun S w=>fh P w0 r S w cI ⟨⟩) ⟨⟩∧fh P w0 (.b0 gX ho jH) S w cI ⟨⟩):=propext Iff.rfl
theorem LO  {d i}{t}:qt P ⟨d,none,i⟩ S w cI t=lP P i S w (fun v w'=>cI (put S d v) w') ⟨⟩:=propext Iff.rfl
theorem LP  {d j b i}{t}:qt P ⟨d,some (j,b),i⟩ S w cI t=iK (S j) b (lP P i (b7 S j (.bool b)) w (fun v w'=>cI (put (b7 S j (.bool b)) d v) w') ⟨⟩) (cI (put (b7 S j (.bool (!b))) d undef) w) (cI (put S d undef) w) ⟨⟩:=propext Iff.rfl
theorem LQ  {w0 d i}{t}:xz P w0 ⟨d,none,i⟩ S gy t=mV P i S w0 (fun v=>gy (put S d v)) ⟨⟩:=propext Iff.rfl
theorem LR  {w0 d j b i}{t}:xz P w0 ⟨d,some (j,b),i⟩ S gy t=iK (S j) b (mV P i (b7 S j (.bool b)) w0 (fun v=>gy (put (b7 S j (.bool b)) d v)) ⟨⟩) (gy (put (b7 S j (.bool (!b))) d undef)) (gy (put S d undef)) ⟨⟩:=propext Iff.rfl
theorem LS  {w0 d i}{t}:qj P w0 ⟨d,none,i⟩ S w cI t=lP P i S w (fun v w'=>Ext w0 w'∧cI (put S d v) w') ⟨⟩:=propext Iff.rfl
theorem LU  {w0 d j b i}{t}:qj P w0 ⟨d,some (j,b),i⟩ S w cI t=iK (S j) b (lP P i (b7 S j (.bool b)) w (fun v w'=>Ext w0 w'∧cI (put (b7 S j (.bool b)) d v) w') ⟨⟩) (cI (put (b7 S j (.bool (!b))) d undef) w) (cI (put S d undef) w) ⟨⟩:=propext Iff.rfl
theorem cw  {a b}{t}:dT P (.seq a b) Q S w t=dT P a (h0 (fun S w=>dT P b Q S w ⟨⟩) Q ⟨⟩) S w ⟨⟩:=propext Iff.rfl
theorem LV  {c x y}{t}:dT P (.cond c x y) Q S w t=jn (bb S c) (dT P x Q S w ⟨⟩) (dT P y Q S w ⟨⟩) ⟨⟩:=propext Iff.rfl
theorem LW  {id b}{t}:dT P (.aW id b) Q S w t=dT P b (oT id Q ⟨⟩) S w ⟨⟩:=propext Iff.rfl
theorem LX  {id}{t}:dT P (.exit id) Q S w t=Q (.exit id) S w:=propext Iff.rfl
theorem LY  {t}:dT P .ret Q S w t=Q .ret S w:=propext Iff.rfl
theorem LZ  {bY d f l}{t}:dT P (.eQ bY d f l) Q S w t=iX P bY S w (fun S w=>Ed P f (l.map (bb S)) w (fun v w'=>Q .normal (put S d v) w') (fun c w'=>Q (.fK c) S w') ⟨⟩) ⟨⟩:=propext Iff.rfl
theorem L0  {bY x}{t}:dT P (.pZ bY x) Q S w t=iX P bY S w (fun S w=>Ak (bb S x) (fun c=>Q (.fK c) S w) ⟨⟩) ⟨⟩:=propext Iff.rfl
theorem L1  {i:TypeId}{v:Value}{t}:Ak (.iface i v) x0 t=x0 [{ v:=.iface i v,recovered:=false }]:=bt.ad2 i v x0
theorem L2  {c}{t}:h0 N Q t (.fK c) S w=Q (.fK c) S w:=propext Iff.rfl
theorem L3{i}{c}{t}:oT i Q t (.fK c) S w=Q (.fK c) S w:=propext Iff.rfl
theorem L4{r}{t}:uu r R Z t .normal S w=hL r S w (fun vs=>R (fY vs) w) ⟨⟩:=propext Iff.rfl
theorem qZ{r}{t}:uu r R Z t .ret S w=hL r S w (fun vs=>R (fY vs) w) ⟨⟩:=propext Iff.rfl
theorem L7{r}{c}{t}:uu r R Z t (.fK c) S w=Z c w:=propext Iff.rfl
theorem L8  {b}{t}:dT P (.loop b) Q S w t=vy P b Q S w ⟨⟩:=propext Iff.rfl
theorem L9  {t}:h0 N Q t .normal S w=N S w:=propext Iff.rfl
theorem Ma  {i}{t}:h0 N Q t (.exit i) S w=Q (.exit i) S w:=propext Iff.rfl
theorem Mb  {t}:h0 N Q t .ret S w=Q .ret S w:=propext Iff.rfl
theorem Mc{i}{t}:oT i Q t .normal S w=Q .normal S w:=propext Iff.rfl
theorem Md{i}{t}:oT i Q t .ret S w=Q .ret S w:=propext Iff.rfl
theorem Me{i}{j}{t}:oT i Q t (.exit j) S w=if j=i then Q .normal S w else Q (.exit j) S w:=propext Iff.rfl
theorem Mf{r}{t}:sx r R t .normal S w=hL r S w (fun vs=>R (fY vs) w) ⟨⟩:=propext Iff.rfl
theorem Mi{r}{t}:sx r R t .ret S w=hL r S w (fun vs=>R (fY vs) w) ⟨⟩:=propext Iff.rfl
theorem h3  {t}:iX P [] S w cI t=cI S w:=propext Iff.rfl
theorem cR  {d i r}{t}:iX P (⟨d,none,i⟩ :: r) S w cI t=oD P i S w (fun v w'=>iX P r (put S d v) w' cI ⟨⟩) ⟨⟩:=propext Iff.rfl
theorem fF  {d j b i r}{t}:iX P (⟨d,some (j,b),i⟩ :: r) S w cI t=iK (S j) b (oD P i (b7 S j (.bool b)) w (fun v w'=>iX P r (put (b7 S j (.bool b)) d v) w' cI ⟨⟩) ⟨⟩) (iX P r (put (b7 S j (.bool (!b))) d undef) w cI ⟨⟩) (iX P r (put S d undef) w cI ⟨⟩) ⟨⟩:=propext Iff.rfl
theorem ed  {t}:k5 P [] S w gy t=gy S:=propext Iff.rfl
theorem iq  {d i r}{t}:k5 P (⟨d,none,i⟩ :: r) S w gy t=mV P i S w (fun v=>k5 P r (put S d v) w gy ⟨⟩) ⟨⟩:=propext Iff.rfl
theorem kj  {d j b i r}{t}:k5 P (⟨d,some (j,b),i⟩ :: r) S w gy t=iK (S j) b (mV P i (b7 S j (.bool b)) w (fun v=>k5 P r (put (b7 S j (.bool b)) d v) w gy ⟨⟩) ⟨⟩) (k5 P r (put (b7 S j (.bool (!b))) d undef) w gy ⟨⟩) (k5 P r (put S d undef) w gy ⟨⟩) ⟨⟩:=propext Iff.rfl
theorem gI  {i}{t}:lP P (.p i) S w K t=eh P i S (fun v=>K v w) ⟨⟩:=propext Iff.rfl
theorem jX  {i}{t}:lP P (.r i) S w K t=mW i S w (fun v=>K v w) ⟨⟩:=propext Iff.rfl
theorem kk  {i}{t}:lP P (.e i) S w K t=hv P i S w K ⟨⟩:=propext Iff.rfl
theorem Mo  {i}{t}:lP P (.c i) S w K t=vt P i S w K ⟨⟩:=propext Iff.rfl
theorem Mp  {i}{t}:oD P (.p i) S w K t=eh P i S (fun v=>K v w) ⟨⟩:=propext Iff.rfl
theorem Mq  {i}{t}:oD P (.r i) S w K t=mW i S w (fun v=>K v w) ⟨⟩:=propext Iff.rfl
theorem Mr  {i}{t}:oD P (.e i) S w K t=hv P i S w K ⟨⟩:=propext Iff.rfl
theorem Ms  {i}{t}:oD P (.c i) S w K t=vu P i S w K ⟨⟩:=propext Iff.rfl
theorem Mt  {i}{t}:mV P (.p i) S w aF t=eh P i S aF ⟨⟩:=propext Iff.rfl
theorem Mu  {i}{t}:mV P (.r i) S w aF t=mW i S w aF ⟨⟩:=propext Iff.rfl
theorem Mv  {i}{t}:mV P (.c i) S w aF t=vE P i S w aF ⟨⟩:=propext Iff.rfl
theorem Mw  {f l}{t}:vE P (.fn f l) S w aF t=Ea P f (l.map (bb S)) w aF ⟨⟩:=propext Iff.rfl
theorem Mx  {x l}{t}:vE P (.val x l) S w aF t=Al P (bb S x) (l.map (bb S)) w aF ⟨⟩:=propext Iff.rfl
theorem My  {t}:iK (.bool true) true A B C t=A:=bt.YX A B C
theorem H1  {t}:iK (.bool true) false A B C t=B:=bt.YW A B C
theorem Mz  {t}:iK (.bool false) true A B C t=B:=bt.YV A B C
theorem MA  {t}:iK (.bool false) false A B C t=A:=bt.YU A B C
theorem MB  (u:Bool){t}:iK undef u A B C t=C:=bt.YY u A B C
theorem MC  (u:Bool){t}:iK (.bool u) true A B C t=jn (.bool u) A B ⟨⟩:=(bt.Qf u true A B C).trans (by rfl)
theorem MD  (u:Bool){t}:iK (.bool u) false A B C t=jn (.bool u) B A ⟨⟩:=(bt.Qf u false A B C).trans (by rfl)
theorem ME  {t}:jn (.bool true) A B t=A:=W4 A B
theorem MF  {t}:jn (.bool false) A B t=B:=W2 A B
theorem MG  (u:Bool){t}:jn (.bool (!u)) A B t=jn (.bool u) B A ⟨⟩:=W3 u A B
theorem MH  {x}{t}:eh P (.pb x) S aF t=aF (bb S x):=propext Iff.rfl
theorem MI  {c x y}{t}:eh P (.pick c x y) S aF t=jn (bb S c) (aF (bb S x)) (aF (bb S y)) ⟨⟩:=propext Iff.rfl
theorem MJ  {op ty x y}{t}:eh P (.bin op ty x y) S aF t=gx P op ty x y (bb S x) (bb S y) aF ⟨⟩:=propext Iff.rfl
theorem MK  {op x}{t}:eh P (.un op x) S aF t=vM op (bb S x) aF ⟨⟩:=propext Iff.rfl
theorem ML  {k x}{t}:eh P (.v7 k x) S aF t=z1 k (bb S x) aF ⟨⟩:=propext Iff.rfl
theorem MM  {n x}{t}:eh P (.iB n x) S aF t=z8 n (bb S x) aF ⟨⟩:=propext Iff.rfl
theorem MN  {n x y}{t}:eh P (.hE n x y) S aF t=xO n (bb S x) (bb S y) aF ⟨⟩:=propext Iff.rfl
theorem MO  {m n x y}{t}:eh P (.y0 m n x y) S aF t=DT m n (bb S x) (bb S y) aF ⟨⟩:=propext Iff.rfl
theorem MP  {x y}{t}:eh P (.kJ x y) S aF t=DW (bb S x) (bb S y) aF ⟨⟩:=propext Iff.rfl
theorem MQ  {n x y}{t}:eh P (.uX n x y) S aF t=DV n (bb S x) (bb S y) aF ⟨⟩:=propext Iff.rfl
theorem MR  {n x}{t}:eh P (.kx n x) S aF t=DR n (bb S x) aF ⟨⟩:=propext Iff.rfl
theorem MS  {n m x}{t}:eh P (.A7 n m x) S aF t=Aa n m (bb S x) aF ⟨⟩:=propext Iff.rfl
theorem MT  {z pl db}{t}:eh P (.cF z pl db) S aF t=DK S z pl db aF ⟨⟩:=propext Iff.rfl
theorem MU  {f a b}{t}:eh P (.kc f a b) S aF t=aF (.func (.func f) (a.map (bb S)).toArray (b.map (bb S)).toArray):=propext Iff.rfl
theorem MV  {n x aZ ad mx}{t}:eh P (.iW n x aZ ad mx) S aF t=sg S n (bb S x) aZ ad mx aF ⟨⟩:=propext Iff.rfl
theorem MW  {x aZ ad}{t}:eh P (.vm x aZ ad) S aF t=Ec S (bb S x) aZ ad aF ⟨⟩:=propext Iff.rfl
theorem MX  {x n}{t}:eh P (.ext x n) S aF t=r9 (bb S x) n aF ⟨⟩:=propext Iff.rfl
theorem MY  {x}{t}:eh P (.mK x) S aF t=Ac (bb S x) aF ⟨⟩:=propext Iff.rfl
theorem MZ  {x}{t}:eh P (.y8 x) S aF t=Ab (bb S x) aF ⟨⟩:=propext Iff.rfl
theorem M0  {x}{t}:eh P (.AF x) S aF t=zY (bb S x) aF ⟨⟩:=propext Iff.rfl
theorem M4  {v}{t}:eh P (.B8 v) S aF t=aF v:=propext Iff.rfl
theorem M5  {x y}{t}:eh P (.rR x y) S aF t=Ad (bb S x) (bb S y) aF ⟨⟩:=propext Iff.rfl
theorem M2  {x y}{t}:eh P (.tn x y) S aF t=Ae (bb S x) (bb S y) aF ⟨⟩:=propext Iff.rfl
theorem M6  {n x}{t}:eh P (.zq n x) S aF t=aF (.iface n (bb S x)):=propext Iff.rfl
theorem M7  {x}{t}:eh P (.zt x) S aF t=vC (bb S x) aF ⟨⟩:=propext Iff.rfl
theorem M8  {x}{t}:mW (.ld x) S w aF t=pr (bb S x) w aF ⟨⟩:=propext Iff.rfl
theorem M9  {n x}{t}:mW (.jk n x) S w aF t=q4 n (bb S x) w aF ⟨⟩:=propext Iff.rfl
theorem Na  {d z ok m k}{t}:mW (.lD d z ok m k) S w aF t=xP d z ok (bb S m) (bb S k) w aF ⟨⟩:=propext Iff.rfl
theorem Nb  {x}{t}:mW (.wZ x) S w aF t=D1 (bb S x) w aF ⟨⟩:=propext Iff.rfl
theorem Nc  {n x}{t}:hv P (.box n x) S w K t=vA n (bb S x).cells w K ⟨⟩:=propext Iff.rfl
theorem Nd  {n z}{t}:hv P (.new n z) S w K t=vA n z.cells w K ⟨⟩:=propext Iff.rfl
theorem Nf  {x v}{t}:hv P (.st x v) S w K t=q7 (bb S x) (bb S v) w (K undef) ⟨⟩:=propext Iff.rfl
theorem Ng  {n x v}{t}:hv P (.qW n x v) S w K t=Ap n (bb S x) (bb S v) w (K undef) ⟨⟩:=propext Iff.rfl
theorem Nh  {t}:hv P .pa S w K t=D6 w K ⟨⟩:=propext Iff.rfl
theorem Ni  {e n b z l c}{t}:hv P (.va e n b z l c) S w K t=Af e n b z (bb S l) (bb S c) w K ⟨⟩:=propext Iff.rfl
theorem Nj  {e l n z db}{t}:hv P (.cV e l n z db) S w K t=zW S e l n z db w K ⟨⟩:=propext Iff.rfl
theorem Nk  {ty e n b s x}{t}:hv P (.app ty e n b s x) S w K t=ki P ty e n b (bb S s) (bb S x) w K ⟨⟩:=propext Iff.rfl
theorem Nl  {d m k v}{t}:hv P (.ig d m k v) S w K t=vz d (bb S m) (bb S k) (bb S v) w (K undef) ⟨⟩:=propext Iff.rfl
theorem Nn  {x}{t}:hv P (.vi x) S w K t=Eb (bb S x) w K ⟨⟩:=propext Iff.rfl
theorem No  {x}{t}:hv P (.vd x) S w K t=D8 (bb S x) w K ⟨⟩:=propext Iff.rfl
theorem Nr  {op ty}{t}:hv P (.raw op ty) S w K t=tZ P op ty S w K ⟨⟩:=propext Iff.rfl
theorem Ns  {f l}{t}:vt P (.fn f l) S w K t=xK P f (l.map (bb S)) w K ⟨⟩:=propext Iff.rfl
theorem Nt  {x l}{t}:vt P (.val x l) S w K t=tO P (bb S x) (l.map (bb S)) w K ⟨⟩:=propext Iff.rfl
theorem Nu  {f l}{t}:vu P (.fn f l) S w K t=xK P f (l.map (bb S)) w K ⟨⟩:=propext Iff.rfl
theorem Nv  {x l}{t}:vu P (.val x l) S w K t=vv P (bb S x) (l.map (bb S)) w K ⟨⟩:=propext Iff.rfl
theorem Nw  {ty cW dd}(k:IntKind)(a b:Int){t}:gx P .lss ty cW dd (.int k a) (.int k b) aF t=aF (.bool (decide (a<b))):=Wy k a b
theorem Nx  {ty cW dd}(k:IntKind)(a b:Int){t}:gx P .leq ty cW dd (.int k a) (.int k b) aF t=aF (.bool (decide (a≤b))):=Wx k a b
theorem Ny  {ty cW dd}(k:IntKind)(a b:Int){t}:gx P .gtr ty cW dd (.int k a) (.int k b) aF t=aF (.bool (decide (b<a))):=Ww k a b
theorem Nz  {ty cW dd}(k:IntKind)(a b:Int){t}:gx P .geq ty cW dd (.int k a) (.int k b) aF t=aF (.bool (decide (b≤a))):=Wv k a b
theorem NA  {ty cW dd}(k:IntKind)(a b:Int){t}:gx P .eql ty cW dd (.int k a) (.int k b) aF t=aF (.bool (decide (a=b))):=Wu k a b
theorem NB  {ty cW dd}(k:IntKind)(a b:Int){t}:gx P .neq ty cW dd (.int k a) (.int k b) aF t=aF (.bool (!decide (a=b))):=(WA k a b).trans (by simp)
theorem NC  {ty cW dd}(k:IntKind)(a b:Int){t}:gx P .add ty cW dd (.int k a) (.int k b) aF t=mY k (a+b) aF ⟨⟩:=Wt k a b
theorem ND  {ty cW dd}(k:IntKind)(a b:Int){t}:gx P .sub ty cW dd (.int k a) (.int k b) aF t=mY k (a - b) aF ⟨⟩:=WG k a b
theorem NF  {ty cW dd}(k:IntKind)(a b:Int){t}:gx P .mul ty cW dd (.int k a) (.int k b) aF t=mY k (a*b) aF ⟨⟩:=Wz k a b
theorem NG  {ty cW dd}(a b:ByteArray){t}:gx P .eql ty cW dd (.string a) (.string b) aF t=aF (.bool (decide (a=b))):=WD a b
theorem NH  {ty cW dd}(a b:ByteArray){t}:gx P .neq ty cW dd (.string a) (.string b) aF t=aF (.bool (!decide (a=b))):=(WE a b).trans (by simp)
theorem NI  (b:Bool){t}:vM .not (.bool b) aF t=aF (.bool (!b)):=propext Iff.rfl
theorem NJ  (k:IntKind)(n:Int){t}:vM .neg (.int k n) aF t=mY k (0 - n) aF ⟨⟩:=propext Iff.rfl
theorem NK  (k q:IntKind)(n:Int){t}:z1 k (.int q n) aF t=mY k n aF ⟨⟩:=XF k q n aF
theorem NL  (n:Nat)(a:Addr){t}:z8 n (.pointer (some a)) aF t=aF (.pointer (some (a.add n))):=YG n a aF
theorem NN  (v:Value)(vs:List Value){t}:r9 (.tuple (v :: vs).toArray) 0 aF t=aF v:=Yt v vs aF
theorem Am  (v u:Value)(vs:List Value){t}:r9 (.tuple (v :: u :: vs).toArray) 1 aF t=aF u:=Yu v u vs aF
theorem An  (v u x:Value)(vs:List Value){t}:r9 (.tuple (v :: u :: x :: vs).toArray) 2 aF t=aF x:=Yv v u x vs aF
theorem NO  (s:ByteArray){t}:Ac (.string s) aF t=aF (.int .i64 s.size):=acI s aF
theorem NP  (a:Option Addr)(n c:Nat){t}:Ab (.slice a n c) aF t=aF (.int .i64 n):=acG a n c aF
theorem NQ  (a:Option Addr)(n c:Nat){t}:zY (.slice a n c) aF t=aF (.int .i64 c):=WW a n c aF
theorem NR  (k q:IntKind)(a b:Int){t}:Ad (.int k a) (.int q b) aF t=aF (.int k (max a b)):=acU k q a b aF
theorem NS  (k q:IntKind)(a b:Int){t}:Ae (.int k a) (.int q b) aF t=aF (.int k (min a b)):=acZ k q a b aF
theorem NT  (m n:Nat)(cs:Array Value){t}:Aa m n (.agg cs) aF t=aF (.agg (cs.extract m (m+n))):=YP m n cs aF
theorem NU  (a:Addr){t}:vC (.pointer (some a)) aF t=aF (.pointer (some a)):=propext Iff.rfl
theorem N0  (f:FuncId)(a b:Array Value){t}:vC (.func (.func f) a b) aF t=aF (.func (.func f) a b):=propext Iff.rfl
theorem N1  {t}:hL [] S w km t=km []:=propext Iff.rfl
theorem N2  {n r}{t}:hL (.tmp n :: r) S w km t=hL r S w (fun vs=>km (S n :: vs)) ⟨⟩:=propext Iff.rfl
theorem N3  {n r}{t}:hL (.cell n :: r) S w km t=pr (S n) w (fun v=>hL r S w (fun vs=>km (v :: vs)) ⟨⟩) ⟨⟩:=propext Iff.rfl
theorem N4  {m n r}{t}:hL (.hN m n :: r) S w km t=q4 m (S n) w (fun v=>hL r S w (fun vs=>km (v :: vs)) ⟨⟩) ⟨⟩:=propext Iff.rfl
theorem N5{S:Fr}{d:Nat}{v:Value}:put S (some d) v=b7 S d v:=eq_of_heq (heq_of_eq (hn S d v))
theorem N6{S:Fr}{v:Value}:put S none v=S:=eq_of_heq (heq_of_eq (Tx S v))
theorem N7{S:Fr}{d t:Nat}{v:Value}:b7 S d v t=if t=d then v else S t:=eq_of_heq (heq_of_eq (cd S d t v))
theorem N8{S:Fr}{t:Nat}:bb S (.tmp t)=S t:=eq_of_heq (heq_of_eq (fv S t))
theorem N9{S:Fr}{v:Value}:bb S (.const v)=v:=eq_of_heq (heq_of_eq (nO S v))
theorem Ob{S:Fr}{g:Nat}:bb S (.global g) = .pointer (some ⟨g,0,none⟩):=eq_of_heq (heq_of_eq (Yh S g))
theorem Oc{S:Fr}{f:Nat}:bb S (.func f) = .func (.func f) #[] #[]:=eq_of_heq (heq_of_eq (sy S f))
theorem Od{k:Nat}:hd [] k=fun _=>undef:=eq_of_heq (heq_of_eq (ln k))
theorem Oe{v:Value}{vs:List Value}{k:Nat}:hd (v :: vs) k=b7 (hd vs (k+1)) k v:=eq_of_heq (heq_of_eq (iC v vs k))
theorem Of  : fY [] = .tuple #[]:=eq_of_heq (heq_of_eq (age ..))
theorem Og  (v:Value):fY [v]=v:=eq_of_heq (heq_of_eq (agf ..))
theorem Oh  (v u:Value):fY [v,u] = .tuple #[v,u]:=eq_of_heq (heq_of_eq (agh ..))
theorem Oi  (v u x:Value):fY [v,u,x] = .tuple #[v,u,x]:=eq_of_heq (heq_of_eq (agi ..))
theorem Oj  (a:Option Addr)(n c:Nat):(Value.slice a n c).cells=#[.slice a n c]:=eq_of_heq (heq_of_eq (Xg ..))
theorem Ol  (k:IntKind)(n:Int):(Value.int k n).cells=#[.int k n]:=eq_of_heq (heq_of_eq (Xb ..))
theorem Om  (b:Bool):(Value.bool b).cells=#[.bool b]:=eq_of_heq (heq_of_eq (W8 ..))
theorem On  (s:ByteArray):(Value.string s).cells=#[.string s]:=eq_of_heq (heq_of_eq (Xh ..))
theorem Oo  (a:Option Addr):(Value.pointer a).cells=#[.pointer a]:=eq_of_heq (heq_of_eq (Xf ..))
theorem Oq  (a:Option Nat):(Value.map a).cells=#[.map a]:=eq_of_heq (heq_of_eq (Xc ..))
theorem Ot  (f:Fn)(a b:Array Value):(Value.func f a b).cells=#[.func f a b]:=eq_of_heq (heq_of_eq (Xa ..))
theorem Ou  (cs:Array Value):(Value.agg cs).cells=cs:=eq_of_heq (heq_of_eq (W7 ..))
theorem Ov{α β:Type}{f:α→β}{a:α}{l:List α}:(a :: l).map f=f a :: l.map f:=eq_of_heq (heq_of_eq (List.map_cons))
theorem Ow{α β:Type}{f:α→β}:([]:List α).map f=[]:=eq_of_heq (heq_of_eq (List.map_nil))
theorem Ox  : (!true)=false:=eq_of_heq (heq_of_eq (Bool.not_true))
theorem Oy  : (!false)=true:=eq_of_heq (heq_of_eq (Bool.not_false))
theorem Oz{h:Decidable True}:decide True=true:=eq_of_heq (heq_of_eq (decide_true h))
theorem js{h:Decidable False}:decide False=false:=eq_of_heq (heq_of_eq (decide_false h))
theorem ft{α:Type}{a b:α}{h:Decidable True}:(if True then a else b)=a:=eq_of_heq (heq_of_eq (if_true a b))
theorem mq{α:Type}{a b:α}{h:Decidable False}:(if False then a else b)=b:=eq_of_heq (heq_of_eq (if_false a b))
end
theorem cJ:((((((((∀{P:Program} {Q:dN→Fr→World→Prop} {S:Fr} {w:World}  {t},dT P .skip Q S w t=Q .normal S w) ∧
(∀{P:Program} {Q:dN→Fr→World→Prop} {S:Fr} {w:World}  {bY} {t},dT P (.bJ bY) Q S w t=iX P bY S w (fun S w=>Q .normal S w) ⟨⟩)) ∧
((∀{P:Program} {Q:dN→Fr→World→Prop} {S:Fr} {w:World}  {bY} {t},dT P (.dR bY) Q S w t=k5 P bY S w (fun S => ∀w',Ext w w'→Q .normal S w') ⟨⟩) ∧
((∀{P:Program} {Q:dN→Fr→World→Prop} {S:Fr} {w:World}  {x} {t},dT P (.dS x) Q S w t=(∀av,Ext w av→fh P av x S av (fun S w=>Q .normal S w) ⟨⟩)) ∧
(∀{P:Program} {cI:Fr→World→Prop} {S:Fr} {w:World}  {w0} {t},fh P w0 .done S w cI t=cI S w)))) ∧
(((∀{P:Program} {cI:Fr→World→Prop} {S:Fr} {w:World}  {w0} {t},fh P w0 .nil S w cI t=True) ∧
(∀{P:Program} {cI:Fr→World→Prop} {S:Fr} {w:World}  {w0 s r} {t},fh P w0 (.take s r) S w cI t=xz P w0 s S (fun S=>fh P w0 r S w cI ⟨⟩) ⟨⟩)) ∧
((∀{P:Program} {cI:Fr→World→Prop} {S:Fr} {w:World}  {w0 s r} {t},fh P w0 (.alt s r .nil) S w cI t=qj P w0 s S w (fun S w=>fh P w0 r S w cI ⟨⟩) ⟨⟩) ∧
((∀{P:Program} {cI:Fr→World→Prop} {S:Fr} {w:World}  {w0 s r gX ho jH} {t},fh P w0 (.alt s r (.alt gX ho jH)) S w cI t=(qj P w0 s S w (fun S w=>fh P w0 r S w cI ⟨⟩) ⟨⟩∧fh P w0 (.alt gX ho jH) S w cI ⟨⟩)) ∧
(∀{P:Program} {cI:Fr→World→Prop} {S:Fr} {w:World}  {w0 s r gX ho jH} {t},fh P w0 (.alt s r (.b0 gX ho jH)) S w cI t=(qj P w0 s S w (fun S w=>fh P w0 r S w cI ⟨⟩) ⟨⟩∧fh P w0 (.b0 gX ho jH) S w cI ⟨⟩)))))) ∧
((((∀{P:Program} {cI:Fr→World→Prop} {S:Fr} {w:World}  {w0 s r} {t},fh P w0 (.b0 s r .nil) S w cI t=qt P s S w (fun S w=>fh P w0 r S w cI ⟨⟩) ⟨⟩) ∧
(∀{P:Program} {cI:Fr→World→Prop} {S:Fr} {w:World}  {w0 s r gX ho jH} {t},fh P w0 (.b0 s r (.alt gX ho jH)) S w cI t=(qt P s S w (fun S w=>fh P w0 r S w cI ⟨⟩) ⟨⟩∧fh P w0 (.alt gX ho jH) S w cI ⟨⟩))) ∧
((∀{P:Program} {cI:Fr→World→Prop} {S:Fr} {w:World}  {w0 s r gX ho jH} {t},fh P w0 (.b0 s r (.b0 gX ho jH)) S w cI t=(qt P s S w (fun S w=>fh P w0 r S w cI ⟨⟩) ⟨⟩∧fh P w0 (.b0 gX ho jH) S w cI ⟨⟩)) ∧
((∀{P:Program} {cI:Fr→World→Prop} {S:Fr} {w:World}  {d i} {t},qt P ⟨d,none,i⟩ S w cI t=lP P i S w (fun v w'=>cI (put S d v) w') ⟨⟩) ∧
(∀{P:Program} {cI:Fr→World→Prop} {S:Fr} {w:World}  {d j b i} {t},qt P ⟨d,some (j,b),i⟩ S w cI t=iK (S j) b (lP P i (b7 S j (.bool b)) w (fun v w'=>cI (put (b7 S j (.bool b)) d v) w') ⟨⟩) (cI (put (b7 S j (.bool (!b))) d undef) w) (cI (put S d undef) w) ⟨⟩)))) ∧
(((∀{P:Program} {gy:Fr→Prop} {S:Fr}  {w0 d i} {t},xz P w0 ⟨d,none,i⟩ S gy t=mV P i S w0 (fun v=>gy (put S d v)) ⟨⟩) ∧
((∀{P:Program} {gy:Fr→Prop} {S:Fr}  {w0 d j b i} {t},xz P w0 ⟨d,some (j,b),i⟩ S gy t=iK (S j) b (mV P i (b7 S j (.bool b)) w0 (fun v=>gy (put (b7 S j (.bool b)) d v)) ⟨⟩) (gy (put (b7 S j (.bool (!b))) d undef)) (gy (put S d undef)) ⟨⟩) ∧
(∀{P:Program} {cI:Fr→World→Prop} {S:Fr} {w:World}  {w0 d i} {t},qj P w0 ⟨d,none,i⟩ S w cI t=lP P i S w (fun v w'=>Ext w0 w'∧cI (put S d v) w') ⟨⟩))) ∧
((∀{P:Program} {cI:Fr→World→Prop} {S:Fr} {w:World}  {w0 d j b i} {t},qj P w0 ⟨d,some (j,b),i⟩ S w cI t=iK (S j) b (lP P i (b7 S j (.bool b)) w (fun v w'=>Ext w0 w'∧cI (put (b7 S j (.bool b)) d v) w') ⟨⟩) (cI (put (b7 S j (.bool (!b))) d undef) w) (cI (put S d undef) w) ⟨⟩) ∧
((∀{P:Program} {Q:dN→Fr→World→Prop} {S:Fr} {w:World}  {c x y} {t},dT P (.cond c x y) Q S w t=jn (bb S c) (dT P x Q S w ⟨⟩) (dT P y Q S w ⟨⟩) ⟨⟩) ∧
(∀{P:Program} {Q:dN→Fr→World→Prop} {S:Fr} {w:World}  {id b} {t},dT P (.aW id b) Q S w t=dT P b (oT id Q ⟨⟩) S w ⟨⟩)))))) ∧
(((((∀{P:Program} {Q:dN→Fr→World→Prop} {S:Fr} {w:World}  {id} {t},dT P (.exit id) Q S w t=Q (.exit id) S w) ∧
(∀{P:Program} {Q:dN→Fr→World→Prop} {S:Fr} {w:World}  {t},dT P .ret Q S w t=Q .ret S w)) ∧
((∀{P:Program} {Q:dN→Fr→World→Prop} {S:Fr} {w:World}  {bY d f l} {t},dT P (.eQ bY d f l) Q S w t=iX P bY S w (fun S w=>Ed P f (l.map (bb S)) w (fun v w'=>Q .normal (put S d v) w') (fun c w'=>Q (.fK c) S w') ⟨⟩) ⟨⟩) ∧
((∀{P:Program} {Q:dN→Fr→World→Prop} {S:Fr} {w:World}  {bY x} {t},dT P (.pZ bY x) Q S w t=iX P bY S w (fun S w=>Ak (bb S x) (fun c=>Q (.fK c) S w) ⟨⟩) ⟨⟩) ∧
(∀{x0:List PanicEntry→Prop}  {i:TypeId} {v:Value} {t},Ak (.iface i v) x0 t=x0 [{ v:=.iface i v,recovered:=false }])))) ∧
(((∀{Q:dN→Fr→World→Prop} {N:Fr→World→Prop} {S:Fr} {w:World}  {c} {t},h0 N Q t (.fK c) S w=Q (.fK c) S w) ∧
((∀{Q:dN→Fr→World→Prop} {S:Fr} {w:World} {i} {c} {t},oT i Q t (.fK c) S w=Q (.fK c) S w) ∧
(∀{Z:List PanicEntry→World→Prop} {R:Value→World→Prop} {S:Fr} {w:World} {r} {t},uu r R Z t .normal S w=hL r S w (fun vs=>R (fY vs) w) ⟨⟩))) ∧
((∀{Z:List PanicEntry→World→Prop} {R:Value→World→Prop} {S:Fr} {w:World} {r} {t},uu r R Z t .ret S w=hL r S w (fun vs=>R (fY vs) w) ⟨⟩) ∧
((∀{Z:List PanicEntry→World→Prop} {R:Value→World→Prop} {S:Fr} {w:World} {r} {c} {t},uu r R Z t (.fK c) S w=Z c w) ∧
(∀{P:Program} {Q:dN→Fr→World→Prop} {S:Fr} {w:World}  {b} {t},dT P (.loop b) Q S w t=vy P b Q S w ⟨⟩))))) ∧
((((∀{Q:dN→Fr→World→Prop} {N:Fr→World→Prop} {S:Fr} {w:World}  {t},h0 N Q t .normal S w=N S w) ∧
(∀{Q:dN→Fr→World→Prop} {N:Fr→World→Prop} {S:Fr} {w:World}  {i} {t},h0 N Q t (.exit i) S w=Q (.exit i) S w)) ∧
((∀{Q:dN→Fr→World→Prop} {N:Fr→World→Prop} {S:Fr} {w:World}  {t},h0 N Q t .ret S w=Q .ret S w) ∧
((∀{Q:dN→Fr→World→Prop} {S:Fr} {w:World} {i} {t},oT i Q t .normal S w=Q .normal S w) ∧
(∀{Q:dN→Fr→World→Prop} {S:Fr} {w:World} {i} {t},oT i Q t .ret S w=Q .ret S w)))) ∧
(((∀{Q:dN→Fr→World→Prop} {S:Fr} {w:World} {i} {j} {t},oT i Q t (.exit j) S w=if j=i then Q .normal S w else Q (.exit j) S w) ∧
((∀{R:Value→World→Prop} {S:Fr} {w:World} {r} {t},sx r R t .normal S w=hL r S w (fun vs=>R (fY vs) w) ⟨⟩) ∧
(∀{R:Value→World→Prop} {S:Fr} {w:World} {r} {t},sx r R t .ret S w=hL r S w (fun vs=>R (fY vs) w) ⟨⟩))) ∧
((∀{P:Program} {cI:Fr→World→Prop} {S:Fr} {w:World}  {t},iX P [] S w cI t=cI S w) ∧
((∀{P:Program} {cI:Fr→World→Prop} {S:Fr} {w:World}  {d i r} {t},iX P (⟨d,none,i⟩ :: r) S w cI t=oD P i S w (fun v w'=>iX P r (put S d v) w' cI ⟨⟩) ⟨⟩) ∧
(∀{P:Program} {cI:Fr→World→Prop} {S:Fr} {w:World}  {d j b i r} {t},iX P (⟨d,some (j,b),i⟩ :: r) S w cI t=iK (S j) b (oD P i (b7 S j (.bool b)) w (fun v w'=>iX P r (put (b7 S j (.bool b)) d v) w' cI ⟨⟩) ⟨⟩) (iX P r (put (b7 S j (.bool (!b))) d undef) w cI ⟨⟩) (iX P r (put S d undef) w cI ⟨⟩) ⟨⟩))))))) ∧
((((((∀{P:Program} {gy:Fr→Prop} {S:Fr} {w:World}  {t},k5 P [] S w gy t=gy S) ∧
(∀{P:Program} {gy:Fr→Prop} {S:Fr} {w:World}  {d i r} {t},k5 P (⟨d,none,i⟩ :: r) S w gy t=mV P i S w (fun v=>k5 P r (put S d v) w gy ⟨⟩) ⟨⟩)) ∧
((∀{P:Program} {gy:Fr→Prop} {S:Fr} {w:World}  {d j b i r} {t},k5 P (⟨d,some (j,b),i⟩ :: r) S w gy t=iK (S j) b (mV P i (b7 S j (.bool b)) w (fun v=>k5 P r (put (b7 S j (.bool b)) d v) w gy ⟨⟩) ⟨⟩) (k5 P r (put (b7 S j (.bool (!b))) d undef) w gy ⟨⟩) (k5 P r (put S d undef) w gy ⟨⟩) ⟨⟩) ∧
((∀{P:Program} {K:Value→World→Prop} {S:Fr} {w:World}  {i} {t},lP P (.p i) S w K t=eh P i S (fun v=>K v w) ⟨⟩) ∧
(∀{P:Program} {K:Value→World→Prop} {S:Fr} {w:World}  {i} {t},lP P (.r i) S w K t=mW i S w (fun v=>K v w) ⟨⟩)))) ∧
(((∀{P:Program} {K:Value→World→Prop} {S:Fr} {w:World}  {i} {t},lP P (.e i) S w K t=hv P i S w K ⟨⟩) ∧
(∀{P:Program} {K:Value→World→Prop} {S:Fr} {w:World}  {i} {t},lP P (.c i) S w K t=vt P i S w K ⟨⟩)) ∧
((∀{P:Program} {K:Value→World→Prop} {S:Fr} {w:World}  {i} {t},oD P (.p i) S w K t=eh P i S (fun v=>K v w) ⟨⟩) ∧
((∀{P:Program} {K:Value→World→Prop} {S:Fr} {w:World}  {i} {t},oD P (.r i) S w K t=mW i S w (fun v=>K v w) ⟨⟩) ∧
(∀{P:Program} {K:Value→World→Prop} {S:Fr} {w:World}  {i} {t},oD P (.e i) S w K t=hv P i S w K ⟨⟩))))) ∧
((((∀{P:Program} {K:Value→World→Prop} {S:Fr} {w:World}  {i} {t},oD P (.c i) S w K t=vu P i S w K ⟨⟩) ∧
(∀{P:Program} {aF:Value→Prop} {S:Fr} {w:World}  {i} {t},mV P (.p i) S w aF t=eh P i S aF ⟨⟩)) ∧
((∀{P:Program} {aF:Value→Prop} {S:Fr} {w:World}  {i} {t},mV P (.r i) S w aF t=mW i S w aF ⟨⟩) ∧
((∀{P:Program} {aF:Value→Prop} {S:Fr} {w:World}  {i} {t},mV P (.c i) S w aF t=vE P i S w aF ⟨⟩) ∧
(∀{P:Program} {aF:Value→Prop} {S:Fr} {w:World}  {f l} {t},vE P (.fn f l) S w aF t=Ea P f (l.map (bb S)) w aF ⟨⟩)))) ∧
(((∀{P:Program} {aF:Value→Prop} {S:Fr} {w:World}  {x l} {t},vE P (.val x l) S w aF t=Al P (bb S x) (l.map (bb S)) w aF ⟨⟩) ∧
((∀{A:Prop} {B:Prop} {C:Prop}  {t},iK (.bool true) true A B C t=A) ∧
(∀{A:Prop} {B:Prop} {C:Prop}  {t},iK (.bool true) false A B C t=B))) ∧
((∀{A:Prop} {B:Prop} {C:Prop}  {t},iK (.bool false) true A B C t=B) ∧
((∀{A:Prop} {B:Prop} {C:Prop}  {t},iK (.bool false) false A B C t=A) ∧
(∀{A:Prop} {B:Prop} {C:Prop}  (u:Bool) {t},iK undef u A B C t=C)))))) ∧
(((((∀{A:Prop} {B:Prop} {C:Prop}  (u:Bool) {t},iK (.bool u) true A B C t=jn (.bool u) A B ⟨⟩) ∧
(∀{A:Prop} {B:Prop} {C:Prop}  (u:Bool) {t},iK (.bool u) false A B C t=jn (.bool u) B A ⟨⟩)) ∧
((∀{A:Prop} {B:Prop}  {t},jn (.bool true) A B t=A) ∧
((∀{A:Prop} {B:Prop}  {t},jn (.bool false) A B t=B) ∧
(∀{A:Prop} {B:Prop}  (u:Bool) {t},jn (.bool (!u)) A B t=jn (.bool u) B A ⟨⟩)))) ∧
(((∀{P:Program} {aF:Value→Prop} {S:Fr}  {x} {t},eh P (.pb x) S aF t=aF (bb S x)) ∧
((∀{P:Program} {aF:Value→Prop} {S:Fr}  {c x y} {t},eh P (.pick c x y) S aF t=jn (bb S c) (aF (bb S x)) (aF (bb S y)) ⟨⟩) ∧
(∀{P:Program} {aF:Value→Prop} {S:Fr}  {op ty x y} {t},eh P (.bin op ty x y) S aF t=gx P op ty x y (bb S x) (bb S y) aF ⟨⟩))) ∧
((∀{P:Program} {aF:Value→Prop} {S:Fr}  {op x} {t},eh P (.un op x) S aF t=vM op (bb S x) aF ⟨⟩) ∧
((∀{P:Program} {aF:Value→Prop} {S:Fr}  {k x} {t},eh P (.v7 k x) S aF t=z1 k (bb S x) aF ⟨⟩) ∧
(∀{P:Program} {aF:Value→Prop} {S:Fr}  {n x} {t},eh P (.iB n x) S aF t=z8 n (bb S x) aF ⟨⟩))))) ∧
((((∀{P:Program} {aF:Value→Prop} {S:Fr}  {n x y} {t},eh P (.hE n x y) S aF t=xO n (bb S x) (bb S y) aF ⟨⟩) ∧
(∀{P:Program} {aF:Value→Prop} {S:Fr}  {m n x y} {t},eh P (.y0 m n x y) S aF t=DT m n (bb S x) (bb S y) aF ⟨⟩)) ∧
((∀{P:Program} {aF:Value→Prop} {S:Fr}  {x y} {t},eh P (.kJ x y) S aF t=DW (bb S x) (bb S y) aF ⟨⟩) ∧
((∀{P:Program} {aF:Value→Prop} {S:Fr}  {n x y} {t},eh P (.uX n x y) S aF t=DV n (bb S x) (bb S y) aF ⟨⟩) ∧
(∀{P:Program} {aF:Value→Prop} {S:Fr}  {n x} {t},eh P (.kx n x) S aF t=DR n (bb S x) aF ⟨⟩)))) ∧
(((∀{P:Program} {aF:Value→Prop} {S:Fr}  {n m x} {t},eh P (.A7 n m x) S aF t=Aa n m (bb S x) aF ⟨⟩) ∧
((∀{P:Program} {aF:Value→Prop} {S:Fr}  {z pl db} {t},eh P (.cF z pl db) S aF t=DK S z pl db aF ⟨⟩) ∧
(∀{P:Program} {aF:Value→Prop} {S:Fr}  {f a b} {t},eh P (.kc f a b) S aF t=aF (.func (.func f) (a.map (bb S)).toArray (b.map (bb S)).toArray)))) ∧
((∀{P:Program} {aF:Value→Prop} {S:Fr}  {n x aZ ad mx} {t},eh P (.iW n x aZ ad mx) S aF t=sg S n (bb S x) aZ ad mx aF ⟨⟩) ∧
((∀{P:Program} {aF:Value→Prop} {S:Fr}  {x aZ ad} {t},eh P (.vm x aZ ad) S aF t=Ec S (bb S x) aZ ad aF ⟨⟩) ∧
(∀{P:Program} {aF:Value→Prop} {S:Fr}  {x n} {t},eh P (.ext x n) S aF t=r9 (bb S x) n aF ⟨⟩)))))))) ∧
(((((((∀{P:Program} {aF:Value→Prop} {S:Fr}  {x} {t},eh P (.mK x) S aF t=Ac (bb S x) aF ⟨⟩) ∧
(∀{P:Program} {aF:Value→Prop} {S:Fr}  {x} {t},eh P (.y8 x) S aF t=Ab (bb S x) aF ⟨⟩)) ∧
((∀{P:Program} {aF:Value→Prop} {S:Fr}  {x} {t},eh P (.AF x) S aF t=zY (bb S x) aF ⟨⟩) ∧
((∀{P:Program} {aF:Value→Prop} {S:Fr}  {v} {t},eh P (.B8 v) S aF t=aF v) ∧
(∀{P:Program} {aF:Value→Prop} {S:Fr}  {x y} {t},eh P (.rR x y) S aF t=Ad (bb S x) (bb S y) aF ⟨⟩)))) ∧
(((∀{P:Program} {aF:Value→Prop} {S:Fr}  {x y} {t},eh P (.tn x y) S aF t=Ae (bb S x) (bb S y) aF ⟨⟩) ∧
(∀{P:Program} {aF:Value→Prop} {S:Fr}  {n x} {t},eh P (.zq n x) S aF t=aF (.iface n (bb S x)))) ∧
((∀{P:Program} {aF:Value→Prop} {S:Fr}  {x} {t},eh P (.zt x) S aF t=vC (bb S x) aF ⟨⟩) ∧
((∀{aF:Value→Prop} {S:Fr} {w:World}  {x} {t},mW (.ld x) S w aF t=pr (bb S x) w aF ⟨⟩) ∧
(∀{aF:Value→Prop} {S:Fr} {w:World}  {n x} {t},mW (.jk n x) S w aF t=q4 n (bb S x) w aF ⟨⟩))))) ∧
((((∀{aF:Value→Prop} {S:Fr} {w:World}  {d z ok m k} {t},mW (.lD d z ok m k) S w aF t=xP d z ok (bb S m) (bb S k) w aF ⟨⟩) ∧
(∀{aF:Value→Prop} {S:Fr} {w:World}  {x} {t},mW (.wZ x) S w aF t=D1 (bb S x) w aF ⟨⟩)) ∧
((∀{P:Program} {K:Value→World→Prop} {S:Fr} {w:World}  {n x} {t},hv P (.box n x) S w K t=vA n (bb S x).cells w K ⟨⟩) ∧
((∀{P:Program} {K:Value→World→Prop} {S:Fr} {w:World}  {n z} {t},hv P (.new n z) S w K t=vA n z.cells w K ⟨⟩) ∧
(∀{P:Program} {K:Value→World→Prop} {S:Fr} {w:World}  {x v} {t},hv P (.st x v) S w K t=q7 (bb S x) (bb S v) w (K undef) ⟨⟩)))) ∧
(((∀{P:Program} {K:Value→World→Prop} {S:Fr} {w:World}  {n x v} {t},hv P (.qW n x v) S w K t=Ap n (bb S x) (bb S v) w (K undef) ⟨⟩) ∧
((∀{P:Program} {K:Value→World→Prop} {S:Fr} {w:World}  {t},hv P .pa S w K t=D6 w K ⟨⟩) ∧
(∀{P:Program} {K:Value→World→Prop} {S:Fr} {w:World}  {e n b z l c} {t},hv P (.va e n b z l c) S w K t=Af e n b z (bb S l) (bb S c) w K ⟨⟩))) ∧
((∀{P:Program} {K:Value→World→Prop} {S:Fr} {w:World}  {e l n z db} {t},hv P (.cV e l n z db) S w K t=zW S e l n z db w K ⟨⟩) ∧
((∀{P:Program} {K:Value→World→Prop} {S:Fr} {w:World}  {ty e n b s x} {t},hv P (.app ty e n b s x) S w K t=ki P ty e n b (bb S s) (bb S x) w K ⟨⟩) ∧
(∀{P:Program} {K:Value→World→Prop} {S:Fr} {w:World}  {d m k v} {t},hv P (.ig d m k v) S w K t=vz d (bb S m) (bb S k) (bb S v) w (K undef) ⟨⟩)))))) ∧
(((((∀{P:Program} {K:Value→World→Prop} {S:Fr} {w:World}  {x} {t},hv P (.vi x) S w K t=Eb (bb S x) w K ⟨⟩) ∧
(∀{P:Program} {K:Value→World→Prop} {S:Fr} {w:World}  {x} {t},hv P (.vd x) S w K t=D8 (bb S x) w K ⟨⟩)) ∧
((∀{P:Program} {K:Value→World→Prop} {S:Fr} {w:World}  {op ty} {t},hv P (.raw op ty) S w K t=tZ P op ty S w K ⟨⟩) ∧
((∀{P:Program} {K:Value→World→Prop} {S:Fr} {w:World}  {f l} {t},vt P (.fn f l) S w K t=xK P f (l.map (bb S)) w K ⟨⟩) ∧
(∀{P:Program} {K:Value→World→Prop} {S:Fr} {w:World}  {x l} {t},vt P (.val x l) S w K t=tO P (bb S x) (l.map (bb S)) w K ⟨⟩)))) ∧
(((∀{P:Program} {K:Value→World→Prop} {S:Fr} {w:World}  {f l} {t},vu P (.fn f l) S w K t=xK P f (l.map (bb S)) w K ⟨⟩) ∧
((∀{P:Program} {K:Value→World→Prop} {S:Fr} {w:World}  {x l} {t},vu P (.val x l) S w K t=vv P (bb S x) (l.map (bb S)) w K ⟨⟩) ∧
(∀{P:Program} {aF:Value→Prop}  {ty cW dd} (k:IntKind) (a b:Int) {t},gx P .lss ty cW dd (.int k a) (.int k b) aF t=aF (.bool (decide (a<b)))))) ∧
((∀{P:Program} {aF:Value→Prop}  {ty cW dd} (k:IntKind) (a b:Int) {t},gx P .leq ty cW dd (.int k a) (.int k b) aF t=aF (.bool (decide (a≤b)))) ∧
((∀{P:Program} {aF:Value→Prop}  {ty cW dd} (k:IntKind) (a b:Int) {t},gx P .gtr ty cW dd (.int k a) (.int k b) aF t=aF (.bool (decide (b<a)))) ∧
(∀{P:Program} {aF:Value→Prop}  {ty cW dd} (k:IntKind) (a b:Int) {t},gx P .geq ty cW dd (.int k a) (.int k b) aF t=aF (.bool (decide (b≤a)))))))) ∧
((((∀{P:Program} {aF:Value→Prop}  {ty cW dd} (k:IntKind) (a b:Int) {t},gx P .eql ty cW dd (.int k a) (.int k b) aF t=aF (.bool (decide (a=b)))) ∧
(∀{P:Program} {aF:Value→Prop}  {ty cW dd} (k:IntKind) (a b:Int) {t},gx P .neq ty cW dd (.int k a) (.int k b) aF t=aF (.bool (!decide (a=b))))) ∧
((∀{P:Program} {aF:Value→Prop}  {ty cW dd} (k:IntKind) (a b:Int) {t},gx P .add ty cW dd (.int k a) (.int k b) aF t=mY k (a+b) aF ⟨⟩) ∧
((∀{P:Program} {aF:Value→Prop}  {ty cW dd} (k:IntKind) (a b:Int) {t},gx P .sub ty cW dd (.int k a) (.int k b) aF t=mY k (a - b) aF ⟨⟩) ∧
(∀{P:Program} {aF:Value→Prop}  {ty cW dd} (k:IntKind) (a b:Int) {t},gx P .mul ty cW dd (.int k a) (.int k b) aF t=mY k (a*b) aF ⟨⟩)))) ∧
(((∀{P:Program} {aF:Value→Prop}  {ty cW dd} (a b:ByteArray) {t},gx P .eql ty cW dd (.string a) (.string b) aF t=aF (.bool (decide (a=b)))) ∧
((∀{P:Program} {aF:Value→Prop}  {ty cW dd} (a b:ByteArray) {t},gx P .neq ty cW dd (.string a) (.string b) aF t=aF (.bool (!decide (a=b)))) ∧
(∀{aF:Value→Prop}  (b:Bool) {t},vM .not (.bool b) aF t=aF (.bool (!b))))) ∧
((∀{aF:Value→Prop}  (k:IntKind) (n:Int) {t},vM .neg (.int k n) aF t=mY k (0 - n) aF ⟨⟩) ∧
((∀{aF:Value→Prop}  (k q:IntKind) (n:Int) {t},z1 k (.int q n) aF t=mY k n aF ⟨⟩) ∧
(∀{aF:Value→Prop}  (n:Nat) (a:Addr) {t},z8 n (.pointer (some a)) aF t=aF (.pointer (some (a.add n)))))))))) ∧
((((((∀{aF:Value→Prop}  (v:Value) (vs:List Value) {t},r9 (.tuple (v :: vs).toArray) 0 aF t=aF v) ∧
(∀{aF:Value→Prop}  (v u:Value) (vs:List Value) {t},r9 (.tuple (v :: u :: vs).toArray) 1 aF t=aF u)) ∧
((∀{aF:Value→Prop}  (v u x:Value) (vs:List Value) {t},r9 (.tuple (v :: u :: x :: vs).toArray) 2 aF t=aF x) ∧
((∀{aF:Value→Prop}  (s:ByteArray) {t},Ac (.string s) aF t=aF (.int .i64 s.size)) ∧
(∀{aF:Value→Prop}  (a:Option Addr) (n c:Nat) {t},Ab (.slice a n c) aF t=aF (.int .i64 n))))) ∧
(((∀{aF:Value→Prop}  (a:Option Addr) (n c:Nat) {t},zY (.slice a n c) aF t=aF (.int .i64 c)) ∧
((∀{aF:Value→Prop}  (k q:IntKind) (a b:Int) {t},Ad (.int k a) (.int q b) aF t=aF (.int k (max a b))) ∧
(∀{aF:Value→Prop}  (k q:IntKind) (a b:Int) {t},Ae (.int k a) (.int q b) aF t=aF (.int k (min a b))))) ∧
((∀{aF:Value→Prop}  (m n:Nat) (cs:Array Value) {t},Aa m n (.agg cs) aF t=aF (.agg (cs.extract m (m+n)))) ∧
((∀{aF:Value→Prop}  (a:Addr) {t},vC (.pointer (some a)) aF t=aF (.pointer (some a))) ∧
(∀{aF:Value→Prop}  (f:FuncId) (a b:Array Value) {t},vC (.func (.func f) a b) aF t=aF (.func (.func f) a b)))))) ∧
((((∀{km:List Value→Prop} {S:Fr} {w:World}  {t},hL [] S w km t=km []) ∧
(∀{km:List Value→Prop} {S:Fr} {w:World}  {n r} {t},hL (.tmp n :: r) S w km t=hL r S w (fun vs=>km (S n :: vs)) ⟨⟩)) ∧
((∀{km:List Value→Prop} {S:Fr} {w:World}  {n r} {t},hL (.cell n :: r) S w km t=pr (S n) w (fun v=>hL r S w (fun vs=>km (v :: vs)) ⟨⟩) ⟨⟩) ∧
((∀{km:List Value→Prop} {S:Fr} {w:World}  {m n r} {t},hL (.hN m n :: r) S w km t=q4 m (S n) w (fun v=>hL r S w (fun vs=>km (v :: vs)) ⟨⟩) ⟨⟩) ∧
(∀{S:Fr} {d:Nat} {v:Value},put S (some d) v=b7 S d v)))) ∧
(((∀{S:Fr} {v:Value},put S none v=S) ∧
((∀{S:Fr} {d t:Nat} {v:Value},b7 S d v t=if t=d then v else S t) ∧
(∀{S:Fr} {t:Nat},bb S (.tmp t)=S t))) ∧
((∀{S:Fr} {v:Value},bb S (.const v)=v) ∧
((∀{S:Fr} {g:Nat},bb S (.global g) = .pointer (some ⟨g,0,none⟩)) ∧
(∀{S:Fr} {f:Nat},bb S (.func f) = .func (.func f) #[] #[])))))) ∧
(((((∀{k:Nat},hd [] k=fun _=>undef) ∧
(∀{v:Value} {vs:List Value} {k:Nat},hd (v :: vs) k=b7 (hd vs (k+1)) k v)) ∧
((fY [] = .tuple #[]) ∧
((∀(v:Value),fY [v]=v) ∧
(∀(v u:Value),fY [v,u] = .tuple #[v,u])))) ∧
(((∀(v u x:Value),fY [v,u,x] = .tuple #[v,u,x]) ∧
((∀(a:Option Addr) (n c:Nat),(Value.slice a n c).cells=#[.slice a n c]) ∧
(∀(k:IntKind) (n:Int),(Value.int k n).cells=#[.int k n]))) ∧
((∀(b:Bool),(Value.bool b).cells=#[.bool b]) ∧
((∀(s:ByteArray),(Value.string s).cells=#[.string s]) ∧
(∀(a:Option Addr),(Value.pointer a).cells=#[.pointer a]))))) ∧
((((∀(a:Option Nat),(Value.map a).cells=#[.map a]) ∧
(∀(f:Fn) (a b:Array Value),(Value.func f a b).cells=#[.func f a b])) ∧
((∀(cs:Array Value),(Value.agg cs).cells=cs) ∧
((∀{α β:Type} {f:α→β} {a:α} {l:List α},(a :: l).map f=f a :: l.map f) ∧
(∀{α β:Type} {f:α→β},([]:List α).map f=[])))) ∧
((((!true)=false) ∧
(((!false)=true) ∧
(∀{h:Decidable True},decide True=true))) ∧
((∀{h:Decidable False},decide False=false) ∧
((∀{α:Type} {a b:α} {h:Decidable True},(if True then a else b)=a) ∧
(∀{α:Type} {a b:α} {h:Decidable False},(if False then a else b)=b))))))))) :=
 ⟨⟨⟨⟨⟨⟨⟨(by intros;apply Lz),(by intros;apply LA)⟩,⟨(by intros;apply LB),⟨(by intros;apply LC),(by intros;apply LD)⟩⟩⟩,⟨⟨(by intros;apply LF),(by intros;apply LG)⟩,⟨(by intros;apply LH),⟨(by intros;apply LI),(by intros;apply LJ)⟩⟩⟩⟩,⟨⟨⟨(by intros;apply LL),(by intros;apply LM)⟩,⟨(by intros;apply LN),⟨(by intros;apply LO),(by intros;apply LP)⟩⟩⟩,⟨⟨(by intros;apply LQ),⟨(by intros;apply LR),(by intros;apply LS)⟩⟩,⟨(by intros;apply LU),⟨(by intros;apply LV),(by intros;apply LW)⟩⟩⟩⟩⟩,⟨⟨⟨⟨(by intros;apply LX),(by intros;apply LY)⟩,⟨(by intros;apply LZ),⟨(by intros;apply L0),(by intros;apply L1)⟩⟩⟩,⟨⟨(by intros;apply L2),⟨(by intros;apply L3),(by intros;apply L4)⟩⟩,⟨(by intros;apply qZ),⟨(by intros;apply L7),(by intros;apply L8)⟩⟩⟩⟩,⟨⟨⟨(by intros;apply L9),(by intros;apply Ma)⟩,⟨(by intros;apply Mb),⟨(by intros;apply Mc),(by intros;apply Md)⟩⟩⟩,⟨⟨(by intros;apply Me),⟨(by intros;apply Mf),(by intros;apply Mi)⟩⟩,⟨(by intros;apply h3),⟨(by intros;apply cR),(by intros;apply fF)⟩⟩⟩⟩⟩⟩,⟨⟨⟨⟨⟨(by intros;apply ed),(by intros;apply iq)⟩,⟨(by intros;apply kj),⟨(by intros;apply gI),(by intros;apply jX)⟩⟩⟩,⟨⟨(by intros;apply kk),(by intros;apply Mo)⟩,⟨(by intros;apply Mp),⟨(by intros;apply Mq),(by intros;apply Mr)⟩⟩⟩⟩,⟨⟨⟨(by intros;apply Ms),(by intros;apply Mt)⟩,⟨(by intros;apply Mu),⟨(by intros;apply Mv),(by intros;apply Mw)⟩⟩⟩,⟨⟨(by intros;apply Mx),⟨(by intros;apply My),(by intros;apply H1)⟩⟩,⟨(by intros;apply Mz),⟨(by intros;apply MA),(by intros;apply MB)⟩⟩⟩⟩⟩,⟨⟨⟨⟨(by intros;apply MC),(by intros;apply MD)⟩,⟨(by intros;apply ME),⟨(by intros;apply MF),(by intros;apply MG)⟩⟩⟩,⟨⟨(by intros;apply MH),⟨(by intros;apply MI),(by intros;apply MJ)⟩⟩,⟨(by intros;apply MK),⟨(by intros;apply ML),(by intros;apply MM)⟩⟩⟩⟩,⟨⟨⟨(by intros;apply MN),(by intros;apply MO)⟩,⟨(by intros;apply MP),⟨(by intros;apply MQ),(by intros;apply MR)⟩⟩⟩,⟨⟨(by intros;apply MS),⟨(by intros;apply MT),(by intros;apply MU)⟩⟩,⟨(by intros;apply MV),⟨(by intros;apply MW),(by intros;apply MX)⟩⟩⟩⟩⟩⟩⟩,⟨⟨⟨⟨⟨⟨(by intros;apply MY),(by intros;apply MZ)⟩,⟨(by intros;apply M0),⟨(by intros;apply M4),(by intros;apply M5)⟩⟩⟩,⟨⟨(by intros;apply M2),(by intros;apply M6)⟩,⟨(by intros;apply M7),⟨(by intros;apply M8),(by intros;apply M9)⟩⟩⟩⟩,⟨⟨⟨(by intros;apply Na),(by intros;apply Nb)⟩,⟨(by intros;apply Nc),⟨(by intros;apply Nd),(by intros;apply Nf)⟩⟩⟩,⟨⟨(by intros;apply Ng),⟨(by intros;apply Nh),(by intros;apply Ni)⟩⟩,⟨(by intros;apply Nj),⟨(by intros;apply Nk),(by intros;apply Nl)⟩⟩⟩⟩⟩,⟨⟨⟨⟨(by intros;apply Nn),(by intros;apply No)⟩,⟨(by intros;apply Nr),⟨(by intros;apply Ns),(by intros;apply Nt)⟩⟩⟩,⟨⟨(by intros;apply Nu),⟨(by intros;apply Nv),(by intros;apply Nw)⟩⟩,⟨(by intros;apply Nx),⟨(by intros;apply Ny),(by intros;apply Nz)⟩⟩⟩⟩,⟨⟨⟨(by intros;apply NA),(by intros;apply NB)⟩,⟨(by intros;apply NC),⟨(by intros;apply ND),(by intros;apply NF)⟩⟩⟩,⟨⟨(by intros;apply NG),⟨(by intros;apply NH),(by intros;apply NI)⟩⟩,⟨(by intros;apply NJ),⟨(by intros;apply NK),(by intros;apply NL)⟩⟩⟩⟩⟩⟩,⟨⟨⟨⟨⟨(by intros;apply NN),(by intros;apply Am)⟩,⟨(by intros;apply An),⟨(by intros;apply NO),(by intros;apply NP)⟩⟩⟩,⟨⟨(by intros;apply NQ),⟨(by intros;apply NR),(by intros;apply NS)⟩⟩,⟨(by intros;apply NT),⟨(by intros;apply NU),(by intros;apply N0)⟩⟩⟩⟩,⟨⟨⟨(by intros;apply N1),(by intros;apply N2)⟩,⟨(by intros;apply N3),⟨(by intros;apply N4),(by intros;apply N5)⟩⟩⟩,⟨⟨(by intros;apply N6),⟨(by intros;apply N7),(by intros;apply N8)⟩⟩,⟨(by intros;apply N9),⟨(by intros;apply Ob),(by intros;apply Oc)⟩⟩⟩⟩⟩,⟨⟨⟨⟨(by intros;apply Od),(by intros;apply Oe)⟩,⟨(by intros;apply Of),⟨(by intros;apply Og),(by intros;apply Oh)⟩⟩⟩,⟨⟨(by intros;apply Oi),⟨(by intros;apply Oj),(by intros;apply Ol)⟩⟩,⟨(by intros;apply Om),⟨(by intros;apply On),(by intros;apply Oo)⟩⟩⟩⟩,⟨⟨⟨(by intros;apply Oq),(by intros;apply Ot)⟩,⟨(by intros;apply Ou),⟨(by intros;apply Ov),(by intros;apply Ow)⟩⟩⟩,⟨⟨(by intros;apply Ox),⟨(by intros;apply Oy),(by intros;apply Oz)⟩⟩,⟨(by intros;apply js),⟨(by intros;apply ft),(by intros;apply mq)⟩⟩⟩⟩⟩⟩⟩⟩
section
variable{P:Program}{Q:dN→Fr→World→Prop}{aF:Value→Prop}{K:Value→World→Prop}{hb:World→Prop}{S:Fr}{w:World}{A B:Prop}
theorem K.cond{p:Prop}[Decidable p]{t}(h1:p→A)(U:¬p→B):jn (.bool (decide p)) A B t:=W1 h1 U
theorem K.c4{u:Bool}{t}(h1:u=true→A)(U:u=false→B):jn (.bool u) A B t:=W0 h1 U
theorem K.wrap{n:Int}{t}(h : -9223372036854775808≤n∧n≤9223372036854775807)(hk:aF (.int .i64 n)):mY .i64 n aF t:=wrap_i64 h hk
theorem K.GK{k:IntKind}{n:Int}{t}(h:aF (.int k (k.wrap n))):mY k n aF t:=Vb h
theorem K.agM{k:IntKind}{n:Int}{t}(h:k.wrap n=n)(hk:aF (.int k n)):mY k n aF t:=Vb (by rw[h];exact hk)
theorem K.quo{ty:TypeId}{cW dd:Operand}{k:IntKind}{a b:Int}{t}(aD:b≠0)(h:mY k (a.tdiv b) aF ⟨⟩):gx P .quo ty cW dd (.int k a) (.int k b) aF t:=WB aD h
theorem K.rem{ty:TypeId}{cW dd:Operand}{k:IntKind}{a b:Int}{t}(aD:b≠0)(h:aF (.int k (a.tmod b))):gx P .rem ty cW dd (.int k a) (.int k b) aF t:=WC aD h
theorem K.bin{op:BinOp}{ty:TypeId}{cW dd:Operand}{x y v:Value}{t}(h:∀w,(do eqGuard op ty cW dd x y;binOp op ty x y:Sem Value).run P w = .ok v w)(hk:aF v):gx P op ty cW dd x y aF t:=⟨v,h,hk⟩
theorem K.hE{sz:Nat}{a:Addr}{len cap:Nat}{k:IntKind}{n:Int}{t}(h:0≤n∧n<len)(hk:aF (.pointer (some (a.add (n.toNat*sz))))):xO sz (.slice (some a) len cap) (.int k n) aF t:=abL h hk
theorem K.dk{sz:Nat}{a:Addr}{len cap:Nat}{k:IntKind}{n:Int}{t}(i:Nat)(ad:n=i)(h:i<len)(hk:aF (.pointer (some (a.add (i*sz))))):xO sz (.slice (some a) len cap) (.int k n) aF t:=abK i ad h hk
theorem K.y0{sz:Nat}{a:Addr}{len:Nat}{k:IntKind}{n:Int}{t}(h:0≤n∧n<len)(hk:aF (.pointer (some (a.add (n.toNat*sz))))):DT len sz (.pointer (some a)) (.int k n) aF t:=abJ h hk
theorem K.kJ{s:ByteArray}{k:IntKind}{n:Int}{t}(c:UInt8)(aj:0≤n)(h:s[n.toNat]? = some c)(hk:aF (.int .u8 c.toNat)):DW (.string s) (.int k n) aF t:=abZ c aj h hk
theorem K.uX{len:Nat}{cs:Array Value}{k:IntKind}{n:Int}{t}(v:Value)(aj:0≤n∧n<len)(h:cs[n.toNat]? = some v)(hk:aF v):DV len (.agg cs) (.int k n) aF t:=abY v aj h hk
theorem K.kx{off:Nat}{cs:Array Value}{v:Value}{t}(h:cs[off]? = some v)(hk:aF v):DR off (.agg cs) aF t:=YQ h hk
theorem K.cF{z cs:List Value}{pl:List (Nat×Nat)}{db:List (Nat×Operand)}{t}(h:ew S pl db z=some cs)(hk:aF (.agg cs.toArray)):DK S z pl db aF t:=WJ h hk
theorem K.iW{sz:Nat}{a:Option Addr}{len cap:Nat}{aZ ad mx:Option Operand}{t}(l h m:Nat)(h1:fN S aZ 0=some l)(U:fN S ad len=some h)(ag:fN S mx cap=some m)
  (aK:l≤h∧h≤m∧m≤cap)(bc:mx.isSome=true→ad.isSome=true)(hk:aF (.slice (if m=l then a else a.map (·.add (l*sz))) (h - l) (m - l))):sg S sz (.slice a len cap) aZ ad mx aF t:=afG l h m h1 U ag aK bc hk
theorem K.vm{s:ByteArray}{aZ ad:Option Operand}{t}(l h:Nat)(h1:fN S aZ 0=some l)(U:fN S ad s.size=some h)(aK:l≤h∧h≤s.size)(hk:aF (.string (s.extract l h))):Ec S (.string s) aZ ad aF t:=afE l h h1 U aK hk
theorem K.ld{a:Addr}{c:Value}{t}(h:w.cell? a=some c)(hk:aF c):pr (.pointer (some a)) w aF t:=acC h hk
theorem K.jk{n:Nat}{a:Addr}{cs:List Value}{t}(h:fi w a cs)(aI:cs.length=n)(hk:aF (.agg cs.toArray)):q4 n (.pointer (some a)) w aF t:=acB h aI hk
theorem K.lD{d:TypeDesc}{z:Value}{ok:Bool}{m k:Value}{es:Array MapEntry}{r:Option (Nat×Value)}{t}(h1:ps w m es)(U:Instr.findNow d k es.toList 0=some r)(hk:aF (k4 z ok r)):xP d z ok m k w aF t:=acN h1 U hk
theorem K.wZ{m:Value}{es:Array MapEntry}{t}(h:ps w m es)(hk:aF (.int .i64 es.size)):D1 m w aF t:=acH h hk
theorem K.st{a:Addr}{v kM:Value}{t}(h:w.cell? a=some kM)(aN:w.frozen? a=false)(aS:v.oneCell'=true)(hk:hb (w.setCell a v)):q7 (.pointer (some a)) v w hb t:=UG h aN aS hk
theorem K.qW{n:Nat}{a:Addr}{cs:Array Value}{t}(aI:cs.size=n)(h:∀j,j<n→(∃kM,w.cell? (a.add j)=some kM)∧w.frozen? (a.add j)=false)(h1:∀c∈cs.toList,c.oneCell'=true)(hk:hb (mM w a cs.toList 0)):Ap n (.pointer (some a)) (.agg cs) w hb t:=K5 aI h h1 hk
theorem K.va{e:TypeId}{sz bytes:Nat}{z:Value}{k q:IntKind}{n m:Int}{t}(h:0≤n∧n≤m∧m≤9223372036854775807∧bytes*m≤281474976710656)(hk:K (.slice (some ⟨w.heap.size,0,none⟩) n.toNat m.toNat) (w.alloc (.cells (r5 z.cells (m.toNat*sz)) e))) :
  Af e sz bytes z (.int k n) (.int q m) w K t:=ac3 h hk
theorem K.cV{e:TypeId}{len sz:Nat}{z cs:List Value}{db:List (Nat×Operand)}{t}(h:ew S ((List.range len).map fun i=>(i*sz,sz)) db z=some cs)(hk:K (.slice (some ⟨w.heap.size,0,none⟩) len len) (w.alloc (.cells cs.toArray e))):zW S e len sz z db w K t:=AB h hk
theorem K.app{ty e:TypeId}{sz b:Nat}{s x:Value}{t}(h:NZ P ty e sz b→∃u b8 w',(Builtin.append_ #[ty,ty] u #[s,x]).run P w = .ok b8 w'∧K b8 w'):ki P ty e sz b s x w K t:=h
theorem K.ig{d:TypeDesc}{r:Nat}{k v:Value}{es:Array MapEntry}{c:Nat}{q:Option (Nat×Value)}{t}(h1:w.heap[r]? = some (.map es c))(U:Instr.findNow d k es.toList 0=some q)(hk:hb (e5 w r (pS es c k v q))):vz d (.map (some r)) k v w hb t:=ac9 h1 U hk
theorem K.vd{r pos:Nat}{s:ByteArray}{t}(h:w.heap[r]? = some (.stringIter s pos))(h1:pos<s.size→K (.tuple #[.bool true,.int .i64 pos,.int .i32 (Utf8.decode s pos).1]) (e5 w r (.stringIter s (pos+(Utf8.decode s pos).2))))
  (U:¬pos<s.size→K (.tuple #[.bool false]) w):D8 (.pointer (some ⟨r,0,none⟩)) w K t:=adq h h1 U
theorem K.raw{op:Op}{ty:TypeId}{v:Value}{w':World}{t}(h:(execOp (bb S) ⟨none,op,ty, "",#[],none⟩).run P w = .ok (.value v) w')(hk:K v w'):tZ P op ty S w K t:=⟨v,w',.inl h,hk⟩
theorem K.call{f:FuncId}{args:List Value}{R:Value→World→Prop}{t}(h:bu P f args.toArray w R)(hk:∀v w',R v w'→K v w'):xK P f args w K t:=WV h hk
theorem K.eQ{f:FuncId}{args:List Value}{R:Value→World→Prop}{Z qg:List PanicEntry→World→Prop}{t}(h:pv P f args.toArray w R Z)(hk:∀v w',R v w'→K v w')(bU:∀c w',Z c w'→qg c w'):Ed P f args w K qg t:=pv.mono h hk bU
theorem K.Dn{f:FuncId}{L:lR}(hm:P.follows .mixedOrders=true)(ax:kv P f=some L){args:List Value}{R:Value→World→Prop}{Z:List PanicEntry→World→Prop}(bp:args.length≤L.n)(h:dT P L.code (uu L.res R Z ⟨⟩) (hd args 0) w ⟨⟩):pv P f args.toArray w R Z:=Yc hm ax bp h
theorem K.pC{f:FuncId}{first cap:List Value}{args:List Value}{R:Value→World→Prop}{t}(aN:okF P f=true)(h:bu P f (first++args++cap).toArray w R)(hk:∀v w',R v w'→K v w'):vv P (.func (.func f) first.toArray cap.toArray) args w K t:=Or.inl (Hu aN h hk)
theorem K.WU{f:FuncId}{first cap:List Value}{args:List Value}{R:Value→World→Prop}{t}(aN:okF P f=true)(h:bu P f (first++args++cap).toArray w R)(hk:∀v w',R v w'→K v w'):tO P (.func (.func f) first.toArray cap.toArray) args w K t:=Hu aN h hk
theorem K.yield{l:Nat}{args:List Value}{R:Ending→World→Prop}{t}(h:YieldAt Fence.wide 0 P l args.toArray w R)(hk:∀e w',R e w'→∃v,e = .returned v∧K v w'):vv P (.func (.yield l) #[] #[]) args w K t :=
 Or.inr ⟨l,rfl,let ⟨fn,tmps,assign,body,h1,U⟩:=h; ⟨fn,tmps,assign,body,h1,U.mono hk⟩⟩
theorem K.gn{f:FuncId}{args:List Value}{t}(v:Value)(h:∀w',Ext w w'→bu P f args.toArray w' fun u bZ=>u=v∧Ext w' bZ)(hk:aF v):Ea P f args w aF t:=aej v h hk
theorem K.new{n:TypeId}{cs:Array Value}{t}(hk:∀av b,w.heap.size≤b→Ext w av→av.heap[b]? = some (.cells cs n)→K (.pointer (some ⟨b,0,none⟩)) av):vA n cs w K t :=
 hk _ _ (Nat.le_refl _) ((Ext.refl w).alloc _) (heap_alloc_new w _)
theorem K.vc{t}(hk:∀av b,w.heap.size≤b→Ext w av→av.heap[b]? = some (.map #[] 0)→K (.map (some b)) av):D6 w K t:=hk _ _ (Nat.le_refl _) ((Ext.refl w).alloc _) (heap_alloc_new w _)
theorem K.vi{s:ByteArray}{t}(hk:∀av b,w.heap.size≤b→Ext w av→av.heap[b]? = some (.stringIter s 0)→K (.pointer (some ⟨b,0,none⟩)) av):Eb (.string s) w K t :=
 ⟨s,rfl,hk _ _ (Nat.le_refl _) ((Ext.refl w).alloc _) (heap_alloc_new w _)⟩
theorem K.kt{e:TypeId}{len sz:Nat}{z cs:List Value}{db:List (Nat×Operand)}{t}(h:ew S ((List.range len).map fun i=>(i*sz,sz)) db z=some cs)
  (hk:∀av b,w.heap.size≤b→Ext w av→av.heap[b]? = some (.cells cs.toArray e)→K (.slice (some ⟨b,0,none⟩) len len) av):zW S e len sz z db w K t :=
 AB h (hk _ _ (Nat.le_refl _) ((Ext.refl w).alloc _) (heap_alloc_new w _))
theorem K.st1{b j:Nat}{c:Array Value}{e:TypeId}{v:Value}{t}(aD:w.heap[b]? = some (.cells c e))(aU:j<c.size)(aS:v.oneCell'=true)
  (hk:∀av,dK b w av→av.heap[b]? = some (.cells (c.set j v aU) e)→hb av):q7 (.pointer (some (Addr.add ⟨b,0,none⟩ j))) v w hb t :=
 UG (fp aD (Array.getElem?_eq_getElem aU)) (by rw[add_eq];simp[World.frozen?,aD]) aS (hk _ (by have h:=dK.setCell w (Addr.add ⟨b,0,none⟩ j) v;rwa[OM] at h) (Uq aD aU v))
theorem K.r0{b:Nat}{c:Array Value}{e:TypeId}{v:Value}{t}(aD:w.heap[b]? = some (.cells c e))(aU:0<c.size)(aS:v.oneCell'=true)
  (hk:∀av,dK b w av→av.heap[b]? = some (.cells (c.set 0 v aU) e)→hb av):q7 (.pointer (some ⟨b,0,none⟩)) v w hb t :=
 K.st1 (j:=0) (t:=⟨⟩) aD aU aS hk
theorem K.k6{b n:Nat}{c cs:Array Value}{e:TypeId}{t}(aD:w.heap[b]? = some (.cells c e))(ax:c.size=n)(aI:cs.size=n)(h1:∀x∈cs.toList,x.oneCell'=true)
  (hk:∀av,dK b w av→av.heap[b]? = some (.cells cs e)→hb av):Ap n (.pointer (some ⟨b,0,none⟩)) (.agg cs) w hb t :=
 K5 aI (fun j aU=>⟨⟨_,fp aD (Array.getElem?_eq_getElem (by omega))⟩,by rw[add_eq];simp[World.frozen?,aD]⟩) h1 (hk _ (dK.mM cs.toList w ⟨b,0,none⟩ 0) (Up aD (by omega)))
theorem K.loop{b:eV}{t}(eB:Fr→World→Prop)(iZ:Fr→World→Nat)(aj:eB S w)
  (bd:∀a6 w',(∀t,b.e8.contains t=false→a6 t=S t)→eB a6 w'→dT P b (h0 (fun fk bZ=>eB fk bZ∧iZ fk bZ<iZ a6 w') Q ⟨⟩) a6 w' ⟨⟩):vy P b Q S w t:=acQ eB iZ aj bd
theorem K.start{f:FuncId}{L:lR}(hm:P.follows .mixedOrders=true)(ax:kv P f=some L){args:List Value}{R:Value→World→Prop}(bp:args.length≤L.n)(h:dT P L.code (sx L.res R ⟨⟩) (hd args 0) w ⟨⟩):bu P f args.toArray w R:=enter hm ax bp h
end
attribute [irreducible] dT
attribute [irreducible] iX
attribute [irreducible] k5
attribute [irreducible] fh
attribute [irreducible] xz
attribute [irreducible] qt
attribute [irreducible] qj
attribute [irreducible] lP
attribute [irreducible] oD
attribute [irreducible] vu
attribute [irreducible] vv
attribute [irreducible] mV
attribute [irreducible] vE
attribute [irreducible] Ea
attribute [irreducible] Al
attribute [irreducible] eh
attribute [irreducible] mW
attribute [irreducible] hv
attribute [irreducible] vt
attribute [irreducible] gx
attribute [irreducible] vM
attribute [irreducible] z1
attribute [irreducible] mY
attribute [irreducible] jn
attribute [irreducible] iK
attribute [irreducible] z8
attribute [irreducible] xO
attribute [irreducible] DT
attribute [irreducible] DW
attribute [irreducible] DV
attribute [irreducible] DR
attribute [irreducible] Aa
attribute [irreducible] DK
attribute [irreducible] sg
attribute [irreducible] Ec
attribute [irreducible] r9
attribute [irreducible] Ac
attribute [irreducible] Ab
attribute [irreducible] zY
attribute [irreducible] Ad
attribute [irreducible] Ae
attribute [irreducible] vC
attribute [irreducible] pr
attribute [irreducible] q4
attribute [irreducible] xP
attribute [irreducible] D1
attribute [irreducible] q7
attribute [irreducible] Ap
attribute [irreducible] Af
attribute [irreducible] zW
attribute [irreducible] ki
attribute [irreducible] vz
attribute [irreducible] D8
attribute [irreducible] Eb
attribute [irreducible] tZ
attribute [irreducible] xK
attribute [irreducible] Ed
attribute [irreducible] Ak
attribute [irreducible] tO
attribute [irreducible] vA
attribute [irreducible] D6
attribute [irreducible] vy
attribute [irreducible] hL
attribute [irreducible] h0 oT sx uu
end bt
end
section
namespace bt
open Go Go.RowKit
structure bz{α:Type}(sz:Nat)(R:World→Addr→α→Prop)(w:World)(v:Value)(xs:List α):Prop where
 ex:∃bl cap,v = .slice bl xs.length cap∧xs.length≤cap∧cap≤maxLen∧(xs≠[]→bl.isSome=true)∧∀a,bl=some a→∀i (h:i<xs.length),R w (a.add (i*sz)) xs[i]
theorem bz.form{α:Type}{sz:Nat}{R:World→Addr→α→Prop}{w:World}{v:Value}{xs:List α}(h:bz sz R w v xs):∃bl cap,v = .slice bl xs.length cap∧xs.length≤9223372036854775807:=by
 obtain⟨bl,cap,h1,U,ag,_⟩:=h.ex;exact⟨bl,cap,h1,by unfold maxLen at ag;omega⟩
theorem bz.addr{α:Type}{sz:Nat}{R:World→Addr→α→Prop}{w:World}{bl:Option Addr}{n c:Nat}{xs:List α}(h:bz sz R w (.slice bl n c) xs)(aI:0<xs.length):∃a,bl=some a:=by
 obtain⟨jI,cap,h1,U,ag,aK,_⟩:=h.ex;injection h1 with h1 _ _
 subst h1;exact Option.isSome_iff_exists.1 (aK (by intro e;subst e;simp at aI))
theorem bz.at{α:Type}{sz:Nat}{R:World→Addr→α→Prop}{w:World}{a:Addr}{n c:Nat}{xs:List α}(h:bz sz R w (.slice (some a) n c) xs)(i:Nat)(ad:i<xs.length):R w (a.add (i*sz)) xs[i]:=by
 obtain⟨jI,cap,h1,U,ag,aK,bc⟩:=h.ex;injection h1 with h1 _ _
 subst h1;exact bc a rfl i ad
theorem bz.ext{α:Type}{sz:Nat}{R:World→Addr→α→Prop}(gq:∀w w' a x,Ext w w'→R w a x→R w' a x){w w':World}{v:Value}{xs:List α}(he:Ext w w')(h:bz sz R w v xs):bz sz R w' v xs:=by
 obtain⟨bl,cap,h1,U,ag,aK,bc⟩:=h.ex;exact⟨bl,cap,h1,U,ag,aK,fun a bp i ad=>gq _ _ _ _ he (bc a bp i ad)⟩
def Flat{α:Type}(enc:α→List Value)(w:World)(a:Addr)(x:α):Prop:=fi w a (enc x)
theorem Flat.ext{α:Type}{enc:α→List Value}(w w':World)(a:Addr)(x:α)(he:Ext w w')(h:Flat enc w a x):Flat enc w' a x:=fi.ext he h
def ha{ml:Type}(enc:ml→Value)(es:List MapEntry)(m:List (ml×Value)):Prop:=es.map (fun e=>(e.key,e.val))=m.map (fun p=>(enc p.1,p.2))
theorem wg{ml:Type}[DecidableEq ml]{enc:ml→Value}{d:TypeDesc}(ay:∀x y,Instr.sameNow d (enc x) (enc y)=some (decide (x=y)))(x:ml):∀(es:List MapEntry) (m:List (ml×Value)) (i:Nat),ha enc es m →
  ∃r,Instr.findNow d (enc x) es i=some r∧r.map (·.2)=(m.find? (fun p=>decide (x=p.1))).map (·.2)
 | [],m,i,h=>by
  have:m=[]:=by cases m with | nil=>rfl | cons _ _=>simp[ha] at h
  subst this;exact⟨none,rfl,rfl⟩
 | e :: es,m,i,h=>by
  cases m with
  | nil=>simp[ha] at h
  | cons p m =>
   simp only[ha,List.map_cons,List.cons.injEq,Prod.mk.injEq] at h;obtain⟨⟨h1,U⟩,ag⟩:=h;unfold Instr.findNow;rw[h1,ay];by_cases ar:x=p.1
   ·simp only[ar,decide_true];exact⟨_,rfl,by simp[U]⟩
   ·simp only[ar,decide_false];obtain⟨r,aK,bc⟩:=wg ay x es m (i+1) ag;exact⟨r,aK,by rw[bc];simp[ar]⟩
theorem Gg(x y:ByteArray):Instr.sameNow .string (.string x) (.string y)=some (decide (x=y)):=by simp[Instr.sameNow,Ay]
theorem Gf(k q:IntKind)(x y:Int):Instr.sameNow (.int q) (.int k x) (.int k y)=some (decide (x=y)):=by simp[Instr.sameNow];rfl
theorem ha.push{ml:Type}{enc:ml→Value}{es:Array MapEntry}{m:List (ml×Value)}(h:ha enc es.toList m)(x:ml)(v:Value)(c:Nat):ha enc (es.push { key:=enc x,val:=v,born:=c }).toList (m++[(x,v)]):=by
 simp only[ha] at *;simp[h]
theorem Ii{α:Type}{enc:α→List Value}{sz:Nat}(c8:∀x,(enc x).length=sz):∀(xs:List α) (i j:Nat) (h:i<xs.length),j<sz→(xs.flatMap enc)[i*sz+j]? = (enc xs[i])[j]?
 | [],i,j,h,_=>by simp at h
 | x :: xs,0,j,h,aU=>by
  simp only[List.flatMap_cons,Nat.zero_mul,Nat.zero_add,List.getElem_cons_zero];rw[List.getElem?_append_left (by rw[c8];exact aU)]
 | x :: xs,i+1,j,h,aU=>by
  simp only[List.flatMap_cons,List.getElem_cons_succ];rw[List.getElem?_append_right (by rw[c8,Nat.add_mul];omega),c8,show(i+1)*sz+j - sz=i*sz+j from by rw[Nat.add_mul];omega];exact Ii c8 xs i j (by simpa using h) aU
theorem W9{α:Type}{enc:α→List Value}{sz:Nat}(c8:∀x,(enc x).length=sz){w:World}{b:Nat}{e:TypeId}{f:Nat×Nat}{xs:List α}(aD:w.heap[b]? = some (.cells (xs.flatMap enc).toArray e f))(i:Nat)(h:i<xs.length) :
  fi w (Addr.add ⟨b,0,none⟩ (i*sz)) (enc xs[i]):=fun j v aU=>by
 have BC:j<sz:=by rw[←c8 xs[i]];exact(List.getElem?_eq_some_iff.1 aU).1
 rw[add_add];exact fp aD (by rw[List.getElem?_toArray,Ii c8 xs i j h BC];exact aU)
theorem bz.aW{α:Type}{enc:α→List Value}{sz:Nat}(c8:∀x,(enc x).length=sz){R:World→Addr→α→Prop}{w:World}{b n:Nat}{e:TypeId}{f:Nat×Nat}{xs:List α}(aD:w.heap[b]? = some (.cells (xs.flatMap enc).toArray e f))
  (aI:n=xs.length)(hm:xs.length≤maxLen)(gq:∀a x,x∈xs→fi w a (enc x)→R w a x):bz sz R w (.slice (some ⟨b,0,none⟩) n n) xs:=by
 subst aI;refine⟨_,_,rfl,Nat.le_refl _,hm,fun _=>rfl,fun a bp i ad=>?_⟩;injection bp with bp;subst bp
 exact gq _ _ (List.getElem_mem _) (W9 c8 aD i ad)
theorem bz.nil{α:Type}{sz:Nat}{R:World→Addr→α→Prop}{w:World}:bz sz R w (.slice none 0 0) ([]:List α):=⟨none,0,rfl,Nat.le_refl _,Nat.zero_le _,fun h=>absurd rfl h,fun a h=>by cases h⟩
end bt
end
section
namespace bt
open Go Go.RowKit Go.ChangeShapes Go.WideShapes Go.Deep
section
variable{H:Type}{enc:TypeId×Value→H}{P:Program}
theorem UU{w:World}:∀{cQ:List TypeId} {vs:List Value} {ds:List (DataW H)} {db:List MemPlace},DataW.TrodAll enc P w 0 (fun _=>true) true cQ vs ds db→∀x∈db,x.block<w.heap.size
 | [],_,_,_,h=>by
  obtain⟨rfl,rfl,rfl⟩:=trodAll_nil h;intro x ar;cases ar
 | _ :: _,_,_,_,h=>by
  obtain⟨v,U4,d,Pu,a,b,rfl,rfl,rfl,⟨m,h1⟩,U⟩:=trodAll_cons h;intro x ar;rcases List.mem_append.1 ar with ar | ar
  ·exact DataW.trod_lt m _ _ _ h1 x ar
  ·exact UU U x ar
theorem UT{w:World}{sp:Nat→Bool}{br:Bool}:∀{cQ:List TypeId} {vs:List Value} {ds:List (DataW H)} {db:List MemPlace},DataW.TrodAll enc P w 0 sp br cQ vs ds db→ds.length=cQ.length
 | [],_,_,_,h=>by
  obtain⟨rfl,rfl,rfl⟩:=trodAll_nil h;rfl
 | _ :: _,_,_,_,h=>by
  obtain⟨v,U4,d,Pu,a,b,rfl,rfl,rfl,h1,U⟩:=trodAll_cons h;simp[UT U]
theorem US(aP:laidOutB P=true){W cu:World}(aD:Below W.heap.size W cu):∀{cQ:List TypeId} {vs:List Value} {ds:List (DataW H)} {db:List MemPlace},(cQ.all fun t=>P.readableRec t&&decide (t<P.types.size))=true →
  DataW.TrodAll enc P W 0 (fun _=>true) true cQ vs ds db→(∀x∈db,x.block<W.heap.size)→DataW.TrodAll enc P cu 0 (fun b=>decide (b<W.heap.size)) true cQ vs ds db
 | [],_,_,_,_,h,_=>by
  obtain⟨rfl,rfl,rfl⟩:=trodAll_nil h;exact trodAll_mk0
 | _ :: _,_,_,_,bd,h,cq=>by
  obtain⟨v,U4,d,Pu,a,b,rfl,rfl,rfl,h1,U⟩:=trodAll_cons h;simp only[List.all_cons,Bool.and_eq_true,decide_eq_true_eq] at bd;exact trodAll_cons_mk (Below.trod aP bd.1.1 bd.1.2 h1 aD fun x ar=>cq x (List.mem_append_left _ ar)) (US aP aD bd.2 U fun x ar=>cq x (List.mem_append_right _ ar))
theorem ai1{s:ChangeSpec}{f:Func}{vp:TypeId}(aP:laidOutB P=true)(bd:(f.params.toList.all fun t=>P.readableRec t&&decide (t<P.types.size))=true)(aS:s.vars=[])
  (uR:f.resultTypes=#[vp])(aL:P.underlying vp=some .bool)(ay:∀ds:List (DataW H),ds.length=f.params.toList.length→s.fn H ds = { results:=[.lit (.bool true)],args:=ds })
  {W cu:World}{args:Array Value}{ds gs:List (DataW H)}{before:List MemPlace}(h7:DataW.Whole enc P f.params.toList s.vars false W args.toList ds gs before)(OW:Ext W cu) :
  s.post enc P f false true false false W args (.bool true) cu:=by
 have Ix:=h7;obtain⟨p,q,e2,ky,rfl,ah1,Jl⟩:=h7;rw[aS] at ky;obtain⟨rfl,rfl⟩:=trodVars_none ky;have cq:=UU e2;have e:=ay ds (UT e2);refine⟨ds,[],_,[],p,[],Ix,?_,?_,?_,OW.frame _,fun h=>by cases h⟩
 ·rw[List.append_nil,e,uR];exact trodAll_mk1 (shut_bool aL _)
 ·rw[List.append_nil,e];exact US aP OW bd e2 cq
 ·rw[List.append_nil,e,aS];rfl
variable{w:World}{base:Nat}{spare:Nat→Bool}{held:Bool}
theorem J6{α:Type}(n:Nat)(R:Nat→α→Prop)(h:∀i,i<n→∃x,R i x):∃xs:List α,xs.length=n∧∀i (ad:i<xs.length),R i xs[i]:=by
 induction n with
 | zero=>exact⟨[],rfl,fun i ad=>absurd ad (Nat.not_lt_zero _)⟩
 | succ n fB =>
  obtain⟨xs,aP,ar⟩:=fB fun i ad=>h i (by omega);obtain⟨x,rK⟩:=h n (by omega);refine⟨xs++[x],by simp[aP],fun i ad=>?_⟩;by_cases aI:i<xs.length
  ·rw[List.getElem_append_left aI];exact ar i aI
  ·have:i=n:=by simp at ad;omega
   subst this;rw[List.getElem_append_right (by omega)];simpa[aP] using rK
end
theorem Xd{H:Type}{enc:TypeId×Value→H}{P:Program}{w:World}{base:Nat}{sp:Nat→Bool}{held:Bool}{fuel:Nat}{t e:TypeId}{n:Nat}{cs:List Value}{qY:List ByteArray}{p:List MemPlace}
  (aL:P.underlying t=some (.array n e))(he:P.underlying e=some .string)(e3:P.cellsOf e=1)(IQ:P.cellsOf t=n)
  (h:DataW.trod enc P w base sp held fuel t cs=some (.agg (qY.map fun z=>.lit (.string z.data.toList)),p)):cs=qY.map Value.string:=by
 cases fuel with
 | zero=>simp[DataW.trod] at h
 | succ fuel =>
  simp only[DataW.trod,aL,e3,IQ,Nat.mul_one] at h;split at h
  ·rename_i aP;obtain⟨xs,hm,ar⟩:=Option.map_eq_some_iff.1 h;have s7:xs.map (·.1)=qY.map fun z=>(DataW.lit (.string z.data.toList):DataW H):=by
    have:=congrArg Prod.fst ar
    simpa using this
   have uT:xs.length=n:=by simpa using Lib.mapM_length hm
   have aiA:qY.length=n:=by
    have:=congrArg List.length s7
    simp at this;omega
   apply List.ext_getElem?;intro i;by_cases ad:i<n
   ·obtain⟨b,aD,aN⟩:=Lib.mapM_at hm i i (by simp[ad]);obtain⟨z,ax,rfl,_⟩:=DataW.trod_string he aN;have h1:cs[i]? = some (.string z):=by
     have:=congrArg (·[0]?) ax
     simpa[List.getElem?_take,List.getElem?_drop] using this
    have U:(xs.map (·.1))[i]? = some (DataW.lit (.string z.data.toList):DataW H):=by simp[aD]
    rw[s7] at U;simp only[List.getElem?_map,Option.map_eq_some_iff,DataW.lit.injEq,Lit.string.injEq] at U;obtain⟨Vg,B4,e⟩:=U;have ba:Vg=z:=by
     cases Vg;cases z;simp at e;simp[e]
    simp[h1,B4,ba]
   ·rw[List.getElem?_eq_none (by omega),List.getElem?_eq_none (by simp;omega)]
  ·cases h
theorem ajx{P:Program}{W:World}{name:String}{qY:List ByteArray}{rest:List (String×DataW Unit)}{g:Nat}{t e:TypeId}{n:Nat}
  (a8:P.globalNamed name=some g)(abl:(P.globals[g]?).map (·.type)=some t)(aL:P.underlying t=some (.array n e))(he:P.underlying e=some .string)(e3:P.cellsOf e=1)(IQ:P.cellsOf t=n)
  (h:laidMet P ((name,.agg (qY.map fun z=>.lit (.string z.data.toList))) :: rest) W):fi W ⟨g,0,none⟩ (qY.map Value.string):=by
 obtain⟨db,⟨ahr,hr,cs,fuel,p,q,aan,uS,abm,br,_,_⟩,_⟩:=h;obtain rfl:=Option.some.inj (a8.symm.trans aan);obtain rfl:=Option.some.inj (abl.symm.trans uS);have e:=Xd aL he e3 IQ br;intro j v aU
 have:=World.var?_cell a8 abm j
 rw[show Addr.add ⟨g,0,none⟩ j=⟨g,j,none⟩ from by cases j<;>simp[Addr.add],this,Array.getElem?_toList.symm,e];exact aU
end bt
end
section
namespace bt
open Go Go.RowKit
theorem Ext.grown{w0 w w':World}{r:Option Nat}(he:Ext w0 w)(a8:w.grownBy w' r)(bd:∀k,r=some k→w0.heap.size≤k):Ext w0 w':=Below.grown he a8 he.size bd
theorem adR{w w':World}{base:Nat}{e:TypeId}{sz:Nat}{v:Value}{n:Nat}{xs:List Value}(he:Ext w w')(h:w.ownsRow base e sz v n xs):w'.ownsRow base e sz v n xs:=by
 refine⟨h.1,?_⟩;rcases h.2 with aI | ⟨g,cap,cur,rfl,aD,yK,rest⟩
 ·exact .inl aI
 ·exact .inr ⟨g,cap,cur,rfl,aD,he.obj yK,rest⟩
theorem adS{w:World}{base x5:Nat}{e:TypeId}{sz:Nat}{v:Value}{n:Nat}{xs:List Value}(aD:x5≤base)(h:w.ownsRow base e sz v n xs):w.ownsRow x5 e sz v n xs:=by
 refine⟨h.1,?_⟩;rcases h.2 with aI | ⟨g,cap,cur,rfl,Bh,rest⟩
 ·exact .inl aI
 ·exact .inr ⟨g,cap,cur,rfl,Nat.le_trans aD Bh,rest⟩
theorem Tn{w:World}{base:Nat}{e:TypeId}{sz:Nat}{v:Value}{n:Nat}{xs:List Value}(h:w.ownsRow base e sz v n xs):∃bl cap,v = .slice bl n cap∧n≤cap∧cap≤maxLen∧(n≠0→bl.isSome=true)∧∀a,bl=some a→fi w a xs:=by
 rcases h.2 with ⟨rfl,rfl⟩ | ⟨g,cap,cur,rfl,aD,yK,h1,U,ag,aK⟩
 ·exact⟨none,0,rfl,Nat.le_refl _,Nat.zero_le _,fun h=>absurd rfl h,fun a bp=>by cases bp⟩
 ·exact⟨_,cap,rfl,h1,U,fun _=>rfl,fun a bp=>by injection bp with bp;subst bp;exact fun j u aU=>h.cells (g:=g) rfl j u aU⟩
theorem adT{α:Type}{enc:α→List Value}{w:World}{base:Nat}{e:TypeId}{sz:Nat}{v:Value}{xs:List α}(c8:∀x,(enc x).length=sz)(h:w.ownsRow base e sz v xs.length (xs.flatMap enc)):bz sz (Flat enc) w v xs:=by
 obtain⟨bl,cap,rfl,h1,U,ag,aK⟩:=Tn h;refine⟨bl,cap,rfl,h1,U,fun aI=>ag (by intro e;exact aI (List.eq_nil_of_length_eq_zero e)),fun a bp i ad=>?_⟩;intro j u aU;have BC:j<sz:=by rw[←c8 xs[i]];exact(List.getElem?_eq_some_iff.1 aU).1
 rw[add_add];exact aK a bp _ _ (by rw[Ii c8 xs i j ad BC];exact aU)
theorem K.V9{P:Program}{c6:Value→World→Prop}{w:World}{ty e:TypeId}{sz b:Nat}{s:Value}{a:Addr}{m c:Nat}{t}{base n:Nat}{xs news:List Value}(ay:w.ownsRow base e sz s n xs)(ax:fi w a news)(aP:news.length=m*sz)
  (h1:∀u∈news,u.oneCell'=true)(jA:n+m≤maxLen)(aD:(n+m)*b≤140737488355328)(iP:base≤w.heap.size)
  (hk:∀b8 w',w'.ownsRow base e sz b8 (n+m) (xs++news)→w.grownBy w' s.ownBlock→c6 b8 w'):ki P ty e sz b s (.slice (some a) m c) w c6 t :=
 K.app fun⟨aL,i,z,ad,bU,yY,yE,wT,c8⟩=>by
  obtain⟨b8,w',bd,U,ag,_⟩:=run_append_own (P:=P) w base ty ty e i z sz b aL ad bU yY yE wT c8 s n xs ay a m c news aP ax h1 jA aD iP;exact⟨ty,b8,w',bd,hk b8 w' U ag⟩
theorem add_zero(a:Addr):a.add 0=a:=by simp[Addr.add]
theorem bz.cap{α:Type}{sz:Nat}{R:World→Addr→α→Prop}{w:World}{bl:Option Addr}{n c:Nat}{xs:List α}(h:bz sz R w (.slice bl n c) xs):xs.length≤c:=by
 obtain⟨jI,cap,e,U,ag,aK,bc⟩:=h.ex;injection e with bP ba bQ
 subst bQ;exact U
theorem bz.take{α:Type}{sz:Nat}{R:World→Addr→α→Prop}{w:World}{bl:Option Addr}{n c:Nat}{xs:List α}(h:bz sz R w (.slice bl n c) xs)(k:Nat)(hk:k≤xs.length) :
  bz sz R w (.slice (if c=0 then bl else bl.map (·.add (0*sz))) (k - 0) (c - 0)) (xs.take k):=by
 obtain⟨jI,cap,e,U,ag,aK,bc⟩:=h.ex;injection e with bP ba bQ
 subst bP ba bQ;have e:(if c=0 then bl else bl.map (·.add (0*sz)))=bl:=by
  split
  ·rfl
  ·cases bl with
   | none=>rfl
   | some a=>simp[add_zero]
 rw[e];refine⟨bl,c,by simp[List.length_take,Nat.min_eq_left hk],by simp[List.length_take];omega,ag,fun aI=>aK (by intro e;subst e;simp at aI),fun a bp i ad=>?_⟩;have cP:i<xs.length:=by simp[List.length_take] at ad;omega
 rw[List.getElem_take];exact bc a bp i cP
theorem Qa{α:Type}{enc:α→List Value}{sz:Nat}(c8:∀x,(enc x).length=sz):∀(xs:List α) (p:Nat) (v:Value),(xs.flatMap enc)[p]? = some v→∃i j,∃h:i<xs.length,j<sz∧p=i*sz+j∧(enc xs[i])[j]? = some v
 | [],p,v,h=>by simp at h
 | x :: xs,p,v,h=>by
  rw[List.flatMap_cons] at h;by_cases aO:p<sz
  ·rw[List.getElem?_append_left (by rw[c8];exact aO)] at h;exact⟨0,p,by simp,aO,by simp,h⟩
  ·rw[List.getElem?_append_right (by rw[c8];omega),c8] at h;obtain⟨i,j,ad,aU,e,U⟩:=Qa c8 xs (p - sz) v h;exact⟨i+1,j,by simpa using ad,aU,by rw[Nat.add_mul];omega,by simpa using U⟩
theorem bz.flat{α:Type}{enc:α→List Value}{sz:Nat}{R:World→Addr→α→Prop}{w:World}{a:Addr}{n c:Nat}{xs:List α}(c8:∀x,(enc x).length=sz)(gq:∀a x,R w a x→fi w a (enc x))
  (h:bz sz R w (.slice (some a) n c) xs):fi w a (xs.flatMap enc):=by
 intro p v aO;obtain⟨i,j,ad,aU,rfl,U⟩:=Qa c8 xs p v aO
 have:=gq _ _ (h.at i ad) j v U
 rwa[add_add] at this
theorem wi{α:Type}{enc:α→List Value}{sz:Nat}(c8:∀x,(enc x).length=sz):∀(xs:List α),(xs.flatMap enc).length=xs.length*sz
 | []=>by simp
 | x :: xs=>by rw[List.flatMap_cons,List.length_append,wi c8 xs,c8,List.length_cons,Nat.add_mul];omega
theorem K.cut{P:Program}{Q:dN→Fr→World→Prop}{S:Fr}{w:World}{a b:eV}{t}(N:Fr→World→Prop)(h1:dT P a (h0 N Q ⟨⟩) S w ⟨⟩)
  (U:∀a6 w',(∀t,a.e8.contains t=false→a6 t=S t)→N a6 w'→dT P b Q a6 w' ⟨⟩):dT P (.seq a b) Q S w t:=by
 unfold dT h0 at *;exact p4 a _ _ S w (fun e a6 w' ay h=>match e,h with | .normal,h=>U a6 w' ay h | .exit _,h=>h | .ret,h=>h | .fK _,h=>h) h1
theorem K.S8{P:Program}{hr:TypeId}{cW dd:Operand}{aF:Value→Prop}{a b:Bool}{t}(h:P.underlying hr=some .bool)(hk:aF (.bool (a != b))):gx P .neq hr cW dd (.bool a) (.bool b) aF t :=
 K.bin (v:=.bool (a != b)) (fun w=>by cases a<;>cases b<;>simp[eqGuard_at_bool,binOp,run_equal_bool w hr _ _ h]) hk
theorem adQ{w:World}{base:Nat}{e:TypeId}{sz b:Nat}(aD:base≤b)(h:w.heap[b]? = some (.cells #[] e)):w.ownsRow base e sz (.slice (some ⟨b,0,none⟩) 0 0) 0 [] :=
 ⟨by simp,.inr ⟨b,0,#[],rfl,aD,h,Nat.le_refl _,Nat.zero_le _,by simp,by simp⟩⟩
end bt
end
section
namespace bt
open Go Go.RowKit
class k8{α:Type}(R:World→Addr→α→Prop)(enc:outParam (α→List Value)):Prop where
 Es:∀w a x,R w a x→fi w a (enc x)
instance aiC{α:Type}(enc:α→List Value):k8 (Flat enc) enc:=⟨fun _ _ _ h=>h⟩
section
variable{P:Program}{Q:dN→Fr→World→Prop}{aF:Value→Prop}{K:Value→World→Prop}{S:Fr}{w w0:World}
theorem K.rO{b j:Nat}{c:List Value}{ty:TypeId}{f:Nat×Nat}{v:Value}{t}(aD:w0.heap[b]? = some (.cells c.toArray ty f))(he:Ext w0 w)(aU:c[j]? = some v)(hk:aF v):pr (.pointer (some (Addr.add ⟨b,0,none⟩ j))) w aF t :=
 K.ld (fp (he.obj aD) (by simpa using aU)) hk
theorem K.pQ{b:Nat}{c:List Value}{ty:TypeId}{f:Nat×Nat}{v:Value}{t}(aD:w0.heap[b]? = some (.cells c.toArray ty f))(he:Ext w0 w)(aU:c[0]? = some v)(hk:aF v):pr (.pointer (some ⟨b,0,none⟩)) w aF t :=
 K.ld (yk (he.obj aD) (by simpa using aU)) hk
theorem K.gm{b n:Nat}{c:List Value}{ty:TypeId}{f:Nat×Nat}{t}(aD:w0.heap[b]? = some (.cells c.toArray ty f))(he:Ext w0 w)(aI:c.length=n)(hk:aF (.agg c.toArray)):q4 n (.pointer (some ⟨b,0,none⟩)) w aF t :=
 K.jk (gK (he.obj aD)) aI hk
theorem K.tg{α:Type}{sz i j n c:Nat}{R:World→Addr→α→Prop}{enc:α→List Value}[k8 R enc]{a:Addr}{xs:List α}{v:Value}{t}(aP:bz sz R w0 (.slice (some a) n c) xs)(he:Ext w0 w)(ad:i<xs.length)(aU:(enc xs[i])[j]? = some v)
  (hk:aF v):pr (.pointer (some ((a.add (i*sz)).add j))) w aF t:=K.ld (he.cell (k8.Es _ _ _ (aP.at i ad) j v aU)) hk
theorem K.th{α:Type}{i n c:Nat}{R:World→Addr→α→Prop}{enc:α→List Value}[k8 R enc]{a:Addr}{xs:List α}{v:Value}{t}(aP:bz 1 R w0 (.slice (some a) n c) xs)(he:Ext w0 w)(ad:i<xs.length)(aU:(enc xs[i])[0]? = some v)
  (hk:aF v):pr (.pointer (some (a.add (i*1)))) w aF t:=by
 have h:=k8.Es (R:=R) _ _ _ (aP.at i ad) 0 v aU;rw[add_zero] at h;exact K.ld (he.cell h) hk
theorem K.tf{α:Type}{sz i n c m:Nat}{R:World→Addr→α→Prop}{enc:α→List Value}[k8 R enc]{a:Addr}{xs:List α}{t}(aP:bz sz R w0 (.slice (some a) n c) xs)(he:Ext w0 w)(ad:i<xs.length)(aI:(enc xs[i]).length=m)
  (hk:aF (.agg (enc xs[i]).toArray)):q4 m (.pointer (some (a.add (i*sz)))) w aF t:=K.jk ((k8.Es _ _ _ (aP.at i ad)).ext he) aI hk
theorem K.su{p:Prop}[Decidable p]{A B:Prop}{t}(h:p)(hk:A):jn (.bool (decide p)) A B t:=K.cond (fun _=>hk) fun bA=>absurd h bA
theorem K.ss{p:Prop}[Decidable p]{A B:Prop}{t}(h:¬p)(hk:B):jn (.bool (decide p)) A B t:=K.cond (fun bA=>absurd bA h) fun _=>hk
theorem K.qs{u:Bool}{A B:Prop}{t}(h:u=true)(hk:A):jn (.bool u) A B t:=K.c4 (fun _=>hk) fun bA=>by rw[h] at bA;cases bA
theorem K.qq{u:Bool}{A B:Prop}{t}(h:u=false)(hk:B):jn (.bool u) A B t:=K.c4 (fun bA=>by rw[h] at bA;cases bA) fun _=>hk
theorem K.s9{sz:Nat}{a:Addr}{len cap:Nat}{k:IntKind}{i:Nat}{t}(h:i<len)(hk:aF (.pointer (some (a.add (i*sz))))):xO sz (.slice (some a) len cap) (.int k (i:Int)) aF t:=K.dk i rfl h hk
theorem K.rS{d n:Nat}{ty:TypeId}{cs:Array Value}{x:Operand}{r:List Step}{c6:Fr→World→Prop}{vs:List Value}{t1 t}(ar:∀v,bb (b7 S d v) x = .agg vs.toArray)(aI:vs.length=n)(ax:cs.size=n)(h1:∀u∈vs,u.oneCell'=true)
  (hk:∀av b,w.heap.size≤b→Ext w av→av.heap[b]? = some (.cells vs.toArray ty)→iX P r (b7 S d (.pointer (some ⟨b,0,none⟩))) av c6 ⟨⟩) :
  vA ty cs w (fun v w'=>iX P (⟨none,none,.e (.qW n (.tmp d) x)⟩ :: r) (put S (some d) v) w' c6 t1) t:=by
 refine K.new fun av b aD he c7=>?_;simp -dsimp only[Lz,LA,LB,LC,LD,LF,LG,LH,LI,LJ,LL,LM,LN,LO,LP,LQ,LR,LS,LU,cw,LV,LW,LX,LY,LZ,L0,L1,L2,L3,L4,qZ,L7,L8,L9,Ma,Mb,Mc,Md,Me,Mf,Mi,h3,cR,fF,ed,iq,kj,gI,jX,kk,Mo,Mp,Mq,Mr,Ms,Mt,Mu,Mv,Mw,Mx,My,H1,Mz,MA,MB,MC,MD,ME,MF,MG,MH,MI,MJ,MK,ML,MM,MN,MO,MP,MQ,MR,MS,MT,MU,MV,MW,MX,MY,MZ,M0,M4,M5,M2,M6,M7,M8,M9,Na,Nb,Nc,Nd,Nf,Ng,Nh,Ni,Nj,Nk,Nl,Nn,No,Nr,Ns,Nt,Nu,Nv,Nw,Nx,Ny,Nz,NA,NB,NC,ND,NF,NG,NH,NI,NJ,NK,NL,NN,Am,An,NO,NP,NQ,NR,NS,NT,NU,N0,N1,N2,N3,N4,N5,N6,N7,N8,N9,Ob,Oc,Od,Oe,Of,Og,Oh,Oi,Oj,Ol,Om,On,Oo,Oq,Ot,Ou,Ov,Ow,Ox,Oy,Oz,js,ft,mq,Nat.reduceAdd,Nat.reduceEqDiff,reduceIte,reduceCtorEq,cU,ar];refine K.k6 (cs:=vs.toArray) c7 ax (by simpa using aI) (by simpa using h1) fun aT hw aM=>?_;exact hk aT b aD (hw.ext he aD) aM
theorem K.yz{b:eV}{t}(i N:Nat)(ja:Nat→Fr→World→Prop)(I6:S i = .int .i64 0)(aj:ja 0 S w)
  (bd:∀(k:Nat) a6 w',(∀t,b.e8.contains t=false→a6 t=S t)→k≤N→a6 i = .int .i64 k→ja k a6 w' →
   dT P b (h0 (fun fk bZ=>k<N∧fk i = .int .i64 ((k:Int)+1)∧ja (k+1) fk bZ) Q ⟨⟩) a6 w' ⟨⟩):vy P b Q S w t:=by
 refine K.loop (fun S w => ∃k:Nat,k≤N∧S i = .int .i64 k∧ja k S w) (fun S _=>(N - intOf (S i)).toNat) ⟨0,Nat.zero_le _,by simpa using I6,aj⟩ ?_;rintro a6 w' ck ⟨k,hk,ad,aU⟩;have h:=bd k a6 w' ck hk ad aU;unfold dT h0 at *;refine p4 b _ _ a6 w' (fun e fk bZ _ h=>?_) h
 match e,h with
 | .normal,⟨h1,U,ag⟩=>exact⟨⟨k+1,h1,by simpa using U,ag⟩,by simp[ad,U,intOf];omega⟩
 | .exit _,h=>exact h
 | .ret,h=>exact h
 | .fK _,h=>exact h
theorem K.qQ{hb:World→Prop}{d:TypeDesc}{r:Nat}{k v:Value}{es:Array MapEntry}{c:Nat}{t}(h1:w.heap[r]? = some (.map es c))(U:Instr.findNow d k es.toList 0=some none)
  (hk:∀av,dK r w av→av.heap[r]? = some (.map (es.push { key:=k,val:=v,born:=c }) (c+1))→hb av):vz d (.map (some r)) k v w hb t :=
 K.ig h1 U (hk _ (dK.e5 _ _ _) (zH (cM h1)))
theorem K.rY{sz:Nat}{bl:Option Addr}{n cap:Nat}{x:Operand}{k:IntKind}{t}(h:Nat)(ar:bb S x = .int k (h:Int))(c7:h≤cap)(hk:aF (.slice bl h cap)):sg S sz (.slice bl n cap) none (some x) none aF t:=by
 refine K.iW 0 h cap (by simp[fN]) (by simp[fN,ar]) (by simp[fN]) ⟨Nat.zero_le _,c7,Nat.le_refl _⟩ (by simp) ?_;have e:(if cap=0 then bl else bl.map (·.add (0*sz)))=bl:=by
  split
  ·rfl
  ·cases bl with
   | none=>rfl
   | some a=>simp[add_zero]
 rw[e];exact hk
theorem K.afD{sz:Nat}{bl:Option Addr}{n cap:Nat}{x:Operand}{k:IntKind}{t}(l:Nat)(ar:bb S x = .int k (l:Int))(aP:l≤n∧n≤cap)(hk:aF (.slice (if cap=l then bl else bl.map (·.add (l*sz))) (n - l) (cap - l))) :
  sg S sz (.slice bl n cap) (some x) none none aF t :=
 K.iW l n cap (by simp[fN,ar]) (by simp[fN]) (by simp[fN]) ⟨aP.1,aP.2,Nat.le_refl _⟩ (by simp) hk
end
theorem bz.head{α:Type}{sz:Nat}{R:World→Addr→α→Prop}{w:World}{bl:Option Addr}{n c:Nat}{xs:List α}(h:bz sz R w (.slice bl n c) xs)(k:Nat)(hk:k≤xs.length):bz sz R w (.slice bl k c) (xs.take k):=by
 have:=h.take k hk
 have e:(if c=0 then bl else bl.map (·.add (0*sz)))=bl:=by
  split
  ·rfl
  ·cases bl with
   | none=>rfl
   | some a=>simp[add_zero]
 rw[e] at this;exact this
theorem bz.len{α:Type}{sz:Nat}{R:World→Addr→α→Prop}{w:World}{bl:Option Addr}{n c:Nat}{xs:List α}(h:bz sz R w (.slice bl n c) xs):n=xs.length∧n≤c∧c≤maxLen:=by
 obtain⟨jI,cap,e,U,ag,_⟩:=h.ex;injection e with bP ba bQ
 subst ba bQ;exact⟨rfl,U,ag⟩
theorem bz.tail{α:Type}{sz:Nat}{R:World→Addr→α→Prop}{w:World}{bl:Option Addr}{n c:Nat}{xs:List α}(h:bz sz R w (.slice bl n c) xs)(l:Nat)(aP:l≤xs.length) :
  bz sz R w (.slice (if c=l then bl else bl.map (·.add (l*sz))) (n - l) (c - l)) (xs.drop l):=by
 obtain⟨bP,ba,bQ⟩:=h.len;subst bP;obtain⟨jI,cap,e,U,ag,aK,bc⟩:=h.ex;injection e with bP ba bQ
 subst bP bQ;refine⟨_,_,by rw[List.length_drop],by rw[List.length_drop];omega,by omega,fun aI=>?_,fun a bp i ad=>?_⟩
 ·have:xs≠[]:=by intro e;subst e;simp at aI
  have:=aK this
  split
  ·exact this
  ·cases bl with
   | none=>cases this
   | some a=>rfl
 ·have cP:l+i<xs.length:=by rw[List.length_drop] at ad;omega
  rw[if_neg (by omega)] at bp;cases bl with
  | none=>cases bp
  | some b =>
   simp only[Option.map_some,Option.some.injEq] at bp;subst bp;rw[add_add,←Nat.add_mul,List.getElem_drop];exact bc b rfl _ cP
structure Mod(A:Nat→Prop)(w w':World):Prop where
 os:w'.os=w.os
 tape:w'.tape=w.tape
 output:w'.output=w.output
 size:w.heap.size≤w'.heap.size
 block:∀k,k<w.heap.size→¬A k→w'.heap[k]? = w.heap[k]?
theorem Mod.refl(A:Nat→Prop)(w:World):Mod A w w:=⟨rfl,rfl,rfl,Nat.le_refl _,fun _ _ _=>rfl⟩
theorem Mod.trans{A:Nat→Prop}{a b c:World}(h:Mod A a b)(k:Mod A b c):Mod A a c :=
 ⟨k.os.trans h.os,k.tape.trans h.tape,k.output.trans h.output,Nat.le_trans h.size k.size,fun i ad aI=>(k.block i (Nat.lt_of_lt_of_le ad h.size) aI).trans (h.block i ad aI)⟩
theorem Mod.then{A B:Nat→Prop}{a b c:World}(h:Mod B a b)(k:Mod A b c)(ay:∀i,i<a.heap.size→A i→B i):Mod B a c :=
 ⟨k.os.trans h.os,k.tape.trans h.tape,k.output.trans h.output,Nat.le_trans h.size k.size,fun i ad aI=>(k.block i (Nat.lt_of_lt_of_le ad h.size) fun e=>aI (ay i ad e)).trans (h.block i ad aI)⟩
theorem Ext.mod{A:Nat→Prop}{w w':World}(h:Ext w w'):Mod A w w':=⟨h.os,h.tape,h.output,h.size,fun _ hk _=>h.heap hk⟩
theorem dK.mod{A:Nat→Prop}{b:Nat}{w w':World}(h:dK b w w')(aD:A b):Mod A w w':=⟨h.os,h.tape,h.output,by rw[h.size];exact Nat.le_refl _,fun k _ aI=>h.block k fun e=>aI (e ▸ aD)⟩
theorem Mod.grown{A:Nat→Prop}{w w':World}{row:Option Nat}(h:w.grownBy w' row)(bd:∀k,row=some k→A k):Mod A w w':=⟨h.os,h.tape,h.output,h.size,fun k hk aI=>h.block k hk fun e=>aI (bd k e.symm)⟩
theorem Mod.ext{A:Nat→Prop}{w0 w w':World}(h:Mod A w w')(he:Ext w0 w)(e2:∀k,k<w0.heap.size→¬A k):Ext w0 w' :=
 ⟨h.os.trans he.os,h.tape.trans he.tape,h.output.trans he.output,Nat.le_trans he.size h.size,fun k hk=>(h.block k (Nat.lt_of_lt_of_le hk he.size) (e2 k hk)).trans (he.heap hk)⟩
theorem Mod.obj{A:Nat→Prop}{w w':World}{k:Nat}{au:Obj}(h:Mod A w w')(aI:¬A k)(hk:w.heap[k]? = some au):w'.heap[k]? = some au:=(h.block k (cM hk) aI).trans hk
theorem Mod.GJ{A B:Nat→Prop}{w w':World}(h:Mod A w w')(ay:∀k,A k→B k):Mod B w w':=⟨h.os,h.tape,h.output,h.size,fun k hk aI=>h.block k hk fun e=>aI (ay k e)⟩
def bs{α:Type}(enc:α→List Value)(e:TypeId)(sz base:Nat)(w:World)(v:Value)(xs:List α):Prop:=w.ownsRow base e sz v xs.length (xs.flatMap enc)
section
variable{α:Type}{enc:α→List Value}{e:TypeId}{sz base:Nat}{w w':World}{v:Value}{xs:List α}
theorem bs.nil(enc:α→List Value)(e:TypeId)(sz base:Nat)(w:World):bs enc e sz base w (.slice none 0 0) []:=World.ownsRow_nil w base e sz
theorem bs.ext(he:Ext w w')(h:bs enc e sz base w v xs):bs enc e sz base w' v xs:=adR he h
theorem bs.wr{b:Nat}(hw:dK b w w')(aD:b<base)(h:bs enc e sz base w v xs):bs enc e sz base w' v xs :=
 World.ownsRow.kept (row:=some b) h ⟨hw.os,hw.tape,hw.output,by rw[hw.size];exact Nat.le_refl _,fun k _ hk=>hw.block k (fun e=>hk (by rw[e]))⟩ (by
  cases aS:v.ownBlock with
  | none=>exact .inl rfl
  | some k=>exact .inr (by have:=(World.ownsRow.lt h k aS).1;intro e;injection e with e;omega))
theorem bs.lt(h:bs enc e sz base w v xs):∀k,v.ownBlock=some k→base≤k∧k<w.heap.size:=World.ownsRow.lt h
theorem bs.form(h:bs enc e sz base w v xs):∃bl cap,v = .slice bl xs.length cap∧xs.length≤cap∧cap≤maxLen:=by
 obtain⟨bl,cap,h1,U,ag,_⟩:=Tn h;exact⟨bl,cap,h1,U,ag⟩
theorem bs.rZ(c8:∀x,(enc x).length=sz)(h:bs enc e sz base w v xs):bz sz (Flat enc) w v xs:=adT c8 h
theorem bs.head{bl:Option Addr}{n cap:Nat}(c8:∀x,(enc x).length=sz)(h:bs enc e sz base w (.slice bl n cap) xs)(k:Nat)(hk:k≤xs.length):bs enc e sz base w (.slice bl k cap) (xs.take k):=by
 have nZ:∀(xs:List α) (k:Nat),(xs.flatMap enc).take (k*sz)=(xs.take k).flatMap enc:=by
  intro xs
  induction xs with
  | nil=>intro k;simp
  | cons x xs fB =>
   intro k;cases k with
   | zero=>simp
   | succ k =>
    simp only[List.flatMap_cons,List.take_succ_cons];rw[List.take_append,c8,show(k+1)*sz - sz=k*sz from by rw[Nat.add_mul];omega,fB,List.take_of_length_le (by rw[c8,Nat.add_mul];omega)]
 have aP:(xs.take k).length=k:=by simp[List.length_take];omega
 refine⟨by rw[aP,wi c8,aP],?_⟩;rcases h.2 with ⟨h1,U⟩ | ⟨g,nJ,cur,h1,U,ag,aK,bc,bD,b6⟩
 ·injection h1 with bP ba bQ
  subst bP bQ
  have:xs.length=0:=U
  exact .inl ⟨by congr 1;omega,by omega⟩
 ·injection h1 with bP ba bQ
  subst bP bQ;refine .inr ⟨g,cap,cur,by rw[aP],U,ag,by omega,bc,bD,?_⟩;rw[aP,←nZ,←b6,List.take_take,Nat.min_eq_left (Nat.mul_le_mul_right _ hk)]
theorem K.ra{P:Program}{c6:Value→World→Prop}{ty:TypeId}{b:Nat}{s:Value}{a:Addr}{m c:Nat}{ys:List α}{t}(ay:bs enc e sz base w s xs)(c8:∀x,(enc x).length=sz)(ax:fi w a (ys.flatMap enc))(hm:m=ys.length)
  (h1:∀y,∀u∈enc y,u.oneCell'=true)(aD:(xs.length+ys.length)*b≤140737488355328)(jA:xs.length+ys.length≤maxLen)(iP:base≤w.heap.size)
  (hk:∀b8 w',bs enc e sz base w' b8 (xs++ys)→w.grownBy w' s.ownBlock→c6 b8 w'):ki P ty e sz b s (.slice (some a) m c) w c6 t:=by
 subst hm;refine K.V9 ay ax (wi c8 ys) (fun u hu=>by obtain⟨y,_,cx⟩:=List.mem_flatMap.1 hu;exact h1 y u cx) jA aD iP fun b8 w' yX a8=>hk b8 w' ?_ a8;unfold bs;rw[List.length_append,List.flatMap_append];exact yX
end
end bt
end
section
namespace bt
open Go Go.RowKit
section
variable{P:Program}{c6:Value→World→Prop}{α:Type}{enc:α→List Value}{e:TypeId}{sz base x5:Nat}{w:World}{s x:Value}{xs ys:List α}
theorem K.x2{ty:TypeId}{b:Nat}{t}(ay:bs enc e sz base w s xs)(ar:bs enc e sz x5 w x ys)(c8:∀x,(enc x).length=sz)(h1:∀y,∀u∈enc y,u.oneCell'=true)(aD:(xs.length+ys.length)*b≤140737488355328)
  (jA:xs.length+ys.length≤maxLen)(iP:base≤w.heap.size)(hk:∀b8 w',bs enc e sz base w' b8 (xs++ys)→w.grownBy w' s.ownBlock→c6 b8 w'):ki P ty e sz b s x w c6 t:=by
 rcases ar.2 with ⟨rfl,aj⟩ | ⟨g,cap,cur,rfl,E8,a8,ag,aK,bc,bD⟩
 ·have:ys=[]:=List.eq_nil_of_length_eq_zero aj
  subst this;rw[List.append_nil] at hk;refine K.app fun⟨aL,i,z,ad,bU,yY,yE,wT,FF⟩=>?_;exact⟨ty,s,w,run_append_owned_none w base ty ty e i sz aL ad s _ _ ay,hk s w ay ⟨rfl,rfl,rfl,Nat.le_refl _,fun _ _ _=>rfl⟩⟩
 ·exact K.ra ay c8 (fun j u aU=>World.ownsRow.cells ar (g:=g) rfl j u aU) rfl h1 aD jA iP hk
theorem K.V8{R:World→Addr→α→Prop}[k8 R enc]{ty:TypeId}{b:Nat}{a:Addr}{m c:Nat}{t}(ay:bs enc e sz base w s xs)(ar:bz sz R w (.slice (some a) m c) ys)(c8:∀x,(enc x).length=sz)(h1:∀y,∀u∈enc y,u.oneCell'=true)
  (aD:(xs.length+ys.length)*b≤140737488355328)(jA:xs.length+ys.length≤maxLen)(iP:base≤w.heap.size)(hk:∀b8 w',bs enc e sz base w' b8 (xs++ys)→w.grownBy w' s.ownBlock→c6 b8 w'):ki P ty e sz b s (.slice (some a) m c) w c6 t :=
 K.ra ay c8 (bz.flat (enc:=enc) c8 (fun a x h=>k8.Es _ a x h) ar) ar.len.1 h1 aD jA iP hk
theorem bs.empty{b:Nat}(aD:base≤b)(h:w.heap[b]? = some (.cells #[] e)):bs enc e sz base w (.slice (some ⟨b,0,none⟩) 0 0) ([]:List α):=adQ aD h
theorem bs.low{v:Value}(aD:x5≤base)(h:bs enc e sz base w v xs):bs enc e sz x5 w v xs:=adS aD h
end
end bt
end
section
namespace bt
open Go
def ab(n:Nat):Operand:=.tmp n
def ai(n:Int):Operand:=.const (.int .i64 n)
def bV(b:Bool):Operand:=.const (.bool b)
def a7(d:Nat)(i:tW):Step:=⟨some d,none,.p i⟩
def mQ(d:Nat)(i:se):Step:=⟨some d,none,.r i⟩
def aG(d:Nat)(i:p8):Step:=⟨some d,none,.e i⟩
def de(d:Nat)(i:oC):Step:=⟨some d,none,.c i⟩
def iI(i:p8):Step:=⟨none,none,.e i⟩
def tM(j:Nat)(b:Bool)(s:Step):Step:=⟨s.dst,some (j,b),s.i⟩
def I(d n:Nat):Step:=⟨some d,none,.p (.pb (.tmp n))⟩
def ah(d:Nat)(x:Operand):Step:=⟨some d,none,.p (.pb x)⟩
def af(d k n:Nat):Step:=⟨some d,none,.p (.iB k (.tmp n))⟩
def ae(d n:Nat):Step:=⟨some d,none,.r (.ld (.tmp n))⟩
def bo(d k a i:Nat):Step:=⟨some d,none,.p (.hE k (.tmp a) (.tmp i))⟩
def ys(a v:Nat):Step:=⟨none,none,.e (.st (.tmp a) (.tmp v))⟩
def bL(d n:Nat):Step:=⟨some d,none,.p (.y8 (.tmp n))⟩
def an:Value:=.int .i64 0
def aQ:Value:=.slice none 0 0
def cH:Value:=.string ⟨#[]⟩
def bm(op:BinOp)(t:TypeId)(d a b:Nat):Step:=⟨some d,none,.p (.bin op t (.tmp a) (.tmp b))⟩
def az(op:BinOp)(t:TypeId)(d a:Nat)(n:Int):Step:=⟨some d,none,.p (.bin op t (.tmp a) (.const (.int .i64 n)))⟩
def dq(d a b:Nat):Step:=⟨some d,none,.p (.pick (.tmp a) (.tmp b) (.const (.bool false)))⟩
def cb(d a b:Nat):Step:=⟨some d,none,.p (.pick (.tmp a) (.const (.bool true)) (.tmp b))⟩
def J(bY:List Step)(b:eV):eV:=.seq (.bJ bY) b
def aE(n:Nat)(a b:eV):eV:=.cond (.tmp n) a b
def bn(d k n:Nat):Step:=⟨some d,none,.r (.jk k (.tmp n))⟩
def cf(k a v:Nat):Step:=⟨none,none,.e (.qW k (.tmp a) (.tmp v))⟩
def gY(d n:Nat):Step:=⟨some d,none,.p (.zt (.tmp n))⟩
def bx(d n i:Nat):Step:=⟨some d,none,.p (.ext (.tmp n) i)⟩
def aY(d:Nat)(f:FuncId)(l:List Nat):Step:=⟨some d,none,.c (.fn f (l.map .tmp))⟩
def fy(n m:Nat)(b:eV):eV:=.seq (.cond (.tmp n) .skip (.exit m)) b
def aX(n:Nat)(s:Step):Step:=tM n true s
def ao(n:Nat)(s:Step):Step:=tM n false s
def ak(s:Step)(k:eE):eE:=.take s k
def fM(t:TypeId)(a b:Nat):eV:=.bJ [⟨some a,none,.p (.bin .add t (.tmp b) (.const (.int .i64 1)))⟩,⟨some b,none,.p (.pb (.tmp a))⟩]
theorem bF{A B:Prop}(k:B)(h:B→A:=by
 intro q;dsimp only[ab,ai,bV,a7,mQ,aG,de,iI,tM,I,ah,af,ae,bo,ys,bL,an,aQ,cH,bm,az,dq,cb,J,aE,bn,cf,gY,bx,aY,fy,fM,aX,ao,ak,List.map_cons,List.map_nil];exact q):A:=h k
end bt
end