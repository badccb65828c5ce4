/- Texts joined: Lite6 Lite7 Lite8 Lite9 Lite10 Lite11 LiteC. -/
import Derived.Test.YtempnjgiohpopaaGreatDoorQwrb
import Derived.RowKit
import Derived.ChangeSame
import Derived.Carry
import Derived.OpenShut
import Derived.Deep.Slices
import Derived.Deep.Fields
import Derived.Lib.LaidTab
import Derived.Laws.OwnMore
set_option linter.all false
section
namespace bt
open Go Go.RowKit
structure Tok{α:Type}(a:α):Type where
def dQ(P:Program)(c:eS)(Q:dM→Fr→World→Prop)(S:Fr)(w:World)(_:Tok (P,c,Q)):Prop:=dL P c Q S w
def iI(P:Program)(bX:List Step)(S:Fr)(w:World)(K:Fr→World→Prop)(_:Tok (P,bX,K)):Prop:=steps P bX S w K
def kV(P:Program)(bX:List Step)(S:Fr)(w:World)(K:Fr→Prop)(_:Tok (P,bX,K)):Prop:=qJ P bX S w K
def fa(P:Program)(w0:World)(x:eE)(S:Fr)(w:World)(K:Fr→World→Prop)(_:Tok (P,w0,x,K)):Prop:=mE P w0 x S w K
def xl(P:Program)(w0:World)(s:Step)(S:Fr)(K:Fr→Prop)(_:Tok (P,w0,s,K)):Prop:=Dm P w0 s S K
def qf(P:Program)(s:Step)(S:Fr)(w:World)(K:Fr→World→Prop)(_:Tok (P,s,K)):Prop:=mW P s S w K
def p6(P:Program)(w0:World)(s:Step)(S:Fr)(w:World)(K:Fr→World→Prop)(_:Tok (P,w0,s,K)):Prop:=Ao P w0 s S w K
def lI(P:Program)(i:Ins)(S:Fr)(w:World)(K:Value→World→Prop)(_:Tok (P,i,K)):Prop:=h7 P i S w K
def og(P:Program)(i:Ins)(S:Fr)(w:World)(K:Value→World→Prop)(_:Tok (P,i,K)):Prop:=rW P i S w K
def vf(P:Program)(i:oe)(S:Fr)(w:World)(K:Value→World→Prop)(_:Tok (P,i,K)):Prop:=LR P i S w K
def vg(P:Program)(x:Value)(l:List Value)(w:World)(K:Value→World→Prop)(_:Tok (P,K)):Prop:=LS P x l w K
def mM(P:Program)(i:Ins)(S:Fr)(w:World)(K:Value→Prop)(_:Tok (P,i,K)):Prop:=k0 P i S w K
def vp(P:Program)(i:oe)(S:Fr)(w:World)(K:Value→Prop)(_:Tok (P,i,K)):Prop:=Vl P i S w K
def D7(P:Program)(f:FuncId)(l:List Value)(w:World)(K:Value→Prop)(_:Tok (P,f,K)):Prop:=NA P f l w K
def Ag(P:Program)(x:Value)(l:List Value)(w:World)(K:Value→Prop)(_:Tok (P,K)):Prop:=Vm P x l w K
def eh(P:Program)(i:tC)(S:Fr)(K:Value→Prop)(_:Tok (P,i,K)):Prop:=mL P i S K
def mN(i:rZ)(S:Fr)(w:World)(K:Value→Prop)(_:Tok (i,K)):Prop:=lM i S w K
def hj(P:Program)(i:pV)(S:Fr)(w:World)(K:Value→World→Prop)(_:Tok (P,i,K)):Prop:=lH P i S w K
def ve(P:Program)(i:oe)(S:Fr)(w:World)(K:Value→World→Prop)(_:Tok (P,i,K)):Prop:=pT P i S w K
def gv(P:Program)(op:BinOp)(t:TypeId)(cZ:Operand)(c9:Operand)(x:Value)(y:Value)(K:Value→Prop)(_:Tok (P,op,t,cZ,c9,K)):Prop:=me P op t cZ c9 x y K
def vy(op:UnOp)(x:Value)(K:Value→Prop)(_:Tok (op,K)):Prop:=xN op x K
def zU(k:IntKind)(x:Value)(K:Value→Prop)(_:Tok (k,K)):Prop:=DH k x K
def mQ(k:IntKind)(n:Int)(K:Value→Prop)(_:Tok (k,K)):Prop:=p2 k n K
def jd(v:Value)(A:Prop)(B:Prop)(_:Tok (A,B)):Prop:=kA v A B
def iv(v:Value)(b:Bool)(A:Prop)(B:Prop)(C:Prop)(_:Tok (b,A,B,C)):Prop:=j9 v b A B C
def zY(off:Nat)(x:Value)(K:Value→Prop)(_:Tok (off,K)):Prop:=DL off x K
def xD(sz:Nat)(x:Value)(i:Value)(K:Value→Prop)(_:Tok (sz,K)):Prop:=DQ sz x i K
def DP(len:Nat)(sz:Nat)(x:Value)(i:Value)(K:Value→Prop)(_:Tok (len,sz,K)):Prop:=GS len sz x i K
def DS(x:Value)(i:Value)(K:Value→Prop)(_:Tok (K)):Prop:=GV x i K
def DR(len:Nat)(x:Value)(i:Value)(K:Value→Prop)(_:Tok (len,K)):Prop:=GU len x i K
def DN(off:Nat)(x:Value)(K:Value→Prop)(_:Tok (off,K)):Prop:=GR off x K
def zZ(off:Nat)(n:Nat)(x:Value)(K:Value→Prop)(_:Tok (off,n,K)):Prop:=DM off n x K
def DD(S:Fr)(z:List Value)(pl:List (Nat×Nat))(c6:List (Nat×Operand))(K:Value→Prop)(_:Tok (z,pl,c6,K)):Prop:=GK S z pl c6 K
def r0(S:Fr)(sz:Nat)(x:Value)(aZ:Option Operand)(ad:Option Operand)(mx:Option Operand)(K:Value→Prop)(_:Tok (sz,aZ,ad,mx,K)):Prop:=G4 S sz x aZ ad mx K
def D9(S:Fr)(x:Value)(aZ:Option Operand)(ad:Option Operand)(K:Value→Prop)(_:Tok (aZ,ad,K)):Prop:=G3 S x aZ ad K
def rU(x:Value)(i:Nat)(K:Value→Prop)(_:Tok (i,K)):Prop:=tv x i K
def z6(x:Value)(K:Value→Prop)(_:Tok (K)):Prop:=DY x K
def z1(x:Value)(K:Value→Prop)(_:Tok (K)):Prop:=DW x K
def zS(x:Value)(K:Value→Prop)(_:Tok (K)):Prop:=DG x K
def z7(x:Value)(y:Value)(K:Value→Prop)(_:Tok (K)):Prop:=D0 x y K
def z8(x:Value)(y:Value)(K:Value→Prop)(_:Tok (K)):Prop:=D1 x y K
def vn(x:Value)(K:Value→Prop)(_:Tok (K)):Prop:=vm x K
def o7(x:Value)(w:World)(K:Value→Prop)(_:Tok (K)):Prop:=DV x w K
def qS(n:Nat)(x:Value)(w:World)(K:Value→Prop)(_:Tok (n,K)):Prop:=DU n x w K
def xE(d:TypeDesc)(z:Value)(ok:Bool)(m:Value)(k:Value)(w:World)(K:Value→Prop)(_:Tok (d,z,ok,K)):Prop:=GX d z ok m k w K
def DX(m:Value)(w:World)(K:Value→Prop)(_:Tok (K)):Prop:=GW m w K
def qV(x:Value)(v:Value)(w:World)(K:World→Prop)(_:Tok (K)):Prop:=vw x v w K
def Ak(n:Nat)(x:Value)(v:Value)(w:World)(K:World→Prop)(_:Tok (n,K)):Prop:=xM n x v w K
def Aa(e:TypeId)(sz:Nat)(b:Nat)(z:Value)(l:Value)(c:Value)(w:World)(K:Value→World→Prop)(_:Tok (e,sz,b,z,K)):Prop:=GY e sz b z l c w K
def zR(S:Fr)(e:TypeId)(len:Nat)(sz:Nat)(z:List Value)(c6:List (Nat×Operand))(w:World)(K:Value→World→Prop)(_:Tok (e,len,sz,z,c6,K)):Prop:=DC S e len sz z c6 w K
def j5(P:Program)(t:TypeId)(e:TypeId)(sz:Nat)(b:Nat)(s:Value)(x:Value)(w:World)(K:Value→World→Prop)(_:Tok (P,t,e,sz,b,K)):Prop:=vd P t e sz b s x w K
def vk(d:TypeDesc)(m:Value)(k:Value)(v:Value)(w:World)(K:World→Prop)(_:Tok (d,K)):Prop:=GZ d m k v w K
def D5(x:Value)(w:World)(K:Value→World→Prop)(_:Tok (K)):Prop:=G2 x w K
def D8(x:Value)(w:World)(K:Value→World→Prop)(_:Tok (K)):Prop:=NN x w K
def tF(P:Program)(op:Op)(ty:TypeId)(S:Fr)(w:World)(K:Value→World→Prop)(_:Tok (P,op,ty,K)):Prop:=NK P op ty S w K
def xy(P:Program)(f:FuncId)(l:List Value)(w:World)(K:Value→World→Prop)(_:Tok (P,f,K)):Prop:=DF P f l w K
def Ea(P:Program)(f:FuncId)(l:List Value)(w:World)(K:Value→World→Prop)(Z:List PanicEntry→World→Prop)(_:Tok (P,f,K,Z)):Prop:=vx P f l w K Z
def Af(v:Value)(Z:List PanicEntry→Prop)(_:Tok (Z)):Prop:=rY v Z
def ts(P:Program)(x:Value)(l:List Value)(w:World)(K:Value→World→Prop)(_:Tok (P,K)):Prop:=xx P x l w K
def vl(t:TypeId)(cs:Array Value)(w:World)(K:Value→World→Prop)(_:Tok (t,K)):Prop:=Vf t cs w K
def D2(w:World)(K:Value→World→Prop)(_:Tok (K)):Prop:=Ve w K
def vj(P:Program)(b:eS)(Q:dM→Fr→World→Prop)(S:Fr)(w:World)(_:Tok (P,b,Q)):Prop:=MP P b Q S w
def hB(r:List lK)(S:Fr)(w:World)(K:List Value→Prop)(_:Tok (r,K)):Prop:=ni r S w K
def hR(N:Fr→World→Prop)(Q:dM→Fr→World→Prop)(_:Tok (N,Q)):dM→Fr→World→Prop:=tk N Q
def oz(i:Nat)(Q:dM→Fr→World→Prop)(_:Tok (i,Q)):dM→Fr→World→Prop:=x1 i Q
def sd(r:List lK)(R:Value→World→Prop)(_:Tok (r,R)):dM→Fr→World→Prop:=AT r R
def uf(r:List lK)(R:Value→World→Prop)(Z:List PanicEntry→World→Prop)(_:Tok (r,R,Z)):dM→Fr→World→Prop:=Pw r R Z
section
variable{P:Program}{Q:dM→Fr→World→Prop}{N cH:Fr→World→Prop}{gw:Fr→Prop}{aE:Value→Prop}{K:Value→World→Prop}{ka:List Value→Prop}{R:Value→World→Prop}{Z:List PanicEntry→World→Prop}{xP:List PanicEntry→Prop}{S:Fr}{w:World}{A B C:Prop}
set_option linter.unusedVariables false
theorem Lm  {t}:dQ P .skip Q S w t=Q .normal S w:=propext Iff.rfl
theorem Ln  {bX}{t}:dQ P (.bC bX) Q S w t=iI P bX S w (fun S w=>Q .normal S w) ⟨⟩:=propext Iff.rfl
theorem Lo  {bX}{t}:dQ P (.dO bX) Q S w t=kV P bX S w (fun S => ∀w',Ext w w'→Q .normal S w') ⟨⟩:=propext Iff.rfl
theorem Lp  {x}{t}:dQ P (.dU x) Q S w t=(∀w1,Ext w w1→fa P w1 x S w1 (fun S w=>Q .normal S w) ⟨⟩):=propext Iff.rfl
theorem Lq  {w0}{t}:fa P w0 .done S w cH t=cH S w:=propext Iff.rfl
theorem Lr  {w0}{t}:fa P w0 .nil S w cH t=True:=propext Iff.rfl
theorem Ls  {w0 s r}{t}:fa P w0 (.take s r) S w cH t=xl P w0 s S (fun S=>fa P w0 r S w cH ⟨⟩) ⟨⟩:=propext Iff.rfl
theorem Lt  {w0 s r}{t}:fa P w0 (.alt s r .nil) S w cH t=p6 P w0 s S w (fun S w=>fa P w0 r S w cH ⟨⟩) ⟨⟩:=and_true _
theorem Lu  {w0 s r gN hb jv}{t}:fa P w0 (.alt s r (.alt gN hb jv)) S w cH t=(p6 P w0 s S w (fun S w=>fa P w0 r S w cH ⟨⟩) ⟨⟩∧fa P w0 (.alt gN hb jv) S w cH ⟨⟩):=propext Iff.rfl
theorem Lv  {w0 s r gN hb jv}{t}:fa P w0 (.alt s r (.b0 gN hb jv)) S w cH t=(p6 P w0 s S w (fun S w=>fa P w0 r S w cH ⟨⟩) ⟨⟩∧fa P w0 (.b0 gN hb jv) S w cH ⟨⟩):=propext Iff.rfl
theorem Lx  {w0 s r}{t}:fa P w0 (.b0 s r .nil) S w cH t=qf P s S w (fun S w=>fa P w0 r S w cH ⟨⟩) ⟨⟩:=and_true _
theorem Ly  {w0 s r gN hb jv}{t}:fa P w0 (.b0 s r (.alt gN hb jv)) S w cH t=(qf P s S w (fun S w=>fa P w0 r S w cH ⟨⟩) ⟨⟩∧fa P w0 (.alt gN hb jv) S w cH ⟨⟩):=propext Iff.rfl
theorem Lz  {w0 s r gN hb jv}{t}:fa P w0 (.b0 s r (.b0 gN hb jv)) S w cH t=(qf P s S w (fun S w=>fa P w0 r S w cH ⟨⟩) ⟨⟩∧fa P w0 (.b0 gN hb jv) S w cH ⟨⟩):=propext Iff.rfl
theorem LA  {d i}{t}:qf P ⟨d,none,i⟩ S w cH t=lI P i S w (fun v w'=>cH (put S d v) w') ⟨⟩:=propext Iff.rfl
theorem LB  {d j b i}{t}:qf P ⟨d,some (j,b),i⟩ S w cH t=iv (S j) b (lI P i (b5 S j (.bool b)) w (fun v w'=>cH (put (b5 S j (.bool b)) d v) w') ⟨⟩) (cH (put (b5 S j (.bool (!b))) d undef) w) (cH (put S d undef) w) ⟨⟩:=propext Iff.rfl
theorem LC  {w0 d i}{t}:xl P w0 ⟨d,none,i⟩ S gw t=mM P i S w0 (fun v=>gw (put S d v)) ⟨⟩:=propext Iff.rfl
theorem LD  {w0 d j b i}{t}:xl P w0 ⟨d,some (j,b),i⟩ S gw t=iv (S j) b (mM P i (b5 S j (.bool b)) w0 (fun v=>gw (put (b5 S j (.bool b)) d v)) ⟨⟩) (gw (put (b5 S j (.bool (!b))) d undef)) (gw (put S d undef)) ⟨⟩:=propext Iff.rfl
theorem LF  {w0 d i}{t}:p6 P w0 ⟨d,none,i⟩ S w cH t=lI P i S w (fun v w'=>Ext w0 w'∧cH (put S d v) w') ⟨⟩:=propext Iff.rfl
theorem LG  {w0 d j b i}{t}:p6 P w0 ⟨d,some (j,b),i⟩ S w cH t=iv (S j) b (lI P i (b5 S j (.bool b)) w (fun v w'=>Ext w0 w'∧cH (put (b5 S j (.bool b)) d v) w') ⟨⟩) (cH (put (b5 S j (.bool (!b))) d undef) w) (cH (put S d undef) w) ⟨⟩:=propext Iff.rfl
theorem cu  {a b}{t}:dQ P (.seq a b) Q S w t=dQ P a (hR (fun S w=>dQ P b Q S w ⟨⟩) Q ⟨⟩) S w ⟨⟩:=propext Iff.rfl
theorem LH  {c x y}{t}:dQ P (.cond c x y) Q S w t=jd (a7 S c) (dQ P x Q S w ⟨⟩) (dQ P y Q S w ⟨⟩) ⟨⟩:=propext Iff.rfl
theorem LI  {id b}{t}:dQ P (.aV id b) Q S w t=dQ P b (oz id Q ⟨⟩) S w ⟨⟩:=propext Iff.rfl
theorem LJ  {id}{t}:dQ P (.exit id) Q S w t=Q (.exit id) S w:=propext Iff.rfl
theorem LK  {t}:dQ P .ret Q S w t=Q .ret S w:=propext Iff.rfl
theorem LL  {bX d f l}{t}:dQ P (.eQ bX d f l) Q S w t=iI P bX S w (fun S w=>Ea P f (l.map (a7 S)) w (fun v w'=>Q .normal (put S d v) w') (fun c w'=>Q (.fC c) S w') ⟨⟩) ⟨⟩:=propext Iff.rfl
theorem LM  {bX x}{t}:dQ P (.pM bX x) Q S w t=iI P bX S w (fun S w=>Af (a7 S x) (fun c=>Q (.fC c) S w) ⟨⟩) ⟨⟩:=propext Iff.rfl
theorem LN  {i:TypeId}{v:Value}{t}:Af (.iface i v) xP t=xP [{ v:=.iface i v,recovered:=false }]:=bt.adP i v xP
theorem LO  {c}{t}:hR N Q t (.fC c) S w=Q (.fC c) S w:=propext Iff.rfl
theorem LP{i}{c}{t}:oz i Q t (.fC c) S w=Q (.fC c) S w:=propext Iff.rfl
theorem LQ{r}{t}:uf r R Z t .normal S w=hB r S w (fun vs=>R (fS vs) w) ⟨⟩:=propext Iff.rfl
theorem qQ{r}{t}:uf r R Z t .ret S w=hB r S w (fun vs=>R (fS vs) w) ⟨⟩:=propext Iff.rfl
theorem LU{r}{c}{t}:uf r R Z t (.fC c) S w=Z c w:=propext Iff.rfl
theorem LV  {b}{t}:dQ P (.loop b) Q S w t=vj P b Q S w ⟨⟩:=propext Iff.rfl
theorem LW  {t}:hR N Q t .normal S w=N S w:=propext Iff.rfl
theorem LX  {i}{t}:hR N Q t (.exit i) S w=Q (.exit i) S w:=propext Iff.rfl
theorem LY  {t}:hR N Q t .ret S w=Q .ret S w:=propext Iff.rfl
theorem LZ{i}{t}:oz i Q t .normal S w=Q .normal S w:=propext Iff.rfl
theorem L0{i}{t}:oz i Q t .ret S w=Q .ret S w:=propext Iff.rfl
theorem L1{i}{j}{t}:oz i Q t (.exit j) S w=if j=i then Q .normal S w else Q (.exit j) S w:=propext Iff.rfl
theorem L2{r}{t}:sd r R t .normal S w=hB r S w (fun vs=>R (fS vs) w) ⟨⟩:=propext Iff.rfl
theorem L5{r}{t}:sd r R t .ret S w=hB r S w (fun vs=>R (fS vs) w) ⟨⟩:=propext Iff.rfl
theorem hT  {t}:iI P [] S w cH t=cH S w:=propext Iff.rfl
theorem cP  {d i r}{t}:iI P (⟨d,none,i⟩ :: r) S w cH t=og P i S w (fun v w'=>iI P r (put S d v) w' cH ⟨⟩) ⟨⟩:=propext Iff.rfl
theorem fz  {d j b i r}{t}:iI P (⟨d,some (j,b),i⟩ :: r) S w cH t=iv (S j) b (og P i (b5 S j (.bool b)) w (fun v w'=>iI P r (put (b5 S j (.bool b)) d v) w' cH ⟨⟩) ⟨⟩) (iI P r (put (b5 S j (.bool (!b))) d undef) w cH ⟨⟩) (iI P r (put S d undef) w cH ⟨⟩) ⟨⟩:=propext Iff.rfl
theorem dN  {t}:kV P [] S w gw t=gw S:=propext Iff.rfl
theorem h6  {d i r}{t}:kV P (⟨d,none,i⟩ :: r) S w gw t=mM P i S w (fun v=>kV P r (put S d v) w gw ⟨⟩) ⟨⟩:=propext Iff.rfl
theorem j7  {d j b i r}{t}:kV P (⟨d,some (j,b),i⟩ :: r) S w gw t=iv (S j) b (mM P i (b5 S j (.bool b)) w (fun v=>kV P r (put (b5 S j (.bool b)) d v) w gw ⟨⟩) ⟨⟩) (kV P r (put (b5 S j (.bool (!b))) d undef) w gw ⟨⟩) (kV P r (put S d undef) w gw ⟨⟩) ⟨⟩:=propext Iff.rfl
theorem gP  {i}{t}:lI P (.p i) S w K t=eh P i S (fun v=>K v w) ⟨⟩:=propext Iff.rfl
theorem jK  {i}{t}:lI P (.r i) S w K t=mN i S w (fun v=>K v w) ⟨⟩:=propext Iff.rfl
theorem j8  {i}{t}:lI P (.e i) S w K t=hj P i S w K ⟨⟩:=propext Iff.rfl
theorem Mb  {i}{t}:lI P (.c i) S w K t=ve P i S w K ⟨⟩:=propext Iff.rfl
theorem Mc  {i}{t}:og P (.p i) S w K t=eh P i S (fun v=>K v w) ⟨⟩:=propext Iff.rfl
theorem Md  {i}{t}:og P (.r i) S w K t=mN i S w (fun v=>K v w) ⟨⟩:=propext Iff.rfl
theorem Me  {i}{t}:og P (.e i) S w K t=hj P i S w K ⟨⟩:=propext Iff.rfl
theorem Mf  {i}{t}:og P (.c i) S w K t=vf P i S w K ⟨⟩:=propext Iff.rfl
theorem Mg  {i}{t}:mM P (.p i) S w aE t=eh P i S aE ⟨⟩:=propext Iff.rfl
theorem Mh  {i}{t}:mM P (.r i) S w aE t=mN i S w aE ⟨⟩:=propext Iff.rfl
theorem Mi  {i}{t}:mM P (.c i) S w aE t=vp P i S w aE ⟨⟩:=propext Iff.rfl
theorem Mj  {f l}{t}:vp P (.fn f l) S w aE t=D7 P f (l.map (a7 S)) w aE ⟨⟩:=propext Iff.rfl
theorem Mk  {x l}{t}:vp P (.val x l) S w aE t=Ag P (a7 S x) (l.map (a7 S)) w aE ⟨⟩:=propext Iff.rfl
theorem Ml  {t}:iv (.bool true) true A B C t=A:=bt.YD A B C
theorem H1  {t}:iv (.bool true) false A B C t=B:=bt.YC A B C
theorem Mm  {t}:iv (.bool false) true A B C t=B:=bt.YB A B C
theorem Mn  {t}:iv (.bool false) false A B C t=A:=bt.YA A B C
theorem Mo  (u:Bool){t}:iv undef u A B C t=C:=bt.YE u A B C
theorem Mp  (u:Bool){t}:iv (.bool u) true A B C t=jd (.bool u) A B ⟨⟩:=(bt.P0 u true A B C).trans (by rfl)
theorem Mq  (u:Bool){t}:iv (.bool u) false A B C t=jd (.bool u) B A ⟨⟩:=(bt.P0 u false A B C).trans (by rfl)
theorem Mr  {t}:jd (.bool true) A B t=A:=WJ A B
theorem Ms  {t}:jd (.bool false) A B t=B:=WH A B
theorem Mt  (u:Bool){t}:jd (.bool (!u)) A B t=jd (.bool u) B A ⟨⟩:=WI u A B
theorem Mu  {x}{t}:eh P (.oS x) S aE t=aE (a7 S x):=propext Iff.rfl
theorem Mv  {c x y}{t}:eh P (.pick c x y) S aE t=jd (a7 S c) (aE (a7 S x)) (aE (a7 S y)) ⟨⟩:=propext Iff.rfl
theorem Mw  {op ty x y}{t}:eh P (.bin op ty x y) S aE t=gv P op ty x y (a7 S x) (a7 S y) aE ⟨⟩:=propext Iff.rfl
theorem Mx  {op x}{t}:eh P (.un op x) S aE t=vy op (a7 S x) aE ⟨⟩:=propext Iff.rfl
theorem My  {k x}{t}:eh P (.vK k x) S aE t=zU k (a7 S x) aE ⟨⟩:=propext Iff.rfl
theorem Mz  {n x}{t}:eh P (.hF n x) S aE t=zY n (a7 S x) aE ⟨⟩:=propext Iff.rfl
theorem MA  {n x y}{t}:eh P (.hv n x y) S aE t=xD n (a7 S x) (a7 S y) aE ⟨⟩:=propext Iff.rfl
theorem MB  {m n x y}{t}:eh P (.yT m n x y) S aE t=DP m n (a7 S x) (a7 S y) aE ⟨⟩:=propext Iff.rfl
theorem MC  {x y}{t}:eh P (.kr x y) S aE t=DS (a7 S x) (a7 S y) aE ⟨⟩:=propext Iff.rfl
theorem MD  {n x y}{t}:eh P (.uP n x y) S aE t=DR n (a7 S x) (a7 S y) aE ⟨⟩:=propext Iff.rfl
theorem ME  {n x}{t}:eh P (.ki n x) S aE t=DN n (a7 S x) aE ⟨⟩:=propext Iff.rfl
theorem MF  {n m x}{t}:eh P (.AZ n m x) S aE t=zZ n m (a7 S x) aE ⟨⟩:=propext Iff.rfl
theorem MG  {z pl c6}{t}:eh P (.cA z pl c6) S aE t=DD S z pl c6 aE ⟨⟩:=propext Iff.rfl
theorem MH  {f a b}{t}:eh P (.j0 f a b) S aE t=aE (.func (.func f) (a.map (a7 S)).toArray (b.map (a7 S)).toArray):=propext Iff.rfl
theorem MI  {n x aZ ad mx}{t}:eh P (.iH n x aZ ad mx) S aE t=r0 S n (a7 S x) aZ ad mx aE ⟨⟩:=propext Iff.rfl
theorem MJ  {x aZ ad}{t}:eh P (.u9 x aZ ad) S aE t=D9 S (a7 S x) aZ ad aE ⟨⟩:=propext Iff.rfl
theorem MK  {x n}{t}:eh P (.ext x n) S aE t=rU (a7 S x) n aE ⟨⟩:=propext Iff.rfl
theorem ML  {x}{t}:eh P (.mA x) S aE t=z6 (a7 S x) aE ⟨⟩:=propext Iff.rfl
theorem MM  {x}{t}:eh P (.y2 x) S aE t=z1 (a7 S x) aE ⟨⟩:=propext Iff.rfl
theorem MN  {x}{t}:eh P (.Ay x) S aE t=zS (a7 S x) aE ⟨⟩:=propext Iff.rfl
theorem MQ  {v}{t}:eh P (.BY v) S aE t=aE v:=propext Iff.rfl
theorem MR  {x y}{t}:eh P (.rD x y) S aE t=z7 (a7 S x) (a7 S y) aE ⟨⟩:=propext Iff.rfl
theorem M2  {x y}{t}:eh P (.s0 x y) S aE t=z8 (a7 S x) (a7 S y) aE ⟨⟩:=propext Iff.rfl
theorem MS  {n x}{t}:eh P (.zj n x) S aE t=aE (.iface n (a7 S x)):=propext Iff.rfl
theorem MT  {x}{t}:eh P (.zm x) S aE t=vn (a7 S x) aE ⟨⟩:=propext Iff.rfl
theorem MU  {x}{t}:mN (.ld x) S w aE t=o7 (a7 S x) w aE ⟨⟩:=propext Iff.rfl
theorem MV  {n x}{t}:mN (.iZ n x) S w aE t=qS n (a7 S x) w aE ⟨⟩:=propext Iff.rfl
theorem MW  {d z ok m k}{t}:mN (.lp d z ok m k) S w aE t=xE d z ok (a7 S m) (a7 S k) w aE ⟨⟩:=propext Iff.rfl
theorem MX  {x}{t}:mN (.wN x) S w aE t=DX (a7 S x) w aE ⟨⟩:=propext Iff.rfl
theorem MY  {n x}{t}:hj P (.box n x) S w K t=vl n (a7 S x).cells w K ⟨⟩:=propext Iff.rfl
theorem M1  {n z}{t}:hj P (.new n z) S w K t=vl n z.cells w K ⟨⟩:=propext Iff.rfl
theorem M3  {x v}{t}:hj P (.st x v) S w K t=qV (a7 S x) (a7 S v) w (K undef) ⟨⟩:=propext Iff.rfl
theorem M4  {n x v}{t}:hj P (.qL n x v) S w K t=Ak n (a7 S x) (a7 S v) w (K undef) ⟨⟩:=propext Iff.rfl
theorem M5  {t}:hj P .oR S w K t=D2 w K ⟨⟩:=propext Iff.rfl
theorem M6  {e n b z l c}{t}:hj P (.uZ e n b z l c) S w K t=Aa e n b z (a7 S l) (a7 S c) w K ⟨⟩:=propext Iff.rfl
theorem M7  {e l n z c6}{t}:hj P (.cQ e l n z c6) S w K t=zR S e l n z c6 w K ⟨⟩:=propext Iff.rfl
theorem M8  {ty e n b s x}{t}:hj P (.app ty e n b s x) S w K t=j5 P ty e n b (a7 S s) (a7 S x) w K ⟨⟩:=propext Iff.rfl
theorem M9  {d m k v}{t}:hj P (.hZ d m k v) S w K t=vk d (a7 S m) (a7 S k) (a7 S v) w (K undef) ⟨⟩:=propext Iff.rfl
theorem Na  {x}{t}:hj P (.u6 x) S w K t=D8 (a7 S x) w K ⟨⟩:=propext Iff.rfl
theorem Nb  {x}{t}:hj P (.u4 x) S w K t=D5 (a7 S x) w K ⟨⟩:=propext Iff.rfl
theorem Nf  {op ty}{t}:hj P (.raw op ty) S w K t=tF P op ty S w K ⟨⟩:=propext Iff.rfl
theorem Ng  {f l}{t}:ve P (.fn f l) S w K t=xy P f (l.map (a7 S)) w K ⟨⟩:=propext Iff.rfl
theorem Nh  {x l}{t}:ve P (.val x l) S w K t=ts P (a7 S x) (l.map (a7 S)) w K ⟨⟩:=propext Iff.rfl
theorem Ni  {f l}{t}:vf P (.fn f l) S w K t=xy P f (l.map (a7 S)) w K ⟨⟩:=propext Iff.rfl
theorem Nj  {x l}{t}:vf P (.val x l) S w K t=vg P (a7 S x) (l.map (a7 S)) w K ⟨⟩:=propext Iff.rfl
theorem Nk  {ty cZ c9}(k:IntKind)(a b:Int){t}:gv P .lss ty cZ c9 (.int k a) (.int k b) aE t=aE (.bool (decide (a<b))):=Wd k a b
theorem Nl  {ty cZ c9}(k:IntKind)(a b:Int){t}:gv P .leq ty cZ c9 (.int k a) (.int k b) aE t=aE (.bool (decide (a≤b))):=Wc k a b
theorem Nn  {ty cZ c9}(k:IntKind)(a b:Int){t}:gv P .gtr ty cZ c9 (.int k a) (.int k b) aE t=aE (.bool (decide (b<a))):=Wb k a b
theorem No  {ty cZ c9}(k:IntKind)(a b:Int){t}:gv P .geq ty cZ c9 (.int k a) (.int k b) aE t=aE (.bool (decide (b≤a))):=Wa k a b
theorem Np  {ty cZ c9}(k:IntKind)(a b:Int){t}:gv P .eql ty cZ c9 (.int k a) (.int k b) aE t=aE (.bool (decide (a=b))):=V9 k a b
theorem Nq  {ty cZ c9}(k:IntKind)(a b:Int){t}:gv P .neq ty cZ c9 (.int k a) (.int k b) aE t=aE (.bool (!decide (a=b))):=(Wf k a b).trans (by simp)
theorem Nr  {ty cZ c9}(k:IntKind)(a b:Int){t}:gv P .add ty cZ c9 (.int k a) (.int k b) aE t=mQ k (a+b) aE ⟨⟩:=V8 k a b
theorem Ns  {ty cZ c9}(k:IntKind)(a b:Int){t}:gv P .sub ty cZ c9 (.int k a) (.int k b) aE t=mQ k (a - b) aE ⟨⟩:=Wk k a b
theorem Nt  {ty cZ c9}(k:IntKind)(a b:Int){t}:gv P .mul ty cZ c9 (.int k a) (.int k b) aE t=mQ k (a*b) aE ⟨⟩:=We k a b
theorem Nu  {ty cZ c9}(a b:ByteArray){t}:gv P .eql ty cZ c9 (.string a) (.string b) aE t=aE (.bool (decide (a=b))):=Wi a b
theorem Nv  {ty cZ c9}(a b:ByteArray){t}:gv P .neq ty cZ c9 (.string a) (.string b) aE t=aE (.bool (!decide (a=b))):=(Wj a b).trans (by simp)
theorem Nw  (b:Bool){t}:vy .not (.bool b) aE t=aE (.bool (!b)):=propext Iff.rfl
theorem Nx  (k:IntKind)(n:Int){t}:vy .neg (.int k n) aE t=mQ k (0 - n) aE ⟨⟩:=propext Iff.rfl
theorem Ny  (k q:IntKind)(n:Int){t}:zU k (.int q n) aE t=mQ k n aE ⟨⟩:=Xk k q n aE
theorem Nz  (n:Nat)(a:Addr){t}:zY n (.pointer (some a)) aE t=aE (.pointer (some (a.add n))):=Yo n a aE
theorem NB  (v:Value)(vs:List Value){t}:rU (.tuple (v :: vs).toArray) 0 aE t=aE v:=Yb v vs aE
theorem Ah  (v u:Value)(vs:List Value){t}:rU (.tuple (v :: u :: vs).toArray) 1 aE t=aE u:=Yc v u vs aE
theorem Ai  (v u x:Value)(vs:List Value){t}:rU (.tuple (v :: u :: x :: vs).toArray) 2 aE t=aE x:=Yd v u x vs aE
theorem NC  (s:ByteArray){t}:z6 (.string s) aE t=aE (.int .i64 s.size):=acs s aE
theorem ND  (a:Option Addr)(n c:Nat){t}:z1 (.slice a n c) aE t=aE (.int .i64 n):=acq a n c aE
theorem NF  (a:Option Addr)(n c:Nat){t}:zS (.slice a n c) aE t=aE (.int .i64 c):=WA a n c aE
theorem NG  (k q:IntKind)(a b:Int){t}:z7 (.int k a) (.int q b) aE t=aE (.int k (max a b)):=acG k q a b aE
theorem NH  (k q:IntKind)(a b:Int){t}:z8 (.int k a) (.int q b) aE t=aE (.int k (min a b)):=acL k q a b aE
theorem NI  (m n:Nat)(cs:Array Value){t}:zZ m n (.agg cs) aE t=aE (.agg (cs.extract m (m+n))):=Yv m n cs aE
theorem NJ  (a:Addr){t}:vn (.pointer (some a)) aE t=aE (.pointer (some a)):=propext Iff.rfl
theorem NP  (f:FuncId)(a b:Array Value){t}:vn (.func (.func f) a b) aE t=aE (.func (.func f) a b):=propext Iff.rfl
theorem NQ  {t}:hB [] S w ka t=ka []:=propext Iff.rfl
theorem NR  {n r}{t}:hB (.tmp n :: r) S w ka t=hB r S w (fun vs=>ka (S n :: vs)) ⟨⟩:=propext Iff.rfl
theorem NS  {n r}{t}:hB (.cell n :: r) S w ka t=o7 (S n) w (fun v=>hB r S w (fun vs=>ka (v :: vs)) ⟨⟩) ⟨⟩:=propext Iff.rfl
theorem NT  {m n r}{t}:hB (.hC m n :: r) S w ka t=qS m (S n) w (fun v=>hB r S w (fun vs=>ka (v :: vs)) ⟨⟩) ⟨⟩:=propext Iff.rfl
theorem NU{S:Fr}{d:Nat}{v:Value}:put S (some d) v=b5 S d v:=eq_of_heq (heq_of_eq (ha S d v))
theorem NV{S:Fr}{v:Value}:put S none v=S:=eq_of_heq (heq_of_eq (Ti S v))
theorem NW{S:Fr}{d t:Nat}{v:Value}:b5 S d v t=if t=d then v else S t:=eq_of_heq (heq_of_eq (cb S d t v))
theorem NX{S:Fr}{t:Nat}:a7 S (.tmp t)=S t:=eq_of_heq (heq_of_eq (fr S t))
theorem NY{S:Fr}{v:Value}:a7 S (.const v)=v:=eq_of_heq (heq_of_eq (nC S v))
theorem N0{S:Fr}{g:Nat}:a7 S (.global g) = .pointer (some ⟨g,0,none⟩):=eq_of_heq (heq_of_eq (XZ S g))
theorem N1{S:Fr}{f:Nat}:a7 S (.func f) = .func (.func f) #[] #[]:=eq_of_heq (heq_of_eq (se S f))
theorem N2{k:Nat}:gU [] k=fun _=>undef:=eq_of_heq (heq_of_eq (k7 k))
theorem N3{v:Value}{vs:List Value}{k:Nat}:gU (v :: vs) k=b5 (gU vs (k+1)) k v:=eq_of_heq (heq_of_eq (ij v vs k))
theorem N4  : fS [] = .tuple #[]:=eq_of_heq (heq_of_eq (af3 ..))
theorem N5  (v:Value):fS [v]=v:=eq_of_heq (heq_of_eq (af4 ..))
theorem N6  (v u:Value):fS [v,u] = .tuple #[v,u]:=eq_of_heq (heq_of_eq (af5 ..))
theorem N7  (v u x:Value):fS [v,u,x] = .tuple #[v,u,x]:=eq_of_heq (heq_of_eq (af6 ..))
theorem N8  (a:Option Addr)(n c:Nat):(Value.slice a n c).cells=#[.slice a n c]:=eq_of_heq (heq_of_eq (WW ..))
theorem N9  (k:IntKind)(n:Int):(Value.int k n).cells=#[.int k n]:=eq_of_heq (heq_of_eq (WR ..))
theorem Oa  (b:Bool):(Value.bool b).cells=#[.bool b]:=eq_of_heq (heq_of_eq (WN ..))
theorem Ob  (s:ByteArray):(Value.string s).cells=#[.string s]:=eq_of_heq (heq_of_eq (WX ..))
theorem Oc  (a:Option Addr):(Value.pointer a).cells=#[.pointer a]:=eq_of_heq (heq_of_eq (WV ..))
theorem Od  (a:Option Nat):(Value.map a).cells=#[.map a]:=eq_of_heq (heq_of_eq (WS ..))
theorem Oe  (f:Fn)(a b:Array Value):(Value.func f a b).cells=#[.func f a b]:=eq_of_heq (heq_of_eq (WQ ..))
theorem Of  (cs:Array Value):(Value.agg cs).cells=cs:=eq_of_heq (heq_of_eq (WM ..))
theorem Og{α β:Type}{f:α→β}{a:α}{l:List α}:(a :: l).map f=f a :: l.map f:=eq_of_heq (heq_of_eq (List.map_cons))
theorem Oh{α β:Type}{f:α→β}:([]:List α).map f=[]:=eq_of_heq (heq_of_eq (List.map_nil))
theorem Oi  : (!true)=false:=eq_of_heq (heq_of_eq (Bool.not_true))
theorem Oj  : (!false)=true:=eq_of_heq (heq_of_eq (Bool.not_false))
theorem Ol{h:Decidable True}:decide True=true:=eq_of_heq (heq_of_eq (decide_true h))
theorem jh{h:Decidable False}:decide False=false:=eq_of_heq (heq_of_eq (decide_false h))
theorem fp{α:Type}{a b:α}{h:Decidable True}:(if True then a else b)=a:=eq_of_heq (heq_of_eq (if_true a b))
theorem mh{α:Type}{a b:α}{h:Decidable False}:(if False then a else b)=b:=eq_of_heq (heq_of_eq (if_false a b))
end
theorem cI:((((((((∀{P:Program} {Q:dM→Fr→World→Prop} {S:Fr} {w:World}  {t},dQ P .skip Q S w t=Q .normal S w) ∧
(∀{P:Program} {Q:dM→Fr→World→Prop} {S:Fr} {w:World}  {bX} {t},dQ P (.bC bX) Q S w t=iI P bX S w (fun S w=>Q .normal S w) ⟨⟩)) ∧
((∀{P:Program} {Q:dM→Fr→World→Prop} {S:Fr} {w:World}  {bX} {t},dQ P (.dO bX) Q S w t=kV P bX S w (fun S => ∀w',Ext w w'→Q .normal S w') ⟨⟩) ∧
((∀{P:Program} {Q:dM→Fr→World→Prop} {S:Fr} {w:World}  {x} {t},dQ P (.dU x) Q S w t=(∀w1,Ext w w1→fa P w1 x S w1 (fun S w=>Q .normal S w) ⟨⟩)) ∧
(∀{P:Program} {cH:Fr→World→Prop} {S:Fr} {w:World}  {w0} {t},fa P w0 .done S w cH t=cH S w)))) ∧
(((∀{P:Program} {cH:Fr→World→Prop} {S:Fr} {w:World}  {w0} {t},fa P w0 .nil S w cH t=True) ∧
(∀{P:Program} {cH:Fr→World→Prop} {S:Fr} {w:World}  {w0 s r} {t},fa P w0 (.take s r) S w cH t=xl P w0 s S (fun S=>fa P w0 r S w cH ⟨⟩) ⟨⟩)) ∧
((∀{P:Program} {cH:Fr→World→Prop} {S:Fr} {w:World}  {w0 s r} {t},fa P w0 (.alt s r .nil) S w cH t=p6 P w0 s S w (fun S w=>fa P w0 r S w cH ⟨⟩) ⟨⟩) ∧
((∀{P:Program} {cH:Fr→World→Prop} {S:Fr} {w:World}  {w0 s r gN hb jv} {t},fa P w0 (.alt s r (.alt gN hb jv)) S w cH t=(p6 P w0 s S w (fun S w=>fa P w0 r S w cH ⟨⟩) ⟨⟩∧fa P w0 (.alt gN hb jv) S w cH ⟨⟩)) ∧
(∀{P:Program} {cH:Fr→World→Prop} {S:Fr} {w:World}  {w0 s r gN hb jv} {t},fa P w0 (.alt s r (.b0 gN hb jv)) S w cH t=(p6 P w0 s S w (fun S w=>fa P w0 r S w cH ⟨⟩) ⟨⟩∧fa P w0 (.b0 gN hb jv) S w cH ⟨⟩)))))) ∧
((((∀{P:Program} {cH:Fr→World→Prop} {S:Fr} {w:World}  {w0 s r} {t},fa P w0 (.b0 s r .nil) S w cH t=qf P s S w (fun S w=>fa P w0 r S w cH ⟨⟩) ⟨⟩) ∧
(∀{P:Program} {cH:Fr→World→Prop} {S:Fr} {w:World}  {w0 s r gN hb jv} {t},fa P w0 (.b0 s r (.alt gN hb jv)) S w cH t=(qf P s S w (fun S w=>fa P w0 r S w cH ⟨⟩) ⟨⟩∧fa P w0 (.alt gN hb jv) S w cH ⟨⟩))) ∧
((∀{P:Program} {cH:Fr→World→Prop} {S:Fr} {w:World}  {w0 s r gN hb jv} {t},fa P w0 (.b0 s r (.b0 gN hb jv)) S w cH t=(qf P s S w (fun S w=>fa P w0 r S w cH ⟨⟩) ⟨⟩∧fa P w0 (.b0 gN hb jv) S w cH ⟨⟩)) ∧
((∀{P:Program} {cH:Fr→World→Prop} {S:Fr} {w:World}  {d i} {t},qf P ⟨d,none,i⟩ S w cH t=lI P i S w (fun v w'=>cH (put S d v) w') ⟨⟩) ∧
(∀{P:Program} {cH:Fr→World→Prop} {S:Fr} {w:World}  {d j b i} {t},qf P ⟨d,some (j,b),i⟩ S w cH t=iv (S j) b (lI P i (b5 S j (.bool b)) w (fun v w'=>cH (put (b5 S j (.bool b)) d v) w') ⟨⟩) (cH (put (b5 S j (.bool (!b))) d undef) w) (cH (put S d undef) w) ⟨⟩)))) ∧
(((∀{P:Program} {gw:Fr→Prop} {S:Fr}  {w0 d i} {t},xl P w0 ⟨d,none,i⟩ S gw t=mM P i S w0 (fun v=>gw (put S d v)) ⟨⟩) ∧
((∀{P:Program} {gw:Fr→Prop} {S:Fr}  {w0 d j b i} {t},xl P w0 ⟨d,some (j,b),i⟩ S gw t=iv (S j) b (mM P i (b5 S j (.bool b)) w0 (fun v=>gw (put (b5 S j (.bool b)) d v)) ⟨⟩) (gw (put (b5 S j (.bool (!b))) d undef)) (gw (put S d undef)) ⟨⟩) ∧
(∀{P:Program} {cH:Fr→World→Prop} {S:Fr} {w:World}  {w0 d i} {t},p6 P w0 ⟨d,none,i⟩ S w cH t=lI P i S w (fun v w'=>Ext w0 w'∧cH (put S d v) w') ⟨⟩))) ∧
((∀{P:Program} {cH:Fr→World→Prop} {S:Fr} {w:World}  {w0 d j b i} {t},p6 P w0 ⟨d,some (j,b),i⟩ S w cH t=iv (S j) b (lI P i (b5 S j (.bool b)) w (fun v w'=>Ext w0 w'∧cH (put (b5 S j (.bool b)) d v) w') ⟨⟩) (cH (put (b5 S j (.bool (!b))) d undef) w) (cH (put S d undef) w) ⟨⟩) ∧
((∀{P:Program} {Q:dM→Fr→World→Prop} {S:Fr} {w:World}  {c x y} {t},dQ P (.cond c x y) Q S w t=jd (a7 S c) (dQ P x Q S w ⟨⟩) (dQ P y Q S w ⟨⟩) ⟨⟩) ∧
(∀{P:Program} {Q:dM→Fr→World→Prop} {S:Fr} {w:World}  {id b} {t},dQ P (.aV id b) Q S w t=dQ P b (oz id Q ⟨⟩) S w ⟨⟩)))))) ∧
(((((∀{P:Program} {Q:dM→Fr→World→Prop} {S:Fr} {w:World}  {id} {t},dQ P (.exit id) Q S w t=Q (.exit id) S w) ∧
(∀{P:Program} {Q:dM→Fr→World→Prop} {S:Fr} {w:World}  {t},dQ P .ret Q S w t=Q .ret S w)) ∧
((∀{P:Program} {Q:dM→Fr→World→Prop} {S:Fr} {w:World}  {bX d f l} {t},dQ P (.eQ bX d f l) Q S w t=iI P bX S w (fun S w=>Ea P f (l.map (a7 S)) w (fun v w'=>Q .normal (put S d v) w') (fun c w'=>Q (.fC c) S w') ⟨⟩) ⟨⟩) ∧
((∀{P:Program} {Q:dM→Fr→World→Prop} {S:Fr} {w:World}  {bX x} {t},dQ P (.pM bX x) Q S w t=iI P bX S w (fun S w=>Af (a7 S x) (fun c=>Q (.fC c) S w) ⟨⟩) ⟨⟩) ∧
(∀{xP:List PanicEntry→Prop}  {i:TypeId} {v:Value} {t},Af (.iface i v) xP t=xP [{ v:=.iface i v,recovered:=false }])))) ∧
(((∀{Q:dM→Fr→World→Prop} {N:Fr→World→Prop} {S:Fr} {w:World}  {c} {t},hR N Q t (.fC c) S w=Q (.fC c) S w) ∧
((∀{Q:dM→Fr→World→Prop} {S:Fr} {w:World} {i} {c} {t},oz i Q t (.fC c) S w=Q (.fC c) S w) ∧
(∀{Z:List PanicEntry→World→Prop} {R:Value→World→Prop} {S:Fr} {w:World} {r} {t},uf r R Z t .normal S w=hB r S w (fun vs=>R (fS vs) w) ⟨⟩))) ∧
((∀{Z:List PanicEntry→World→Prop} {R:Value→World→Prop} {S:Fr} {w:World} {r} {t},uf r R Z t .ret S w=hB r S w (fun vs=>R (fS vs) w) ⟨⟩) ∧
((∀{Z:List PanicEntry→World→Prop} {R:Value→World→Prop} {S:Fr} {w:World} {r} {c} {t},uf r R Z t (.fC c) S w=Z c w) ∧
(∀{P:Program} {Q:dM→Fr→World→Prop} {S:Fr} {w:World}  {b} {t},dQ P (.loop b) Q S w t=vj P b Q S w ⟨⟩))))) ∧
((((∀{Q:dM→Fr→World→Prop} {N:Fr→World→Prop} {S:Fr} {w:World}  {t},hR N Q t .normal S w=N S w) ∧
(∀{Q:dM→Fr→World→Prop} {N:Fr→World→Prop} {S:Fr} {w:World}  {i} {t},hR N Q t (.exit i) S w=Q (.exit i) S w)) ∧
((∀{Q:dM→Fr→World→Prop} {N:Fr→World→Prop} {S:Fr} {w:World}  {t},hR N Q t .ret S w=Q .ret S w) ∧
((∀{Q:dM→Fr→World→Prop} {S:Fr} {w:World} {i} {t},oz i Q t .normal S w=Q .normal S w) ∧
(∀{Q:dM→Fr→World→Prop} {S:Fr} {w:World} {i} {t},oz i Q t .ret S w=Q .ret S w)))) ∧
(((∀{Q:dM→Fr→World→Prop} {S:Fr} {w:World} {i} {j} {t},oz i Q t (.exit j) S w=if j=i then Q .normal S w else Q (.exit j) S w) ∧
((∀{R:Value→World→Prop} {S:Fr} {w:World} {r} {t},sd r R t .normal S w=hB r S w (fun vs=>R (fS vs) w) ⟨⟩) ∧
(∀{R:Value→World→Prop} {S:Fr} {w:World} {r} {t},sd r R t .ret S w=hB r S w (fun vs=>R (fS vs) w) ⟨⟩))) ∧
((∀{P:Program} {cH:Fr→World→Prop} {S:Fr} {w:World}  {t},iI P [] S w cH t=cH S w) ∧
((∀{P:Program} {cH:Fr→World→Prop} {S:Fr} {w:World}  {d i r} {t},iI P (⟨d,none,i⟩ :: r) S w cH t=og P i S w (fun v w'=>iI P r (put S d v) w' cH ⟨⟩) ⟨⟩) ∧
(∀{P:Program} {cH:Fr→World→Prop} {S:Fr} {w:World}  {d j b i r} {t},iI P (⟨d,some (j,b),i⟩ :: r) S w cH t=iv (S j) b (og P i (b5 S j (.bool b)) w (fun v w'=>iI P r (put (b5 S j (.bool b)) d v) w' cH ⟨⟩) ⟨⟩) (iI P r (put (b5 S j (.bool (!b))) d undef) w cH ⟨⟩) (iI P r (put S d undef) w cH ⟨⟩) ⟨⟩))))))) ∧
((((((∀{P:Program} {gw:Fr→Prop} {S:Fr} {w:World}  {t},kV P [] S w gw t=gw S) ∧
(∀{P:Program} {gw:Fr→Prop} {S:Fr} {w:World}  {d i r} {t},kV P (⟨d,none,i⟩ :: r) S w gw t=mM P i S w (fun v=>kV P r (put S d v) w gw ⟨⟩) ⟨⟩)) ∧
((∀{P:Program} {gw:Fr→Prop} {S:Fr} {w:World}  {d j b i r} {t},kV P (⟨d,some (j,b),i⟩ :: r) S w gw t=iv (S j) b (mM P i (b5 S j (.bool b)) w (fun v=>kV P r (put (b5 S j (.bool b)) d v) w gw ⟨⟩) ⟨⟩) (kV P r (put (b5 S j (.bool (!b))) d undef) w gw ⟨⟩) (kV P r (put S d undef) w gw ⟨⟩) ⟨⟩) ∧
((∀{P:Program} {K:Value→World→Prop} {S:Fr} {w:World}  {i} {t},lI P (.p i) S w K t=eh P i S (fun v=>K v w) ⟨⟩) ∧
(∀{P:Program} {K:Value→World→Prop} {S:Fr} {w:World}  {i} {t},lI P (.r i) S w K t=mN i S w (fun v=>K v w) ⟨⟩)))) ∧
(((∀{P:Program} {K:Value→World→Prop} {S:Fr} {w:World}  {i} {t},lI P (.e i) S w K t=hj P i S w K ⟨⟩) ∧
(∀{P:Program} {K:Value→World→Prop} {S:Fr} {w:World}  {i} {t},lI P (.c i) S w K t=ve P i S w K ⟨⟩)) ∧
((∀{P:Program} {K:Value→World→Prop} {S:Fr} {w:World}  {i} {t},og P (.p i) S w K t=eh P i S (fun v=>K v w) ⟨⟩) ∧
((∀{P:Program} {K:Value→World→Prop} {S:Fr} {w:World}  {i} {t},og P (.r i) S w K t=mN i S w (fun v=>K v w) ⟨⟩) ∧
(∀{P:Program} {K:Value→World→Prop} {S:Fr} {w:World}  {i} {t},og P (.e i) S w K t=hj P i S w K ⟨⟩))))) ∧
((((∀{P:Program} {K:Value→World→Prop} {S:Fr} {w:World}  {i} {t},og P (.c i) S w K t=vf P i S w K ⟨⟩) ∧
(∀{P:Program} {aE:Value→Prop} {S:Fr} {w:World}  {i} {t},mM P (.p i) S w aE t=eh P i S aE ⟨⟩)) ∧
((∀{P:Program} {aE:Value→Prop} {S:Fr} {w:World}  {i} {t},mM P (.r i) S w aE t=mN i S w aE ⟨⟩) ∧
((∀{P:Program} {aE:Value→Prop} {S:Fr} {w:World}  {i} {t},mM P (.c i) S w aE t=vp P i S w aE ⟨⟩) ∧
(∀{P:Program} {aE:Value→Prop} {S:Fr} {w:World}  {f l} {t},vp P (.fn f l) S w aE t=D7 P f (l.map (a7 S)) w aE ⟨⟩)))) ∧
(((∀{P:Program} {aE:Value→Prop} {S:Fr} {w:World}  {x l} {t},vp P (.val x l) S w aE t=Ag P (a7 S x) (l.map (a7 S)) w aE ⟨⟩) ∧
((∀{A:Prop} {B:Prop} {C:Prop}  {t},iv (.bool true) true A B C t=A) ∧
(∀{A:Prop} {B:Prop} {C:Prop}  {t},iv (.bool true) false A B C t=B))) ∧
((∀{A:Prop} {B:Prop} {C:Prop}  {t},iv (.bool false) true A B C t=B) ∧
((∀{A:Prop} {B:Prop} {C:Prop}  {t},iv (.bool false) false A B C t=A) ∧
(∀{A:Prop} {B:Prop} {C:Prop}  (u:Bool) {t},iv undef u A B C t=C)))))) ∧
(((((∀{A:Prop} {B:Prop} {C:Prop}  (u:Bool) {t},iv (.bool u) true A B C t=jd (.bool u) A B ⟨⟩) ∧
(∀{A:Prop} {B:Prop} {C:Prop}  (u:Bool) {t},iv (.bool u) false A B C t=jd (.bool u) B A ⟨⟩)) ∧
((∀{A:Prop} {B:Prop}  {t},jd (.bool true) A B t=A) ∧
((∀{A:Prop} {B:Prop}  {t},jd (.bool false) A B t=B) ∧
(∀{A:Prop} {B:Prop}  (u:Bool) {t},jd (.bool (!u)) A B t=jd (.bool u) B A ⟨⟩)))) ∧
(((∀{P:Program} {aE:Value→Prop} {S:Fr}  {x} {t},eh P (.oS x) S aE t=aE (a7 S x)) ∧
((∀{P:Program} {aE:Value→Prop} {S:Fr}  {c x y} {t},eh P (.pick c x y) S aE t=jd (a7 S c) (aE (a7 S x)) (aE (a7 S y)) ⟨⟩) ∧
(∀{P:Program} {aE:Value→Prop} {S:Fr}  {op ty x y} {t},eh P (.bin op ty x y) S aE t=gv P op ty x y (a7 S x) (a7 S y) aE ⟨⟩))) ∧
((∀{P:Program} {aE:Value→Prop} {S:Fr}  {op x} {t},eh P (.un op x) S aE t=vy op (a7 S x) aE ⟨⟩) ∧
((∀{P:Program} {aE:Value→Prop} {S:Fr}  {k x} {t},eh P (.vK k x) S aE t=zU k (a7 S x) aE ⟨⟩) ∧
(∀{P:Program} {aE:Value→Prop} {S:Fr}  {n x} {t},eh P (.hF n x) S aE t=zY n (a7 S x) aE ⟨⟩))))) ∧
((((∀{P:Program} {aE:Value→Prop} {S:Fr}  {n x y} {t},eh P (.hv n x y) S aE t=xD n (a7 S x) (a7 S y) aE ⟨⟩) ∧
(∀{P:Program} {aE:Value→Prop} {S:Fr}  {m n x y} {t},eh P (.yT m n x y) S aE t=DP m n (a7 S x) (a7 S y) aE ⟨⟩)) ∧
((∀{P:Program} {aE:Value→Prop} {S:Fr}  {x y} {t},eh P (.kr x y) S aE t=DS (a7 S x) (a7 S y) aE ⟨⟩) ∧
((∀{P:Program} {aE:Value→Prop} {S:Fr}  {n x y} {t},eh P (.uP n x y) S aE t=DR n (a7 S x) (a7 S y) aE ⟨⟩) ∧
(∀{P:Program} {aE:Value→Prop} {S:Fr}  {n x} {t},eh P (.ki n x) S aE t=DN n (a7 S x) aE ⟨⟩)))) ∧
(((∀{P:Program} {aE:Value→Prop} {S:Fr}  {n m x} {t},eh P (.AZ n m x) S aE t=zZ n m (a7 S x) aE ⟨⟩) ∧
((∀{P:Program} {aE:Value→Prop} {S:Fr}  {z pl c6} {t},eh P (.cA z pl c6) S aE t=DD S z pl c6 aE ⟨⟩) ∧
(∀{P:Program} {aE:Value→Prop} {S:Fr}  {f a b} {t},eh P (.j0 f a b) S aE t=aE (.func (.func f) (a.map (a7 S)).toArray (b.map (a7 S)).toArray)))) ∧
((∀{P:Program} {aE:Value→Prop} {S:Fr}  {n x aZ ad mx} {t},eh P (.iH n x aZ ad mx) S aE t=r0 S n (a7 S x) aZ ad mx aE ⟨⟩) ∧
((∀{P:Program} {aE:Value→Prop} {S:Fr}  {x aZ ad} {t},eh P (.u9 x aZ ad) S aE t=D9 S (a7 S x) aZ ad aE ⟨⟩) ∧
(∀{P:Program} {aE:Value→Prop} {S:Fr}  {x n} {t},eh P (.ext x n) S aE t=rU (a7 S x) n aE ⟨⟩)))))))) ∧
(((((((∀{P:Program} {aE:Value→Prop} {S:Fr}  {x} {t},eh P (.mA x) S aE t=z6 (a7 S x) aE ⟨⟩) ∧
(∀{P:Program} {aE:Value→Prop} {S:Fr}  {x} {t},eh P (.y2 x) S aE t=z1 (a7 S x) aE ⟨⟩)) ∧
((∀{P:Program} {aE:Value→Prop} {S:Fr}  {x} {t},eh P (.Ay x) S aE t=zS (a7 S x) aE ⟨⟩) ∧
((∀{P:Program} {aE:Value→Prop} {S:Fr}  {v} {t},eh P (.BY v) S aE t=aE v) ∧
(∀{P:Program} {aE:Value→Prop} {S:Fr}  {x y} {t},eh P (.rD x y) S aE t=z7 (a7 S x) (a7 S y) aE ⟨⟩)))) ∧
(((∀{P:Program} {aE:Value→Prop} {S:Fr}  {x y} {t},eh P (.s0 x y) S aE t=z8 (a7 S x) (a7 S y) aE ⟨⟩) ∧
(∀{P:Program} {aE:Value→Prop} {S:Fr}  {n x} {t},eh P (.zj n x) S aE t=aE (.iface n (a7 S x)))) ∧
((∀{P:Program} {aE:Value→Prop} {S:Fr}  {x} {t},eh P (.zm x) S aE t=vn (a7 S x) aE ⟨⟩) ∧
((∀{aE:Value→Prop} {S:Fr} {w:World}  {x} {t},mN (.ld x) S w aE t=o7 (a7 S x) w aE ⟨⟩) ∧
(∀{aE:Value→Prop} {S:Fr} {w:World}  {n x} {t},mN (.iZ n x) S w aE t=qS n (a7 S x) w aE ⟨⟩))))) ∧
((((∀{aE:Value→Prop} {S:Fr} {w:World}  {d z ok m k} {t},mN (.lp d z ok m k) S w aE t=xE d z ok (a7 S m) (a7 S k) w aE ⟨⟩) ∧
(∀{aE:Value→Prop} {S:Fr} {w:World}  {x} {t},mN (.wN x) S w aE t=DX (a7 S x) w aE ⟨⟩)) ∧
((∀{P:Program} {K:Value→World→Prop} {S:Fr} {w:World}  {n x} {t},hj P (.box n x) S w K t=vl n (a7 S x).cells w K ⟨⟩) ∧
((∀{P:Program} {K:Value→World→Prop} {S:Fr} {w:World}  {n z} {t},hj P (.new n z) S w K t=vl n z.cells w K ⟨⟩) ∧
(∀{P:Program} {K:Value→World→Prop} {S:Fr} {w:World}  {x v} {t},hj P (.st x v) S w K t=qV (a7 S x) (a7 S v) w (K undef) ⟨⟩)))) ∧
(((∀{P:Program} {K:Value→World→Prop} {S:Fr} {w:World}  {n x v} {t},hj P (.qL n x v) S w K t=Ak n (a7 S x) (a7 S v) w (K undef) ⟨⟩) ∧
((∀{P:Program} {K:Value→World→Prop} {S:Fr} {w:World}  {t},hj P .oR S w K t=D2 w K ⟨⟩) ∧
(∀{P:Program} {K:Value→World→Prop} {S:Fr} {w:World}  {e n b z l c} {t},hj P (.uZ e n b z l c) S w K t=Aa e n b z (a7 S l) (a7 S c) w K ⟨⟩))) ∧
((∀{P:Program} {K:Value→World→Prop} {S:Fr} {w:World}  {e l n z c6} {t},hj P (.cQ e l n z c6) S w K t=zR S e l n z c6 w K ⟨⟩) ∧
((∀{P:Program} {K:Value→World→Prop} {S:Fr} {w:World}  {ty e n b s x} {t},hj P (.app ty e n b s x) S w K t=j5 P ty e n b (a7 S s) (a7 S x) w K ⟨⟩) ∧
(∀{P:Program} {K:Value→World→Prop} {S:Fr} {w:World}  {d m k v} {t},hj P (.hZ d m k v) S w K t=vk d (a7 S m) (a7 S k) (a7 S v) w (K undef) ⟨⟩)))))) ∧
(((((∀{P:Program} {K:Value→World→Prop} {S:Fr} {w:World}  {x} {t},hj P (.u6 x) S w K t=D8 (a7 S x) w K ⟨⟩) ∧
(∀{P:Program} {K:Value→World→Prop} {S:Fr} {w:World}  {x} {t},hj P (.u4 x) S w K t=D5 (a7 S x) w K ⟨⟩)) ∧
((∀{P:Program} {K:Value→World→Prop} {S:Fr} {w:World}  {op ty} {t},hj P (.raw op ty) S w K t=tF P op ty S w K ⟨⟩) ∧
((∀{P:Program} {K:Value→World→Prop} {S:Fr} {w:World}  {f l} {t},ve P (.fn f l) S w K t=xy P f (l.map (a7 S)) w K ⟨⟩) ∧
(∀{P:Program} {K:Value→World→Prop} {S:Fr} {w:World}  {x l} {t},ve P (.val x l) S w K t=ts P (a7 S x) (l.map (a7 S)) w K ⟨⟩)))) ∧
(((∀{P:Program} {K:Value→World→Prop} {S:Fr} {w:World}  {f l} {t},vf P (.fn f l) S w K t=xy P f (l.map (a7 S)) w K ⟨⟩) ∧
((∀{P:Program} {K:Value→World→Prop} {S:Fr} {w:World}  {x l} {t},vf P (.val x l) S w K t=vg P (a7 S x) (l.map (a7 S)) w K ⟨⟩) ∧
(∀{P:Program} {aE:Value→Prop}  {ty cZ c9} (k:IntKind) (a b:Int) {t},gv P .lss ty cZ c9 (.int k a) (.int k b) aE t=aE (.bool (decide (a<b)))))) ∧
((∀{P:Program} {aE:Value→Prop}  {ty cZ c9} (k:IntKind) (a b:Int) {t},gv P .leq ty cZ c9 (.int k a) (.int k b) aE t=aE (.bool (decide (a≤b)))) ∧
((∀{P:Program} {aE:Value→Prop}  {ty cZ c9} (k:IntKind) (a b:Int) {t},gv P .gtr ty cZ c9 (.int k a) (.int k b) aE t=aE (.bool (decide (b<a)))) ∧
(∀{P:Program} {aE:Value→Prop}  {ty cZ c9} (k:IntKind) (a b:Int) {t},gv P .geq ty cZ c9 (.int k a) (.int k b) aE t=aE (.bool (decide (b≤a)))))))) ∧
((((∀{P:Program} {aE:Value→Prop}  {ty cZ c9} (k:IntKind) (a b:Int) {t},gv P .eql ty cZ c9 (.int k a) (.int k b) aE t=aE (.bool (decide (a=b)))) ∧
(∀{P:Program} {aE:Value→Prop}  {ty cZ c9} (k:IntKind) (a b:Int) {t},gv P .neq ty cZ c9 (.int k a) (.int k b) aE t=aE (.bool (!decide (a=b))))) ∧
((∀{P:Program} {aE:Value→Prop}  {ty cZ c9} (k:IntKind) (a b:Int) {t},gv P .add ty cZ c9 (.int k a) (.int k b) aE t=mQ k (a+b) aE ⟨⟩) ∧
((∀{P:Program} {aE:Value→Prop}  {ty cZ c9} (k:IntKind) (a b:Int) {t},gv P .sub ty cZ c9 (.int k a) (.int k b) aE t=mQ k (a - b) aE ⟨⟩) ∧
(∀{P:Program} {aE:Value→Prop}  {ty cZ c9} (k:IntKind) (a b:Int) {t},gv P .mul ty cZ c9 (.int k a) (.int k b) aE t=mQ k (a*b) aE ⟨⟩)))) ∧
(((∀{P:Program} {aE:Value→Prop}  {ty cZ c9} (a b:ByteArray) {t},gv P .eql ty cZ c9 (.string a) (.string b) aE t=aE (.bool (decide (a=b)))) ∧
((∀{P:Program} {aE:Value→Prop}  {ty cZ c9} (a b:ByteArray) {t},gv P .neq ty cZ c9 (.string a) (.string b) aE t=aE (.bool (!decide (a=b)))) ∧
(∀{aE:Value→Prop}  (b:Bool) {t},vy .not (.bool b) aE t=aE (.bool (!b))))) ∧
((∀{aE:Value→Prop}  (k:IntKind) (n:Int) {t},vy .neg (.int k n) aE t=mQ k (0 - n) aE ⟨⟩) ∧
((∀{aE:Value→Prop}  (k q:IntKind) (n:Int) {t},zU k (.int q n) aE t=mQ k n aE ⟨⟩) ∧
(∀{aE:Value→Prop}  (n:Nat) (a:Addr) {t},zY n (.pointer (some a)) aE t=aE (.pointer (some (a.add n)))))))))) ∧
((((((∀{aE:Value→Prop}  (v:Value) (vs:List Value) {t},rU (.tuple (v :: vs).toArray) 0 aE t=aE v) ∧
(∀{aE:Value→Prop}  (v u:Value) (vs:List Value) {t},rU (.tuple (v :: u :: vs).toArray) 1 aE t=aE u)) ∧
((∀{aE:Value→Prop}  (v u x:Value) (vs:List Value) {t},rU (.tuple (v :: u :: x :: vs).toArray) 2 aE t=aE x) ∧
((∀{aE:Value→Prop}  (s:ByteArray) {t},z6 (.string s) aE t=aE (.int .i64 s.size)) ∧
(∀{aE:Value→Prop}  (a:Option Addr) (n c:Nat) {t},z1 (.slice a n c) aE t=aE (.int .i64 n))))) ∧
(((∀{aE:Value→Prop}  (a:Option Addr) (n c:Nat) {t},zS (.slice a n c) aE t=aE (.int .i64 c)) ∧
((∀{aE:Value→Prop}  (k q:IntKind) (a b:Int) {t},z7 (.int k a) (.int q b) aE t=aE (.int k (max a b))) ∧
(∀{aE:Value→Prop}  (k q:IntKind) (a b:Int) {t},z8 (.int k a) (.int q b) aE t=aE (.int k (min a b))))) ∧
((∀{aE:Value→Prop}  (m n:Nat) (cs:Array Value) {t},zZ m n (.agg cs) aE t=aE (.agg (cs.extract m (m+n)))) ∧
((∀{aE:Value→Prop}  (a:Addr) {t},vn (.pointer (some a)) aE t=aE (.pointer (some a))) ∧
(∀{aE:Value→Prop}  (f:FuncId) (a b:Array Value) {t},vn (.func (.func f) a b) aE t=aE (.func (.func f) a b)))))) ∧
((((∀{ka:List Value→Prop} {S:Fr} {w:World}  {t},hB [] S w ka t=ka []) ∧
(∀{ka:List Value→Prop} {S:Fr} {w:World}  {n r} {t},hB (.tmp n :: r) S w ka t=hB r S w (fun vs=>ka (S n :: vs)) ⟨⟩)) ∧
((∀{ka:List Value→Prop} {S:Fr} {w:World}  {n r} {t},hB (.cell n :: r) S w ka t=o7 (S n) w (fun v=>hB r S w (fun vs=>ka (v :: vs)) ⟨⟩) ⟨⟩) ∧
((∀{ka:List Value→Prop} {S:Fr} {w:World}  {m n r} {t},hB (.hC m n :: r) S w ka t=qS m (S n) w (fun v=>hB r S w (fun vs=>ka (v :: vs)) ⟨⟩) ⟨⟩) ∧
(∀{S:Fr} {d:Nat} {v:Value},put S (some d) v=b5 S d v)))) ∧
(((∀{S:Fr} {v:Value},put S none v=S) ∧
((∀{S:Fr} {d t:Nat} {v:Value},b5 S d v t=if t=d then v else S t) ∧
(∀{S:Fr} {t:Nat},a7 S (.tmp t)=S t))) ∧
((∀{S:Fr} {v:Value},a7 S (.const v)=v) ∧
((∀{S:Fr} {g:Nat},a7 S (.global g) = .pointer (some ⟨g,0,none⟩)) ∧
(∀{S:Fr} {f:Nat},a7 S (.func f) = .func (.func f) #[] #[])))))) ∧
(((((∀{k:Nat},gU [] k=fun _=>undef) ∧
(∀{v:Value} {vs:List Value} {k:Nat},gU (v :: vs) k=b5 (gU vs (k+1)) k v)) ∧
((fS [] = .tuple #[]) ∧
((∀(v:Value),fS [v]=v) ∧
(∀(v u:Value),fS [v,u] = .tuple #[v,u])))) ∧
(((∀(v u x:Value),fS [v,u,x] = .tuple #[v,u,x]) ∧
((∀(a:Option Addr) (n c:Nat),(Value.slice a n c).cells=#[.slice a n c]) ∧
(∀(k:IntKind) (n:Int),(Value.int k n).cells=#[.int k n]))) ∧
((∀(b:Bool),(Value.bool b).cells=#[.bool b]) ∧
((∀(s:ByteArray),(Value.string s).cells=#[.string s]) ∧
(∀(a:Option Addr),(Value.pointer a).cells=#[.pointer a]))))) ∧
((((∀(a:Option Nat),(Value.map a).cells=#[.map a]) ∧
(∀(f:Fn) (a b:Array Value),(Value.func f a b).cells=#[.func f a b])) ∧
((∀(cs:Array Value),(Value.agg cs).cells=cs) ∧
((∀{α β:Type} {f:α→β} {a:α} {l:List α},(a :: l).map f=f a :: l.map f) ∧
(∀{α β:Type} {f:α→β},([]:List α).map f=[])))) ∧
((((!true)=false) ∧
(((!false)=true) ∧
(∀{h:Decidable True},decide True=true))) ∧
((∀{h:Decidable False},decide False=false) ∧
((∀{α:Type} {a b:α} {h:Decidable True},(if True then a else b)=a) ∧
(∀{α:Type} {a b:α} {h:Decidable False},(if False then a else b)=b))))))))) :=
 ⟨⟨⟨⟨⟨⟨⟨(by intros;apply Lm),(by intros;apply Ln)⟩,⟨(by intros;apply Lo),⟨(by intros;apply Lp),(by intros;apply Lq)⟩⟩⟩,⟨⟨(by intros;apply Lr),(by intros;apply Ls)⟩,⟨(by intros;apply Lt),⟨(by intros;apply Lu),(by intros;apply Lv)⟩⟩⟩⟩,⟨⟨⟨(by intros;apply Lx),(by intros;apply Ly)⟩,⟨(by intros;apply Lz),⟨(by intros;apply LA),(by intros;apply LB)⟩⟩⟩,⟨⟨(by intros;apply LC),⟨(by intros;apply LD),(by intros;apply LF)⟩⟩,⟨(by intros;apply LG),⟨(by intros;apply LH),(by intros;apply LI)⟩⟩⟩⟩⟩,⟨⟨⟨⟨(by intros;apply LJ),(by intros;apply LK)⟩,⟨(by intros;apply LL),⟨(by intros;apply LM),(by intros;apply LN)⟩⟩⟩,⟨⟨(by intros;apply LO),⟨(by intros;apply LP),(by intros;apply LQ)⟩⟩,⟨(by intros;apply qQ),⟨(by intros;apply LU),(by intros;apply LV)⟩⟩⟩⟩,⟨⟨⟨(by intros;apply LW),(by intros;apply LX)⟩,⟨(by intros;apply LY),⟨(by intros;apply LZ),(by intros;apply L0)⟩⟩⟩,⟨⟨(by intros;apply L1),⟨(by intros;apply L2),(by intros;apply L5)⟩⟩,⟨(by intros;apply hT),⟨(by intros;apply cP),(by intros;apply fz)⟩⟩⟩⟩⟩⟩,⟨⟨⟨⟨⟨(by intros;apply dN),(by intros;apply h6)⟩,⟨(by intros;apply j7),⟨(by intros;apply gP),(by intros;apply jK)⟩⟩⟩,⟨⟨(by intros;apply j8),(by intros;apply Mb)⟩,⟨(by intros;apply Mc),⟨(by intros;apply Md),(by intros;apply Me)⟩⟩⟩⟩,⟨⟨⟨(by intros;apply Mf),(by intros;apply Mg)⟩,⟨(by intros;apply Mh),⟨(by intros;apply Mi),(by intros;apply Mj)⟩⟩⟩,⟨⟨(by intros;apply Mk),⟨(by intros;apply Ml),(by intros;apply H1)⟩⟩,⟨(by intros;apply Mm),⟨(by intros;apply Mn),(by intros;apply Mo)⟩⟩⟩⟩⟩,⟨⟨⟨⟨(by intros;apply Mp),(by intros;apply Mq)⟩,⟨(by intros;apply Mr),⟨(by intros;apply Ms),(by intros;apply Mt)⟩⟩⟩,⟨⟨(by intros;apply Mu),⟨(by intros;apply Mv),(by intros;apply Mw)⟩⟩,⟨(by intros;apply Mx),⟨(by intros;apply My),(by intros;apply Mz)⟩⟩⟩⟩,⟨⟨⟨(by intros;apply MA),(by intros;apply MB)⟩,⟨(by intros;apply MC),⟨(by intros;apply MD),(by intros;apply ME)⟩⟩⟩,⟨⟨(by intros;apply MF),⟨(by intros;apply MG),(by intros;apply MH)⟩⟩,⟨(by intros;apply MI),⟨(by intros;apply MJ),(by intros;apply MK)⟩⟩⟩⟩⟩⟩⟩,⟨⟨⟨⟨⟨⟨(by intros;apply ML),(by intros;apply MM)⟩,⟨(by intros;apply MN),⟨(by intros;apply MQ),(by intros;apply MR)⟩⟩⟩,⟨⟨(by intros;apply M2),(by intros;apply MS)⟩,⟨(by intros;apply MT),⟨(by intros;apply MU),(by intros;apply MV)⟩⟩⟩⟩,⟨⟨⟨(by intros;apply MW),(by intros;apply MX)⟩,⟨(by intros;apply MY),⟨(by intros;apply M1),(by intros;apply M3)⟩⟩⟩,⟨⟨(by intros;apply M4),⟨(by intros;apply M5),(by intros;apply M6)⟩⟩,⟨(by intros;apply M7),⟨(by intros;apply M8),(by intros;apply M9)⟩⟩⟩⟩⟩,⟨⟨⟨⟨(by intros;apply Na),(by intros;apply Nb)⟩,⟨(by intros;apply Nf),⟨(by intros;apply Ng),(by intros;apply Nh)⟩⟩⟩,⟨⟨(by intros;apply Ni),⟨(by intros;apply Nj),(by intros;apply Nk)⟩⟩,⟨(by intros;apply Nl),⟨(by intros;apply Nn),(by intros;apply No)⟩⟩⟩⟩,⟨⟨⟨(by intros;apply Np),(by intros;apply Nq)⟩,⟨(by intros;apply Nr),⟨(by intros;apply Ns),(by intros;apply Nt)⟩⟩⟩,⟨⟨(by intros;apply Nu),⟨(by intros;apply Nv),(by intros;apply Nw)⟩⟩,⟨(by intros;apply Nx),⟨(by intros;apply Ny),(by intros;apply Nz)⟩⟩⟩⟩⟩⟩,⟨⟨⟨⟨⟨(by intros;apply NB),(by intros;apply Ah)⟩,⟨(by intros;apply Ai),⟨(by intros;apply NC),(by intros;apply ND)⟩⟩⟩,⟨⟨(by intros;apply NF),⟨(by intros;apply NG),(by intros;apply NH)⟩⟩,⟨(by intros;apply NI),⟨(by intros;apply NJ),(by intros;apply NP)⟩⟩⟩⟩,⟨⟨⟨(by intros;apply NQ),(by intros;apply NR)⟩,⟨(by intros;apply NS),⟨(by intros;apply NT),(by intros;apply NU)⟩⟩⟩,⟨⟨(by intros;apply NV),⟨(by intros;apply NW),(by intros;apply NX)⟩⟩,⟨(by intros;apply NY),⟨(by intros;apply N0),(by intros;apply N1)⟩⟩⟩⟩⟩,⟨⟨⟨⟨(by intros;apply N2),(by intros;apply N3)⟩,⟨(by intros;apply N4),⟨(by intros;apply N5),(by intros;apply N6)⟩⟩⟩,⟨⟨(by intros;apply N7),⟨(by intros;apply N8),(by intros;apply N9)⟩⟩,⟨(by intros;apply Oa),⟨(by intros;apply Ob),(by intros;apply Oc)⟩⟩⟩⟩,⟨⟨⟨(by intros;apply Od),(by intros;apply Oe)⟩,⟨(by intros;apply Of),⟨(by intros;apply Og),(by intros;apply Oh)⟩⟩⟩,⟨⟨(by intros;apply Oi),⟨(by intros;apply Oj),(by intros;apply Ol)⟩⟩,⟨(by intros;apply jh),⟨(by intros;apply fp),(by intros;apply mh)⟩⟩⟩⟩⟩⟩⟩⟩
section
variable{P:Program}{Q:dM→Fr→World→Prop}{aE:Value→Prop}{K:Value→World→Prop}{gR:World→Prop}{S:Fr}{w:World}{A B:Prop}
theorem K.cond{p:Prop}[Decidable p]{t}(h1:p→A)(U:¬p→B):jd (.bool (decide p)) A B t:=WG h1 U
theorem K.cX{u:Bool}{t}(h1:u=true→A)(U:u=false→B):jd (.bool u) A B t:=WE h1 U
theorem K.wrap{n:Int}{t}(h : -9223372036854775808≤n∧n≤9223372036854775807)(hk:aE (.int .i64 n)):mQ .i64 n aE t:=wrap_i64 h hk
theorem K.GB{k:IntKind}{n:Int}{t}(h:aE (.int k (k.wrap n))):mQ k n aE t:=UR h
theorem K.agz{k:IntKind}{n:Int}{t}(h:k.wrap n=n)(hk:aE (.int k n)):mQ k n aE t:=UR (by rw[h];exact hk)
theorem K.quo{ty:TypeId}{cZ c9:Operand}{k:IntKind}{a b:Int}{t}(aD:b≠0)(h:mQ k (a.tdiv b) aE ⟨⟩):gv P .quo ty cZ c9 (.int k a) (.int k b) aE t:=Wg aD h
theorem K.rem{ty:TypeId}{cZ c9:Operand}{k:IntKind}{a b:Int}{t}(aD:b≠0)(h:aE (.int k (a.tmod b))):gv P .rem ty cZ c9 (.int k a) (.int k b) aE t:=Wh aD h
theorem K.bin{op:BinOp}{ty:TypeId}{cZ c9:Operand}{x y v:Value}{t}(h:∀w,(do eqGuard op ty cZ c9 x y;binOp op ty x y:Sem Value).run P w = .ok v w)(hk:aE v):gv P op ty cZ c9 x y aE t:=⟨v,h,hk⟩
theorem K.hv{sz:Nat}{a:Addr}{len cap:Nat}{k:IntKind}{n:Int}{t}(h:0≤n∧n<len)(hk:aE (.pointer (some (a.add (n.toNat*sz))))):xD sz (.slice (some a) len cap) (.int k n) aE t:=aby h hk
theorem K.dr{sz:Nat}{a:Addr}{len cap:Nat}{k:IntKind}{n:Int}{t}(i:Nat)(ad:n=i)(h:i<len)(hk:aE (.pointer (some (a.add (i*sz))))):xD sz (.slice (some a) len cap) (.int k n) aE t:=abx i ad h hk
theorem K.yT{sz:Nat}{a:Addr}{len:Nat}{k:IntKind}{n:Int}{t}(h:0≤n∧n<len)(hk:aE (.pointer (some (a.add (n.toNat*sz))))):DP len sz (.pointer (some a)) (.int k n) aE t:=abw h hk
theorem K.kr{s:ByteArray}{k:IntKind}{n:Int}{t}(c:UInt8)(aj:0≤n)(h:s[n.toNat]? = some c)(hk:aE (.int .u8 c.toNat)):DS (.string s) (.int k n) aE t:=abM c aj h hk
theorem K.uP{len:Nat}{cs:Array Value}{k:IntKind}{n:Int}{t}(v:Value)(aj:0≤n∧n<len)(h:cs[n.toNat]? = some v)(hk:aE v):DR len (.agg cs) (.int k n) aE t:=abL v aj h hk
theorem K.ki{off:Nat}{cs:Array Value}{v:Value}{t}(h:cs[off]? = some v)(hk:aE v):DN off (.agg cs) aE t:=Yw h hk
theorem K.cA{z cs:List Value}{pl:List (Nat×Nat)}{c6:List (Nat×Operand)}{t}(h:ey S pl c6 z=some cs)(hk:aE (.agg cs.toArray)):DD S z pl c6 aE t:=Wn h hk
theorem K.iH{sz:Nat}{a:Option Addr}{len cap:Nat}{aZ ad mx:Option Operand}{t}(l h m:Nat)(h1:fE S aZ 0=some l)(U:fE S ad len=some h)(ai:fE S mx cap=some m)
  (aL:l≤h∧h≤m∧m≤cap)(bn:mx.isSome=true→ad.isSome=true)(hk:aE (.slice (if m=l then a else a.map (·.add (l*sz))) (h - l) (m - l))):r0 S sz (.slice a len cap) aZ ad mx aE t:=afu l h m h1 U ai aL bn hk
theorem K.u9{s:ByteArray}{aZ ad:Option Operand}{t}(l h:Nat)(h1:fE S aZ 0=some l)(U:fE S ad s.size=some h)(aL:l≤h∧h≤s.size)(hk:aE (.string (s.extract l h))):D9 S (.string s) aZ ad aE t:=afs l h h1 U aL hk
theorem K.ld{a:Addr}{c:Value}{t}(h:w.cell? a=some c)(hk:aE c):o7 (.pointer (some a)) w aE t:=acn h hk
theorem K.iZ{n:Nat}{a:Addr}{cs:List Value}{t}(h:fb w a cs)(aN:cs.length=n)(hk:aE (.agg cs.toArray)):qS n (.pointer (some a)) w aE t:=acm h aN hk
theorem K.lp{d:TypeDesc}{z:Value}{ok:Bool}{m k:Value}{es:Array MapEntry}{r:Option (Nat×Value)}{t}(h1:o8 w m es)(U:Instr.findNow d k es.toList 0=some r)(hk:aE (kU z ok r)):xE d z ok m k w aE t:=acy h1 U hk
theorem K.wN{m:Value}{es:Array MapEntry}{t}(h:o8 w m es)(hk:aE (.int .i64 es.size)):DX m w aE t:=acr h hk
theorem K.st{a:Addr}{v kt:Value}{t}(h:w.cell? a=some kt)(aJ:w.frozen? a=false)(aU:v.oneCell'=true)(hk:gR (w.setCell a v)):qV (.pointer (some a)) v w gR t:=Uo h aJ aU hk
theorem K.qL{n:Nat}{a:Addr}{cs:Array Value}{t}(aN:cs.size=n)(h:∀j,j<n→(∃kt,w.cell? (a.add j)=some kt)∧w.frozen? (a.add j)=false)(h1:∀c∈cs.toList,c.oneCell'=true)(hk:gR (mD w a cs.toList 0)):Ak n (.pointer (some a)) (.agg cs) w gR t:=KR aN h h1 hk
theorem K.uZ{e:TypeId}{sz bytes:Nat}{z:Value}{k q:IntKind}{n m:Int}{t}(h:0≤n∧n≤m∧m≤9223372036854775807∧bytes*m≤281474976710656)(hk:K (.slice (some ⟨w.heap.size,0,none⟩) n.toNat m.toNat) (w.alloc (.cells (rQ z.cells (m.toNat*sz)) e))) :
  Aa e sz bytes z (.int k n) (.int q m) w K t:=acN h hk
theorem K.cQ{e:TypeId}{len sz:Nat}{z cs:List Value}{c6:List (Nat×Operand)}{t}(h:ey S ((List.range len).map fun i=>(i*sz,sz)) c6 z=some cs)(hk:K (.slice (some ⟨w.heap.size,0,none⟩) len len) (w.alloc (.cells cs.toArray e))):zR S e len sz z c6 w K t:=Aw h hk
theorem K.app{ty e:TypeId}{sz b:Nat}{s x:Value}{t}(h:NO P ty e sz b→∃u b3 w',(Builtin.append_ #[ty,ty] u #[s,x]).run P w = .ok b3 w'∧K b3 w'):j5 P ty e sz b s x w K t:=h
theorem K.hZ{d:TypeDesc}{r:Nat}{k v:Value}{es:Array MapEntry}{c:Nat}{q:Option (Nat×Value)}{t}(h1:w.heap[r]? = some (.map es c))(U:Instr.findNow d k es.toList 0=some q)(hk:gR (e1 w r (pG es c k v q))):vk d (.map (some r)) k v w gR t:=acT h1 U hk
theorem K.u4{r pos:Nat}{s:ByteArray}{t}(h:w.heap[r]? = some (.stringIter s pos))(h1:pos<s.size→K (.tuple #[.bool true,.int .i64 pos,.int .i32 (Utf8.decode s pos).1]) (e1 w r (.stringIter s (pos+(Utf8.decode s pos).2))))
  (U:¬pos<s.size→K (.tuple #[.bool false]) w):D5 (.pointer (some ⟨r,0,none⟩)) w K t:=ac8 h h1 U
theorem K.raw{op:Op}{ty:TypeId}{v:Value}{w':World}{t}(h:(execOp (a7 S) ⟨none,op,ty, "",#[],none⟩).run P w = .ok (.value v) w')(hk:K v w'):tF P op ty S w K t:=⟨v,w',.inl h,hk⟩
theorem K.call{f:FuncId}{args:List Value}{R:Value→World→Prop}{t}(h:bq P f args.toArray w R)(hk:∀v w',R v w'→K v w'):xy P f args w K t:=Wz h hk
theorem K.eQ{f:FuncId}{args:List Value}{R:Value→World→Prop}{Z p3:List PanicEntry→World→Prop}{t}(h:pa P f args.toArray w R Z)(hk:∀v w',R v w'→K v w')(bU:∀c w',Z c w'→p3 c w'):Ea P f args w K p3 t:=pa.mono h hk bU
theorem K.Dh{f:FuncId}{L:kY}(hm:P.follows .mixedOrders=true)(av:jm P f=some L){args:List Value}{R:Value→World→Prop}{Z:List PanicEntry→World→Prop}(br:args.length≤L.n)(h:dQ P L.code (uf L.res R Z ⟨⟩) (gU args 0) w ⟨⟩):pa P f args.toArray w R Z:=XU hm av br h
theorem K.pg{f:FuncId}{first cap:List Value}{args:List Value}{R:Value→World→Prop}{t}(aJ:okF P f=true)(h:bq P f (first++args++cap).toArray w R)(hk:∀v w',R v w'→K v w'):vg P (.func (.func f) first.toArray cap.toArray) args w K t:=Or.inl (Ho aJ h hk)
theorem K.Wy{f:FuncId}{first cap:List Value}{args:List Value}{R:Value→World→Prop}{t}(aJ:okF P f=true)(h:bq P f (first++args++cap).toArray w R)(hk:∀v w',R v w'→K v w'):ts P (.func (.func f) first.toArray cap.toArray) args w K t:=Ho aJ h hk
theorem K.yield{l:Nat}{args:List Value}{R:Ending→World→Prop}{t}(h:YieldAt Fence.wide 0 P l args.toArray w R)(hk:∀e w',R e w'→∃v,e = .returned v∧K v w'):vg P (.func (.yield l) #[] #[]) args w K t :=
 Or.inr ⟨l,rfl,let ⟨fn,tmps,assign,body,h1,U⟩:=h; ⟨fn,tmps,assign,body,h1,U.mono hk⟩⟩
theorem K.fX{f:FuncId}{args:List Value}{t}(v:Value)(h:∀w',Ext w w'→bq P f args.toArray w' fun u bY=>u=v∧Ext w' bY)(hk:aE v):D7 P f args w aE t:=ad5 v h hk
theorem K.new{n:TypeId}{cs:Array Value}{t}(hk:∀w1 b,w.heap.size≤b→Ext w w1→w1.heap[b]? = some (.cells cs n)→K (.pointer (some ⟨b,0,none⟩)) w1):vl n cs w K t :=
 hk _ _ (Nat.le_refl _) ((Ext.refl w).alloc _) (heap_alloc_new w _)
theorem K.u1{t}(hk:∀w1 b,w.heap.size≤b→Ext w w1→w1.heap[b]? = some (.map #[] 0)→K (.map (some b)) w1):D2 w K t:=hk _ _ (Nat.le_refl _) ((Ext.refl w).alloc _) (heap_alloc_new w _)
theorem K.u6{s:ByteArray}{t}(hk:∀w1 b,w.heap.size≤b→Ext w w1→w1.heap[b]? = some (.stringIter s 0)→K (.pointer (some ⟨b,0,none⟩)) w1):D8 (.string s) w K t :=
 ⟨s,rfl,hk _ _ (Nat.le_refl _) ((Ext.refl w).alloc _) (heap_alloc_new w _)⟩
theorem K.kg{e:TypeId}{len sz:Nat}{z cs:List Value}{c6:List (Nat×Operand)}{t}(h:ey S ((List.range len).map fun i=>(i*sz,sz)) c6 z=some cs)
  (hk:∀w1 b,w.heap.size≤b→Ext w w1→w1.heap[b]? = some (.cells cs.toArray e)→K (.slice (some ⟨b,0,none⟩) len len) w1):zR S e len sz z c6 w K t :=
 Aw h (hk _ _ (Nat.le_refl _) ((Ext.refl w).alloc _) (heap_alloc_new w _))
theorem K.st1{b j:Nat}{c:Array Value}{e:TypeId}{v:Value}{t}(aD:w.heap[b]? = some (.cells c e))(aT:j<c.size)(aU:v.oneCell'=true)
  (hk:∀w1,dH b w w1→w1.heap[b]? = some (.cells (c.set j v aT) e)→gR w1):qV (.pointer (some (Addr.add ⟨b,0,none⟩ j))) v w gR t :=
 Uo (fi aD (Array.getElem?_eq_getElem aT)) (by rw[add_eq];simp[World.frozen?,aD]) aU (hk _ (by have h:=dH.setCell w (Addr.add ⟨b,0,none⟩ j) v;rwa[Ox] at h) (T8 aD aT v))
theorem K.rL{b:Nat}{c:Array Value}{e:TypeId}{v:Value}{t}(aD:w.heap[b]? = some (.cells c e))(aT:0<c.size)(aU:v.oneCell'=true)
  (hk:∀w1,dH b w w1→w1.heap[b]? = some (.cells (c.set 0 v aT) e)→gR w1):qV (.pointer (some ⟨b,0,none⟩)) v w gR t :=
 K.st1 (j:=0) (t:=⟨⟩) aD aT aU hk
theorem K.kW{b n:Nat}{c cs:Array Value}{e:TypeId}{t}(aD:w.heap[b]? = some (.cells c e))(av:c.size=n)(aN:cs.size=n)(h1:∀x∈cs.toList,x.oneCell'=true)
  (hk:∀w1,dH b w w1→w1.heap[b]? = some (.cells cs e)→gR w1):Ak n (.pointer (some ⟨b,0,none⟩)) (.agg cs) w gR t :=
 KR aN (fun j aT=>⟨⟨_,fi aD (Array.getElem?_eq_getElem (by omega))⟩,by rw[add_eq];simp[World.frozen?,aD]⟩) h1 (hk _ (dH.mD cs.toList w ⟨b,0,none⟩ 0) (T7 aD (by omega)))
theorem K.loop{b:eS}{t}(eA:Fr→World→Prop)(iK:Fr→World→Nat)(aj:eA S w)
  (bk:∀a1 w',(∀t,b.e4.contains t=false→a1 t=S t)→eA a1 w'→dQ P b (hR (fun fe bY=>eA fe bY∧iK fe bY<iK a1 w') Q ⟨⟩) a1 w' ⟨⟩):vj P b Q S w t:=acB eA iK aj bk
theorem K.start{f:FuncId}{L:kY}(hm:P.follows .mixedOrders=true)(av:jm P f=some L){args:List Value}{R:Value→World→Prop}(br:args.length≤L.n)(h:dQ P L.code (sd L.res R ⟨⟩) (gU args 0) w ⟨⟩):bq P f args.toArray w R:=enter hm av br h
end
attribute [irreducible] dQ
attribute [irreducible] iI
attribute [irreducible] kV
attribute [irreducible] fa
attribute [irreducible] xl
attribute [irreducible] qf
attribute [irreducible] p6
attribute [irreducible] lI
attribute [irreducible] og
attribute [irreducible] vf
attribute [irreducible] vg
attribute [irreducible] mM
attribute [irreducible] vp
attribute [irreducible] D7
attribute [irreducible] Ag
attribute [irreducible] eh
attribute [irreducible] mN
attribute [irreducible] hj
attribute [irreducible] ve
attribute [irreducible] gv
attribute [irreducible] vy
attribute [irreducible] zU
attribute [irreducible] mQ
attribute [irreducible] jd
attribute [irreducible] iv
attribute [irreducible] zY
attribute [irreducible] xD
attribute [irreducible] DP
attribute [irreducible] DS
attribute [irreducible] DR
attribute [irreducible] DN
attribute [irreducible] zZ
attribute [irreducible] DD
attribute [irreducible] r0
attribute [irreducible] D9
attribute [irreducible] rU
attribute [irreducible] z6
attribute [irreducible] z1
attribute [irreducible] zS
attribute [irreducible] z7
attribute [irreducible] z8
attribute [irreducible] vn
attribute [irreducible] o7
attribute [irreducible] qS
attribute [irreducible] xE
attribute [irreducible] DX
attribute [irreducible] qV
attribute [irreducible] Ak
attribute [irreducible] Aa
attribute [irreducible] zR
attribute [irreducible] j5
attribute [irreducible] vk
attribute [irreducible] D5
attribute [irreducible] D8
attribute [irreducible] tF
attribute [irreducible] xy
attribute [irreducible] Ea
attribute [irreducible] Af
attribute [irreducible] ts
attribute [irreducible] vl
attribute [irreducible] D2
attribute [irreducible] vj
attribute [irreducible] hB
attribute [irreducible] hR oz sd uf
end bt
end
section
namespace bt
open Go Go.RowKit
structure bB{α:Type}(sz:Nat)(R:World→Addr→α→Prop)(w:World)(v:Value)(xs:List α):Prop where
 ex:∃bh cap,v = .slice bh xs.length cap∧xs.length≤cap∧cap≤maxLen∧(xs≠[]→bh.isSome=true)∧∀a,bh=some a→∀i (h:i<xs.length),R w (a.add (i*sz)) xs[i]
theorem bB.form{α:Type}{sz:Nat}{R:World→Addr→α→Prop}{w:World}{v:Value}{xs:List α}(h:bB sz R w v xs):∃bh cap,v = .slice bh xs.length cap∧xs.length≤9223372036854775807:=by
 obtain⟨bh,cap,h1,U,ai,_⟩:=h.ex;exact⟨bh,cap,h1,by unfold maxLen at ai;omega⟩
theorem bB.addr{α:Type}{sz:Nat}{R:World→Addr→α→Prop}{w:World}{bh:Option Addr}{n c:Nat}{xs:List α}(h:bB sz R w (.slice bh n c) xs)(aN:0<xs.length):∃a,bh=some a:=by
 obtain⟨jw,cap,h1,U,ai,aL,_⟩:=h.ex;injection h1 with h1 _ _
 subst h1;exact Option.isSome_iff_exists.1 (aL (by intro e;subst e;simp at aN))
theorem bB.at{α:Type}{sz:Nat}{R:World→Addr→α→Prop}{w:World}{a:Addr}{n c:Nat}{xs:List α}(h:bB sz R w (.slice (some a) n c) xs)(i:Nat)(ad:i<xs.length):R w (a.add (i*sz)) xs[i]:=by
 obtain⟨jw,cap,h1,U,ai,aL,bn⟩:=h.ex;injection h1 with h1 _ _
 subst h1;exact bn a rfl i ad
theorem bB.ext{α:Type}{sz:Nat}{R:World→Addr→α→Prop}(iA:∀w w' a x,Ext w w'→R w a x→R w' a x){w w':World}{v:Value}{xs:List α}(he:Ext w w')(h:bB sz R w v xs):bB sz R w' v xs:=by
 obtain⟨bh,cap,h1,U,ai,aL,bn⟩:=h.ex;exact⟨bh,cap,h1,U,ai,aL,fun a br i ad=>iA _ _ _ _ he (bn a br i ad)⟩
def Flat{α:Type}(enc:α→List Value)(w:World)(a:Addr)(x:α):Prop:=fb w a (enc x)
theorem Flat.ext{α:Type}{enc:α→List Value}(w w':World)(a:Addr)(x:α)(he:Ext w w')(h:Flat enc w a x):Flat enc w' a x:=fb.ext he h
def gQ{mc:Type}(enc:mc→Value)(es:List MapEntry)(m:List (mc×Value)):Prop:=es.map (fun e=>(e.key,e.val))=m.map (fun p=>(enc p.1,p.2))
theorem vS{mc:Type}[DecidableEq mc]{enc:mc→Value}{d:TypeDesc}(ay:∀x y,Instr.sameNow d (enc x) (enc y)=some (decide (x=y)))(x:mc):∀(es:List MapEntry) (m:List (mc×Value)) (i:Nat),gQ enc es m →
  ∃r,Instr.findNow d (enc x) es i=some r∧r.map (·.2)=(m.find? (fun p=>decide (x=p.1))).map (·.2)
 | [],m,i,h=>by
  have:m=[]:=by cases m with | nil=>rfl | cons _ _=>simp[gQ] at h
  subst this;exact⟨none,rfl,rfl⟩
 | e :: es,m,i,h=>by
  cases m with
  | nil=>simp[gQ] at h
  | cons p m =>
   simp only[gQ,List.map_cons,List.cons.injEq,Prod.mk.injEq] at h;obtain⟨⟨h1,U⟩,ai⟩:=h;unfold Instr.findNow;rw[h1,ay];by_cases aw:x=p.1
   ·simp only[aw,decide_true];exact⟨_,rfl,by simp[U]⟩
   ·simp only[aw,decide_false];obtain⟨r,aL,bn⟩:=vS ay x es m (i+1) ai;exact⟨r,aL,by rw[bn];simp[aw]⟩
theorem F8(x y:ByteArray):Instr.sameNow .string (.string x) (.string y)=some (decide (x=y)):=by simp[Instr.sameNow,As]
theorem F7(k q:IntKind)(x y:Int):Instr.sameNow (.int q) (.int k x) (.int k y)=some (decide (x=y)):=by simp[Instr.sameNow];rfl
theorem gQ.push{mc:Type}{enc:mc→Value}{es:Array MapEntry}{m:List (mc×Value)}(h:gQ enc es.toList m)(x:mc)(v:Value)(c:Nat):gQ enc (es.push { key:=enc x,val:=v,born:=c }).toList (m++[(x,v)]):=by
 simp only[gQ] at *;simp[h]
theorem H5{α:Type}{enc:α→List Value}{sz:Nat}(c3:∀x,(enc x).length=sz):∀(xs:List α) (i j:Nat) (h:i<xs.length),j<sz→(xs.flatMap enc)[i*sz+j]? = (enc xs[i])[j]?
 | [],i,j,h,_=>by simp at h
 | x :: xs,0,j,h,aT=>by
  simp only[List.flatMap_cons,Nat.zero_mul,Nat.zero_add,List.getElem_cons_zero];rw[List.getElem?_append_left (by rw[c3];exact aT)]
 | x :: xs,i+1,j,h,aT=>by
  simp only[List.flatMap_cons,List.getElem_cons_succ];rw[List.getElem?_append_right (by rw[c3,Nat.add_mul];omega),c3,show(i+1)*sz+j - sz=i*sz+j from by rw[Nat.add_mul];omega];exact H5 c3 xs i j (by simpa using h) aT
theorem WO{α:Type}{enc:α→List Value}{sz:Nat}(c3:∀x,(enc x).length=sz){w:World}{b:Nat}{e:TypeId}{f:Nat×Nat}{xs:List α}(aD:w.heap[b]? = some (.cells (xs.flatMap enc).toArray e f))(i:Nat)(h:i<xs.length) :
  fb w (Addr.add ⟨b,0,none⟩ (i*sz)) (enc xs[i]):=fun j v aT=>by
 have Br:j<sz:=by rw[←c3 xs[i]];exact(List.getElem?_eq_some_iff.1 aT).1
 rw[add_add];exact fi aD (by rw[List.getElem?_toArray,H5 c3 xs i j h Br];exact aT)
theorem bB.aV{α:Type}{enc:α→List Value}{sz:Nat}(c3:∀x,(enc x).length=sz){R:World→Addr→α→Prop}{w:World}{b n:Nat}{e:TypeId}{f:Nat×Nat}{xs:List α}(aD:w.heap[b]? = some (.cells (xs.flatMap enc).toArray e f))
  (aN:n=xs.length)(hm:xs.length≤maxLen)(iA:∀a x,x∈xs→fb w a (enc x)→R w a x):bB sz R w (.slice (some ⟨b,0,none⟩) n n) xs:=by
 subst aN;refine⟨_,_,rfl,Nat.le_refl _,hm,fun _=>rfl,fun a br i ad=>?_⟩;injection br with br;subst br
 exact iA _ _ (List.getElem_mem _) (WO c3 aD i ad)
theorem bB.nil{α:Type}{sz:Nat}{R:World→Addr→α→Prop}{w:World}:bB sz R w (.slice none 0 0) ([]:List α):=⟨none,0,rfl,Nat.le_refl _,Nat.zero_le _,fun h=>absurd rfl h,fun a h=>by cases h⟩
end bt
end
section
namespace bt
open Go Go.RowKit Go.ChangeShapes Go.WideShapes Go.Deep
section
variable{H:Type}{enc:TypeId×Value→H}{P:Program}
theorem UC{w:World}:∀{cO:List TypeId} {vs:List Value} {ds:List (DataW H)} {c6:List MemPlace},DataW.TrodAll enc P w 0 (fun _=>true) true cO vs ds c6→∀x∈c6,x.block<w.heap.size
 | [],_,_,_,h=>by
  obtain⟨rfl,rfl,rfl⟩:=trodAll_nil h;intro x aw;cases aw
 | _ :: _,_,_,_,h=>by
  obtain⟨v,UI,d,Pd,a,b,rfl,rfl,rfl,⟨m,h1⟩,U⟩:=trodAll_cons h;intro x aw;rcases List.mem_append.1 aw with aw | aw
  ·exact DataW.trod_lt m _ _ _ h1 x aw
  ·exact UC U x aw
theorem UB{w:World}{sp:Nat→Bool}{bs:Bool}:∀{cO:List TypeId} {vs:List Value} {ds:List (DataW H)} {c6:List MemPlace},DataW.TrodAll enc P w 0 sp bs cO vs ds c6→ds.length=cO.length
 | [],_,_,_,h=>by
  obtain⟨rfl,rfl,rfl⟩:=trodAll_nil h;rfl
 | _ :: _,_,_,_,h=>by
  obtain⟨v,UI,d,Pd,a,b,rfl,rfl,rfl,h1,U⟩:=trodAll_cons h;simp[UB U]
theorem UA(aQ:laidOutB P=true){W ct:World}(aD:Below W.heap.size W ct):∀{cO:List TypeId} {vs:List Value} {ds:List (DataW H)} {c6:List MemPlace},(cO.all fun t=>P.readableRec t&&decide (t<P.types.size))=true →
  DataW.TrodAll enc P W 0 (fun _=>true) true cO vs ds c6→(∀x∈c6,x.block<W.heap.size)→DataW.TrodAll enc P ct 0 (fun b=>decide (b<W.heap.size)) true cO vs ds c6
 | [],_,_,_,_,h,_=>by
  obtain⟨rfl,rfl,rfl⟩:=trodAll_nil h;exact trodAll_mk0
 | _ :: _,_,_,_,bk,h,ck=>by
  obtain⟨v,UI,d,Pd,a,b,rfl,rfl,rfl,h1,U⟩:=trodAll_cons h;simp only[List.all_cons,Bool.and_eq_true,decide_eq_true_eq] at bk;exact trodAll_cons_mk (Below.trod aQ bk.1.1 bk.1.2 h1 aD fun x aw=>ck x (List.mem_append_left _ aw)) (UA aQ aD bk.2 U fun x aw=>ck x (List.mem_append_right _ aw))
theorem aiS{s:ChangeSpec}{f:Func}{vb:TypeId}(aQ:laidOutB P=true)(bk:(f.params.toList.all fun t=>P.readableRec t&&decide (t<P.types.size))=true)(aU:s.vars=[])
  (aaU:f.resultTypes=#[vb])(aK:P.underlying vb=some .bool)(ay:∀ds:List (DataW H),ds.length=f.params.toList.length→s.fn H ds = { results:=[.lit (.bool true)],args:=ds })
  {W ct:World}{args:Array Value}{ds gs:List (DataW H)}{before:List MemPlace}(gk:DataW.Whole enc P f.params.toList s.vars false W args.toList ds gs before)(OI:Ext W ct) :
  s.post enc P f false true false false W args (.bool true) ct:=by
 have Im:=gk;obtain⟨p,q,eC,kk,rfl,ahQ,Jc⟩:=gk;rw[aU] at kk;obtain⟨rfl,rfl⟩:=trodVars_none kk;have ck:=UC eC;have e:=ay ds (UB eC);refine⟨ds,[],_,[],p,[],Im,?_,?_,?_,OI.frame _,fun h=>by cases h⟩
 ·rw[List.append_nil,e,aaU];exact trodAll_mk1 (shut_bool aK _)
 ·rw[List.append_nil,e];exact UA aQ OI bk eC ck
 ·rw[List.append_nil,e,aU];rfl
variable{w:World}{base:Nat}{spare:Nat→Bool}{held:Bool}
theorem JW{α:Type}(n:Nat)(R:Nat→α→Prop)(h:∀i,i<n→∃x,R i x):∃xs:List α,xs.length=n∧∀i (ad:i<xs.length),R i xs[i]:=by
 induction n with
 | zero=>exact⟨[],rfl,fun i ad=>absurd ad (Nat.not_lt_zero _)⟩
 | succ n gf =>
  obtain⟨xs,aQ,aw⟩:=gf fun i ad=>h i (by omega);obtain⟨x,ru⟩:=h n (by omega);refine⟨xs++[x],by simp[aQ],fun i ad=>?_⟩;by_cases aN:i<xs.length
  ·rw[List.getElem_append_left aN];exact aw i aN
  ·have:i=n:=by simp at ad;omega
   subst this;rw[List.getElem_append_right (by omega)];simpa[aQ] using ru
end
theorem WT{H:Type}{enc:TypeId×Value→H}{P:Program}{w:World}{base:Nat}{sp:Nat→Bool}{held:Bool}{fuel:Nat}{t e:TypeId}{n:Nat}{cs:List Value}{qP:List ByteArray}{p:List MemPlace}
  (aK:P.underlying t=some (.array n e))(he:P.underlying e=some .string)(eZ:P.cellsOf e=1)(IG:P.cellsOf t=n)
  (h:DataW.trod enc P w base sp held fuel t cs=some (.agg (qP.map fun z=>.lit (.string z.data.toList)),p)):cs=qP.map Value.string:=by
 cases fuel with
 | zero=>simp[DataW.trod] at h
 | succ fuel =>
  simp only[DataW.trod,aK,eZ,IG,Nat.mul_one] at h;split at h
  ·rename_i aQ;obtain⟨xs,hm,aw⟩:=Option.map_eq_some_iff.1 h;have sM:xs.map (·.1)=qP.map fun z=>(DataW.lit (.string z.data.toList):DataW H):=by
    have:=congrArg Prod.fst aw
    simpa using this
   have uL:xs.length=n:=by simpa using Lib.mapM_length hm
   have air:qP.length=n:=by
    have:=congrArg List.length sM
    simp at this;omega
   apply List.ext_getElem?;intro i;by_cases ad:i<n
   ·obtain⟨b,aD,aJ⟩:=Lib.mapM_at hm i i (by simp[ad]);obtain⟨z,av,rfl,_⟩:=DataW.trod_string he aJ;have h1:cs[i]? = some (.string z):=by
     have:=congrArg (·[0]?) av
     simpa[List.getElem?_take,List.getElem?_drop] using this
    have U:(xs.map (·.1))[i]? = some (DataW.lit (.string z.data.toList):DataW H):=by simp[aD]
    rw[sM] at U;simp only[List.getElem?_map,Option.map_eq_some_iff,DataW.lit.injEq,Lit.string.injEq] at U;obtain⟨UX,BT,e⟩:=U;have bg:UX=z:=by
     cases UX;cases z;simp at e;simp[e]
    simp[h1,BT,bg]
   ·rw[List.getElem?_eq_none (by omega),List.getElem?_eq_none (by simp;omega)]
  ·cases h
theorem ajp{P:Program}{W:World}{name:String}{qP:List ByteArray}{rest:List (String×DataW Unit)}{g:Nat}{t e:TypeId}{n:Nat}
  (a6:P.globalNamed name=some g)(aba:(P.globals[g]?).map (·.type)=some t)(aK:P.underlying t=some (.array n e))(he:P.underlying e=some .string)(eZ:P.cellsOf e=1)(IG:P.cellsOf t=n)
  (h:laidMet P ((name,.agg (qP.map fun z=>.lit (.string z.data.toList))) :: rest) W):fb W ⟨g,0,none⟩ (qP.map Value.string):=by
 obtain⟨c6,⟨ahe,hf,cs,fuel,p,q,Z5,uK,abb,bs,_,_⟩,_⟩:=h;obtain rfl:=Option.some.inj (a6.symm.trans Z5);obtain rfl:=Option.some.inj (aba.symm.trans uK);have e:=WT aK he eZ IG bs;intro j v aT
 have:=World.var?_cell a6 abb j
 rw[show Addr.add ⟨g,0,none⟩ j=⟨g,j,none⟩ from by cases j<;>simp[Addr.add],this,Array.getElem?_toList.symm,e];exact aT
end bt
end
section
namespace bt
open Go Go.RowKit
theorem Ext.grown{w0 w w':World}{r:Option Nat}(he:Ext w0 w)(a6:w.grownBy w' r)(bk:∀k,r=some k→w0.heap.size≤k):Ext w0 w':=Below.grown he a6 he.size bk
theorem adE{w w':World}{base:Nat}{e:TypeId}{sz:Nat}{v:Value}{n:Nat}{xs:List Value}(he:Ext w w')(h:w.ownsRow base e sz v n xs):w'.ownsRow base e sz v n xs:=by
 refine⟨h.1,?_⟩;rcases h.2 with aN | ⟨g,cap,cur,rfl,aD,yB,rest⟩
 ·exact .inl aN
 ·exact .inr ⟨g,cap,cur,rfl,aD,he.obj yB,rest⟩
theorem adF{w:World}{base xU:Nat}{e:TypeId}{sz:Nat}{v:Value}{n:Nat}{xs:List Value}(aD:xU≤base)(h:w.ownsRow base e sz v n xs):w.ownsRow xU e sz v n xs:=by
 refine⟨h.1,?_⟩;rcases h.2 with aN | ⟨g,cap,cur,rfl,A9,rest⟩
 ·exact .inl aN
 ·exact .inr ⟨g,cap,cur,rfl,Nat.le_trans aD A9,rest⟩
theorem S8{w:World}{base:Nat}{e:TypeId}{sz:Nat}{v:Value}{n:Nat}{xs:List Value}(h:w.ownsRow base e sz v n xs):∃bh cap,v = .slice bh n cap∧n≤cap∧cap≤maxLen∧(n≠0→bh.isSome=true)∧∀a,bh=some a→fb w a xs:=by
 rcases h.2 with ⟨rfl,rfl⟩ | ⟨g,cap,cur,rfl,aD,yB,h1,U,ai,aL⟩
 ·exact⟨none,0,rfl,Nat.le_refl _,Nat.zero_le _,fun h=>absurd rfl h,fun a br=>by cases br⟩
 ·exact⟨_,cap,rfl,h1,U,fun _=>rfl,fun a br=>by injection br with br;subst br;exact fun j u aT=>h.cells (g:=g) rfl j u aT⟩
theorem adG{α:Type}{enc:α→List Value}{w:World}{base:Nat}{e:TypeId}{sz:Nat}{v:Value}{xs:List α}(c3:∀x,(enc x).length=sz)(h:w.ownsRow base e sz v xs.length (xs.flatMap enc)):bB sz (Flat enc) w v xs:=by
 obtain⟨bh,cap,rfl,h1,U,ai,aL⟩:=S8 h;refine⟨bh,cap,rfl,h1,U,fun aN=>ai (by intro e;exact aN (List.eq_nil_of_length_eq_zero e)),fun a br i ad=>?_⟩;intro j u aT;have Br:j<sz:=by rw[←c3 xs[i]];exact(List.getElem?_eq_some_iff.1 aT).1
 rw[add_add];exact aL a br _ _ (by rw[H5 c3 xs i j ad Br];exact aT)
theorem K.VP{P:Program}{cY:Value→World→Prop}{w:World}{ty e:TypeId}{sz b:Nat}{s:Value}{a:Addr}{m c:Nat}{t}{base n:Nat}{xs news:List Value}(ay:w.ownsRow base e sz s n xs)(av:fb w a news)(aQ:news.length=m*sz)
  (h1:∀u∈news,u.oneCell'=true)(jo:n+m≤maxLen)(aD:(n+m)*b≤140737488355328)(iB:base≤w.heap.size)
  (hk:∀b3 w',w'.ownsRow base e sz b3 (n+m) (xs++news)→w.grownBy w' s.ownBlock→cY b3 w'):j5 P ty e sz b s (.slice (some a) m c) w cY t :=
 K.app fun⟨aK,i,z,ad,bU,yR,yu,wI,c3⟩=>by
  obtain⟨b3,w',bk,U,ai,_⟩:=run_append_own (P:=P) w base ty ty e i z sz b aK ad bU yR yu wI c3 s n xs ay a m c news aQ av h1 jo aD iB;exact⟨ty,b3,w',bk,hk b3 w' U ai⟩
theorem add_zero(a:Addr):a.add 0=a:=by simp[Addr.add]
theorem bB.cap{α:Type}{sz:Nat}{R:World→Addr→α→Prop}{w:World}{bh:Option Addr}{n c:Nat}{xs:List α}(h:bB sz R w (.slice bh n c) xs):xs.length≤c:=by
 obtain⟨jw,cap,e,U,ai,aL,bn⟩:=h.ex;injection e with bT bg bO
 subst bO;exact U
theorem bB.take{α:Type}{sz:Nat}{R:World→Addr→α→Prop}{w:World}{bh:Option Addr}{n c:Nat}{xs:List α}(h:bB sz R w (.slice bh n c) xs)(k:Nat)(hk:k≤xs.length) :
  bB sz R w (.slice (if c=0 then bh else bh.map (·.add (0*sz))) (k - 0) (c - 0)) (xs.take k):=by
 obtain⟨jw,cap,e,U,ai,aL,bn⟩:=h.ex;injection e with bT bg bO
 subst bT bg bO;have e:(if c=0 then bh else bh.map (·.add (0*sz)))=bh:=by
  split
  ·rfl
  ·cases bh with
   | none=>rfl
   | some a=>simp[add_zero]
 rw[e];refine⟨bh,c,by simp[List.length_take,Nat.min_eq_left hk],by simp[List.length_take];omega,ai,fun aN=>aL (by intro e;subst e;simp at aN),fun a br i ad=>?_⟩;have cN:i<xs.length:=by simp[List.length_take] at ad;omega
 rw[List.getElem_take];exact bn a br i cN
theorem PV{α:Type}{enc:α→List Value}{sz:Nat}(c3:∀x,(enc x).length=sz):∀(xs:List α) (p:Nat) (v:Value),(xs.flatMap enc)[p]? = some v→∃i j,∃h:i<xs.length,j<sz∧p=i*sz+j∧(enc xs[i])[j]? = some v
 | [],p,v,h=>by simp at h
 | x :: xs,p,v,h=>by
  rw[List.flatMap_cons] at h;by_cases aO:p<sz
  ·rw[List.getElem?_append_left (by rw[c3];exact aO)] at h;exact⟨0,p,by simp,aO,by simp,h⟩
  ·rw[List.getElem?_append_right (by rw[c3];omega),c3] at h;obtain⟨i,j,ad,aT,e,U⟩:=PV c3 xs (p - sz) v h;exact⟨i+1,j,by simpa using ad,aT,by rw[Nat.add_mul];omega,by simpa using U⟩
theorem bB.flat{α:Type}{enc:α→List Value}{sz:Nat}{R:World→Addr→α→Prop}{w:World}{a:Addr}{n c:Nat}{xs:List α}(c3:∀x,(enc x).length=sz)(iA:∀a x,R w a x→fb w a (enc x))
  (h:bB sz R w (.slice (some a) n c) xs):fb w a (xs.flatMap enc):=by
 intro p v aO;obtain⟨i,j,ad,aT,rfl,U⟩:=PV c3 xs p v aO
 have:=iA _ _ (h.at i ad) j v U
 rwa[add_add] at this
theorem vU{α:Type}{enc:α→List Value}{sz:Nat}(c3:∀x,(enc x).length=sz):∀(xs:List α),(xs.flatMap enc).length=xs.length*sz
 | []=>by simp
 | x :: xs=>by rw[List.flatMap_cons,List.length_append,vU c3 xs,c3,List.length_cons,Nat.add_mul];omega
theorem K.cut{P:Program}{Q:dM→Fr→World→Prop}{S:Fr}{w:World}{a b:eS}{t}(N:Fr→World→Prop)(h1:dQ P a (hR N Q ⟨⟩) S w ⟨⟩)
  (U:∀a1 w',(∀t,a.e4.contains t=false→a1 t=S t)→N a1 w'→dQ P b Q a1 w' ⟨⟩):dQ P (.seq a b) Q S w t:=by
 unfold dQ hR at *;exact pP a _ _ S w (fun e a1 w' ay h=>match e,h with | .normal,h=>U a1 w' ay h | .exit _,h=>h | .ret,h=>h | .fC _,h=>h) h1
theorem K.SQ{P:Program}{hf:TypeId}{cZ c9:Operand}{aE:Value→Prop}{a b:Bool}{t}(h:P.underlying hf=some .bool)(hk:aE (.bool (a != b))):gv P .neq hf cZ c9 (.bool a) (.bool b) aE t :=
 K.bin (v:=.bool (a != b)) (fun w=>by cases a<;>cases b<;>simp[eqGuard_at_bool,binOp,run_equal_bool w hf _ _ h]) hk
theorem adD{w:World}{base:Nat}{e:TypeId}{sz b:Nat}(aD:base≤b)(h:w.heap[b]? = some (.cells #[] e)):w.ownsRow base e sz (.slice (some ⟨b,0,none⟩) 0 0) 0 [] :=
 ⟨by simp,.inr ⟨b,0,#[],rfl,aD,h,Nat.le_refl _,Nat.zero_le _,by simp,by simp⟩⟩
end bt
end
section
namespace bt
open Go Go.RowKit
class j6{α:Type}(R:World→Addr→α→Prop)(enc:outParam (α→List Value)):Prop where
 Em:∀w a x,R w a x→fb w a (enc x)
instance ait{α:Type}(enc:α→List Value):j6 (Flat enc) enc:=⟨fun _ _ _ h=>h⟩
section
variable{P:Program}{Q:dM→Fr→World→Prop}{aE:Value→Prop}{K:Value→World→Prop}{S:Fr}{w w0:World}
theorem K.rB{b j:Nat}{c:List Value}{ty:TypeId}{f:Nat×Nat}{v:Value}{t}(aD:w0.heap[b]? = some (.cells c.toArray ty f))(he:Ext w0 w)(aT:c[j]? = some v)(hk:aE v):o7 (.pointer (some (Addr.add ⟨b,0,none⟩ j))) w aE t :=
 K.ld (fi (he.obj aD) (by simpa using aT)) hk
theorem K.pC{b:Nat}{c:List Value}{ty:TypeId}{f:Nat×Nat}{v:Value}{t}(aD:w0.heap[b]? = some (.cells c.toArray ty f))(he:Ext w0 w)(aT:c[0]? = some v)(hk:aE v):o7 (.pointer (some ⟨b,0,none⟩)) w aE t :=
 K.ld (yc (he.obj aD) (by simpa using aT)) hk
theorem K.gg{b n:Nat}{c:List Value}{ty:TypeId}{f:Nat×Nat}{t}(aD:w0.heap[b]? = some (.cells c.toArray ty f))(he:Ext w0 w)(aN:c.length=n)(hk:aE (.agg c.toArray)):qS n (.pointer (some ⟨b,0,none⟩)) w aE t :=
 K.iZ (fZ (he.obj aD)) aN hk
theorem K.sU{α:Type}{sz i j n c:Nat}{R:World→Addr→α→Prop}{enc:α→List Value}[j6 R enc]{a:Addr}{xs:List α}{v:Value}{t}(aQ:bB sz R w0 (.slice (some a) n c) xs)(he:Ext w0 w)(ad:i<xs.length)(aT:(enc xs[i])[j]? = some v)
  (hk:aE v):o7 (.pointer (some ((a.add (i*sz)).add j))) w aE t:=K.ld (he.cell (j6.Em _ _ _ (aQ.at i ad) j v aT)) hk
theorem K.sV{α:Type}{i n c:Nat}{R:World→Addr→α→Prop}{enc:α→List Value}[j6 R enc]{a:Addr}{xs:List α}{v:Value}{t}(aQ:bB 1 R w0 (.slice (some a) n c) xs)(he:Ext w0 w)(ad:i<xs.length)(aT:(enc xs[i])[0]? = some v)
  (hk:aE v):o7 (.pointer (some (a.add (i*1)))) w aE t:=by
 have h:=j6.Em (R:=R) _ _ _ (aQ.at i ad) 0 v aT;rw[add_zero] at h;exact K.ld (he.cell h) hk
theorem K.sT{α:Type}{sz i n c m:Nat}{R:World→Addr→α→Prop}{enc:α→List Value}[j6 R enc]{a:Addr}{xs:List α}{t}(aQ:bB sz R w0 (.slice (some a) n c) xs)(he:Ext w0 w)(ad:i<xs.length)(aN:(enc xs[i]).length=m)
  (hk:aE (.agg (enc xs[i]).toArray)):qS m (.pointer (some (a.add (i*sz)))) w aE t:=K.iZ ((j6.Em _ _ _ (aQ.at i ad)).ext he) aN hk
theorem K.r9{p:Prop}[Decidable p]{A B:Prop}{t}(h:p)(hk:A):jd (.bool (decide p)) A B t:=K.cond (fun _=>hk) fun bA=>absurd h bA
theorem K.r8{p:Prop}[Decidable p]{A B:Prop}{t}(h:¬p)(hk:B):jd (.bool (decide p)) A B t:=K.cond (fun bA=>absurd bA h) fun _=>hk
theorem K.qe{u:Bool}{A B:Prop}{t}(h:u=true)(hk:A):jd (.bool u) A B t:=K.cX (fun _=>hk) fun bA=>by rw[h] at bA;cases bA
theorem K.qd{u:Bool}{A B:Prop}{t}(h:u=false)(hk:B):jd (.bool u) A B t:=K.cX (fun bA=>by rw[h] at bA;cases bA) fun _=>hk
theorem K.sN{sz:Nat}{a:Addr}{len cap:Nat}{k:IntKind}{i:Nat}{t}(h:i<len)(hk:aE (.pointer (some (a.add (i*sz))))):xD sz (.slice (some a) len cap) (.int k (i:Int)) aE t:=K.dr i rfl h hk
theorem K.rE{d n:Nat}{ty:TypeId}{cs:Array Value}{x:Operand}{r:List Step}{cY:Fr→World→Prop}{vs:List Value}{t1 t}(aw:∀v,a7 (b5 S d v) x = .agg vs.toArray)(aN:vs.length=n)(av:cs.size=n)(h1:∀u∈vs,u.oneCell'=true)
  (hk:∀w1 b,w.heap.size≤b→Ext w w1→w1.heap[b]? = some (.cells vs.toArray ty)→iI P r (b5 S d (.pointer (some ⟨b,0,none⟩))) w1 cY ⟨⟩) :
  vl ty cs w (fun v w'=>iI P (⟨none,none,.e (.qL n (.tmp d) x)⟩ :: r) (put S (some d) v) w' cY t1) t:=by
 refine K.new fun w1 b aD he df=>?_;simp -dsimp only[Lm,Ln,Lo,Lp,Lq,Lr,Ls,Lt,Lu,Lv,Lx,Ly,Lz,LA,LB,LC,LD,LF,LG,cu,LH,LI,LJ,LK,LL,LM,LN,LO,LP,LQ,qQ,LU,LV,LW,LX,LY,LZ,L0,L1,L2,L5,hT,cP,fz,dN,h6,j7,gP,jK,j8,Mb,Mc,Md,Me,Mf,Mg,Mh,Mi,Mj,Mk,Ml,H1,Mm,Mn,Mo,Mp,Mq,Mr,Ms,Mt,Mu,Mv,Mw,Mx,My,Mz,MA,MB,MC,MD,ME,MF,MG,MH,MI,MJ,MK,ML,MM,MN,MQ,MR,M2,MS,MT,MU,MV,MW,MX,MY,M1,M3,M4,M5,M6,M7,M8,M9,Na,Nb,Nf,Ng,Nh,Ni,Nj,Nk,Nl,Nn,No,Np,Nq,Nr,Ns,Nt,Nu,Nv,Nw,Nx,Ny,Nz,NB,Ah,Ai,NC,ND,NF,NG,NH,NI,NJ,NP,NQ,NR,NS,NT,NU,NV,NW,NX,NY,N0,N1,N2,N3,N4,N5,N6,N7,N8,N9,Oa,Ob,Oc,Od,Oe,Of,Og,Oh,Oi,Oj,Ol,jh,fp,mh,Nat.reduceAdd,Nat.reduceEqDiff,reduceIte,reduceCtorEq,cS,aw];refine K.kW (cs:=vs.toArray) df av (by simpa using aN) (by simpa using h1) fun aR hw aI=>?_;exact hk aR b aD (hw.ext he aD) aI
theorem K.yn{b:eS}{t}(i N:Nat)(iL:Nat→Fr→World→Prop)(IX:S i = .int .i64 0)(aj:iL 0 S w)
  (bk:∀(k:Nat) a1 w',(∀t,b.e4.contains t=false→a1 t=S t)→k≤N→a1 i = .int .i64 k→iL k a1 w' →
   dQ P b (hR (fun fe bY=>k<N∧fe i = .int .i64 ((k:Int)+1)∧iL (k+1) fe bY) Q ⟨⟩) a1 w' ⟨⟩):vj P b Q S w t:=by
 refine K.loop (fun S w => ∃k:Nat,k≤N∧S i = .int .i64 k∧iL k S w) (fun S _=>(N - intOf (S i)).toNat) ⟨0,Nat.zero_le _,by simpa using IX,aj⟩ ?_;rintro a1 w' ch ⟨k,hk,ad,aT⟩;have h:=bk k a1 w' ch hk ad aT;unfold dQ hR at *;refine pP b _ _ a1 w' (fun e fe bY _ h=>?_) h
 match e,h with
 | .normal,⟨h1,U,ai⟩=>exact⟨⟨k+1,h1,by simpa using U,ai⟩,by simp[ad,U,intOf];omega⟩
 | .exit _,h=>exact h
 | .ret,h=>exact h
 | .fC _,h=>exact h
theorem K.qC{gR:World→Prop}{d:TypeDesc}{r:Nat}{k v:Value}{es:Array MapEntry}{c:Nat}{t}(h1:w.heap[r]? = some (.map es c))(U:Instr.findNow d k es.toList 0=some none)
  (hk:∀w1,dH r w w1→w1.heap[r]? = some (.map (es.push { key:=k,val:=v,born:=c }) (c+1))→gR w1):vk d (.map (some r)) k v w gR t :=
 K.hZ h1 U (hk _ (dH.e1 _ _ _) (zD (cL h1)))
theorem K.rK{sz:Nat}{bh:Option Addr}{n cap:Nat}{x:Operand}{k:IntKind}{t}(h:Nat)(aw:a7 S x = .int k (h:Int))(df:h≤cap)(hk:aE (.slice bh h cap)):r0 S sz (.slice bh n cap) none (some x) none aE t:=by
 refine K.iH 0 h cap (by simp[fE]) (by simp[fE,aw]) (by simp[fE]) ⟨Nat.zero_le _,df,Nat.le_refl _⟩ (by simp) ?_;have e:(if cap=0 then bh else bh.map (·.add (0*sz)))=bh:=by
  split
  ·rfl
  ·cases bh with
   | none=>rfl
   | some a=>simp[add_zero]
 rw[e];exact hk
theorem K.afr{sz:Nat}{bh:Option Addr}{n cap:Nat}{x:Operand}{k:IntKind}{t}(l:Nat)(aw:a7 S x = .int k (l:Int))(aQ:l≤n∧n≤cap)(hk:aE (.slice (if cap=l then bh else bh.map (·.add (l*sz))) (n - l) (cap - l))) :
  r0 S sz (.slice bh n cap) (some x) none none aE t :=
 K.iH l n cap (by simp[fE,aw]) (by simp[fE]) (by simp[fE]) ⟨aQ.1,aQ.2,Nat.le_refl _⟩ (by simp) hk
end
theorem bB.head{α:Type}{sz:Nat}{R:World→Addr→α→Prop}{w:World}{bh:Option Addr}{n c:Nat}{xs:List α}(h:bB sz R w (.slice bh n c) xs)(k:Nat)(hk:k≤xs.length):bB sz R w (.slice bh k c) (xs.take k):=by
 have:=h.take k hk
 have e:(if c=0 then bh else bh.map (·.add (0*sz)))=bh:=by
  split
  ·rfl
  ·cases bh with
   | none=>rfl
   | some a=>simp[add_zero]
 rw[e] at this;exact this
theorem bB.len{α:Type}{sz:Nat}{R:World→Addr→α→Prop}{w:World}{bh:Option Addr}{n c:Nat}{xs:List α}(h:bB sz R w (.slice bh n c) xs):n=xs.length∧n≤c∧c≤maxLen:=by
 obtain⟨jw,cap,e,U,ai,_⟩:=h.ex;injection e with bT bg bO
 subst bg bO;exact⟨rfl,U,ai⟩
theorem bB.tail{α:Type}{sz:Nat}{R:World→Addr→α→Prop}{w:World}{bh:Option Addr}{n c:Nat}{xs:List α}(h:bB sz R w (.slice bh n c) xs)(l:Nat)(aQ:l≤xs.length) :
  bB sz R w (.slice (if c=l then bh else bh.map (·.add (l*sz))) (n - l) (c - l)) (xs.drop l):=by
 obtain⟨bT,bg,bO⟩:=h.len;subst bT;obtain⟨jw,cap,e,U,ai,aL,bn⟩:=h.ex;injection e with bT bg bO
 subst bT bO;refine⟨_,_,by rw[List.length_drop],by rw[List.length_drop];omega,by omega,fun aN=>?_,fun a br i ad=>?_⟩
 ·have:xs≠[]:=by intro e;subst e;simp at aN
  have:=aL this
  split
  ·exact this
  ·cases bh with
   | none=>cases this
   | some a=>rfl
 ·have cN:l+i<xs.length:=by rw[List.length_drop] at ad;omega
  rw[if_neg (by omega)] at br;cases bh with
  | none=>cases br
  | some b =>
   simp only[Option.map_some,Option.some.injEq] at br;subst br;rw[add_add,←Nat.add_mul,List.getElem_drop];exact bn b rfl _ cN
structure Mod(A:Nat→Prop)(w w':World):Prop where
 os:w'.os=w.os
 tape:w'.tape=w.tape
 output:w'.output=w.output
 size:w.heap.size≤w'.heap.size
 block:∀k,k<w.heap.size→¬A k→w'.heap[k]? = w.heap[k]?
theorem Mod.refl(A:Nat→Prop)(w:World):Mod A w w:=⟨rfl,rfl,rfl,Nat.le_refl _,fun _ _ _=>rfl⟩
theorem Mod.trans{A:Nat→Prop}{a b c:World}(h:Mod A a b)(k:Mod A b c):Mod A a c :=
 ⟨k.os.trans h.os,k.tape.trans h.tape,k.output.trans h.output,Nat.le_trans h.size k.size,fun i ad aN=>(k.block i (Nat.lt_of_lt_of_le ad h.size) aN).trans (h.block i ad aN)⟩
theorem Mod.then{A B:Nat→Prop}{a b c:World}(h:Mod B a b)(k:Mod A b c)(ay:∀i,i<a.heap.size→A i→B i):Mod B a c :=
 ⟨k.os.trans h.os,k.tape.trans h.tape,k.output.trans h.output,Nat.le_trans h.size k.size,fun i ad aN=>(k.block i (Nat.lt_of_lt_of_le ad h.size) fun e=>aN (ay i ad e)).trans (h.block i ad aN)⟩
theorem Ext.mod{A:Nat→Prop}{w w':World}(h:Ext w w'):Mod A w w':=⟨h.os,h.tape,h.output,h.size,fun _ hk _=>h.heap hk⟩
theorem dH.mod{A:Nat→Prop}{b:Nat}{w w':World}(h:dH b w w')(aD:A b):Mod A w w':=⟨h.os,h.tape,h.output,by rw[h.size];exact Nat.le_refl _,fun k _ aN=>h.block k fun e=>aN (e ▸ aD)⟩
theorem Mod.grown{A:Nat→Prop}{w w':World}{row:Option Nat}(h:w.grownBy w' row)(bk:∀k,row=some k→A k):Mod A w w':=⟨h.os,h.tape,h.output,h.size,fun k hk aN=>h.block k hk fun e=>aN (bk k e.symm)⟩
theorem Mod.ext{A:Nat→Prop}{w0 w w':World}(h:Mod A w w')(he:Ext w0 w)(eC:∀k,k<w0.heap.size→¬A k):Ext w0 w' :=
 ⟨h.os.trans he.os,h.tape.trans he.tape,h.output.trans he.output,Nat.le_trans he.size h.size,fun k hk=>(h.block k (Nat.lt_of_lt_of_le hk he.size) (eC k hk)).trans (he.heap hk)⟩
theorem Mod.obj{A:Nat→Prop}{w w':World}{k:Nat}{aq:Obj}(h:Mod A w w')(aN:¬A k)(hk:w.heap[k]? = some aq):w'.heap[k]? = some aq:=(h.block k (cL hk) aN).trans hk
theorem Mod.GA{A B:Nat→Prop}{w w':World}(h:Mod A w w')(ay:∀k,A k→B k):Mod B w w':=⟨h.os,h.tape,h.output,h.size,fun k hk aN=>h.block k hk fun e=>aN (ay k e)⟩
def bp{α:Type}(enc:α→List Value)(e:TypeId)(sz base:Nat)(w:World)(v:Value)(xs:List α):Prop:=w.ownsRow base e sz v xs.length (xs.flatMap enc)
section
variable{α:Type}{enc:α→List Value}{e:TypeId}{sz base:Nat}{w w':World}{v:Value}{xs:List α}
theorem bp.nil(enc:α→List Value)(e:TypeId)(sz base:Nat)(w:World):bp enc e sz base w (.slice none 0 0) []:=World.ownsRow_nil w base e sz
theorem bp.ext(he:Ext w w')(h:bp enc e sz base w v xs):bp enc e sz base w' v xs:=adE he h
theorem bp.wr{b:Nat}(hw:dH b w w')(aD:b<base)(h:bp enc e sz base w v xs):bp enc e sz base w' v xs :=
 World.ownsRow.kept (row:=some b) h ⟨hw.os,hw.tape,hw.output,by rw[hw.size];exact Nat.le_refl _,fun k _ hk=>hw.block k (fun e=>hk (by rw[e]))⟩ (by
  cases aU:v.ownBlock with
  | none=>exact .inl rfl
  | some k=>exact .inr (by have:=(World.ownsRow.lt h k aU).1;intro e;injection e with e;omega))
theorem bp.lt(h:bp enc e sz base w v xs):∀k,v.ownBlock=some k→base≤k∧k<w.heap.size:=World.ownsRow.lt h
theorem bp.form(h:bp enc e sz base w v xs):∃bh cap,v = .slice bh xs.length cap∧xs.length≤cap∧cap≤maxLen:=by
 obtain⟨bh,cap,h1,U,ai,_⟩:=S8 h;exact⟨bh,cap,h1,U,ai⟩
theorem bp.o0(c3:∀x,(enc x).length=sz)(h:bp enc e sz base w v xs):bB sz (Flat enc) w v xs:=adG c3 h
theorem bp.head{bh:Option Addr}{n cap:Nat}(c3:∀x,(enc x).length=sz)(h:bp enc e sz base w (.slice bh n cap) xs)(k:Nat)(hk:k≤xs.length):bp enc e sz base w (.slice bh k cap) (xs.take k):=by
 have mZ:∀(xs:List α) (k:Nat),(xs.flatMap enc).take (k*sz)=(xs.take k).flatMap enc:=by
  intro xs
  induction xs with
  | nil=>intro k;simp
  | cons x xs gf =>
   intro k;cases k with
   | zero=>simp
   | succ k =>
    simp only[List.flatMap_cons,List.take_succ_cons];rw[List.take_append,c3,show(k+1)*sz - sz=k*sz from by rw[Nat.add_mul];omega,gf,List.take_of_length_le (by rw[c3,Nat.add_mul];omega)]
 have aQ:(xs.take k).length=k:=by simp[List.length_take];omega
 refine⟨by rw[aQ,vU c3,aQ],?_⟩;rcases h.2 with ⟨h1,U⟩ | ⟨g,nz,cur,h1,U,ai,aL,bn,bL,b7⟩
 ·injection h1 with bT bg bO
  subst bT bO
  have:xs.length=0:=U
  exact .inl ⟨by congr 1;omega,by omega⟩
 ·injection h1 with bT bg bO
  subst bT bO;refine .inr ⟨g,cap,cur,by rw[aQ],U,ai,by omega,bn,bL,?_⟩;rw[aQ,←mZ,←b7,List.take_take,Nat.min_eq_left (Nat.mul_le_mul_right _ hk)]
theorem K.qZ{P:Program}{cY:Value→World→Prop}{ty:TypeId}{b:Nat}{s:Value}{a:Addr}{m c:Nat}{ys:List α}{t}(ay:bp enc e sz base w s xs)(c3:∀x,(enc x).length=sz)(av:fb w a (ys.flatMap enc))(hm:m=ys.length)
  (h1:∀y,∀u∈enc y,u.oneCell'=true)(aD:(xs.length+ys.length)*b≤140737488355328)(jo:xs.length+ys.length≤maxLen)(iB:base≤w.heap.size)
  (hk:∀b3 w',bp enc e sz base w' b3 (xs++ys)→w.grownBy w' s.ownBlock→cY b3 w'):j5 P ty e sz b s (.slice (some a) m c) w cY t:=by
 subst hm;refine K.VP ay av (vU c3 ys) (fun u hu=>by obtain⟨y,_,cB⟩:=List.mem_flatMap.1 hu;exact h1 y u cB) jo aD iB fun b3 w' yQ a6=>hk b3 w' ?_ a6;unfold bp;rw[List.length_append,List.flatMap_append];exact yQ
end
end bt
end
section
namespace bt
open Go Go.RowKit
section
variable{P:Program}{cY:Value→World→Prop}{α:Type}{enc:α→List Value}{e:TypeId}{sz base xU:Nat}{w:World}{s x:Value}{xs ys:List α}
theorem K.xS{ty:TypeId}{b:Nat}{t}(ay:bp enc e sz base w s xs)(aw:bp enc e sz xU w x ys)(c3:∀x,(enc x).length=sz)(h1:∀y,∀u∈enc y,u.oneCell'=true)(aD:(xs.length+ys.length)*b≤140737488355328)
  (jo:xs.length+ys.length≤maxLen)(iB:base≤w.heap.size)(hk:∀b3 w',bp enc e sz base w' b3 (xs++ys)→w.grownBy w' s.ownBlock→cY b3 w'):j5 P ty e sz b s x w cY t:=by
 rcases aw.2 with ⟨rfl,aj⟩ | ⟨g,cap,cur,rfl,EZ,a6,ai,aL,bn,bL⟩
 ·have:ys=[]:=List.eq_nil_of_length_eq_zero aj
  subst this;rw[List.append_nil] at hk;refine K.app fun⟨aK,i,z,ad,bU,yR,yu,wI,Fx⟩=>?_;exact⟨ty,s,w,run_append_owned_none w base ty ty e i sz aK ad s _ _ ay,hk s w ay ⟨rfl,rfl,rfl,Nat.le_refl _,fun _ _ _=>rfl⟩⟩
 ·exact K.qZ ay c3 (fun j u aT=>World.ownsRow.cells aw (g:=g) rfl j u aT) rfl h1 aD jo iB hk
theorem K.VO{R:World→Addr→α→Prop}[j6 R enc]{ty:TypeId}{b:Nat}{a:Addr}{m c:Nat}{t}(ay:bp enc e sz base w s xs)(aw:bB sz R w (.slice (some a) m c) ys)(c3:∀x,(enc x).length=sz)(h1:∀y,∀u∈enc y,u.oneCell'=true)
  (aD:(xs.length+ys.length)*b≤140737488355328)(jo:xs.length+ys.length≤maxLen)(iB:base≤w.heap.size)(hk:∀b3 w',bp enc e sz base w' b3 (xs++ys)→w.grownBy w' s.ownBlock→cY b3 w'):j5 P ty e sz b s (.slice (some a) m c) w cY t :=
 K.qZ ay c3 (bB.flat (enc:=enc) c3 (fun a x h=>j6.Em _ a x h) aw) aw.len.1 h1 aD jo iB hk
theorem bp.empty{b:Nat}(aD:base≤b)(h:w.heap[b]? = some (.cells #[] e)):bp enc e sz base w (.slice (some ⟨b,0,none⟩) 0 0) ([]:List α):=adD aD h
theorem bp.low{v:Value}(aD:xU≤base)(h:bp enc e sz base w v xs):bp enc e sz xU w v xs:=adF aD h
end
end bt
end
section
namespace bt
open Go
def ab(n:Nat):Operand:=.tmp n
def ah(n:Int):Operand:=.const (.int .i64 n)
def bS(b:Bool):Operand:=.const (.bool b)
def aY(d:Nat)(i:tC):Step:=⟨some d,none,.p i⟩
def lF(d:Nat)(i:rZ):Step:=⟨some d,none,.r i⟩
def aC(d:Nat)(i:pV):Step:=⟨some d,none,.e i⟩
def db(d:Nat)(i:oe):Step:=⟨some d,none,.c i⟩
def hS(i:pV):Step:=⟨none,none,.e i⟩
def qO(j:Nat)(b:Bool)(s:Step):Step:=⟨s.dst,some (j,b),s.i⟩
def I(d n:Nat):Step:=⟨some d,none,.p (.oS (.tmp n))⟩
def ag(d:Nat)(x:Operand):Step:=⟨some d,none,.p (.oS x)⟩
def af(d k n:Nat):Step:=⟨some d,none,.p (.hF k (.tmp n))⟩
def ae(d n:Nat):Step:=⟨some d,none,.r (.ld (.tmp n))⟩
def bm(d k a i:Nat):Step:=⟨some d,none,.p (.hv k (.tmp a) (.tmp i))⟩
def ys(a v:Nat):Step:=⟨none,none,.e (.st (.tmp a) (.tmp v))⟩
def bH(d n:Nat):Step:=⟨some d,none,.p (.y2 (.tmp n))⟩
def ak:Value:=.int .i64 0
def aM:Value:=.slice none 0 0
def cG:Value:=.string ⟨#[]⟩
def bj(op:BinOp)(t:TypeId)(d a b:Nat):Step:=⟨some d,none,.p (.bin op t (.tmp a) (.tmp b))⟩
def ax(op:BinOp)(t:TypeId)(d a:Nat)(n:Int):Step:=⟨some d,none,.p (.bin op t (.tmp a) (.const (.int .i64 n)))⟩
def dp(d a b:Nat):Step:=⟨some d,none,.p (.pick (.tmp a) (.tmp b) (.const (.bool false)))⟩
def cg(d a b:Nat):Step:=⟨some d,none,.p (.pick (.tmp a) (.const (.bool true)) (.tmp b))⟩
def J(bX:List Step)(b:eS):eS:=.seq (.bC bX) b
def aB(n:Nat)(a b:eS):eS:=.cond (.tmp n) a b
def bl(d k n:Nat):Step:=⟨some d,none,.r (.iZ k (.tmp n))⟩
def cc(k a v:Nat):Step:=⟨none,none,.e (.qL k (.tmp a) (.tmp v))⟩
def gO(d n:Nat):Step:=⟨some d,none,.p (.zm (.tmp n))⟩
def bx(d n i:Nat):Step:=⟨some d,none,.p (.ext (.tmp n) i)⟩
def aX(d:Nat)(f:FuncId)(l:List Nat):Step:=⟨some d,none,.c (.fn f (l.map .tmp))⟩
def fm(n m:Nat)(b:eS):eS:=.seq (.cond (.tmp n) .skip (.exit m)) b
def aW(n:Nat)(s:Step):Step:=qO n true s
def ar(n:Nat)(s:Step):Step:=qO n false s
def ao(s:Step)(k:eE):eE:=.take s k
def fx(t:TypeId)(a b:Nat):eS:=.bC [⟨some a,none,.p (.bin .add t (.tmp b) (.const (.int .i64 1)))⟩,⟨some b,none,.p (.oS (.tmp a))⟩]
theorem bF{A B:Prop}(k:B)(h:B→A:=by
 intro q;dsimp only[ab,ah,bS,aY,lF,aC,db,hS,qO,I,ag,af,ae,bm,ys,bH,ak,aM,cG,bj,ax,dp,cg,J,aB,bl,cc,gO,bx,aX,fm,fx,aW,ar,ao,List.map_cons,List.map_nil];exact q):A:=h k
end bt
end