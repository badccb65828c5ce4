/- Parts. -/
import Derived.Test.YtakmdjclehkglaaGreatDoorQaub
import Derived.RowKit
import Derived.ChangeSame
import Derived.Carry
import Derived.OpenShut
import Derived.Deep.Slices
import Derived.Deep.Fields
import Derived.Lib.LaidTab
import Derived.Laws.OwnMore
set_option linter.all false
section
namespace bb
open Go Go.RowKit
structure Tok{α:Type}(a:α):Type where
def dO(P:D_)(c:eC)(Q:ed->Fr->A_->Prop)(S:Fr)(w:A_)(_:Tok (P,c,Q)):Prop:=ec P c Q S w
def ka(P:D_)(b5:C_ Step)(S:Fr)(w:A_)(K:Fr->A_->Prop)(_:Tok (P,b5,K)):Prop:=steps P b5 S w K
def lP(P:D_)(b5:C_ Step)(S:Fr)(w:A_)(K:Fr->Prop)(_:Tok (P,b5,K)):Prop:=tq P b5 S w K
def fT(P:D_)(w0:A_)(x:eJ)(S:Fr)(w:A_)(K:Fr->A_->Prop)(_:Tok (P,w0,x,K)):Prop:=mP P w0 x S w K
def Ae(P:D_)(w0:A_)(s:Step)(S:Fr)(K:Fr->Prop)(_:Tok (P,w0,s,K)):Prop:=FM P w0 s S K
def sO(P:D_)(s:Step)(S:Fr)(w:A_)(K:Fr->A_->Prop)(_:Tok (P,s,K)):Prop:=pb P s S w K
def sC(P:D_)(w0:A_)(s:Step)(S:Fr)(w:A_)(K:Fr->A_->Prop)(_:Tok (P,w0,s,K)):Prop:=C7 P w0 s S w K
def ql(P:D_)(i:Ins)(S:Fr)(w:A_)(K:B_->A_->Prop)(_:Tok (P,i,K)):Prop:=kd P i S w K
def nI(P:D_)(i:Ins)(S:Fr)(w:A_)(K:B_->A_->Prop)(_:Tok (P,i,K)):Prop:=lV P i S w K
def uV(P:D_)(i:qi)(S:Fr)(w:A_)(K:B_->A_->Prop)(_:Tok (P,i,K)):Prop:=R4 P i S w K
def yy(P:D_)(x:B_)(l:C_ B_)(w:A_)(K:B_->A_->Prop)(_:Tok (P,K)):Prop:=R5 P x l w K
def oX(P:D_)(i:Ins)(S:Fr)(w:A_)(K:B_->Prop)(_:Tok (P,i,K)):Prop:=lX P i S w K
def u4(P:D_)(i:qi)(S:Fr)(w:A_)(K:B_->Prop)(_:Tok (P,i,K)):Prop:=acT P i S w K
def Gy(P:D_)(f:E_)(l:C_ B_)(w:A_)(K:B_->Prop)(_:Tok (P,f,K)):Prop:=TE P f l w K
def CZ(P:D_)(x:B_)(l:C_ B_)(w:A_)(K:B_->Prop)(_:Tok (P,K)):Prop:=acV P x l w K
def eN(P:D_)(i:w5)(S:Fr)(K:B_->Prop)(_:Tok (P,i,K)):Prop:=oW P i S K
def oY(i:u5)(S:Fr)(w:A_)(K:B_->Prop)(_:Tok (i,K)):Prop:=nK i S w K
def iN(P:D_)(i:sf)(S:Fr)(w:A_)(K:B_->A_->Prop)(_:Tok (P,i,K)):Prop:=nF P i S w K
def uU(P:D_)(i:qi)(S:Fr)(w:A_)(K:B_->A_->Prop)(_:Tok (P,i,K)):Prop:=rj P i S w K
def gA(P:D_)(op:BinOp)(t:F_)(cX:G_)(c6:G_)(x:B_)(y:B_)(K:B_->Prop)(_:Tok (P,op,t,cX,c6,K)):Prop:=oo P op t cX c6 x y K
def yQ(op:UnOp)(x:B_)(K:B_->Prop)(_:Tok (op,K)):Prop:=AL op x K
def CL(k:IntKind)(x:B_)(K:B_->Prop)(_:Tok (k,K)):Prop:=F8 k x K
def ox(k:IntKind)(n:Int)(K:B_->Prop)(_:Tok (k,K)):Prop:=sv k n K
def ky(v:B_)(A:Prop)(B:Prop)(_:Tok (A,B)):Prop:=mm v A B
def j3(v:B_)(b:Bool)(A:Prop)(B:Prop)(C:Prop)(_:Tok (b,A,B,C)):Prop:=lU v b A B C
def CP(off:Nat)(x:B_)(K:B_->Prop)(_:Tok (off,K)):Prop:=Ga off x K
def Ax(sz:Nat)(x:B_)(i:B_)(K:B_->Prop)(_:Tok (sz,K)):Prop:=Gg sz x i K
def Gf(len:Nat)(sz:Nat)(x:B_)(i:B_)(K:B_->Prop)(_:Tok (len,sz,K)):Prop:=Ls len sz x i K
def Gj(x:B_)(i:B_)(K:B_->Prop)(_:Tok (K)):Prop:=Lu x i K
def Gi(len:Nat)(x:B_)(i:B_)(K:B_->Prop)(_:Tok (len,K)):Prop:=Lt len x i K
def Gd(off:Nat)(x:B_)(K:B_->Prop)(_:Tok (off,K)):Prop:=Gc off x K
def CQ(off:Nat)(n:Nat)(x:B_)(K:B_->Prop)(_:Tok (off,n,K)):Prop:=Gb off n x K
def F3(S:Fr)(z:C_ B_)(pl:C_ (Nat×Nat))(da:C_ (Nat×G_))(K:B_->Prop)(_:Tok (z,pl,da,K)):Prop:=Lj S z pl da K
def su(S:Fr)(sz:Nat)(x:B_)(aO:H_ G_)(U:H_ G_)(mx:H_ G_)(K:B_->Prop)(_:Tok (sz,aO,U,mx,K)):Prop:=LG S sz x aO U mx K
def GB(S:Fr)(x:B_)(aO:H_ G_)(U:H_ G_)(K:B_->Prop)(_:Tok (aO,U,K)):Prop:=LF S x aO U K
def uY(x:B_)(i:Nat)(K:B_->Prop)(_:Tok (i,K)):Prop:=wW x i K
def CT(x:B_)(K:B_->Prop)(_:Tok (K)):Prop:=Gp x K
def CS(x:B_)(K:B_->Prop)(_:Tok (K)):Prop:=Gm x K
def CJ(x:B_)(K:B_->Prop)(_:Tok (K)):Prop:=F7 x K
def CU(x:B_)(y:B_)(K:B_->Prop)(_:Tok (K)):Prop:=Gr x y K
def CV(x:B_)(y:B_)(K:B_->Prop)(_:Tok (K)):Prop:=Gs x y K
def yG(x:B_)(K:B_->Prop)(_:Tok (K)):Prop:=yF x K
def rm(x:B_)(w:A_)(K:B_->Prop)(_:Tok (K)):Prop:=Gl x w K
def u2(n:Nat)(x:B_)(w:A_)(K:B_->Prop)(_:Tok (n,K)):Prop:=Gk n x w K
def Ay(d:TypeDesc)(z:B_)(ok:Bool)(m:B_)(k:B_)(w:A_)(K:B_->Prop)(_:Tok (d,z,ok,K)):Prop:=Lx d z ok m k w K
def Gn(m:B_)(w:A_)(K:B_->Prop)(_:Tok (K)):Prop:=Lw m w K
def qu(x:B_)(v:B_)(w:A_)(K:A_->Prop)(_:Tok (K)):Prop:=u7 x v w K
def yO(n:Nat)(x:B_)(v:B_)(w:A_)(K:A_->Prop)(_:Tok (n,K)):Prop:=AK n x v w K
def AB(e:F_)(sz:Nat)(b:Nat)(z:B_)(l:B_)(c:B_)(w:A_)(K:B_->A_->Prop)(_:Tok (e,sz,b,z,K)):Prop:=Ly e sz b z l c w K
def CH(S:Fr)(e:F_)(len:Nat)(sz:Nat)(z:C_ B_)(da:C_ (Nat×G_))(w:A_)(K:B_->A_->Prop)(_:Tok (e,len,sz,z,da,K)):Prop:=F2 S e len sz z da w K
def mR(P:D_)(t:F_)(e:F_)(sz:Nat)(b:Nat)(s:B_)(x:B_)(w:A_)(K:B_->A_->Prop)(_:Tok (P,t,e,sz,b,K)):Prop:=yx P t e sz b s x w K
def yC(d:TypeDesc)(m:B_)(k:B_)(v:B_)(w:A_)(K:A_->Prop)(_:Tok (d,K)):Prop:=Lz d m k v w K
def Gv(x:B_)(w:A_)(K:B_->A_->Prop)(_:Tok (K)):Prop:=LB x w K
def Gz(x:B_)(w:A_)(K:B_->A_->Prop)(_:Tok (K)):Prop:=TO x w K
def sn(P:D_)(op:Op)(ty:F_)(S:Fr)(w:A_)(K:B_->A_->Prop)(_:Tok (P,op,ty,K)):Prop:=TM P op ty S w K
def As(P:D_)(f:E_)(l:C_ B_)(w:A_)(K:B_->A_->Prop)(_:Tok (P,f,K)):Prop:=F6 P f l w K
def GC(P:D_)(f:E_)(l:C_ B_)(w:A_)(K:B_->A_->Prop)(Z:C_ PanicEntry->A_->Prop)(_:Tok (P,f,K,Z)):Prop:=yP P f l w K Z
def wQ(P:D_)(x:B_)(m:String)(l:C_ B_)(w:A_)(K:B_->A_->Prop)(_:Tok (P,m,K)):Prop:=CI P x m l w K
def LD(P:D_)(x:B_)(m:String)(l:C_ B_)(w:A_)(K:B_->Prop)(_:Tok (P,m,K)):Prop:=acU P x m l w K
def CY(v:B_)(Z:C_ PanicEntry->Prop)(_:Tok (Z)):Prop:=u3 v Z
def uW(P:D_)(x:B_)(l:C_ B_)(w:A_)(K:B_->A_->Prop)(_:Tok (P,K)):Prop:=Ar P x l w K
def yE(t:F_)(cs:Array B_)(w:A_)(K:B_->A_->Prop)(_:Tok (t,K)):Prop:=acM t cs w K
def Gt(w:A_)(K:B_->A_->Prop)(_:Tok (K)):Prop:=acL w K
def yB(P:D_)(b:eC)(Q:ed->Fr->A_->Prop)(S:Fr)(w:A_)(_:Tok (P,b,Q)):Prop:=SZ P b Q S w
def jd(r:C_ mr)(S:Fr)(w:A_)(K:C_ B_->Prop)(_:Tok (r,K)):Prop:=pv r S w K
def hY(N:Fr->A_->Prop)(Q:ed->Fr->A_->Prop)(_:Tok (N,Q)):ed->Fr->A_->Prop:=uO N Q
def qz(i:Nat)(Q:ed->Fr->A_->Prop)(_:Tok (i,Q)):ed->Fr->A_->Prop:=A0 i Q
def qG(r:C_ mr)(R:B_->A_->Prop)(_:Tok (r,R)):ed->Fr->A_->Prop:=DC r R
def vo(r:C_ mr)(R:B_->A_->Prop)(Z:C_ PanicEntry->A_->Prop)(_:Tok (r,R,Z)):ed->Fr->A_->Prop:=VT r R Z
section
variable{P:Program}{Q:ed->Fr->World->Prop}{N cQ:Fr->World->Prop}{hM:Fr->Prop}{aC:Value->Prop}{K:Value->World->Prop}{lW:List Value->Prop}{R:Value->World->Prop}{Z:List PanicEntry->World->Prop}{AQ:List PanicEntry->Prop}{S:Fr}{w:World}{A B C:Prop}
set_option linter.unusedVariables false
theorem RA  {t}:dO P .skip Q S w t=Q .normal S w:=propext Iff.rfl
theorem RB  {b5}{t}:dO P (.dk b5) Q S w t=ka P b5 S w (fun S w=>Q .normal S w) ⟨⟩:=propext Iff.rfl
theorem RC  {b5}{t}:dO P (.qD b5) Q S w t=lP P b5 S w (fun S => ∀w',Ext w w'->Q .normal S w') ⟨⟩:=propext Iff.rfl
theorem RD  {x}{t}:dO P (.dM x) Q S w t=(∀w1,Ext w w1->fT P w1 x S w1 (fun S w=>Q .normal S w) ⟨⟩):=propext Iff.rfl
theorem RE  {w0}{t}:fT P w0 .done S w cQ t=cQ S w:=propext Iff.rfl
theorem RF  {w0}{t}:fT P w0 .nil S w cQ t=True:=propext Iff.rfl
theorem RG  {w0 s r}{t}:fT P w0 (.take s r) S w cQ t=Ae P w0 s S (fun S=>fT P w0 r S w cQ ⟨⟩) ⟨⟩:=propext Iff.rfl
theorem RH  {w0 s r}{t}:fT P w0 (.alt s r .nil) S w cQ t=sC P w0 s S w (fun S w=>fT P w0 r S w cQ ⟨⟩) ⟨⟩:=and_true _
theorem RI  {w0 s r iu hj kS}{t}:fT P w0 (.alt s r (.alt iu hj kS)) S w cQ t=(sC P w0 s S w (fun S w=>fT P w0 r S w cQ ⟨⟩) ⟨⟩/\fT P w0 (.alt iu hj kS) S w cQ ⟨⟩):=propext Iff.rfl
theorem RJ  {w0 s r iu hj kS}{t}:fT P w0 (.alt s r (.bk iu hj kS)) S w cQ t=(sC P w0 s S w (fun S w=>fT P w0 r S w cQ ⟨⟩) ⟨⟩/\fT P w0 (.bk iu hj kS) S w cQ ⟨⟩):=propext Iff.rfl
theorem RL  {w0 s r}{t}:fT P w0 (.bk s r .nil) S w cQ t=sO P s S w (fun S w=>fT P w0 r S w cQ ⟨⟩) ⟨⟩:=and_true _
theorem RM  {w0 s r iu hj kS}{t}:fT P w0 (.bk s r (.alt iu hj kS)) S w cQ t=(sO P s S w (fun S w=>fT P w0 r S w cQ ⟨⟩) ⟨⟩/\fT P w0 (.alt iu hj kS) S w cQ ⟨⟩):=propext Iff.rfl
theorem RN  {w0 s r iu hj kS}{t}:fT P w0 (.bk s r (.bk iu hj kS)) S w cQ t=(sO P s S w (fun S w=>fT P w0 r S w cQ ⟨⟩) ⟨⟩/\fT P w0 (.bk iu hj kS) S w cQ ⟨⟩):=propext Iff.rfl
theorem RO  {d i}{t}:sO P ⟨d,none,i⟩ S w cQ t=nI P i S w (fun v w'=>cQ (put S d v) w') ⟨⟩:=propext Iff.rfl
theorem RP  {d j b i}{t}:sO P ⟨d,some (j,b),i⟩ S w cQ t=j3 (S j) b (nI P i (bW S j (.bool b)) w (fun v w'=>cQ (put (bW S j (.bool b)) d v) w') ⟨⟩) (cQ (put (bW S j (.bool (!b))) d undef) w) (cQ (put S d undef) w) ⟨⟩:=propext Iff.rfl
theorem RQ  {w0 d i}{t}:Ae P w0 ⟨d,none,i⟩ S hM t=oX P i S w0 (fun v=>hM (put S d v)) ⟨⟩:=propext Iff.rfl
theorem RR  {w0 d j b i}{t}:Ae P w0 ⟨d,some (j,b),i⟩ S hM t=j3 (S j) b (oX P i (bW S j (.bool b)) w0 (fun v=>hM (put (bW S j (.bool b)) d v)) ⟨⟩) (hM (put (bW S j (.bool (!b))) d undef)) (hM (put S d undef)) ⟨⟩:=propext Iff.rfl
theorem RS  {w0 d i}{t}:sC P w0 ⟨d,none,i⟩ S w cQ t=ql P i S w (fun v w'=>Ext w0 w'/\cQ (put S d v) w') ⟨⟩:=propext Iff.rfl
theorem RT  {w0 d j b i}{t}:sC P w0 ⟨d,some (j,b),i⟩ S w cQ t=j3 (S j) b (ql P i (bW S j (.bool b)) w (fun v w'=>Ext w0 w'/\cQ (put (bW S j (.bool b)) d v) w') ⟨⟩) (cQ (put (bW S j (.bool (!b))) d undef) w) (cQ (put S d undef) w) ⟨⟩:=propext Iff.rfl
theorem cB  {a b}{t}:dO P (.seq a b) Q S w t=dO P a (hY (fun S w=>dO P b Q S w ⟨⟩) Q ⟨⟩) S w ⟨⟩:=propext Iff.rfl
theorem RU  {c x y}{t}:dO P (.cond c x y) Q S w t=ky (aS S c) (dO P x Q S w ⟨⟩) (dO P y Q S w ⟨⟩) ⟨⟩:=propext Iff.rfl
theorem RV  {id b}{t}:dO P (.cu id b) Q S w t=dO P b (qz id Q ⟨⟩) S w ⟨⟩:=propext Iff.rfl
theorem RW  {id}{t}:dO P (.exit id) Q S w t=Q (.exit id) S w:=propext Iff.rfl
theorem RX  {t}:dO P .ret Q S w t=Q .ret S w:=propext Iff.rfl
theorem RY  {b5 d f l}{t}:dO P (.fs b5 d f l) Q S w t=ka P b5 S w (fun S w=>GC P f (l.map (aS S)) w (fun v w'=>Q .normal (put S d v) w') (fun c w'=>Q (.gf c) S w') ⟨⟩) ⟨⟩:=propext Iff.rfl
theorem RZ  {b5 x}{t}:dO P (.r5 b5 x) Q S w t=ka P b5 S w (fun S w=>CY (aS S x) (fun c=>Q (.gf c) S w) ⟨⟩) ⟨⟩:=propext Iff.rfl
theorem R0  {i:F_}{v:B_}{t}:CY (.iface i v) AQ t=AQ [{ v:=.iface i v,recovered:=false }]:=bb.anH i v AQ
theorem R1  {c}{t}:hY N Q t (.gf c) S w=Q (.gf c) S w:=propext Iff.rfl
theorem R2{i}{c}{t}:qz i Q t (.gf c) S w=Q (.gf c) S w:=propext Iff.rfl
theorem R3{r}{t}:vo r R Z t .normal S w=jd r S w (fun vs=>R (gY vs) w) ⟨⟩:=propext Iff.rfl
theorem tB{r}{t}:vo r R Z t .ret S w=jd r S w (fun vs=>R (gY vs) w) ⟨⟩:=propext Iff.rfl
theorem R6{r}{c}{t}:vo r R Z t (.gf c) S w=Z c w:=propext Iff.rfl
theorem R7  {b}{t}:dO P (.loop b) Q S w t=yB P b Q S w ⟨⟩:=propext Iff.rfl
theorem R8  {t}:hY N Q t .normal S w=N S w:=propext Iff.rfl
theorem R9  {i}{t}:hY N Q t (.exit i) S w=Q (.exit i) S w:=propext Iff.rfl
theorem Sa  {t}:hY N Q t .ret S w=Q .ret S w:=propext Iff.rfl
theorem Sb{i}{t}:qz i Q t .normal S w=Q .normal S w:=propext Iff.rfl
theorem Sc{i}{t}:qz i Q t .ret S w=Q .ret S w:=propext Iff.rfl
theorem Sd{i}{j}{t}:qz i Q t (.exit j) S w=if j=i then Q .normal S w else Q (.exit j) S w:=propext Iff.rfl
theorem Se{r}{t}:qG r R t .normal S w=jd r S w (fun vs=>R (gY vs) w) ⟨⟩:=propext Iff.rfl
theorem yz{r}{t}:qG r R t .ret S w=jd r S w (fun vs=>R (gY vs) w) ⟨⟩:=propext Iff.rfl
theorem jt  {t}:ka P [] S w cQ t=cQ S w:=propext Iff.rfl
theorem c7  {d i r}{t}:ka P (⟨d,none,i⟩ :: r) S w cQ t=nI P i S w (fun v w'=>ka P r (put S d v) w' cQ ⟨⟩) ⟨⟩:=propext Iff.rfl
theorem fv  {d j b i r}{t}:ka P (⟨d,some (j,b),i⟩ :: r) S w cQ t=j3 (S j) b (nI P i (bW S j (.bool b)) w (fun v w'=>ka P r (put (bW S j (.bool b)) d v) w' cQ ⟨⟩) ⟨⟩) (ka P r (put (bW S j (.bool (!b))) d undef) w cQ ⟨⟩) (ka P r (put S d undef) w cQ ⟨⟩) ⟨⟩:=propext Iff.rfl
theorem eA  {t}:lP P [] S w hM t=hM S:=propext Iff.rfl
theorem jM  {d i r}{t}:lP P (⟨d,none,i⟩ :: r) S w hM t=oX P i S w (fun v=>lP P r (put S d v) w hM ⟨⟩) ⟨⟩:=propext Iff.rfl
theorem iM  {d j b i r}{t}:lP P (⟨d,some (j,b),i⟩ :: r) S w hM t=j3 (S j) b (oX P i (bW S j (.bool b)) w (fun v=>lP P r (put (bW S j (.bool b)) d v) w hM ⟨⟩) ⟨⟩) (lP P r (put (bW S j (.bool (!b))) d undef) w hM ⟨⟩) (lP P r (put S d undef) w hM ⟨⟩) ⟨⟩:=propext Iff.rfl
theorem gK  {i}{t}:ql P (.p i) S w K t=eN P i S (fun v=>K v w) ⟨⟩:=propext Iff.rfl
theorem ih  {i}{t}:ql P (.r i) S w K t=oY i S w (fun v=>K v w) ⟨⟩:=propext Iff.rfl
theorem gS  {i}{t}:ql P (.e i) S w K t=iN P i S w K ⟨⟩:=propext Iff.rfl
theorem Si  {i}{t}:ql P (.c i) S w K t=uU P i S w K ⟨⟩:=propext Iff.rfl
theorem Sj  {i}{t}:nI P (.p i) S w K t=eN P i S (fun v=>K v w) ⟨⟩:=propext Iff.rfl
theorem Sk  {i}{t}:nI P (.r i) S w K t=oY i S w (fun v=>K v w) ⟨⟩:=propext Iff.rfl
theorem Sl  {i}{t}:nI P (.e i) S w K t=iN P i S w K ⟨⟩:=propext Iff.rfl
theorem Sm  {i}{t}:nI P (.c i) S w K t=uV P i S w K ⟨⟩:=propext Iff.rfl
theorem Sn  {i}{t}:oX P (.p i) S w aC t=eN P i S aC ⟨⟩:=propext Iff.rfl
theorem Sp  {i}{t}:oX P (.r i) S w aC t=oY i S w aC ⟨⟩:=propext Iff.rfl
theorem Sq  {i}{t}:oX P (.c i) S w aC t=u4 P i S w aC ⟨⟩:=propext Iff.rfl
theorem Sr  {f l}{t}:u4 P (.fn f l) S w aC t=Gy P f (l.map (aS S)) w aC ⟨⟩:=propext Iff.rfl
theorem Ss  {x m l}{t}:u4 P (.inv x m l) S w aC t=LD P (aS S x) m (l.map (aS S)) w aC ⟨⟩:=propext Iff.rfl
theorem St  {x l}{t}:u4 P (.val x l) S w aC t=CZ P (aS S x) (l.map (aS S)) w aC ⟨⟩:=propext Iff.rfl
theorem H1  {t}:j3 (.bool true) true A B C t=A:=bb.ag0 A B C
theorem Su  {t}:j3 (.bool true) false A B C t=B:=bb.agZ A B C
theorem Sv  {t}:j3 (.bool false) true A B C t=B:=bb.agY A B C
theorem Sw  {t}:j3 (.bool false) false A B C t=A:=bb.agX A B C
theorem Sx  (u:Bool){t}:j3 undef u A B C t=C:=bb.ag1 u A B C
theorem Sy  (u:Bool){t}:j3 (.bool u) true A B C t=ky (.bool u) A B ⟨⟩:=(bb.Wu u true A B C).trans (by rfl)
theorem Sz  (u:Bool){t}:j3 (.bool u) false A B C t=ky (.bool u) B A ⟨⟩:=(bb.Wu u false A B C).trans (by rfl)
theorem SA  {t}:ky (.bool true) A B t=A:=aee A B
theorem SB  {t}:ky (.bool false) A B t=B:=aec A B
theorem SC  (u:Bool){t}:ky (.bool (!u)) A B t=ky (.bool u) B A ⟨⟩:=aed u A B
theorem SD  {x}{t}:eN P (.mM x) S aC t=aC (aS S x):=propext Iff.rfl
theorem SE  {c x y}{t}:eN P (.pick c x y) S aC t=ky (aS S c) (aC (aS S x)) (aC (aS S y)) ⟨⟩:=propext Iff.rfl
theorem SF  {op ty x y}{t}:eN P (.bin op ty x y) S aC t=gA P op ty x y (aS S x) (aS S y) aC ⟨⟩:=propext Iff.rfl
theorem SG  {op x}{t}:eN P (.un op x) S aC t=yQ op (aS S x) aC ⟨⟩:=propext Iff.rfl
theorem SH  {k x}{t}:eN P (.yZ k x) S aC t=CL k (aS S x) aC ⟨⟩:=propext Iff.rfl
theorem SI  {n x}{t}:eN P (.jh n x) S aC t=CP n (aS S x) aC ⟨⟩:=propext Iff.rfl
theorem SJ  {n x y}{t}:eN P (.mH n x y) S aC t=Ax n (aS S x) (aS S y) aC ⟨⟩:=propext Iff.rfl
theorem SK  {m n x y}{t}:eN P (.BX m n x y) S aC t=Gf m n (aS S x) (aS S y) aC ⟨⟩:=propext Iff.rfl
theorem SL  {x y}{t}:eN P (.mb x y) S aC t=Gj (aS S x) (aS S y) aC ⟨⟩:=propext Iff.rfl
theorem SM  {n x y}{t}:eN P (.x5 n x y) S aC t=Gi n (aS S x) (aS S y) aC ⟨⟩:=propext Iff.rfl
theorem SN  {n x}{t}:eN P (.gh n x) S aC t=Gd n (aS S x) aC ⟨⟩:=propext Iff.rfl
theorem SO  {n m x}{t}:eN P (.Bi n m x) S aC t=CQ n m (aS S x) aC ⟨⟩:=propext Iff.rfl
theorem SP  {z pl da}{t}:eN P (.gg z pl da) S aC t=F3 S z pl da aC ⟨⟩:=propext Iff.rfl
theorem SQ  {f a b}{t}:eN P (.uz f a b) S aC t=aC (.func (.func f) (a.map (aS S)).toArray (b.map (aS S)).toArray):=propext Iff.rfl
theorem SR  {n x aO U mx}{t}:eN P (.hl n x aO U mx) S aC t=su S n (aS S x) aO U mx aC ⟨⟩:=propext Iff.rfl
theorem SS  {x aO U}{t}:eN P (.yn x aO U) S aC t=GB S (aS S x) aO U aC ⟨⟩:=propext Iff.rfl
theorem SU  {x n}{t}:eN P (.ext x n) S aC t=uY (aS S x) n aC ⟨⟩:=propext Iff.rfl
theorem SV  {x}{t}:eN P (.oK x) S aC t=CT (aS S x) aC ⟨⟩:=propext Iff.rfl
theorem SX  {x}{t}:eN P (.zN x) S aC t=CS (aS S x) aC ⟨⟩:=propext Iff.rfl
theorem S0  {x}{t}:eN P (.Dp x) S aC t=CJ (aS S x) aC ⟨⟩:=propext Iff.rfl
theorem S1  {v}{t}:eN P (.EV v) S aC t=aC v:=propext Iff.rfl
theorem M2  {x y}{t}:eN P (.uy x y) S aC t=CU (aS S x) (aS S y) aC ⟨⟩:=propext Iff.rfl
theorem S2  {x y}{t}:eN P (.wo x y) S aC t=CV (aS S x) (aS S y) aC ⟨⟩:=propext Iff.rfl
theorem S3  {n x}{t}:eN P (.zQ n x) S aC t=aC (.iface n (aS S x)):=propext Iff.rfl
theorem S4  {x}{t}:eN P (.e3 x) S aC t=yG (aS S x) aC ⟨⟩:=propext Iff.rfl
theorem S5  {x}{t}:oY (.ld x) S w aC t=rm (aS S x) w aC ⟨⟩:=propext Iff.rfl
theorem S6  {n x}{t}:oY (.dY n x) S w aC t=u2 n (aS S x) w aC ⟨⟩:=propext Iff.rfl
theorem S7  {d z ok m k}{t}:oY (.nv d z ok m k) S w aC t=Ay d z ok (aS S m) (aS S k) w aC ⟨⟩:=propext Iff.rfl
theorem S8  {x}{t}:oY (.zO x) S w aC t=Gn (aS S x) w aC ⟨⟩:=propext Iff.rfl
theorem S9  {n x}{t}:iN P (.box n x) S w K t=yE n (aS S x).cells w K ⟨⟩:=propext Iff.rfl
theorem Ta  {n z}{t}:iN P (.new n z) S w K t=yE n z.cells w K ⟨⟩:=propext Iff.rfl
theorem Tb  {x v}{t}:iN P (.st x v) S w K t=qu (aS S x) (aS S v) w (K undef) ⟨⟩:=propext Iff.rfl
theorem Tc  {n x v}{t}:iN P (.hz n x v) S w K t=yO n (aS S x) (aS S v) w (K undef) ⟨⟩:=propext Iff.rfl
theorem Td  {t}:iN P .ta S w K t=Gt w K ⟨⟩:=propext Iff.rfl
theorem Te  {e n b z l c}{t}:iN P (.uA e n b z l c) S w K t=AB e n b z (aS S l) (aS S c) w K ⟨⟩:=propext Iff.rfl
theorem Tf  {e l n z da}{t}:iN P (.fZ e l n z da) S w K t=CH S e l n z da w K ⟨⟩:=propext Iff.rfl
theorem Tg  {ty e n b s x}{t}:iN P (.app ty e n b s x) S w K t=mR P ty e n b (aS S s) (aS S x) w K ⟨⟩:=propext Iff.rfl
theorem Th  {d m k v}{t}:iN P (.jE d m k v) S w K t=yC d (aS S m) (aS S k) (aS S v) w (K undef) ⟨⟩:=propext Iff.rfl
theorem Ti  {x}{t}:iN P (.yj x) S w K t=Gz (aS S x) w K ⟨⟩:=propext Iff.rfl
theorem Tk  {x}{t}:iN P (.yc x) S w K t=Gv (aS S x) w K ⟨⟩:=propext Iff.rfl
theorem Tl  {op ty}{t}:iN P (.raw op ty) S w K t=sn P op ty S w K ⟨⟩:=propext Iff.rfl
theorem Tm  {f l}{t}:uU P (.fn f l) S w K t=As P f (l.map (aS S)) w K ⟨⟩:=propext Iff.rfl
theorem Tn  {x m l}{t}:uU P (.inv x m l) S w K t=wQ P (aS S x) m (l.map (aS S)) w K ⟨⟩:=propext Iff.rfl
theorem To  {x l}{t}:uU P (.val x l) S w K t=uW P (aS S x) (l.map (aS S)) w K ⟨⟩:=propext Iff.rfl
theorem Tp  {f l}{t}:uV P (.fn f l) S w K t=As P f (l.map (aS S)) w K ⟨⟩:=propext Iff.rfl
theorem Tq  {x m l}{t}:uV P (.inv x m l) S w K t=wQ P (aS S x) m (l.map (aS S)) w K ⟨⟩:=propext Iff.rfl
theorem Tr  {x l}{t}:uV P (.val x l) S w K t=yy P (aS S x) (l.map (aS S)) w K ⟨⟩:=propext Iff.rfl
theorem Ts  {ty cX c6}(k:IntKind)(a b:Int){t}:gA P .lss ty cX c6 (.int k a) (.int k b) aC t=aC (.bool (decide (a<b))):=adK k a b
theorem Tt  {ty cX c6}(k:IntKind)(a b:Int){t}:gA P .leq ty cX c6 (.int k a) (.int k b) aC t=aC (.bool (decide (a<=b))):=adJ k a b
theorem Tu  {ty cX c6}(k:IntKind)(a b:Int){t}:gA P .gtr ty cX c6 (.int k a) (.int k b) aC t=aC (.bool (decide (b<a))):=adI k a b
theorem Tv  {ty cX c6}(k:IntKind)(a b:Int){t}:gA P .geq ty cX c6 (.int k a) (.int k b) aC t=aC (.bool (decide (b<=a))):=adH k a b
theorem Tw  {ty cX c6}(k:IntKind)(a b:Int){t}:gA P .eql ty cX c6 (.int k a) (.int k b) aC t=aC (.bool (decide (a=b))):=adG k a b
theorem Tx  {ty cX c6}(k:IntKind)(a b:Int){t}:gA P .neq ty cX c6 (.int k a) (.int k b) aC t=aC (.bool (!decide (a=b))):=(adM k a b).trans (by simp)
theorem Ty  {ty cX c6}(k:IntKind)(a b:Int){t}:gA P .add ty cX c6 (.int k a) (.int k b) aC t=ox k (a+b) aC ⟨⟩:=adF k a b
theorem Tz  {ty cX c6}(k:IntKind)(a b:Int){t}:gA P .sub ty cX c6 (.int k a) (.int k b) aC t=ox k (a - b) aC ⟨⟩:=adR k a b
theorem TA  {ty cX c6}(k:IntKind)(a b:Int){t}:gA P .mul ty cX c6 (.int k a) (.int k b) aC t=ox k (a*b) aC ⟨⟩:=adL k a b
theorem TB  {ty cX c6}(a b:ByteArray){t}:gA P .eql ty cX c6 (.string a) (.string b) aC t=aC (.bool (decide (a=b))):=adP a b
theorem TC  {ty cX c6}(a b:ByteArray){t}:gA P .neq ty cX c6 (.string a) (.string b) aC t=aC (.bool (!decide (a=b))):=(adQ a b).trans (by simp)
theorem TD  (b:Bool){t}:yQ .not (.bool b) aC t=aC (.bool (!b)):=propext Iff.rfl
theorem TF  (k:IntKind)(n:Int){t}:yQ .neg (.int k n) aC t=ox k (0 - n) aC ⟨⟩:=propext Iff.rfl
theorem C1  (k q:IntKind)(n:Int){t}:CL k (.int q n) aC t=ox k n aC ⟨⟩:=aeV k q n aC
theorem C2  (n:Nat)(a:Addr){t}:CP n (.pointer (some a)) aC t=aC (.pointer (some (a.add n))):=agu n a aC
theorem TG  (v:B_)(vs:C_ B_){t}:uY (.tuple (v :: vs).toArray) 0 aC t=aC v:=agc v vs aC
theorem TH  (v u:B_)(vs:C_ B_){t}:uY (.tuple (v :: u :: vs).toArray) 1 aC t=aC u:=agd v u vs aC
theorem TI  (v u x:B_)(vs:C_ B_){t}:uY (.tuple (v :: u :: x :: vs).toArray) 2 aC t=aC x:=age v u x vs aC
theorem C3  (s:ByteArray){t}:CT (.string s) aC t=aC (.int .i64 s.size):=alK s aC
theorem AG  (a:H_ Addr)(n c:Nat){t}:CS (.slice a n c) aC t=aC (.int .i64 n):=alI a n c aC
theorem TJ  (a:H_ Addr)(n c:Nat){t}:CJ (.slice a n c) aC t=aC (.int .i64 c):=ad6 a n c aC
theorem TK  (k q:IntKind)(a b:Int){t}:CU (.int k a) (.int q b) aC t=aC (.int k (max a b)):=al4 k q a b aC
theorem TQ  (k q:IntKind)(a b:Int){t}:CV (.int k a) (.int q b) aC t=aC (.int k (min a b)):=al8 k q a b aC
theorem TR  (m n:Nat)(cs:Array B_){t}:CQ m n (.agg cs) aC t=aC (.agg (cs.extract m (m+n))):=agH m n cs aC
theorem TS  (a:Addr){t}:yG (.pointer (some a)) aC t=aC (.pointer (some a)):=propext Iff.rfl
theorem TT  (f:E_)(a b:Array B_){t}:yG (.func (.func f) a b) aC t=aC (.func (.func f) a b):=propext Iff.rfl
theorem TU  {t}:jd [] S w lW t=lW []:=propext Iff.rfl
theorem TV  {n r}{t}:jd (.tmp n :: r) S w lW t=jd r S w (fun vs=>lW (S n :: vs)) ⟨⟩:=propext Iff.rfl
theorem TW  {n r}{t}:jd (.cell n :: r) S w lW t=rm (S n) w (fun v=>jd r S w (fun vs=>lW (v :: vs)) ⟨⟩) ⟨⟩:=propext Iff.rfl
theorem TX  {m n r}{t}:jd (.jw m n :: r) S w lW t=u2 m (S n) w (fun v=>jd r S w (fun vs=>lW (v :: vs)) ⟨⟩) ⟨⟩:=propext Iff.rfl
theorem TY{S:Fr}{d:Nat}{v:B_}:put S (some d) v=bW S d v:=eq_of_heq (heq_of_eq (iI S d v))
theorem TZ{S:Fr}{v:B_}:put S none v=S:=eq_of_heq (heq_of_eq (aaA S v))
theorem T0{S:Fr}{d t:Nat}{v:B_}:bW S d v t=if t=d then v else S t:=eq_of_heq (heq_of_eq (bL S d t v))
theorem T1{S:Fr}{t:Nat}:aS S (.tmp t)=S t:=eq_of_heq (heq_of_eq (dp S t))
theorem T2{S:Fr}{v:B_}:aS S (.const v)=v:=eq_of_heq (heq_of_eq (nT S v))
theorem T3{S:Fr}{g:Nat}:aS S (.global g) = .pointer (some ⟨g,0,none⟩):=eq_of_heq (heq_of_eq (afO S g))
theorem T4{S:Fr}{f:Nat}:aS S (.func f) = .func (.func f) #[] #[]:=eq_of_heq (heq_of_eq (vp S f))
theorem T5{k:Nat}:hQ [] k=fun _=>undef:=eq_of_heq (heq_of_eq (nf k))
theorem T6{v:B_}{vs:C_ B_}{k:Nat}:hQ (v :: vs) k=bW (hQ vs (k+1)) k v:=eq_of_heq (heq_of_eq (jT v vs k))
theorem T7  : gY [] = .tuple #[]:=eq_of_heq (heq_of_eq (aqq ..))
theorem T8  (v:B_):gY [v]=v:=eq_of_heq (heq_of_eq (aqr ..))
theorem T9  (v u:B_):gY [v,u] = .tuple #[v,u]:=eq_of_heq (heq_of_eq (aqs ..))
theorem Ua  (v u x:B_):gY [v,u,x] = .tuple #[v,u,x]:=eq_of_heq (heq_of_eq (aqt ..))
theorem Ub  (a:H_ Addr)(n c:Nat):(Value.slice a n c).cells=#[.slice a n c]:=eq_of_heq (heq_of_eq (aer ..))
theorem Uc  (k:IntKind)(n:Int):(Value.int k n).cells=#[.int k n]:=eq_of_heq (heq_of_eq (aem ..))
theorem Ud  (b:Bool):(Value.bool b).cells=#[.bool b]:=eq_of_heq (heq_of_eq (aej ..))
theorem Ue  (s:ByteArray):(Value.string s).cells=#[.string s]:=eq_of_heq (heq_of_eq (aes ..))
theorem Uf  (a:H_ Addr):(Value.pointer a).cells=#[.pointer a]:=eq_of_heq (heq_of_eq (aeq ..))
theorem Ug  (a:H_ Nat):(Value.map a).cells=#[.map a]:=eq_of_heq (heq_of_eq (aen ..))
theorem Uh  (f:Fn)(a b:Array B_):(Value.func f a b).cells=#[.func f a b]:=eq_of_heq (heq_of_eq (ael ..))
theorem Ui  (cs:Array B_):(Value.agg cs).cells=cs:=eq_of_heq (heq_of_eq (aei ..))
theorem Uj{α β:Type}{f:α->β}{a:α}{l:C_ α}:(a :: l).map f=f a :: l.map f:=eq_of_heq (heq_of_eq (List.map_cons))
theorem Uk{α β:Type}{f:α->β}:([]:C_ α).map f=[]:=eq_of_heq (heq_of_eq (List.map_nil))
theorem iy  : (!true)=false:=eq_of_heq (heq_of_eq (Bool.not_true))
theorem eP  : (!false)=true:=eq_of_heq (heq_of_eq (Bool.not_false))
theorem nN{h:Decidable True}:decide True=true:=eq_of_heq (heq_of_eq (decide_true h))
theorem AM{h:Decidable False}:decide False=false:=eq_of_heq (heq_of_eq (decide_false h))
theorem pL{α:Type}{a b:α}{h:Decidable True}:(if True then a else b)=a:=eq_of_heq (heq_of_eq (if_true a b))
theorem k2{α:Type}{a b:α}{h:Decidable False}:(if False then a else b)=b:=eq_of_heq (heq_of_eq (if_false a b))
end
theorem c0:((((((((∀{P:D_} {Q:ed->Fr->A_->Prop} {S:Fr} {w:A_}  {t},dO P .skip Q S w t=Q .normal S w) /\
(∀{P:D_} {Q:ed->Fr->A_->Prop} {S:Fr} {w:A_}  {b5} {t},dO P (.dk b5) Q S w t=ka P b5 S w (fun S w=>Q .normal S w) ⟨⟩)) /\
((∀{P:D_} {Q:ed->Fr->A_->Prop} {S:Fr} {w:A_}  {b5} {t},dO P (.qD b5) Q S w t=lP P b5 S w (fun S => ∀w',Ext w w'->Q .normal S w') ⟨⟩) /\
((∀{P:D_} {Q:ed->Fr->A_->Prop} {S:Fr} {w:A_}  {x} {t},dO P (.dM x) Q S w t=(∀w1,Ext w w1->fT P w1 x S w1 (fun S w=>Q .normal S w) ⟨⟩)) /\
(∀{P:D_} {cQ:Fr->A_->Prop} {S:Fr} {w:A_}  {w0} {t},fT P w0 .done S w cQ t=cQ S w)))) /\
(((∀{P:D_} {cQ:Fr->A_->Prop} {S:Fr} {w:A_}  {w0} {t},fT P w0 .nil S w cQ t=True) /\
((∀{P:D_} {cQ:Fr->A_->Prop} {S:Fr} {w:A_}  {w0 s r} {t},fT P w0 (.take s r) S w cQ t=Ae P w0 s S (fun S=>fT P w0 r S w cQ ⟨⟩) ⟨⟩) /\
(∀{P:D_} {cQ:Fr->A_->Prop} {S:Fr} {w:A_}  {w0 s r} {t},fT P w0 (.alt s r .nil) S w cQ t=sC P w0 s S w (fun S w=>fT P w0 r S w cQ ⟨⟩) ⟨⟩))) /\
((∀{P:D_} {cQ:Fr->A_->Prop} {S:Fr} {w:A_}  {w0 s r iu hj kS} {t},fT P w0 (.alt s r (.alt iu hj kS)) S w cQ t=(sC P w0 s S w (fun S w=>fT P w0 r S w cQ ⟨⟩) ⟨⟩/\fT P w0 (.alt iu hj kS) S w cQ ⟨⟩)) /\
((∀{P:D_} {cQ:Fr->A_->Prop} {S:Fr} {w:A_}  {w0 s r iu hj kS} {t},fT P w0 (.alt s r (.bk iu hj kS)) S w cQ t=(sC P w0 s S w (fun S w=>fT P w0 r S w cQ ⟨⟩) ⟨⟩/\fT P w0 (.bk iu hj kS) S w cQ ⟨⟩)) /\
(∀{P:D_} {cQ:Fr->A_->Prop} {S:Fr} {w:A_}  {w0 s r} {t},fT P w0 (.bk s r .nil) S w cQ t=sO P s S w (fun S w=>fT P w0 r S w cQ ⟨⟩) ⟨⟩))))) /\
((((∀{P:D_} {cQ:Fr->A_->Prop} {S:Fr} {w:A_}  {w0 s r iu hj kS} {t},fT P w0 (.bk s r (.alt iu hj kS)) S w cQ t=(sO P s S w (fun S w=>fT P w0 r S w cQ ⟨⟩) ⟨⟩/\fT P w0 (.alt iu hj kS) S w cQ ⟨⟩)) /\
(∀{P:D_} {cQ:Fr->A_->Prop} {S:Fr} {w:A_}  {w0 s r iu hj kS} {t},fT P w0 (.bk s r (.bk iu hj kS)) S w cQ t=(sO P s S w (fun S w=>fT P w0 r S w cQ ⟨⟩) ⟨⟩/\fT P w0 (.bk iu hj kS) S w cQ ⟨⟩))) /\
((∀{P:D_} {cQ:Fr->A_->Prop} {S:Fr} {w:A_}  {d i} {t},sO P ⟨d,none,i⟩ S w cQ t=nI P i S w (fun v w'=>cQ (put S d v) w') ⟨⟩) /\
((∀{P:D_} {cQ:Fr->A_->Prop} {S:Fr} {w:A_}  {d j b i} {t},sO P ⟨d,some (j,b),i⟩ S w cQ t=j3 (S j) b (nI P i (bW S j (.bool b)) w (fun v w'=>cQ (put (bW S j (.bool b)) d v) w') ⟨⟩) (cQ (put (bW S j (.bool (!b))) d undef) w) (cQ (put S d undef) w) ⟨⟩) /\
(∀{P:D_} {hM:Fr->Prop} {S:Fr}  {w0 d i} {t},Ae P w0 ⟨d,none,i⟩ S hM t=oX P i S w0 (fun v=>hM (put S d v)) ⟨⟩)))) /\
(((∀{P:D_} {hM:Fr->Prop} {S:Fr}  {w0 d j b i} {t},Ae P w0 ⟨d,some (j,b),i⟩ S hM t=j3 (S j) b (oX P i (bW S j (.bool b)) w0 (fun v=>hM (put (bW S j (.bool b)) d v)) ⟨⟩) (hM (put (bW S j (.bool (!b))) d undef)) (hM (put S d undef)) ⟨⟩) /\
((∀{P:D_} {cQ:Fr->A_->Prop} {S:Fr} {w:A_}  {w0 d i} {t},sC P w0 ⟨d,none,i⟩ S w cQ t=ql P i S w (fun v w'=>Ext w0 w'/\cQ (put S d v) w') ⟨⟩) /\
(∀{P:D_} {cQ:Fr->A_->Prop} {S:Fr} {w:A_}  {w0 d j b i} {t},sC P w0 ⟨d,some (j,b),i⟩ S w cQ t=j3 (S j) b (ql P i (bW S j (.bool b)) w (fun v w'=>Ext w0 w'/\cQ (put (bW S j (.bool b)) d v) w') ⟨⟩) (cQ (put (bW S j (.bool (!b))) d undef) w) (cQ (put S d undef) w) ⟨⟩))) /\
((∀{P:D_} {Q:ed->Fr->A_->Prop} {S:Fr} {w:A_}  {c x y} {t},dO P (.cond c x y) Q S w t=ky (aS S c) (dO P x Q S w ⟨⟩) (dO P y Q S w ⟨⟩) ⟨⟩) /\
((∀{P:D_} {Q:ed->Fr->A_->Prop} {S:Fr} {w:A_}  {id b} {t},dO P (.cu id b) Q S w t=dO P b (qz id Q ⟨⟩) S w ⟨⟩) /\
(∀{P:D_} {Q:ed->Fr->A_->Prop} {S:Fr} {w:A_}  {id} {t},dO P (.exit id) Q S w t=Q (.exit id) S w)))))) /\
(((((∀{P:D_} {Q:ed->Fr->A_->Prop} {S:Fr} {w:A_}  {t},dO P .ret Q S w t=Q .ret S w) /\
(∀{P:D_} {Q:ed->Fr->A_->Prop} {S:Fr} {w:A_}  {b5 d f l} {t},dO P (.fs b5 d f l) Q S w t=ka P b5 S w (fun S w=>GC P f (l.map (aS S)) w (fun v w'=>Q .normal (put S d v) w') (fun c w'=>Q (.gf c) S w') ⟨⟩) ⟨⟩)) /\
((∀{P:D_} {Q:ed->Fr->A_->Prop} {S:Fr} {w:A_}  {b5 x} {t},dO P (.r5 b5 x) Q S w t=ka P b5 S w (fun S w=>CY (aS S x) (fun c=>Q (.gf c) S w) ⟨⟩) ⟨⟩) /\
((∀{AQ:C_ PanicEntry->Prop}  {i:F_} {v:B_} {t},CY (.iface i v) AQ t=AQ [{ v:=.iface i v,recovered:=false }]) /\
(∀{Q:ed->Fr->A_->Prop} {N:Fr->A_->Prop} {S:Fr} {w:A_}  {c} {t},hY N Q t (.gf c) S w=Q (.gf c) S w)))) /\
(((∀{Q:ed->Fr->A_->Prop} {S:Fr} {w:A_} {i} {c} {t},qz i Q t (.gf c) S w=Q (.gf c) S w) /\
((∀{Z:C_ PanicEntry->A_->Prop} {R:B_->A_->Prop} {S:Fr} {w:A_} {r} {t},vo r R Z t .normal S w=jd r S w (fun vs=>R (gY vs) w) ⟨⟩) /\
(∀{Z:C_ PanicEntry->A_->Prop} {R:B_->A_->Prop} {S:Fr} {w:A_} {r} {t},vo r R Z t .ret S w=jd r S w (fun vs=>R (gY vs) w) ⟨⟩))) /\
((∀{Z:C_ PanicEntry->A_->Prop} {R:B_->A_->Prop} {S:Fr} {w:A_} {r} {c} {t},vo r R Z t (.gf c) S w=Z c w) /\
((∀{P:D_} {Q:ed->Fr->A_->Prop} {S:Fr} {w:A_}  {b} {t},dO P (.loop b) Q S w t=yB P b Q S w ⟨⟩) /\
(∀{Q:ed->Fr->A_->Prop} {N:Fr->A_->Prop} {S:Fr} {w:A_}  {t},hY N Q t .normal S w=N S w))))) /\
((((∀{Q:ed->Fr->A_->Prop} {N:Fr->A_->Prop} {S:Fr} {w:A_}  {i} {t},hY N Q t (.exit i) S w=Q (.exit i) S w) /\
(∀{Q:ed->Fr->A_->Prop} {N:Fr->A_->Prop} {S:Fr} {w:A_}  {t},hY N Q t .ret S w=Q .ret S w)) /\
((∀{Q:ed->Fr->A_->Prop} {S:Fr} {w:A_} {i} {t},qz i Q t .normal S w=Q .normal S w) /\
((∀{Q:ed->Fr->A_->Prop} {S:Fr} {w:A_} {i} {t},qz i Q t .ret S w=Q .ret S w) /\
(∀{Q:ed->Fr->A_->Prop} {S:Fr} {w:A_} {i} {j} {t},qz i Q t (.exit j) S w=if j=i then Q .normal S w else Q (.exit j) S w)))) /\
(((∀{R:B_->A_->Prop} {S:Fr} {w:A_} {r} {t},qG r R t .normal S w=jd r S w (fun vs=>R (gY vs) w) ⟨⟩) /\
((∀{R:B_->A_->Prop} {S:Fr} {w:A_} {r} {t},qG r R t .ret S w=jd r S w (fun vs=>R (gY vs) w) ⟨⟩) /\
(∀{P:D_} {cQ:Fr->A_->Prop} {S:Fr} {w:A_}  {t},ka P [] S w cQ t=cQ S w))) /\
((∀{P:D_} {cQ:Fr->A_->Prop} {S:Fr} {w:A_}  {d i r} {t},ka P (⟨d,none,i⟩ :: r) S w cQ t=nI P i S w (fun v w'=>ka P r (put S d v) w' cQ ⟨⟩) ⟨⟩) /\
((∀{P:D_} {cQ:Fr->A_->Prop} {S:Fr} {w:A_}  {d j b i r} {t},ka P (⟨d,some (j,b),i⟩ :: r) S w cQ t=j3 (S j) b (nI P i (bW S j (.bool b)) w (fun v w'=>ka P r (put (bW S j (.bool b)) d v) w' cQ ⟨⟩) ⟨⟩) (ka P r (put (bW S j (.bool (!b))) d undef) w cQ ⟨⟩) (ka P r (put S d undef) w cQ ⟨⟩) ⟨⟩) /\
(∀{P:D_} {hM:Fr->Prop} {S:Fr} {w:A_}  {t},lP P [] S w hM t=hM S))))))) /\
((((((∀{P:D_} {hM:Fr->Prop} {S:Fr} {w:A_}  {d i r} {t},lP P (⟨d,none,i⟩ :: r) S w hM t=oX P i S w (fun v=>lP P r (put S d v) w hM ⟨⟩) ⟨⟩) /\
(∀{P:D_} {hM:Fr->Prop} {S:Fr} {w:A_}  {d j b i r} {t},lP P (⟨d,some (j,b),i⟩ :: r) S w hM t=j3 (S j) b (oX P i (bW S j (.bool b)) w (fun v=>lP P r (put (bW S j (.bool b)) d v) w hM ⟨⟩) ⟨⟩) (lP P r (put (bW S j (.bool (!b))) d undef) w hM ⟨⟩) (lP P r (put S d undef) w hM ⟨⟩) ⟨⟩)) /\
((∀{P:D_} {K:B_->A_->Prop} {S:Fr} {w:A_}  {i} {t},ql P (.p i) S w K t=eN P i S (fun v=>K v w) ⟨⟩) /\
((∀{P:D_} {K:B_->A_->Prop} {S:Fr} {w:A_}  {i} {t},ql P (.r i) S w K t=oY i S w (fun v=>K v w) ⟨⟩) /\
(∀{P:D_} {K:B_->A_->Prop} {S:Fr} {w:A_}  {i} {t},ql P (.e i) S w K t=iN P i S w K ⟨⟩)))) /\
(((∀{P:D_} {K:B_->A_->Prop} {S:Fr} {w:A_}  {i} {t},ql P (.c i) S w K t=uU P i S w K ⟨⟩) /\
((∀{P:D_} {K:B_->A_->Prop} {S:Fr} {w:A_}  {i} {t},nI P (.p i) S w K t=eN P i S (fun v=>K v w) ⟨⟩) /\
(∀{P:D_} {K:B_->A_->Prop} {S:Fr} {w:A_}  {i} {t},nI P (.r i) S w K t=oY i S w (fun v=>K v w) ⟨⟩))) /\
((∀{P:D_} {K:B_->A_->Prop} {S:Fr} {w:A_}  {i} {t},nI P (.e i) S w K t=iN P i S w K ⟨⟩) /\
((∀{P:D_} {K:B_->A_->Prop} {S:Fr} {w:A_}  {i} {t},nI P (.c i) S w K t=uV P i S w K ⟨⟩) /\
(∀{P:D_} {aC:B_->Prop} {S:Fr} {w:A_}  {i} {t},oX P (.p i) S w aC t=eN P i S aC ⟨⟩))))) /\
((((∀{P:D_} {aC:B_->Prop} {S:Fr} {w:A_}  {i} {t},oX P (.r i) S w aC t=oY i S w aC ⟨⟩) /\
(∀{P:D_} {aC:B_->Prop} {S:Fr} {w:A_}  {i} {t},oX P (.c i) S w aC t=u4 P i S w aC ⟨⟩)) /\
((∀{P:D_} {aC:B_->Prop} {S:Fr} {w:A_}  {f l} {t},u4 P (.fn f l) S w aC t=Gy P f (l.map (aS S)) w aC ⟨⟩) /\
((∀{P:D_} {aC:B_->Prop} {S:Fr} {w:A_}  {x m l} {t},u4 P (.inv x m l) S w aC t=LD P (aS S x) m (l.map (aS S)) w aC ⟨⟩) /\
(∀{P:D_} {aC:B_->Prop} {S:Fr} {w:A_}  {x l} {t},u4 P (.val x l) S w aC t=CZ P (aS S x) (l.map (aS S)) w aC ⟨⟩)))) /\
(((∀{A:Prop} {B:Prop} {C:Prop}  {t},j3 (.bool true) true A B C t=A) /\
((∀{A:Prop} {B:Prop} {C:Prop}  {t},j3 (.bool true) false A B C t=B) /\
(∀{A:Prop} {B:Prop} {C:Prop}  {t},j3 (.bool false) true A B C t=B))) /\
((∀{A:Prop} {B:Prop} {C:Prop}  {t},j3 (.bool false) false A B C t=A) /\
((∀{A:Prop} {B:Prop} {C:Prop}  (u:Bool) {t},j3 undef u A B C t=C) /\
(∀{A:Prop} {B:Prop} {C:Prop}  (u:Bool) {t},j3 (.bool u) true A B C t=ky (.bool u) A B ⟨⟩)))))) /\
(((((∀{A:Prop} {B:Prop} {C:Prop}  (u:Bool) {t},j3 (.bool u) false A B C t=ky (.bool u) B A ⟨⟩) /\
(∀{A:Prop} {B:Prop}  {t},ky (.bool true) A B t=A)) /\
((∀{A:Prop} {B:Prop}  {t},ky (.bool false) A B t=B) /\
((∀{A:Prop} {B:Prop}  (u:Bool) {t},ky (.bool (!u)) A B t=ky (.bool u) B A ⟨⟩) /\
(∀{P:D_} {aC:B_->Prop} {S:Fr}  {x} {t},eN P (.mM x) S aC t=aC (aS S x))))) /\
(((∀{P:D_} {aC:B_->Prop} {S:Fr}  {c x y} {t},eN P (.pick c x y) S aC t=ky (aS S c) (aC (aS S x)) (aC (aS S y)) ⟨⟩) /\
((∀{P:D_} {aC:B_->Prop} {S:Fr}  {op ty x y} {t},eN P (.bin op ty x y) S aC t=gA P op ty x y (aS S x) (aS S y) aC ⟨⟩) /\
(∀{P:D_} {aC:B_->Prop} {S:Fr}  {op x} {t},eN P (.un op x) S aC t=yQ op (aS S x) aC ⟨⟩))) /\
((∀{P:D_} {aC:B_->Prop} {S:Fr}  {k x} {t},eN P (.yZ k x) S aC t=CL k (aS S x) aC ⟨⟩) /\
((∀{P:D_} {aC:B_->Prop} {S:Fr}  {n x} {t},eN P (.jh n x) S aC t=CP n (aS S x) aC ⟨⟩) /\
(∀{P:D_} {aC:B_->Prop} {S:Fr}  {n x y} {t},eN P (.mH n x y) S aC t=Ax n (aS S x) (aS S y) aC ⟨⟩))))) /\
((((∀{P:D_} {aC:B_->Prop} {S:Fr}  {m n x y} {t},eN P (.BX m n x y) S aC t=Gf m n (aS S x) (aS S y) aC ⟨⟩) /\
(∀{P:D_} {aC:B_->Prop} {S:Fr}  {x y} {t},eN P (.mb x y) S aC t=Gj (aS S x) (aS S y) aC ⟨⟩)) /\
((∀{P:D_} {aC:B_->Prop} {S:Fr}  {n x y} {t},eN P (.x5 n x y) S aC t=Gi n (aS S x) (aS S y) aC ⟨⟩) /\
((∀{P:D_} {aC:B_->Prop} {S:Fr}  {n x} {t},eN P (.gh n x) S aC t=Gd n (aS S x) aC ⟨⟩) /\
(∀{P:D_} {aC:B_->Prop} {S:Fr}  {n m x} {t},eN P (.Bi n m x) S aC t=CQ n m (aS S x) aC ⟨⟩)))) /\
(((∀{P:D_} {aC:B_->Prop} {S:Fr}  {z pl da} {t},eN P (.gg z pl da) S aC t=F3 S z pl da aC ⟨⟩) /\
((∀{P:D_} {aC:B_->Prop} {S:Fr}  {f a b} {t},eN P (.uz f a b) S aC t=aC (.func (.func f) (a.map (aS S)).toArray (b.map (aS S)).toArray)) /\
(∀{P:D_} {aC:B_->Prop} {S:Fr}  {n x aO U mx} {t},eN P (.hl n x aO U mx) S aC t=su S n (aS S x) aO U mx aC ⟨⟩))) /\
((∀{P:D_} {aC:B_->Prop} {S:Fr}  {x aO U} {t},eN P (.yn x aO U) S aC t=GB S (aS S x) aO U aC ⟨⟩) /\
((∀{P:D_} {aC:B_->Prop} {S:Fr}  {x n} {t},eN P (.ext x n) S aC t=uY (aS S x) n aC ⟨⟩) /\
(∀{P:D_} {aC:B_->Prop} {S:Fr}  {x} {t},eN P (.oK x) S aC t=CT (aS S x) aC ⟨⟩)))))))) /\
(((((((∀{P:D_} {aC:B_->Prop} {S:Fr}  {x} {t},eN P (.zN x) S aC t=CS (aS S x) aC ⟨⟩) /\
(∀{P:D_} {aC:B_->Prop} {S:Fr}  {x} {t},eN P (.Dp x) S aC t=CJ (aS S x) aC ⟨⟩)) /\
((∀{P:D_} {aC:B_->Prop} {S:Fr}  {v} {t},eN P (.EV v) S aC t=aC v) /\
((∀{P:D_} {aC:B_->Prop} {S:Fr}  {x y} {t},eN P (.uy x y) S aC t=CU (aS S x) (aS S y) aC ⟨⟩) /\
(∀{P:D_} {aC:B_->Prop} {S:Fr}  {x y} {t},eN P (.wo x y) S aC t=CV (aS S x) (aS S y) aC ⟨⟩)))) /\
(((∀{P:D_} {aC:B_->Prop} {S:Fr}  {n x} {t},eN P (.zQ n x) S aC t=aC (.iface n (aS S x))) /\
((∀{P:D_} {aC:B_->Prop} {S:Fr}  {x} {t},eN P (.e3 x) S aC t=yG (aS S x) aC ⟨⟩) /\
(∀{aC:B_->Prop} {S:Fr} {w:A_}  {x} {t},oY (.ld x) S w aC t=rm (aS S x) w aC ⟨⟩))) /\
((∀{aC:B_->Prop} {S:Fr} {w:A_}  {n x} {t},oY (.dY n x) S w aC t=u2 n (aS S x) w aC ⟨⟩) /\
((∀{aC:B_->Prop} {S:Fr} {w:A_}  {d z ok m k} {t},oY (.nv d z ok m k) S w aC t=Ay d z ok (aS S m) (aS S k) w aC ⟨⟩) /\
(∀{aC:B_->Prop} {S:Fr} {w:A_}  {x} {t},oY (.zO x) S w aC t=Gn (aS S x) w aC ⟨⟩))))) /\
((((∀{P:D_} {K:B_->A_->Prop} {S:Fr} {w:A_}  {n x} {t},iN P (.box n x) S w K t=yE n (aS S x).cells w K ⟨⟩) /\
(∀{P:D_} {K:B_->A_->Prop} {S:Fr} {w:A_}  {n z} {t},iN P (.new n z) S w K t=yE n z.cells w K ⟨⟩)) /\
((∀{P:D_} {K:B_->A_->Prop} {S:Fr} {w:A_}  {x v} {t},iN P (.st x v) S w K t=qu (aS S x) (aS S v) w (K undef) ⟨⟩) /\
((∀{P:D_} {K:B_->A_->Prop} {S:Fr} {w:A_}  {n x v} {t},iN P (.hz n x v) S w K t=yO n (aS S x) (aS S v) w (K undef) ⟨⟩) /\
(∀{P:D_} {K:B_->A_->Prop} {S:Fr} {w:A_}  {t},iN P .ta S w K t=Gt w K ⟨⟩)))) /\
(((∀{P:D_} {K:B_->A_->Prop} {S:Fr} {w:A_}  {e n b z l c} {t},iN P (.uA e n b z l c) S w K t=AB e n b z (aS S l) (aS S c) w K ⟨⟩) /\
((∀{P:D_} {K:B_->A_->Prop} {S:Fr} {w:A_}  {e l n z da} {t},iN P (.fZ e l n z da) S w K t=CH S e l n z da w K ⟨⟩) /\
(∀{P:D_} {K:B_->A_->Prop} {S:Fr} {w:A_}  {ty e n b s x} {t},iN P (.app ty e n b s x) S w K t=mR P ty e n b (aS S s) (aS S x) w K ⟨⟩))) /\
((∀{P:D_} {K:B_->A_->Prop} {S:Fr} {w:A_}  {d m k v} {t},iN P (.jE d m k v) S w K t=yC d (aS S m) (aS S k) (aS S v) w (K undef) ⟨⟩) /\
((∀{P:D_} {K:B_->A_->Prop} {S:Fr} {w:A_}  {x} {t},iN P (.yj x) S w K t=Gz (aS S x) w K ⟨⟩) /\
(∀{P:D_} {K:B_->A_->Prop} {S:Fr} {w:A_}  {x} {t},iN P (.yc x) S w K t=Gv (aS S x) w K ⟨⟩)))))) /\
(((((∀{P:D_} {K:B_->A_->Prop} {S:Fr} {w:A_}  {op ty} {t},iN P (.raw op ty) S w K t=sn P op ty S w K ⟨⟩) /\
(∀{P:D_} {K:B_->A_->Prop} {S:Fr} {w:A_}  {f l} {t},uU P (.fn f l) S w K t=As P f (l.map (aS S)) w K ⟨⟩)) /\
((∀{P:D_} {K:B_->A_->Prop} {S:Fr} {w:A_}  {x m l} {t},uU P (.inv x m l) S w K t=wQ P (aS S x) m (l.map (aS S)) w K ⟨⟩) /\
((∀{P:D_} {K:B_->A_->Prop} {S:Fr} {w:A_}  {x l} {t},uU P (.val x l) S w K t=uW P (aS S x) (l.map (aS S)) w K ⟨⟩) /\
(∀{P:D_} {K:B_->A_->Prop} {S:Fr} {w:A_}  {f l} {t},uV P (.fn f l) S w K t=As P f (l.map (aS S)) w K ⟨⟩)))) /\
(((∀{P:D_} {K:B_->A_->Prop} {S:Fr} {w:A_}  {x m l} {t},uV P (.inv x m l) S w K t=wQ P (aS S x) m (l.map (aS S)) w K ⟨⟩) /\
((∀{P:D_} {K:B_->A_->Prop} {S:Fr} {w:A_}  {x l} {t},uV P (.val x l) S w K t=yy P (aS S x) (l.map (aS S)) w K ⟨⟩) /\
(∀{P:D_} {aC:B_->Prop}  {ty cX c6} (k:IntKind) (a b:Int) {t},gA P .lss ty cX c6 (.int k a) (.int k b) aC t=aC (.bool (decide (a<b)))))) /\
((∀{P:D_} {aC:B_->Prop}  {ty cX c6} (k:IntKind) (a b:Int) {t},gA P .leq ty cX c6 (.int k a) (.int k b) aC t=aC (.bool (decide (a<=b)))) /\
((∀{P:D_} {aC:B_->Prop}  {ty cX c6} (k:IntKind) (a b:Int) {t},gA P .gtr ty cX c6 (.int k a) (.int k b) aC t=aC (.bool (decide (b<a)))) /\
(∀{P:D_} {aC:B_->Prop}  {ty cX c6} (k:IntKind) (a b:Int) {t},gA P .geq ty cX c6 (.int k a) (.int k b) aC t=aC (.bool (decide (b<=a)))))))) /\
((((∀{P:D_} {aC:B_->Prop}  {ty cX c6} (k:IntKind) (a b:Int) {t},gA P .eql ty cX c6 (.int k a) (.int k b) aC t=aC (.bool (decide (a=b)))) /\
(∀{P:D_} {aC:B_->Prop}  {ty cX c6} (k:IntKind) (a b:Int) {t},gA P .neq ty cX c6 (.int k a) (.int k b) aC t=aC (.bool (!decide (a=b))))) /\
((∀{P:D_} {aC:B_->Prop}  {ty cX c6} (k:IntKind) (a b:Int) {t},gA P .add ty cX c6 (.int k a) (.int k b) aC t=ox k (a+b) aC ⟨⟩) /\
((∀{P:D_} {aC:B_->Prop}  {ty cX c6} (k:IntKind) (a b:Int) {t},gA P .sub ty cX c6 (.int k a) (.int k b) aC t=ox k (a - b) aC ⟨⟩) /\
(∀{P:D_} {aC:B_->Prop}  {ty cX c6} (k:IntKind) (a b:Int) {t},gA P .mul ty cX c6 (.int k a) (.int k b) aC t=ox k (a*b) aC ⟨⟩)))) /\
(((∀{P:D_} {aC:B_->Prop}  {ty cX c6} (a b:ByteArray) {t},gA P .eql ty cX c6 (.string a) (.string b) aC t=aC (.bool (decide (a=b)))) /\
((∀{P:D_} {aC:B_->Prop}  {ty cX c6} (a b:ByteArray) {t},gA P .neq ty cX c6 (.string a) (.string b) aC t=aC (.bool (!decide (a=b)))) /\
(∀{aC:B_->Prop}  (b:Bool) {t},yQ .not (.bool b) aC t=aC (.bool (!b))))) /\
((∀{aC:B_->Prop}  (k:IntKind) (n:Int) {t},yQ .neg (.int k n) aC t=ox k (0 - n) aC ⟨⟩) /\
((∀{aC:B_->Prop}  (k q:IntKind) (n:Int) {t},CL k (.int q n) aC t=ox k n aC ⟨⟩) /\
(∀{aC:B_->Prop}  (n:Nat) (a:Addr) {t},CP n (.pointer (some a)) aC t=aC (.pointer (some (a.add n)))))))))) /\
((((((∀{aC:B_->Prop}  (v:B_) (vs:C_ B_) {t},uY (.tuple (v :: vs).toArray) 0 aC t=aC v) /\
(∀{aC:B_->Prop}  (v u:B_) (vs:C_ B_) {t},uY (.tuple (v :: u :: vs).toArray) 1 aC t=aC u)) /\
((∀{aC:B_->Prop}  (v u x:B_) (vs:C_ B_) {t},uY (.tuple (v :: u :: x :: vs).toArray) 2 aC t=aC x) /\
((∀{aC:B_->Prop}  (s:ByteArray) {t},CT (.string s) aC t=aC (.int .i64 s.size)) /\
(∀{aC:B_->Prop}  (a:H_ Addr) (n c:Nat) {t},CS (.slice a n c) aC t=aC (.int .i64 n))))) /\
(((∀{aC:B_->Prop}  (a:H_ Addr) (n c:Nat) {t},CJ (.slice a n c) aC t=aC (.int .i64 c)) /\
((∀{aC:B_->Prop}  (k q:IntKind) (a b:Int) {t},CU (.int k a) (.int q b) aC t=aC (.int k (max a b))) /\
(∀{aC:B_->Prop}  (k q:IntKind) (a b:Int) {t},CV (.int k a) (.int q b) aC t=aC (.int k (min a b))))) /\
((∀{aC:B_->Prop}  (m n:Nat) (cs:Array B_) {t},CQ m n (.agg cs) aC t=aC (.agg (cs.extract m (m+n)))) /\
((∀{aC:B_->Prop}  (a:Addr) {t},yG (.pointer (some a)) aC t=aC (.pointer (some a))) /\
(∀{aC:B_->Prop}  (f:E_) (a b:Array B_) {t},yG (.func (.func f) a b) aC t=aC (.func (.func f) a b)))))) /\
((((∀{lW:C_ B_->Prop} {S:Fr} {w:A_}  {t},jd [] S w lW t=lW []) /\
(∀{lW:C_ B_->Prop} {S:Fr} {w:A_}  {n r} {t},jd (.tmp n :: r) S w lW t=jd r S w (fun vs=>lW (S n :: vs)) ⟨⟩)) /\
((∀{lW:C_ B_->Prop} {S:Fr} {w:A_}  {n r} {t},jd (.cell n :: r) S w lW t=rm (S n) w (fun v=>jd r S w (fun vs=>lW (v :: vs)) ⟨⟩) ⟨⟩) /\
((∀{lW:C_ B_->Prop} {S:Fr} {w:A_}  {m n r} {t},jd (.jw m n :: r) S w lW t=u2 m (S n) w (fun v=>jd r S w (fun vs=>lW (v :: vs)) ⟨⟩) ⟨⟩) /\
(∀{S:Fr} {d:Nat} {v:B_},put S (some d) v=bW S d v)))) /\
(((∀{S:Fr} {v:B_},put S none v=S) /\
((∀{S:Fr} {d t:Nat} {v:B_},bW S d v t=if t=d then v else S t) /\
(∀{S:Fr} {t:Nat},aS S (.tmp t)=S t))) /\
((∀{S:Fr} {v:B_},aS S (.const v)=v) /\
((∀{S:Fr} {g:Nat},aS S (.global g) = .pointer (some ⟨g,0,none⟩)) /\
(∀{S:Fr} {f:Nat},aS S (.func f) = .func (.func f) #[] #[])))))) /\
(((((∀{k:Nat},hQ [] k=fun _=>undef) /\
(∀{v:B_} {vs:C_ B_} {k:Nat},hQ (v :: vs) k=bW (hQ vs (k+1)) k v)) /\
((gY [] = .tuple #[]) /\
((∀(v:B_),gY [v]=v) /\
(∀(v u:B_),gY [v,u] = .tuple #[v,u])))) /\
(((∀(v u x:B_),gY [v,u,x] = .tuple #[v,u,x]) /\
((∀(a:H_ Addr) (n c:Nat),(Value.slice a n c).cells=#[.slice a n c]) /\
(∀(k:IntKind) (n:Int),(Value.int k n).cells=#[.int k n]))) /\
((∀(b:Bool),(Value.bool b).cells=#[.bool b]) /\
((∀(s:ByteArray),(Value.string s).cells=#[.string s]) /\
(∀(a:H_ Addr),(Value.pointer a).cells=#[.pointer a]))))) /\
((((∀(a:H_ Nat),(Value.map a).cells=#[.map a]) /\
(∀(f:Fn) (a b:Array B_),(Value.func f a b).cells=#[.func f a b])) /\
((∀(cs:Array B_),(Value.agg cs).cells=cs) /\
((∀{α β:Type} {f:α->β} {a:α} {l:C_ α},(a :: l).map f=f a :: l.map f) /\
(∀{α β:Type} {f:α->β},([]:C_ α).map f=[])))) /\
((((!true)=false) /\
(((!false)=true) /\
(∀{h:Decidable True},decide True=true))) /\
((∀{h:Decidable False},decide False=false) /\
((∀{α:Type} {a b:α} {h:Decidable True},(if True then a else b)=a) /\
(∀{α:Type} {a b:α} {h:Decidable False},(if False then a else b)=b))))))))) :=
 ⟨⟨⟨⟨⟨⟨⟨(by intros;apply RA),(by intros;apply RB)⟩,⟨(by intros;apply RC),⟨(by intros;apply RD),(by intros;apply RE)⟩⟩⟩,⟨⟨(by intros;apply RF),⟨(by intros;apply RG),(by intros;apply RH)⟩⟩,⟨(by intros;apply RI),⟨(by intros;apply RJ),(by intros;apply RL)⟩⟩⟩⟩,⟨⟨⟨(by intros;apply RM),(by intros;apply RN)⟩,⟨(by intros;apply RO),⟨(by intros;apply RP),(by intros;apply RQ)⟩⟩⟩,⟨⟨(by intros;apply RR),⟨(by intros;apply RS),(by intros;apply RT)⟩⟩,⟨(by intros;apply RU),⟨(by intros;apply RV),(by intros;apply RW)⟩⟩⟩⟩⟩,⟨⟨⟨⟨(by intros;apply RX),(by intros;apply RY)⟩,⟨(by intros;apply RZ),⟨(by intros;apply R0),(by intros;apply R1)⟩⟩⟩,⟨⟨(by intros;apply R2),⟨(by intros;apply R3),(by intros;apply tB)⟩⟩,⟨(by intros;apply R6),⟨(by intros;apply R7),(by intros;apply R8)⟩⟩⟩⟩,⟨⟨⟨(by intros;apply R9),(by intros;apply Sa)⟩,⟨(by intros;apply Sb),⟨(by intros;apply Sc),(by intros;apply Sd)⟩⟩⟩,⟨⟨(by intros;apply Se),⟨(by intros;apply yz),(by intros;apply jt)⟩⟩,⟨(by intros;apply c7),⟨(by intros;apply fv),(by intros;apply eA)⟩⟩⟩⟩⟩⟩,⟨⟨⟨⟨⟨(by intros;apply jM),(by intros;apply iM)⟩,⟨(by intros;apply gK),⟨(by intros;apply ih),(by intros;apply gS)⟩⟩⟩,⟨⟨(by intros;apply Si),⟨(by intros;apply Sj),(by intros;apply Sk)⟩⟩,⟨(by intros;apply Sl),⟨(by intros;apply Sm),(by intros;apply Sn)⟩⟩⟩⟩,⟨⟨⟨(by intros;apply Sp),(by intros;apply Sq)⟩,⟨(by intros;apply Sr),⟨(by intros;apply Ss),(by intros;apply St)⟩⟩⟩,⟨⟨(by intros;apply H1),⟨(by intros;apply Su),(by intros;apply Sv)⟩⟩,⟨(by intros;apply Sw),⟨(by intros;apply Sx),(by intros;apply Sy)⟩⟩⟩⟩⟩,⟨⟨⟨⟨(by intros;apply Sz),(by intros;apply SA)⟩,⟨(by intros;apply SB),⟨(by intros;apply SC),(by intros;apply SD)⟩⟩⟩,⟨⟨(by intros;apply SE),⟨(by intros;apply SF),(by intros;apply SG)⟩⟩,⟨(by intros;apply SH),⟨(by intros;apply SI),(by intros;apply SJ)⟩⟩⟩⟩,⟨⟨⟨(by intros;apply SK),(by intros;apply SL)⟩,⟨(by intros;apply SM),⟨(by intros;apply SN),(by intros;apply SO)⟩⟩⟩,⟨⟨(by intros;apply SP),⟨(by intros;apply SQ),(by intros;apply SR)⟩⟩,⟨(by intros;apply SS),⟨(by intros;apply SU),(by intros;apply SV)⟩⟩⟩⟩⟩⟩⟩,⟨⟨⟨⟨⟨⟨(by intros;apply SX),(by intros;apply S0)⟩,⟨(by intros;apply S1),⟨(by intros;apply M2),(by intros;apply S2)⟩⟩⟩,⟨⟨(by intros;apply S3),⟨(by intros;apply S4),(by intros;apply S5)⟩⟩,⟨(by intros;apply S6),⟨(by intros;apply S7),(by intros;apply S8)⟩⟩⟩⟩,⟨⟨⟨(by intros;apply S9),(by intros;apply Ta)⟩,⟨(by intros;apply Tb),⟨(by intros;apply Tc),(by intros;apply Td)⟩⟩⟩,⟨⟨(by intros;apply Te),⟨(by intros;apply Tf),(by intros;apply Tg)⟩⟩,⟨(by intros;apply Th),⟨(by intros;apply Ti),(by intros;apply Tk)⟩⟩⟩⟩⟩,⟨⟨⟨⟨(by intros;apply Tl),(by intros;apply Tm)⟩,⟨(by intros;apply Tn),⟨(by intros;apply To),(by intros;apply Tp)⟩⟩⟩,⟨⟨(by intros;apply Tq),⟨(by intros;apply Tr),(by intros;apply Ts)⟩⟩,⟨(by intros;apply Tt),⟨(by intros;apply Tu),(by intros;apply Tv)⟩⟩⟩⟩,⟨⟨⟨(by intros;apply Tw),(by intros;apply Tx)⟩,⟨(by intros;apply Ty),⟨(by intros;apply Tz),(by intros;apply TA)⟩⟩⟩,⟨⟨(by intros;apply TB),⟨(by intros;apply TC),(by intros;apply TD)⟩⟩,⟨(by intros;apply TF),⟨(by intros;apply C1),(by intros;apply C2)⟩⟩⟩⟩⟩⟩,⟨⟨⟨⟨⟨(by intros;apply TG),(by intros;apply TH)⟩,⟨(by intros;apply TI),⟨(by intros;apply C3),(by intros;apply AG)⟩⟩⟩,⟨⟨(by intros;apply TJ),⟨(by intros;apply TK),(by intros;apply TQ)⟩⟩,⟨(by intros;apply TR),⟨(by intros;apply TS),(by intros;apply TT)⟩⟩⟩⟩,⟨⟨⟨(by intros;apply TU),(by intros;apply TV)⟩,⟨(by intros;apply TW),⟨(by intros;apply TX),(by intros;apply TY)⟩⟩⟩,⟨⟨(by intros;apply TZ),⟨(by intros;apply T0),(by intros;apply T1)⟩⟩,⟨(by intros;apply T2),⟨(by intros;apply T3),(by intros;apply T4)⟩⟩⟩⟩⟩,⟨⟨⟨⟨(by intros;apply T5),(by intros;apply T6)⟩,⟨(by intros;apply T7),⟨(by intros;apply T8),(by intros;apply T9)⟩⟩⟩,⟨⟨(by intros;apply Ua),⟨(by intros;apply Ub),(by intros;apply Uc)⟩⟩,⟨(by intros;apply Ud),⟨(by intros;apply Ue),(by intros;apply Uf)⟩⟩⟩⟩,⟨⟨⟨(by intros;apply Ug),(by intros;apply Uh)⟩,⟨(by intros;apply Ui),⟨(by intros;apply Uj),(by intros;apply Uk)⟩⟩⟩,⟨⟨(by intros;apply iy),⟨(by intros;apply eP),(by intros;apply nN)⟩⟩,⟨(by intros;apply AM),⟨(by intros;apply pL),(by intros;apply k2)⟩⟩⟩⟩⟩⟩⟩⟩
section
variable{P:Program}{Q:ed->Fr->World->Prop}{aC:Value->Prop}{K:Value->World->Prop}{KW:World->Prop}{S:Fr}{w:World}{A B:Prop}
theorem I_{p:Prop}[Decidable p]{t}(h1:p->A)(I:¬p->B):ky (.bool (decide p)) A B t:=aeb h1 I
theorem N_{u:Bool}{t}(h1:u=true->A)(I:u=false->B):ky (.bool u) A B t:=aea h1 I
theorem Q_{n:Int}{t}(h : -9223372036854775808<=n/\n<=9223372036854775807)(hk:aC (.int .i64 n)):ox .i64 n aC t:=wrap_i64 h hk
theorem _k{k:IntKind}{n:Int}{t}(h:aC (.int k (k.wrap n))):ox k n aC t:=aci h
theorem _2{k:IntKind}{n:Int}{t}(h:k.wrap n=n)(hk:aC (.int k n)):ox k n aC t:=aci (by rw[h];exact hk)
theorem _J{ty:F_}{cX c6:G_}{k:IntKind}{a b:Int}{t}(ak:b≠0)(h:ox k (a.tdiv b) aC ⟨⟩):gA P .quo ty cX c6 (.int k a) (.int k b) aC t:=adN ak h
theorem _p{ty:F_}{cX c6:G_}{k:IntKind}{a b:Int}{t}(ak:b≠0)(h:aC (.int k (a.tmod b))):gA P .rem ty cX c6 (.int k a) (.int k b) aC t:=adO ak h
theorem _N{op:BinOp}{ty:F_}{cX c6:G_}{x y v:B_}{t}(h:∀w,(do eqGuard op ty cX c6 x y;binOp op ty x y:Sem B_).run P w = .ok v w)(hk:aC v):gA P op ty cX c6 x y aC t:=⟨v,h,hk⟩
theorem _Z{sz:Nat}{a:Addr}{len cap:Nat}{k:IntKind}{n:Int}{t}(h:0<=n/\n<len)(hk:aC (.pointer (some (a.add (n.toNat*sz))))):Ax sz (.slice (some a) len cap) (.int k n) aC t:=akS h hk
theorem K_{sz:Nat}{a:Addr}{len cap:Nat}{k:IntKind}{n:Int}{t}(i:Nat)(U:n=i)(h:i<len)(hk:aC (.pointer (some (a.add (i*sz))))):Ax sz (.slice (some a) len cap) (.int k n) aC t:=akR i U h hk
theorem AE1{sz:Nat}{a:Addr}{len:Nat}{k:IntKind}{n:Int}{t}(h:0<=n/\n<len)(hk:aC (.pointer (some (a.add (n.toNat*sz))))):Gf len sz (.pointer (some a)) (.int k n) aC t:=akQ h hk
theorem _a{s:ByteArray}{k:IntKind}{n:Int}{t}(c:UInt8)(af:0<=n)(h:s[n.toNat]? = some c)(hk:aC (.int .u8 c.toNat)):Gj (.string s) (.int k n) aC t:=ak7 c af h hk
theorem AA4{len:Nat}{cs:Array B_}{k:IntKind}{n:Int}{t}(v:B_)(af:0<=n/\n<len)(h:cs[n.toNat]? = some v)(hk:aC v):Gi len (.agg cs) (.int k n) aC t:=ak6 v af h hk
theorem _A{off:Nat}{cs:Array B_}{v:B_}{t}(h:cs[off]? = some v)(hk:aC v):Gd off (.agg cs) aC t:=agI h hk
theorem W_{z cs:C_ B_}{pl:C_ (Nat×Nat)}{da:C_ (Nat×G_)}{t}(h:eW S pl da z=some cs)(hk:aC (.agg cs.toArray)):F3 S z pl da aC t:=adU h hk
theorem _C{sz:Nat}{a:H_ Addr}{len cap:Nat}{aO U mx:H_ G_}{t}(l h m:Nat)(h1:eG S aO 0=some l)(I:eG S U len=some h)(ab:eG S mx cap=some m)
  (aD:l<=h/\h<=m/\m<=cap)(aY:mx.isSome=true->U.isSome=true)(hk:aC (.slice (if m=l then a else a.map (·.add (l*sz))) (h - l) (m - l))):su S sz (.slice a len cap) aO U mx aC t:=apB l h m h1 I ab aD aY hk
theorem AA5{s:ByteArray}{aO U:H_ G_}{t}(l h:Nat)(h1:eG S aO 0=some l)(I:eG S U s.size=some h)(aD:l<=h/\h<=s.size)(hk:aC (.string (s.extract l h))):GB S (.string s) aO U aC t:=apz l h h1 I aD hk
theorem M_{a:Addr}{c:B_}{t}(h:w.cell? a=some c)(hk:aC c):rm (.pointer (some a)) w aC t:=alE h hk
theorem _B{n:Nat}{a:Addr}{cs:C_ B_}{t}(h:e0 w a cs)(ay:cs.length=n)(hk:aC (.agg cs.toArray)):u2 n (.pointer (some a)) w aC t:=alD h ay hk
theorem _l{d:TypeDesc}{z:B_}{ok:Bool}{m k:B_}{es:Array MapEntry}{r:H_ (Nat×B_)}{t}(h1:rn w m es)(I:Instr.findNow d k es.toList 0=some r)(hk:aC (mK z ok r)):Ay d z ok m k w aC t:=alT h1 I hk
theorem AE2{m:B_}{es:Array MapEntry}{t}(h:rn w m es)(hk:aC (.int .i64 es.size)):Gn m w aC t:=alJ h hk
theorem _x{a:Addr}{v hx:B_}{t}(h:w.cell? a=some hx)(ax:w.frozen? a=false)(aG:v.oneCell'=true)(hk:KW (w.setCell a v)):qu (.pointer (some a)) v w KW t:=abG h ax aG hk
theorem _3{n:Nat}{a:Addr}{cs:Array B_}{t}(ay:cs.size=n)(h:∀j,j<n->(∃hx,w.cell? (a.add j)=some hx)/\w.frozen? (a.add j)=false)(h1:∀c∈cs.toList,c.oneCell'=true)(hk:KW (ic w a cs.toList 0)):yO n (.pointer (some a)) (.agg cs) w KW t:=QU ay h h1 hk
theorem _4{e:F_}{sz bytes:Nat}{z:B_}{k q:IntKind}{n m:Int}{t}(h:0<=n/\n<=m/\m<=9223372036854775807/\bytes*m<=281474976710656)(hk:K (.slice (some ⟨w.heap.size,0,none⟩) n.toNat m.toNat) (w.alloc (.cells (rh z.cells (m.toNat*sz)) e))) :
  AB e sz bytes z (.int k n) (.int q m) w K t:=al9 h hk
theorem AE3{e:F_}{len sz:Nat}{z cs:C_ B_}{da:C_ (Nat×G_)}{t}(h:eW S ((List.range len).map fun i=>(i*sz,sz)) da z=some cs)(hk:K (.slice (some ⟨w.heap.size,0,none⟩) len len) (w.alloc (.cells cs.toArray e))):CH S e len sz z da w K t:=Dj h hk
theorem _q{ty e:F_}{sz b:Nat}{s x:B_}{t}(h:TP P ty e sz b->∃u b9 w',(Builtin.append_ #[ty,ty] u #[s,x]).run P w = .ok b9 w'/\K b9 w'):mR P ty e sz b s x w K t:=h
theorem _r{d:TypeDesc}{r:Nat}{k v:B_}{es:Array MapEntry}{c:Nat}{q:H_ (Nat×B_)}{t}(h1:w.heap[r]? = some (.map es c))(I:Instr.findNow d k es.toList 0=some q)(hk:KW (fr w r (rZ es c k v q))):yC d (.map (some r)) k v w KW t:=amh h1 I hk
theorem AA6{r pos:Nat}{s:ByteArray}{t}(h:w.heap[r]? = some (.stringIter s pos))(h1:pos<s.size->K (.tuple #[.bool true,.int .i64 pos,.int .i32 (Utf8.decode s pos).1]) (fr w r (.stringIter s (pos+(Utf8.decode s pos).2))))
  (I:¬pos<s.size->K (.tuple #[.bool false]) w):Gv (.pointer (some ⟨r,0,none⟩)) w K t:=amG h h1 I
theorem _E{op:Op}{ty:F_}{v:B_}{w':A_}{t}(h:(execOp (aS S) ⟨none,op,ty, "",#[],none⟩).run P w = .ok (.value v) w')(hk:K v w'):sn P op ty S w K t:=⟨v,w',.inl h,hk⟩
theorem J_{f:E_}{args:C_ B_}{R:B_->A_->Prop}{t}(h:a7 P f args.toArray w R)(hk:∀v w',R v w'->K v w'):As P f args w K t:=ad5 h hk
theorem X_{f:E_}{args:C_ B_}{R:B_->A_->Prop}{Z sw:C_ PanicEntry->A_->Prop}{t}(h:qt P f args.toArray w R Z)(hk:∀v w',R v w'->K v w')(bA:∀c w',Z c w'->sw c w'):GC P f args w K sw t:=qt.mono h hk bA
theorem AA7{f:E_}{L:mq}(hm:P.follows .mixedOrders=true)(ah:k6 P f=some L){args:C_ B_}{R:B_->A_->Prop}{Z:C_ PanicEntry->A_->Prop}(aV:args.length<=L.n)(h:dO P L.code (vo L.res R Z ⟨⟩) (hQ args 0) w ⟨⟩):qt P f args.toArray w R Z:=afH hm ah aV h
theorem U_{f:E_}{first cap:C_ B_}{args:C_ B_}{R:B_->A_->Prop}{t}(ax:okF P f=true)(h:a7 P f (first++args++cap).toArray w R)(hk:∀v w',R v w'->K v w'):yy P (.func (.func f) first.toArray cap.toArray) args w K t:=Or.inl (L5 ax h hk)
theorem _e{f:E_}{first cap:C_ B_}{args:C_ B_}{R:B_->A_->Prop}{t}(ax:okF P f=true)(h:a7 P f (first++args++cap).toArray w R)(hk:∀v w',R v w'->K v w'):uW P (.func (.func f) first.toArray cap.toArray) args w K t:=L5 ax h hk
theorem _y{l:Nat}{args:C_ B_}{R:Ending->A_->Prop}{t}(h:YieldAt Fence.wide 0 P l args.toArray w R)(hk:∀e w',R e w'->∃v,e = .returned v/\K v w'):yy P (.func (.yield l) #[] #[]) args w K t :=
 Or.inr ⟨l,rfl,let ⟨fn,tmps,assign,body,h1,I⟩:=h; ⟨fn,tmps,assign,body,h1,I.mono hk⟩⟩
theorem P_{f:E_}{args:C_ B_}{t}(v:B_)(h:∀w',Ext w w'->a7 P f args.toArray w' fun u bK=>u=v/\Ext w' bK)(hk:aC v):Gy P f args w aC t:=an5 v h hk
theorem O_{n:F_}{cs:Array B_}{t}(hk:∀w1 b,w.heap.size<=b->Ext w w1->w1.heap[b]? = some (.cells cs n)->K (.pointer (some ⟨b,0,none⟩)) w1):yE n cs w K t :=
 hk _ _ (Nat.le_refl _) ((Ext.refl w).alloc _) (heap_alloc_new w _)
theorem _g{t}(hk:∀w1 b,w.heap.size<=b->Ext w w1->w1.heap[b]? = some (.map #[] 0)->K (.map (some b)) w1):Gt w K t:=hk _ _ (Nat.le_refl _) ((Ext.refl w).alloc _) (heap_alloc_new w _)
theorem AA8{s:ByteArray}{t}(hk:∀w1 b,w.heap.size<=b->Ext w w1->w1.heap[b]? = some (.stringIter s 0)->K (.pointer (some ⟨b,0,none⟩)) w1):Gz (.string s) w K t :=
 ⟨s,rfl,hk _ _ (Nat.le_refl _) ((Ext.refl w).alloc _) (heap_alloc_new w _)⟩
theorem Y_{e:F_}{len sz:Nat}{z cs:C_ B_}{da:C_ (Nat×G_)}{t}(h:eW S ((List.range len).map fun i=>(i*sz,sz)) da z=some cs)
  (hk:∀w1 b,w.heap.size<=b->Ext w w1->w1.heap[b]? = some (.cells cs.toArray e)->K (.slice (some ⟨b,0,none⟩) len len) w1):CH S e len sz z da w K t :=
 Dj h (hk _ _ (Nat.le_refl _) ((Ext.refl w).alloc _) (heap_alloc_new w _))
theorem _F{b j:Nat}{c:Array B_}{e:F_}{v:B_}{t}(ak:w.heap[b]? = some (.cells c e))(aE:j<c.size)(aG:v.oneCell'=true)
  (hk:∀w1,dn b w w1->w1.heap[b]? = some (.cells (c.set j v aE) e)->KW w1):qu (.pointer (some (Addr.add ⟨b,0,none⟩ j))) v w KW t :=
 abG (fQ ak (Array.getElem?_eq_getElem aE)) (by rw[add_eq];simp[World.frozen?,ak]) aG (hk _ (by have h:=dn.setCell w (Addr.add ⟨b,0,none⟩ j) v;rwa[LM] at h) (FD ak aE v))
theorem _V{b:Nat}{c:Array B_}{e:F_}{v:B_}{t}(ak:w.heap[b]? = some (.cells c e))(aE:0<c.size)(aG:v.oneCell'=true)
  (hk:∀w1,dn b w w1->w1.heap[b]? = some (.cells (c.set 0 v aE) e)->KW w1):qu (.pointer (some ⟨b,0,none⟩)) v w KW t :=
 _F (j:=0) (t:=⟨⟩) ak aE aG hk
theorem T_{b n:Nat}{c cs:Array B_}{e:F_}{t}(ak:w.heap[b]? = some (.cells c e))(ah:c.size=n)(ay:cs.size=n)(h1:∀x∈cs.toList,x.oneCell'=true)
  (hk:∀w1,dn b w w1->w1.heap[b]? = some (.cells cs e)->KW w1):yO n (.pointer (some ⟨b,0,none⟩)) (.agg cs) w KW t :=
 QU ay (fun j aE=>⟨⟨_,fQ ak (Array.getElem?_eq_getElem (by omega))⟩,by rw[add_eq];simp[World.frozen?,ak]⟩) h1 (hk _ (dn.ic cs.toList w ⟨b,0,none⟩ 0) (abn ak (by omega)))
theorem Z_{b:eC}{t}(c5:Fr->A_->Prop)(kc:Fr->A_->Nat)(af:c5 S w)
  (aL:∀aX w',(∀t,b.fG.contains t=false->aX t=S t)->c5 aX w'->dO P b (hY (fun fE bK=>c5 fE bK/\kc fE bK<kc aX w') Q ⟨⟩) aX w' ⟨⟩):yB P b Q S w t:=alX c5 kc af aL
theorem _h{f:E_}{L:mq}(hm:P.follows .mixedOrders=true)(ah:k6 P f=some L){args:C_ B_}{R:B_->A_->Prop}(aV:args.length<=L.n)(h:dO P L.code (qG L.res R ⟨⟩) (hQ args 0) w ⟨⟩):a7 P f args.toArray w R:=enter hm ah aV h
end
attribute [irreducible] dO
attribute [irreducible] ka
attribute [irreducible] lP
attribute [irreducible] fT
attribute [irreducible] Ae
attribute [irreducible] sO
attribute [irreducible] sC
attribute [irreducible] ql
attribute [irreducible] nI
attribute [irreducible] uV
attribute [irreducible] yy
attribute [irreducible] oX
attribute [irreducible] u4
attribute [irreducible] Gy
attribute [irreducible] CZ
attribute [irreducible] eN
attribute [irreducible] oY
attribute [irreducible] iN
attribute [irreducible] uU
attribute [irreducible] gA
attribute [irreducible] yQ
attribute [irreducible] CL
attribute [irreducible] ox
attribute [irreducible] ky
attribute [irreducible] j3
attribute [irreducible] CP
attribute [irreducible] Ax
attribute [irreducible] Gf
attribute [irreducible] Gj
attribute [irreducible] Gi
attribute [irreducible] Gd
attribute [irreducible] CQ
attribute [irreducible] F3
attribute [irreducible] su
attribute [irreducible] GB
attribute [irreducible] uY
attribute [irreducible] CT
attribute [irreducible] CS
attribute [irreducible] CJ
attribute [irreducible] CU
attribute [irreducible] CV
attribute [irreducible] yG
attribute [irreducible] rm
attribute [irreducible] u2
attribute [irreducible] Ay
attribute [irreducible] Gn
attribute [irreducible] qu
attribute [irreducible] yO
attribute [irreducible] AB
attribute [irreducible] CH
attribute [irreducible] mR
attribute [irreducible] yC
attribute [irreducible] Gv
attribute [irreducible] Gz
attribute [irreducible] sn
attribute [irreducible] As
attribute [irreducible] GC
attribute [irreducible] wQ
attribute [irreducible] LD
attribute [irreducible] CY
attribute [irreducible] uW
attribute [irreducible] yE
attribute [irreducible] Gt
attribute [irreducible] yB
attribute [irreducible] jd
attribute [irreducible] hY qz qG vo
end bb
end
section
namespace bb
open Go Go.RowKit
structure bh{α:Type}(sz:Nat)(R:World->Addr->α->Prop)(w:World)(v:Value)(xs:List α):Prop where
 ex:∃aQ cap,v = .slice aQ xs.length cap/\xs.length<=cap/\cap<=maxLen/\(xs≠[]->aQ.isSome=true)/\∀a,aQ=some a->∀i (h:i<xs.length),R w (a.add (i*sz)) xs[i]
theorem bh.form{α:Type}{sz:Nat}{R:A_->Addr->α->Prop}{w:A_}{v:B_}{xs:C_ α}(h:bh sz R w v xs):∃aQ cap,v = .slice aQ xs.length cap/\xs.length<=9223372036854775807:=by
 obtain⟨aQ,cap,h1,I,ab,_⟩:=h.ex;exact⟨aQ,cap,h1,by unfold maxLen at ab;omega⟩
theorem bh.addr{α:Type}{sz:Nat}{R:A_->Addr->α->Prop}{w:A_}{aQ:H_ Addr}{n c:Nat}{xs:C_ α}(h:bh sz R w (.slice aQ n c) xs)(ay:0<xs.length:=by omega):∃a,aQ=some a:=by
 obtain⟨kv,cap,h1,I,ab,aD,_⟩:=h.ex;injection h1 with h1 _ _
 subst h1;exact Option.isSome_iff_exists.1 (aD (by intro e;subst e;simp at ay))
theorem bh.at{α:Type}{sz:Nat}{R:A_->Addr->α->Prop}{w:A_}{a:Addr}{n c:Nat}{xs:C_ α}(h:bh sz R w (.slice (some a) n c) xs)(i:Nat)(U:i<xs.length):R w (a.add (i*sz)) xs[i]:=by
 obtain⟨kv,cap,h1,I,ab,aD,aY⟩:=h.ex;injection h1 with h1 _ _
 subst h1;exact aY a rfl i U
theorem bh.ext{α:Type}{sz:Nat}{R:A_->Addr->α->Prop}(bE:∀w w' a x,Ext w w'->R w a x->R w' a x){w w':A_}{v:B_}{xs:C_ α}(he:Ext w w')(h:bh sz R w v xs):bh sz R w' v xs:=by
 obtain⟨aQ,cap,h1,I,ab,aD,aY⟩:=h.ex;exact⟨aQ,cap,h1,I,ab,aD,fun a aV i U=>bE _ _ _ _ he (aY a aV i U)⟩
def Flat{α:Type}(enc:α->C_ B_)(w:A_)(a:Addr)(x:α):Prop:=e0 w a (enc x)
theorem Flat.ext{α:Type}{enc:α->C_ B_}(w w':A_)(a:Addr)(x:α)(he:Ext w w')(h:Flat enc w a x):Flat enc w' a x:=e0.ext he h
def iw{om:Type}(enc:om->B_)(es:C_ MapEntry)(m:C_ (om×B_)):Prop:=es.map (fun e=>(e.key,e.val))=m.map (fun p=>(enc p.1,p.2))
theorem y8{om:Type}[DecidableEq om]{enc:om->B_}{d:TypeDesc}(an:∀x y,Instr.sameNow d (enc x) (enc y)=some (decide (x=y)))(x:om):∀(es:C_ MapEntry) (m:C_ (om×B_)) (i:Nat),iw enc es m ->
  ∃r,Instr.findNow d (enc x) es i=some r/\r.map (·.2)=(m.find? (fun p=>decide (x=p.1))).map (·.2)
 | [],m,i,h=>by
  have:m=[]:=by cases m with | nil=>rfl | cons _ _=>simp[iw] at h
  subst this;exact⟨none,rfl,rfl⟩
 | e :: es,m,i,h=>by
  cases m with
  | nil=>simp[iw] at h
  | cons p m =>
   simp only[iw,List.map_cons,List.cons.injEq,Prod.mk.injEq] at h;obtain⟨⟨h1,I⟩,ab⟩:=h;unfold Instr.findNow;rw[h1,an];by_cases ag:x=p.1
   .simp only[ag,decide_true];exact⟨_,rfl,by simp[I]⟩
   .simp only[ag,decide_false];obtain⟨r,aD,aY⟩:=y8 an x es m (i+1) ab;exact⟨r,aD,by rw[aY];simp[ag]⟩
theorem KE(x y:ByteArray):Instr.sameNow .string (.string x) (.string y)=some (decide (x=y)):=by simp[Instr.sameNow,Df]
theorem KD(k q:IntKind)(x y:Int):Instr.sameNow (.int q) (.int k x) (.int k y)=some (decide (x=y)):=by simp[Instr.sameNow];rfl
theorem iw.push{om:Type}{enc:om->B_}{es:Array MapEntry}{m:C_ (om×B_)}(h:iw enc es.toList m)(x:om)(v:B_)(c:Nat):iw enc (es.push { key:=enc x,val:=v,born:=c }).toList (m++[(x,v)]):=by
 simp only[iw] at *;simp[h]
theorem MU{α:Type}{enc:α->C_ B_}{sz:Nat}(dy:∀x,(enc x).length=sz):∀(xs:C_ α) (i j:Nat) (h:i<xs.length),j<sz->(xs.flatMap enc)[i*sz+j]? = (enc xs[i])[j]?
 | [],i,j,h,_=>by simp at h
 | x :: xs,0,j,h,aE=>by
  simp only[List.flatMap_cons,Nat.zero_mul,Nat.zero_add,List.getElem_cons_zero];rw[List.getElem?_append_left (by rw[dy];exact aE)]
 | x :: xs,i+1,j,h,aE=>by
  simp only[List.flatMap_cons,List.getElem_cons_succ];rw[List.getElem?_append_right (by rw[dy,Nat.add_mul];omega),dy,show(i+1)*sz+j - sz=i*sz+j from by rw[Nat.add_mul];omega];exact MU dy xs i j (by simpa using h) aE
theorem aek{α:Type}{enc:α->C_ B_}{sz:Nat}(dy:∀x,(enc x).length=sz){w:A_}{b:Nat}{e:F_}{f:Nat×Nat}{xs:C_ α}(ak:w.heap[b]? = some (.cells (xs.flatMap enc).toArray e f))(i:Nat)(h:i<xs.length) :
  e0 w (Addr.add ⟨b,0,none⟩ (i*sz)) (enc xs[i]):=fun j v aE=>by
 have Ob:j<sz:=by rw[<-dy xs[i]];exact(List.getElem?_eq_some_iff.1 aE).1
 rw[add_add];exact fQ ak (by rw[List.getElem?_toArray,MU dy xs i j h Ob];exact aE)
theorem bh.cu{α:Type}{enc:α->C_ B_}{sz:Nat}(dy:∀x,(enc x).length=sz){R:A_->Addr->α->Prop}{w:A_}{b n:Nat}{e:F_}{f:Nat×Nat}{xs:C_ α}(ak:w.heap[b]? = some (.cells (xs.flatMap enc).toArray e f))
  (ay:n=xs.length)(hm:xs.length<=maxLen)(bE:∀a x,x∈xs->e0 w a (enc x)->R w a x):bh sz R w (.slice (some ⟨b,0,none⟩) n n) xs:=by
 subst ay;refine⟨_,_,rfl,Nat.le_refl _,hm,fun _=>rfl,fun a aV i U=>?_⟩;injection aV with aV;subst aV
 exact bE _ _ (List.getElem_mem _) (aek dy ak i U)
theorem bh.nil{α:Type}{sz:Nat}{R:A_->Addr->α->Prop}{w:A_}:bh sz R w (.slice none 0 0) ([]:C_ α):=⟨none,0,rfl,Nat.le_refl _,Nat.zero_le _,fun h=>absurd rfl h,fun a h=>by cases h⟩
end bb
end
section
namespace bb
open Go Go.RowKit Go.ChangeShapes Go.WideShapes Go.Deep
section
variable{H:Type}{enc:TypeId×Value->H}{P:Program}
theorem abY{w:A_}:∀{cz:C_ F_} {vs:C_ B_} {ds:C_ (DataW H)} {da:C_ MemPlace},DataW.TrodAll enc P w 0 (fun _=>true) true cz vs ds da->∀x∈da,x.block<w.heap.size
 | [],_,_,_,h=>by
  obtain⟨rfl,rfl,rfl⟩:=trodAll_nil h;intro x ag;cases ag
 | _ :: _,_,_,_,h=>by
  obtain⟨v,ab7,d,VA,a,b,rfl,rfl,rfl,⟨m,h1⟩,I⟩:=trodAll_cons h;intro x ag;rcases List.mem_append.1 ag with ag | ag
  .exact DataW.trod_lt m _ _ _ h1 x ag
  .exact abY I x ag
theorem abX{w:A_}{sp:Nat->Bool}{a6:Bool}:∀{cz:C_ F_} {vs:C_ B_} {ds:C_ (DataW H)} {da:C_ MemPlace},DataW.TrodAll enc P w 0 sp a6 cz vs ds da->ds.length=cz.length
 | [],_,_,_,h=>by
  obtain⟨rfl,rfl,rfl⟩:=trodAll_nil h;rfl
 | _ :: _,_,_,_,h=>by
  obtain⟨v,ab7,d,VA,a,b,rfl,rfl,rfl,h1,I⟩:=trodAll_cons h;simp[abX I]
theorem abW(aF:laidOutB P=true){W b6:A_}(ak:Below W.heap.size W b6):∀{cz:C_ F_} {vs:C_ B_} {ds:C_ (DataW H)} {da:C_ MemPlace},(cz.all fun t=>P.readableRec t&&decide (t<P.types.size))=true ->
  DataW.TrodAll enc P W 0 (fun _=>true) true cz vs ds da->(∀x∈da,x.block<W.heap.size)->DataW.TrodAll enc P b6 0 (fun b=>decide (b<W.heap.size)) true cz vs ds da
 | [],_,_,_,_,h,_=>by
  obtain⟨rfl,rfl,rfl⟩:=trodAll_nil h;exact trodAll_mk0
 | _ :: _,_,_,_,aL,h,ch=>by
  obtain⟨v,ab7,d,VA,a,b,rfl,rfl,rfl,h1,I⟩:=trodAll_cons h;simp only[List.all_cons,Bool.and_eq_true,decide_eq_true_eq] at aL;exact trodAll_cons_mk (Below.trod aF aL.1.1 aL.1.2 h1 ak fun x ag=>ch x (List.mem_append_left _ ag)) (abW aF ak aL.2 I fun x ag=>ch x (List.mem_append_right _ ag))
theorem atB{s:ChangeSpec}{f:Func}{tb:F_}(aF:laidOutB P=true)(aL:(f.params.toList.all fun t=>P.readableRec t&&decide (t<P.types.size))=true)(aG:s.vars=[])
  (ake:f.resultTypes=#[tb])(aB:P.underlying tb=some .bool)(an:∀ds:C_ (DataW H),ds.length=f.params.toList.length->s.fn H ds = { results:=[.lit (.bool true)],args:=ds })
  {W b6:A_}{args:Array B_}{ds gs:C_ (DataW H)}{before:C_ MemPlace}(gO:DataW.Whole enc P f.params.toList s.vars false W args.toList ds gs before)(UQ:Ext W b6) :
  s.post enc P f false true false false W args (.bool true) b6:=by
 have ahW:=gO;obtain⟨p,q,dh,mA,rfl,asF,lk⟩:=gO;rw[aG] at mA;obtain⟨rfl,rfl⟩:=trodVars_none mA;have ch:=abY dh;have e:=an ds (abX dh);refine⟨ds,[],_,[],p,[],ahW,?_,?_,?_,UQ.frame _,fun h=>by cases h⟩
 .rw[List.append_nil,e,ake];exact trodAll_mk1 (shut_bool aB _)
 .rw[List.append_nil,e];exact abW aF UQ aL dh ch
 .rw[List.append_nil,e,aG];rfl
variable{w:World}{base:Nat}{spare:Nat->Bool}{held:Bool}
theorem PF{α:Type}(n:Nat)(R:Nat->α->Prop)(h:∀i,i<n->∃x,R i x):∃xs:C_ α,xs.length=n/\∀i (U:i<xs.length),R i xs[i]:=by
 induction n with
 | zero=>exact⟨[],rfl,fun i U=>absurd U (Nat.not_lt_zero _)⟩
 | succ n eS =>
  obtain⟨xs,aF,ag⟩:=eS fun i U=>h i (by omega);obtain⟨x,uk⟩:=h n (by omega);refine⟨xs++[x],by simp[aF],fun i U=>?_⟩;by_cases ay:i<xs.length
  .rw[List.getElem_append_left ay];exact ag i ay
  .have:i=n:=by simp at U;omega
   subst this;rw[List.getElem_append_right (by omega)];simpa[aF] using uk
end
theorem aeo{H:Type}{enc:F_×B_->H}{P:D_}{w:A_}{base:Nat}{sp:Nat->Bool}{held:Bool}{fuel:Nat}{t e:F_}{n:Nat}{cs:C_ B_}{zs:C_ ByteArray}{p:C_ MemPlace}
  (aB:P.underlying t=some (.array n e))(he:P.underlying e=some .string)(fl:P.cellsOf e=1)(xI:P.cellsOf t=n)
  (h:DataW.trod enc P w base sp held fuel t cs=some (.agg (zs.map fun z=>.lit (.string z.data.toList)),p)):cs=zs.map Value.string:=by
 cases fuel with
 | zero=>simp[DataW.trod] at h
 | succ fuel =>
  simp only[DataW.trod,aB,fl,xI,Nat.mul_one] at h;split at h
  .rename_i aF;obtain⟨xs,hm,ag⟩:=Option.map_eq_some_iff.1 h;have p7:xs.map (·.1)=zs.map fun z=>(DataW.lit (.string z.data.toList):DataW H):=by
    have:=congrArg Prod.fst ag
    simpa using this
   have s5:xs.length=n:=by simpa using Lib.mapM_length hm
   have as8:zs.length=n:=by
    have:=congrArg List.length p7
    simp at this;omega
   apply List.ext_getElem?;intro i;by_cases U:i<n
   .obtain⟨b,ak,ax⟩:=Lib.mapM_at hm i i (by simp[U]);obtain⟨z,ah,rfl,_⟩:=DataW.trod_string he ax;have h1:cs[i]? = some (.string z):=by
     have:=congrArg (·[0]?) ah
     simpa[List.getElem?_take,List.getElem?_drop] using this
    have I:(xs.map (·.1))[i]? = some (DataW.lit (.string z.data.toList):DataW H):=by simp[ak]
    rw[p7] at I;simp only[List.getElem?_map,Option.map_eq_some_iff,DataW.lit.injEq,Lit.string.injEq] at I;obtain⟨acq,EM,e⟩:=I;have aI:acq=z:=by
     cases acq;cases z;simp at e;simp[e]
    simp[h1,EM,aI]
   .rw[List.getElem?_eq_none (by omega),List.getElem?_eq_none (by simp;omega)]
  .cases h
theorem at6{P:D_}{W:A_}{name:String}{zs:C_ ByteArray}{rest:C_ (String×DataW Unit)}{g:Nat}{t e:F_}{n:Nat}
  (aK:P.globalNamed name=some g)(OT:(P.globals[g]?).map (·.type)=some t)(aB:P.underlying t=some (.array n e))(he:P.underlying e=some .string)(fl:P.cellsOf e=1)(xI:P.cellsOf t=n)
  (h:laidMet P ((name,.agg (zs.map fun z=>.lit (.string z.data.toList))) :: rest) W):e0 W ⟨g,0,none⟩ (zs.map Value.string):=by
 obtain⟨da,⟨agU,ig,cs,fuel,p,q,aiW,x0,akw,a6,_,_⟩,_⟩:=h;obtain rfl:=Option.some.inj (aK.symm.trans aiW);obtain rfl:=Option.some.inj (OT.symm.trans x0);have e:=aeo aB he fl xI a6;intro j v aE
 have:=World.var?_cell aK akw j
 rw[show Addr.add ⟨g,0,none⟩ j=⟨g,j,none⟩ from by cases j<;>simp[Addr.add],this,Array.getElem?_toList.symm,e];exact aE
end bb
end
section
namespace bb
open Go Go.RowKit
theorem Ext.grown{w0 w w':A_}{r:H_ Nat}(he:Ext w0 w)(aK:w.grownBy w' r)(aL:∀k,r=some k->w0.heap.size<=k):Ext w0 w':=Below.grown he aK he.size aL
theorem anf{w w':A_}{base:Nat}{e:F_}{sz:Nat}{v:B_}{n:Nat}{xs:C_ B_}(he:Ext w w')(h:w.ownsRow base e sz v n xs):w'.ownsRow base e sz v n xs:=by
 refine⟨h.1,?_⟩;rcases h.2 with ay | ⟨g,cap,cur,rfl,ak,BG,rest⟩
 .exact .inl ay
 .exact .inr ⟨g,cap,cur,rfl,ak,he.obj BG,rest⟩
theorem ang{w:A_}{base ve:Nat}{e:F_}{sz:Nat}{v:B_}{n:Nat}{xs:C_ B_}(ak:ve<=base)(h:w.ownsRow base e sz v n xs):w.ownsRow ve e sz v n xs:=by
 refine⟨h.1,?_⟩;rcases h.2 with ay | ⟨g,cap,cur,rfl,Bu,rest⟩
 .exact .inl ay
 .exact .inr ⟨g,cap,cur,rfl,Nat.le_trans ak Bu,rest⟩
theorem aak{w:A_}{base:Nat}{e:F_}{sz:Nat}{v:B_}{n:Nat}{xs:C_ B_}(h:w.ownsRow base e sz v n xs):∃aQ cap,v = .slice aQ n cap/\n<=cap/\cap<=maxLen/\(n≠0->aQ.isSome=true)/\∀a,aQ=some a->e0 w a xs:=by
 rcases h.2 with ⟨rfl,rfl⟩ | ⟨g,cap,cur,rfl,ak,BG,h1,I,ab,aD⟩
 .exact⟨none,0,rfl,Nat.le_refl _,Nat.zero_le _,fun h=>absurd rfl h,fun a aV=>by cases aV⟩
 .exact⟨_,cap,rfl,h1,I,fun _=>rfl,fun a aV=>by injection aV with aV;subst aV;exact fun j u aE=>h.cells (g:=g) rfl j u aE⟩
theorem anh{α:Type}{enc:α->C_ B_}{w:A_}{base:Nat}{e:F_}{sz:Nat}{v:B_}{xs:C_ α}(dy:∀x,(enc x).length=sz)(h:w.ownsRow base e sz v xs.length (xs.flatMap enc)):bh sz (Flat enc) w v xs:=by
 obtain⟨aQ,cap,rfl,h1,I,ab,aD⟩:=aak h;refine⟨aQ,cap,rfl,h1,I,fun ay=>ab (by intro e;exact ay (List.eq_nil_of_length_eq_zero e)),fun a aV i U=>?_⟩;intro j u aE;have Ob:j<sz:=by rw[<-dy xs[i]];exact(List.getElem?_eq_some_iff.1 aE).1
 rw[add_add];exact aD a aV _ _ (by rw[MU dy xs i j U Ob];exact aE)
theorem AA9{P:D_}{cW:B_->A_->Prop}{w:A_}{ty e:F_}{sz b:Nat}{s:B_}{a:Addr}{m c:Nat}{t}{base n:Nat}{xs news:C_ B_}(an:w.ownsRow base e sz s n xs)(ah:e0 w a news)(aF:news.length=m*sz)
  (h1:∀u∈news,u.oneCell'=true)(my:n+m<=maxLen)(ak:(n+m)*b<=140737488355328)(lG:base<=w.heap.size)
  (hk:∀b9 w',w'.ownsRow base e sz b9 (n+m) (xs++news)->w.grownBy w' s.ownBlock->cW b9 w'):mR P ty e sz b s (.slice (some a) m c) w cW t :=
 _q fun⟨aB,i,z,U,bA,EH,D6,BW,dy⟩=>by
  obtain⟨b9,w',aL,I,ab,_⟩:=run_append_own (P:=P) w base ty ty e i z sz b aB U bA EH D6 BW dy s n xs an a m c news aF ah h1 my ak lG;exact⟨ty,b9,w',aL,hk b9 w' I ab⟩
theorem add_zero(a:Addr):a.add 0=a:=by simp[Addr.add]
theorem bh.cap{α:Type}{sz:Nat}{R:A_->Addr->α->Prop}{w:A_}{aQ:H_ Addr}{n c:Nat}{xs:C_ α}(h:bh sz R w (.slice aQ n c) xs):xs.length<=c:=by
 obtain⟨kv,cap,e,I,ab,aD,aY⟩:=h.ex;injection e with bt aI ba
 subst ba;exact I
theorem bh.take{α:Type}{sz:Nat}{R:A_->Addr->α->Prop}{w:A_}{aQ:H_ Addr}{n c:Nat}{xs:C_ α}(h:bh sz R w (.slice aQ n c) xs)(k:Nat)(hk:k<=xs.length) :
  bh sz R w (.slice (if c=0 then aQ else aQ.map (·.add (0*sz))) (k - 0) (c - 0)) (xs.take k):=by
 obtain⟨kv,cap,e,I,ab,aD,aY⟩:=h.ex;injection e with bt aI ba
 subst bt aI ba;have e:(if c=0 then aQ else aQ.map (·.add (0*sz)))=aQ:=by
  split
  .rfl
  .cases aQ with
   | none=>rfl
   | some a=>simp[add_zero]
 rw[e];refine⟨aQ,c,by simp[List.length_take,Nat.min_eq_left hk],by simp[List.length_take];omega,ab,fun ay=>aD (by intro e;subst e;simp at ay),fun a aV i U=>?_⟩;have cE:i<xs.length:=by simp[List.length_take] at U;omega
 rw[List.getElem_take];exact aY a aV i cE
theorem Wn{α:Type}{enc:α->C_ B_}{sz:Nat}(dy:∀x,(enc x).length=sz):∀(xs:C_ α) (p:Nat) (v:B_),(xs.flatMap enc)[p]? = some v->∃i j,∃h:i<xs.length,j<sz/\p=i*sz+j/\(enc xs[i])[j]? = some v
 | [],p,v,h=>by simp at h
 | x :: xs,p,v,h=>by
  rw[List.flatMap_cons] at h;by_cases ar:p<sz
  .rw[List.getElem?_append_left (by rw[dy];exact ar)] at h;exact⟨0,p,by simp,ar,by simp,h⟩
  .rw[List.getElem?_append_right (by rw[dy];omega),dy] at h;obtain⟨i,j,U,aE,e,I⟩:=Wn dy xs (p - sz) v h;exact⟨i+1,j,by simpa using U,aE,by rw[Nat.add_mul];omega,by simpa using I⟩
theorem bh.flat{α:Type}{enc:α->C_ B_}{sz:Nat}{R:A_->Addr->α->Prop}{w:A_}{a:Addr}{n c:Nat}{xs:C_ α}(dy:∀x,(enc x).length=sz)(bE:∀a x,R w a x->e0 w a (enc x))
  (h:bh sz R w (.slice (some a) n c) xs):e0 w a (xs.flatMap enc):=by
 intro p v ar;obtain⟨i,j,U,aE,rfl,I⟩:=Wn dy xs p v ar
 have:=bE _ _ (h.at i U) j v I
 rwa[add_add] at this
theorem xy{α:Type}{enc:α->C_ B_}{sz:Nat}(dy:∀x,(enc x).length=sz):∀(xs:C_ α),(xs.flatMap enc).length=xs.length*sz
 | []=>by simp
 | x :: xs=>by rw[List.flatMap_cons,List.length_append,xy dy xs,dy,List.length_cons,Nat.add_mul];omega
theorem _s{P:D_}{Q:ed->Fr->A_->Prop}{S:Fr}{w:A_}{a b:eC}{t}(N:Fr->A_->Prop)(h1:dO P a (hY N Q ⟨⟩) S w ⟨⟩)
  (I:∀aX w',(∀t,a.fG.contains t=false->aX t=S t)->N aX w'->dO P b Q aX w' ⟨⟩):dO P (.seq a b) Q S w t:=by
 unfold dO hY at *;exact pz a _ _ S w (fun e aX w' an h=>match e,h with | .normal,h=>I aX w' an h | .exit _,h=>h | .ret,h=>h | .gf _,h=>h) h1
theorem _5{P:D_}{ig:F_}{cX c6:G_}{aC:B_->Prop}{a b:Bool}{t}(h:P.underlying ig=some .bool)(hk:aC (.bool (a != b))):gA P .neq ig cX c6 (.bool a) (.bool b) aC t :=
 _N (v:=.bool (a != b)) (fun w=>by cases a<;>cases b<;>simp[eqGuard_at_bool,binOp,run_equal_bool w ig _ _ h]) hk
theorem ane{w:A_}{base:Nat}{e:F_}{sz b:Nat}(ak:base<=b)(h:w.heap[b]? = some (.cells #[] e)):w.ownsRow base e sz (.slice (some ⟨b,0,none⟩) 0 0) 0 [] :=
 ⟨by simp,.inr ⟨b,0,#[],rfl,ak,h,Nat.le_refl _,Nat.zero_le _,by simp,by simp⟩⟩
end bb
end
section
namespace bb
open Go Go.RowKit
class qj{α:Type}(R:World->Addr->α->Prop)(enc:outParam (α->List Value)):Prop where
 Ma:∀w a x,R w a x->e0 w a (enc x)
instance ata{α:Type}(enc:α->List Value):qj (Flat enc) enc:=⟨fun _ _ _ h=>h⟩
section
variable{P:Program}{Q:ed->Fr->World->Prop}{aC:Value->Prop}{K:Value->World->Prop}{S:Fr}{w w0:World}
theorem _K{b j:Nat}{c:C_ B_}{ty:F_}{f:Nat×Nat}{v:B_}{t}(ak:w0.heap[b]? = some (.cells c.toArray ty f))(he:Ext w0 w)(aE:c[j]? = some v)(hk:aC v):rm (.pointer (some (Addr.add ⟨b,0,none⟩ j))) w aC t :=
 M_ (fQ (he.obj ak) (by simpa using aE)) hk
theorem _D{b:Nat}{c:C_ B_}{ty:F_}{f:Nat×Nat}{v:B_}{t}(ak:w0.heap[b]? = some (.cells c.toArray ty f))(he:Ext w0 w)(aE:c[0]? = some v)(hk:aC v):rm (.pointer (some ⟨b,0,none⟩)) w aC t :=
 M_ (A6 (he.obj ak) (by simpa using aE)) hk
theorem R_{b n:Nat}{c:C_ B_}{ty:F_}{f:Nat×Nat}{t}(ak:w0.heap[b]? = some (.cells c.toArray ty f))(he:Ext w0 w)(ay:c.length=n)(hk:aC (.agg c.toArray)):u2 n (.pointer (some ⟨b,0,none⟩)) w aC t :=
 _B (hA (he.obj ak)) ay hk
theorem _O{α:Type}{sz i j n c:Nat}{R:A_->Addr->α->Prop}{enc:α->C_ B_}[qj R enc]{a:Addr}{xs:C_ α}{v:B_}{t}(aF:bh sz R w0 (.slice (some a) n c) xs)(he:Ext w0 w)(U:i<xs.length)(aE:(enc xs[i])[j]? = some v)
  (hk:aC v):rm (.pointer (some ((a.add (i*sz)).add j))) w aC t:=M_ (he.cell (qj.Ma _ _ _ (aF.at i U) j v aE)) hk
theorem _P{α:Type}{i n c:Nat}{R:A_->Addr->α->Prop}{enc:α->C_ B_}[qj R enc]{a:Addr}{xs:C_ α}{v:B_}{t}(aF:bh 1 R w0 (.slice (some a) n c) xs)(he:Ext w0 w)(U:i<xs.length)(aE:(enc xs[i])[0]? = some v)
  (hk:aC v):rm (.pointer (some (a.add (i*1)))) w aC t:=by
 have h:=qj.Ma (R:=R) _ _ _ (aF.at i U) 0 v aE;rw[add_zero] at h;exact M_ (he.cell h) hk
theorem _Q{α:Type}{sz i n c m:Nat}{R:A_->Addr->α->Prop}{enc:α->C_ B_}[qj R enc]{a:Addr}{xs:C_ α}{t}(aF:bh sz R w0 (.slice (some a) n c) xs)(he:Ext w0 w)(U:i<xs.length)(ay:(enc xs[i]).length=m)
  (hk:aC (.agg (enc xs[i]).toArray)):u2 m (.pointer (some (a.add (i*sz)))) w aC t:=_B ((qj.Ma _ _ _ (aF.at i U)).ext he) ay hk
theorem _R{p:Prop}[Decidable p]{A B:Prop}{t}(h:p)(hk:A):ky (.bool (decide p)) A B t:=I_ (fun _=>hk) fun bd=>absurd h bd
theorem _S{p:Prop}[Decidable p]{A B:Prop}{t}(h:¬p)(hk:B):ky (.bool (decide p)) A B t:=I_ (fun bd=>absurd bd h) fun _=>hk
theorem _G{u:Bool}{A B:Prop}{t}(h:u=true)(hk:A):ky (.bool u) A B t:=N_ (fun _=>hk) fun bd=>by rw[h] at bd;cases bd
theorem _H{u:Bool}{A B:Prop}{t}(h:u=false)(hk:B):ky (.bool u) A B t:=N_ (fun bd=>by rw[h] at bd;cases bd) fun _=>hk
theorem _T{sz:Nat}{a:Addr}{len cap:Nat}{k:IntKind}{i:Nat}{t}(h:i<len)(hk:aC (.pointer (some (a.add (i*sz))))):Ax sz (.slice (some a) len cap) (.int k (i:Int)) aC t:=K_ i rfl h hk
theorem _L{d n:Nat}{ty:F_}{cs:Array B_}{x:G_}{r:C_ Step}{cW:Fr->A_->Prop}{vs:C_ B_}{t1 t}(ag:∀v,aS (bW S d v) x = .agg vs.toArray)(ay:vs.length=n)(ah:cs.size=n)(h1:∀u∈vs,u.oneCell'=true)
  (hk:∀w1 b,w.heap.size<=b->Ext w w1->w1.heap[b]? = some (.cells vs.toArray ty)->ka P r (bW S d (.pointer (some ⟨b,0,none⟩))) w1 cW ⟨⟩) :
  yE ty cs w (fun v w'=>ka P (⟨none,none,.e (.hz n (.tmp d) x)⟩ :: r) (put S (some d) v) w' cW t1) t:=by
 refine O_ fun w1 b ak he cU=>?_;simp -dsimp only[RA,RB,RC,RD,RE,RF,RG,RH,RI,RJ,RL,RM,RN,RO,RP,RQ,RR,RS,RT,cB,RU,RV,RW,RX,RY,RZ,R0,R1,R2,R3,tB,R6,R7,R8,R9,Sa,Sb,Sc,Sd,Se,yz,jt,c7,fv,eA,jM,iM,gK,ih,gS,Si,Sj,Sk,Sl,Sm,Sn,Sp,Sq,Sr,Ss,St,H1,Su,Sv,Sw,Sx,Sy,Sz,SA,SB,SC,SD,SE,SF,SG,SH,SI,SJ,SK,SL,SM,SN,SO,SP,SQ,SR,SS,SU,SV,SX,S0,S1,M2,S2,S3,S4,S5,S6,S7,S8,S9,Ta,Tb,Tc,Td,Te,Tf,Tg,Th,Ti,Tk,Tl,Tm,Tn,To,Tp,Tq,Tr,Ts,Tt,Tu,Tv,Tw,Tx,Ty,Tz,TA,TB,TC,TD,TF,C1,C2,TG,TH,TI,C3,AG,TJ,TK,TQ,TR,TS,TT,TU,TV,TW,TX,TY,TZ,T0,T1,T2,T3,T4,T5,T6,T7,T8,T9,Ua,Ub,Uc,Ud,Ue,Uf,Ug,Uh,Ui,Uj,Uk,iy,eP,nN,AM,pL,k2,Nat.reduceAdd,Nat.reduceEqDiff,reduceIte,reduceCtorEq,dd,ag];refine T_ (cs:=vs.toArray) cU ah (by simpa using ay) (by simpa using h1) fun aH hw av=>?_;exact hk aH b ak (hw.ext he ak) av
theorem _i{b:eC}{t}(i N:Nat)(iO:Nat->Fr->A_->Prop)(N5:S i = .int .i64 0)(af:iO 0 S w)
  (aL:∀(k:Nat) aX w',(∀t,b.fG.contains t=false->aX t=S t)->k<=N->aX i = .int .i64 k->iO k aX w' ->
   dO P b (hY (fun fE bK=>k<N/\fE i = .int .i64 ((k:Int)+1)/\iO (k+1) fE bK) Q ⟨⟩) aX w' ⟨⟩):yB P b Q S w t:=by
 refine Z_ (fun S w => ∃k:Nat,k<=N/\S i = .int .i64 k/\iO k S w) (fun S _=>(N - intOf (S i)).toNat) ⟨0,Nat.zero_le _,by simpa using N5,af⟩ ?_;rintro aX w' bZ ⟨k,hk,U,aE⟩;have h:=aL k aX w' bZ hk U aE;unfold dO hY at *;refine pz b _ _ aX w' (fun e fE bK _ h=>?_) h
 match e,h with
 | .normal,⟨h1,I,ab⟩=>exact⟨⟨k+1,h1,by simpa using I,ab⟩,by simp[U,I,intOf];omega⟩
 | .exit _,h=>exact h
 | .ret,h=>exact h
 | .gf _,h=>exact h
theorem _I{KW:A_->Prop}{d:TypeDesc}{r:Nat}{k v:B_}{es:Array MapEntry}{c:Nat}{t}(h1:w.heap[r]? = some (.map es c))(I:Instr.findNow d k es.toList 0=some none)
  (hk:∀w1,dn r w w1->w1.heap[r]? = some (.map (es.push { key:=k,val:=v,born:=c }) (c+1))->KW w1):yC d (.map (some r)) k v w KW t :=
 _r h1 I (hk _ (dn.fr _ _ _) (Cp (cy h1)))
theorem _M{sz:Nat}{aQ:H_ Addr}{n cap:Nat}{x:G_}{k:IntKind}{t}(h:Nat)(ag:aS S x = .int k (h:Int))(cU:h<=cap)(hk:aC (.slice aQ h cap)):su S sz (.slice aQ n cap) none (some x) none aC t:=by
 refine _C 0 h cap (by simp[eG]) (by simp[eG,ag]) (by simp[eG]) ⟨Nat.zero_le _,cU,Nat.le_refl _⟩ (by simp) ?_;have e:(if cap=0 then aQ else aQ.map (·.add (0*sz)))=aQ:=by
  split
  .rfl
  .cases aQ with
   | none=>rfl
   | some a=>simp[add_zero]
 rw[e];exact hk
theorem _6{sz:Nat}{aQ:H_ Addr}{n cap:Nat}{x:G_}{k:IntKind}{t}(l:Nat)(ag:aS S x = .int k (l:Int))(aF:l<=n/\n<=cap)(hk:aC (.slice (if cap=l then aQ else aQ.map (·.add (l*sz))) (n - l) (cap - l))) :
  su S sz (.slice aQ n cap) (some x) none none aC t :=
 _C l n cap (by simp[eG,ag]) (by simp[eG]) (by simp[eG]) ⟨aF.1,aF.2,Nat.le_refl _⟩ (by simp) hk
end
theorem bh.head{α:Type}{sz:Nat}{R:A_->Addr->α->Prop}{w:A_}{aQ:H_ Addr}{n c:Nat}{xs:C_ α}(h:bh sz R w (.slice aQ n c) xs)(k:Nat)(hk:k<=xs.length):bh sz R w (.slice aQ k c) (xs.take k):=by
 have:=h.take k hk
 have e:(if c=0 then aQ else aQ.map (·.add (0*sz)))=aQ:=by
  split
  .rfl
  .cases aQ with
   | none=>rfl
   | some a=>simp[add_zero]
 rw[e] at this;exact this
theorem bh.len{α:Type}{sz:Nat}{R:A_->Addr->α->Prop}{w:A_}{aQ:H_ Addr}{n c:Nat}{xs:C_ α}(h:bh sz R w (.slice aQ n c) xs):n=xs.length/\n<=c/\c<=maxLen:=by
 obtain⟨kv,cap,e,I,ab,_⟩:=h.ex;injection e with bt aI ba
 subst aI ba;exact⟨rfl,I,ab⟩
theorem bh.tail{α:Type}{sz:Nat}{R:A_->Addr->α->Prop}{w:A_}{aQ:H_ Addr}{n c:Nat}{xs:C_ α}(h:bh sz R w (.slice aQ n c) xs)(l:Nat)(aF:l<=xs.length) :
  bh sz R w (.slice (if c=l then aQ else aQ.map (·.add (l*sz))) (n - l) (c - l)) (xs.drop l):=by
 obtain⟨bt,aI,ba⟩:=h.len;subst bt;obtain⟨kv,cap,e,I,ab,aD,aY⟩:=h.ex;injection e with bt aI ba
 subst bt ba;refine⟨_,_,by rw[List.length_drop],by rw[List.length_drop];omega,by omega,fun ay=>?_,fun a aV i U=>?_⟩
 .have:xs≠[]:=by intro e;subst e;simp at ay
  have:=aD this
  split
  .exact this
  .cases aQ with
   | none=>cases this
   | some a=>rfl
 .have cE:l+i<xs.length:=by rw[List.length_drop] at U;omega
  rw[if_neg (by omega)] at aV;cases aQ with
  | none=>cases aV
  | some b =>
   simp only[Option.map_some,Option.some.injEq] at aV;subst aV;rw[add_add,<-Nat.add_mul,List.getElem_drop];exact aY b rfl _ cE
structure Mod(A:Nat->Prop)(w w':World):Prop where
 os:w'.os=w.os
 tape:w'.tape=w.tape
 output:w'.output=w.output
 size:w.heap.size<=w'.heap.size
 block:∀k,k<w.heap.size->¬A k->w'.heap[k]? = w.heap[k]?
theorem Mod.refl(A:Nat->Prop)(w:A_):Mod A w w:=⟨rfl,rfl,rfl,Nat.le_refl _,fun _ _ _=>rfl⟩
theorem Mod.trans{A:Nat->Prop}{a b c:A_}(h:Mod A a b)(k:Mod A b c):Mod A a c :=
 ⟨k.os.trans h.os,k.tape.trans h.tape,k.output.trans h.output,Nat.le_trans h.size k.size,fun i U ay=>(k.block i (Nat.lt_of_lt_of_le U h.size) ay).trans (h.block i U ay)⟩
theorem Mod.then{A B:Nat->Prop}{a b c:A_}(h:Mod B a b)(k:Mod A b c)(an:∀i,i<a.heap.size->A i->B i):Mod B a c :=
 ⟨k.os.trans h.os,k.tape.trans h.tape,k.output.trans h.output,Nat.le_trans h.size k.size,fun i U ay=>(k.block i (Nat.lt_of_lt_of_le U h.size) fun e=>ay (an i U e)).trans (h.block i U ay)⟩
theorem Ext.mod{A:Nat->Prop}{w w':A_}(h:Ext w w'):Mod A w w':=⟨h.os,h.tape,h.output,h.size,fun _ hk _=>h.heap hk⟩
theorem dn.mod{A:Nat->Prop}{b:Nat}{w w':A_}(h:dn b w w')(ak:A b):Mod A w w':=⟨h.os,h.tape,h.output,by rw[h.size];exact Nat.le_refl _,fun k _ ay=>h.block k fun e=>ay (e ▸ ak)⟩
theorem Mod.grown{A:Nat->Prop}{w w':A_}{row:H_ Nat}(h:w.grownBy w' row)(aL:∀k,row=some k->A k):Mod A w w':=⟨h.os,h.tape,h.output,h.size,fun k hk ay=>h.block k hk fun e=>ay (aL k e.symm)⟩
theorem Mod.ext{A:Nat->Prop}{w0 w w':A_}(h:Mod A w w')(he:Ext w0 w)(dh:∀k,k<w0.heap.size->¬A k):Ext w0 w' :=
 ⟨h.os.trans he.os,h.tape.trans he.tape,h.output.trans he.output,Nat.le_trans he.size h.size,fun k hk=>(h.block k (Nat.lt_of_lt_of_le hk he.size) (dh k hk)).trans (he.heap hk)⟩
theorem Mod.obj{A:Nat->Prop}{w w':A_}{k:Nat}{ad:Obj}(h:Mod A w w')(ay:¬A k)(hk:w.heap[k]? = some ad):w'.heap[k]? = some ad:=(h.block k (cy hk) ay).trans hk
theorem Mod.Al{A B:Nat->Prop}{w w':A_}(h:Mod A w w')(an:∀k,A k->B k):Mod B w w':=⟨h.os,h.tape,h.output,h.size,fun k hk ay=>h.block k hk fun e=>ay (an k e)⟩
def aW{α:Type}(enc:α->C_ B_)(e:F_)(sz base:Nat)(w:A_)(v:B_)(xs:C_ α):Prop:=w.ownsRow base e sz v xs.length (xs.flatMap enc)
section
variable{α:Type}{enc:α->List Value}{e:TypeId}{sz base:Nat}{w w':World}{v:Value}{xs:List α}
theorem aW.nil(enc:α->C_ B_)(e:F_)(sz base:Nat)(w:A_):aW enc e sz base w (.slice none 0 0) []:=World.ownsRow_nil w base e sz
theorem aW.ext(he:Ext w w')(h:aW enc e sz base w v xs):aW enc e sz base w' v xs:=anf he h
theorem aW.wr{b:Nat}(hw:dn b w w')(ak:b<base)(h:aW enc e sz base w v xs):aW enc e sz base w' v xs :=
 World.ownsRow.kept (row:=some b) h ⟨hw.os,hw.tape,hw.output,by rw[hw.size];exact Nat.le_refl _,fun k _ hk=>hw.block k (fun e=>hk (by rw[e]))⟩ (by
  cases aG:v.ownBlock with
  | none=>exact .inl rfl
  | some k=>exact .inr (by have:=(World.ownsRow.lt h k aG).1;intro e;injection e with e;omega))
theorem aW.lt(h:aW enc e sz base w v xs):∀k,v.ownBlock=some k->base<=k/\k<w.heap.size:=World.ownsRow.lt h
theorem aW.form(h:aW enc e sz base w v xs):∃aQ cap,v = .slice aQ xs.length cap/\xs.length<=cap/\cap<=maxLen:=by
 obtain⟨aQ,cap,h1,I,ab,_⟩:=aak h;exact⟨aQ,cap,h1,I,ab⟩
theorem aW.jH(dy:∀x,(enc x).length=sz)(h:aW enc e sz base w v xs):bh sz (Flat enc) w v xs:=anh dy h
theorem aW.head{aQ:H_ Addr}{n cap:Nat}(dy:∀x,(enc x).length=sz)(h:aW enc e sz base w (.slice aQ n cap) xs)(k:Nat)(hk:k<=xs.length):aW enc e sz base w (.slice aQ k cap) (xs.take k):=by
 have lI:∀(xs:C_ α) (k:Nat),(xs.flatMap enc).take (k*sz)=(xs.take k).flatMap enc:=by
  intro xs
  induction xs with
  | nil=>intro k;simp
  | cons x xs eS =>
   intro k;cases k with
   | zero=>simp
   | succ k =>
    simp only[List.flatMap_cons,List.take_succ_cons];rw[List.take_append,dy,show(k+1)*sz - sz=k*sz from by rw[Nat.add_mul];omega,eS,List.take_of_length_le (by rw[dy,Nat.add_mul];omega)]
 have aF:(xs.take k).length=k:=by simp[List.length_take];omega
 refine⟨by rw[aF,xy dy,aF],?_⟩;rcases h.2 with ⟨h1,I⟩ | ⟨g,pN,cur,h1,I,ab,aD,aY,bx,b1⟩
 .injection h1 with bt aI ba
  subst bt ba
  have:xs.length=0:=I
  exact .inl ⟨by congr 1;omega,by omega⟩
 .injection h1 with bt aI ba
  subst bt ba;refine .inr ⟨g,cap,cur,by rw[aF],I,ab,by omega,aY,bx,?_⟩;rw[aF,<-lI,<-b1,List.take_take,Nat.min_eq_left (Nat.mul_le_mul_right _ hk)]
theorem _U{P:D_}{cW:B_->A_->Prop}{ty:F_}{b:Nat}{s:B_}{a:Addr}{m c:Nat}{ys:C_ α}{t}(an:aW enc e sz base w s xs)(dy:∀x,(enc x).length=sz)(ah:e0 w a (ys.flatMap enc))(hm:m=ys.length)
  (h1:∀y,∀u∈enc y,u.oneCell'=true)(ak:(xs.length+ys.length)*b<=140737488355328)(my:xs.length+ys.length<=maxLen)(lG:base<=w.heap.size)
  (hk:∀b9 w',aW enc e sz base w' b9 (xs++ys)->w.grownBy w' s.ownBlock->cW b9 w'):mR P ty e sz b s (.slice (some a) m c) w cW t:=by
 subst hm;refine AA9 an ah (xy dy ys) (fun u hu=>by obtain⟨y,_,bS⟩:=List.mem_flatMap.1 hu;exact h1 y u bS) my ak lG fun b9 w' mF aK=>hk b9 w' ?_ aK;unfold aW;rw[List.length_append,List.flatMap_append];exact mF
end
end bb
end
section
namespace bb
open Go Go.RowKit
section
variable{P:Program}{cW:Value->World->Prop}{α:Type}{enc:α->List Value}{e:TypeId}{sz base ve:Nat}{w:World}{s x:Value}{xs ys:List α}
theorem _j{ty:F_}{b:Nat}{t}(an:aW enc e sz base w s xs)(ag:aW enc e sz ve w x ys)(dy:∀x,(enc x).length=sz)(h1:∀y,∀u∈enc y,u.oneCell'=true)(ak:(xs.length+ys.length)*b<=140737488355328)
  (my:xs.length+ys.length<=maxLen)(lG:base<=w.heap.size)(hk:∀b9 w',aW enc e sz base w' b9 (xs++ys)->w.grownBy w' s.ownBlock->cW b9 w'):mR P ty e sz b s x w cW t:=by
 rcases ag.2 with ⟨rfl,af⟩ | ⟨g,cap,cur,rfl,Il,aK,ab,aD,aY,bx⟩
 .have:ys=[]:=List.eq_nil_of_length_eq_zero af
  subst this;rw[List.append_nil] at hk;refine _q fun⟨aB,i,z,U,bA,EH,D6,BW,OR⟩=>?_;exact⟨ty,s,w,run_append_owned_none w base ty ty e i sz aB U s _ _ an,hk s w an ⟨rfl,rfl,rfl,Nat.le_refl _,fun _ _ _=>rfl⟩⟩
 .exact _U an dy (fun j u aE=>World.ownsRow.cells ag (g:=g) rfl j u aE) rfl h1 ak my lG hk
theorem aW.empty{b:Nat}(ak:base<=b)(h:w.heap[b]? = some (.cells #[] e)):aW enc e sz base w (.slice (some ⟨b,0,none⟩) 0 0) ([]:C_ α):=ane ak h
theorem aW.low{v:B_}(ak:ve<=base)(h:aW enc e sz base w v xs):aW enc e sz ve w v xs:=ang ak h
end
end bb
end
section
namespace bb
open Go
def ae(n:Nat):G_:=.tmp n
def cf(n:Int):G_:=.const (.int .i64 n)
def js(b:Bool):G_:=.const (.bool b)
def bD(d:Nat)(i:w5):Step:=⟨some d,none,.p i⟩
def ez(d:Nat)(i:u5):Step:=⟨some d,none,.r i⟩
def bN(d:Nat)(i:sf):Step:=⟨some d,none,.e i⟩
def cb(d:Nat)(i:qi):Step:=⟨some d,none,.c i⟩
def e6(i:sf):Step:=⟨none,none,.e i⟩
def bT(j:Nat)(b:Bool)(s:Step):Step:=⟨s.dst,some (j,b),s.i⟩
def aq(d n:Nat):Step:=⟨some d,none,.p (.mM (.tmp n))⟩
def fe(d:Nat)(x:G_):Step:=⟨some d,none,.p (.mM x)⟩
def bl(d k n:Nat):Step:=⟨some d,none,.p (.jh k (.tmp n))⟩
def bp(d n:Nat):Step:=⟨some d,none,.r (.ld (.tmp n))⟩
def dE(d k a i:Nat):Step:=⟨some d,none,.p (.mH k (.tmp a) (.tmp i))⟩
def ys(a v:Nat):Step:=⟨none,none,.e (.st (.tmp a) (.tmp v))⟩
def j2(d n:Nat):Step:=⟨some d,none,.p (.zN (.tmp n))⟩
def cv:B_:=.int .i64 0
def cp:B_:=.slice none 0 0
def qh:B_:=.string ⟨#[]⟩
def fU(op:BinOp)(t:F_)(d a b:Nat):Step:=⟨some d,none,.p (.bin op t (.tmp a) (.tmp b))⟩
def gZ(op:BinOp)(t:F_)(d a:Nat)(n:Int):Step:=⟨some d,none,.p (.bin op t (.tmp a) (.const (.int .i64 n)))⟩
def oR(d a b:Nat):Step:=⟨some d,none,.p (.pick (.tmp a) (.tmp b) (.const (.bool false)))⟩
def oj(d a b:Nat):Step:=⟨some d,none,.p (.pick (.tmp a) (.const (.bool true)) (.tmp b))⟩
def cJ(b5:C_ Step)(b:eC):eC:=.seq (.dk b5) b
def jL(n:Nat)(a b:eC):eC:=.cond (.tmp n) a b
def h0(d k n:Nat):Step:=⟨some d,none,.r (.dY k (.tmp n))⟩
def pC(k a v:Nat):Step:=⟨none,none,.e (.hz k (.tmp a) (.tmp v))⟩
def Lg(d n:Nat):Step:=⟨some d,none,.p (.e3 (.tmp n))⟩
def CE(d n i:Nat):Step:=⟨some d,none,.p (.ext (.tmp n) i)⟩
def nC(d:Nat)(f:E_)(l:C_ Nat):Step:=⟨some d,none,.c (.fn f (l.map .tmp))⟩
def uS(n m:Nat)(b:eC):eC:=.seq (.cond (.tmp n) .skip (.exit m)) b
def rf(n:Nat)(s:Step):Step:=bT n true s
def lz(n:Nat)(s:Step):Step:=bT n false s
def wO(s:Step)(k:eJ):eJ:=.take s k
def uR(t:F_)(a b:Nat):eC:=.dk [⟨some a,none,.p (.bin .add t (.tmp b) (.const (.int .i64 1)))⟩,⟨some b,none,.p (.mM (.tmp a))⟩]
theorem nO{A B:Prop}(k:B)(h:B->A:=by
 intro q
 try dsimp only[ae,cf,js,bD,ez,bN,cb,e6,bT,aq,fe,bl,bp,dE,ys,j2,cv,cp,qh,fU,gZ,oR,oj,cJ,jL,h0,pC,Lg,CE,nC,uS,uR,rf,lz,wO,List.map_cons,List.map_nil]
 exact q):A:=h k
end bb
end