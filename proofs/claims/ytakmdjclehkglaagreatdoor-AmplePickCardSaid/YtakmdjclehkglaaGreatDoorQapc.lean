/- Parts. -/
import Derived.Test.YtakmdjclehkglaaGreatDoorQapb
import Derived.RowKit
import Derived.ChangeSame
import Derived.Carry
import Derived.OpenShut
import Derived.Deep.Slices
import Derived.Deep.Fields
import Derived.Lib.LaidTab
import Derived.Laws.OwnMore
import Derived.Lib.RuneCount
import Derived.Lib.TrimU
set_option linter.all false
namespace a8
open Go Go.RowKit
structure Tok{α:Type}(a:α):Type where
def eZ(P:D_)(c:e0)(Q:fK->Fr->A_->Prop)(S:Fr)(w:A_)(_:Tok (P,c,Q)):Prop:=dV P c Q S w
def qu(P:D_)(cg:C_ Step)(S:Fr)(w:A_)(K:Fr->A_->Prop)(_:Tok (P,cg,K)):Prop:=steps P cg S w K
def r6(P:D_)(cg:C_ Step)(S:Fr)(w:A_)(K:Fr->Prop)(_:Tok (P,cg,K)):Prop:=uq P cg S w K
def k8(P:D_)(w0:A_)(x:eo)(S:Fr)(w:A_)(K:Fr->A_->Prop)(_:Tok (P,w0,x,K)):Prop:=nE P w0 x S w K
def Ns(P:D_)(w0:A_)(s:Step)(S:Fr)(K:Fr->Prop)(_:Tok (P,w0,s,K)):Prop:=HB P w0 s S K
def CD(P:D_)(s:Step)(S:Fr)(w:A_)(K:Fr->A_->Prop)(_:Tok (P,s,K)):Prop:=ns P s S w K
def Cc(P:D_)(w0:A_)(s:Step)(S:Fr)(w:A_)(K:Fr->A_->Prop)(_:Tok (P,w0,s,K)):Prop:=EB P w0 s S w K
def zG(P:D_)(i:Ins)(S:Fr)(w:A_)(K:B_->A_->Prop)(_:Tok (P,i,K)):Prop:=kV P i S w K
def vV(P:D_)(i:Ins)(S:Fr)(w:A_)(K:B_->A_->Prop)(_:Tok (P,i,K)):Prop:=mD P i S w K
def Ee(P:D_)(i:rl)(S:Fr)(w:A_)(K:B_->A_->Prop)(_:Tok (P,i,K)):Prop:=Vd P i S w K
def BP(P:D_)(x:B_)(l:C_ B_)(w:A_)(K:B_->A_->Prop)(_:Tok (P,K)):Prop:=Ve P x l w K
def yd(P:D_)(i:Ins)(S:Fr)(w:A_)(K:B_->Prop)(_:Tok (P,i,K)):Prop:=mE P i S w K
def Et(P:D_)(i:rl)(S:Fr)(w:A_)(K:B_->Prop)(_:Tok (P,i,K)):Prop:=aga P i S w K
def Ow(P:D_)(f:E_)(l:C_ B_)(w:A_)(K:B_->Prop)(_:Tok (P,f,K)):Prop:=WO P f l w K
def Il(P:D_)(x:B_)(l:C_ B_)(w:A_)(K:B_->Prop)(_:Tok (P,K)):Prop:=agc P x l w K
def jl(P:D_)(i:vX)(S:Fr)(K:B_->Prop)(_:Tok (P,i,K)):Prop:=nJ P i S K
def ye(i:vZ)(S:Fr)(w:A_)(K:B_->Prop)(_:Tok (i,K)):Prop:=oD i S w K
def pS(P:D_)(i:s9)(S:Fr)(w:A_)(K:B_->A_->Prop)(_:Tok (P,i,K)):Prop:=oz P i S w K
def Ed(P:D_)(i:rl)(S:Fr)(w:A_)(K:B_->A_->Prop)(_:Tok (P,i,K)):Prop:=sf P i S w K
def kz(P:D_)(op:BinOp)(t:F_)(ez:G_)(eM:G_)(x:B_)(y:B_)(K:B_->Prop)(_:Tok (P,op,t,ez,eM,K)):Prop:=nf P op t ez eM x y K
def Io(op:UnOp)(x:B_)(K:B_->Prop)(_:Tok (op,K)):Prop:=B7 op x K
def NV(k:IntKind)(x:B_)(K:B_->Prop)(_:Tok (k,K)):Prop:=HZ k x K
def uM(k:IntKind)(n:Int)(K:B_->Prop)(_:Tok (k,K)):Prop:=ti k n K
def pQ(v:B_)(A:Prop)(B:Prop)(_:Tok (A,B)):Prop:=ng v A B
def rm(v:B_)(b:Bool)(A:Prop)(B:Prop)(C:Prop)(_:Tok (b,A,B,C)):Prop:=mC v b A B C
def N3(off:Nat)(x:B_)(K:B_->Prop)(_:Tok (off,K)):Prop:=H4 off x K
def El(sz:Nat)(x:B_)(i:B_)(K:B_->Prop)(_:Tok (sz,K)):Prop:=BT sz x i K
def N7(len:Nat)(sz:Nat)(x:B_)(i:B_)(K:B_->Prop)(_:Tok (len,sz,K)):Prop:=N6 len sz x i K
def Ob(x:B_)(i:B_)(K:B_->Prop)(_:Tok (K)):Prop:=Oa x i K
def N9(len:Nat)(x:B_)(i:B_)(K:B_->Prop)(_:Tok (len,K)):Prop:=N8 len x i K
def N5(off:Nat)(x:B_)(K:B_->Prop)(_:Tok (off,K)):Prop:=H6 off x K
def N4(off:Nat)(n:Nat)(x:B_)(K:B_->Prop)(_:Tok (off,n,K)):Prop:=H5 off n x K
def NT(S:Fr)(z:C_ B_)(pl:C_ (Nat×Nat))(dx:C_ (Nat×G_))(K:B_->Prop)(_:Tok (z,pl,dx,K)):Prop:=NS S z pl dx K
def th(S:Fr)(sz:Nat)(x:B_)(aV:H_ G_)(U:H_ G_)(mx:H_ G_)(K:B_->Prop)(_:Tok (sz,aV,U,mx,K)):Prop:=OB S sz x aV U mx K
def OA(S:Fr)(x:B_)(aV:H_ G_)(U:H_ G_)(K:B_->Prop)(_:Tok (aV,U,K)):Prop:=Oz S x aV U K
def Ek(x:B_)(i:Nat)(K:B_->Prop)(_:Tok (i,K)):Prop:=x4 x i K
def Og(x:B_)(K:B_->Prop)(_:Tok (K)):Prop:=Ic x K
def Od(x:B_)(K:B_->Prop)(_:Tok (K)):Prop:=Ib x K
def NU(x:B_)(K:B_->Prop)(_:Tok (K)):Prop:=HY x K
def Oi(x:B_)(y:B_)(K:B_->Prop)(_:Tok (K)):Prop:=Ig x y K
def Oj(x:B_)(y:B_)(K:B_->Prop)(_:Tok (K)):Prop:=Ih x y K
def Ii(x:B_)(K:B_->Prop)(_:Tok (K)):Prop:=zI x K
def uD(x:B_)(w:A_)(K:B_->Prop)(_:Tok (K)):Prop:=Ia x w K
def x8(n:Nat)(x:B_)(w:A_)(K:B_->Prop)(_:Tok (n,K)):Prop:=H9 n x w K
def En(d:TypeDesc)(z:B_)(ok:Bool)(m:B_)(k:B_)(w:A_)(K:B_->Prop)(_:Tok (d,z,ok,K)):Prop:=Oh d z ok m k w K
def Of(m:B_)(w:A_)(K:B_->Prop)(_:Tok (K)):Prop:=Oe m w K
def sl(x:B_)(v:B_)(w:A_)(K:A_->Prop)(_:Tok (K)):Prop:=wa x v w K
def B6(n:Nat)(x:B_)(v:B_)(w:A_)(K:A_->Prop)(_:Tok (n,K)):Prop:=B5 n x v w K
def Eo(e:F_)(sz:Nat)(b:Nat)(z:B_)(l:B_)(c:B_)(w:A_)(K:B_->A_->Prop)(_:Tok (e,sz,b,z,K)):Prop:=Ol e sz b z l c w K
def HU(S:Fr)(e:F_)(len:Nat)(sz:Nat)(z:C_ B_)(dx:C_ (Nat×G_))(w:A_)(K:B_->A_->Prop)(_:Tok (e,len,sz,z,dx,K)):Prop:=HT S e len sz z dx w K
def mw(P:D_)(t:F_)(e:F_)(sz:Nat)(b:Nat)(s:B_)(x:B_)(w:A_)(K:B_->A_->Prop)(_:Tok (P,t,e,sz,b,K)):Prop:=zC P t e sz b s x w K
def BX(d:TypeDesc)(m:B_)(k:B_)(v:B_)(w:A_)(K:A_->Prop)(_:Tok (d,K)):Prop:=Om d m k v w K
def Ot(x:B_)(w:A_)(K:B_->A_->Prop)(_:Tok (K)):Prop:=Oq x w K
def Oy(x:B_)(w:A_)(K:B_->A_->Prop)(_:Tok (K)):Prop:=WZ x w K
def uH(P:D_)(op:Op)(ty:F_)(S:Fr)(w:A_)(K:B_->A_->Prop)(_:Tok (P,op,ty,K)):Prop:=WX P op ty S w K
def HX(P:D_)(f:E_)(l:C_ B_)(w:A_)(K:B_->A_->Prop)(_:Tok (P,f,K)):Prop:=HW P f l w K
def OC(P:D_)(f:E_)(l:C_ B_)(w:A_)(K:B_->A_->Prop)(Z:C_ PanicEntry->A_->Prop)(_:Tok (P,f,K,Z)):Prop:=zS P f l w K Z
def BN(P:D_)(x:B_)(m:String)(l:C_ B_)(w:A_)(K:B_->A_->Prop)(_:Tok (P,m,K)):Prop:=Ef P x m l w K
def WQ(P:D_)(x:B_)(m:String)(l:C_ B_)(w:A_)(K:B_->Prop)(_:Tok (P,m,K)):Prop:=agb P x m l w K
def Ov(v:B_)(Z:C_ PanicEntry->Prop)(_:Tok (Z)):Prop:=vY v Z
def x0(P:D_)(x:B_)(l:C_ B_)(w:A_)(K:B_->A_->Prop)(_:Tok (P,K)):Prop:=BO P x l w K
def Ep(t:F_)(cs:Array B_)(w:A_)(K:B_->A_->Prop)(_:Tok (t,K)):Prop:=af2 t cs w K
def Oo(w:A_)(K:B_->A_->Prop)(_:Tok (K)):Prop:=af1 w K
def BV(P:D_)(b:e0)(Q:fK->Fr->A_->Prop)(S:Fr)(w:A_)(_:Tok (P,b,Q)):Prop:=V8 P b Q S w
def ou(r:C_ nk)(S:Fr)(w:A_)(K:C_ B_->Prop)(_:Tok (r,K)):Prop:=qp r S w K
def jD(N:Fr->A_->Prop)(Q:fK->Fr->A_->Prop)(_:Tok (N,Q)):fK->Fr->A_->Prop:=vM N Q
def yn(i:Nat)(Q:fK->Fr->A_->Prop)(_:Tok (i,Q)):fK->Fr->A_->Prop:=Cf i Q
def tA(r:C_ nk)(R:B_->A_->Prop)(_:Tok (r,R)):fK->Fr->A_->Prop:=E9 r R
def Cv(r:C_ nk)(R:B_->A_->Prop)(Z:C_ PanicEntry->A_->Prop)(_:Tok (r,R,Z)):fK->Fr->A_->Prop:=YX r R Z
section
variable{P:Program}{Q:fK->Fr->World->Prop}{N gn:Fr->World->Prop}{qC:Fr->Prop}{bj:Value->Prop}{K:Value->World->Prop}{x6:List Value->Prop}{R:Value->World->Prop}{Z:List PanicEntry->World->Prop}{OE:List PanicEntry->Prop}{S:Fr}{w:World}{A B C:Prop}
set_option linter.unusedVariables false
theorem UI  {t}:eZ P .skip Q S w t=Q .normal S w:=propext Iff.rfl
theorem UJ  {cg}{t}:eZ P (.dy cg) Q S w t=qu P cg S w (λS w=>Q .normal S w) ⟨⟩:=propext Iff.rfl
theorem UK  {cg}{t}:eZ P (.sx cg) Q S w t=r6 P cg S w (λS => ∀w',Ext w w'->Q .normal S w') ⟨⟩:=propext Iff.rfl
theorem UL  {x}{t}:eZ P (.rf x) Q S w t=(∀w1,Ext w w1->k8 P w1 x S w1 (λS w=>Q .normal S w) ⟨⟩):=propext Iff.rfl
theorem UM  {w0}{t}:k8 P w0 .done S w gn t=gn S w:=propext Iff.rfl
theorem UN  {w0}{t}:k8 P w0 .nil S w gn t=True:=propext Iff.rfl
theorem UO  {w0 s r}{t}:k8 P w0 (.take s r) S w gn t=Ns P w0 s S (λS=>k8 P w0 r S w gn ⟨⟩) ⟨⟩:=propext Iff.rfl
theorem UP  {w0 s r}{t}:k8 P w0 (.alt s r .nil) S w gn t=Cc P w0 s S w (λS w=>k8 P w0 r S w gn ⟨⟩) ⟨⟩:=and_true _
theorem UQ  {w0 s r nD kc tZ}{t}:k8 P w0 (.alt s r (.alt nD kc tZ)) S w gn t=(Cc P w0 s S w (λS w=>k8 P w0 r S w gn ⟨⟩) ⟨⟩/\k8 P w0 (.alt nD kc tZ) S w gn ⟨⟩):=propext Iff.rfl
theorem UR  {w0 s r nD kc tZ}{t}:k8 P w0 (.alt s r (.ff nD kc tZ)) S w gn t=(Cc P w0 s S w (λS w=>k8 P w0 r S w gn ⟨⟩) ⟨⟩/\k8 P w0 (.ff nD kc tZ) S w gn ⟨⟩):=propext Iff.rfl
theorem UT  {w0 s r}{t}:k8 P w0 (.ff s r .nil) S w gn t=CD P s S w (λS w=>k8 P w0 r S w gn ⟨⟩) ⟨⟩:=and_true _
theorem UU  {w0 s r nD kc tZ}{t}:k8 P w0 (.ff s r (.alt nD kc tZ)) S w gn t=(CD P s S w (λS w=>k8 P w0 r S w gn ⟨⟩) ⟨⟩/\k8 P w0 (.alt nD kc tZ) S w gn ⟨⟩):=propext Iff.rfl
theorem UW  {w0 s r nD kc tZ}{t}:k8 P w0 (.ff s r (.ff nD kc tZ)) S w gn t=(CD P s S w (λS w=>k8 P w0 r S w gn ⟨⟩) ⟨⟩/\k8 P w0 (.ff nD kc tZ) S w gn ⟨⟩):=propext Iff.rfl
theorem UX  {d i}{t}:CD P ⟨d,none,i⟩ S w gn t=vV P i S w (λv w'=>gn (put S d v) w') ⟨⟩:=propext Iff.rfl
theorem UY  {d j b i}{t}:CD P ⟨d,some (j,b),i⟩ S w gn t=rm (S j) b (vV P i (cc S j (.bool b)) w (λv w'=>gn (put (cc S j (.bool b)) d v) w') ⟨⟩) (gn (put (cc S j (.bool (!b))) d undef) w) (gn (put S d undef) w) ⟨⟩:=propext Iff.rfl
theorem UZ  {w0 d i}{t}:Ns P w0 ⟨d,none,i⟩ S qC t=yd P i S w0 (λv=>qC (put S d v)) ⟨⟩:=propext Iff.rfl
theorem U0  {w0 d j b i}{t}:Ns P w0 ⟨d,some (j,b),i⟩ S qC t=rm (S j) b (yd P i (cc S j (.bool b)) w0 (λv=>qC (put (cc S j (.bool b)) d v)) ⟨⟩) (qC (put (cc S j (.bool (!b))) d undef)) (qC (put S d undef)) ⟨⟩:=propext Iff.rfl
theorem U1  {w0 d i}{t}:Cc P w0 ⟨d,none,i⟩ S w gn t=zG P i S w (λv w'=>Ext w0 w'/\gn (put S d v) w') ⟨⟩:=propext Iff.rfl
theorem U2  {w0 d j b i}{t}:Cc P w0 ⟨d,some (j,b),i⟩ S w gn t=rm (S j) b (zG P i (cc S j (.bool b)) w (λv w'=>Ext w0 w'/\gn (put (cc S j (.bool b)) d v) w') ⟨⟩) (gn (put (cc S j (.bool (!b))) d undef) w) (gn (put S d undef) w) ⟨⟩:=propext Iff.rfl
theorem cH  {a b}{t}:eZ P (.seq a b) Q S w t=eZ P a (jD (λS w=>eZ P b Q S w ⟨⟩) Q ⟨⟩) S w ⟨⟩:=propext Iff.rfl
theorem U3  {c x y}{t}:eZ P (.cond c x y) Q S w t=pQ (bp S c) (eZ P x Q S w ⟨⟩) (eZ P y Q S w ⟨⟩) ⟨⟩:=propext Iff.rfl
theorem U4  {id b}{t}:eZ P (.cy id b) Q S w t=eZ P b (yn id Q ⟨⟩) S w ⟨⟩:=propext Iff.rfl
theorem U5  {id}{t}:eZ P (.exit id) Q S w t=Q (.exit id) S w:=propext Iff.rfl
theorem U6  {t}:eZ P .ret Q S w t=Q .ret S w:=propext Iff.rfl
theorem U7  {cg d f l}{t}:eZ P (.fP cg d f l) Q S w t=qu P cg S w (λS w=>OC P f (l.map (bp S)) w (λv w'=>Q .normal (put S d v) w') (λc w'=>Q (.ht c) S w') ⟨⟩) ⟨⟩:=propext Iff.rfl
theorem U8  {cg x}{t}:eZ P (.uk cg x) Q S w t=qu P cg S w (λS w=>Ov (bp S x) (λc=>Q (.ht c) S w) ⟨⟩) ⟨⟩:=propext Iff.rfl
theorem U9  {i:F_}{v:B_}{t}:Ov (.iface i v) OE t=OE [{ v:=.iface i v,recovered:=false }]:=a8.aq2 i v OE
theorem Va  {c}{t}:jD N Q t (.ht c) S w=Q (.ht c) S w:=propext Iff.rfl
theorem Vb{i}{c}{t}:yn i Q t (.ht c) S w=Q (.ht c) S w:=propext Iff.rfl
theorem Vc{r}{t}:Cv r R Z t .normal S w=ou r S w (λvs=>R (jE vs) w) ⟨⟩:=propext Iff.rfl
theorem uA{r}{t}:Cv r R Z t .ret S w=ou r S w (λvs=>R (jE vs) w) ⟨⟩:=propext Iff.rfl
theorem Vf{r}{c}{t}:Cv r R Z t (.ht c) S w=Z c w:=propext Iff.rfl
theorem Vg  {b}{t}:eZ P (.loop b) Q S w t=BV P b Q S w ⟨⟩:=propext Iff.rfl
theorem Vh  {t}:jD N Q t .normal S w=N S w:=propext Iff.rfl
theorem Vi  {i}{t}:jD N Q t (.exit i) S w=Q (.exit i) S w:=propext Iff.rfl
theorem Vj  {t}:jD N Q t .ret S w=Q .ret S w:=propext Iff.rfl
theorem Vk{i}{t}:yn i Q t .normal S w=Q .normal S w:=propext Iff.rfl
theorem Vl{i}{t}:yn i Q t .ret S w=Q .ret S w:=propext Iff.rfl
theorem Vm{i}{j}{t}:yn i Q t (.exit j) S w=if j=i then Q .normal S w else Q (.exit j) S w:=propext Iff.rfl
theorem Vn{r}{t}:tA r R t .normal S w=ou r S w (λvs=>R (jE vs) w) ⟨⟩:=propext Iff.rfl
theorem zE{r}{t}:tA r R t .ret S w=ou r S w (λvs=>R (jE vs) w) ⟨⟩:=propext Iff.rfl
theorem jT  {t}:qu P [] S w gn t=gn S w:=propext Iff.rfl
theorem df  {d i r}{t}:qu P (⟨d,none,i⟩ :: r) S w gn t=vV P i S w (λv w'=>qu P r (put S d v) w' gn ⟨⟩) ⟨⟩:=propext Iff.rfl
theorem fr  {d j b i r}{t}:qu P (⟨d,some (j,b),i⟩ :: r) S w gn t=rm (S j) b (vV P i (cc S j (.bool b)) w (λv w'=>qu P r (put (cc S j (.bool b)) d v) w' gn ⟨⟩) ⟨⟩) (qu P r (put (cc S j (.bool (!b))) d undef) w gn ⟨⟩) (qu P r (put S d undef) w gn ⟨⟩) ⟨⟩:=propext Iff.rfl
theorem ec  {t}:r6 P [] S w qC t=qC S:=propext Iff.rfl
theorem hh  {d i r}{t}:r6 P (⟨d,none,i⟩ :: r) S w qC t=yd P i S w (λv=>r6 P r (put S d v) w qC ⟨⟩) ⟨⟩:=propext Iff.rfl
theorem gV  {d j b i r}{t}:r6 P (⟨d,some (j,b),i⟩ :: r) S w qC t=rm (S j) b (yd P i (cc S j (.bool b)) w (λv=>r6 P r (put (cc S j (.bool b)) d v) w qC ⟨⟩) ⟨⟩) (r6 P r (put (cc S j (.bool (!b))) d undef) w qC ⟨⟩) (r6 P r (put S d undef) w qC ⟨⟩) ⟨⟩:=propext Iff.rfl
theorem fZ  {i}{t}:zG P (.p i) S w K t=jl P i S (λv=>K v w) ⟨⟩:=propext Iff.rfl
theorem hG  {i}{t}:zG P (.r i) S w K t=ye i S w (λv=>K v w) ⟨⟩:=propext Iff.rfl
theorem fw  {i}{t}:zG P (.e i) S w K t=pS P i S w K ⟨⟩:=propext Iff.rfl
theorem Vt  {i}{t}:zG P (.c i) S w K t=Ed P i S w K ⟨⟩:=propext Iff.rfl
theorem Vu  {i}{t}:vV P (.p i) S w K t=jl P i S (λv=>K v w) ⟨⟩:=propext Iff.rfl
theorem Vv  {i}{t}:vV P (.r i) S w K t=ye i S w (λv=>K v w) ⟨⟩:=propext Iff.rfl
theorem Vw  {i}{t}:vV P (.e i) S w K t=pS P i S w K ⟨⟩:=propext Iff.rfl
theorem Vx  {i}{t}:vV P (.c i) S w K t=Ee P i S w K ⟨⟩:=propext Iff.rfl
theorem Vy  {i}{t}:yd P (.p i) S w bj t=jl P i S bj ⟨⟩:=propext Iff.rfl
theorem Vz  {i}{t}:yd P (.r i) S w bj t=ye i S w bj ⟨⟩:=propext Iff.rfl
theorem VA  {i}{t}:yd P (.c i) S w bj t=Et P i S w bj ⟨⟩:=propext Iff.rfl
theorem VB  {f l}{t}:Et P (.fn f l) S w bj t=Ow P f (l.map (bp S)) w bj ⟨⟩:=propext Iff.rfl
theorem VC  {x m l}{t}:Et P (.inv x m l) S w bj t=WQ P (bp S x) m (l.map (bp S)) w bj ⟨⟩:=propext Iff.rfl
theorem VD  {x l}{t}:Et P (.val x l) S w bj t=Il P (bp S x) (l.map (bp S)) w bj ⟨⟩:=propext Iff.rfl
theorem H1  {t}:rm (.bool true) true A B C t=A:=a8.ako A B C
theorem VE  {t}:rm (.bool true) false A B C t=B:=a8.akn A B C
theorem VF  {t}:rm (.bool false) true A B C t=B:=a8.akm A B C
theorem VG  {t}:rm (.bool false) false A B C t=A:=a8.akl A B C
theorem VH  (u:Bool){t}:rm undef u A B C t=C:=a8.akp u A B C
theorem VI  (u:Bool){t}:rm (.bool u) true A B C t=pQ (.bool u) A B ⟨⟩:=(a8.Zw u true A B C).trans (by rfl)
theorem VJ  (u:Bool){t}:rm (.bool u) false A B C t=pQ (.bool u) B A ⟨⟩:=(a8.Zw u false A B C).trans (by rfl)
theorem VK  {t}:pQ (.bool true) A B t=A:=ahC A B
theorem VL  {t}:pQ (.bool false) A B t=B:=ahA A B
theorem VM  (u:Bool){t}:pQ (.bool (!u)) A B t=pQ (.bool u) B A ⟨⟩:=ahB u A B
theorem VN  {x}{t}:jl P (.lv x) S bj t=bj (bp S x):=propext Iff.rfl
theorem VO  {c x y}{t}:jl P (.pick c x y) S bj t=pQ (bp S c) (bj (bp S x)) (bj (bp S y)) ⟨⟩:=propext Iff.rfl
theorem VP  {op ty x y}{t}:jl P (.bin op ty x y) S bj t=kz P op ty x y (bp S x) (bp S y) bj ⟨⟩:=propext Iff.rfl
theorem VQ  {op x}{t}:jl P (.un op x) S bj t=Io op (bp S x) bj ⟨⟩:=propext Iff.rfl
theorem VR  {k x}{t}:jl P (.Cp k x) S bj t=NV k (bp S x) bj ⟨⟩:=propext Iff.rfl
theorem VS  {n x}{t}:jl P (.jn n x) S bj t=N3 n (bp S x) bj ⟨⟩:=propext Iff.rfl
theorem VT  {n x y}{t}:jl P (.og n x y) S bj t=El n (bp S x) (bp S y) bj ⟨⟩:=propext Iff.rfl
theorem VU  {m n x y}{t}:jl P (.GI m n x y) S bj t=N7 m n (bp S x) (bp S y) bj ⟨⟩:=propext Iff.rfl
theorem VV  {x y}{t}:jl P (.nz x y) S bj t=Ob (bp S x) (bp S y) bj ⟨⟩:=propext Iff.rfl
theorem VW  {n x y}{t}:jl P (.Ba n x y) S bj t=N9 n (bp S x) (bp S y) bj ⟨⟩:=propext Iff.rfl
theorem VX  {n x}{t}:jl P (.ln n x) S bj t=N5 n (bp S x) bj ⟨⟩:=propext Iff.rfl
theorem VY  {n m x}{t}:jl P (.Fj n m x) S bj t=N4 n m (bp S x) bj ⟨⟩:=propext Iff.rfl
theorem VZ  {z pl dx}{t}:jl P (.h3 z pl dx) S bj t=NT S z pl dx bj ⟨⟩:=propext Iff.rfl
theorem V0  {f a b}{t}:jl P (.xz f a b) S bj t=bj (.func (.func f) (a.map (bp S)).toArray (b.map (bp S)).toArray):=propext Iff.rfl
theorem V1  {n x aV U mx}{t}:jl P (.jf n x aV U mx) S bj t=th S n (bp S x) aV U mx bj ⟨⟩:=propext Iff.rfl
theorem V2  {x aV U}{t}:jl P (.Bx x aV U) S bj t=OA S (bp S x) aV U bj ⟨⟩:=propext Iff.rfl
theorem V3  {x n}{t}:jl P (.ext x n) S bj t=Ek (bp S x) n bj ⟨⟩:=propext Iff.rfl
theorem V4  {x}{t}:jl P (.qh x) S bj t=Og (bp S x) bj ⟨⟩:=propext Iff.rfl
theorem V5  {x}{t}:jl P (.Dv x) S bj t=Od (bp S x) bj ⟨⟩:=propext Iff.rfl
theorem V9  {x}{t}:jl P (.ID x) S bj t=NU (bp S x) bj ⟨⟩:=propext Iff.rfl
theorem Wa  {v}{t}:jl P (.KX v) S bj t=bj v:=propext Iff.rfl
theorem M2  {x y}{t}:jl P (.xy x y) S bj t=Oi (bp S x) (bp S y) bj ⟨⟩:=propext Iff.rfl
theorem Wb  {x y}{t}:jl P (.zj x y) S bj t=Oj (bp S x) (bp S y) bj ⟨⟩:=propext Iff.rfl
theorem Wc  {n x}{t}:jl P (.Dz n x) S bj t=bj (.iface n (bp S x)):=propext Iff.rfl
theorem Wd  {x}{t}:jl P (.xA x) S bj t=Ii (bp S x) bj ⟨⟩:=propext Iff.rfl
theorem We  {x}{t}:ye (.ld x) S w bj t=uD (bp S x) w bj ⟨⟩:=propext Iff.rfl
theorem Wf  {n x}{t}:ye (.k5 n x) S w bj t=x8 n (bp S x) w bj ⟨⟩:=propext Iff.rfl
theorem Wg  {d z ok m k}{t}:ye (.o2 d z ok m k) S w bj t=En d z ok (bp S m) (bp S k) w bj ⟨⟩:=propext Iff.rfl
theorem Wh  {x}{t}:ye (.Dw x) S w bj t=Of (bp S x) w bj ⟨⟩:=propext Iff.rfl
theorem Wi  {n x}{t}:pS P (.box n x) S w K t=Ep n (bp S x).cells w K ⟨⟩:=propext Iff.rfl
theorem Wj  {n z}{t}:pS P (.new n z) S w K t=Ep n z.cells w K ⟨⟩:=propext Iff.rfl
theorem Wk  {x v}{t}:pS P (.st x v) S w K t=sl (bp S x) (bp S v) w (K undef) ⟨⟩:=propext Iff.rfl
theorem Wl  {n x v}{t}:pS P (.lZ n x v) S w K t=B6 n (bp S x) (bp S v) w (K undef) ⟨⟩:=propext Iff.rfl
theorem Wm  {t}:pS P .vA S w K t=Oo w K ⟨⟩:=propext Iff.rfl
theorem Wn  {e n b z l c}{t}:pS P (.zk e n b z l c) S w K t=Eo e n b z (bp S l) (bp S c) w K ⟨⟩:=propext Iff.rfl
theorem Wo  {e l n z dx}{t}:pS P (.kk e l n z dx) S w K t=HU S e l n z dx w K ⟨⟩:=propext Iff.rfl
theorem Wp  {ty e n b s x}{t}:pS P (.app ty e n b s x) S w K t=mw P ty e n b (bp S s) (bp S x) w K ⟨⟩:=propext Iff.rfl
theorem Wq  {d m k v}{t}:pS P (.kt d m k v) S w K t=BX d (bp S m) (bp S k) (bp S v) w (K undef) ⟨⟩:=propext Iff.rfl
theorem Wr  {x}{t}:pS P (.Bv x) S w K t=Oy (bp S x) w K ⟨⟩:=propext Iff.rfl
theorem Wt  {x}{t}:pS P (.Bl x) S w K t=Ot (bp S x) w K ⟨⟩:=propext Iff.rfl
theorem Wu  {op ty}{t}:pS P (.raw op ty) S w K t=uH P op ty S w K ⟨⟩:=propext Iff.rfl
theorem Wv  {f l}{t}:Ed P (.fn f l) S w K t=HX P f (l.map (bp S)) w K ⟨⟩:=propext Iff.rfl
theorem Ww  {x m l}{t}:Ed P (.inv x m l) S w K t=BN P (bp S x) m (l.map (bp S)) w K ⟨⟩:=propext Iff.rfl
theorem Wx  {x l}{t}:Ed P (.val x l) S w K t=x0 P (bp S x) (l.map (bp S)) w K ⟨⟩:=propext Iff.rfl
theorem Wy  {f l}{t}:Ee P (.fn f l) S w K t=HX P f (l.map (bp S)) w K ⟨⟩:=propext Iff.rfl
theorem Wz  {x m l}{t}:Ee P (.inv x m l) S w K t=BN P (bp S x) m (l.map (bp S)) w K ⟨⟩:=propext Iff.rfl
theorem WA  {x l}{t}:Ee P (.val x l) S w K t=BP P (bp S x) (l.map (bp S)) w K ⟨⟩:=propext Iff.rfl
theorem WB  {ty ez eM}(k:IntKind)(a b:Int){t}:kz P .lss ty ez eM (.int k a) (.int k b) bj t=bj (.bool (decide (a<b))):=ag5 k a b
theorem WC  {ty ez eM}(k:IntKind)(a b:Int){t}:kz P .leq ty ez eM (.int k a) (.int k b) bj t=bj (.bool (decide (a<=b))):=ag4 k a b
theorem WD  {ty ez eM}(k:IntKind)(a b:Int){t}:kz P .gtr ty ez eM (.int k a) (.int k b) bj t=bj (.bool (decide (b<a))):=ag3 k a b
theorem WE  {ty ez eM}(k:IntKind)(a b:Int){t}:kz P .geq ty ez eM (.int k a) (.int k b) bj t=bj (.bool (decide (b<=a))):=ag2 k a b
theorem WG  {ty ez eM}(k:IntKind)(a b:Int){t}:kz P .eql ty ez eM (.int k a) (.int k b) bj t=bj (.bool (decide (a=b))):=ag1 k a b
theorem WH  {ty ez eM}(k:IntKind)(a b:Int){t}:kz P .neq ty ez eM (.int k a) (.int k b) bj t=bj (.bool (!decide (a=b))):=(ag7 k a b).trans CC
theorem WI  {ty ez eM}(k:IntKind)(a b:Int){t}:kz P .add ty ez eM (.int k a) (.int k b) bj t=uM k (a+b) bj ⟨⟩:=OV k a b
theorem WJ  {ty ez eM}(k:IntKind)(a b:Int){t}:kz P .sub ty ez eM (.int k a) (.int k b) bj t=uM k (a - b) bj ⟨⟩:=ahc k a b
theorem WK  {ty ez eM}(k:IntKind)(a b:Int){t}:kz P .mul ty ez eM (.int k a) (.int k b) bj t=uM k (a*b) bj ⟨⟩:=ag6 k a b
theorem WL  {ty ez eM}(a b:ByteArray){t}:kz P .eql ty ez eM (.string a) (.string b) bj t=bj (.bool (decide (a=b))):=aha a b
theorem WM  {ty ez eM}(a b:ByteArray){t}:kz P .neq ty ez eM (.string a) (.string b) bj t=bj (.bool (!decide (a=b))):=(ahb a b).trans CC
theorem WN  (b:Bool){t}:Io .not (.bool b) bj t=bj (.bool (!b)):=propext Iff.rfl
theorem WR  (k:IntKind)(n:Int){t}:Io .neg (.int k n) bj t=uM k (0 - n) bj ⟨⟩:=propext Iff.rfl
theorem Ev  (k q:IntKind)(n:Int){t}:NV k (.int q n) bj t=uM k n bj ⟨⟩:=aim k q n bj
theorem Ew  (n:Nat)(a:Addr){t}:N3 n (.pointer (some a)) bj t=bj (.pointer (some (a.add n))):=ajQ n a bj
theorem WS  (v:B_)(vs:C_ B_){t}:Ek (.tuple (v :: vs).toArray) 0 bj t=bj v:=ajB v vs bj
theorem WT  (v u:B_)(vs:C_ B_){t}:Ek (.tuple (v :: u :: vs).toArray) 1 bj t=bj u:=ajC v u vs bj
theorem WU  (v u x:B_)(vs:C_ B_){t}:Ek (.tuple (v :: u :: x :: vs).toArray) 2 bj t=bj x:=ajD v u x vs bj
theorem Ex  (s:ByteArray){t}:Og (.string s) bj t=bj (.I s.size):=ao9 s bj
theorem B1  (a:H_ Addr)(n c:Nat){t}:Od (.slice a n c) bj t=bj (.I n):=ao7 a n c bj
theorem WV  (a:H_ Addr)(n c:Nat){t}:NU (.slice a n c) bj t=bj (.I c):=ahu a n c bj
theorem WW  (k q:IntKind)(a b:Int){t}:Oi (.int k a) (.int q b) bj t=bj (.int k (max a b)):=apu k q a b bj
theorem W1  (k q:IntKind)(a b:Int){t}:Oj (.int k a) (.int q b) bj t=bj (.int k (min a b)):=apy k q a b bj
theorem W2  (m n:Nat)(cs:Array B_){t}:N4 m n (.agg cs) bj t=bj (.agg (cs.extract m (m+n))):=aj5 m n cs bj
theorem W3  (a:Addr){t}:Ii (.pointer (some a)) bj t=bj (.pointer (some a)):=propext Iff.rfl
theorem W4  (f:E_)(a b:Array B_){t}:Ii (.func (.func f) a b) bj t=bj (.func (.func f) a b):=propext Iff.rfl
theorem W5  {t}:ou [] S w x6 t=x6 []:=propext Iff.rfl
theorem W6  {n r}{t}:ou (.tmp n :: r) S w x6 t=ou r S w (λvs=>x6 (S n :: vs)) ⟨⟩:=propext Iff.rfl
theorem W7  {n r}{t}:ou (.cell n :: r) S w x6 t=uD (S n) w (λv=>ou r S w (λvs=>x6 (v :: vs)) ⟨⟩) ⟨⟩:=propext Iff.rfl
theorem W8  {m n r}{t}:ou (.iR m n :: r) S w x6 t=x8 m (S n) w (λv=>ou r S w (λvs=>x6 (v :: vs)) ⟨⟩) ⟨⟩:=propext Iff.rfl
theorem W9{S:Fr}{d:Nat}{v:B_}:put S (some d) v=cc S d v:=eq_of_heq (heq_of_eq (gO S d v))
theorem Xa{S:Fr}{v:B_}:put S none v=S:=eq_of_heq (heq_of_eq (adK S v))
theorem Xc{S:Fr}{d t:Nat}{v:B_}:cc S d v t=if t=d then v else S t:=eq_of_heq (heq_of_eq (bD S d t v))
theorem Xd{S:Fr}{t:Nat}:bp S (.tmp t)=S t:=eq_of_heq (heq_of_eq (dc S t))
theorem Xe{S:Fr}{v:B_}:bp S (.const v)=v:=eq_of_heq (heq_of_eq (oO S v))
theorem Xf{S:Fr}{g:Nat}:bp S (.global g) = .pointer (some ⟨g,0,none⟩):=eq_of_heq (heq_of_eq (aje S g))
theorem Xg{S:Fr}{f:Nat}:bp S (.func f) = .func (.func f) #[] #[]:=eq_of_heq (heq_of_eq (wG S f))
theorem Xh{k:Nat}:iT [] k=λ_=>undef:=eq_of_heq (heq_of_eq (nW k))
theorem Xi{v:B_}{vs:C_ B_}{k:Nat}:iT (v :: vs) k=cc (iT vs (k+1)) k v:=eq_of_heq (heq_of_eq (km v vs k))
theorem Xj  : jE [] = .tuple #[]:=eq_of_heq (heq_of_eq (atU ..))
theorem Xk  (v:B_):jE [v]=v:=eq_of_heq (heq_of_eq (atV ..))
theorem Xl  (v u:B_):jE [v,u] = .tuple #[v,u]:=eq_of_heq (heq_of_eq (atW ..))
theorem Xm  (v u x:B_):jE [v,u,x] = .tuple #[v,u,x]:=eq_of_heq (heq_of_eq (atX ..))
theorem Xn  (a:H_ Addr)(n c:Nat):(Value.slice a n c).cells=#[.slice a n c]:=eq_of_heq (heq_of_eq (ahR ..))
theorem Xo  (k:IntKind)(n:Int):(Value.int k n).cells=#[.int k n]:=eq_of_heq (heq_of_eq (ahM ..))
theorem Xp  (b:Bool):(Value.bool b).cells=#[.bool b]:=eq_of_heq (heq_of_eq (ahJ ..))
theorem Xq  (s:ByteArray):(Value.string s).cells=#[.string s]:=eq_of_heq (heq_of_eq (ahS ..))
theorem Xr  (a:H_ Addr):(Value.pointer a).cells=#[.pointer a]:=eq_of_heq (heq_of_eq (ahQ ..))
theorem Xs  (a:H_ Nat):(Value.map a).cells=#[.map a]:=eq_of_heq (heq_of_eq (ahN ..))
theorem Xt  (f:Fn)(a b:Array B_):(Value.func f a b).cells=#[.func f a b]:=eq_of_heq (heq_of_eq (ahL ..))
theorem Xu  (cs:Array B_):(Value.agg cs).cells=cs:=eq_of_heq (heq_of_eq (ahI ..))
theorem Xv{α β:Type}{f:α->β}{a:α}{l:C_ α}:(a :: l).map f=f a :: l.map f:=eq_of_heq (heq_of_eq (AG1))
theorem Xw{α β:Type}{f:α->β}:([]:C_ α).map f=[]:=eq_of_heq (heq_of_eq (AJ6))
theorem iP  : (!true)=false:=eq_of_heq (heq_of_eq (Bool.not_true))
theorem e4  : (!false)=true:=eq_of_heq (heq_of_eq (Bool.not_false))
theorem oH{h:Decidable True}:decide True=true:=eq_of_heq (heq_of_eq (decide_true h))
theorem B9{h:Decidable False}:decide False=false:=eq_of_heq (heq_of_eq (decide_false h))
theorem qG{α:Type}{a b:α}{h:Decidable True}:(if True then a else b)=a:=eq_of_heq (heq_of_eq (if_true a b))
theorem lG{α:Type}{a b:α}{h:Decidable False}:(if False then a else b)=b:=eq_of_heq (heq_of_eq (if_false a b))
end
def dg :=
 (i_ (i_ (i_ (i_ (i_ (i_ (i_ @UI @UJ) (i_ @UK (i_ @UL @UM))) (i_ (i_ @UN (i_ @UO @UP)) (i_ @UQ (i_ @UR @UT)))) (i_ (i_ (i_ @UU @UW) (i_ @UX (i_ @UY @UZ))) (i_ (i_ @U0 (i_ @U1 @U2)) (i_ @U3 (i_ @U4 @U5))))) (i_ (i_ (i_ (i_ @U6 @U7) (i_ @U8 (i_ @U9 @Va))) (i_ (i_ @Vb (i_ @Vc @uA)) (i_ @Vf (i_ @Vg @Vh)))) (i_ (i_ (i_ @Vi @Vj) (i_ @Vk (i_ @Vl @Vm))) (i_ (i_ @Vn (i_ @zE @jT)) (i_ @df (i_ @fr @ec)))))) (i_ (i_ (i_ (i_ (i_ @hh @gV) (i_ @fZ (i_ @hG @fw))) (i_ (i_ @Vt (i_ @Vu @Vv)) (i_ @Vw (i_ @Vx @Vy)))) (i_ (i_ (i_ @Vz @VA) (i_ @VB (i_ @VC @VD))) (i_ (i_ @H1 (i_ @VE @VF)) (i_ @VG (i_ @VH @VI))))) (i_ (i_ (i_ (i_ @VJ @VK) (i_ @VL (i_ @VM @VN))) (i_ (i_ @VO (i_ @VP @VQ)) (i_ @VR (i_ @VS @VT)))) (i_ (i_ (i_ @VU @VV) (i_ @VW (i_ @VX @VY))) (i_ (i_ @VZ (i_ @V0 @V1)) (i_ @V2 (i_ @V3 @V4))))))) (i_ (i_ (i_ (i_ (i_ (i_ @V5 @V9) (i_ @Wa (i_ @M2 @Wb))) (i_ (i_ @Wc (i_ @Wd @We)) (i_ @Wf (i_ @Wg @Wh)))) (i_ (i_ (i_ @Wi @Wj) (i_ @Wk (i_ @Wl @Wm))) (i_ (i_ @Wn (i_ @Wo @Wp)) (i_ @Wq (i_ @Wr @Wt))))) (i_ (i_ (i_ (i_ @Wu @Wv) (i_ @Ww (i_ @Wx @Wy))) (i_ (i_ @Wz (i_ @WA @WB)) (i_ @WC (i_ @WD @WE)))) (i_ (i_ (i_ @WG @WH) (i_ @WI (i_ @WJ @WK))) (i_ (i_ @WL (i_ @WM @WN)) (i_ @WR (i_ @Ev @Ew)))))) (i_ (i_ (i_ (i_ (i_ @WS @WT) (i_ @WU (i_ @Ex @B1))) (i_ (i_ @WV (i_ @WW @W1)) (i_ @W2 (i_ @W3 @W4)))) (i_ (i_ (i_ @W5 @W6) (i_ @W7 (i_ @W8 @W9))) (i_ (i_ @Xa (i_ @Xc @Xd)) (i_ @Xe (i_ @Xf @Xg))))) (i_ (i_ (i_ (i_ @Xh @Xi) (i_ @Xj (i_ @Xk @Xl))) (i_ (i_ @Xm (i_ @Xn @Xo)) (i_ @Xp (i_ @Xq @Xr)))) (i_ (i_ (i_ @Xs @Xt) (i_ @Xu (i_ @Xv @Xw))) (i_ (i_ @iP (i_ @e4 @oH)) (i_ @B9 (i_ @qG @lG))))))))
section
variable{P:Program}{Q:fK->Fr->World->Prop}{bj:Value->Prop}{K:Value->World->Prop}{KW:World->Prop}{S:Fr}{w:World}{A B:Prop}
def I_{p:Prop}[Decidable p]{t}(h1:p->A)(I:¬p->B):pQ (.bool (decide p)) A B t:=ahz h1 I
def N_{u:Bool}{t}(h1:u=true->A)(I:u=false->B):pQ (.bool u) A B t:=ahy h1 I
def Q_{n:Int}{t}(h : -9223372036854775808<=n/\n<=9223372036854775807)(hk:bj (.I n)):uM .i64 n bj t:=wrap_i64 h hk
def _l{k:IntKind}{n:Int}{t}(h:bj (.int k (k.wrap n))):uM k n bj t:=afD h
def AA7{k:IntKind}{n:Int}{t}(h:k.wrap n=n)(hk:bj (.int k n)):uM k n bj t:=afD (by rw[h];exact hk)
def _C{ty:F_}{ez eM:G_}{k:IntKind}{a b:Int}{t}(ak:b≠0)(h:uM k (a.tdiv b) bj ⟨⟩):kz P .quo ty ez eM (.int k a) (.int k b) bj t:=ag8 ak h
def _s{ty:F_}{ez eM:G_}{k:IntKind}{a b:Int}{t}(ak:b≠0)(h:bj (.int k (a.tmod b))):kz P .rem ty ez eM (.int k a) (.int k b) bj t:=ag9 ak h
def _X{op:BinOp}{ty:F_}{ez eM:G_}{x y v:B_}{t}(h:∀w,(do eqGuard op ty ez eM x y;binOp op ty x y:Sem B_).run P w = .ok v w)(hk:bj v):kz P op ty ez eM x y bj t:=⟨v,h,hk⟩
def _Y{sz:Nat}{a:Addr}{len cap:Nat}{k:IntKind}{n:Int}{t}(h:0<=n/\n<len)(hk:bj (.pointer (some (a.add (n.toNat*sz))))):El sz (.slice (some a) len cap) (.int k n) bj t:=aol h hk
def K_{sz:Nat}{a:Addr}{len cap:Nat}{k:IntKind}{n:Int}{t}(i:Nat)(U:n=i)(h:i<len)(hk:bj (.pointer (some (a.add (i*sz))))):El sz (.slice (some a) len cap) (.int k n) bj t:=abR i U h hk
def AE2{sz:Nat}{a:Addr}{len:Nat}{k:IntKind}{n:Int}{t}(h:0<=n/\n<len)(hk:bj (.pointer (some (a.add (n.toNat*sz))))):N7 len sz (.pointer (some a)) (.int k n) bj t:=aok h hk
def _Z{s:ByteArray}{k:IntKind}{n:Int}{t}(c:UInt8)(ad:0<=n)(h:s[n.toNat]? = some c)(hk:bj (.int .u8 c.toNat)):Ob (.string s) (.int k n) bj t:=aoA c ad h hk
def AA8{len:Nat}{cs:Array B_}{k:IntKind}{n:Int}{t}(v:B_)(ad:0<=n/\n<len)(h:cs[n.toNat]? = some v)(hk:bj v):N9 len (.agg cs) (.int k n) bj t:=aoz v ad h hk
def Y_{off:Nat}{cs:Array B_}{v:B_}{t}(h:cs[off]? = some v)(hk:bj v):N5 off (.agg cs) bj t:=aj6 h hk
def X_{z cs:C_ B_}{pl:C_ (Nat×Nat)}{dx:C_ (Nat×G_)}{t}(h:gC S pl dx z=some cs)(hk:bj (.agg cs.toArray)):NT S z pl dx bj t:=ahf h hk
def _B{sz:Nat}{a:H_ Addr}{len cap:Nat}{aV U mx:H_ G_}{t}(l h m:Nat)(h1:eJ S aV 0=some l)(I:eJ S U len=some h)(ab:eJ S mx cap=some m)
  (aC:l<=h/\h<=m/\m<=cap)(a1:mx.isSome=true->U.isSome=true)(hk:bj (.slice (if m=l then a else a.map (·.add (l*sz))) (h - l) (m - l))):th S sz (.slice a len cap) aV U mx bj t:=atc l h m h1 I ab aC a1 hk
def AA9{s:ByteArray}{aV U:H_ G_}{t}(l h:Nat)(h1:eJ S aV 0=some l)(I:eJ S U s.size=some h)(aC:l<=h/\h<=s.size)(hk:bj (.string (s.extract l h))):OA S (.string s) aV U bj t:=as9 l h h1 I aC hk
def M_{a:Addr}{c:B_}{t}(h:w.cell? a=some c)(hk:bj c):uD (.pointer (some a)) w bj t:=ao4 h hk
def Z_{n:Nat}{a:Addr}{cs:C_ B_}{t}(h:fc w a cs)(aw:cs.length=n)(hk:bj (.agg cs.toArray)):x8 n (.pointer (some a)) w bj t:=ao3 h aw hk
def _m{d:TypeDesc}{z:B_}{ok:Bool}{m k:B_}{es:Array MapEntry}{r:H_ (Nat×B_)}{t}(h1:sh w m es)(I:Instr.findNow d k es.toList 0=some r)(hk:bj (nA z ok r)):En d z ok m k w bj t:=api h1 I hk
def AE3{m:B_}{es:Array MapEntry}{t}(h:sh w m es)(hk:bj (.I es.size)):Of m w bj t:=ao8 h hk
def _1{a:Addr}{v hF:B_}{t}(h:w.cell? a=some hF)(ay:w.frozen? a=false)(aF:v.oneCell'=true)(hk:KW (w.setCell a v)):sl (.pointer (some a)) v w KW t:=ae5 h ay aF hk
def _5{n:Nat}{a:Addr}{cs:Array B_}{t}(aw:cs.size=n)(h:∀j,j<n->(∃hF,w.cell? (a.add j)=some hF)/\w.frozen? (a.add j)=false)(h1:∀c∈cs.toList,c.oneCell'=true)(hk:KW (iA w a cs.toList 0)):B6 n (.pointer (some a)) (.agg cs) w KW t:=T6 aw h h1 hk
def _6{e:F_}{sz bytes:Nat}{z:B_}{k q:IntKind}{n m:Int}{t}(h:0<=n/\n<=m/\m<=9223372036854775807/\bytes*m<=281474976710656)(hk:K (.slice (some ⟨w.heap.size,0,none⟩) n.toNat m.toNat) (w.alloc (.cells (se z.cells (m.toNat*sz)) e))) :
  Eo e sz bytes z (.int k n) (.int q m) w K t:=apz h hk
def AE4{e:F_}{len sz:Nat}{z cs:C_ B_}{dx:C_ (Nat×G_)}{t}(h:gC S ((List.range len).map λi=>(i*sz,sz)) dx z=some cs)(hk:K (.slice (some ⟨w.heap.size,0,none⟩) len len) (w.alloc (.cells cs.toArray e))):HU S e len sz z dx w K t:=z6 h hk
def _c{ty e:F_}{sz b:Nat}{s x:B_}{t}(h:W0 P ty e sz b->∃u bU w',(Builtin.append_ #[ty,ty] u #[s,x]).run P w = .ok bU w'/\K bU w'):mw P ty e sz b s x w K t:=h
def _t{d:TypeDesc}{r:Nat}{k v:B_}{es:Array MapEntry}{c:Nat}{q:H_ (Nat×B_)}{t}(h1:w.heap[r]? = some (.map es c))(I:Instr.findNow d k es.toList 0=some q)(hk:KW (fH w r (sT es c k v q))):BX d (.map (some r)) k v w KW t:=apH h1 I hk
def AB0{r pos:Nat}{s:ByteArray}{t}(h:w.heap[r]? = some (.stringIter s pos))(h1:pos<s.size->K (.tuple #[.bool true,.I pos,.int .i32 (Utf8.decode s pos).1]) (fH w r (.stringIter s (pos+(Utf8.decode s pos).2))))
  (I:¬pos<s.size->K (.tuple #[.bool false]) w):Ot (.pointer (some ⟨r,0,none⟩)) w K t:=ap1 h h1 I
def _F{op:Op}{ty:F_}{v:B_}{w':A_}{t}(h:(execOp (bp S) ⟨none,op,ty, "",#[],none⟩).run P w = .ok (.value v) w')(hk:K v w'):uH P op ty S w K t:=⟨v,w',.inl h,hk⟩
def J_{f:E_}{args:C_ B_}{R:B_->A_->Prop}{t}(h:aX P f args.toArray w R)(hk:∀v w',R v w'->K v w'):HX P f args w K t:=aht h hk
def W_{f:E_}{args:C_ B_}{R:B_->A_->Prop}{Z tj:C_ PanicEntry->A_->Prop}{t}(h:ry P f args.toArray w R Z)(hk:∀v w',R v w'->K v w')(bA:∀c w',Z c w'->tj c w'):OC P f args w K tj t:=ry.mono h hk bA
def AB1{f:E_}{L:nj}(hm:P.follows .mixedOrders=true)(an:lK P f=some L){args:C_ B_}{R:B_->A_->Prop}{Z:C_ PanicEntry->A_->Prop}(aY:args.length<=L.n)(h:eZ P L.code (Cv L.res R Z ⟨⟩) (iT args 0) w ⟨⟩):ry P f args.toArray w R Z:=ai8 hm an aY h
def V_{f:E_}{first cap:C_ B_}{args:C_ B_}{R:B_->A_->Prop}{t}(ay:okF P f=true)(h:aX P f (first++args++cap).toArray w R)(hk:∀v w',R v w'->K v w'):BP P (.func (.func f) first.toArray cap.toArray) args w K t:=Or.inl (O4 ay h hk)
def _d{f:E_}{first cap:C_ B_}{args:C_ B_}{R:B_->A_->Prop}{t}(ay:okF P f=true)(h:aX P f (first++args++cap).toArray w R)(hk:∀v w',R v w'->K v w'):x0 P (.func (.func f) first.toArray cap.toArray) args w K t:=O4 ay h hk
def _2{l:Nat}{args:C_ B_}{R:Ending->A_->Prop}{t}(h:YieldAt Fence.wide 0 P l args.toArray w R)(hk:∀e w',R e w'->∃v,e = .returned v/\K v w'):BP P (.func (.yield l) #[] #[]) args w K t :=
 Or.inr ⟨l,rfl,let ⟨fn,tmps,assign,body,h1,I⟩:=h; ⟨fn,tmps,assign,body,h1,I.mono hk⟩⟩
def P_{f:E_}{args:C_ B_}{t}(v:B_)(h:∀w',Ext w w'->aX P f args.toArray w' λu bM=>u=v/\Ext w' bM)(hk:bj v):Ow P f args w bj t:=aru v h hk
def O_{n:F_}{cs:Array B_}{t}(hk:∀w1 b,w.heap.size<=b->Ext w w1->w1.heap[b]? = some (.cells cs n)->K (.pointer (some ⟨b,0,none⟩)) w1):Ep n cs w K t :=
 hk _ _ (EC _) ((Ext.refl w).alloc _) (heap_alloc_new w _)
def _e{t}(hk:∀w1 b,w.heap.size<=b->Ext w w1->w1.heap[b]? = some (.map #[] 0)->K (.map (some b)) w1):Oo w K t:=hk _ _ (EC _) ((Ext.refl w).alloc _) (heap_alloc_new w _)
def AB2{s:ByteArray}{t}(hk:∀w1 b,w.heap.size<=b->Ext w w1->w1.heap[b]? = some (.stringIter s 0)->K (.pointer (some ⟨b,0,none⟩)) w1):Oy (.string s) w K t :=
 ⟨s,rfl,hk _ _ (EC _) ((Ext.refl w).alloc _) (heap_alloc_new w _)⟩
def _D{e:F_}{len sz:Nat}{z cs:C_ B_}{dx:C_ (Nat×G_)}{t}(h:gC S ((List.range len).map λi=>(i*sz,sz)) dx z=some cs)
  (hk:∀w1 b,w.heap.size<=b->Ext w w1->w1.heap[b]? = some (.cells cs.toArray e)->K (.slice (some ⟨b,0,none⟩) len len) w1):HU S e len sz z dx w K t :=
 z6 h (hk _ _ (EC _) ((Ext.refl w).alloc _) (heap_alloc_new w _))
def _G{b j:Nat}{c:Array B_}{e:F_}{v:B_}{t}(ak:w.heap[b]? = some (.cells c e))(az:j<c.size)(aF:v.oneCell'=true)
  (hk:∀w1,du b w w1->w1.heap[b]? = some (.cells (c.set j v az) e)->KW w1):sl (.pointer (some (Addr.add ⟨b,0,none⟩ j))) v w KW t :=
 ae5 (fM ak (Array.getElem?_eq_getElem az)) (by rw[add_eq];simp[World.frozen?,ak]) aF (hk _ (by have h:=du.setCell w (Addr.add ⟨b,0,none⟩ j) v;rwa[zU] at h) (Hr ak az v))
def _V{b:Nat}{c:Array B_}{e:F_}{v:B_}{t}(ak:w.heap[b]? = some (.cells c e))(az:0<c.size)(aF:v.oneCell'=true)
  (hk:∀w1,du b w w1->w1.heap[b]? = some (.cells (c.set 0 v az) e)->KW w1):sl (.pointer (some ⟨b,0,none⟩)) v w KW t :=
 _G (j:=0) (t:=⟨⟩) ak az aF hk
def U_{b n:Nat}{c cs:Array B_}{e:F_}{t}(ak:w.heap[b]? = some (.cells c e))(an:c.size=n)(aw:cs.size=n)(h1:∀x∈cs.toList,x.oneCell'=true)
  (hk:∀w1,du b w w1->w1.heap[b]? = some (.cells cs e)->KW w1):B6 n (.pointer (some ⟨b,0,none⟩)) (.agg cs) w KW t :=
 T6 aw (λj az=>⟨⟨_,fM ak (Array.getElem?_eq_getElem Ad)⟩,by rw[add_eq];simp[World.frozen?,ak]⟩) h1 (hk _ (du.iA cs.toList w ⟨b,0,none⟩ 0) (aeM ak Ad))
def _A{b:e0}{t}(da:Fr->A_->Prop)(kU:Fr->A_->Nat)(ad:da S w)
  (aS:∀aZ w',(∀t,b.gd.contains t=false->aZ t=S t)->da aZ w'->eZ P b (jD (λga bM=>da ga bM/\kU ga bM<kU aZ w') Q ⟨⟩) aZ w' ⟨⟩):BV P b Q S w t:=apn da kU ad aS
def _g{f:E_}{L:nj}(hm:P.follows .mixedOrders=true)(an:lK P f=some L){args:C_ B_}{R:B_->A_->Prop}(aY:args.length<=L.n)(h:eZ P L.code (tA L.res R ⟨⟩) (iT args 0) w ⟨⟩):aX P f args.toArray w R:=enter hm an aY h
end
attribute [irreducible] eZ
attribute [irreducible] qu
attribute [irreducible] r6
attribute [irreducible] k8
attribute [irreducible] Ns
attribute [irreducible] CD
attribute [irreducible] Cc
attribute [irreducible] zG
attribute [irreducible] vV
attribute [irreducible] Ee
attribute [irreducible] BP
attribute [irreducible] yd
attribute [irreducible] Et
attribute [irreducible] Ow
attribute [irreducible] Il
attribute [irreducible] jl
attribute [irreducible] ye
attribute [irreducible] pS
attribute [irreducible] Ed
attribute [irreducible] kz
attribute [irreducible] Io
attribute [irreducible] NV
attribute [irreducible] uM
attribute [irreducible] pQ
attribute [irreducible] rm
attribute [irreducible] N3
attribute [irreducible] El
attribute [irreducible] N7
attribute [irreducible] Ob
attribute [irreducible] N9
attribute [irreducible] N5
attribute [irreducible] N4
attribute [irreducible] NT
attribute [irreducible] th
attribute [irreducible] OA
attribute [irreducible] Ek
attribute [irreducible] Og
attribute [irreducible] Od
attribute [irreducible] NU
attribute [irreducible] Oi
attribute [irreducible] Oj
attribute [irreducible] Ii
attribute [irreducible] uD
attribute [irreducible] x8
attribute [irreducible] En
attribute [irreducible] Of
attribute [irreducible] sl
attribute [irreducible] B6
attribute [irreducible] Eo
attribute [irreducible] HU
attribute [irreducible] mw
attribute [irreducible] BX
attribute [irreducible] Ot
attribute [irreducible] Oy
attribute [irreducible] uH
attribute [irreducible] HX
attribute [irreducible] OC
attribute [irreducible] BN
attribute [irreducible] WQ
attribute [irreducible] Ov
attribute [irreducible] x0
attribute [irreducible] Ep
attribute [irreducible] Oo
attribute [irreducible] BV
attribute [irreducible] ou
attribute [irreducible] jD yn tA Cv
end a8
namespace a8
open Go Go.RowKit
structure bm{α:Type}(sz:Nat)(R:World->Addr->α->Prop)(w:World)(v:Value)(xs:List α):Prop where
 ex:∃aN cap,v = .slice aN xs.length cap/\xs.length<=cap/\cap<=maxLen/\(xs≠[]->aN.isSome=true)/\∀a,aN=some a->∀i (h:i<xs.length),R w (a.add (i*sz)) xs[i]
def bm.form{α:Type}{sz:Nat}{R:A_->Addr->α->Prop}{w:A_}{v:B_}{xs:C_ α}(h:bm sz R w v xs):∃aN cap,v = .slice aN xs.length cap/\xs.length<=9223372036854775807:=by
 obtain⟨aN,cap,h1,I,ab,_⟩:=h.ex;exact⟨aN,cap,h1,by unfold maxLen at ab;omega⟩
def bm.addr{α:Type}{sz:Nat}{R:A_->Addr->α->Prop}{w:A_}{aN:H_ Addr}{n c:Nat}{xs:C_ α}(h:bm sz R w (.slice aN n c) xs)(aw:0<xs.length:=by omega):∃a,aN=some a:=by
 obtain⟨iI,cap,h1,I,ab,aC,_⟩:=h.ex;injection h1 with h1 _ _
 subst h1;exact Option.isSome_iff_exists.1 (aC (by intro e;subst e;simp at aw))
def bm.at{α:Type}{sz:Nat}{R:A_->Addr->α->Prop}{w:A_}{a:Addr}{n c:Nat}{xs:C_ α}(h:bm sz R w (.slice (some a) n c) xs)(i:Nat)(U:i<xs.length):R w (a.add (i*sz)) xs[i]:=by
 obtain⟨iI,cap,h1,I,ab,aC,a1⟩:=h.ex;injection h1 with h1 _ _
 subst h1;exact a1 a rfl i U
theorem bm.ext{α:Type}{sz:Nat}{R:A_->Addr->α->Prop}(bG:∀w w' a x,Ext w w'->R w a x->R w' a x){w w':A_}{v:B_}{xs:C_ α}(he:Ext w w')(h:bm sz R w v xs):bm sz R w' v xs:=by
 obtain⟨aN,cap,h1,I,ab,aC,a1⟩:=h.ex;exact⟨aN,cap,h1,I,ab,aC,λa aY i U=>bG _ _ _ _ he (a1 a aY i U)⟩
def Flat{α:Type}(enc:α->C_ B_)(w:A_)(a:Addr)(x:α):Prop:=fc w a (enc x)
theorem Flat.ext{α:Type}{enc:α->C_ B_}(w w':A_)(a:Addr)(x:α)(he:Ext w w')(h:Flat enc w a x):Flat enc w' a x:=fc.ext he h
def iM{pf:Type}(enc:pf->B_)(es:C_ MapEntry)(m:C_ (pf×B_)):Prop:=es.map (λe=>(e.key,e.val))=m.map (λp=>(enc p.1,p.2))
theorem Al{pf:Type}[DecidableEq pf]{enc:pf->B_}{d:TypeDesc}(aj:∀x y,Instr.sameNow d (enc x) (enc y)=some (decide (x=y)))(x:pf):∀(es:C_ MapEntry) (m:C_ (pf×B_)) (i:Nat),iM enc es m ->
  ∃r,Instr.findNow d (enc x) es i=some r/\r.map (·.2)=(m.find? (λp=>decide (x=p.1))).map (·.2)
 | [],m,i,h=>by
  have:m=[]:=by cases m with | nil=>rfl | cons _ _=>simp[iM] at h
  subst this;exact⟨none,rfl,rfl⟩
 | e :: es,m,i,h=>by
  cases m with
  | nil=>simp[iM] at h
  | cons p m =>
   simp only[iM,List.map_cons,List.cons.injEq,Prod.mk.injEq] at h;obtain⟨⟨h1,I⟩,ab⟩:=h;unfold Instr.findNow;rw[h1,aj];by_cases af:x=p.1
   .simp only[af,decide_true];exact⟨_,rfl,by simp[I]⟩
   .simp only[af,decide_false];obtain⟨r,aC,a1⟩:=Al aj x es m (i+1) ab;exact⟨r,aC,by rw[a1];simp[af]⟩
def M7(x y:ByteArray):Instr.sameNow .string (.string x) (.string y)=some (decide (x=y)):=by simp[Instr.sameNow,EJ]
def M6(k q:IntKind)(x y:Int):Instr.sameNow (.int q) (.int k x) (.int k y)=some (decide (x=y)):=by simp[Instr.sameNow];rfl
def iM.push{pf:Type}{enc:pf->B_}{es:Array MapEntry}{m:C_ (pf×B_)}(h:iM enc es.toList m)(x:pf)(v:B_)(c:Nat):iM enc (es.push { key:=enc x,val:=v,born:=c }).toList (m++[(x,v)]):=by
 simp only[iM] at *;simp[h]
theorem PV{α:Type}{enc:α->C_ B_}{sz:Nat}(dq:∀x,(enc x).length=sz):∀(xs:C_ α) (i j:Nat) (h:i<xs.length),j<sz->(xs.flatMap enc)[i*sz+j]? = (enc xs[i])[j]?
 | [],i,j,h,_=>by simp at h
 | x :: xs,0,j,h,az=>by
  simp only[List.flatMap_cons,Nat.zero_mul,Nat.zero_add,List.getElem_cons_zero];rw[List.getElem?_append_left (by rw[dq];exact az)]
 | x :: xs,i+1,j,h,az=>by
  simp only[List.flatMap_cons,List.getElem_cons_succ];rw[List.getElem?_append_right (by rw[dq,AG9];omega),dq,show(i+1)*sz+j - sz=i*sz+j from by rw[AG9];omega];exact PV dq xs i j (by simpa using h) az
def ahK{α:Type}{enc:α->C_ B_}{sz:Nat}(dq:∀x,(enc x).length=sz){w:A_}{b:Nat}{e:F_}{f:Nat×Nat}{xs:C_ α}(ak:w.heap[b]? = some (.cells (xs.flatMap enc).toArray e f))(i:Nat)(h:i<xs.length) :
  fc w (Addr.add ⟨b,0,none⟩ (i*sz)) (enc xs[i]):=λj v az=>by
 have Gc:j<sz:=by rw[<-dq xs[i]];exact(List.getElem?_eq_some_iff.1 az).1
 rw[add_add];exact fM ak (by rw[List.getElem?_toArray,PV dq xs i j h Gc];exact az)
def bm.cy{α:Type}{enc:α->C_ B_}{sz:Nat}(dq:∀x,(enc x).length=sz){R:A_->Addr->α->Prop}{w:A_}{b n:Nat}{e:F_}{f:Nat×Nat}{xs:C_ α}(ak:w.heap[b]? = some (.cells (xs.flatMap enc).toArray e f))
  (aw:n=xs.length)(hm:xs.length<=maxLen)(bG:∀a x,x∈xs->fc w a (enc x)->R w a x):bm sz R w (.slice (some ⟨b,0,none⟩) n n) xs:=by
 subst aw;refine⟨_,_,rfl,EC _,hm,λ_=>rfl,λa aY i U=>?_⟩;injection aY with aY;subst aY
 exact bG _ _ (ED _) (ahK dq ak i U)
def bm.nil{α:Type}{sz:Nat}{R:A_->Addr->α->Prop}{w:A_}:bm sz R w (.slice none 0 0) ([]:C_ α):=⟨none,0,rfl,EC _,AF6 _,λh=>absurd rfl h,λa h=>by cases h⟩
end a8
namespace a8
open Go Go.RowKit Go.ChangeShapes Go.WideShapes Go.Deep
section
variable{H:Type}{enc:TypeId×Value->H}{P:Program}
theorem afk{w:A_}:∀{cF:C_ F_} {vs:C_ B_} {ds:C_ (DataW H)} {dx:C_ MemPlace},DataW.TrodAll enc P w 0 (λ_=>true) true cF vs ds dx->∀x∈dx,x.block<w.heap.size
 | [],_,_,_,h=>by
  obtain⟨rfl,rfl,rfl⟩:=trodAll_nil h;intro x af;cases af
 | _ :: _,_,_,_,h=>by
  obtain⟨v,afs,d,YC,a,b,rfl,rfl,rfl,⟨m,h1⟩,I⟩:=trodAll_cons h;intro x af;rcases List.mem_append.1 af with af | af
  .exact DataW.trod_lt m _ _ _ h1 x af
  .exact afk I x af
theorem afj{w:A_}{sp:Nat->Bool}{bb:Bool}:∀{cF:C_ F_} {vs:C_ B_} {ds:C_ (DataW H)} {dx:C_ MemPlace},DataW.TrodAll enc P w 0 sp bb cF vs ds dx->ds.length=cF.length
 | [],_,_,_,h=>by
  obtain⟨rfl,rfl,rfl⟩:=trodAll_nil h;rfl
 | _ :: _,_,_,_,h=>by
  obtain⟨v,afs,d,YC,a,b,rfl,rfl,rfl,h1,I⟩:=trodAll_cons h;simp[afj I]
theorem afi(aE:laidOutB P=true){W b3:A_}(ak:Below W.heap.size W b3):∀{cF:C_ F_} {vs:C_ B_} {ds:C_ (DataW H)} {dx:C_ MemPlace},(cF.all λt=>P.readableRec t&&decide (t<P.types.size))=true ->
  DataW.TrodAll enc P W 0 (λ_=>true) true cF vs ds dx->(∀x∈dx,x.block<W.heap.size)->DataW.TrodAll enc P b3 0 (λb=>decide (b<W.heap.size)) true cF vs ds dx
 | [],_,_,_,_,h,_=>by
  obtain⟨rfl,rfl,rfl⟩:=trodAll_nil h;exact trodAll_mk0
 | _ :: _,_,_,_,aS,h,cu=>by
  obtain⟨v,afs,d,YC,a,b,rfl,rfl,rfl,h1,I⟩:=trodAll_cons h;simp only[List.all_cons,Bool.and_eq_true,decide_eq_true_eq] at aS;exact trodAll_cons_mk (Below.trod aE aS.1.1 aS.1.2 h1 ak λx af=>cu x (AH2 _ af)) (afi aE ak aS.2 I λx af=>cu x (AI3 _ af))
def axd{s:ChangeSpec}{f:Func}{tb:F_}(aE:laidOutB P=true)(aS:(f.params.toList.all λt=>P.readableRec t&&decide (t<P.types.size))=true)(aF:s.vars=[])
  (anL:f.resultTypes=#[tb])(aB:P.underlying tb=some .bool)(aj:∀ds:C_ (DataW H),ds.length=f.params.toList.length->s.fn H ds = { results:=[.lit (.bool true)],args:=ds })
  {W b3:A_}{args:Array B_}{ds gs:C_ (DataW H)}{before:C_ MemPlace}(fg:DataW.Whole enc P f.params.toList s.vars false W args.toList ds gs before)(XW:Ext W b3) :
  s.post enc P f false true false false W args (.bool true) b3:=by
 have FF:=fg;obtain⟨p,q,dd,nu,rfl,awb,kK⟩:=fg;rw[aF] at nu;obtain⟨rfl,rfl⟩:=trodVars_none nu;have cu:=afk dd;have e:=aj ds (afj dd);refine⟨ds,[],_,[],p,[],FF,?_,?_,?_,XW.frame _,λh=>by cases h⟩
 .rw[SN,e,anL];exact trodAll_mk1 (shut_bool aB _)
 .rw[SN,e];exact afi aE XW aS dd cu
 .rw[SN,e,aF];rfl
variable{w:World}{base:Nat}{spare:Nat->Bool}{held:Bool}
theorem SQ{α:Type}(n:Nat)(R:Nat->α->Prop)(h:∀i,i<n->∃x,R i x):∃xs:C_ α,xs.length=n/\∀i (U:i<xs.length),R i xs[i]:=by
 induction n with
 | zero=>exact⟨[],rfl,λi U=>absurd U (HI _)⟩
 | succ n fm =>
  obtain⟨xs,aE,af⟩:=fm λi U=>h i Ad;obtain⟨x,vm⟩:=h n Ad;refine⟨xs++[x],by simp[aE],λi U=>?_⟩;by_cases aw:i<xs.length
  .rw[AI4 aw];exact af i aw
  .have:i=n:=by simp at U;omega
   subst this;rw[AI5 Ad];simpa[aE] using vm
end
theorem ahO{H:Type}{enc:F_×B_->H}{P:D_}{w:A_}{base:Nat}{sp:Nat->Bool}{held:Bool}{fuel:Nat}{t e:F_}{n:Nat}{cs:C_ B_}{zs:C_ ByteArray}{p:C_ MemPlace}
  (aB:P.underlying t=some (.array n e))(he:P.underlying e=some .string)(eB:P.cellsOf e=1)(yR:P.cellsOf t=n)
  (h:DataW.trod enc P w base sp held fuel t cs=some (.agg (zs.map λz=>.lit (.string z.data.toList)),p)):cs=zs.map Value.string:=by
 cases fuel with
 | zero=>simp[DataW.trod] at h
 | succ fuel =>
  simp only[DataW.trod,aB,eB,yR,Nat.mul_one] at h;split at h
  .rename_i aE;obtain⟨xs,hm,af⟩:=Option.map_eq_some_iff.1 h;have tW:xs.map (·.1)=zs.map λz=>(DataW.lit (.string z.data.toList):DataW H):=by
    have:=congrArg Prod.fst af
    simpa using this
   have xi:xs.length=n:=by simpa using Lib.mapM_length hm
   have awK:zs.length=n:=by
    have:=congrArg List.length tW
    simp at this;omega
   apply List.ext_getElem?;intro i;by_cases U:i<n
   .obtain⟨b,ak,ay⟩:=Lib.mapM_at hm i i (by simp[U]);obtain⟨z,an,rfl,_⟩:=DataW.trod_string he ay;have h1:cs[i]? = some (.string z):=by
     have:=congrArg (·[0]?) an
     simpa[List.getElem?_take,List.getElem?_drop] using this
    have I:(xs.map (·.1))[i]? = some (DataW.lit (.string z.data.toList):DataW H):=by simp[ak]
    rw[tW] at I;simp only[List.getElem?_map,Option.map_eq_some_iff,DataW.lit.injEq,Lit.string.injEq] at I;obtain⟨afJ,GG,e⟩:=I;have aH:afJ=z:=by
     cases afJ;cases z;simp at e;simp[e]
    simp[h1,GG,aH]
   .rw[List.getElem?_eq_none Ad,List.getElem?_eq_none (by simp;omega)]
  .cases h
def axN{P:D_}{W:A_}{name:String}{zs:C_ ByteArray}{rest:C_ (String×DataW Unit)}{g:Nat}{t e:F_}{n:Nat}
  (aG:P.globalNamed name=some g)(R2:(P.globals[g]?).map (·.type)=some t)(aB:P.underlying t=some (.array n e))(he:P.underlying e=some .string)(eB:P.cellsOf e=1)(yR:P.cellsOf t=n)
  (h:laidMet P ((name,.agg (zs.map λz=>.lit (.string z.data.toList))) :: rest) W):fc W ⟨g,0,none⟩ (zs.map Value.string):=by
 obtain⟨dx,⟨aki,hW,cs,fuel,p,q,amF,y7,an3,bb,_,_⟩,_⟩:=h;obtain rfl:=Option.some.inj (aG.symm.trans amF);obtain rfl:=Option.some.inj (R2.symm.trans y7);have e:=ahO aB he eB yR bb;intro j v az
 have:=World.var?_cell aG an3 j
 rw[show Addr.add ⟨g,0,none⟩ j=⟨g,j,none⟩ from by cases j<;>simp[Addr.add],this,Array.getElem?_toList.symm,e];exact az
end a8
namespace a8
open Go Go.RowKit
def Ext.grown{w0 w w':A_}{r:H_ Nat}(he:Ext w0 w)(aG:w.grownBy w' r)(aS:∀k,r=some k->w0.heap.size<=k):Ext w0 w':=Below.grown he aG he.size aS
def aqD{w w':A_}{base:Nat}{e:F_}{sz:Nat}{v:B_}{n:Nat}{xs:C_ B_}(he:Ext w w')(h:w.ownsRow base e sz v n xs):w'.ownsRow base e sz v n xs:=by
 refine⟨h.1,?_⟩;rcases h.2 with aw | ⟨g,cap,cur,rfl,ak,C8,rest⟩
 .exact .inl aw
 .exact .inr ⟨g,cap,cur,rfl,ak,he.obj C8,rest⟩
def aqE{w:A_}{base wm:Nat}{e:F_}{sz:Nat}{v:B_}{n:Nat}{xs:C_ B_}(ak:wm<=base)(h:w.ownsRow base e sz v n xs):w.ownsRow wm e sz v n xs:=by
 refine⟨h.1,?_⟩;rcases h.2 with aw | ⟨g,cap,cur,rfl,CY,rest⟩
 .exact .inl aw
 .exact .inr ⟨g,cap,cur,rfl,Nn ak CY,rest⟩
def adr{w:A_}{base:Nat}{e:F_}{sz:Nat}{v:B_}{n:Nat}{xs:C_ B_}(h:w.ownsRow base e sz v n xs):∃aN cap,v = .slice aN n cap/\n<=cap/\cap<=maxLen/\(n≠0->aN.isSome=true)/\∀a,aN=some a->fc w a xs:=by
 rcases h.2 with ⟨rfl,rfl⟩ | ⟨g,cap,cur,rfl,ak,C8,h1,I,ab,aC⟩
 .exact⟨none,0,rfl,EC _,AF6 _,λh=>absurd rfl h,λa aY=>by cases aY⟩
 .exact⟨_,cap,rfl,h1,I,λ_=>rfl,λa aY=>by injection aY with aY;subst aY;exact λj u az=>h.cells (g:=g) rfl j u az⟩
def aqF{α:Type}{enc:α->C_ B_}{w:A_}{base:Nat}{e:F_}{sz:Nat}{v:B_}{xs:C_ α}(dq:∀x,(enc x).length=sz)(h:w.ownsRow base e sz v xs.length (xs.flatMap enc)):bm sz (Flat enc) w v xs:=by
 obtain⟨aN,cap,rfl,h1,I,ab,aC⟩:=adr h;refine⟨aN,cap,rfl,h1,I,λaw=>ab (by intro e;exact aw (AF7 e)),λa aY i U=>?_⟩;intro j u az;have Gc:j<sz:=by rw[<-dq xs[i]];exact(List.getElem?_eq_some_iff.1 az).1
 rw[add_add];exact aC a aY _ _ (by rw[PV dq xs i j U Gc];exact az)
def AB3{P:D_}{cL:B_->A_->Prop}{w:A_}{ty e:F_}{sz b:Nat}{s:B_}{a:Addr}{m c:Nat}{t}{base n:Nat}{xs news:C_ B_}(aj:w.ownsRow base e sz s n xs)(an:fc w a news)(aE:news.length=m*sz)
  (h1:∀u∈news,u.oneCell'=true)(lo:n+m<=maxLen)(ak:(n+m)*b<=140737488355328)(kI:base<=w.heap.size)
  (hk:∀bU w',w'.ownsRow base e sz bU (n+m) (xs++news)->w.grownBy w' s.ownBlock->cL bU w'):mw P ty e sz b s (.slice (some a) m c) w cL t :=
 _c λ⟨aB,i,z,U,bA,A2,Az,zb,dq⟩=>by
  obtain⟨bU,w',aS,I,ab,_⟩:=run_append_own (P:=P) w base ty ty e i z sz b aB U bA A2 Az zb dq s n xs aj a m c news aE an h1 lo ak kI;exact⟨ty,bU,w',aS,hk bU w' I ab⟩
theorem add_zero(a:Addr):a.add 0=a:=by simp[Addr.add]
theorem bm.cap{α:Type}{sz:Nat}{R:A_->Addr->α->Prop}{w:A_}{aN:H_ Addr}{n c:Nat}{xs:C_ α}(h:bm sz R w (.slice aN n c) xs):xs.length<=c:=by
 obtain⟨iI,cap,e,I,ab,aC,a1⟩:=h.ex;injection e with bF aH aR
 subst aR;exact I
def bm.take{α:Type}{sz:Nat}{R:A_->Addr->α->Prop}{w:A_}{aN:H_ Addr}{n c:Nat}{xs:C_ α}(h:bm sz R w (.slice aN n c) xs)(k:Nat)(hk:k<=xs.length) :
  bm sz R w (.slice (if c=0 then aN else aN.map (·.add (0*sz))) (k - 0) (c - 0)) (xs.take k):=by
 obtain⟨iI,cap,e,I,ab,aC,a1⟩:=h.ex;injection e with bF aH aR
 subst bF aH aR;have e:(if c=0 then aN else aN.map (·.add (0*sz)))=aN:=by
  split
  .rfl
  .cases aN with
   | none=>rfl
   | some a=>simp[add_zero]
 rw[e];refine⟨aN,c,by simp[List.length_take,Nat.min_eq_left hk],by simp[List.length_take];omega,ab,λaw=>aC (by intro e;subst e;simp at aw),λa aY i U=>?_⟩;have cw:i<xs.length:=by simp[List.length_take] at U;omega
 rw[AI6];exact a1 a aY i cw
theorem Zq{α:Type}{enc:α->C_ B_}{sz:Nat}(dq:∀x,(enc x).length=sz):∀(xs:C_ α) (p:Nat) (v:B_),(xs.flatMap enc)[p]? = some v->∃i j,∃h:i<xs.length,j<sz/\p=i*sz+j/\(enc xs[i])[j]? = some v
 | [],p,v,h=>by simp at h
 | x :: xs,p,v,h=>by
  rw[AH8] at h;by_cases ar:p<sz
  .rw[List.getElem?_append_left (by rw[dq];exact ar)] at h;exact⟨0,p,CC,ar,CC,h⟩
  .rw[List.getElem?_append_right (by rw[dq];omega),dq] at h;obtain⟨i,j,U,az,e,I⟩:=Zq dq xs (p - sz) v h;exact⟨i+1,j,by simpa using U,az,by rw[AG9];omega,by simpa using I⟩
def bm.flat{α:Type}{enc:α->C_ B_}{sz:Nat}{R:A_->Addr->α->Prop}{w:A_}{a:Addr}{n c:Nat}{xs:C_ α}(dq:∀x,(enc x).length=sz)(bG:∀a x,R w a x->fc w a (enc x))
  (h:bm sz R w (.slice (some a) n c) xs):fc w a (xs.flatMap enc):=by
 intro p v ar;obtain⟨i,j,U,az,rfl,I⟩:=Zq dq xs p v ar
 have:=bG _ _ (h.at i U) j v I
 rwa[add_add] at this
theorem yD{α:Type}{enc:α->C_ B_}{sz:Nat}(dq:∀x,(enc x).length=sz):∀(xs:C_ α),(xs.flatMap enc).length=xs.length*sz
 | []=>CC
 | x :: xs=>by rw[AH8,MD,yD dq xs,dq,AG7,AG9];omega
def _u{P:D_}{Q:fK->Fr->A_->Prop}{S:Fr}{w:A_}{a b:e0}{t}(N:Fr->A_->Prop)(h1:eZ P a (jD N Q ⟨⟩) S w ⟨⟩)
  (I:∀aZ w',(∀t,a.gd.contains t=false->aZ t=S t)->N aZ w'->eZ P b Q aZ w' ⟨⟩):eZ P (.seq a b) Q S w t:=by
 unfold eZ jD at *;exact qx a _ _ S w (λe aZ w' aj h=>match e,h with | .normal,h=>I aZ w' aj h | .exit _,h=>h | .ret,h=>h | .ht _,h=>h) h1
def _7{P:D_}{hW:F_}{ez eM:G_}{bj:B_->Prop}{a b:Bool}{t}(h:P.underlying hW=some .bool)(hk:bj (.bool (a != b))):kz P .neq hW ez eM (.bool a) (.bool b) bj t :=
 _X (v:=.bool (a != b)) (λw=>by cases a<;>cases b<;>simp[eqGuard_at_bool,binOp,run_equal_bool w hW _ _ h]) hk
def aqC{w:A_}{base:Nat}{e:F_}{sz b:Nat}(ak:base<=b)(h:w.heap[b]? = some (.cells #[] e)):w.ownsRow base e sz (.slice (some ⟨b,0,none⟩) 0 0) 0 [] :=
 ⟨CC,.inr ⟨b,0,#[],rfl,ak,h,EC _,AF6 _,CC,CC⟩⟩
end a8
namespace a8
open Go Go.RowKit
class pg{α:Type}(R:World->Addr->α->Prop)(enc:outParam (α->List Value)):Prop where
 IF:∀w a x,R w a x->fc w a (enc x)
instance awM{α:Type}(enc:α->List Value):pg (Flat enc) enc:=⟨λ_ _ _ h=>h⟩
section
variable{P:Program}{Q:fK->Fr->World->Prop}{bj:Value->Prop}{K:Value->World->Prop}{S:Fr}{w w0:World}
def _K{b j:Nat}{c:C_ B_}{ty:F_}{f:Nat×Nat}{v:B_}{t}(ak:w0.heap[b]? = some (.cells c.toArray ty f))(he:Ext w0 w)(az:c[j]? = some v)(hk:bj v):uD (.pointer (some (Addr.add ⟨b,0,none⟩ j))) w bj t :=
 M_ (fM (he.obj ak) (by simpa using az)) hk
def _E{b:Nat}{c:C_ B_}{ty:F_}{f:Nat×Nat}{v:B_}{t}(ak:w0.heap[b]? = some (.cells c.toArray ty f))(he:Ext w0 w)(az:c[0]? = some v)(hk:bj v):uD (.pointer (some ⟨b,0,none⟩)) w bj t :=
 M_ (Ck (he.obj ak) (by simpa using az)) hk
def T_{b n:Nat}{c:C_ B_}{ty:F_}{f:Nat×Nat}{t}(ak:w0.heap[b]? = some (.cells c.toArray ty f))(he:Ext w0 w)(aw:c.length=n)(hk:bj (.agg c.toArray)):x8 n (.pointer (some ⟨b,0,none⟩)) w bj t :=
 Z_ (im (he.obj ak)) aw hk
def _N{α:Type}{sz i j n c:Nat}{R:A_->Addr->α->Prop}{enc:α->C_ B_}[pg R enc]{a:Addr}{xs:C_ α}{v:B_}{t}(aE:bm sz R w0 (.slice (some a) n c) xs)(he:Ext w0 w)(U:i<xs.length)(az:(enc xs[i])[j]? = some v)
  (hk:bj v):uD (.pointer (some ((a.add (i*sz)).add j))) w bj t:=M_ (he.cell (pg.IF _ _ _ (aE.at i U) j v az)) hk
def _O{α:Type}{i n c:Nat}{R:A_->Addr->α->Prop}{enc:α->C_ B_}[pg R enc]{a:Addr}{xs:C_ α}{v:B_}{t}(aE:bm 1 R w0 (.slice (some a) n c) xs)(he:Ext w0 w)(U:i<xs.length)(az:(enc xs[i])[0]? = some v)
  (hk:bj v):uD (.pointer (some (a.add (i*1)))) w bj t:=by
 have h:=pg.IF (R:=R) _ _ _ (aE.at i U) 0 v az;rw[add_zero] at h;exact M_ (he.cell h) hk
def _P{α:Type}{sz i n c m:Nat}{R:A_->Addr->α->Prop}{enc:α->C_ B_}[pg R enc]{a:Addr}{xs:C_ α}{t}(aE:bm sz R w0 (.slice (some a) n c) xs)(he:Ext w0 w)(U:i<xs.length)(aw:(enc xs[i]).length=m)
  (hk:bj (.agg (enc xs[i]).toArray)):x8 m (.pointer (some (a.add (i*sz)))) w bj t:=Z_ ((pg.IF _ _ _ (aE.at i U)).ext he) aw hk
def _Q{p:Prop}[Decidable p]{A B:Prop}{t}(h:p)(hk:A):pQ (.bool (decide p)) A B t:=I_ (λ_=>hk) λbr=>absurd h br
def _R{p:Prop}[Decidable p]{A B:Prop}{t}(h:¬p)(hk:B):pQ (.bool (decide p)) A B t:=I_ (λbr=>absurd br h) λ_=>hk
def _H{u:Bool}{A B:Prop}{t}(h:u=true)(hk:A):pQ (.bool u) A B t:=N_ (λ_=>hk) λbr=>by rw[h] at br;cases br
def _I{u:Bool}{A B:Prop}{t}(h:u=false)(hk:B):pQ (.bool u) A B t:=N_ (λbr=>by rw[h] at br;cases br) λ_=>hk
def _S{sz:Nat}{a:Addr}{len cap:Nat}{k:IntKind}{i:Nat}{t}(h:i<len)(hk:bj (.pointer (some (a.add (i*sz))))):El sz (.slice (some a) len cap) (.int k (i:Int)) bj t:=K_ i rfl h hk
def _L{d n:Nat}{ty:F_}{cs:Array B_}{x:G_}{r:C_ Step}{cL:Fr->A_->Prop}{vs:C_ B_}{t1 t}(af:∀v,bp (cc S d v) x = .agg vs.toArray)(aw:vs.length=n)(an:cs.size=n)(h1:∀u∈vs,u.oneCell'=true)
  (hk:∀w1 b,w.heap.size<=b->Ext w w1->w1.heap[b]? = some (.cells vs.toArray ty)->qu P r (cc S d (.pointer (some ⟨b,0,none⟩))) w1 cL ⟨⟩) :
  Ep ty cs w (λv w'=>qu P (⟨none,none,.e (.lZ n (.tmp d) x)⟩ :: r) (put S (some d) v) w' cL t1) t:=by
 refine O_ λw1 b ak he cR=>?_;simp -dsimp only[UI,UJ,UK,UL,UM,UN,UO,UP,UQ,UR,UT,UU,UW,UX,UY,UZ,U0,U1,U2,cH,U3,U4,U5,U6,U7,U8,U9,Va,Vb,Vc,uA,Vf,Vg,Vh,Vi,Vj,Vk,Vl,Vm,Vn,zE,jT,df,fr,ec,hh,gV,fZ,hG,fw,Vt,Vu,Vv,Vw,Vx,Vy,Vz,VA,VB,VC,VD,H1,VE,VF,VG,VH,VI,VJ,VK,VL,VM,VN,VO,VP,VQ,VR,VS,VT,VU,VV,VW,VX,VY,VZ,V0,V1,V2,V3,V4,V5,V9,Wa,M2,Wb,Wc,Wd,We,Wf,Wg,Wh,Wi,Wj,Wk,Wl,Wm,Wn,Wo,Wp,Wq,Wr,Wt,Wu,Wv,Ww,Wx,Wy,Wz,WA,WB,WC,WD,WE,WG,WH,WI,WJ,WK,WL,WM,WN,WR,Ev,Ew,WS,WT,WU,Ex,B1,WV,WW,W1,W2,W3,W4,W5,W6,W7,W8,W9,Xa,Xc,Xd,Xe,Xf,Xg,Xh,Xi,Xj,Xk,Xl,Xm,Xn,Xo,Xp,Xq,Xr,Xs,Xt,Xu,Xv,Xw,iP,e4,oH,B9,qG,lG,Nat.reduceAdd,Nat.reduceEqDiff,reduceIte,reduceCtorEq,dm,af];refine U_ (cs:=vs.toArray) cR an (by simpa using aw) (by simpa using h1) λaA hw ao=>?_;exact hk aA b ak (hw.ext he ak) ao
theorem _h{b:e0}{t}(i N:Nat)(jj:Nat->Fr->A_->Prop)(Rc:S i = .I 0)(ad:jj 0 S w)
  (aS:∀(k:Nat) aZ w',(∀t,b.gd.contains t=false->aZ t=S t)->k<=N->aZ i = .I k->jj k aZ w' ->
   eZ P b (jD (λga bM=>k<N/\ga i = .I ((k:Int)+1)/\jj (k+1) ga bM) Q ⟨⟩) aZ w' ⟨⟩):BV P b Q S w t:=by
 refine _A (λS w => ∃k:Nat,k<=N/\S i = .I k/\jj k S w) (λS _=>(N - intOf (S i)).toNat) ⟨0,AF6 _,by simpa using Rc,ad⟩ ?_;rintro aZ w' b5 ⟨k,hk,U,az⟩;have h:=aS k aZ w' b5 hk U az;unfold eZ jD at *;refine qx b _ _ aZ w' (λe ga bM _ h=>?_) h
 match e,h with
 | .normal,⟨h1,I,ab⟩=>exact⟨⟨k+1,h1,by simpa using I,ab⟩,by simp[U,I,intOf];omega⟩
 | .exit _,h=>exact h
 | .ret,h=>exact h
 | .ht _,h=>exact h
def _J{KW:A_->Prop}{d:TypeDesc}{r:Nat}{k v:B_}{es:Array MapEntry}{c:Nat}{t}(h1:w.heap[r]? = some (.map es c))(I:Instr.findNow d k es.toList 0=some none)
  (hk:∀w1,du r w w1->w1.heap[r]? = some (.map (es.push { key:=k,val:=v,born:=c }) (c+1))->KW w1):BX d (.map (some r)) k v w KW t :=
 _t h1 I (hk _ (du.fH _ _ _) (DV (cq h1)))
def _i{sz:Nat}{aN:H_ Addr}{n cap:Nat}{x:G_}{k:IntKind}{t}(h:Nat)(af:bp S x = .int k (h:Int))(cR:h<=cap)(hk:bj (.slice aN h cap)):th S sz (.slice aN n cap) none (some x) none bj t:=by
 refine _B 0 h cap (by simp[eJ]) (by simp[eJ,af]) (by simp[eJ]) ⟨AF6 _,cR,EC _⟩ CC ?_;have e:(if cap=0 then aN else aN.map (·.add (0*sz)))=aN:=by
  split
  .rfl
  .cases aN with
   | none=>rfl
   | some a=>simp[add_zero]
 rw[e];exact hk
def _8{sz:Nat}{aN:H_ Addr}{n cap:Nat}{x:G_}{k:IntKind}{t}(l:Nat)(af:bp S x = .int k (l:Int))(aE:l<=n/\n<=cap)(hk:bj (.slice (if cap=l then aN else aN.map (·.add (l*sz))) (n - l) (cap - l))) :
  th S sz (.slice aN n cap) (some x) none none bj t :=
 _B l n cap (by simp[eJ,af]) (by simp[eJ]) (by simp[eJ]) ⟨aE.1,aE.2,EC _⟩ CC hk
end
def bm.head{α:Type}{sz:Nat}{R:A_->Addr->α->Prop}{w:A_}{aN:H_ Addr}{n c:Nat}{xs:C_ α}(h:bm sz R w (.slice aN n c) xs)(k:Nat)(hk:k<=xs.length):bm sz R w (.slice aN k c) (xs.take k):=by
 have:=h.take k hk
 have e:(if c=0 then aN else aN.map (·.add (0*sz)))=aN:=by
  split
  .rfl
  .cases aN with
   | none=>rfl
   | some a=>simp[add_zero]
 rw[e] at this;exact this
def bm.len{α:Type}{sz:Nat}{R:A_->Addr->α->Prop}{w:A_}{aN:H_ Addr}{n c:Nat}{xs:C_ α}(h:bm sz R w (.slice aN n c) xs):n=xs.length/\n<=c/\c<=maxLen:=by
 obtain⟨iI,cap,e,I,ab,_⟩:=h.ex;injection e with bF aH aR
 subst aH aR;exact⟨rfl,I,ab⟩
def bm.tail{α:Type}{sz:Nat}{R:A_->Addr->α->Prop}{w:A_}{aN:H_ Addr}{n c:Nat}{xs:C_ α}(h:bm sz R w (.slice aN n c) xs)(l:Nat)(aE:l<=xs.length) :
  bm sz R w (.slice (if c=l then aN else aN.map (·.add (l*sz))) (n - l) (c - l)) (xs.drop l):=by
 obtain⟨bF,aH,aR⟩:=h.len;subst bF;obtain⟨iI,cap,e,I,ab,aC,a1⟩:=h.ex;injection e with bF aH aR
 subst bF aR;refine⟨_,_,by rw[AF4],by rw[AF4];omega,Ad,λaw=>?_,λa aY i U=>?_⟩
 .have:xs≠[]:=by intro e;subst e;simp at aw
  have:=aC this
  split
  .exact this
  .cases aN with
   | none=>cases this
   | some a=>rfl
 .have cw:l+i<xs.length:=by rw[AF4] at U;omega
  rw[if_neg Ad] at aY;cases aN with
  | none=>cases aY
  | some b =>
   simp only[Option.map_some,Option.some.injEq] at aY;subst aY;rw[add_add,<-AG9,AJ7];exact a1 b rfl _ cw
structure Mod(A:Nat->Prop)(w w':World):Prop where
 os:w'.os=w.os
 tape:w'.tape=w.tape
 output:w'.output=w.output
 size:w.heap.size<=w'.heap.size
 block:∀k,k<w.heap.size->¬A k->w'.heap[k]? = w.heap[k]?
def Mod.refl(A:Nat->Prop)(w:A_):Mod A w w:=⟨rfl,rfl,rfl,EC _,λ_ _ _=>rfl⟩
def Mod.trans{A:Nat->Prop}{a b c:A_}(h:Mod A a b)(k:Mod A b c):Mod A a c :=
 ⟨k.os.trans h.os,k.tape.trans h.tape,k.output.trans h.output,Nn h.size k.size,λi U aw=>(k.block i (AH3 U h.size) aw).trans (h.block i U aw)⟩
theorem Mod.then{A B:Nat->Prop}{a b c:A_}(h:Mod B a b)(k:Mod A b c)(aj:∀i,i<a.heap.size->A i->B i):Mod B a c :=
 ⟨k.os.trans h.os,k.tape.trans h.tape,k.output.trans h.output,Nn h.size k.size,λi U aw=>(k.block i (AH3 U h.size) λe=>aw (aj i U e)).trans (h.block i U aw)⟩
def Ext.mod{A:Nat->Prop}{w w':A_}(h:Ext w w'):Mod A w w':=⟨h.os,h.tape,h.output,h.size,λ_ hk _=>h.heap hk⟩
def du.mod{A:Nat->Prop}{b:Nat}{w w':A_}(h:du b w w')(ak:A b):Mod A w w':=⟨h.os,h.tape,h.output,by rw[h.size];exact EC _,λk _ aw=>h.block k λe=>aw (e ▸ ak)⟩
def Mod.grown{A:Nat->Prop}{w w':A_}{row:H_ Nat}(h:w.grownBy w' row)(aS:∀k,row=some k->A k):Mod A w w':=⟨h.os,h.tape,h.output,h.size,λk hk aw=>h.block k hk λe=>aw (aS k e.symm)⟩
theorem Mod.ext{A:Nat->Prop}{w0 w w':A_}(h:Mod A w w')(he:Ext w0 w)(dd:∀k,k<w0.heap.size->¬A k):Ext w0 w' :=
 ⟨h.os.trans he.os,h.tape.trans he.tape,h.output.trans he.output,Nn he.size h.size,λk hk=>(h.block k (AH3 hk he.size) (dd k hk)).trans (he.heap hk)⟩
theorem Mod.obj{A:Nat->Prop}{w w':A_}{k:Nat}{ae:Obj}(h:Mod A w w')(aw:¬A k)(hk:w.heap[k]? = some ae):w'.heap[k]? = some ae:=(h.block k (cq hk) aw).trans hk
def Mod.BI{A B:Nat->Prop}{w w':A_}(h:Mod A w w')(aj:∀k,A k->B k):Mod B w w':=⟨h.os,h.tape,h.output,h.size,λk hk aw=>h.block k hk λe=>aw (aj k e)⟩
def aJ{α:Type}(enc:α->C_ B_)(e:F_)(sz base:Nat)(w:A_)(v:B_)(xs:C_ α):Prop:=w.ownsRow base e sz v xs.length (xs.flatMap enc)
section
variable{α:Type}{enc:α->List Value}{e:TypeId}{sz base:Nat}{w w':World}{v:Value}{xs:List α}
def aJ.nil(enc:α->C_ B_)(e:F_)(sz base:Nat)(w:A_):aJ enc e sz base w (.slice none 0 0) []:=World.ownsRow_nil w base e sz
theorem aJ.ext(he:Ext w w')(h:aJ enc e sz base w v xs):aJ enc e sz base w' v xs:=aqD he h
def aJ.wr{b:Nat}(hw:du b w w')(ak:b<base)(h:aJ enc e sz base w v xs):aJ enc e sz base w' v xs :=
 World.ownsRow.kept (row:=some b) h ⟨hw.os,hw.tape,hw.output,by rw[hw.size];exact EC _,λk _ hk=>hw.block k (λe=>hk (by rw[e]))⟩ (by
  cases aF:v.ownBlock with
  | none=>exact .inl rfl
  | some k=>exact .inr (by have:=(World.ownsRow.lt h k aF).1;intro e;injection e with e;omega))
def aJ.lt(h:aJ enc e sz base w v xs):∀k,v.ownBlock=some k->base<=k/\k<w.heap.size:=World.ownsRow.lt h
def aJ.form(h:aJ enc e sz base w v xs):∃aN cap,v = .slice aN xs.length cap/\xs.length<=cap/\cap<=maxLen:=by
 obtain⟨aN,cap,h1,I,ab,_⟩:=adr h;exact⟨aN,cap,h1,I,ab⟩
def aJ.jN(dq:∀x,(enc x).length=sz)(h:aJ enc e sz base w v xs):bm sz (Flat enc) w v xs:=aqF dq h
def aJ.head{aN:H_ Addr}{n cap:Nat}(dq:∀x,(enc x).length=sz)(h:aJ enc e sz base w (.slice aN n cap) xs)(k:Nat)(hk:k<=xs.length):aJ enc e sz base w (.slice aN k cap) (xs.take k):=by
 have mf:∀(xs:C_ α) (k:Nat),(xs.flatMap enc).take (k*sz)=(xs.take k).flatMap enc:=by
  intro xs
  induction xs with
  | nil=>intro k;simp
  | cons x xs fm =>
   intro k;cases k with
   | zero=>simp
   | succ k =>
    simp only[List.flatMap_cons,List.take_succ_cons];rw[List.take_append,dq,show(k+1)*sz - sz=k*sz from by rw[AG9];omega,fm,MC (by rw[dq,AG9];omega)]
 have aE:(xs.take k).length=k:=by simp[List.length_take];omega
 refine⟨by rw[aE,yD dq,aE],?_⟩;rcases h.2 with ⟨h1,I⟩ | ⟨g,qI,cur,h1,I,ab,aC,a1,bJ,cr⟩
 .injection h1 with bF aH aR
  subst bF aR
  have:xs.length=0:=I
  exact .inl ⟨by congr 1;omega,Ad⟩
 .injection h1 with bF aH aR
  subst bF aR;refine .inr ⟨g,cap,cur,by rw[aE],I,ab,Ad,a1,bJ,?_⟩;rw[aE,<-mf,<-cr,AI7,Nat.min_eq_left (AI8 _ hk)]
def _j{P:D_}{cL:B_->A_->Prop}{ty:F_}{b:Nat}{s:B_}{a:Addr}{m c:Nat}{ys:C_ α}{t}(aj:aJ enc e sz base w s xs)(dq:∀x,(enc x).length=sz)(an:fc w a (ys.flatMap enc))(hm:m=ys.length)
  (h1:∀y,∀u∈enc y,u.oneCell'=true)(ak:(xs.length+ys.length)*b<=140737488355328)(lo:xs.length+ys.length<=maxLen)(kI:base<=w.heap.size)
  (hk:∀bU w',aJ enc e sz base w' bU (xs++ys)->w.grownBy w' s.ownBlock->cL bU w'):mw P ty e sz b s (.slice (some a) m c) w cL t:=by
 subst hm;refine AB3 aj an (yD dq ys) (λu hu=>by obtain⟨y,_,bE⟩:=List.mem_flatMap.1 hu;exact h1 y u bE) lo ak kI λbU w' kM aG=>hk bU w' ?_ aG;unfold aJ;rw[MD,AF8];exact kM
end
end a8
namespace a8
open Go Go.RowKit
section
variable{P:Program}{cL:Value->World->Prop}{α:Type}{enc:α->List Value}{e:TypeId}{sz base wm:Nat}{w:World}{s x:Value}{xs ys:List α}
def _n{ty:F_}{b:Nat}{t}(aj:aJ enc e sz base w s xs)(af:aJ enc e sz wm w x ys)(dq:∀x,(enc x).length=sz)(h1:∀y,∀u∈enc y,u.oneCell'=true)(ak:(xs.length+ys.length)*b<=140737488355328)
  (lo:xs.length+ys.length<=maxLen)(kI:base<=w.heap.size)(hk:∀bU w',aJ enc e sz base w' bU (xs++ys)->w.grownBy w' s.ownBlock->cL bU w'):mw P ty e sz b s x w cL t:=by
 rcases af.2 with ⟨rfl,ad⟩ | ⟨g,cap,cur,rfl,J4,aG,ab,aC,a1,bJ⟩
 .have:ys=[]:=AF7 ad
  subst this;rw[SN] at hk;refine _c λ⟨aB,i,z,U,bA,A2,Az,zb,Gy⟩=>?_;exact⟨ty,s,w,run_append_owned_none w base ty ty e i sz aB U s _ _ aj,hk s w aj ⟨rfl,rfl,rfl,EC _,λ_ _ _=>rfl⟩⟩
 .exact _j aj dq (λj u az=>World.ownsRow.cells af (g:=g) rfl j u az) rfl h1 ak lo kI hk
def AB4{R:A_->Addr->α->Prop}[pg R enc]{ty:F_}{b:Nat}{a:Addr}{m c:Nat}{t}(aj:aJ enc e sz base w s xs)(af:bm sz R w (.slice (some a) m c) ys)(dq:∀x,(enc x).length=sz)(h1:∀y,∀u∈enc y,u.oneCell'=true)
  (ak:(xs.length+ys.length)*b<=140737488355328)(lo:xs.length+ys.length<=maxLen)(kI:base<=w.heap.size)(hk:∀bU w',aJ enc e sz base w' bU (xs++ys)->w.grownBy w' s.ownBlock->cL bU w'):mw P ty e sz b s (.slice (some a) m c) w cL t :=
 _j aj dq (bm.flat (enc:=enc) dq (λa x h=>pg.IF _ a x h) af) af.len.1 h1 ak lo kI hk
def aJ.empty{b:Nat}(ak:base<=b)(h:w.heap[b]? = some (.cells #[] e)):aJ enc e sz base w (.slice (some ⟨b,0,none⟩) 0 0) ([]:C_ α):=aqC ak h
def aJ.low{v:B_}(ak:wm<=base)(h:aJ enc e sz base w v xs):aJ enc e sz wm w v xs:=aqE ak h
end
end a8
namespace a8
open Go
def aO(n:Nat):G_:=.tmp n
def cC(n:Int):G_:=.const (.int .i64 n)
def ky(b:Bool):G_:=.const (.bool b)
def cQ(d:Nat)(i:vX):Step:=⟨some d,none,.p i⟩
def pO(d:Nat)(i:vZ):Step:=⟨some d,none,.r i⟩
def dr(d:Nat)(i:s9):Step:=⟨some d,none,.e i⟩
def ih(d:Nat)(i:rl):Step:=⟨some d,none,.c i⟩
def hy(i:s9):Step:=⟨none,none,.e i⟩
def eb(j:Nat)(b:Bool)(s:Step):Step:=⟨s.dst,some (j,b),s.i⟩
def aT(d n:Nat):Step:=⟨some d,none,.p (.lv (.tmp n))⟩
def fI(d:Nat)(x:G_):Step:=⟨some d,none,.p (.lv x)⟩
def fq(d k n:Nat):Step:=⟨some d,none,.p (.jn k (.tmp n))⟩
def eE(d n:Nat):Step:=⟨some d,none,.r (.ld (.tmp n))⟩
def ij(d k a i:Nat):Step:=⟨some d,none,.p (.og k (.tmp a) (.tmp i))⟩
def ys(a v:Nat):Step:=⟨none,none,.e (.st (.tmp a) (.tmp v))⟩
def l2(d n:Nat):Step:=⟨some d,none,.p (.Dv (.tmp n))⟩
def dN:B_:=.int .i64 0
def iK:B_:=.slice none 0 0
def BK:B_:=.string ⟨#[]⟩
def iL(op:BinOp)(t:F_)(d a b:Nat):Step:=⟨some d,none,.p (.bin op t (.tmp a) (.tmp b))⟩
def ki(op:BinOp)(t:F_)(d a:Nat)(n:Int):Step:=⟨some d,none,.p (.bin op t (.tmp a) (.const (.int .i64 n)))⟩
def xY(d a b:Nat):Step:=⟨some d,none,.p (.pick (.tmp a) (.tmp b) (.const (.bool false)))⟩
def pe(d a b:Nat):Step:=⟨some d,none,.p (.pick (.tmp a) (.const (.bool true)) (.tmp b))⟩
def cS(cg:C_ Step)(b:e0):e0:=.seq (.dy cg) b
def kh(n:Nat)(a b:e0):e0:=.cond (.tmp n) a b
def ig(d k n:Nat):Step:=⟨some d,none,.r (.k5 k (.tmp n))⟩
def qy(k a v:Nat):Step:=⟨none,none,.e (.lZ k (.tmp a) (.tmp v))⟩
def NP(d n:Nat):Step:=⟨some d,none,.p (.xA (.tmp n))⟩
def Eb(d n i:Nat):Step:=⟨some d,none,.p (.ext (.tmp n) i)⟩
def ow(d:Nat)(f:E_)(l:C_ Nat):Step:=⟨some d,none,.c (.fn f (l.map .tmp))⟩
def vQ(n m:Nat)(b:e0):e0:=.seq (.cond (.tmp n) .skip (.exit m)) b
def sd(n:Nat)(s:Step):Step:=eb n true s
def l1(n:Nat)(s:Step):Step:=eb n false s
def xX(s:Step)(k:eo):eo:=.take s k
def vP(t:F_)(a b:Nat):e0:=.dy [⟨some a,none,.p (.bin .add t (.tmp b) (.const (.int .i64 1)))⟩,⟨some b,none,.p (.lv (.tmp a))⟩]
def oI{A B:Prop}(k:B)(h:B->A:=by
 intro q
 try dsimp only[aO,cC,ky,cQ,pO,dr,ih,hy,eb,aT,fI,fq,eE,ij,ys,l2,dN,iK,BK,iL,ki,xY,pe,cS,kh,ig,qy,NP,Eb,ow,vQ,vP,sd,l1,xX,List.map_cons,List.map_nil]
 exact q):A:=h k
end a8
namespace a8
open Go Go.RowKit
structure x5(p:Prop):Prop where out:p
theorem aI{A B:Prop}(k:B)(h:x5 B->A:=by
 intro q
 (repeat' first
 | assumption
 | exact Ext.refl _
 | refine Ext.trans ?_ Cd
 | refine Q_ Ad ?_
 | refine _K Cd ?_ rfl ?_
 | refine _E Cd ?_ rfl ?_
 | refine _N Cd ?_ Ad rfl ?_
 | refine _O Cd ?_ Ad rfl ?_
 | refine _P Cd ?_ Ad rfl ?_
 | refine _S Ad ?_
 | refine _Q (by first | assumption | omega) ?_
 | refine _R (by first | assumption | omega) ?_
 | refine _H Cd ?_
 | refine _I Cd ?_
 | simp -dsimp only[dg,cH,Nat.reduceAdd,Nat.reduceEqDiff,reduceIte,reduceCtorEq,dm])
 exact q.out):A:=h ⟨k⟩
theorem eh{F A B:Prop}(f:F)(k:B)(h:F->x5 B->A:=by
 intro f q
 (repeat' first
 | assumption
 | exact Ext.refl _
 | refine Ext.trans ?_ Cd
 | refine Q_ Ad ?_
 | refine _K Cd ?_ rfl ?_
 | refine _E Cd ?_ rfl ?_
 | refine _N Cd ?_ Ad rfl ?_
 | refine _O Cd ?_ Ad rfl ?_
 | refine _P Cd ?_ Ad rfl ?_
 | refine _S Ad ?_
 | refine _Q (by first | assumption | omega) ?_
 | refine _R (by first | assumption | omega) ?_
 | refine _H Cd ?_
 | refine _I Cd ?_
 | simp -dsimp only[dg,cH,Nat.reduceAdd,Nat.reduceEqDiff,reduceIte,reduceCtorEq,dm,f])
 exact q.out):A:=h f ⟨k⟩
theorem rA{A B:Prop}(k:B)(h:x5 B->A:=by
 intro q
 (repeat' first
 | assumption
 | exact Ext.refl _
 | refine Ext.trans ?_ Cd
 | refine Q_ Ad ?_
 | refine _K Cd ?_ rfl ?_
 | refine _E Cd ?_ rfl ?_
 | refine _N Cd ?_ Ad rfl ?_
 | refine _O Cd ?_ Ad rfl ?_
 | refine _P Cd ?_ Ad rfl ?_
 | refine _S Ad ?_
 | refine _Q (by first | assumption | omega) ?_
 | refine _R (by first | assumption | omega) ?_
 | refine _H Cd ?_
 | refine _I Cd ?_
 | simp -dsimp only[dg,Nat.reduceAdd,Nat.reduceEqDiff,reduceIte,reduceCtorEq,dm])
 exact q.out):A:=h ⟨k⟩
def cd{F A B:Prop}(f:F)(k:B)(h:F->x5 B->A:=by
 intro f q;simp -dsimp only[dg,cH,Nat.reduceAdd,Nat.reduceEqDiff,reduceIte,reduceCtorEq,dm,f];exact q.out):A:=h f ⟨k⟩
def vK:C_ (Nat×B_)->Fr->Fr
 | [],S=>S
 | p :: r,S=>cc (vK r S) p.1 p.2
theorem xQ(S:Fr):vK [] S=S:=eq_of_heq (HEq.refl _)
theorem xP(t:Nat)(v:B_)(r:C_ (Nat×B_))(S:Fr):vK ((t,v) :: r) S=cc (vK r S) t v:=eq_of_heq (HEq.refl _)
def Has(S:Fr):C_ (Nat×B_)->Prop
 | []=>True
 | p :: r=>S p.1=p.2/\Has S r
theorem wS(S:Fr):Has S []=True:=propext Iff.rfl
theorem wR(S:Fr)(t:Nat)(v:B_)(r:C_ (Nat×B_)):Has S ((t,v) :: r)=(S t=v/\Has S r):=propext Iff.rfl
theorem Ht{S:Fr}:∀L,Has S L->vK L S=S
 | [],_=>rfl
 | p :: r,h=>by
  show cc (vK r S) p.1 p.2=S;rw[Ht r h.2];exact kf S _ _ h.1
def vu(S:Fr):C_ Nat->Fr->Fr
 | [],aZ=>aZ
 | t :: r,aZ=>cc (vu S r aZ) t (S t)
theorem xq(S aZ:Fr):vu S [] aZ=aZ:=eq_of_heq (HEq.refl _)
theorem xp(S aZ:Fr)(t:Nat)(r:C_ Nat):vu S (t :: r) aZ=cc (vu S r aZ) t (S t):=eq_of_heq (HEq.refl _)
theorem GP{S aZ:Fr}:∀cF:C_ Nat,(∀t∈cF,aZ t=S t)->vu S cF aZ=aZ
 | [],_=>rfl
 | t :: r,h=>by
  show cc (vu S r aZ) t (S t)=aZ;rw[GP r λu hu=>h u (by simp[hu])];exact kf aZ _ _ (h t CC)
def a6{p:Prop}(h:p:=by first | trivial | rfl | exact⟨rfl,trivial⟩ | (simp -dsimp only[dg,xQ,xP,xq,xp,wS,wR,Nat.reduceAdd,Nat.reduceEqDiff,reduceIte,and_self];done) | (simp -dsimp only[dg,xQ,xP,xq,xp,wS,wR,Nat.reduceAdd,Nat.reduceEqDiff,reduceIte,and_self];exact⟨rfl,trivial⟩)):p:=h
def MI{ds cF:C_ Nat}(h:(cF.all λt => !ds.contains t)=true):∀t∈cF,ds.contains t=false:=λt aB=>by
 have:=List.all_eq_true.1 h t aB
 simpa using this
theorem apw{p:Nat->Prop}:∀n,p n->∃m,p m/\∀k,p k->m<=k:=λn=>by
 induction n using Nat.strongRecOn with
 | _ n fm =>
  intro h;by_cases hm:∃k,k<n/\p k
  .obtain⟨k,hk,ar⟩:=hm;exact fm k hk ar
  .exact⟨n,h,λk hk=>Nat.le_of_not_lt λcu=>hm ⟨k,cu,hk⟩⟩
noncomputable def least(p:Nat->Prop):Nat:=open Classical in if h:∃m,p m/\∀k,p k->m<=k then h.choose else 0
def acI{p:Nat->Prop}(h:∃n,p n):p (least p)/\∀k,p k->least p<=k:=by
 obtain⟨n,aw⟩:=h;have hm:=apw n aw;unfold least;rw[dif_pos hm];exact hm.choose_spec
section
variable{P:Program}{Q:fK->Fr->World->Prop}{S:Fr}{w:World}
def L_{β:Type}{b:e0}{t}(i N:Nat)(cF:C_ Nat)(M:β->C_ (Nat×B_))(kT:β)(jj:Nat->β->A_->Prop)(Rc:S i = .I 0)(aL:Has S (M kT))(ad:jj 0 kT w)
  (aS:∀(k:Nat) x aZ w',k<=N->jj k x w' ->
   eZ P b (jD (λga bM=>k<N/\ga i = .I ((k:Int)+1)/\∃BJ,Has ga (M BJ)/\jj (k+1) BJ bM) Q ⟨⟩) (vK (M x) (cc (vu S cF aZ) i (.I k))) w' ⟨⟩)
  (bb:(cF.all λt => !b.gd.contains t)=true:=by rfl):BV P b Q S w t:=by
 refine _h i N (λk S w => ∃x,Has S (M x)/\jj k x w) Rc ⟨kT,aL,ad⟩ ?_;rintro k aZ w' b5 hk U ⟨x,Fz,rL⟩;have h:=aS k x aZ w' hk rL;rw[GP cF λt aB=>b5 t (MI bb t aB),kf aZ i _ U,Ht _ Fz] at h;exact h
def R_{β:Type}{a b:e0}{t}(cF:C_ Nat)(M:β->C_ (Nat×B_))(N:β->A_->Prop)(h1:eZ P a (jD (λga bM => ∃x,Has ga (M x)/\N x bM) Q ⟨⟩) S w ⟨⟩)
  (I:∀x aZ w',N x w'->eZ P b Q (vK (M x) (vu S cF aZ)) w' ⟨⟩)(bb:(cF.all λt => !a.gd.contains t)=true:=by rfl):eZ P (.seq a b) Q S w t:=by
 refine _u _ h1 ?_;rintro aZ w' b5 ⟨x,aL,fj⟩;have h:=I x aZ w' fj;rw[GP cF λt aB=>b5 t (MI bb t aB),Ht _ aL] at h;exact h
theorem _M{β:Type}{b:e0}{t}(cF:C_ Nat)(M:β->C_ (Nat×B_))(kT:β)(jj:β->A_->Prop)(kU:β->Nat)(aL:Has S (M kT))(ad:jj kT w)
  (aS:∀x aZ w',jj x w' ->
   eZ P b (jD (λga bM => ∃BJ,Has ga (M BJ)/\jj BJ bM/\kU BJ<kU x) Q ⟨⟩) (vK (M x) (vu S cF aZ)) w' ⟨⟩)
  (bb:(cF.all λt => !b.gd.contains t)=true:=by rfl):BV P b Q S w t:=by
 refine _A (λS w => ∃x,Has S (M x)/\jj x w) (λS w=>least λn => ∃x,Has S (M x)/\jj x w/\kU x=n) ⟨kT,aL,ad⟩ ?_;rintro aZ w' b5 ⟨x,Fz,rL⟩;obtain⟨⟨y,h1,I,ab⟩,aC⟩:=acI (p:=λn => ∃x,Has aZ (M x)/\jj x w'/\kU x=n) ⟨kU x,x,Fz,rL,rfl⟩;have h:=aS y aZ w' I;rw[GP cF λt aB=>b5 t (MI bb t aB),Ht _ h1] at h;unfold eZ jD at *;refine qx b _ _ aZ w' (λe ga bM _ h=>?_) h
 match e,h with
 | .normal,⟨z,cK,cV,fo⟩ =>
  refine⟨⟨z,cK,cV⟩,?_⟩;have a1:=(acI (p:=λn => ∃x,Has ga (M x)/\jj x bM/\kU x=n) ⟨kU z,z,cK,cV,rfl⟩).2 (kU z) ⟨z,cK,cV,rfl⟩;show least _<least _;rw[<-ab];omega
 | .exit _,h=>exact h
 | .ret,h=>exact h
 | .ht _,h=>exact h
end
end a8
namespace o
open Go
def letter(n:Int):Bool:=decide (97<=n/\n<=122\/65<=n/\n<=90)
def digit(n:Int):Bool:=decide (48<=n/\n<=57)
def part(n:Int):Bool:=letter n||digit n||decide (n=95)
def tt(s:ByteArray)(i:Nat):Nat:=(s.get! i).toNat
def run(p:Int->Bool)(s:ByteArray):Nat:=(s.data.toList.takeWhile λb=>p b.toNat).length
theorem ae9{α:Type}(p:α->Bool):∀(l:C_ α) (n:Nat) (h:n<l.length),(∀j (az:j<n),p (l[j]' Ad)=true)->p l[n]=false->(l.takeWhile p).length=n
 | [],n,h,_,_=>by simp at h
 | x :: l,0,h,_,I=>by simp at I;simp[I]
 | x :: l,n+1,h,h1,I=>by
  have af:p x=true:=h1 0 Ad;rw[List.takeWhile_cons,if_pos af,AG7,ae9 p l n (by simpa using h) (λj az=>h1 (j+1) Ad) (by simpa using I)]
theorem ae8{α:Type}(p:α->Bool):∀(l:C_ α) (_:∀j (az:j<l.length),p l[j]=true),(l.takeWhile p).length=l.length
 | [],_=>rfl
 | x :: l,h=>by
  have af:p x=true:=h 0 CC;rw[List.takeWhile_cons,if_pos af,AG7,ae8 p l (λj az=>h (j+1) (by simpa using az)),AG7]
def aez(p:Int->Bool)(s:ByteArray)(n:Nat)(h:n<s.size)(h1:∀j (az:j<n),p (s[j]' Ad).toNat=true)(I:p s[n].toNat=false):run p s=n :=
 ae9 (λb:UInt8=>p b.toNat) s.data.toList n (by simpa using h) (λj az=>h1 j az) I
def aer(p:Int->Bool)(s:ByteArray)(h:∀j (az:j<s.size),p s[j].toNat=true):run p s=s.size:=by
 have:=ae8 (λb:UInt8=>p b.toNat) s.data.toList (λj az=>h j (by simpa using az))
 rw[run,this];simp
def aiz{p:Int->Bool}(ar:∀r:Int,128<=r->p r=false)(s:ByteArray)(pos:Nat)(h:pos<s.size) :
  p (Utf8.decode s pos).1=p s[pos].toNat/\(p s[pos].toNat=true->(Utf8.decode s pos).2=1):=by
 by_cases aY:s[pos].toNat<128
 .rw[decode_ascii s pos h aY];exact⟨rfl,λ_=>rfl⟩
 .have h1:=decode_high s pos h Ad;rw[ar _ Ad,ar _ Ad];exact⟨rfl,λh=>by simp at h⟩
theorem apa(r:Int)(h:128<=r):letter r=false:=by simp[letter];omega
theorem aiF(r:Int)(h:128<=r):digit r=false:=by simp[digit];omega
def aqT(r:Int)(h:128<=r):part r=false:=by simp[part,apa r h,aiF r h];omega
instance awS:LawfulBEq ByteArray where
 eq_of_beq {a b} h:=by rw[a8.EJ] at h;exact of_decide_eq_true h
 rfl {a}:=by rw[a8.EJ];exact decide_eq_true rfl
def r2:C_ ByteArray:=[⟨#[115,101,108,102]⟩,⟨#[110,111,110,101]⟩,⟨#[108,101,110]⟩,⟨#[97,116]⟩]
def isName(s:ByteArray):Bool:=decide (s.size≠0)&&decide (s.size<=16)&&letter (tt s 0)&&decide (run part s=s.size) && !decide (s∈r2)
def asG(p:Int->Bool)(s:ByteArray):run p s<=s.size:=by
 have:=(List.takeWhile_sublist (λb:UInt8=>p b.toNat) (l:=s.data.toList)).length_le
 simpa[run] using this
def get_eq(s:ByteArray)(i:Nat)(h:i<s.size):s.get! i=s[i]:=by
 obtain⟨d⟩:=s;show d[i]! = d[i];exact getElem!_pos d i h
def get?_eq(s:ByteArray)(i:Nat)(h:i<s.size):s[i]? = some (s.get! i):=by rw[get_eq s i h];exact getElem?_pos s i h
structure Scalar where
 name:ByteArray
 size:Int
structure Var where
 name:ByteArray
 scalar:Int
 over:Int
 aV:Int
 U:Int
 init:Int
structure dZ where
 name:ByteArray
 scalar:Int
 cap:Int
 aV:Int
 U:Int
 acR:Bool
def size(k:Int)(s:C_ Scalar):Int :=
 match s[(k - 1).toNat]? with
 | some x=>if 1<=k/\1<=x.size/\x.size<=4 then x.size else 0
 | none=>0
def narrow(aV U:Int):Bool:=decide (-1048576<=aV/\aV<=U/\U<=1048576/\U - aV<256)
def there(k:Int)(s:C_ Scalar):Bool:=decide (k=0\/size k s≠0)
def err(fV:Int)(gl:Nat->ByteArray)(mo:Nat->Int)(i:Nat):Int :=
 if fV<=i then 11 else if isName (gl i)=false then 6 else if ∃j,j<i/\gl j=gl i then 7 else mo i
def first(n:Nat)(e:Nat->Int):Int×Int:=match (List.range n).find? (λi=>decide (e i≠0)) with | some i=>((i:Int),e i) | none=>(0,0)
def jG{n:Nat}{e:Nat->Int}{i:Nat}(U:i<n)(h1:∀j,j<i->e j=0)(I:e i≠0):first n e=((i:Int),e i):=by
 have:(List.range n).find? (λi=>decide (e i≠0))=some i:=by
  rw[List.find?_range_eq_some];simp only[decide_eq_true_eq];exact⟨I,by simpa using U,λj az=>by simp[h1 j az]⟩
 rw[first,this]
def p3{n:Nat}{e:Nat->Int}(h:∀j,j<n->e j=0):first n e=(0,0):=by
 have:(List.range n).find? (λi=>decide (e i≠0))=none:=by
  rw[List.find?_range_eq_none];intro j az;simp[h j az]
 rw[first,this]
def Zi{n:Nat}{e e':Nat->Int}(h:∀j,j<n->e j=e' j):first n e=first n e':=by
 by_cases af:∃i,i<n/\e i≠0/\∀j,j<i->e j=0
 .obtain⟨i,U,h1,I⟩:=af;rw[jG U I h1,jG U (λj az=>by rw[<-h j Ad];exact I j az) (by rw[<-h i U];exact h1),h i U]
 .have bA:∀j,j<n->e j=0:=by
   intro j
   induction j using Nat.strongRecOn with
   | _ j fm =>
    intro az;by_cases ad:e j=0
    .exact ad
    .exact absurd ⟨j,az,ad,λk hk=>fm k hk Ad⟩ af
  rw[p3 bA,p3 λj az=>by rw[<-h j az];exact bA j az]
def nameAt{α:Type}(f:α->ByteArray)(l:C_ α)(i:Nat):ByteArray:=(l[i]?.map f).getD ⟨#[]⟩
def vH(l:C_ Scalar)(i:Nat):Int:=match l[i]? with | some x=>if 1<=x.size/\x.size<=4 then 0 else 10 | none=>0
def scalars(l:C_ Scalar):Int×Int:=first l.length (err 2 (nameAt (·.name) l) (vH l))
def bounds(v:Var)(s:C_ Scalar):Int×Int:=if v.scalar=0 then (v.aV,v.U) else (0,size v.scalar s)
def cells(v:Var)(s:C_ Scalar):Int:=if v.over=0 then 1 else size v.over s
def qw(l:C_ Var)(s:C_ Scalar)(i:Nat):Int :=
 match l[i]? with
 | some v=>if there v.scalar s=false\/there v.over s=false then 8
  else if (v.scalar=0/\narrow v.aV v.U=false)\/v.init<(bounds v s).1\/v.init > (bounds v s).2 then 10 else 0
 | none=>0
def vars(l:C_ Var)(s:C_ Scalar)(fV:Int):Int×Int:=first l.length (err (max fV 0) (nameAt (·.name) l) (qw l s))
def p2(l:C_ dZ)(s:C_ Scalar)(i:Nat):Int :=
 match l[i]? with
 | some c=>if there c.scalar s=false then 8
  else if c.cap<1\/c.cap > 4\/(c.scalar=0/\narrow c.aV c.U=false) then 10 else 0
 | none=>0
def ax(l:C_ dZ)(s:C_ Scalar):Int×Int:=first l.length (err 4 (nameAt (·.name) l) (p2 l s))
end o
namespace o
open Go Go.RowKit a8
def Scalar.enc(x:Scalar):C_ B_:=[.string x.name,.int .i64 x.size]
def Var.enc(x:Var):C_ B_:=[.string x.name,.int .i64 x.scalar,.int .i64 x.over,.int .i64 x.aV,.int .i64 x.U,.int .i64 x.init]
def dZ.enc(x:dZ):C_ B_:=[.string x.name,.int .i64 x.scalar,.int .i64 x.cap,.int .i64 x.aV,.int .i64 x.U,.bool x.acR]
def jP(s:ByteArray):Prop:=s.size<=9223372036854775807
instance aw8(s:ByteArray):Decidable (jP s):=Nat.decLe _ _
structure kj(w:World)(a:Addr)(x:Scalar):Prop where
 cells:fc w a x.enc
 ok:jP x.name
structure rv(w:World)(a:Addr)(x:Var):Prop where
 cells:fc w a x.enc
 ok:jP x.name
structure ru(w:World)(a:Addr)(x:dZ):Prop where
 cells:fc w a x.enc
 ok:jP x.name
theorem kj.ext(w w':A_)(a:Addr)(x:Scalar)(he:Ext w w')(h:kj w a x):kj w' a x:=⟨h.cells.ext he,h.ok⟩
theorem rv.ext(w w':A_)(a:Addr)(x:Var)(he:Ext w w')(h:rv w a x):rv w' a x:=⟨h.cells.ext he,h.ok⟩
theorem ru.ext(w w':A_)(a:Addr)(x:dZ)(he:Ext w w')(h:ru w a x):ru w' a x:=⟨h.cells.ext he,h.ok⟩
abbrev il(w:A_)(v:B_)(l:C_ Scalar):Prop:=bm 2 kj w v l
abbrev hZ(w:A_)(v:B_)(l:C_ Var):Prop:=bm 6 rv w v l
abbrev nH(w:A_)(v:B_)(l:C_ dZ):Prop:=bm 6 ru w v l
def hZ.cy{w:A_}{b n:Nat}{e:F_}{f:Nat×Nat}{xs:C_ Var}(ak:w.heap[b]? = some (.cells (xs.flatMap Var.enc).toArray e f))(aw:n=xs.length)(hm:xs.length<=maxLen)(c8:∀x∈xs,jP x.name) :
  hZ w (.slice (some ⟨b,0,none⟩) n n) xs:=bm.cy (enc:=Var.enc) (λ_=>rfl) ak aw hm λ_ x af an=>⟨an,c8 x af⟩
structure Node where
 op:Int
 n:Int
structure Act where
 kind:Int
 to:Int
 loc:Int
 index:List Node
 value:List Node
structure dI where
 name:ByteArray
 from_:Int
 to:Int
 guard:List Node
 bP:List Act
 fair:Bool
structure dt where
 name:ByteArray
 over:Int
 cm:Int
 vars:List Var
 c0:List dI
structure lE where
 name:ByteArray
 expr:List Node
structure Model where
 scalars:List Scalar
 vars:List Var
 ax:List dZ
 procs:List dt
 props:List lE
structure cO where
 proc:Int
 elem:Int
deriving DecidableEq
structure Ref where
 inst:Int
 cmd:Int
deriving DecidableEq
def cO.enc(x:cO):C_ B_:=[.int .i64 x.proc,.int .i64 x.elem]
def Ref.enc(x:Ref):C_ B_:=[.int .i64 x.inst,.int .i64 x.cmd]
def Node.enc(x:Node):C_ B_:=[.int .i64 x.op,.int .i64 x.n]
def dX(n:Int):Prop := -9223372036854775808<=n/\n<=9223372036854775807
structure Node.ok(x:Node):Prop where
 op:dX x.op
 n:dX x.n
structure zQ(w:World)(a:Addr)(x:Node):Prop where
 cells:fc w a x.enc
 ok:x.ok
theorem zQ.ext(w w':A_)(a:Addr)(x:Node)(he:Ext w w')(h:zQ w a x):zQ w' a x:=⟨h.cells.ext he,h.ok⟩
abbrev eS(w:A_)(v:B_)(l:C_ Node):Prop:=bm 2 zQ w v l
theorem eS.ext{w w':A_}{v:B_}{l:C_ Node}(he:Ext w w')(h:eS w v l):eS w' v l:=bm.ext zQ.ext he h
def Act.enc(x:Act)(bK bY:B_):C_ B_:=[.int .i64 x.kind,.int .i64 x.to,.int .i64 x.loc,bK,bY]
def zM(w:A_)(a:Addr)(x:Act):Prop := ∃bK bY,fc w a (x.enc bK bY)/\eS w bK x.index/\eS w bY x.value
theorem zM.ext(w w':A_)(a:Addr)(x:Act)(he:Ext w w')(h:zM w a x):zM w' a x:=let ⟨bK,bY,h1,I,ab⟩:=h; ⟨bK,bY,h1.ext he,I.ext he,ab.ext he⟩
abbrev mv(w:A_)(v:B_)(l:C_ Act):Prop:=bm 5 zM w v l
theorem mv.ext{w w':A_}{v:B_}{l:C_ Act}(he:Ext w w')(h:mv w v l):mv w' v l:=bm.ext zM.ext he h
def dI.enc(x:dI)(fi va:B_):C_ B_:=[.string x.name,.int .i64 x.from_,.int .i64 x.to,fi,va,.bool x.fair]
def zN(w:A_)(a:Addr)(x:dI):Prop:=jP x.name/\∃fi va,fc w a (x.enc fi va)/\eS w fi x.guard/\mv w va x.bP
theorem zN.ext(w w':A_)(a:Addr)(x:dI)(he:Ext w w')(h:zN w a x):zN w' a x:=let ⟨ad,bK,bY,h1,I,ab⟩:=h; ⟨ad,bK,bY,h1.ext he,I.ext he,ab.ext he⟩
abbrev sg(w:A_)(v:B_)(l:C_ dI):Prop:=bm 6 zN w v l
theorem sg.ext{w w':A_}{v:B_}{l:C_ dI}(he:Ext w w')(h:sg w v l):sg w' v l:=bm.ext zN.ext he h
theorem il.ext{w w':A_}{v:B_}{l:C_ Scalar}(he:Ext w w')(h:il w v l):il w' v l:=bm.ext kj.ext he h
theorem hZ.ext{w w':A_}{v:B_}{l:C_ Var}(he:Ext w w')(h:hZ w v l):hZ w' v l:=bm.ext rv.ext he h
theorem nH.ext{w w':A_}{v:B_}{l:C_ dZ}(he:Ext w w')(h:nH w v l):nH w' v l:=bm.ext ru.ext he h
def dt.enc(x:dt)(bY dV:B_):C_ B_:=[.string x.name,.int .i64 x.over,.int .i64 x.cm,bY,dV]
def B2(w:A_)(a:Addr)(x:dt):Prop:=jP x.name/\∃bY dV,fc w a (x.enc bY dV)/\hZ w bY x.vars/\sg w dV x.c0
theorem B2.ext(w w':A_)(a:Addr)(x:dt)(he:Ext w w')(h:B2 w a x):B2 w' a x:=let ⟨ad,bK,bY,h1,I,ab⟩:=h; ⟨ad,bK,bY,h1.ext he,I.ext he,ab.ext he⟩
abbrev rr(w:A_)(v:B_)(l:C_ dt):Prop:=bm 5 B2 w v l
theorem rr.ext{w w':A_}{v:B_}{l:C_ dt}(he:Ext w w')(h:rr w v l):rr w' v l:=bm.ext B2.ext he h
def BQ(w:A_)(cs:C_ B_)(c:dI):Prop:=jP c.name/\∃fi va,cs=c.enc fi va/\eS w fi c.guard/\mv w va c.bP
theorem BQ.ext{w w':A_}{cs:C_ B_}{c:dI}(he:Ext w w')(h:BQ w cs c):BQ w' cs c:=let ⟨ad,bK,bY,h1,I,ab⟩:=h; ⟨ad,bK,bY,h1,I.ext he,ab.ext he⟩
def yc(w:A_)(cs:C_ B_)(p:dt):Prop:=jP p.name/\∃bY dV,cs=p.enc bY dV/\hZ w bY p.vars/\sg w dV p.c0
theorem yc.ext{w w':A_}{cs:C_ B_}{p:dt}(he:Ext w w')(h:yc w cs p):yc w' cs p:=let ⟨ad,bK,bY,h1,I,ab⟩:=h; ⟨ad,bK,bY,h1,I.ext he,ab.ext he⟩
def lE.enc(x:lE)(gP:B_):C_ B_:=[.string x.name,gP]
def B3(w:A_)(a:Addr)(x:lE):Prop:=jP x.name/\∃gP,fc w a (x.enc gP)/\eS w gP x.expr
theorem B3.ext(w w':A_)(a:Addr)(x:lE)(he:Ext w w')(h:B3 w a x):B3 w' a x:=let ⟨ad,bK,h1,I⟩:=h; ⟨ad,bK,h1.ext he,I.ext he⟩
abbrev B0(w:A_)(v:B_)(l:C_ lE):Prop:=bm 2 B3 w v l
theorem B0.ext{w w':A_}{v:B_}{l:C_ lE}(he:Ext w w')(h:B0 w v l):B0 w' v l:=bm.ext B3.ext he h
structure dj(w:World)(cs:List Value)(m:Model):Prop where
 ex:∃v0 v1 v2 v3 v4,cs=[v0,v1,v2,v3,v4]/\il w v0 m.scalars/\hZ w v1 m.vars/\nH w v2 m.ax/\rr w v3 m.procs/\B0 w v4 m.props
theorem dj.ext{w w':A_}{cs:C_ B_}{m:Model}(he:Ext w w')(h:dj w cs m):dj w' cs m :=
 let ⟨v0,v1,v2,v3,v4,e,ad,h1,I,ab,aC⟩:=h.ex
 ⟨v0,v1,v2,v3,v4,e,ad.ext he,h1.ext he,I.ext he,ab.ext he,aC.ext he⟩
instance awP:pg zQ Node.enc:=⟨λ_ _ _ h=>h.cells⟩
instance awQ:pg kj Scalar.enc:=⟨λ_ _ _ h=>h.cells⟩
instance awR:pg rv Var.enc:=⟨λ_ _ _ h=>h.cells⟩
instance awL:pg ru dZ.enc:=⟨λ_ _ _ h=>h.cells⟩
end o
namespace a8
open Go Go.RowKit
section
variable{P:Program}{bj:Value->Prop}{w w0:World}
def _3{a:Addr}{cs:C_ B_}{j:Nat}{v:B_}{t}(h:fc w0 a cs)(he:Ext w0 w)(az:cs[j]? = some v)(hk:bj v):uD (.pointer (some (a.add j))) w bj t:=M_ (he.cell (h j v az)) hk
def _4{a:Addr}{cs:C_ B_}{n:Nat}{t}(h:fc w0 a cs)(he:Ext w0 w)(aw:cs.length=n)(hk:bj (.agg cs.toArray)):x8 n (.pointer (some a)) w bj t:=Z_ (h.ext he) aw hk
end
theorem aa{A B:Prop}(k:B)(h:x5 B->A:=by
 intro q
 (repeat' first
 | assumption
 | exact Ext.refl _
 | refine Ext.trans ?_ Cd
 | simp -dsimp only[dg,cH,Nat.reduceAdd,Nat.reduceEqDiff,reduceIte,reduceCtorEq,dm,xQ,xP,xq,xp,wS,wR,List.cons_append,List.nil_append]
 | refine Q_ Ad ?_
 | refine _K Cd ?_ rfl ?_
 | refine _E Cd ?_ rfl ?_
 | refine _S Ad ?_
 | refine _Q (by first | assumption | omega) ?_
 | refine _R (by first | assumption | omega) ?_
 | refine _H Cd ?_
 | refine _I Cd ?_
 | refine _N Cd ?_ Ad rfl ?_
 | refine _O Cd ?_ Ad rfl ?_
 | refine _P Cd ?_ Ad rfl ?_
 | refine _3 Cd ?_ rfl ?_
 | refine _4 Cd ?_ rfl ?_
 | refine T_ Cd ?_ rfl ?_
 | refine _L (λ_=>by (simp -dsimp only[dg,Nat.reduceAdd,Nat.reduceEqDiff,reduceIte,reduceCtorEq,dm]);rfl) rfl rfl (by first | assumption | (simp[Value.oneCell',o.cO.enc,o.Ref.enc,o.Node.enc,o.Scalar.enc,o.Var.enc,o.dZ.enc,o.Act.enc,o.dI.enc,o.dt.enc,o.lE.enc];done)) ?_
 | refine O_ ?_
 | refine U_ Cd rfl rfl (by first | assumption | (simp[Value.oneCell',o.cO.enc,o.Ref.enc,o.Node.enc,o.Scalar.enc,o.Var.enc,o.dZ.enc,o.Act.enc,o.dI.enc,o.dt.enc,o.lE.enc];done)) ?_
 | refine _G Cd (Nat.le_of_ble_eq_true rfl) rfl ?_
 | refine _V Cd (Nat.le_of_ble_eq_true rfl) rfl ?_
 | refine _D (by (simp only[gC,lay,oO,dc,bD,Value.cells,Nat.reduceAdd,Nat.reduceEqDiff,reduceIte,List.range,List.range.loop,List.map_cons,List.map_nil]);rfl) ?_
 | refine X_ (by (simp only[gC,lay,oO,dc,bD,Value.cells,Nat.reduceAdd,Nat.reduceEqDiff,reduceIte]);rfl) ?_)
 exact q.out):A:=h ⟨k⟩
theorem dS{A B:Prop}(k:B)(h:x5 B->A:=by
 intro q
 (repeat' first
 | assumption
 | exact Ext.refl _
 | refine Ext.trans ?_ Cd
 | simp -dsimp only[dg,Nat.reduceAdd,Nat.reduceEqDiff,reduceIte,reduceCtorEq,dm,xQ,xP,xq,xp,wS,wR,List.cons_append,List.nil_append]
 | refine Q_ Ad ?_
 | refine _K Cd ?_ rfl ?_
 | refine _E Cd ?_ rfl ?_
 | refine _S Ad ?_
 | refine _Q (by first | assumption | omega) ?_
 | refine _R (by first | assumption | omega) ?_
 | refine _H Cd ?_
 | refine _I Cd ?_
 | refine _N Cd ?_ Ad rfl ?_
 | refine _O Cd ?_ Ad rfl ?_
 | refine _P Cd ?_ Ad rfl ?_
 | refine _3 Cd ?_ rfl ?_
 | refine _4 Cd ?_ rfl ?_
 | refine T_ Cd ?_ rfl ?_
 | refine _L (λ_=>by (simp -dsimp only[dg,Nat.reduceAdd,Nat.reduceEqDiff,reduceIte,reduceCtorEq,dm]);rfl) rfl rfl (by first | assumption | (simp[Value.oneCell',o.cO.enc,o.Ref.enc,o.Node.enc,o.Scalar.enc,o.Var.enc,o.dZ.enc,o.Act.enc,o.dI.enc,o.dt.enc,o.lE.enc];done)) ?_
 | refine O_ ?_
 | refine U_ Cd rfl rfl (by first | assumption | (simp[Value.oneCell',o.cO.enc,o.Ref.enc,o.Node.enc,o.Scalar.enc,o.Var.enc,o.dZ.enc,o.Act.enc,o.dI.enc,o.dt.enc,o.lE.enc];done)) ?_
 | refine _G Cd (Nat.le_of_ble_eq_true rfl) rfl ?_
 | refine _V Cd (Nat.le_of_ble_eq_true rfl) rfl ?_
 | refine _D (by (simp only[gC,lay,oO,dc,bD,Value.cells,Nat.reduceAdd,Nat.reduceEqDiff,reduceIte,List.range,List.range.loop,List.map_cons,List.map_nil]);rfl) ?_
 | refine X_ (by (simp only[gC,lay,oO,dc,bD,Value.cells,Nat.reduceAdd,Nat.reduceEqDiff,reduceIte]);rfl) ?_)
 exact q.out):A:=h ⟨k⟩
end a8