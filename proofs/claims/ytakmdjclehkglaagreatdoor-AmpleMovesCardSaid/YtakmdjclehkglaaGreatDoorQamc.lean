/- Parts. -/
import Derived.Test.YtakmdjclehkglaaGreatDoorQamb
import Derived.RowKit
import Derived.ChangeSame
import Derived.Carry
import Derived.OpenShut
import Derived.Deep.Slices
import Derived.Deep.Fields
import Derived.Lib.LaidTab
import Derived.Laws.OwnMore
import Derived.Lib.RuneCount
import Derived.Lib.TrimU
set_option linter.all false
namespace ba
open Go Go.RowKit
structure Tok{α:Type}(a:α):Type where
def e5(P:D_)(c:e6)(Q:fM->Fr->A_->Prop)(S:Fr)(w:A_)(_:Tok (P,c,Q)):Prop:=dQ P c Q S w
def qC(P:D_)(cj:C_ Step)(S:Fr)(w:A_)(K:Fr->A_->Prop)(_:Tok (P,cj,K)):Prop:=steps P cj S w K
def sg(P:D_)(cj:C_ Step)(S:Fr)(w:A_)(K:Fr->Prop)(_:Tok (P,cj,K)):Prop:=uH P cj S w K
def lo(P:D_)(w0:A_)(x:eu)(S:Fr)(w:A_)(K:Fr->A_->Prop)(_:Tok (P,w0,x,K)):Prop:=nP P w0 x S w K
def NI(P:D_)(w0:A_)(s:Step)(S:Fr)(K:Fr->Prop)(_:Tok (P,w0,s,K)):Prop:=HX P w0 s S K
def CW(P:D_)(s:Step)(S:Fr)(w:A_)(K:Fr->A_->Prop)(_:Tok (P,s,K)):Prop:=nE P s S w K
def Cw(P:D_)(w0:A_)(s:Step)(S:Fr)(w:A_)(K:Fr->A_->Prop)(_:Tok (P,w0,s,K)):Prop:=E0 P w0 s S w K
def zY(P:D_)(i:Ins)(S:Fr)(w:A_)(K:B_->A_->Prop)(_:Tok (P,i,K)):Prop:=k3 P i S w K
def wm(P:D_)(i:Ins)(S:Fr)(w:A_)(K:B_->A_->Prop)(_:Tok (P,i,K)):Prop:=mN P i S w K
def ED(P:D_)(i:rE)(S:Fr)(w:A_)(K:B_->A_->Prop)(_:Tok (P,i,K)):Prop:=Vy P i S w K
def B8(P:D_)(x:B_)(l:C_ B_)(w:A_)(K:B_->A_->Prop)(_:Tok (P,K)):Prop:=Vz P x l w K
def yr(P:D_)(i:Ins)(S:Fr)(w:A_)(K:B_->Prop)(_:Tok (P,i,K)):Prop:=mO P i S w K
def ES(P:D_)(i:rE)(S:Fr)(w:A_)(K:B_->Prop)(_:Tok (P,i,K)):Prop:=agB P i S w K
def ON(P:D_)(f:E_)(l:C_ B_)(w:A_)(K:B_->Prop)(_:Tok (P,f,K)):Prop:=Xa P f l w K
def IJ(P:D_)(x:B_)(l:C_ B_)(w:A_)(K:B_->Prop)(_:Tok (P,K)):Prop:=agD P x l w K
def jr(P:D_)(i:wq)(S:Fr)(K:B_->Prop)(_:Tok (P,i,K)):Prop:=nT P i S K
def yt(i:wv)(S:Fr)(w:A_)(K:B_->Prop)(_:Tok (i,K)):Prop:=oM i S w K
def p4(P:D_)(i:tn)(S:Fr)(w:A_)(K:B_->A_->Prop)(_:Tok (P,i,K)):Prop:=oJ P i S w K
def EC(P:D_)(i:rE)(S:Fr)(w:A_)(K:B_->A_->Prop)(_:Tok (P,i,K)):Prop:=ss P i S w K
def kJ(P:D_)(op:BinOp)(t:F_)(eF:G_)(eR:G_)(x:B_)(y:B_)(K:B_->Prop)(_:Tok (P,op,t,eF,eR,K)):Prop:=nu P op t eF eR x y K
def IL(op:UnOp)(x:B_)(K:B_->Prop)(_:Tok (op,K)):Prop:=Cr op x K
def Ob(k:IntKind)(x:B_)(K:B_->Prop)(_:Tok (k,K)):Prop:=Ip k x K
def u1(k:IntKind)(n:Int)(K:B_->Prop)(_:Tok (k,K)):Prop:=tx k n K
def p2(v:B_)(A:Prop)(B:Prop)(_:Tok (A,B)):Prop:=nw v A B
def rF(v:B_)(b:Bool)(A:Prop)(B:Prop)(C:Prop)(_:Tok (b,A,B,C)):Prop:=mM v b A B C
def Ol(off:Nat)(x:B_)(K:B_->Prop)(_:Tok (off,K)):Prop:=Iu off x K
def EK(sz:Nat)(x:B_)(i:B_)(K:B_->Prop)(_:Tok (sz,K)):Prop:=Cd sz x i K
def Oq(len:Nat)(sz:Nat)(x:B_)(i:B_)(K:B_->Prop)(_:Tok (len,sz,K)):Prop:=Oo len sz x i K
def Ow(x:B_)(i:B_)(K:B_->Prop)(_:Tok (K)):Prop:=Ov x i K
def Ou(len:Nat)(x:B_)(i:B_)(K:B_->Prop)(_:Tok (len,K)):Prop:=Ot len x i K
def On(off:Nat)(x:B_)(K:B_->Prop)(_:Tok (off,K)):Prop:=Iw off x K
def Om(off:Nat)(n:Nat)(x:B_)(K:B_->Prop)(_:Tok (off,n,K)):Prop:=Iv off n x K
def N9(S:Fr)(z:C_ B_)(pl:C_ (Nat×Nat))(dA:C_ (Nat×G_))(K:B_->Prop)(_:Tok (z,pl,dA,K)):Prop:=N8 S z pl dA K
def tw(S:Fr)(sz:Nat)(x:B_)(aV:H_ G_)(U:H_ G_)(mx:H_ G_)(K:B_->Prop)(_:Tok (sz,aV,U,mx,K)):Prop:=OS S sz x aV U mx K
def OR(S:Fr)(x:B_)(aV:H_ G_)(U:H_ G_)(K:B_->Prop)(_:Tok (aV,U,K)):Prop:=OQ S x aV U K
def EJ(x:B_)(i:Nat)(K:B_->Prop)(_:Tok (i,K)):Prop:=yj x i K
def OB(x:B_)(K:B_->Prop)(_:Tok (K)):Prop:=IC x K
def Oy(x:B_)(K:B_->Prop)(_:Tok (K)):Prop:=IB x K
def Oa(x:B_)(K:B_->Prop)(_:Tok (K)):Prop:=Io x K
def OD(x:B_)(y:B_)(K:B_->Prop)(_:Tok (K)):Prop:=IE x y K
def OE(x:B_)(y:B_)(K:B_->Prop)(_:Tok (K)):Prop:=IF x y K
def IG(x:B_)(K:B_->Prop)(_:Tok (K)):Prop:=zZ x K
def uS(x:B_)(w:A_)(K:B_->Prop)(_:Tok (K)):Prop:=IA x w K
def yn(n:Nat)(x:B_)(w:A_)(K:B_->Prop)(_:Tok (n,K)):Prop:=Iz n x w K
def EM(d:TypeDesc)(z:B_)(ok:Bool)(m:B_)(k:B_)(w:A_)(K:B_->Prop)(_:Tok (d,z,ok,K)):Prop:=OC d z ok m k w K
def OA(m:B_)(w:A_)(K:B_->Prop)(_:Tok (K)):Prop:=Oz m w K
def sy(x:B_)(v:B_)(w:A_)(K:A_->Prop)(_:Tok (K)):Prop:=wz x v w K
def Cq(n:Nat)(x:B_)(v:B_)(w:A_)(K:A_->Prop)(_:Tok (n,K)):Prop:=Cp n x v w K
def EN(e:F_)(sz:Nat)(b:Nat)(z:B_)(l:B_)(c:B_)(w:A_)(K:B_->A_->Prop)(_:Tok (e,sz,b,z,K)):Prop:=OF e sz b z l c w K
def Ij(S:Fr)(e:F_)(len:Nat)(sz:Nat)(z:C_ B_)(dA:C_ (Nat×G_))(w:A_)(K:B_->A_->Prop)(_:Tok (e,len,sz,z,dA,K)):Prop:=Ii S e len sz z dA w K
def mH(P:D_)(t:F_)(e:F_)(sz:Nat)(b:Nat)(s:B_)(x:B_)(w:A_)(K:B_->A_->Prop)(_:Tok (P,t,e,sz,b,K)):Prop:=zT P t e sz b s x w K
def Ch(d:TypeDesc)(m:B_)(k:B_)(v:B_)(w:A_)(K:A_->Prop)(_:Tok (d,K)):Prop:=OG d m k v w K
def OK(x:B_)(w:A_)(K:B_->A_->Prop)(_:Tok (K)):Prop:=OJ x w K
def OP(x:B_)(w:A_)(K:B_->A_->Prop)(_:Tok (K)):Prop:=Xk x w K
def uW(P:D_)(op:Op)(ty:F_)(S:Fr)(w:A_)(K:B_->A_->Prop)(_:Tok (P,op,ty,K)):Prop:=Xi P op ty S w K
def Im(P:D_)(f:E_)(l:C_ B_)(w:A_)(K:B_->A_->Prop)(_:Tok (P,f,K)):Prop:=Il P f l w K
def OT(P:D_)(f:E_)(l:C_ B_)(w:A_)(K:B_->A_->Prop)(Z:C_ PanicEntry->A_->Prop)(_:Tok (P,f,K,Z)):Prop:=Af P f l w K Z
def B6(P:D_)(x:B_)(m:String)(l:C_ B_)(w:A_)(K:B_->A_->Prop)(_:Tok (P,m,K)):Prop:=EE P x m l w K
def Xb(P:D_)(x:B_)(m:String)(l:C_ B_)(w:A_)(K:B_->Prop)(_:Tok (P,m,K)):Prop:=agC P x m l w K
def OM(v:B_)(Z:C_ PanicEntry->Prop)(_:Tok (Z)):Prop:=wu v Z
def yf(P:D_)(x:B_)(l:C_ B_)(w:A_)(K:B_->A_->Prop)(_:Tok (P,K)):Prop:=B7 P x l w K
def EO(t:F_)(cs:Array B_)(w:A_)(K:B_->A_->Prop)(_:Tok (t,K)):Prop:=agu t cs w K
def OI(w:A_)(K:B_->A_->Prop)(_:Tok (K)):Prop:=agt w K
def Cf(P:D_)(b:e6)(Q:fM->Fr->A_->Prop)(S:Fr)(w:A_)(_:Tok (P,b,Q)):Prop:=Ws P b Q S w
def oE(r:C_ nz)(S:Fr)(w:A_)(K:C_ B_->Prop)(_:Tok (r,K)):Prop:=qy r S w K
def jI(N:Fr->A_->Prop)(Q:fM->Fr->A_->Prop)(_:Tok (N,Q)):fM->Fr->A_->Prop:=wa N Q
def yB(i:Nat)(Q:fM->Fr->A_->Prop)(_:Tok (i,Q)):fM->Fr->A_->Prop:=Cz i Q
def tO(r:C_ nz)(R:B_->A_->Prop)(_:Tok (r,R)):fM->Fr->A_->Prop:=FA r R
def CO(r:C_ nz)(R:B_->A_->Prop)(Z:C_ PanicEntry->A_->Prop)(_:Tok (r,R,Z)):fM->Fr->A_->Prop:=Zk r R Z
section
variable{P:Program}{Q:fM->Fr->World->Prop}{N gr:Fr->World->Prop}{qK:Fr->Prop}{bl:Value->Prop}{K:Value->World->Prop}{yl:List Value->Prop}{R:Value->World->Prop}{Z:List PanicEntry->World->Prop}{OV:List PanicEntry->Prop}{S:Fr}{w:World}{A B C:Prop}
set_option linter.unusedVariables false
theorem U4  {t}:e5 P .skip Q S w t=Q .normal S w:=propext Iff.rfl
theorem U5  {cj}{t}:e5 P (.dB cj) Q S w t=qC P cj S w (λS w=>Q .normal S w) ⟨⟩:=propext Iff.rfl
theorem U6  {cj}{t}:e5 P (.sL cj) Q S w t=sg P cj S w (λS => ∀w',Ext w w'->Q .normal S w') ⟨⟩:=propext Iff.rfl
theorem U7  {x}{t}:e5 P (.rz x) Q S w t=(∀w1,Ext w w1->lo P w1 x S w1 (λS w=>Q .normal S w) ⟨⟩):=propext Iff.rfl
theorem U8  {w0}{t}:lo P w0 .done S w gr t=gr S w:=propext Iff.rfl
theorem U9  {w0}{t}:lo P w0 .nil S w gr t=True:=propext Iff.rfl
theorem Va  {w0 s r}{t}:lo P w0 (.take s r) S w gr t=NI P w0 s S (λS=>lo P w0 r S w gr ⟨⟩) ⟨⟩:=propext Iff.rfl
theorem Vb  {w0 s r}{t}:lo P w0 (.alt s r .nil) S w gr t=Cw P w0 s S w (λS w=>lo P w0 r S w gr ⟨⟩) ⟨⟩:=and_true _
theorem Vc  {w0 s r nO kl uv}{t}:lo P w0 (.alt s r (.alt nO kl uv)) S w gr t=(Cw P w0 s S w (λS w=>lo P w0 r S w gr ⟨⟩) ⟨⟩/\lo P w0 (.alt nO kl uv) S w gr ⟨⟩):=propext Iff.rfl
theorem Vd  {w0 s r nO kl uv}{t}:lo P w0 (.alt s r (.fi nO kl uv)) S w gr t=(Cw P w0 s S w (λS w=>lo P w0 r S w gr ⟨⟩) ⟨⟩/\lo P w0 (.fi nO kl uv) S w gr ⟨⟩):=propext Iff.rfl
theorem Vf  {w0 s r}{t}:lo P w0 (.fi s r .nil) S w gr t=CW P s S w (λS w=>lo P w0 r S w gr ⟨⟩) ⟨⟩:=and_true _
theorem Vg  {w0 s r nO kl uv}{t}:lo P w0 (.fi s r (.alt nO kl uv)) S w gr t=(CW P s S w (λS w=>lo P w0 r S w gr ⟨⟩) ⟨⟩/\lo P w0 (.alt nO kl uv) S w gr ⟨⟩):=propext Iff.rfl
theorem Vh  {w0 s r nO kl uv}{t}:lo P w0 (.fi s r (.fi nO kl uv)) S w gr t=(CW P s S w (λS w=>lo P w0 r S w gr ⟨⟩) ⟨⟩/\lo P w0 (.fi nO kl uv) S w gr ⟨⟩):=propext Iff.rfl
theorem Vi  {d i}{t}:CW P ⟨d,none,i⟩ S w gr t=wm P i S w (λv w'=>gr (put S d v) w') ⟨⟩:=propext Iff.rfl
theorem Vj  {d j b i}{t}:CW P ⟨d,some (j,b),i⟩ S w gr t=rF (S j) b (wm P i (cg S j (.bool b)) w (λv w'=>gr (put (cg S j (.bool b)) d v) w') ⟨⟩) (gr (put (cg S j (.bool (!b))) d undef) w) (gr (put S d undef) w) ⟨⟩:=propext Iff.rfl
theorem Vk  {w0 d i}{t}:NI P w0 ⟨d,none,i⟩ S qK t=yr P i S w0 (λv=>qK (put S d v)) ⟨⟩:=propext Iff.rfl
theorem Vl  {w0 d j b i}{t}:NI P w0 ⟨d,some (j,b),i⟩ S qK t=rF (S j) b (yr P i (cg S j (.bool b)) w0 (λv=>qK (put (cg S j (.bool b)) d v)) ⟨⟩) (qK (put (cg S j (.bool (!b))) d undef)) (qK (put S d undef)) ⟨⟩:=propext Iff.rfl
theorem Vm  {w0 d i}{t}:Cw P w0 ⟨d,none,i⟩ S w gr t=zY P i S w (λv w'=>Ext w0 w'/\gr (put S d v) w') ⟨⟩:=propext Iff.rfl
theorem Vn  {w0 d j b i}{t}:Cw P w0 ⟨d,some (j,b),i⟩ S w gr t=rF (S j) b (zY P i (cg S j (.bool b)) w (λv w'=>Ext w0 w'/\gr (put (cg S j (.bool b)) d v) w') ⟨⟩) (gr (put (cg S j (.bool (!b))) d undef) w) (gr (put S d undef) w) ⟨⟩:=propext Iff.rfl
theorem cK  {a b}{t}:e5 P (.seq a b) Q S w t=e5 P a (jI (λS w=>e5 P b Q S w ⟨⟩) Q ⟨⟩) S w ⟨⟩:=propext Iff.rfl
theorem Vo  {c x y}{t}:e5 P (.cond c x y) Q S w t=p2 (bu S c) (e5 P x Q S w ⟨⟩) (e5 P y Q S w ⟨⟩) ⟨⟩:=propext Iff.rfl
theorem Vp  {id b}{t}:e5 P (.cy id b) Q S w t=e5 P b (yB id Q ⟨⟩) S w ⟨⟩:=propext Iff.rfl
theorem Vq  {id}{t}:e5 P (.exit id) Q S w t=Q (.exit id) S w:=propext Iff.rfl
theorem Vr  {t}:e5 P .ret Q S w t=Q .ret S w:=propext Iff.rfl
theorem Vs  {cj d f l}{t}:e5 P (.fS cj d f l) Q S w t=qC P cj S w (λS w=>OT P f (l.map (bu S)) w (λv w'=>Q .normal (put S d v) w') (λc w'=>Q (.hD c) S w') ⟨⟩) ⟨⟩:=propext Iff.rfl
theorem Vt  {cj x}{t}:e5 P (.uE cj x) Q S w t=qC P cj S w (λS w=>OM (bu S x) (λc=>Q (.hD c) S w) ⟨⟩) ⟨⟩:=propext Iff.rfl
theorem Vu  {i:F_}{v:B_}{t}:OM (.iface i v) OV t=OV [{ v:=.iface i v,recovered:=false }]:=ba.arA i v OV
theorem Vv  {c}{t}:jI N Q t (.hD c) S w=Q (.hD c) S w:=propext Iff.rfl
theorem Vw{i}{c}{t}:yB i Q t (.hD c) S w=Q (.hD c) S w:=propext Iff.rfl
theorem Vx{r}{t}:CO r R Z t .normal S w=oE r S w (λvs=>R (jJ vs) w) ⟨⟩:=propext Iff.rfl
theorem uP{r}{t}:CO r R Z t .ret S w=oE r S w (λvs=>R (jJ vs) w) ⟨⟩:=propext Iff.rfl
theorem VA{r}{c}{t}:CO r R Z t (.hD c) S w=Z c w:=propext Iff.rfl
theorem VB  {b}{t}:e5 P (.loop b) Q S w t=Cf P b Q S w ⟨⟩:=propext Iff.rfl
theorem VC  {t}:jI N Q t .normal S w=N S w:=propext Iff.rfl
theorem VD  {i}{t}:jI N Q t (.exit i) S w=Q (.exit i) S w:=propext Iff.rfl
theorem VE  {t}:jI N Q t .ret S w=Q .ret S w:=propext Iff.rfl
theorem VF{i}{t}:yB i Q t .normal S w=Q .normal S w:=propext Iff.rfl
theorem VG{i}{t}:yB i Q t .ret S w=Q .ret S w:=propext Iff.rfl
theorem VH{i}{j}{t}:yB i Q t (.exit j) S w=if j=i then Q .normal S w else Q (.exit j) S w:=propext Iff.rfl
theorem VI{r}{t}:tO r R t .normal S w=oE r S w (λvs=>R (jJ vs) w) ⟨⟩:=propext Iff.rfl
theorem zV{r}{t}:tO r R t .ret S w=oE r S w (λvs=>R (jJ vs) w) ⟨⟩:=propext Iff.rfl
theorem j0  {t}:qC P [] S w gr t=gr S w:=propext Iff.rfl
theorem df  {d i r}{t}:qC P (⟨d,none,i⟩ :: r) S w gr t=wm P i S w (λv w'=>qC P r (put S d v) w' gr ⟨⟩) ⟨⟩:=propext Iff.rfl
theorem fw  {d j b i r}{t}:qC P (⟨d,some (j,b),i⟩ :: r) S w gr t=rF (S j) b (wm P i (cg S j (.bool b)) w (λv w'=>qC P r (put (cg S j (.bool b)) d v) w' gr ⟨⟩) ⟨⟩) (qC P r (put (cg S j (.bool (!b))) d undef) w gr ⟨⟩) (qC P r (put S d undef) w gr ⟨⟩) ⟨⟩:=propext Iff.rfl
theorem dX  {t}:sg P [] S w qK t=qK S:=propext Iff.rfl
theorem hq  {d i r}{t}:sg P (⟨d,none,i⟩ :: r) S w qK t=yr P i S w (λv=>sg P r (put S d v) w qK ⟨⟩) ⟨⟩:=propext Iff.rfl
theorem hg  {d j b i r}{t}:sg P (⟨d,some (j,b),i⟩ :: r) S w qK t=rF (S j) b (yr P i (cg S j (.bool b)) w (λv=>sg P r (put (cg S j (.bool b)) d v) w qK ⟨⟩) ⟨⟩) (sg P r (put (cg S j (.bool (!b))) d undef) w qK ⟨⟩) (sg P r (put S d undef) w qK ⟨⟩) ⟨⟩:=propext Iff.rfl
theorem gd  {i}{t}:zY P (.p i) S w K t=jr P i S (λv=>K v w) ⟨⟩:=propext Iff.rfl
theorem hR  {i}{t}:zY P (.r i) S w K t=yt i S w (λv=>K v w) ⟨⟩:=propext Iff.rfl
theorem fA  {i}{t}:zY P (.e i) S w K t=p4 P i S w K ⟨⟩:=propext Iff.rfl
theorem VO  {i}{t}:zY P (.c i) S w K t=EC P i S w K ⟨⟩:=propext Iff.rfl
theorem VP  {i}{t}:wm P (.p i) S w K t=jr P i S (λv=>K v w) ⟨⟩:=propext Iff.rfl
theorem VQ  {i}{t}:wm P (.r i) S w K t=yt i S w (λv=>K v w) ⟨⟩:=propext Iff.rfl
theorem VR  {i}{t}:wm P (.e i) S w K t=p4 P i S w K ⟨⟩:=propext Iff.rfl
theorem VS  {i}{t}:wm P (.c i) S w K t=ED P i S w K ⟨⟩:=propext Iff.rfl
theorem VT  {i}{t}:yr P (.p i) S w bl t=jr P i S bl ⟨⟩:=propext Iff.rfl
theorem VU  {i}{t}:yr P (.r i) S w bl t=yt i S w bl ⟨⟩:=propext Iff.rfl
theorem VV  {i}{t}:yr P (.c i) S w bl t=ES P i S w bl ⟨⟩:=propext Iff.rfl
theorem VW  {f l}{t}:ES P (.fn f l) S w bl t=ON P f (l.map (bu S)) w bl ⟨⟩:=propext Iff.rfl
theorem VX  {x m l}{t}:ES P (.inv x m l) S w bl t=Xb P (bu S x) m (l.map (bu S)) w bl ⟨⟩:=propext Iff.rfl
theorem VY  {x l}{t}:ES P (.val x l) S w bl t=IJ P (bu S x) (l.map (bu S)) w bl ⟨⟩:=propext Iff.rfl
theorem H1  {t}:rF (.bool true) true A B C t=A:=ba.akO A B C
theorem VZ  {t}:rF (.bool true) false A B C t=B:=ba.akN A B C
theorem V0  {t}:rF (.bool false) true A B C t=B:=ba.akM A B C
theorem V1  {t}:rF (.bool false) false A B C t=A:=ba.akL A B C
theorem V2  (u:Bool){t}:rF undef u A B C t=C:=ba.akP u A B C
theorem V3  (u:Bool){t}:rF (.bool u) true A B C t=p2 (.bool u) A B ⟨⟩:=(ba.ZS u true A B C).trans (by rfl)
theorem V4  (u:Bool){t}:rF (.bool u) false A B C t=p2 (.bool u) B A ⟨⟩:=(ba.ZS u false A B C).trans (by rfl)
theorem V5  {t}:p2 (.bool true) A B t=A:=ah3 A B
theorem V6  {t}:p2 (.bool false) A B t=B:=ah1 A B
theorem V7  (u:Bool){t}:p2 (.bool (!u)) A B t=p2 (.bool u) B A ⟨⟩:=ah2 u A B
theorem V8  {x}{t}:jr P (.lJ x) S bl t=bl (bu S x):=propext Iff.rfl
theorem V9  {c x y}{t}:jr P (.pick c x y) S bl t=p2 (bu S c) (bl (bu S x)) (bl (bu S y)) ⟨⟩:=propext Iff.rfl
theorem Wa  {op ty x y}{t}:jr P (.bin op ty x y) S bl t=kJ P op ty x y (bu S x) (bu S y) bl ⟨⟩:=propext Iff.rfl
theorem Wb  {op x}{t}:jr P (.un op x) S bl t=IL op (bu S x) bl ⟨⟩:=propext Iff.rfl
theorem Wc  {k x}{t}:jr P (.CH k x) S bl t=Ob k (bu S x) bl ⟨⟩:=propext Iff.rfl
theorem Wd  {n x}{t}:jr P (.ju n x) S bl t=Ol n (bu S x) bl ⟨⟩:=propext Iff.rfl
theorem We  {n x y}{t}:jr P (.ox n x y) S bl t=EK n (bu S x) (bu S y) bl ⟨⟩:=propext Iff.rfl
theorem Wf  {m n x y}{t}:jr P (.G5 m n x y) S bl t=Oq m n (bu S x) (bu S y) bl ⟨⟩:=propext Iff.rfl
theorem Wg  {x y}{t}:jr P (.nK x y) S bl t=Ow (bu S x) (bu S y) bl ⟨⟩:=propext Iff.rfl
theorem Wh  {n x y}{t}:jr P (.Bv n x y) S bl t=Ou n (bu S x) (bu S y) bl ⟨⟩:=propext Iff.rfl
theorem Wi  {n x}{t}:jr P (.lB n x) S bl t=On n (bu S x) bl ⟨⟩:=propext Iff.rfl
theorem Wj  {n m x}{t}:jr P (.FJ n m x) S bl t=Om n m (bu S x) bl ⟨⟩:=propext Iff.rfl
theorem Wk  {z pl dA}{t}:jr P (.ib z pl dA) S bl t=N9 S z pl dA bl ⟨⟩:=propext Iff.rfl
theorem Wl  {f a b}{t}:jr P (.xN f a b) S bl t=bl (.func (.func f) (a.map (bu S)).toArray (b.map (bu S)).toArray):=propext Iff.rfl
theorem Wm  {n x aV U mx}{t}:jr P (.jk n x aV U mx) S bl t=tw S n (bu S x) aV U mx bl ⟨⟩:=propext Iff.rfl
theorem Wn  {x aV U}{t}:jr P (.BR x aV U) S bl t=OR S (bu S x) aV U bl ⟨⟩:=propext Iff.rfl
theorem Wo  {x n}{t}:jr P (.ext x n) S bl t=EJ (bu S x) n bl ⟨⟩:=propext Iff.rfl
theorem Wp  {x}{t}:jr P (.qq x) S bl t=OB (bu S x) bl ⟨⟩:=propext Iff.rfl
theorem Wq  {x}{t}:jr P (.DO x) S bl t=Oy (bu S x) bl ⟨⟩:=propext Iff.rfl
theorem Wt  {x}{t}:jr P (.I1 x) S bl t=Oa (bu S x) bl ⟨⟩:=propext Iff.rfl
theorem Wu  {v}{t}:jr P (.K6 v) S bl t=bl v:=propext Iff.rfl
theorem M2  {x y}{t}:jr P (.xM x y) S bl t=OD (bu S x) (bu S y) bl ⟨⟩:=propext Iff.rfl
theorem Wv  {x y}{t}:jr P (.zz x y) S bl t=OE (bu S x) (bu S y) bl ⟨⟩:=propext Iff.rfl
theorem Ww  {n x}{t}:jr P (.DU n x) S bl t=bl (.iface n (bu S x)):=propext Iff.rfl
theorem Wx  {x}{t}:jr P (.xO x) S bl t=IG (bu S x) bl ⟨⟩:=propext Iff.rfl
theorem Wy  {x}{t}:yt (.ld x) S w bl t=uS (bu S x) w bl ⟨⟩:=propext Iff.rfl
theorem Wz  {n x}{t}:yt (.lj n x) S w bl t=yn n (bu S x) w bl ⟨⟩:=propext Iff.rfl
theorem WA  {d z ok m k}{t}:yt (.pe d z ok m k) S w bl t=EM d z ok (bu S m) (bu S k) w bl ⟨⟩:=propext Iff.rfl
theorem WB  {x}{t}:yt (.DP x) S w bl t=OA (bu S x) w bl ⟨⟩:=propext Iff.rfl
theorem WC  {n x}{t}:p4 P (.box n x) S w K t=EO n (bu S x).cells w K ⟨⟩:=propext Iff.rfl
theorem WD  {n z}{t}:p4 P (.new n z) S w K t=EO n z.cells w K ⟨⟩:=propext Iff.rfl
theorem WE  {x v}{t}:p4 P (.st x v) S w K t=sy (bu S x) (bu S v) w (K undef) ⟨⟩:=propext Iff.rfl
theorem WG  {n x v}{t}:p4 P (.mc n x v) S w K t=Cq n (bu S x) (bu S v) w (K undef) ⟨⟩:=propext Iff.rfl
theorem WH  {t}:p4 P .vR S w K t=OI w K ⟨⟩:=propext Iff.rfl
theorem WI  {e n b z l c}{t}:p4 P (.zA e n b z l c) S w K t=EN e n b z (bu S l) (bu S c) w K ⟨⟩:=propext Iff.rfl
theorem WJ  {e l n z dA}{t}:p4 P (.ku e l n z dA) S w K t=Ij S e l n z dA w K ⟨⟩:=propext Iff.rfl
theorem WK  {ty e n b s x}{t}:p4 P (.app ty e n b s x) S w K t=mH P ty e n b (bu S s) (bu S x) w K ⟨⟩:=propext Iff.rfl
theorem WL  {d m k v}{t}:p4 P (.kE d m k v) S w K t=Ch d (bu S m) (bu S k) (bu S v) w (K undef) ⟨⟩:=propext Iff.rfl
theorem WM  {x}{t}:p4 P (.BP x) S w K t=OP (bu S x) w K ⟨⟩:=propext Iff.rfl
theorem WO  {x}{t}:p4 P (.BF x) S w K t=OK (bu S x) w K ⟨⟩:=propext Iff.rfl
theorem WQ  {op ty}{t}:p4 P (.raw op ty) S w K t=uW P op ty S w K ⟨⟩:=propext Iff.rfl
theorem WR  {f l}{t}:EC P (.fn f l) S w K t=Im P f (l.map (bu S)) w K ⟨⟩:=propext Iff.rfl
theorem WS  {x m l}{t}:EC P (.inv x m l) S w K t=B6 P (bu S x) m (l.map (bu S)) w K ⟨⟩:=propext Iff.rfl
theorem WT  {x l}{t}:EC P (.val x l) S w K t=yf P (bu S x) (l.map (bu S)) w K ⟨⟩:=propext Iff.rfl
theorem WU  {f l}{t}:ED P (.fn f l) S w K t=Im P f (l.map (bu S)) w K ⟨⟩:=propext Iff.rfl
theorem WV  {x m l}{t}:ED P (.inv x m l) S w K t=B6 P (bu S x) m (l.map (bu S)) w K ⟨⟩:=propext Iff.rfl
theorem WW  {x l}{t}:ED P (.val x l) S w K t=B8 P (bu S x) (l.map (bu S)) w K ⟨⟩:=propext Iff.rfl
theorem WX  {ty eF eR}(k:IntKind)(a b:Int){t}:kJ P .lss ty eF eR (.int k a) (.int k b) bl t=bl (.bool (decide (a<b))):=ahv k a b
theorem WY  {ty eF eR}(k:IntKind)(a b:Int){t}:kJ P .leq ty eF eR (.int k a) (.int k b) bl t=bl (.bool (decide (a<=b))):=ahu k a b
theorem W0  {ty eF eR}(k:IntKind)(a b:Int){t}:kJ P .gtr ty eF eR (.int k a) (.int k b) bl t=bl (.bool (decide (b<a))):=aht k a b
theorem W1  {ty eF eR}(k:IntKind)(a b:Int){t}:kJ P .geq ty eF eR (.int k a) (.int k b) bl t=bl (.bool (decide (b<=a))):=ahs k a b
theorem W2  {ty eF eR}(k:IntKind)(a b:Int){t}:kJ P .eql ty eF eR (.int k a) (.int k b) bl t=bl (.bool (decide (a=b))):=ahr k a b
theorem W3  {ty eF eR}(k:IntKind)(a b:Int){t}:kJ P .neq ty eF eR (.int k a) (.int k b) bl t=bl (.bool (!decide (a=b))):=(ahx k a b).trans CC
theorem W4  {ty eF eR}(k:IntKind)(a b:Int){t}:kJ P .add ty eF eR (.int k a) (.int k b) bl t=u1 k (a+b) bl ⟨⟩:=Pd k a b
theorem W5  {ty eF eR}(k:IntKind)(a b:Int){t}:kJ P .sub ty eF eR (.int k a) (.int k b) bl t=u1 k (a - b) bl ⟨⟩:=ahC k a b
theorem W6  {ty eF eR}(k:IntKind)(a b:Int){t}:kJ P .mul ty eF eR (.int k a) (.int k b) bl t=u1 k (a*b) bl ⟨⟩:=ahw k a b
theorem W7  {ty eF eR}(a b:ByteArray){t}:kJ P .eql ty eF eR (.string a) (.string b) bl t=bl (.bool (decide (a=b))):=ahA a b
theorem W8  {ty eF eR}(a b:ByteArray){t}:kJ P .neq ty eF eR (.string a) (.string b) bl t=bl (.bool (!decide (a=b))):=(ahB a b).trans CC
theorem W9  (b:Bool){t}:IL .not (.bool b) bl t=bl (.bool (!b)):=propext Iff.rfl
theorem Xc  (k:IntKind)(n:Int){t}:IL .neg (.int k n) bl t=u1 k (0 - n) bl ⟨⟩:=propext Iff.rfl
theorem EU  (k q:IntKind)(n:Int){t}:Ob k (.int q n) bl t=u1 k n bl ⟨⟩:=aiN k q n bl
theorem EV  (n:Nat)(a:Addr){t}:Ol n (.pointer (some a)) bl t=bl (.pointer (some (a.add n))):=akg n a bl
theorem Xd  (v:B_)(vs:C_ B_){t}:EJ (.tuple (v :: vs).toArray) 0 bl t=bl v:=aj1 v vs bl
theorem Xe  (v u:B_)(vs:C_ B_){t}:EJ (.tuple (v :: u :: vs).toArray) 1 bl t=bl u:=aj2 v u vs bl
theorem Xf  (v u x:B_)(vs:C_ B_){t}:EJ (.tuple (v :: u :: x :: vs).toArray) 2 bl t=bl x:=aj3 v u x vs bl
theorem EW  (s:ByteArray){t}:OB (.string s) bl t=bl (.I s.size):=apD s bl
theorem Cl  (a:H_ Addr)(n c:Nat){t}:Oy (.slice a n c) bl t=bl (.I n):=apB a n c bl
theorem Xg  (a:H_ Addr)(n c:Nat){t}:Oa (.slice a n c) bl t=bl (.I c):=ahV a n c bl
theorem Xh  (k q:IntKind)(a b:Int){t}:OD (.int k a) (.int q b) bl t=bl (.int k (max a b)):=apX k q a b bl
theorem Xm  (k q:IntKind)(a b:Int){t}:OE (.int k a) (.int q b) bl t=bl (.int k (min a b)):=ap1 k q a b bl
theorem Xn  (m n:Nat)(cs:Array B_){t}:Om m n (.agg cs) bl t=bl (.agg (cs.extract m (m+n))):=akv m n cs bl
theorem Xo  (a:Addr){t}:IG (.pointer (some a)) bl t=bl (.pointer (some a)):=propext Iff.rfl
theorem Xp  (f:E_)(a b:Array B_){t}:IG (.func (.func f) a b) bl t=bl (.func (.func f) a b):=propext Iff.rfl
theorem Xq  {t}:oE [] S w yl t=yl []:=propext Iff.rfl
theorem Xr  {n r}{t}:oE (.tmp n :: r) S w yl t=oE r S w (λvs=>yl (S n :: vs)) ⟨⟩:=propext Iff.rfl
theorem Xs  {n r}{t}:oE (.cell n :: r) S w yl t=uS (S n) w (λv=>oE r S w (λvs=>yl (v :: vs)) ⟨⟩) ⟨⟩:=propext Iff.rfl
theorem Xt  {m n r}{t}:oE (.iZ m n :: r) S w yl t=yn m (S n) w (λv=>oE r S w (λvs=>yl (v :: vs)) ⟨⟩) ⟨⟩:=propext Iff.rfl
theorem Xu{S:Fr}{d:Nat}{v:B_}:put S (some d) v=cg S d v:=eq_of_heq (heq_of_eq (gV S d v))
theorem Xv{S:Fr}{v:B_}:put S none v=S:=eq_of_heq (heq_of_eq (aea S v))
theorem Xx{S:Fr}{d t:Nat}{v:B_}:cg S d v t=if t=d then v else S t:=eq_of_heq (heq_of_eq (bE S d t v))
theorem Xy{S:Fr}{t:Nat}:bu S (.tmp t)=S t:=eq_of_heq (heq_of_eq (dc S t))
theorem Xz{S:Fr}{v:B_}:bu S (.const v)=v:=eq_of_heq (heq_of_eq (oY S v))
theorem XA{S:Fr}{g:Nat}:bu S (.global g) = .pointer (some ⟨g,0,none⟩):=eq_of_heq (heq_of_eq (ajE S g))
theorem XB{S:Fr}{f:Nat}:bu S (.func f) = .func (.func f) #[] #[]:=eq_of_heq (heq_of_eq (wU S f))
theorem XC{k:Nat}:jb [] k=λ_=>undef:=eq_of_heq (heq_of_eq (oe k))
theorem XD{v:B_}{vs:C_ B_}{k:Nat}:jb (v :: vs) k=cg (jb vs (k+1)) k v:=eq_of_heq (heq_of_eq (kx v vs k))
theorem XE  : jJ [] = .tuple #[]:=eq_of_heq (heq_of_eq (aut ..))
theorem XF  (v:B_):jJ [v]=v:=eq_of_heq (heq_of_eq (auu ..))
theorem XG  (v u:B_):jJ [v,u] = .tuple #[v,u]:=eq_of_heq (heq_of_eq (auv ..))
theorem XH  (v u x:B_):jJ [v,u,x] = .tuple #[v,u,x]:=eq_of_heq (heq_of_eq (auw ..))
theorem XI  (a:H_ Addr)(n c:Nat):(Value.slice a n c).cells=#[.slice a n c]:=eq_of_heq (heq_of_eq (aij ..))
theorem XJ  (k:IntKind)(n:Int):(Value.int k n).cells=#[.int k n]:=eq_of_heq (heq_of_eq (aid ..))
theorem XK  (b:Bool):(Value.bool b).cells=#[.bool b]:=eq_of_heq (heq_of_eq (aia ..))
theorem XL  (s:ByteArray):(Value.string s).cells=#[.string s]:=eq_of_heq (heq_of_eq (aik ..))
theorem XM  (a:H_ Addr):(Value.pointer a).cells=#[.pointer a]:=eq_of_heq (heq_of_eq (aii ..))
theorem XN  (a:H_ Nat):(Value.map a).cells=#[.map a]:=eq_of_heq (heq_of_eq (aie ..))
theorem XO  (f:Fn)(a b:Array B_):(Value.func f a b).cells=#[.func f a b]:=eq_of_heq (heq_of_eq (aic ..))
theorem XP  (cs:Array B_):(Value.agg cs).cells=cs:=eq_of_heq (heq_of_eq (ah9 ..))
theorem XQ{α β:Type}{f:α->β}{a:α}{l:C_ α}:(a :: l).map f=f a :: l.map f:=eq_of_heq (heq_of_eq (AG1))
theorem XR{α β:Type}{f:α->β}:([]:C_ α).map f=[]:=eq_of_heq (heq_of_eq (AJ9))
theorem iX  : (!true)=false:=eq_of_heq (heq_of_eq (Bool.not_true))
theorem e9  : (!false)=true:=eq_of_heq (heq_of_eq (Bool.not_false))
theorem oQ{h:Decidable True}:decide True=true:=eq_of_heq (heq_of_eq (decide_true h))
theorem Ct{h:Decidable False}:decide False=false:=eq_of_heq (heq_of_eq (decide_false h))
theorem qO{α:Type}{a b:α}{h:Decidable True}:(if True then a else b)=a:=eq_of_heq (heq_of_eq (if_true a b))
theorem lU{α:Type}{a b:α}{h:Decidable False}:(if False then a else b)=b:=eq_of_heq (heq_of_eq (if_false a b))
end
def dg :=
 (i_ (i_ (i_ (i_ (i_ (i_ (i_ @U4 @U5) (i_ @U6 (i_ @U7 @U8))) (i_ (i_ @U9 (i_ @Va @Vb)) (i_ @Vc (i_ @Vd @Vf)))) (i_ (i_ (i_ @Vg @Vh) (i_ @Vi (i_ @Vj @Vk))) (i_ (i_ @Vl (i_ @Vm @Vn)) (i_ @Vo (i_ @Vp @Vq))))) (i_ (i_ (i_ (i_ @Vr @Vs) (i_ @Vt (i_ @Vu @Vv))) (i_ (i_ @Vw (i_ @Vx @uP)) (i_ @VA (i_ @VB @VC)))) (i_ (i_ (i_ @VD @VE) (i_ @VF (i_ @VG @VH))) (i_ (i_ @VI (i_ @zV @j0)) (i_ @df (i_ @fw @dX)))))) (i_ (i_ (i_ (i_ (i_ @hq @hg) (i_ @gd (i_ @hR @fA))) (i_ (i_ @VO (i_ @VP @VQ)) (i_ @VR (i_ @VS @VT)))) (i_ (i_ (i_ @VU @VV) (i_ @VW (i_ @VX @VY))) (i_ (i_ @H1 (i_ @VZ @V0)) (i_ @V1 (i_ @V2 @V3))))) (i_ (i_ (i_ (i_ @V4 @V5) (i_ @V6 (i_ @V7 @V8))) (i_ (i_ @V9 (i_ @Wa @Wb)) (i_ @Wc (i_ @Wd @We)))) (i_ (i_ (i_ @Wf @Wg) (i_ @Wh (i_ @Wi @Wj))) (i_ (i_ @Wk (i_ @Wl @Wm)) (i_ @Wn (i_ @Wo @Wp))))))) (i_ (i_ (i_ (i_ (i_ (i_ @Wq @Wt) (i_ @Wu (i_ @M2 @Wv))) (i_ (i_ @Ww (i_ @Wx @Wy)) (i_ @Wz (i_ @WA @WB)))) (i_ (i_ (i_ @WC @WD) (i_ @WE (i_ @WG @WH))) (i_ (i_ @WI (i_ @WJ @WK)) (i_ @WL (i_ @WM @WO))))) (i_ (i_ (i_ (i_ @WQ @WR) (i_ @WS (i_ @WT @WU))) (i_ (i_ @WV (i_ @WW @WX)) (i_ @WY (i_ @W0 @W1)))) (i_ (i_ (i_ @W2 @W3) (i_ @W4 (i_ @W5 @W6))) (i_ (i_ @W7 (i_ @W8 @W9)) (i_ @Xc (i_ @EU @EV)))))) (i_ (i_ (i_ (i_ (i_ @Xd @Xe) (i_ @Xf (i_ @EW @Cl))) (i_ (i_ @Xg (i_ @Xh @Xm)) (i_ @Xn (i_ @Xo @Xp)))) (i_ (i_ (i_ @Xq @Xr) (i_ @Xs (i_ @Xt @Xu))) (i_ (i_ @Xv (i_ @Xx @Xy)) (i_ @Xz (i_ @XA @XB))))) (i_ (i_ (i_ (i_ @XC @XD) (i_ @XE (i_ @XF @XG))) (i_ (i_ @XH (i_ @XI @XJ)) (i_ @XK (i_ @XL @XM)))) (i_ (i_ (i_ @XN @XO) (i_ @XP (i_ @XQ @XR))) (i_ (i_ @iX (i_ @e9 @oQ)) (i_ @Ct (i_ @qO @lU))))))))
section
variable{P:Program}{Q:fM->Fr->World->Prop}{bl:Value->Prop}{K:Value->World->Prop}{KW:World->Prop}{S:Fr}{w:World}{A B:Prop}
def I_{p:Prop}[Decidable p]{t}(h1:p->A)(J:¬p->B):p2 (.bool (decide p)) A B t:=ah0 h1 J
def N_{u:Bool}{t}(h1:u=true->A)(J:u=false->B):p2 (.bool u) A B t:=ahZ h1 J
def Q_{n:Int}{t}(h : -9223372036854775808<=n/\n<=9223372036854775807)(hk:bl (.I n)):u1 .i64 n bl t:=wrap_i64 h hk
def _l{k:IntKind}{n:Int}{t}(h:bl (.int k (k.wrap n))):u1 k n bl t:=af4 h
def AA7{k:IntKind}{n:Int}{t}(h:k.wrap n=n)(hk:bl (.int k n)):u1 k n bl t:=af4 (by rw[h];exact hk)
def _C{ty:F_}{eF eR:G_}{k:IntKind}{a b:Int}{t}(ak:b≠0)(h:u1 k (a.tdiv b) bl ⟨⟩):kJ P .quo ty eF eR (.int k a) (.int k b) bl t:=ahy ak h
def _t{ty:F_}{eF eR:G_}{k:IntKind}{a b:Int}{t}(ak:b≠0)(h:bl (.int k (a.tmod b))):kJ P .rem ty eF eR (.int k a) (.int k b) bl t:=ahz ak h
def _X{op:BinOp}{ty:F_}{eF eR:G_}{x y v:B_}{t}(h:∀w,(do eqGuard op ty eF eR x y;binOp op ty x y:Sem B_).run P w = .ok v w)(hk:bl v):kJ P op ty eF eR x y bl t:=⟨v,h,hk⟩
def _Y{sz:Nat}{a:Addr}{len cap:Nat}{k:IntKind}{n:Int}{t}(h:0<=n/\n<len)(hk:bl (.pointer (some (a.add (n.toNat*sz))))):EK sz (.slice (some a) len cap) (.int k n) bl t:=aoN h hk
def K_{sz:Nat}{a:Addr}{len cap:Nat}{k:IntKind}{n:Int}{t}(i:Nat)(U:n=i)(h:i<len)(hk:bl (.pointer (some (a.add (i*sz))))):EK sz (.slice (some a) len cap) (.int k n) bl t:=aci i U h hk
def AE2{sz:Nat}{a:Addr}{len:Nat}{k:IntKind}{n:Int}{t}(h:0<=n/\n<len)(hk:bl (.pointer (some (a.add (n.toNat*sz))))):Oq len sz (.pointer (some a)) (.int k n) bl t:=aoM h hk
def _Z{s:ByteArray}{k:IntKind}{n:Int}{t}(c:UInt8)(ad:0<=n)(h:s[n.toNat]? = some c)(hk:bl (.int .u8 c.toNat)):Ow (.string s) (.int k n) bl t:=ao2 c ad h hk
def AA8{len:Nat}{cs:Array B_}{k:IntKind}{n:Int}{t}(v:B_)(ad:0<=n/\n<len)(h:cs[n.toNat]? = some v)(hk:bl v):Ou len (.agg cs) (.int k n) bl t:=ao1 v ad h hk
def Y_{off:Nat}{cs:Array B_}{v:B_}{t}(h:cs[off]? = some v)(hk:bl v):On off (.agg cs) bl t:=akw h hk
def X_{z cs:C_ B_}{pl:C_ (Nat×Nat)}{dA:C_ (Nat×G_)}{t}(h:gG S pl dA z=some cs)(hk:bl (.agg cs.toArray)):N9 S z pl dA bl t:=ahF h hk
def _B{sz:Nat}{a:H_ Addr}{len cap:Nat}{aV U mx:H_ G_}{t}(l h m:Nat)(h1:eP S aV 0=some l)(J:eP S U len=some h)(ab:eP S mx cap=some m)
  (aF:l<=h/\h<=m/\m<=cap)(a7:mx.isSome=true->U.isSome=true)(hk:bl (.slice (if m=l then a else a.map (·.add (l*sz))) (h - l) (m - l))):tw S sz (.slice a len cap) aV U mx bl t:=atJ l h m h1 J ab aF a7 hk
def AA9{s:ByteArray}{aV U:H_ G_}{t}(l h:Nat)(h1:eP S aV 0=some l)(J:eP S U s.size=some h)(aF:l<=h/\h<=s.size)(hk:bl (.string (s.extract l h))):OR S (.string s) aV U bl t:=atG l h h1 J aF hk
def M_{a:Addr}{c:B_}{t}(h:w.cell? a=some c)(hk:bl c):uS (.pointer (some a)) w bl t:=apy h hk
def Z_{n:Nat}{a:Addr}{cs:C_ B_}{t}(h:ff w a cs)(aw:cs.length=n)(hk:bl (.agg cs.toArray)):yn n (.pointer (some a)) w bl t:=apx h aw hk
def _m{d:TypeDesc}{z:B_}{ok:Bool}{m k:B_}{es:Array MapEntry}{r:H_ (Nat×B_)}{t}(h1:sv w m es)(J:Instr.findNow d k es.toList 0=some r)(hk:bl (nL z ok r)):EM d z ok m k w bl t:=apM h1 J hk
def AE3{m:B_}{es:Array MapEntry}{t}(h:sv w m es)(hk:bl (.I es.size)):OA m w bl t:=apC h hk
def _1{a:Addr}{v hQ:B_}{t}(h:w.cell? a=some hQ)(ax:w.frozen? a=false)(aH:v.oneCell'=true)(hk:KW (w.setCell a v)):sy (.pointer (some a)) v w KW t:=afv h ax aH hk
def _5{n:Nat}{a:Addr}{cs:Array B_}{t}(aw:cs.size=n)(h:∀j,j<n->(∃hQ,w.cell? (a.add j)=some hQ)/\w.frozen? (a.add j)=false)(h1:∀c∈cs.toList,c.oneCell'=true)(hk:KW (iJ w a cs.toList 0)):Cq n (.pointer (some a)) (.agg cs) w KW t:=Us aw h h1 hk
def _6{e:F_}{sz bytes:Nat}{z:B_}{k q:IntKind}{n m:Int}{t}(h:0<=n/\n<=m/\m<=9223372036854775807/\bytes*m<=281474976710656)(hk:K (.slice (some ⟨w.heap.size,0,none⟩) n.toNat m.toNat) (w.alloc (.cells (sr z.cells (m.toNat*sz)) e))) :
  EN e sz bytes z (.int k n) (.int q m) w K t:=ap2 h hk
def AE4{e:F_}{len sz:Nat}{z cs:C_ B_}{dA:C_ (Nat×G_)}{t}(h:gG S ((List.range len).map λi=>(i*sz,sz)) dA z=some cs)(hk:K (.slice (some ⟨w.heap.size,0,none⟩) len len) (w.alloc (.cells cs.toArray e))):Ij S e len sz z dA w K t:=Ao h hk
def _c{ty e:F_}{sz b:Nat}{s x:B_}{t}(h:Xl P ty e sz b->∃u bU w',(Builtin.append_ #[ty,ty] u #[s,x]).run P w = .ok bU w'/\K bU w'):mH P ty e sz b s x w K t:=h
def _u{d:TypeDesc}{r:Nat}{k v:B_}{es:Array MapEntry}{c:Nat}{q:H_ (Nat×B_)}{t}(h1:w.heap[r]? = some (.map es c))(J:Instr.findNow d k es.toList 0=some q)(hk:KW (fJ w r (s8 es c k v q))):Ch d (.map (some r)) k v w KW t:=aqa h1 J hk
def AB0{r pos:Nat}{s:ByteArray}{t}(h:w.heap[r]? = some (.stringIter s pos))(h1:pos<s.size->K (.tuple #[.bool true,.I pos,.int .i32 (Utf8.decode s pos).1]) (fJ w r (.stringIter s (pos+(Utf8.decode s pos).2))))
  (J:¬pos<s.size->K (.tuple #[.bool false]) w):OK (.pointer (some ⟨r,0,none⟩)) w K t:=aqv h h1 J
def _G{op:Op}{ty:F_}{v:B_}{w':A_}{t}(h:(execOp (bu S) ⟨none,op,ty, "",#[],none⟩).run P w = .ok (.value v) w')(hk:K v w'):uW P op ty S w K t:=⟨v,w',.inl h,hk⟩
def J_{f:E_}{args:C_ B_}{R:B_->A_->Prop}{t}(h:aW P f args.toArray w R)(hk:∀v w',R v w'->K v w'):Im P f args w K t:=ahU h hk
def W_{f:E_}{args:C_ B_}{R:B_->A_->Prop}{Z tz:C_ PanicEntry->A_->Prop}{t}(h:rM P f args.toArray w R Z)(hk:∀v w',R v w'->K v w')(bB:∀c w',Z c w'->tz c w'):OT P f args w K tz t:=rM.mono h hk bB
def AB1{f:E_}{L:ny}(hm:P.follows .mixedOrders=true)(an:lY P f=some L){args:C_ B_}{R:B_->A_->Prop}{Z:C_ PanicEntry->A_->Prop}(aY:args.length<=L.n)(h:e5 P L.code (CO L.res R Z ⟨⟩) (jb args 0) w ⟨⟩):rM P f args.toArray w R Z:=ajy hm an aY h
def V_{f:E_}{first cap:C_ B_}{args:C_ B_}{R:B_->A_->Prop}{t}(ax:okF P f=true)(h:aW P f (first++args++cap).toArray w R)(hk:∀v w',R v w'->K v w'):B8 P (.func (.func f) first.toArray cap.toArray) args w K t:=Or.inl (Pn ax h hk)
def _d{f:E_}{first cap:C_ B_}{args:C_ B_}{R:B_->A_->Prop}{t}(ax:okF P f=true)(h:aW P f (first++args++cap).toArray w R)(hk:∀v w',R v w'->K v w'):yf P (.func (.func f) first.toArray cap.toArray) args w K t:=Pn ax h hk
def _2{l:Nat}{args:C_ B_}{R:Ending->A_->Prop}{t}(h:YieldAt Fence.wide 0 P l args.toArray w R)(hk:∀e w',R e w'->∃v,e = .returned v/\K v w'):B8 P (.func (.yield l) #[] #[]) args w K t :=
 Or.inr ⟨l,rfl,let ⟨fn,tmps,assign,body,h1,J⟩:=h; ⟨fn,tmps,assign,body,h1,J.mono hk⟩⟩
def P_{f:E_}{args:C_ B_}{t}(v:B_)(h:∀w',Ext w w'->aW P f args.toArray w' λu bO=>u=v/\Ext w' bO)(hk:bl v):ON P f args w bl t:=arZ v h hk
def O_{n:F_}{cs:Array B_}{t}(hk:∀w1 b,w.heap.size<=b->Ext w w1->w1.heap[b]? = some (.cells cs n)->K (.pointer (some ⟨b,0,none⟩)) w1):EO n cs w K t :=
 hk _ _ (E1 _) ((Ext.refl w).alloc _) (heap_alloc_new w _)
def _e{t}(hk:∀w1 b,w.heap.size<=b->Ext w w1->w1.heap[b]? = some (.map #[] 0)->K (.map (some b)) w1):OI w K t:=hk _ _ (E1 _) ((Ext.refl w).alloc _) (heap_alloc_new w _)
def AB2{s:ByteArray}{t}(hk:∀w1 b,w.heap.size<=b->Ext w w1->w1.heap[b]? = some (.stringIter s 0)->K (.pointer (some ⟨b,0,none⟩)) w1):OP (.string s) w K t :=
 ⟨s,rfl,hk _ _ (E1 _) ((Ext.refl w).alloc _) (heap_alloc_new w _)⟩
def _D{e:F_}{len sz:Nat}{z cs:C_ B_}{dA:C_ (Nat×G_)}{t}(h:gG S ((List.range len).map λi=>(i*sz,sz)) dA z=some cs)
  (hk:∀w1 b,w.heap.size<=b->Ext w w1->w1.heap[b]? = some (.cells cs.toArray e)->K (.slice (some ⟨b,0,none⟩) len len) w1):Ij S e len sz z dA w K t :=
 Ao h (hk _ _ (E1 _) ((Ext.refl w).alloc _) (heap_alloc_new w _))
def _H{b j:Nat}{c:Array B_}{e:F_}{v:B_}{t}(ak:w.heap[b]? = some (.cells c e))(ay:j<c.size)(aH:v.oneCell'=true)
  (hk:∀w1,dw b w w1->w1.heap[b]? = some (.cells (c.set j v ay) e)->KW w1):sy (.pointer (some (Addr.add ⟨b,0,none⟩ j))) v w KW t :=
 afv (fP ak (Array.getElem?_eq_getElem ay)) (by rw[add_eq];simp[World.frozen?,ak]) aH (hk _ (by have h:=dw.setCell w (Addr.add ⟨b,0,none⟩ j) v;rwa[Ah] at h) (HN ak ay v))
def _V{b:Nat}{c:Array B_}{e:F_}{v:B_}{t}(ak:w.heap[b]? = some (.cells c e))(ay:0<c.size)(aH:v.oneCell'=true)
  (hk:∀w1,dw b w w1->w1.heap[b]? = some (.cells (c.set 0 v ay) e)->KW w1):sy (.pointer (some ⟨b,0,none⟩)) v w KW t :=
 _H (j:=0) (t:=⟨⟩) ak ay aH hk
def U_{b n:Nat}{c cs:Array B_}{e:F_}{t}(ak:w.heap[b]? = some (.cells c e))(an:c.size=n)(aw:cs.size=n)(h1:∀x∈cs.toList,x.oneCell'=true)
  (hk:∀w1,dw b w w1->w1.heap[b]? = some (.cells cs e)->KW w1):Cq n (.pointer (some ⟨b,0,none⟩)) (.agg cs) w KW t :=
 Us aw (λj ay=>⟨⟨_,fP ak (Array.getElem?_eq_getElem Aw)⟩,by rw[add_eq];simp[World.frozen?,ak]⟩) h1 (hk _ (dw.iJ cs.toList w ⟨b,0,none⟩ 0) (afc ak Aw))
def _A{b:e6}{t}(da:Fr->A_->Prop)(k2:Fr->A_->Nat)(ad:da S w)
  (aT:∀aZ w',(∀t,b.gi.contains t=false->aZ t=S t)->da aZ w'->e5 P b (jI (λgf bO=>da gf bO/\k2 gf bO<k2 aZ w') Q ⟨⟩) aZ w' ⟨⟩):Cf P b Q S w t:=apR da k2 ad aT
def _g{f:E_}{L:ny}(hm:P.follows .mixedOrders=true)(an:lY P f=some L){args:C_ B_}{R:B_->A_->Prop}(aY:args.length<=L.n)(h:e5 P L.code (tO L.res R ⟨⟩) (jb args 0) w ⟨⟩):aW P f args.toArray w R:=enter hm an aY h
end
attribute [irreducible] e5
attribute [irreducible] qC
attribute [irreducible] sg
attribute [irreducible] lo
attribute [irreducible] NI
attribute [irreducible] CW
attribute [irreducible] Cw
attribute [irreducible] zY
attribute [irreducible] wm
attribute [irreducible] ED
attribute [irreducible] B8
attribute [irreducible] yr
attribute [irreducible] ES
attribute [irreducible] ON
attribute [irreducible] IJ
attribute [irreducible] jr
attribute [irreducible] yt
attribute [irreducible] p4
attribute [irreducible] EC
attribute [irreducible] kJ
attribute [irreducible] IL
attribute [irreducible] Ob
attribute [irreducible] u1
attribute [irreducible] p2
attribute [irreducible] rF
attribute [irreducible] Ol
attribute [irreducible] EK
attribute [irreducible] Oq
attribute [irreducible] Ow
attribute [irreducible] Ou
attribute [irreducible] On
attribute [irreducible] Om
attribute [irreducible] N9
attribute [irreducible] tw
attribute [irreducible] OR
attribute [irreducible] EJ
attribute [irreducible] OB
attribute [irreducible] Oy
attribute [irreducible] Oa
attribute [irreducible] OD
attribute [irreducible] OE
attribute [irreducible] IG
attribute [irreducible] uS
attribute [irreducible] yn
attribute [irreducible] EM
attribute [irreducible] OA
attribute [irreducible] sy
attribute [irreducible] Cq
attribute [irreducible] EN
attribute [irreducible] Ij
attribute [irreducible] mH
attribute [irreducible] Ch
attribute [irreducible] OK
attribute [irreducible] OP
attribute [irreducible] uW
attribute [irreducible] Im
attribute [irreducible] OT
attribute [irreducible] B6
attribute [irreducible] Xb
attribute [irreducible] OM
attribute [irreducible] yf
attribute [irreducible] EO
attribute [irreducible] OI
attribute [irreducible] Cf
attribute [irreducible] oE
attribute [irreducible] jI yB tO CO
end ba
namespace ba
open Go Go.RowKit
structure bm{α:Type}(sz:Nat)(R:World->Addr->α->Prop)(w:World)(v:Value)(xs:List α):Prop where
 ex:∃aN cap,v = .slice aN xs.length cap/\xs.length<=cap/\cap<=maxLen/\(xs≠[]->aN.isSome=true)/\∀a,aN=some a->∀i (h:i<xs.length),R w (a.add (i*sz)) xs[i]
def bm.form{α:Type}{sz:Nat}{R:A_->Addr->α->Prop}{w:A_}{v:B_}{xs:C_ α}(h:bm sz R w v xs):∃aN cap,v = .slice aN xs.length cap/\xs.length<=9223372036854775807:=by
 obtain⟨aN,cap,h1,J,ab,_⟩:=h.ex;exact⟨aN,cap,h1,by unfold maxLen at ab;omega⟩
def bm.addr{α:Type}{sz:Nat}{R:A_->Addr->α->Prop}{w:A_}{aN:H_ Addr}{n c:Nat}{xs:C_ α}(h:bm sz R w (.slice aN n c) xs)(aw:0<xs.length:=by omega):∃a,aN=some a:=by
 obtain⟨iQ,cap,h1,J,ab,aF,_⟩:=h.ex;injection h1 with h1 _ _
 subst h1;exact Option.isSome_iff_exists.1 (aF (by intro e;subst e;simp at aw))
def bm.at{α:Type}{sz:Nat}{R:A_->Addr->α->Prop}{w:A_}{a:Addr}{n c:Nat}{xs:C_ α}(h:bm sz R w (.slice (some a) n c) xs)(i:Nat)(U:i<xs.length):R w (a.add (i*sz)) xs[i]:=by
 obtain⟨iQ,cap,h1,J,ab,aF,a7⟩:=h.ex;injection h1 with h1 _ _
 subst h1;exact a7 a rfl i U
theorem bm.ext{α:Type}{sz:Nat}{R:A_->Addr->α->Prop}(bA:∀w w' a x,Ext w w'->R w a x->R w' a x){w w':A_}{v:B_}{xs:C_ α}(he:Ext w w')(h:bm sz R w v xs):bm sz R w' v xs:=by
 obtain⟨aN,cap,h1,J,ab,aF,a7⟩:=h.ex;exact⟨aN,cap,h1,J,ab,aF,λa aY i U=>bA _ _ _ _ he (a7 a aY i U)⟩
def Flat{α:Type}(enc:α->C_ B_)(w:A_)(a:Addr)(x:α):Prop:=ff w a (enc x)
theorem Flat.ext{α:Type}{enc:α->C_ B_}(w w':A_)(a:Addr)(x:α)(he:Ext w w')(h:Flat enc w a x):Flat enc w' a x:=ff.ext he h
def iV{pw:Type}(enc:pw->B_)(es:C_ MapEntry)(m:C_ (pw×B_)):Prop:=es.map (λe=>(e.key,e.val))=m.map (λp=>(enc p.1,p.2))
theorem AF{pw:Type}[DecidableEq pw]{enc:pw->B_}{d:TypeDesc}(aj:∀x y,Instr.sameNow d (enc x) (enc y)=some (decide (x=y)))(x:pw):∀(es:C_ MapEntry) (m:C_ (pw×B_)) (i:Nat),iV enc es m ->
  ∃r,Instr.findNow d (enc x) es i=some r/\r.map (·.2)=(m.find? (λp=>decide (x=p.1))).map (·.2)
 | [],m,i,h=>by
  have:m=[]:=by cases m with | nil=>rfl | cons _ _=>simp[iV] at h
  subst this;exact⟨none,rfl,rfl⟩
 | e :: es,m,i,h=>by
  cases m with
  | nil=>simp[iV] at h
  | cons p m =>
   simp only[iV,List.map_cons,List.cons.injEq,Prod.mk.injEq] at h;obtain⟨⟨h1,J⟩,ab⟩:=h;unfold Instr.findNow;rw[h1,aj];by_cases ah:x=p.1
   .simp only[ah,decide_true];exact⟨_,rfl,by simp[J]⟩
   .simp only[ah,decide_false];obtain⟨r,aF,a7⟩:=AF aj x es m (i+1) ab;exact⟨r,aF,by rw[a7];simp[ah]⟩
def No(x y:ByteArray):Instr.sameNow .string (.string x) (.string y)=some (decide (x=y)):=by simp[Instr.sameNow,E9]
def Nn(k q:IntKind)(x y:Int):Instr.sameNow (.int q) (.int k x) (.int k y)=some (decide (x=y)):=by simp[Instr.sameNow];rfl
def iV.push{pw:Type}{enc:pw->B_}{es:Array MapEntry}{m:C_ (pw×B_)}(h:iV enc es.toList m)(x:pw)(v:B_)(c:Nat):iV enc (es.push { key:=enc x,val:=v,born:=c }).toList (m++[(x,v)]):=by
 simp only[iV] at *;simp[h]
theorem Qb{α:Type}{enc:α->C_ B_}{sz:Nat}(dt:∀x,(enc x).length=sz):∀(xs:C_ α) (i j:Nat) (h:i<xs.length),j<sz->(xs.flatMap enc)[i*sz+j]? = (enc xs[i])[j]?
 | [],i,j,h,_=>by simp at h
 | x :: xs,0,j,h,ay=>by
  simp only[List.flatMap_cons,Nat.zero_mul,Nat.zero_add,List.getElem_cons_zero];rw[List.getElem?_append_left (by rw[dt];exact ay)]
 | x :: xs,i+1,j,h,ay=>by
  simp only[List.flatMap_cons,List.getElem_cons_succ];rw[List.getElem?_append_right (by rw[dt,AH0];omega),dt,show(i+1)*sz+j - sz=i*sz+j from by rw[AH0];omega];exact Qb dt xs i j (by simpa using h) ay
def aib{α:Type}{enc:α->C_ B_}{sz:Nat}(dt:∀x,(enc x).length=sz){w:A_}{b:Nat}{e:F_}{f:Nat×Nat}{xs:C_ α}(ak:w.heap[b]? = some (.cells (xs.flatMap enc).toArray e f))(i:Nat)(h:i<xs.length) :
  ff w (Addr.add ⟨b,0,none⟩ (i*sz)) (enc xs[i]):=λj v ay=>by
 have Gx:j<sz:=by rw[<-dt xs[i]];exact(List.getElem?_eq_some_iff.1 ay).1
 rw[add_add];exact fP ak (by rw[List.getElem?_toArray,Qb dt xs i j h Gx];exact ay)
def bm.cy{α:Type}{enc:α->C_ B_}{sz:Nat}(dt:∀x,(enc x).length=sz){R:A_->Addr->α->Prop}{w:A_}{b n:Nat}{e:F_}{f:Nat×Nat}{xs:C_ α}(ak:w.heap[b]? = some (.cells (xs.flatMap enc).toArray e f))
  (aw:n=xs.length)(hm:xs.length<=maxLen)(bA:∀a x,x∈xs->ff w a (enc x)->R w a x):bm sz R w (.slice (some ⟨b,0,none⟩) n n) xs:=by
 subst aw;refine⟨_,_,rfl,E1 _,hm,λ_=>rfl,λa aY i U=>?_⟩;injection aY with aY;subst aY
 exact bA _ _ (E2 _) (aib dt ak i U)
def bm.nil{α:Type}{sz:Nat}{R:A_->Addr->α->Prop}{w:A_}:bm sz R w (.slice none 0 0) ([]:C_ α):=⟨none,0,rfl,E1 _,AF4 _,λh=>absurd rfl h,λa h=>by cases h⟩
end ba
namespace ba
open Go Go.RowKit Go.ChangeShapes Go.WideShapes Go.Deep
section
variable{H:Type}{enc:TypeId×Value->H}{P:Program}
theorem afK{w:A_}:∀{cH:C_ F_} {vs:C_ B_} {ds:C_ (DataW H)} {dA:C_ MemPlace},DataW.TrodAll enc P w 0 (λ_=>true) true cH vs ds dA->∀x∈dA,x.block<w.heap.size
 | [],_,_,_,h=>by
  obtain⟨rfl,rfl,rfl⟩:=trodAll_nil h;intro x ah;cases ah
 | _ :: _,_,_,_,h=>by
  obtain⟨v,afR,d,YZ,a,b,rfl,rfl,rfl,⟨m,h1⟩,J⟩:=trodAll_cons h;intro x ah;rcases List.mem_append.1 ah with ah | ah
  .exact DataW.trod_lt m _ _ _ h1 x ah
  .exact afK J x ah
theorem afJ{w:A_}{sp:Nat->Bool}{bb:Bool}:∀{cH:C_ F_} {vs:C_ B_} {ds:C_ (DataW H)} {dA:C_ MemPlace},DataW.TrodAll enc P w 0 sp bb cH vs ds dA->ds.length=cH.length
 | [],_,_,_,h=>by
  obtain⟨rfl,rfl,rfl⟩:=trodAll_nil h;rfl
 | _ :: _,_,_,_,h=>by
  obtain⟨v,afR,d,YZ,a,b,rfl,rfl,rfl,h1,J⟩:=trodAll_cons h;simp[afJ J]
theorem afI(aE:laidOutB P=true){W b4:A_}(ak:Below W.heap.size W b4):∀{cH:C_ F_} {vs:C_ B_} {ds:C_ (DataW H)} {dA:C_ MemPlace},(cH.all λt=>P.readableRec t&&decide (t<P.types.size))=true ->
  DataW.TrodAll enc P W 0 (λ_=>true) true cH vs ds dA->(∀x∈dA,x.block<W.heap.size)->DataW.TrodAll enc P b4 0 (λb=>decide (b<W.heap.size)) true cH vs ds dA
 | [],_,_,_,_,h,_=>by
  obtain⟨rfl,rfl,rfl⟩:=trodAll_nil h;exact trodAll_mk0
 | _ :: _,_,_,_,aT,h,cu=>by
  obtain⟨v,afR,d,YZ,a,b,rfl,rfl,rfl,h1,J⟩:=trodAll_cons h;simp only[List.all_cons,Bool.and_eq_true,decide_eq_true_eq] at aT;exact trodAll_cons_mk (Below.trod aE aT.1.1 aT.1.2 h1 ak λx ah=>cu x (AH2 _ ah)) (afI aE ak aT.2 J λx ah=>cu x (AI6 _ ah))
def axP{s:ChangeSpec}{f:Func}{tb:F_}(aE:laidOutB P=true)(aT:(f.params.toList.all λt=>P.readableRec t&&decide (t<P.types.size))=true)(aH:s.vars=[])
  (aod:f.resultTypes=#[tb])(aB:P.underlying tb=some .bool)(aj:∀ds:C_ (DataW H),ds.length=f.params.toList.length->s.fn H ds = { results:=[.lit (.bool true)],args:=ds })
  {W b4:A_}{args:Array B_}{ds gs:C_ (DataW H)}{before:C_ MemPlace}(ew:DataW.Whole enc P f.params.toList s.vars false W args.toList ds gs before)(Yh:Ext W b4) :
  s.post enc P f false true false false W args (.bool true) b4:=by
 have w7:=ew;obtain⟨p,q,dd,nF,rfl,awK,kT⟩:=ew;rw[aH] at nF;obtain⟨rfl,rfl⟩:=trodVars_none nF;have cu:=afK dd;have e:=aj ds (afJ dd);refine⟨ds,[],_,[],p,[],w7,?_,?_,?_,Yh.frame _,λh=>by cases h⟩
 .rw[S5,e,aod];exact trodAll_mk1 (shut_bool aB _)
 .rw[S5,e];exact afI aE Yh aT dd cu
 .rw[S5,e,aH];rfl
variable{w:World}{base:Nat}{spare:Nat->Bool}{held:Bool}
theorem S8{α:Type}(n:Nat)(R:Nat->α->Prop)(h:∀i,i<n->∃x,R i x):∃xs:C_ α,xs.length=n/\∀i (U:i<xs.length),R i xs[i]:=by
 induction n with
 | zero=>exact⟨[],rfl,λi U=>absurd U (E3 _)⟩
 | succ n fq =>
  obtain⟨xs,aE,ah⟩:=fq λi U=>h i Aw;obtain⟨x,vG⟩:=h n Aw;refine⟨xs++[x],by simp[aE],λi U=>?_⟩;by_cases aw:i<xs.length
  .rw[AH3 aw];exact ah i aw
  .have:i=n:=by simp at U;omega
   subst this;rw[AH4 Aw];simpa[aE] using vG
end
theorem aif{H:Type}{enc:F_×B_->H}{P:D_}{w:A_}{base:Nat}{sp:Nat->Bool}{held:Bool}{fuel:Nat}{t e:F_}{n:Nat}{cs:C_ B_}{zs:C_ ByteArray}{p:C_ MemPlace}
  (aB:P.underlying t=some (.array n e))(he:P.underlying e=some .string)(eH:P.cellsOf e=1)(y6:P.cellsOf t=n)
  (h:DataW.trod enc P w base sp held fuel t cs=some (.agg (zs.map λz=>.lit (.string z.data.toList)),p)):cs=zs.map Value.string:=by
 cases fuel with
 | zero=>simp[DataW.trod] at h
 | succ fuel =>
  simp only[DataW.trod,aB,eH,y6,Nat.mul_one] at h;split at h
  .rename_i aE;obtain⟨xs,hm,ah⟩:=Option.map_eq_some_iff.1 h;have uq:xs.map (·.1)=zs.map λz=>(DataW.lit (.string z.data.toList):DataW H):=by
    have:=congrArg Prod.fst ah
    simpa using this
   have xx:xs.length=n:=by simpa using Lib.mapM_length hm
   have axm:zs.length=n:=by
    have:=congrArg List.length uq
    simp at this;omega
   apply List.ext_getElem?;intro i;by_cases U:i<n
   .obtain⟨b,ak,ax⟩:=Lib.mapM_at hm i i (by simp[U]);obtain⟨z,an,rfl,_⟩:=DataW.trod_string he ax;have h1:cs[i]? = some (.string z):=by
     have:=congrArg (·[0]?) an
     simpa[List.getElem?_take,List.getElem?_drop] using this
    have J:(xs.map (·.1))[i]? = some (DataW.lit (.string z.data.toList):DataW H):=by simp[ak]
    rw[uq] at J;simp only[List.getElem?_map,Option.map_eq_some_iff,DataW.lit.injEq,Lit.string.injEq] at J;obtain⟨af9,G3,e⟩:=J;have aD:af9=z:=by
     cases af9;cases z;simp at e;simp[e]
    simp[h1,G3,aD]
   .rw[List.getElem?_eq_none Aw,List.getElem?_eq_none (by simp;omega)]
  .cases h
def ayn{P:D_}{W:A_}{name:String}{zs:C_ ByteArray}{rest:C_ (String×DataW Unit)}{g:Nat}{t e:F_}{n:Nat}
  (aG:P.globalNamed name=some g)(Si:(P.globals[g]?).map (·.type)=some t)(aB:P.underlying t=some (.array n e))(he:P.underlying e=some .string)(eH:P.cellsOf e=1)(y6:P.cellsOf t=n)
  (h:laidMet P ((name,.agg (zs.map λz=>.lit (.string z.data.toList))) :: rest) W):ff W ⟨g,0,none⟩ (zs.map Value.string):=by
 obtain⟨dA,⟨akI,h5,cs,fuel,p,q,am7,zl,aow,bb,_,_⟩,_⟩:=h;obtain rfl:=Option.some.inj (aG.symm.trans am7);obtain rfl:=Option.some.inj (Si.symm.trans zl);have e:=aif aB he eH y6 bb;intro j v ay
 have:=World.var?_cell aG aow j
 rw[show Addr.add ⟨g,0,none⟩ j=⟨g,j,none⟩ from by cases j<;>simp[Addr.add],this,Array.getElem?_toList.symm,e];exact ay
end ba
namespace ba
open Go Go.RowKit
def Ext.grown{w0 w w':A_}{r:H_ Nat}(he:Ext w0 w)(aG:w.grownBy w' r)(aT:∀k,r=some k->w0.heap.size<=k):Ext w0 w':=Below.grown he aG he.size aT
def aq8{w w':A_}{base:Nat}{e:F_}{sz:Nat}{v:B_}{n:Nat}{xs:C_ B_}(he:Ext w w')(h:w.ownsRow base e sz v n xs):w'.ownsRow base e sz v n xs:=by
 refine⟨h.1,?_⟩;rcases h.2 with aw | ⟨g,cap,cur,rfl,ak,Ds,rest⟩
 .exact .inl aw
 .exact .inr ⟨g,cap,cur,rfl,ak,he.obj Ds,rest⟩
def aq9{w:A_}{base wI:Nat}{e:F_}{sz:Nat}{v:B_}{n:Nat}{xs:C_ B_}(ak:wI<=base)(h:w.ownsRow base e sz v n xs):w.ownsRow wI e sz v n xs:=by
 refine⟨h.1,?_⟩;rcases h.2 with aw | ⟨g,cap,cur,rfl,Dg,rest⟩
 .exact .inl aw
 .exact .inr ⟨g,cap,cur,rfl,Ns ak Dg,rest⟩
def adQ{w:A_}{base:Nat}{e:F_}{sz:Nat}{v:B_}{n:Nat}{xs:C_ B_}(h:w.ownsRow base e sz v n xs):∃aN cap,v = .slice aN n cap/\n<=cap/\cap<=maxLen/\(n≠0->aN.isSome=true)/\∀a,aN=some a->ff w a xs:=by
 rcases h.2 with ⟨rfl,rfl⟩ | ⟨g,cap,cur,rfl,ak,Ds,h1,J,ab,aF⟩
 .exact⟨none,0,rfl,E1 _,AF4 _,λh=>absurd rfl h,λa aY=>by cases aY⟩
 .exact⟨_,cap,rfl,h1,J,λ_=>rfl,λa aY=>by injection aY with aY;subst aY;exact λj u ay=>h.cells (g:=g) rfl j u ay⟩
def ara{α:Type}{enc:α->C_ B_}{w:A_}{base:Nat}{e:F_}{sz:Nat}{v:B_}{xs:C_ α}(dt:∀x,(enc x).length=sz)(h:w.ownsRow base e sz v xs.length (xs.flatMap enc)):bm sz (Flat enc) w v xs:=by
 obtain⟨aN,cap,rfl,h1,J,ab,aF⟩:=adQ h;refine⟨aN,cap,rfl,h1,J,λaw=>ab (by intro e;exact aw (AF7 e)),λa aY i U=>?_⟩;intro j u ay;have Gx:j<sz:=by rw[<-dt xs[i]];exact(List.getElem?_eq_some_iff.1 ay).1
 rw[add_add];exact aF a aY _ _ (by rw[Qb dt xs i j U Gx];exact ay)
def AB3{P:D_}{cO:B_->A_->Prop}{w:A_}{ty e:F_}{sz b:Nat}{s:B_}{a:Addr}{m c:Nat}{t}{base n:Nat}{xs news:C_ B_}(aj:w.ownsRow base e sz s n xs)(an:ff w a news)(aE:news.length=m*sz)
  (h1:∀u∈news,u.oneCell'=true)(lC:n+m<=maxLen)(ak:(n+m)*b<=140737488355328)(kR:base<=w.heap.size)
  (hk:∀bU w',w'.ownsRow base e sz bU (n+m) (xs++news)->w.grownBy w' s.ownBlock->cO bU w'):mH P ty e sz b s (.slice (some a) m c) w cO t :=
 _c λ⟨aB,i,z,U,bB,Bn,AU,zp,dt⟩=>by
  obtain⟨bU,w',aT,J,ab,_⟩:=run_append_own (P:=P) w base ty ty e i z sz b aB U bB Bn AU zp dt s n xs aj a m c news aE an h1 lC ak kR;exact⟨ty,bU,w',aT,hk bU w' J ab⟩
theorem add_zero(a:Addr):a.add 0=a:=by simp[Addr.add]
theorem bm.cap{α:Type}{sz:Nat}{R:A_->Addr->α->Prop}{w:A_}{aN:H_ Addr}{n c:Nat}{xs:C_ α}(h:bm sz R w (.slice aN n c) xs):xs.length<=c:=by
 obtain⟨iQ,cap,e,J,ab,aF,a7⟩:=h.ex;injection e with bG aD aO
 subst aO;exact J
def bm.take{α:Type}{sz:Nat}{R:A_->Addr->α->Prop}{w:A_}{aN:H_ Addr}{n c:Nat}{xs:C_ α}(h:bm sz R w (.slice aN n c) xs)(k:Nat)(hk:k<=xs.length) :
  bm sz R w (.slice (if c=0 then aN else aN.map (·.add (0*sz))) (k - 0) (c - 0)) (xs.take k):=by
 obtain⟨iQ,cap,e,J,ab,aF,a7⟩:=h.ex;injection e with bG aD aO
 subst bG aD aO;have e:(if c=0 then aN else aN.map (·.add (0*sz)))=aN:=by
  split
  .rfl
  .cases aN with
   | none=>rfl
   | some a=>simp[add_zero]
 rw[e];refine⟨aN,c,by simp[List.length_take,Nat.min_eq_left hk],by simp[List.length_take];omega,ab,λaw=>aF (by intro e;subst e;simp at aw),λa aY i U=>?_⟩;have cw:i<xs.length:=by simp[List.length_take] at U;omega
 rw[AI7];exact a7 a aY i cw
theorem ZM{α:Type}{enc:α->C_ B_}{sz:Nat}(dt:∀x,(enc x).length=sz):∀(xs:C_ α) (p:Nat) (v:B_),(xs.flatMap enc)[p]? = some v->∃i j,∃h:i<xs.length,j<sz/\p=i*sz+j/\(enc xs[i])[j]? = some v
 | [],p,v,h=>by simp at h
 | x :: xs,p,v,h=>by
  rw[AI1] at h;by_cases au:p<sz
  .rw[List.getElem?_append_left (by rw[dt];exact au)] at h;exact⟨0,p,CC,au,CC,h⟩
  .rw[List.getElem?_append_right (by rw[dt];omega),dt] at h;obtain⟨i,j,U,ay,e,J⟩:=ZM dt xs (p - sz) v h;exact⟨i+1,j,by simpa using U,ay,by rw[AH0];omega,by simpa using J⟩
def bm.flat{α:Type}{enc:α->C_ B_}{sz:Nat}{R:A_->Addr->α->Prop}{w:A_}{a:Addr}{n c:Nat}{xs:C_ α}(dt:∀x,(enc x).length=sz)(bA:∀a x,R w a x->ff w a (enc x))
  (h:bm sz R w (.slice (some a) n c) xs):ff w a (xs.flatMap enc):=by
 intro p v au;obtain⟨i,j,U,ay,rfl,J⟩:=ZM dt xs p v au
 have:=bA _ _ (h.at i U) j v J
 rwa[add_add] at this
theorem yR{α:Type}{enc:α->C_ B_}{sz:Nat}(dt:∀x,(enc x).length=sz):∀(xs:C_ α),(xs.flatMap enc).length=xs.length*sz
 | []=>CC
 | x :: xs=>by rw[AI1,HO,yR dt xs,dt,AG7,AH0];omega
def _v{P:D_}{Q:fM->Fr->A_->Prop}{S:Fr}{w:A_}{a b:e6}{t}(N:Fr->A_->Prop)(h1:e5 P a (jI N Q ⟨⟩) S w ⟨⟩)
  (J:∀aZ w',(∀t,a.gi.contains t=false->aZ t=S t)->N aZ w'->e5 P b Q aZ w' ⟨⟩):e5 P (.seq a b) Q S w t:=by
 unfold e5 jI at *;exact qF a _ _ S w (λe aZ w' aj h=>match e,h with | .normal,h=>J aZ w' aj h | .exit _,h=>h | .ret,h=>h | .hD _,h=>h) h1
def _7{P:D_}{h5:F_}{eF eR:G_}{bl:B_->Prop}{a b:Bool}{t}(h:P.underlying h5=some .bool)(hk:bl (.bool (a != b))):kJ P .neq h5 eF eR (.bool a) (.bool b) bl t :=
 _X (v:=.bool (a != b)) (λw=>by cases a<;>cases b<;>simp[eqGuard_at_bool,binOp,run_equal_bool w h5 _ _ h]) hk
def aq7{w:A_}{base:Nat}{e:F_}{sz b:Nat}(ak:base<=b)(h:w.heap[b]? = some (.cells #[] e)):w.ownsRow base e sz (.slice (some ⟨b,0,none⟩) 0 0) 0 [] :=
 ⟨CC,.inr ⟨b,0,#[],rfl,ak,h,E1 _,AF4 _,CC,CC⟩⟩
end ba
namespace ba
open Go Go.RowKit
class px{α:Type}(R:World->Addr->α->Prop)(enc:outParam (α->List Value)):Prop where
 I3:∀w a x,R w a x->ff w a (enc x)
instance axo{α:Type}(enc:α->List Value):px (Flat enc) enc:=⟨λ_ _ _ h=>h⟩
section
variable{P:Program}{Q:fM->Fr->World->Prop}{bl:Value->Prop}{K:Value->World->Prop}{S:Fr}{w w0:World}
def _M{b j:Nat}{c:C_ B_}{ty:F_}{f:Nat×Nat}{v:B_}{t}(ak:w0.heap[b]? = some (.cells c.toArray ty f))(he:Ext w0 w)(ay:c[j]? = some v)(hk:bl v):uS (.pointer (some (Addr.add ⟨b,0,none⟩ j))) w bl t :=
 M_ (fP (he.obj ak) (by simpa using ay)) hk
def _E{b:Nat}{c:C_ B_}{ty:F_}{f:Nat×Nat}{v:B_}{t}(ak:w0.heap[b]? = some (.cells c.toArray ty f))(he:Ext w0 w)(ay:c[0]? = some v)(hk:bl v):uS (.pointer (some ⟨b,0,none⟩)) w bl t :=
 M_ (CD (he.obj ak) (by simpa using ay)) hk
def T_{b n:Nat}{c:C_ B_}{ty:F_}{f:Nat×Nat}{t}(ak:w0.heap[b]? = some (.cells c.toArray ty f))(he:Ext w0 w)(aw:c.length=n)(hk:bl (.agg c.toArray)):yn n (.pointer (some ⟨b,0,none⟩)) w bl t :=
 Z_ (hK (he.obj ak)) aw hk
def _O{α:Type}{sz i j n c:Nat}{R:A_->Addr->α->Prop}{enc:α->C_ B_}[px R enc]{a:Addr}{xs:C_ α}{v:B_}{t}(aE:bm sz R w0 (.slice (some a) n c) xs)(he:Ext w0 w)(U:i<xs.length)(ay:(enc xs[i])[j]? = some v)
  (hk:bl v):uS (.pointer (some ((a.add (i*sz)).add j))) w bl t:=M_ (he.cell (px.I3 _ _ _ (aE.at i U) j v ay)) hk
def _P{α:Type}{i n c:Nat}{R:A_->Addr->α->Prop}{enc:α->C_ B_}[px R enc]{a:Addr}{xs:C_ α}{v:B_}{t}(aE:bm 1 R w0 (.slice (some a) n c) xs)(he:Ext w0 w)(U:i<xs.length)(ay:(enc xs[i])[0]? = some v)
  (hk:bl v):uS (.pointer (some (a.add (i*1)))) w bl t:=by
 have h:=px.I3 (R:=R) _ _ _ (aE.at i U) 0 v ay;rw[add_zero] at h;exact M_ (he.cell h) hk
def _Q{α:Type}{sz i n c m:Nat}{R:A_->Addr->α->Prop}{enc:α->C_ B_}[px R enc]{a:Addr}{xs:C_ α}{t}(aE:bm sz R w0 (.slice (some a) n c) xs)(he:Ext w0 w)(U:i<xs.length)(aw:(enc xs[i]).length=m)
  (hk:bl (.agg (enc xs[i]).toArray)):yn m (.pointer (some (a.add (i*sz)))) w bl t:=Z_ ((px.I3 _ _ _ (aE.at i U)).ext he) aw hk
def _R{p:Prop}[Decidable p]{A B:Prop}{t}(h:p)(hk:A):p2 (.bool (decide p)) A B t:=I_ (λ_=>hk) λbq=>absurd h bq
def _S{p:Prop}[Decidable p]{A B:Prop}{t}(h:¬p)(hk:B):p2 (.bool (decide p)) A B t:=I_ (λbq=>absurd bq h) λ_=>hk
def _I{u:Bool}{A B:Prop}{t}(h:u=true)(hk:A):p2 (.bool u) A B t:=N_ (λ_=>hk) λbq=>by rw[h] at bq;cases bq
def _J{u:Bool}{A B:Prop}{t}(h:u=false)(hk:B):p2 (.bool u) A B t:=N_ (λbq=>by rw[h] at bq;cases bq) λ_=>hk
def _T{sz:Nat}{a:Addr}{len cap:Nat}{k:IntKind}{i:Nat}{t}(h:i<len)(hk:bl (.pointer (some (a.add (i*sz))))):EK sz (.slice (some a) len cap) (.int k (i:Int)) bl t:=K_ i rfl h hk
def _N{d n:Nat}{ty:F_}{cs:Array B_}{x:G_}{r:C_ Step}{cO:Fr->A_->Prop}{vs:C_ B_}{t1 t}(ah:∀v,bu (cg S d v) x = .agg vs.toArray)(aw:vs.length=n)(an:cs.size=n)(h1:∀u∈vs,u.oneCell'=true)
  (hk:∀w1 b,w.heap.size<=b->Ext w w1->w1.heap[b]? = some (.cells vs.toArray ty)->qC P r (cg S d (.pointer (some ⟨b,0,none⟩))) w1 cO ⟨⟩) :
  EO ty cs w (λv w'=>qC P (⟨none,none,.e (.mc n (.tmp d) x)⟩ :: r) (put S (some d) v) w' cO t1) t:=by
 refine O_ λw1 b ak he cI=>?_;simp -dsimp only[U4,U5,U6,U7,U8,U9,Va,Vb,Vc,Vd,Vf,Vg,Vh,Vi,Vj,Vk,Vl,Vm,Vn,cK,Vo,Vp,Vq,Vr,Vs,Vt,Vu,Vv,Vw,Vx,uP,VA,VB,VC,VD,VE,VF,VG,VH,VI,zV,j0,df,fw,dX,hq,hg,gd,hR,fA,VO,VP,VQ,VR,VS,VT,VU,VV,VW,VX,VY,H1,VZ,V0,V1,V2,V3,V4,V5,V6,V7,V8,V9,Wa,Wb,Wc,Wd,We,Wf,Wg,Wh,Wi,Wj,Wk,Wl,Wm,Wn,Wo,Wp,Wq,Wt,Wu,M2,Wv,Ww,Wx,Wy,Wz,WA,WB,WC,WD,WE,WG,WH,WI,WJ,WK,WL,WM,WO,WQ,WR,WS,WT,WU,WV,WW,WX,WY,W0,W1,W2,W3,W4,W5,W6,W7,W8,W9,Xc,EU,EV,Xd,Xe,Xf,EW,Cl,Xg,Xh,Xm,Xn,Xo,Xp,Xq,Xr,Xs,Xt,Xu,Xv,Xx,Xy,Xz,XA,XB,XC,XD,XE,XF,XG,XH,XI,XJ,XK,XL,XM,XN,XO,XP,XQ,XR,iX,e9,oQ,Ct,qO,lU,Nat.reduceAdd,Nat.reduceEqDiff,reduceIte,reduceCtorEq,dq,ah];refine U_ (cs:=vs.toArray) cI an (by simpa using aw) (by simpa using h1) λaz hw ao=>?_;exact hk az b ak (hw.ext he ak) ao
theorem _h{b:e6}{t}(i N:Nat)(jo:Nat->Fr->A_->Prop)(Rt:S i = .I 0)(ad:jo 0 S w)
  (aT:∀(k:Nat) aZ w',(∀t,b.gi.contains t=false->aZ t=S t)->k<=N->aZ i = .I k->jo k aZ w' ->
   e5 P b (jI (λgf bO=>k<N/\gf i = .I ((k:Int)+1)/\jo (k+1) gf bO) Q ⟨⟩) aZ w' ⟨⟩):Cf P b Q S w t:=by
 refine _A (λS w => ∃k:Nat,k<=N/\S i = .I k/\jo k S w) (λS _=>(N - intOf (S i)).toNat) ⟨0,AF4 _,by simpa using Rt,ad⟩ ?_;rintro aZ w' b7 ⟨k,hk,U,ay⟩;have h:=aT k aZ w' b7 hk U ay;unfold e5 jI at *;refine qF b _ _ aZ w' (λe gf bO _ h=>?_) h
 match e,h with
 | .normal,⟨h1,J,ab⟩=>exact⟨⟨k+1,h1,by simpa using J,ab⟩,by simp[U,J,intOf];omega⟩
 | .exit _,h=>exact h
 | .ret,h=>exact h
 | .hD _,h=>exact h
def _K{KW:A_->Prop}{d:TypeDesc}{r:Nat}{k v:B_}{es:Array MapEntry}{c:Nat}{t}(h1:w.heap[r]? = some (.map es c))(J:Instr.findNow d k es.toList 0=some none)
  (hk:∀w1,dw r w w1->w1.heap[r]? = some (.map (es.push { key:=k,val:=v,born:=c }) (c+1))->KW w1):Ch d (.map (some r)) k v w KW t :=
 _u h1 J (hk _ (dw.fJ _ _ _) (Eh (cq h1)))
def _i{sz:Nat}{aN:H_ Addr}{n cap:Nat}{x:G_}{k:IntKind}{t}(h:Nat)(ah:bu S x = .int k (h:Int))(cI:h<=cap)(hk:bl (.slice aN h cap)):tw S sz (.slice aN n cap) none (some x) none bl t:=by
 refine _B 0 h cap (by simp[eP]) (by simp[eP,ah]) (by simp[eP]) ⟨AF4 _,cI,E1 _⟩ CC ?_;have e:(if cap=0 then aN else aN.map (·.add (0*sz)))=aN:=by
  split
  .rfl
  .cases aN with
   | none=>rfl
   | some a=>simp[add_zero]
 rw[e];exact hk
def _8{sz:Nat}{aN:H_ Addr}{n cap:Nat}{x:G_}{k:IntKind}{t}(l:Nat)(ah:bu S x = .int k (l:Int))(aE:l<=n/\n<=cap)(hk:bl (.slice (if cap=l then aN else aN.map (·.add (l*sz))) (n - l) (cap - l))) :
  tw S sz (.slice aN n cap) (some x) none none bl t :=
 _B l n cap (by simp[eP,ah]) (by simp[eP]) (by simp[eP]) ⟨aE.1,aE.2,E1 _⟩ CC hk
end
def bm.head{α:Type}{sz:Nat}{R:A_->Addr->α->Prop}{w:A_}{aN:H_ Addr}{n c:Nat}{xs:C_ α}(h:bm sz R w (.slice aN n c) xs)(k:Nat)(hk:k<=xs.length):bm sz R w (.slice aN k c) (xs.take k):=by
 have:=h.take k hk
 have e:(if c=0 then aN else aN.map (·.add (0*sz)))=aN:=by
  split
  .rfl
  .cases aN with
   | none=>rfl
   | some a=>simp[add_zero]
 rw[e] at this;exact this
def bm.len{α:Type}{sz:Nat}{R:A_->Addr->α->Prop}{w:A_}{aN:H_ Addr}{n c:Nat}{xs:C_ α}(h:bm sz R w (.slice aN n c) xs):n=xs.length/\n<=c/\c<=maxLen:=by
 obtain⟨iQ,cap,e,J,ab,_⟩:=h.ex;injection e with bG aD aO
 subst aD aO;exact⟨rfl,J,ab⟩
def bm.tail{α:Type}{sz:Nat}{R:A_->Addr->α->Prop}{w:A_}{aN:H_ Addr}{n c:Nat}{xs:C_ α}(h:bm sz R w (.slice aN n c) xs)(l:Nat)(aE:l<=xs.length) :
  bm sz R w (.slice (if c=l then aN else aN.map (·.add (l*sz))) (n - l) (c - l)) (xs.drop l):=by
 obtain⟨bG,aD,aO⟩:=h.len;subst bG;obtain⟨iQ,cap,e,J,ab,aF,a7⟩:=h.ex;injection e with bG aD aO
 subst bG aO;refine⟨_,_,by rw[AF5],by rw[AF5];omega,Aw,λaw=>?_,λa aY i U=>?_⟩
 .have:xs≠[]:=by intro e;subst e;simp at aw
  have:=aF this
  split
  .exact this
  .cases aN with
   | none=>cases this
   | some a=>rfl
 .have cw:l+i<xs.length:=by rw[AF5] at U;omega
  rw[if_neg Aw] at aY;cases aN with
  | none=>cases aY
  | some b =>
   simp only[Option.map_some,Option.some.injEq] at aY;subst aY;rw[add_add,<-AH0,AK0];exact a7 b rfl _ cw
structure Mod(A:Nat->Prop)(w w':World):Prop where
 os:w'.os=w.os
 tape:w'.tape=w.tape
 output:w'.output=w.output
 size:w.heap.size<=w'.heap.size
 block:∀k,k<w.heap.size->¬A k->w'.heap[k]? = w.heap[k]?
def Mod.refl(A:Nat->Prop)(w:A_):Mod A w w:=⟨rfl,rfl,rfl,E1 _,λ_ _ _=>rfl⟩
def Mod.trans{A:Nat->Prop}{a b c:A_}(h:Mod A a b)(k:Mod A b c):Mod A a c :=
 ⟨k.os.trans h.os,k.tape.trans h.tape,k.output.trans h.output,Ns h.size k.size,λi U aw=>(k.block i (AH5 U h.size) aw).trans (h.block i U aw)⟩
theorem Mod.then{A B:Nat->Prop}{a b c:A_}(h:Mod B a b)(k:Mod A b c)(aj:∀i,i<a.heap.size->A i->B i):Mod B a c :=
 ⟨k.os.trans h.os,k.tape.trans h.tape,k.output.trans h.output,Ns h.size k.size,λi U aw=>(k.block i (AH5 U h.size) λe=>aw (aj i U e)).trans (h.block i U aw)⟩
def Ext.mod{A:Nat->Prop}{w w':A_}(h:Ext w w'):Mod A w w':=⟨h.os,h.tape,h.output,h.size,λ_ hk _=>h.heap hk⟩
def dw.mod{A:Nat->Prop}{b:Nat}{w w':A_}(h:dw b w w')(ak:A b):Mod A w w':=⟨h.os,h.tape,h.output,by rw[h.size];exact E1 _,λk _ aw=>h.block k λe=>aw (e ▸ ak)⟩
def Mod.grown{A:Nat->Prop}{w w':A_}{row:H_ Nat}(h:w.grownBy w' row)(aT:∀k,row=some k->A k):Mod A w w':=⟨h.os,h.tape,h.output,h.size,λk hk aw=>h.block k hk λe=>aw (aT k e.symm)⟩
theorem Mod.ext{A:Nat->Prop}{w0 w w':A_}(h:Mod A w w')(he:Ext w0 w)(dd:∀k,k<w0.heap.size->¬A k):Ext w0 w' :=
 ⟨h.os.trans he.os,h.tape.trans he.tape,h.output.trans he.output,Ns he.size h.size,λk hk=>(h.block k (AH5 hk he.size) (dd k hk)).trans (he.heap hk)⟩
theorem Mod.obj{A:Nat->Prop}{w w':A_}{k:Nat}{ae:Obj}(h:Mod A w w')(aw:¬A k)(hk:w.heap[k]? = some ae):w'.heap[k]? = some ae:=(h.block k (cq hk) aw).trans hk
def Mod.B1{A B:Nat->Prop}{w w':A_}(h:Mod A w w')(aj:∀k,A k->B k):Mod B w w':=⟨h.os,h.tape,h.output,h.size,λk hk aw=>h.block k hk λe=>aw (aj k e)⟩
def aK{α:Type}(enc:α->C_ B_)(e:F_)(sz base:Nat)(w:A_)(v:B_)(xs:C_ α):Prop:=w.ownsRow base e sz v xs.length (xs.flatMap enc)
section
variable{α:Type}{enc:α->List Value}{e:TypeId}{sz base:Nat}{w w':World}{v:Value}{xs:List α}
def aK.nil(enc:α->C_ B_)(e:F_)(sz base:Nat)(w:A_):aK enc e sz base w (.slice none 0 0) []:=World.ownsRow_nil w base e sz
theorem aK.ext(he:Ext w w')(h:aK enc e sz base w v xs):aK enc e sz base w' v xs:=aq8 he h
def aK.wr{b:Nat}(hw:dw b w w')(ak:b<base)(h:aK enc e sz base w v xs):aK enc e sz base w' v xs :=
 World.ownsRow.kept (row:=some b) h ⟨hw.os,hw.tape,hw.output,by rw[hw.size];exact E1 _,λk _ hk=>hw.block k (λe=>hk (by rw[e]))⟩ (by
  cases aH:v.ownBlock with
  | none=>exact .inl rfl
  | some k=>exact .inr (by have:=(World.ownsRow.lt h k aH).1;intro e;injection e with e;omega))
def aK.lt(h:aK enc e sz base w v xs):∀k,v.ownBlock=some k->base<=k/\k<w.heap.size:=World.ownsRow.lt h
def aK.form(h:aK enc e sz base w v xs):∃aN cap,v = .slice aN xs.length cap/\xs.length<=cap/\cap<=maxLen:=by
 obtain⟨aN,cap,h1,J,ab,_⟩:=adQ h;exact⟨aN,cap,h1,J,ab⟩
def aK.iR(dt:∀x,(enc x).length=sz)(h:aK enc e sz base w v xs):bm sz (Flat enc) w v xs:=ara dt h
def aK.head{aN:H_ Addr}{n cap:Nat}(dt:∀x,(enc x).length=sz)(h:aK enc e sz base w (.slice aN n cap) xs)(k:Nat)(hk:k<=xs.length):aK enc e sz base w (.slice aN k cap) (xs.take k):=by
 have lF:∀(xs:C_ α) (k:Nat),(xs.flatMap enc).take (k*sz)=(xs.take k).flatMap enc:=by
  intro xs
  induction xs with
  | nil=>intro k;simp
  | cons x xs fq =>
   intro k;cases k with
   | zero=>simp
   | succ k =>
    simp only[List.flatMap_cons,List.take_succ_cons];rw[List.take_append,dt,show(k+1)*sz - sz=k*sz from by rw[AH0];omega,fq,MT (by rw[dt,AH0];omega)]
 have aE:(xs.take k).length=k:=by simp[List.length_take];omega
 refine⟨by rw[aE,yR dt,aE],?_⟩;rcases h.2 with ⟨h1,J⟩ | ⟨g,qS,cur,h1,J,ab,aF,a7,bJ,ct⟩
 .injection h1 with bG aD aO
  subst bG aO
  have:xs.length=0:=J
  exact .inl ⟨by congr 1;omega,Aw⟩
 .injection h1 with bG aD aO
  subst bG aO;refine .inr ⟨g,cap,cur,by rw[aE],J,ab,Aw,a7,bJ,?_⟩;rw[aE,<-lF,<-ct,AI8,Nat.min_eq_left (AI9 _ hk)]
def _j{P:D_}{cO:B_->A_->Prop}{ty:F_}{b:Nat}{s:B_}{a:Addr}{m c:Nat}{ys:C_ α}{t}(aj:aK enc e sz base w s xs)(dt:∀x,(enc x).length=sz)(an:ff w a (ys.flatMap enc))(hm:m=ys.length)
  (h1:∀y,∀u∈enc y,u.oneCell'=true)(ak:(xs.length+ys.length)*b<=140737488355328)(lC:xs.length+ys.length<=maxLen)(kR:base<=w.heap.size)
  (hk:∀bU w',aK enc e sz base w' bU (xs++ys)->w.grownBy w' s.ownBlock->cO bU w'):mH P ty e sz b s (.slice (some a) m c) w cO t:=by
 subst hm;refine AB3 aj an (yR dt ys) (λu hu=>by obtain⟨y,_,bF⟩:=List.mem_flatMap.1 hu;exact h1 y u bF) lC ak kR λbU w' kV aG=>hk bU w' ?_ aG;unfold aK;rw[HO,AF9];exact kV
end
end ba
namespace ba
open Go Go.RowKit
section
variable{P:Program}{cO:Value->World->Prop}{α:Type}{enc:α->List Value}{e:TypeId}{sz base wI:Nat}{w:World}{s x:Value}{xs ys:List α}
def _n{ty:F_}{b:Nat}{t}(aj:aK enc e sz base w s xs)(ah:aK enc e sz wI w x ys)(dt:∀x,(enc x).length=sz)(h1:∀y,∀u∈enc y,u.oneCell'=true)(ak:(xs.length+ys.length)*b<=140737488355328)
  (lC:xs.length+ys.length<=maxLen)(kR:base<=w.heap.size)(hk:∀bU w',aK enc e sz base w' bU (xs++ys)->w.grownBy w' s.ownBlock->cO bU w'):mH P ty e sz b s x w cO t:=by
 rcases ah.2 with ⟨rfl,ad⟩ | ⟨g,cap,cur,rfl,Ke,aG,ab,aF,a7,bJ⟩
 .have:ys=[]:=AF7 ad
  subst this;rw[S5] at hk;refine _c λ⟨aB,i,z,U,bB,Bn,AU,zp,GW⟩=>?_;exact⟨ty,s,w,run_append_owned_none w base ty ty e i sz aB U s _ _ aj,hk s w aj ⟨rfl,rfl,rfl,E1 _,λ_ _ _=>rfl⟩⟩
 .exact _j aj dt (λj u ay=>World.ownsRow.cells ah (g:=g) rfl j u ay) rfl h1 ak lC kR hk
def AB4{R:A_->Addr->α->Prop}[px R enc]{ty:F_}{b:Nat}{a:Addr}{m c:Nat}{t}(aj:aK enc e sz base w s xs)(ah:bm sz R w (.slice (some a) m c) ys)(dt:∀x,(enc x).length=sz)(h1:∀y,∀u∈enc y,u.oneCell'=true)
  (ak:(xs.length+ys.length)*b<=140737488355328)(lC:xs.length+ys.length<=maxLen)(kR:base<=w.heap.size)(hk:∀bU w',aK enc e sz base w' bU (xs++ys)->w.grownBy w' s.ownBlock->cO bU w'):mH P ty e sz b s (.slice (some a) m c) w cO t :=
 _j aj dt (bm.flat (enc:=enc) dt (λa x h=>px.I3 _ a x h) ah) ah.len.1 h1 ak lC kR hk
def aK.empty{b:Nat}(ak:base<=b)(h:w.heap[b]? = some (.cells #[] e)):aK enc e sz base w (.slice (some ⟨b,0,none⟩) 0 0) ([]:C_ α):=aq7 ak h
def aK.low{v:B_}(ak:wI<=base)(h:aK enc e sz base w v xs):aK enc e sz wI w v xs:=aq9 ak h
end
end ba
namespace ba
open Go
def aQ(n:Nat):G_:=.tmp n
def cE(n:Int):G_:=.const (.int .i64 n)
def kI(b:Bool):G_:=.const (.bool b)
def cS(d:Nat)(i:wq):Step:=⟨some d,none,.p i⟩
def p0(d:Nat)(i:wv):Step:=⟨some d,none,.r i⟩
def du(d:Nat)(i:tn):Step:=⟨some d,none,.e i⟩
def iv(d:Nat)(i:rE):Step:=⟨some d,none,.c i⟩
def hG(i:tn):Step:=⟨none,none,.e i⟩
def ee(j:Nat)(b:Bool)(s:Step):Step:=⟨s.dst,some (j,b),s.i⟩
def aU(d n:Nat):Step:=⟨some d,none,.p (.lJ (.tmp n))⟩
def fK(d:Nat)(x:G_):Step:=⟨some d,none,.p (.lJ x)⟩
def fu(d k n:Nat):Step:=⟨some d,none,.p (.ju k (.tmp n))⟩
def eJ(d n:Nat):Step:=⟨some d,none,.r (.ld (.tmp n))⟩
def iw(d k a i:Nat):Step:=⟨some d,none,.p (.ox k (.tmp a) (.tmp i))⟩
def ys(a v:Nat):Step:=⟨none,none,.e (.st (.tmp a) (.tmp v))⟩
def mg(d n:Nat):Step:=⟨some d,none,.p (.DO (.tmp n))⟩
def dR:B_:=.int .i64 0
def iT:B_:=.slice none 0 0
def B3:B_:=.string ⟨#[]⟩
def iU(op:BinOp)(t:F_)(d a b:Nat):Step:=⟨some d,none,.p (.bin op t (.tmp a) (.tmp b))⟩
def ks(op:BinOp)(t:F_)(d a:Nat)(n:Int):Step:=⟨some d,none,.p (.bin op t (.tmp a) (.const (.int .i64 n)))⟩
def yd(d a b:Nat):Step:=⟨some d,none,.p (.pick (.tmp a) (.tmp b) (.const (.bool false)))⟩
def pv(d a b:Nat):Step:=⟨some d,none,.p (.pick (.tmp a) (.const (.bool true)) (.tmp b))⟩
def cT(cj:C_ Step)(b:e6):e6:=.seq (.dB cj) b
def kr(n:Nat)(a b:e6):e6:=.cond (.tmp n) a b
def iu(d k n:Nat):Step:=⟨some d,none,.r (.lj k (.tmp n))⟩
def qG(k a v:Nat):Step:=⟨none,none,.e (.mc k (.tmp a) (.tmp v))⟩
def N5(d n:Nat):Step:=⟨some d,none,.p (.xO (.tmp n))⟩
def EA(d n i:Nat):Step:=⟨some d,none,.p (.ext (.tmp n) i)⟩
def oG(d:Nat)(f:E_)(l:C_ Nat):Step:=⟨some d,none,.c (.fn f (l.map .tmp))⟩
def wg(n m:Nat)(b:e6):e6:=.seq (.cond (.tmp n) .skip (.exit m)) b
def sq(n:Nat)(s:Step):Step:=ee n true s
def mf(n:Nat)(s:Step):Step:=ee n false s
def yc(s:Step)(k:eu):eu:=.take s k
def we(t:F_)(a b:Nat):e6:=.dB [⟨some a,none,.p (.bin .add t (.tmp b) (.const (.int .i64 1)))⟩,⟨some b,none,.p (.lJ (.tmp a))⟩]
def oR{A B:Prop}(k:B)(h:B->A:=by
 intro q
 try dsimp only[aQ,cE,kI,cS,p0,du,iv,hG,ee,aU,fK,fu,eJ,iw,ys,mg,dR,iT,B3,iU,ks,yd,pv,cT,kr,iu,qG,N5,EA,oG,wg,we,sq,mf,yc,List.map_cons,List.map_nil]
 exact q):A:=h k
end ba
namespace ba
open Go Go.RowKit
structure yk(p:Prop):Prop where out:p
theorem aI{A B:Prop}(k:B)(h:yk B->A:=by
 intro q
 (repeat' first
 | assumption
 | exact Ext.refl _
 | refine Ext.trans ?_ CV
 | refine Q_ Aw ?_
 | refine _M CV ?_ rfl ?_
 | refine _E CV ?_ rfl ?_
 | refine _O CV ?_ Aw rfl ?_
 | refine _P CV ?_ Aw rfl ?_
 | refine _Q CV ?_ Aw rfl ?_
 | refine _T Aw ?_
 | refine _R (by first | assumption | omega) ?_
 | refine _S (by first | assumption | omega) ?_
 | refine _I CV ?_
 | refine _J CV ?_
 | simp -dsimp only[dg,cK,Nat.reduceAdd,Nat.reduceEqDiff,reduceIte,reduceCtorEq,dq])
 exact q.out):A:=h ⟨k⟩
theorem en{F A B:Prop}(f:F)(k:B)(h:F->yk B->A:=by
 intro f q
 (repeat' first
 | assumption
 | exact Ext.refl _
 | refine Ext.trans ?_ CV
 | refine Q_ Aw ?_
 | refine _M CV ?_ rfl ?_
 | refine _E CV ?_ rfl ?_
 | refine _O CV ?_ Aw rfl ?_
 | refine _P CV ?_ Aw rfl ?_
 | refine _Q CV ?_ Aw rfl ?_
 | refine _T Aw ?_
 | refine _R (by first | assumption | omega) ?_
 | refine _S (by first | assumption | omega) ?_
 | refine _I CV ?_
 | refine _J CV ?_
 | simp -dsimp only[dg,cK,Nat.reduceAdd,Nat.reduceEqDiff,reduceIte,reduceCtorEq,dq,f])
 exact q.out):A:=h f ⟨k⟩
theorem rO{A B:Prop}(k:B)(h:yk B->A:=by
 intro q
 (repeat' first
 | assumption
 | exact Ext.refl _
 | refine Ext.trans ?_ CV
 | refine Q_ Aw ?_
 | refine _M CV ?_ rfl ?_
 | refine _E CV ?_ rfl ?_
 | refine _O CV ?_ Aw rfl ?_
 | refine _P CV ?_ Aw rfl ?_
 | refine _Q CV ?_ Aw rfl ?_
 | refine _T Aw ?_
 | refine _R (by first | assumption | omega) ?_
 | refine _S (by first | assumption | omega) ?_
 | refine _I CV ?_
 | refine _J CV ?_
 | simp -dsimp only[dg,Nat.reduceAdd,Nat.reduceEqDiff,reduceIte,reduceCtorEq,dq])
 exact q.out):A:=h ⟨k⟩
def ch{F A B:Prop}(f:F)(k:B)(h:F->yk B->A:=by
 intro f q;simp -dsimp only[dg,cK,Nat.reduceAdd,Nat.reduceEqDiff,reduceIte,reduceCtorEq,dq,f];exact q.out):A:=h f ⟨k⟩
def v7:C_ (Nat×B_)->Fr->Fr
 | [],S=>S
 | p :: r,S=>cg (v7 r S) p.1 p.2
theorem x4(S:Fr):v7 [] S=S:=eq_of_heq (HEq.refl _)
theorem x3(t:Nat)(v:B_)(r:C_ (Nat×B_))(S:Fr):v7 ((t,v) :: r) S=cg (v7 r S) t v:=eq_of_heq (HEq.refl _)
def Has(S:Fr):C_ (Nat×B_)->Prop
 | []=>True
 | p :: r=>S p.1=p.2/\Has S r
theorem w9(S:Fr):Has S []=True:=propext Iff.rfl
theorem w8(S:Fr)(t:Nat)(v:B_)(r:C_ (Nat×B_)):Has S ((t,v) :: r)=(S t=v/\Has S r):=propext Iff.rfl
theorem HP{S:Fr}:∀L,Has S L->v7 L S=S
 | [],_=>rfl
 | p :: r,h=>by
  show cg (v7 r S) p.1 p.2=S;rw[HP r h.2];exact ko S _ _ h.1
def vM(S:Fr):C_ Nat->Fr->Fr
 | [],aZ=>aZ
 | t :: r,aZ=>cg (vM S r aZ) t (S t)
theorem xF(S aZ:Fr):vM S [] aZ=aZ:=eq_of_heq (HEq.refl _)
theorem xE(S aZ:Fr)(t:Nat)(r:C_ Nat):vM S (t :: r) aZ=cg (vM S r aZ) t (S t):=eq_of_heq (HEq.refl _)
theorem Hc{S aZ:Fr}:∀cH:C_ Nat,(∀t∈cH,aZ t=S t)->vM S cH aZ=aZ
 | [],_=>rfl
 | t :: r,h=>by
  show cg (vM S r aZ) t (S t)=aZ;rw[Hc r λu hu=>h u (by simp[hu])];exact ko aZ _ _ (h t CC)
def a6{p:Prop}(h:p:=by first | trivial | rfl | exact⟨rfl,trivial⟩ | (simp -dsimp only[dg,x4,x3,xF,xE,w9,w8,Nat.reduceAdd,Nat.reduceEqDiff,reduceIte,and_self];done) | (simp -dsimp only[dg,x4,x3,xF,xE,w9,w8,Nat.reduceAdd,Nat.reduceEqDiff,reduceIte,and_self];exact⟨rfl,trivial⟩)):p:=h
def MY{ds cH:C_ Nat}(h:(cH.all λt => !ds.contains t)=true):∀t∈cH,ds.contains t=false:=λt aB=>by
 have:=List.all_eq_true.1 h t aB
 simpa using this
theorem apZ{p:Nat->Prop}:∀n,p n->∃m,p m/\∀k,p k->m<=k:=λn=>by
 induction n using Nat.strongRecOn with
 | _ n fq =>
  intro h;by_cases hm:∃k,k<n/\p k
  .obtain⟨k,hk,au⟩:=hm;exact fq k hk au
  .exact⟨n,h,λk hk=>Nat.le_of_not_lt λcu=>hm ⟨k,cu,hk⟩⟩
noncomputable def least(p:Nat->Prop):Nat:=open Classical in if h:∃m,p m/\∀k,p k->m<=k then h.choose else 0
def ac8{p:Nat->Prop}(h:∃n,p n):p (least p)/\∀k,p k->least p<=k:=by
 obtain⟨n,aw⟩:=h;have hm:=apZ n aw;unfold least;rw[dif_pos hm];exact hm.choose_spec
section
variable{P:Program}{Q:fM->Fr->World->Prop}{S:Fr}{w:World}
def L_{β:Type}{b:e6}{t}(i N:Nat)(cH:C_ Nat)(M:β->C_ (Nat×B_))(k1:β)(jo:Nat->β->A_->Prop)(Rt:S i = .I 0)(aL:Has S (M k1))(ad:jo 0 k1 w)
  (aT:∀(k:Nat) x aZ w',k<=N->jo k x w' ->
   e5 P b (jI (λgf bO=>k<N/\gf i = .I ((k:Int)+1)/\∃B2,Has gf (M B2)/\jo (k+1) B2 bO) Q ⟨⟩) (v7 (M x) (cg (vM S cH aZ) i (.I k))) w' ⟨⟩)
  (bb:(cH.all λt => !b.gi.contains t)=true:=by rfl):Cf P b Q S w t:=by
 refine _h i N (λk S w => ∃x,Has S (M x)/\jo k x w) Rt ⟨k1,aL,ad⟩ ?_;rintro k aZ w' b7 hk U ⟨x,FX,rX⟩;have h:=aT k x aZ w' hk rX;rw[Hc cH λt aB=>b7 t (MY bb t aB),ko aZ i _ U,HP _ FX] at h;exact h
def R_{β:Type}{a b:e6}{t}(cH:C_ Nat)(M:β->C_ (Nat×B_))(N:β->A_->Prop)(h1:e5 P a (jI (λgf bO => ∃x,Has gf (M x)/\N x bO) Q ⟨⟩) S w ⟨⟩)
  (J:∀x aZ w',N x w'->e5 P b Q (v7 (M x) (vM S cH aZ)) w' ⟨⟩)(bb:(cH.all λt => !a.gi.contains t)=true:=by rfl):e5 P (.seq a b) Q S w t:=by
 refine _v _ h1 ?_;rintro aZ w' b7 ⟨x,aL,fl⟩;have h:=J x aZ w' fl;rw[Hc cH λt aB=>b7 t (MY bb t aB),HP _ aL] at h;exact h
theorem _L{β:Type}{b:e6}{t}(cH:C_ Nat)(M:β->C_ (Nat×B_))(k1:β)(jo:β->A_->Prop)(k2:β->Nat)(aL:Has S (M k1))(ad:jo k1 w)
  (aT:∀x aZ w',jo x w' ->
   e5 P b (jI (λgf bO => ∃B2,Has gf (M B2)/\jo B2 bO/\k2 B2<k2 x) Q ⟨⟩) (v7 (M x) (vM S cH aZ)) w' ⟨⟩)
  (bb:(cH.all λt => !b.gi.contains t)=true:=by rfl):Cf P b Q S w t:=by
 refine _A (λS w => ∃x,Has S (M x)/\jo x w) (λS w=>least λn => ∃x,Has S (M x)/\jo x w/\k2 x=n) ⟨k1,aL,ad⟩ ?_;rintro aZ w' b7 ⟨x,FX,rX⟩;obtain⟨⟨y,h1,J,ab⟩,aF⟩:=ac8 (p:=λn => ∃x,Has aZ (M x)/\jo x w'/\k2 x=n) ⟨k2 x,x,FX,rX,rfl⟩;have h:=aT y aZ w' J;rw[Hc cH λt aB=>b7 t (MY bb t aB),HP _ h1] at h;unfold e5 jI at *;refine qF b _ _ aZ w' (λe gf bO _ h=>?_) h
 match e,h with
 | .normal,⟨z,cM,cW,fr⟩ =>
  refine⟨⟨z,cM,cW⟩,?_⟩;have a7:=(ac8 (p:=λn => ∃x,Has gf (M x)/\jo x bO/\k2 x=n) ⟨k2 z,z,cM,cW,rfl⟩).2 (k2 z) ⟨z,cM,cW,rfl⟩;show least _<least _;rw[<-ab];omega
 | .exit _,h=>exact h
 | .ret,h=>exact h
 | .hD _,h=>exact h
end
end ba
namespace o
open Go
def letter(n:Int):Bool:=decide (97<=n/\n<=122\/65<=n/\n<=90)
def digit(n:Int):Bool:=decide (48<=n/\n<=57)
def part(n:Int):Bool:=letter n||digit n||decide (n=95)
def tH(s:ByteArray)(i:Nat):Nat:=(s.get! i).toNat
def run(p:Int->Bool)(s:ByteArray):Nat:=(s.data.toList.takeWhile λb=>p b.toNat).length
theorem afz{α:Type}(p:α->Bool):∀(l:C_ α) (n:Nat) (h:n<l.length),(∀j (ay:j<n),p (l[j]' Aw)=true)->p l[n]=false->(l.takeWhile p).length=n
 | [],n,h,_,_=>by simp at h
 | x :: l,0,h,_,J=>by simp at J;simp[J]
 | x :: l,n+1,h,h1,J=>by
  have ah:p x=true:=h1 0 Aw;rw[List.takeWhile_cons,if_pos ah,AG7,afz p l n (by simpa using h) (λj ay=>h1 (j+1) Aw) (by simpa using J)]
theorem afy{α:Type}(p:α->Bool):∀(l:C_ α) (_:∀j (ay:j<l.length),p l[j]=true),(l.takeWhile p).length=l.length
 | [],_=>rfl
 | x :: l,h=>by
  have ah:p x=true:=h 0 CC;rw[List.takeWhile_cons,if_pos ah,AG7,afy p l (λj ay=>h (j+1) (by simpa using ay)),AG7]
def aeZ(p:Int->Bool)(s:ByteArray)(n:Nat)(h:n<s.size)(h1:∀j (ay:j<n),p (s[j]' Aw).toNat=true)(J:p s[n].toNat=false):run p s=n :=
 afz (λb:UInt8=>p b.toNat) s.data.toList n (by simpa using h) (λj ay=>h1 j ay) J
def aeR(p:Int->Bool)(s:ByteArray)(h:∀j (ay:j<s.size),p s[j].toNat=true):run p s=s.size:=by
 have:=afy (λb:UInt8=>p b.toNat) s.data.toList (λj ay=>h j (by simpa using ay))
 rw[run,this];simp
def aiZ{p:Int->Bool}(au:∀r:Int,128<=r->p r=false)(s:ByteArray)(pos:Nat)(h:pos<s.size) :
  p (Utf8.decode s pos).1=p s[pos].toNat/\(p s[pos].toNat=true->(Utf8.decode s pos).2=1):=by
 by_cases aY:s[pos].toNat<128
 .rw[decode_ascii s pos h aY];exact⟨rfl,λ_=>rfl⟩
 .have h1:=decode_high s pos h Aw;rw[au _ Aw,au _ Aw];exact⟨rfl,λh=>by simp at h⟩
theorem apE(r:Int)(h:128<=r):letter r=false:=by simp[letter];omega
theorem ai5(r:Int)(h:128<=r):digit r=false:=by simp[digit];omega
def arq(r:Int)(h:128<=r):part r=false:=by simp[part,apE r h,ai5 r h];omega
instance axu:LawfulBEq ByteArray where
 eq_of_beq {a b} h:=by rw[ba.E9] at h;exact of_decide_eq_true h
 rfl {a}:=by rw[ba.E9];exact decide_eq_true rfl
def sc:C_ ByteArray:=[⟨#[115,101,108,102]⟩,⟨#[110,111,110,101]⟩,⟨#[108,101,110]⟩,⟨#[97,116]⟩]
def isName(s:ByteArray):Bool:=decide (s.size≠0)&&decide (s.size<=16)&&letter (tH s 0)&&decide (run part s=s.size) && !decide (s∈sc)
def atb(p:Int->Bool)(s:ByteArray):run p s<=s.size:=by
 have:=(List.takeWhile_sublist (λb:UInt8=>p b.toNat) (l:=s.data.toList)).length_le
 simpa[run] using this
def get_eq(s:ByteArray)(i:Nat)(h:i<s.size):s.get! i=s[i]:=by
 obtain⟨d⟩:=s;show d[i]! = d[i];exact getElem!_pos d i h
def get?_eq(s:ByteArray)(i:Nat)(h:i<s.size):s[i]? = some (s.get! i):=by rw[get_eq s i h];exact getElem?_pos s i h
structure Scalar where
 name:ByteArray
 size:Int
structure Var where
 name:ByteArray
 scalar:Int
 over:Int
 aV:Int
 U:Int
 init:Int
structure ea where
 name:ByteArray
 scalar:Int
 cap:Int
 aV:Int
 U:Int
 adj:Bool
def size(k:Int)(s:C_ Scalar):Int :=
 match s[(k - 1).toNat]? with
 | some x=>if 1<=k/\1<=x.size/\x.size<=4 then x.size else 0
 | none=>0
def narrow(aV U:Int):Bool:=decide (-1048576<=aV/\aV<=U/\U<=1048576/\U - aV<256)
def there(k:Int)(s:C_ Scalar):Bool:=decide (k=0\/size k s≠0)
def err(fY:Int)(gp:Nat->ByteArray)(mo:Nat->Int)(i:Nat):Int :=
 if fY<=i then 11 else if isName (gp i)=false then 6 else if ∃j,j<i/\gp j=gp i then 7 else mo i
def first(n:Nat)(e:Nat->Int):Int×Int:=match (List.range n).find? (λi=>decide (e i≠0)) with | some i=>((i:Int),e i) | none=>(0,0)
def jM{n:Nat}{e:Nat->Int}{i:Nat}(U:i<n)(h1:∀j,j<i->e j=0)(J:e i≠0):first n e=((i:Int),e i):=by
 have:(List.range n).find? (λi=>decide (e i≠0))=some i:=by
  rw[List.find?_range_eq_some];simp only[decide_eq_true_eq];exact⟨J,by simpa using U,λj ay=>by simp[h1 j ay]⟩
 rw[first,this]
def qf{n:Nat}{e:Nat->Int}(h:∀j,j<n->e j=0):first n e=(0,0):=by
 have:(List.range n).find? (λi=>decide (e i≠0))=none:=by
  rw[List.find?_range_eq_none];intro j ay;simp[h j ay]
 rw[first,this]
def ZE{n:Nat}{e e':Nat->Int}(h:∀j,j<n->e j=e' j):first n e=first n e':=by
 by_cases ah:∃i,i<n/\e i≠0/\∀j,j<i->e j=0
 .obtain⟨i,U,h1,J⟩:=ah;rw[jM U J h1,jM U (λj ay=>by rw[<-h j Aw];exact J j ay) (by rw[<-h i U];exact h1),h i U]
 .have bB:∀j,j<n->e j=0:=by
   intro j
   induction j using Nat.strongRecOn with
   | _ j fq =>
    intro ay;by_cases ad:e j=0
    .exact ad
    .exact absurd ⟨j,ay,ad,λk hk=>fq k hk Aw⟩ ah
  rw[qf bB,qf λj ay=>by rw[<-h j ay];exact bB j ay]
def nameAt{α:Type}(f:α->ByteArray)(l:C_ α)(i:Nat):ByteArray:=(l[i]?.map f).getD ⟨#[]⟩
def vX(l:C_ Scalar)(i:Nat):Int:=match l[i]? with | some x=>if 1<=x.size/\x.size<=4 then 0 else 10 | none=>0
def scalars(l:C_ Scalar):Int×Int:=first l.length (err 2 (nameAt (·.name) l) (vX l))
def bounds(v:Var)(s:C_ Scalar):Int×Int:=if v.scalar=0 then (v.aV,v.U) else (0,size v.scalar s)
def cells(v:Var)(s:C_ Scalar):Int:=if v.over=0 then 1 else size v.over s
def qE(l:C_ Var)(s:C_ Scalar)(i:Nat):Int :=
 match l[i]? with
 | some v=>if there v.scalar s=false\/there v.over s=false then 8
  else if (v.scalar=0/\narrow v.aV v.U=false)\/v.init<(bounds v s).1\/v.init > (bounds v s).2 then 10 else 0
 | none=>0
def vars(l:C_ Var)(s:C_ Scalar)(fY:Int):Int×Int:=first l.length (err (max fY 0) (nameAt (·.name) l) (qE l s))
def qd(l:C_ ea)(s:C_ Scalar)(i:Nat):Int :=
 match l[i]? with
 | some c=>if there c.scalar s=false then 8
  else if c.cap<1\/c.cap > 4\/(c.scalar=0/\narrow c.aV c.U=false) then 10 else 0
 | none=>0
def aA(l:C_ ea)(s:C_ Scalar):Int×Int:=first l.length (err 4 (nameAt (·.name) l) (qd l s))
end o
namespace o
open Go Go.RowKit ba
def Scalar.enc(x:Scalar):C_ B_:=[.string x.name,.int .i64 x.size]
def Var.enc(x:Var):C_ B_:=[.string x.name,.int .i64 x.scalar,.int .i64 x.over,.int .i64 x.aV,.int .i64 x.U,.int .i64 x.init]
def ea.enc(x:ea):C_ B_:=[.string x.name,.int .i64 x.scalar,.int .i64 x.cap,.int .i64 x.aV,.int .i64 x.U,.bool x.adj]
def jV(s:ByteArray):Prop:=s.size<=9223372036854775807
instance axK(s:ByteArray):Decidable (jV s):=Nat.decLe _ _
structure kt(w:World)(a:Addr)(x:Scalar):Prop where
 cells:ff w a x.enc
 ok:jV x.name
structure rL(w:World)(a:Addr)(x:Var):Prop where
 cells:ff w a x.enc
 ok:jV x.name
structure rK(w:World)(a:Addr)(x:ea):Prop where
 cells:ff w a x.enc
 ok:jV x.name
theorem kt.ext(w w':A_)(a:Addr)(x:Scalar)(he:Ext w w')(h:kt w a x):kt w' a x:=⟨h.cells.ext he,h.ok⟩
theorem rL.ext(w w':A_)(a:Addr)(x:Var)(he:Ext w w')(h:rL w a x):rL w' a x:=⟨h.cells.ext he,h.ok⟩
theorem rK.ext(w w':A_)(a:Addr)(x:ea)(he:Ext w w')(h:rK w a x):rK w' a x:=⟨h.cells.ext he,h.ok⟩
abbrev iz(w:A_)(v:B_)(l:C_ Scalar):Prop:=bm 2 kt w v l
abbrev h8(w:A_)(v:B_)(l:C_ Var):Prop:=bm 6 rL w v l
abbrev nv(w:A_)(v:B_)(l:C_ ea):Prop:=bm 6 rK w v l
def h8.cy{w:A_}{b n:Nat}{e:F_}{f:Nat×Nat}{xs:C_ Var}(ak:w.heap[b]? = some (.cells (xs.flatMap Var.enc).toArray e f))(aw:n=xs.length)(hm:xs.length<=maxLen)(c9:∀x∈xs,jV x.name) :
  h8 w (.slice (some ⟨b,0,none⟩) n n) xs:=bm.cy (enc:=Var.enc) (λ_=>rfl) ak aw hm λ_ x ah an=>⟨an,c9 x ah⟩
structure Node where
 op:Int
 n:Int
structure Act where
 kind:Int
 to:Int
 loc:Int
 index:List Node
 value:List Node
structure dG where
 name:ByteArray
 from_:Int
 to:Int
 guard:List Node
 bL:List Act
 fair:Bool
structure dv where
 name:ByteArray
 over:Int
 cn:Int
 vars:List Var
 c4:List dG
structure lS where
 name:ByteArray
 expr:List Node
structure Model where
 scalars:List Scalar
 vars:List Var
 aA:List ea
 procs:List dv
 props:List lS
structure cP where
 proc:Int
 elem:Int
deriving DecidableEq
structure Ref where
 inst:Int
 cmd:Int
deriving DecidableEq
def cP.enc(x:cP):C_ B_:=[.int .i64 x.proc,.int .i64 x.elem]
def Ref.enc(x:Ref):C_ B_:=[.int .i64 x.inst,.int .i64 x.cmd]
def Node.enc(x:Node):C_ B_:=[.int .i64 x.op,.int .i64 x.n]
def dZ(n:Int):Prop := -9223372036854775808<=n/\n<=9223372036854775807
structure Node.ok(x:Node):Prop where
 op:dZ x.op
 n:dZ x.n
structure Ad(w:World)(a:Addr)(x:Node):Prop where
 cells:ff w a x.enc
 ok:x.ok
theorem Ad.ext(w w':A_)(a:Addr)(x:Node)(he:Ext w w')(h:Ad w a x):Ad w' a x:=⟨h.cells.ext he,h.ok⟩
abbrev eW(w:A_)(v:B_)(l:C_ Node):Prop:=bm 2 Ad w v l
theorem eW.ext{w w':A_}{v:B_}{l:C_ Node}(he:Ext w w')(h:eW w v l):eW w' v l:=bm.ext Ad.ext he h
def Act.enc(x:Act)(bK bY:B_):C_ B_:=[.int .i64 x.kind,.int .i64 x.to,.int .i64 x.loc,bK,bY]
def z8(w:A_)(a:Addr)(x:Act):Prop := ∃bK bY,ff w a (x.enc bK bY)/\eW w bK x.index/\eW w bY x.value
theorem z8.ext(w w':A_)(a:Addr)(x:Act)(he:Ext w w')(h:z8 w a x):z8 w' a x:=let ⟨bK,bY,h1,J,ab⟩:=h; ⟨bK,bY,h1.ext he,J.ext he,ab.ext he⟩
abbrev lP(w:A_)(v:B_)(l:C_ Act):Prop:=bm 5 z8 w v l
theorem lP.ext{w w':A_}{v:B_}{l:C_ Act}(he:Ext w w')(h:lP w v l):lP w' v l:=bm.ext z8.ext he h
def dG.enc(x:dG)(eY va:B_):C_ B_:=[.string x.name,.int .i64 x.from_,.int .i64 x.to,eY,va,.bool x.fair]
def Aa(w:A_)(a:Addr)(x:dG):Prop:=jV x.name/\∃eY va,ff w a (x.enc eY va)/\eW w eY x.guard/\lP w va x.bL
theorem Aa.ext(w w':A_)(a:Addr)(x:dG)(he:Ext w w')(h:Aa w a x):Aa w' a x:=let ⟨ad,bK,bY,h1,J,ab⟩:=h; ⟨ad,bK,bY,h1.ext he,J.ext he,ab.ext he⟩
abbrev su(w:A_)(v:B_)(l:C_ dG):Prop:=bm 6 Aa w v l
theorem su.ext{w w':A_}{v:B_}{l:C_ dG}(he:Ext w w')(h:su w v l):su w' v l:=bm.ext Aa.ext he h
theorem iz.ext{w w':A_}{v:B_}{l:C_ Scalar}(he:Ext w w')(h:iz w v l):iz w' v l:=bm.ext kt.ext he h
theorem h8.ext{w w':A_}{v:B_}{l:C_ Var}(he:Ext w w')(h:h8 w v l):h8 w' v l:=bm.ext rL.ext he h
theorem nv.ext{w w':A_}{v:B_}{l:C_ ea}(he:Ext w w')(h:nv w v l):nv w' v l:=bm.ext rK.ext he h
def dv.enc(x:dv)(bY dQ:B_):C_ B_:=[.string x.name,.int .i64 x.over,.int .i64 x.cn,bY,dQ]
def Cm(w:A_)(a:Addr)(x:dv):Prop:=jV x.name/\∃bY dQ,ff w a (x.enc bY dQ)/\h8 w bY x.vars/\su w dQ x.c4
theorem Cm.ext(w w':A_)(a:Addr)(x:dv)(he:Ext w w')(h:Cm w a x):Cm w' a x:=let ⟨ad,bK,bY,h1,J,ab⟩:=h; ⟨ad,bK,bY,h1.ext he,J.ext he,ab.ext he⟩
abbrev rJ(w:A_)(v:B_)(l:C_ dv):Prop:=bm 5 Cm w v l
theorem rJ.ext{w w':A_}{v:B_}{l:C_ dv}(he:Ext w w')(h:rJ w v l):rJ w' v l:=bm.ext Cm.ext he h
def B9(w:A_)(cs:C_ B_)(c:dG):Prop:=jV c.name/\∃eY va,cs=c.enc eY va/\eW w eY c.guard/\lP w va c.bL
theorem B9.ext{w w':A_}{cs:C_ B_}{c:dG}(he:Ext w w')(h:B9 w cs c):B9 w' cs c:=let ⟨ad,bK,bY,h1,J,ab⟩:=h; ⟨ad,bK,bY,h1,J.ext he,ab.ext he⟩
def yq(w:A_)(cs:C_ B_)(p:dv):Prop:=jV p.name/\∃bY dQ,cs=p.enc bY dQ/\h8 w bY p.vars/\su w dQ p.c4
theorem yq.ext{w w':A_}{cs:C_ B_}{p:dv}(he:Ext w w')(h:yq w cs p):yq w' cs p:=let ⟨ad,bK,bY,h1,J,ab⟩:=h; ⟨ad,bK,bY,h1,J.ext he,ab.ext he⟩
def lS.enc(x:lS)(gX:B_):C_ B_:=[.string x.name,gX]
def Cn(w:A_)(a:Addr)(x:lS):Prop:=jV x.name/\∃gX,ff w a (x.enc gX)/\eW w gX x.expr
theorem Cn.ext(w w':A_)(a:Addr)(x:lS)(he:Ext w w')(h:Cn w a x):Cn w' a x:=let ⟨ad,bK,h1,J⟩:=h; ⟨ad,bK,h1.ext he,J.ext he⟩
abbrev Ck(w:A_)(v:B_)(l:C_ lS):Prop:=bm 2 Cn w v l
theorem Ck.ext{w w':A_}{v:B_}{l:C_ lS}(he:Ext w w')(h:Ck w v l):Ck w' v l:=bm.ext Cn.ext he h
structure dh(w:World)(cs:List Value)(m:Model):Prop where
 ex:∃v0 v1 v2 v3 v4,cs=[v0,v1,v2,v3,v4]/\iz w v0 m.scalars/\h8 w v1 m.vars/\nv w v2 m.aA/\rJ w v3 m.procs/\Ck w v4 m.props
theorem dh.ext{w w':A_}{cs:C_ B_}{m:Model}(he:Ext w w')(h:dh w cs m):dh w' cs m :=
 let ⟨v0,v1,v2,v3,v4,e,ad,h1,J,ab,aF⟩:=h.ex
 ⟨v0,v1,v2,v3,v4,e,ad.ext he,h1.ext he,J.ext he,ab.ext he,aF.ext he⟩
instance axr:px Ad Node.enc:=⟨λ_ _ _ h=>h.cells⟩
instance axs:px kt Scalar.enc:=⟨λ_ _ _ h=>h.cells⟩
instance axt:px rL Var.enc:=⟨λ_ _ _ h=>h.cells⟩
instance axn:px rK ea.enc:=⟨λ_ _ _ h=>h.cells⟩
end o
namespace ba
open Go Go.RowKit o
section
variable{P:Program}{bl:Value->Prop}{w w0:World}
def _3{a:Addr}{cs:C_ B_}{j:Nat}{v:B_}{t}(h:ff w0 a cs)(he:Ext w0 w)(ay:cs[j]? = some v)(hk:bl v):uS (.pointer (some (a.add j))) w bl t:=M_ (he.cell (h j v ay)) hk
def _4{a:Addr}{cs:C_ B_}{n:Nat}{t}(h:ff w0 a cs)(he:Ext w0 w)(aw:cs.length=n)(hk:bl (.agg cs.toArray)):yn n (.pointer (some a)) w bl t:=Z_ (h.ext he) aw hk
end
theorem aa{A B:Prop}(k:B)(h:yk B->A:=by
 intro q
 (repeat' first
 | assumption
 | exact Ext.refl _
 | refine Ext.trans ?_ CV
 | simp -dsimp only[dg,cK,Nat.reduceAdd,Nat.reduceEqDiff,reduceIte,reduceCtorEq,dq,x4,x3,xF,xE,w9,w8,List.cons_append,List.nil_append]
 | refine Q_ Aw ?_
 | refine _M CV ?_ rfl ?_
 | refine _E CV ?_ rfl ?_
 | refine _T Aw ?_
 | refine _R (by first | assumption | omega) ?_
 | refine _S (by first | assumption | omega) ?_
 | refine _I CV ?_
 | refine _J CV ?_
 | refine _O CV ?_ Aw rfl ?_
 | refine _P CV ?_ Aw rfl ?_
 | refine _Q CV ?_ Aw rfl ?_
 | refine _3 CV ?_ rfl ?_
 | refine _4 CV ?_ rfl ?_
 | refine T_ CV ?_ rfl ?_
 | refine _N (λ_=>by (simp -dsimp only[dg,Nat.reduceAdd,Nat.reduceEqDiff,reduceIte,reduceCtorEq,dq]);rfl) rfl rfl (by first | assumption | (simp[Value.oneCell',o.cP.enc,o.Ref.enc,o.Node.enc,o.Scalar.enc,o.Var.enc,o.ea.enc,o.Act.enc,o.dG.enc,o.dv.enc,o.lS.enc];done)) ?_
 | refine O_ ?_
 | refine U_ CV rfl rfl (by first | assumption | (simp[Value.oneCell',o.cP.enc,o.Ref.enc,o.Node.enc,o.Scalar.enc,o.Var.enc,o.ea.enc,o.Act.enc,o.dG.enc,o.dv.enc,o.lS.enc];done)) ?_
 | refine _H CV (Nat.le_of_ble_eq_true rfl) rfl ?_
 | refine _V CV (Nat.le_of_ble_eq_true rfl) rfl ?_
 | refine _D (by (simp only[gG,lay,oY,dc,bE,Value.cells,Nat.reduceAdd,Nat.reduceEqDiff,reduceIte,List.range,List.range.loop,List.map_cons,List.map_nil]);rfl) ?_
 | refine X_ (by (simp only[gG,lay,oY,dc,bE,Value.cells,Nat.reduceAdd,Nat.reduceEqDiff,reduceIte]);rfl) ?_)
 exact q.out):A:=h ⟨k⟩
theorem dV{A B:Prop}(k:B)(h:yk B->A:=by
 intro q
 (repeat' first
 | assumption
 | exact Ext.refl _
 | refine Ext.trans ?_ CV
 | simp -dsimp only[dg,Nat.reduceAdd,Nat.reduceEqDiff,reduceIte,reduceCtorEq,dq,x4,x3,xF,xE,w9,w8,List.cons_append,List.nil_append]
 | refine Q_ Aw ?_
 | refine _M CV ?_ rfl ?_
 | refine _E CV ?_ rfl ?_
 | refine _T Aw ?_
 | refine _R (by first | assumption | omega) ?_
 | refine _S (by first | assumption | omega) ?_
 | refine _I CV ?_
 | refine _J CV ?_
 | refine _O CV ?_ Aw rfl ?_
 | refine _P CV ?_ Aw rfl ?_
 | refine _Q CV ?_ Aw rfl ?_
 | refine _3 CV ?_ rfl ?_
 | refine _4 CV ?_ rfl ?_
 | refine T_ CV ?_ rfl ?_
 | refine _N (λ_=>by (simp -dsimp only[dg,Nat.reduceAdd,Nat.reduceEqDiff,reduceIte,reduceCtorEq,dq]);rfl) rfl rfl (by first | assumption | (simp[Value.oneCell',o.cP.enc,o.Ref.enc,o.Node.enc,o.Scalar.enc,o.Var.enc,o.ea.enc,o.Act.enc,o.dG.enc,o.dv.enc,o.lS.enc];done)) ?_
 | refine O_ ?_
 | refine U_ CV rfl rfl (by first | assumption | (simp[Value.oneCell',o.cP.enc,o.Ref.enc,o.Node.enc,o.Scalar.enc,o.Var.enc,o.ea.enc,o.Act.enc,o.dG.enc,o.dv.enc,o.lS.enc];done)) ?_
 | refine _H CV (Nat.le_of_ble_eq_true rfl) rfl ?_
 | refine _V CV (Nat.le_of_ble_eq_true rfl) rfl ?_
 | refine _D (by (simp only[gG,lay,oY,dc,bE,Value.cells,Nat.reduceAdd,Nat.reduceEqDiff,reduceIte,List.range,List.range.loop,List.map_cons,List.map_nil]);rfl) ?_
 | refine X_ (by (simp only[gG,lay,oY,dc,bE,Value.cells,Nat.reduceAdd,Nat.reduceEqDiff,reduceIte]);rfl) ?_)
 exact q.out):A:=h ⟨k⟩
end ba