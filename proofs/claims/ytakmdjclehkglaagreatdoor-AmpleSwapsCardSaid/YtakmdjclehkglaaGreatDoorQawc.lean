/- Parts. -/
import Derived.Test.YtakmdjclehkglaaGreatDoorQawb
import Derived.RowKit
import Derived.ChangeSame
import Derived.Carry
import Derived.OpenShut
import Derived.Deep.Slices
import Derived.Deep.Fields
import Derived.Lib.LaidTab
import Derived.Laws.OwnMore
import Derived.Lib.RuneCount
import Derived.Lib.TrimU
set_option linter.all false
section
namespace a7
open Go Go.RowKit
structure Tok{α:Type}(a:α):Type where
def eQ(P:D_)(c:eR)(Q:fy->Fr->A_->Prop)(S:Fr)(w:A_)(_:Tok (P,c,Q)):Prop:=dL P c Q S w
def pS(P:D_)(ca:C_ Step)(S:Fr)(w:A_)(K:Fr->A_->Prop)(_:Tok (P,ca,K)):Prop:=steps P ca S w K
def rE(P:D_)(ca:C_ Step)(S:Fr)(w:A_)(K:Fr->Prop)(_:Tok (P,ca,K)):Prop:=tT P ca S w K
def kP(P:D_)(w0:A_)(x:eJ)(S:Fr)(w:A_)(K:Fr->A_->Prop)(_:Tok (P,w0,x,K)):Prop:=nb P w0 x S w K
def L5(P:D_)(w0:A_)(s:Step)(S:Fr)(K:Fr->Prop)(_:Tok (P,w0,s,K)):Prop:=Gq P w0 s S K
def BK(P:D_)(s:Step)(S:Fr)(w:A_)(K:Fr->A_->Prop)(_:Tok (P,s,K)):Prop:=pz P s S w K
def Bg(P:D_)(w0:A_)(s:Step)(S:Fr)(w:A_)(K:Fr->A_->Prop)(_:Tok (P,w0,s,K)):Prop:=Dx P w0 s S w K
def yY(P:D_)(i:Ins)(S:Fr)(w:A_)(K:B_->A_->Prop)(_:Tok (P,i,K)):Prop:=kx P i S w K
def vq(P:D_)(i:Ins)(S:Fr)(w:A_)(K:B_->A_->Prop)(_:Tok (P,i,K)):Prop:=mb P i S w K
def C9(P:D_)(i:qK)(S:Fr)(w:A_)(K:B_->A_->Prop)(_:Tok (P,i,K)):Prop:=TN P i S w K
def AR(P:D_)(x:B_)(l:C_ B_)(w:A_)(K:B_->A_->Prop)(_:Tok (P,K)):Prop:=TO P x l w K
def xE(P:D_)(i:Ins)(S:Fr)(w:A_)(K:B_->Prop)(_:Tok (P,i,K)):Prop:=mc P i S w K
def Dn(P:D_)(i:qK)(S:Fr)(w:A_)(K:B_->Prop)(_:Tok (P,i,K)):Prop:=aeQ P i S w K
def Na(P:D_)(f:E_)(l:C_ B_)(w:A_)(K:B_->Prop)(_:Tok (P,f,K)):Prop:=Vm P f l w K
def G9(P:D_)(x:B_)(l:C_ B_)(w:A_)(K:B_->Prop)(_:Tok (P,K)):Prop:=aeS P x l w K
def iT(P:D_)(i:xC)(S:Fr)(K:B_->Prop)(_:Tok (P,i,K)):Prop:=pk P i S K
def xF(i:vv)(S:Fr)(w:A_)(K:B_->Prop)(_:Tok (i,K)):Prop:=nR i S w K
def pe(P:D_)(i:sJ)(S:Fr)(w:A_)(K:B_->A_->Prop)(_:Tok (P,i,K)):Prop:=nN P i S w K
def C8(P:D_)(i:qK)(S:Fr)(w:A_)(K:B_->A_->Prop)(_:Tok (P,i,K)):Prop:=rN P i S w K
def kj(P:D_)(op:BinOp)(t:F_)(eb:G_)(eu:G_)(x:B_)(y:B_)(K:B_->Prop)(_:Tok (P,op,t,eb,eu,K)):Prop:=oH P op t eb eu x y K
def Hc(op:UnOp)(x:B_)(K:B_->Prop)(_:Tok (op,K)):Prop:=Bb op x K
def MB(k:IntKind)(x:B_)(K:B_->Prop)(_:Tok (k,K)):Prop:=GO k x K
def um(k:IntKind)(n:Int)(K:B_->Prop)(_:Tok (k,K)):Prop:=sS k n K
def pd(v:B_)(A:Prop)(B:Prop)(_:Tok (A,B)):Prop:=mD v A B
def qM(v:B_)(b:Bool)(A:Prop)(B:Prop)(C:Prop)(_:Tok (b,A,B,C)):Prop:=ma v b A B C
def MK(off:Nat)(x:B_)(K:B_->Prop)(_:Tok (off,K)):Prop:=GR off x K
def Dg(sz:Nat)(x:B_)(i:B_)(K:B_->Prop)(_:Tok (sz,K)):Prop:=GW sz x i K
def MO(len:Nat)(sz:Nat)(x:B_)(i:B_)(K:B_->Prop)(_:Tok (len,sz,K)):Prop:=MN len sz x i K
def MS(x:B_)(i:B_)(K:B_->Prop)(_:Tok (K)):Prop:=MR x i K
def MQ(len:Nat)(x:B_)(i:B_)(K:B_->Prop)(_:Tok (len,K)):Prop:=MP len x i K
def MM(off:Nat)(x:B_)(K:B_->Prop)(_:Tok (off,K)):Prop:=GU off x K
def ML(off:Nat)(n:Nat)(x:B_)(K:B_->Prop)(_:Tok (off,n,K)):Prop:=GS off n x K
def Mz(S:Fr)(z:C_ B_)(pl:C_ (Nat×Nat))(dk:C_ (Nat×G_))(K:B_->Prop)(_:Tok (z,pl,dk,K)):Prop:=My S z pl dk K
def sR(S:Fr)(sz:Nat)(x:B_)(aQ:H_ G_)(U:H_ G_)(mx:H_ G_)(K:B_->Prop)(_:Tok (sz,aQ,U,mx,K)):Prop:=Nf S sz x aQ U mx K
def Nd(S:Fr)(x:B_)(aQ:H_ G_)(U:H_ G_)(K:B_->Prop)(_:Tok (aQ,U,K)):Prop:=Nc S x aQ U K
def Df(x:B_)(i:Nat)(K:B_->Prop)(_:Tok (i,K)):Prop:=xv x i K
def MX(x:B_)(K:B_->Prop)(_:Tok (K)):Prop:=G1 x K
def MU(x:B_)(K:B_->Prop)(_:Tok (K)):Prop:=G0 x K
def MA(x:B_)(K:B_->Prop)(_:Tok (K)):Prop:=GN x K
def MZ(x:B_)(y:B_)(K:B_->Prop)(_:Tok (K)):Prop:=G3 x y K
def M0(x:B_)(y:B_)(K:B_->Prop)(_:Tok (K)):Prop:=G4 x y K
def G5(x:B_)(K:B_->Prop)(_:Tok (K)):Prop:=y0 x K
def ue(x:B_)(w:A_)(K:B_->Prop)(_:Tok (K)):Prop:=GZ x w K
def xA(n:Nat)(x:B_)(w:A_)(K:B_->Prop)(_:Tok (n,K)):Prop:=GY n x w K
def Di(d:TypeDesc)(z:B_)(ok:Bool)(m:B_)(k:B_)(w:A_)(K:B_->Prop)(_:Tok (d,z,ok,K)):Prop:=MY d z ok m k w K
def MW(m:B_)(w:A_)(K:B_->Prop)(_:Tok (K)):Prop:=MV m w K
def rS(x:B_)(v:B_)(w:A_)(K:A_->Prop)(_:Tok (K)):Prop:=vx x v w K
def Ba(n:Nat)(x:B_)(v:B_)(w:A_)(K:A_->Prop)(_:Tok (n,K)):Prop:=A9 n x v w K
def Dj(e:F_)(sz:Nat)(b:Nat)(z:B_)(l:B_)(c:B_)(w:A_)(K:B_->A_->Prop)(_:Tok (e,sz,b,z,K)):Prop:=M1 e sz b z l c w K
def GI(S:Fr)(e:F_)(len:Nat)(sz:Nat)(z:C_ B_)(dk:C_ (Nat×G_))(w:A_)(K:B_->A_->Prop)(_:Tok (e,len,sz,z,dk,K)):Prop:=GH S e len sz z dk w K
def mB(P:D_)(t:F_)(e:F_)(sz:Nat)(b:Nat)(s:B_)(x:B_)(w:A_)(K:B_->A_->Prop)(_:Tok (P,t,e,sz,b,K)):Prop:=yU P t e sz b s x w K
def AZ(d:TypeDesc)(m:B_)(k:B_)(v:B_)(w:A_)(K:A_->Prop)(_:Tok (d,K)):Prop:=M3 d m k v w K
def M7(x:B_)(w:A_)(K:B_->A_->Prop)(_:Tok (K)):Prop:=M6 x w K
def Nb(x:B_)(w:A_)(K:B_->A_->Prop)(_:Tok (K)):Prop:=Vx x w K
def uh(P:D_)(op:Op)(ty:F_)(S:Fr)(w:A_)(K:B_->A_->Prop)(_:Tok (P,op,ty,K)):Prop:=Vv P op ty S w K
def GM(P:D_)(f:E_)(l:C_ B_)(w:A_)(K:B_->A_->Prop)(_:Tok (P,f,K)):Prop:=GL P f l w K
def Ng(P:D_)(f:E_)(l:C_ B_)(w:A_)(K:B_->A_->Prop)(Z:C_ PanicEntry->A_->Prop)(_:Tok (P,f,K,Z)):Prop:=y8 P f l w K Z
def AP(P:D_)(x:B_)(m:String)(l:C_ B_)(w:A_)(K:B_->A_->Prop)(_:Tok (P,m,K)):Prop:=Da P x m l w K
def Vn(P:D_)(x:B_)(m:String)(l:C_ B_)(w:A_)(K:B_->Prop)(_:Tok (P,m,K)):Prop:=aeR P x m l w K
def M9(v:B_)(Z:C_ PanicEntry->Prop)(_:Tok (Z)):Prop:=vu v Z
def xo(P:D_)(x:B_)(l:C_ B_)(w:A_)(K:B_->A_->Prop)(_:Tok (P,K)):Prop:=AQ P x l w K
def Dk(t:F_)(cs:Array B_)(w:A_)(K:B_->A_->Prop)(_:Tok (t,K)):Prop:=aeJ t cs w K
def M5(w:A_)(K:B_->A_->Prop)(_:Tok (K)):Prop:=aeI w K
def AX(P:D_)(b:eR)(Q:fy->Fr->A_->Prop)(S:Fr)(w:A_)(_:Tok (P,b,Q)):Prop:=UG P b Q S w
def nJ(r:C_ mH)(S:Fr)(w:A_)(K:C_ B_->Prop)(_:Tok (r,K)):Prop:=pP r S w K
def jh(N:Fr->A_->Prop)(Q:fy->Fr->A_->Prop)(_:Tok (N,Q)):fy->Fr->A_->Prop:=vg N Q
def xR(i:Nat)(Q:fy->Fr->A_->Prop)(_:Tok (i,Q)):fy->Fr->A_->Prop:=Bo i Q
def tg(r:C_ mH)(R:B_->A_->Prop)(_:Tok (r,R)):fy->Fr->A_->Prop:=DY r R
def BB(r:C_ mH)(R:B_->A_->Prop)(Z:C_ PanicEntry->A_->Prop)(_:Tok (r,R,Z)):fy->Fr->A_->Prop:=Xy r R Z
section
variable{P:Program}{Q:fy->Fr->World->Prop}{N gb:Fr->World->Prop}{p0:Fr->Prop}{ba:Value->Prop}{K:Value->World->Prop}{xy:List Value->Prop}{R:Value->World->Prop}{Z:List PanicEntry->World->Prop}{Ni:List PanicEntry->Prop}{S:Fr}{w:World}{A B C:Prop}
set_option linter.unusedVariables false
theorem Tl  {t}:eQ P .skip Q S w t=Q .normal S w:=propext Iff.rfl
theorem Tm  {ca}{t}:eQ P (.dm ca) Q S w t=pS P ca S w (fun S w=>Q .normal S w) ⟨⟩:=propext Iff.rfl
theorem Tn  {ca}{t}:eQ P (.r3 ca) Q S w t=rE P ca S w (fun S => ∀w',Ext w w'->Q .normal S w') ⟨⟩:=propext Iff.rfl
theorem To  {x}{t}:eQ P (.qH x) Q S w t=(∀w1,Ext w w1->kP P w1 x S w1 (fun S w=>Q .normal S w) ⟨⟩):=propext Iff.rfl
theorem Tp  {w0}{t}:kP P w0 .done S w gb t=gb S w:=propext Iff.rfl
theorem Tq  {w0}{t}:kP P w0 .nil S w gb t=True:=propext Iff.rfl
theorem Tr  {w0 s r}{t}:kP P w0 (.take s r) S w gb t=L5 P w0 s S (fun S=>kP P w0 r S w gb ⟨⟩) ⟨⟩:=propext Iff.rfl
theorem Ts  {w0 s r}{t}:kP P w0 (.alt s r .nil) S w gb t=Bg P w0 s S w (fun S w=>kP P w0 r S w gb ⟨⟩) ⟨⟩:=and_true _
theorem Tt  {w0 s r na r' tF}{t}:kP P w0 (.alt s r (.alt na r' tF)) S w gb t=(Bg P w0 s S w (fun S w=>kP P w0 r S w gb ⟨⟩) ⟨⟩/\kP P w0 (.alt na r' tF) S w gb ⟨⟩):=propext Iff.rfl
theorem Tu  {w0 s r na r' tF}{t}:kP P w0 (.alt s r (.fq na r' tF)) S w gb t=(Bg P w0 s S w (fun S w=>kP P w0 r S w gb ⟨⟩) ⟨⟩/\kP P w0 (.fq na r' tF) S w gb ⟨⟩):=propext Iff.rfl
theorem Tw  {w0 s r}{t}:kP P w0 (.fq s r .nil) S w gb t=BK P s S w (fun S w=>kP P w0 r S w gb ⟨⟩) ⟨⟩:=and_true _
theorem xl  {w0 s r na r' tF}{t}:kP P w0 (.fq s r (.alt na r' tF)) S w gb t=(BK P s S w (fun S w=>kP P w0 r S w gb ⟨⟩) ⟨⟩/\kP P w0 (.alt na r' tF) S w gb ⟨⟩):=propext Iff.rfl
theorem xm  {w0 s r na r' tF}{t}:kP P w0 (.fq s r (.fq na r' tF)) S w gb t=(BK P s S w (fun S w=>kP P w0 r S w gb ⟨⟩) ⟨⟩/\kP P w0 (.fq na r' tF) S w gb ⟨⟩):=propext Iff.rfl
theorem Tx  {d i}{t}:BK P ⟨d,none,i⟩ S w gb t=vq P i S w (fun v w'=>gb (put S d v) w') ⟨⟩:=propext Iff.rfl
theorem Ty  {d j b i}{t}:BK P ⟨d,some (j,b),i⟩ S w gb t=qM (S j) b (vq P i (cb S j (.bool b)) w (fun v w'=>gb (put (cb S j (.bool b)) d v) w') ⟨⟩) (gb (put (cb S j (.bool (!b))) d undef) w) (gb (put S d undef) w) ⟨⟩:=propext Iff.rfl
theorem Tz  {w0 d i}{t}:L5 P w0 ⟨d,none,i⟩ S p0 t=xE P i S w0 (fun v=>p0 (put S d v)) ⟨⟩:=propext Iff.rfl
theorem TA  {w0 d j b i}{t}:L5 P w0 ⟨d,some (j,b),i⟩ S p0 t=qM (S j) b (xE P i (cb S j (.bool b)) w0 (fun v=>p0 (put (cb S j (.bool b)) d v)) ⟨⟩) (p0 (put (cb S j (.bool (!b))) d undef)) (p0 (put S d undef)) ⟨⟩:=propext Iff.rfl
theorem TB  {w0 d i}{t}:Bg P w0 ⟨d,none,i⟩ S w gb t=yY P i S w (fun v w'=>Ext w0 w'/\gb (put S d v) w') ⟨⟩:=propext Iff.rfl
theorem TC  {w0 d j b i}{t}:Bg P w0 ⟨d,some (j,b),i⟩ S w gb t=qM (S j) b (yY P i (cb S j (.bool b)) w (fun v w'=>Ext w0 w'/\gb (put (cb S j (.bool b)) d v) w') ⟨⟩) (gb (put (cb S j (.bool (!b))) d undef) w) (gb (put S d undef) w) ⟨⟩:=propext Iff.rfl
theorem cu  {a b}{t}:eQ P (.seq a b) Q S w t=eQ P a (jh (fun S w=>eQ P b Q S w ⟨⟩) Q ⟨⟩) S w ⟨⟩:=propext Iff.rfl
theorem TD  {c x y}{t}:eQ P (.cond c x y) Q S w t=pd (bn S c) (eQ P x Q S w ⟨⟩) (eQ P y Q S w ⟨⟩) ⟨⟩:=propext Iff.rfl
theorem TE  {id b}{t}:eQ P (.cm id b) Q S w t=eQ P b (xR id Q ⟨⟩) S w ⟨⟩:=propext Iff.rfl
theorem TF  {id}{t}:eQ P (.exit id) Q S w t=Q (.exit id) S w:=propext Iff.rfl
theorem TG  {t}:eQ P .ret Q S w t=Q .ret S w:=propext Iff.rfl
theorem TH  {ca d f l}{t}:eQ P (.fC ca d f l) Q S w t=pS P ca S w (fun S w=>Ng P f (l.map (bn S)) w (fun v w'=>Q .normal (put S d v) w') (fun c w'=>Q (.hj c) S w') ⟨⟩) ⟨⟩:=propext Iff.rfl
theorem TI  {ca x}{t}:eQ P (.tQ ca x) Q S w t=pS P ca S w (fun S w=>M9 (bn S x) (fun c=>Q (.hj c) S w) ⟨⟩) ⟨⟩:=propext Iff.rfl
theorem TJ  {i:F_}{v:B_}{t}:M9 (.iface i v) Ni t=Ni [{ v:=.iface i v,recovered:=false }]:=a7.apA i v Ni
theorem TK  {c}{t}:jh N Q t (.hj c) S w=Q (.hj c) S w:=propext Iff.rfl
theorem TL{i}{c}{t}:xR i Q t (.hj c) S w=Q (.hj c) S w:=propext Iff.rfl
theorem TM{r}{t}:BB r R Z t .normal S w=nJ r S w (fun vs=>R (ji vs) w) ⟨⟩:=propext Iff.rfl
theorem uc{r}{t}:BB r R Z t .ret S w=nJ r S w (fun vs=>R (ji vs) w) ⟨⟩:=propext Iff.rfl
theorem TP{r}{c}{t}:BB r R Z t (.hj c) S w=Z c w:=propext Iff.rfl
theorem TQ  {b}{t}:eQ P (.loop b) Q S w t=AX P b Q S w ⟨⟩:=propext Iff.rfl
theorem TR  {t}:jh N Q t .normal S w=N S w:=propext Iff.rfl
theorem TS  {i}{t}:jh N Q t (.exit i) S w=Q (.exit i) S w:=propext Iff.rfl
theorem TT  {t}:jh N Q t .ret S w=Q .ret S w:=propext Iff.rfl
theorem TU{i}{t}:xR i Q t .normal S w=Q .normal S w:=propext Iff.rfl
theorem TV{i}{t}:xR i Q t .ret S w=Q .ret S w:=propext Iff.rfl
theorem TW{i}{j}{t}:xR i Q t (.exit j) S w=if j=i then Q .normal S w else Q (.exit j) S w:=propext Iff.rfl
theorem TX{r}{t}:tg r R t .normal S w=nJ r S w (fun vs=>R (ji vs) w) ⟨⟩:=propext Iff.rfl
theorem yV{r}{t}:tg r R t .ret S w=nJ r S w (fun vs=>R (ji vs) w) ⟨⟩:=propext Iff.rfl
theorem jE  {t}:pS P [] S w gb t=gb S w:=propext Iff.rfl
theorem cY  {d i r}{t}:pS P (⟨d,none,i⟩ :: r) S w gb t=vq P i S w (fun v w'=>pS P r (put S d v) w' gb ⟨⟩) ⟨⟩:=propext Iff.rfl
theorem fD  {d j b i r}{t}:pS P (⟨d,some (j,b),i⟩ :: r) S w gb t=qM (S j) b (vq P i (cb S j (.bool b)) w (fun v w'=>pS P r (put (cb S j (.bool b)) d v) w' gb ⟨⟩) ⟨⟩) (pS P r (put (cb S j (.bool (!b))) d undef) w gb ⟨⟩) (pS P r (put S d undef) w gb ⟨⟩) ⟨⟩:=propext Iff.rfl
theorem dW  {t}:rE P [] S w p0 t=p0 S:=propext Iff.rfl
theorem ix  {d i r}{t}:rE P (⟨d,none,i⟩ :: r) S w p0 t=xE P i S w (fun v=>rE P r (put S d v) w p0 ⟨⟩) ⟨⟩:=propext Iff.rfl
theorem hq  {d j b i r}{t}:rE P (⟨d,some (j,b),i⟩ :: r) S w p0 t=qM (S j) b (xE P i (cb S j (.bool b)) w (fun v=>rE P r (put (cb S j (.bool b)) d v) w p0 ⟨⟩) ⟨⟩) (rE P r (put (cb S j (.bool (!b))) d undef) w p0 ⟨⟩) (rE P r (put S d undef) w p0 ⟨⟩) ⟨⟩:=propext Iff.rfl
theorem gx  {i}{t}:yY P (.p i) S w K t=iT P i S (fun v=>K v w) ⟨⟩:=propext Iff.rfl
theorem hr  {i}{t}:yY P (.r i) S w K t=xF i S w (fun v=>K v w) ⟨⟩:=propext Iff.rfl
theorem gR  {i}{t}:yY P (.e i) S w K t=pe P i S w K ⟨⟩:=propext Iff.rfl
theorem T2  {i}{t}:yY P (.c i) S w K t=C8 P i S w K ⟨⟩:=propext Iff.rfl
theorem T3  {i}{t}:vq P (.p i) S w K t=iT P i S (fun v=>K v w) ⟨⟩:=propext Iff.rfl
theorem T4  {i}{t}:vq P (.r i) S w K t=xF i S w (fun v=>K v w) ⟨⟩:=propext Iff.rfl
theorem T5  {i}{t}:vq P (.e i) S w K t=pe P i S w K ⟨⟩:=propext Iff.rfl
theorem T6  {i}{t}:vq P (.c i) S w K t=C9 P i S w K ⟨⟩:=propext Iff.rfl
theorem T7  {i}{t}:xE P (.p i) S w ba t=iT P i S ba ⟨⟩:=propext Iff.rfl
theorem T8  {i}{t}:xE P (.r i) S w ba t=xF i S w ba ⟨⟩:=propext Iff.rfl
theorem T9  {i}{t}:xE P (.c i) S w ba t=Dn P i S w ba ⟨⟩:=propext Iff.rfl
theorem Ua  {f l}{t}:Dn P (.fn f l) S w ba t=Na P f (l.map (bn S)) w ba ⟨⟩:=propext Iff.rfl
theorem Ub  {x m l}{t}:Dn P (.inv x m l) S w ba t=Vn P (bn S x) m (l.map (bn S)) w ba ⟨⟩:=propext Iff.rfl
theorem Uc  {x l}{t}:Dn P (.val x l) S w ba t=G9 P (bn S x) (l.map (bn S)) w ba ⟨⟩:=propext Iff.rfl
theorem H1  {t}:qM (.bool true) true A B C t=A:=a7.aiW A B C
theorem Ud  {t}:qM (.bool true) false A B C t=B:=a7.aiV A B C
theorem Ue  {t}:qM (.bool false) true A B C t=B:=a7.aiU A B C
theorem Uf  {t}:qM (.bool false) false A B C t=A:=a7.aiT A B C
theorem Ug  (u:Bool){t}:qM undef u A B C t=C:=a7.aiX u A B C
theorem Uh  (u:Bool){t}:qM (.bool u) true A B C t=pd (.bool u) A B ⟨⟩:=(a7.X8 u true A B C).trans (by rfl)
theorem Ui  (u:Bool){t}:qM (.bool u) false A B C t=pd (.bool u) B A ⟨⟩:=(a7.X8 u false A B C).trans (by rfl)
theorem Uj  {t}:pd (.bool true) A B t=A:=aga A B
theorem Uk  {t}:pd (.bool false) A B t=B:=af8 A B
theorem Ul  (u:Bool){t}:pd (.bool (!u)) A B t=pd (.bool u) B A ⟨⟩:=af9 u A B
theorem Um  {x}{t}:iT P (.nF x) S ba t=ba (bn S x):=propext Iff.rfl
theorem Un  {c x y}{t}:iT P (.pick c x y) S ba t=pd (bn S c) (ba (bn S x)) (ba (bn S y)) ⟨⟩:=propext Iff.rfl
theorem Uo  {op ty x y}{t}:iT P (.bin op ty x y) S ba t=kj P op ty x y (bn S x) (bn S y) ba ⟨⟩:=propext Iff.rfl
theorem Up  {op x}{t}:iT P (.un op x) S ba t=Hc op (bn S x) ba ⟨⟩:=propext Iff.rfl
theorem Uq  {k x}{t}:iT P (.Bx k x) S ba t=MB k (bn S x) ba ⟨⟩:=propext Iff.rfl
theorem Ur  {n x}{t}:iT P (.lr n x) S ba t=MK n (bn S x) ba ⟨⟩:=propext Iff.rfl
theorem Us  {n x y}{t}:iT P (.o2 n x y) S ba t=Dg n (bn S x) (bn S y) ba ⟨⟩:=propext Iff.rfl
theorem Ut  {m n x y}{t}:iT P (.Fp m n x y) S ba t=MO m n (bn S x) (bn S y) ba ⟨⟩:=propext Iff.rfl
theorem Uu  {x y}{t}:iT P (.mV x y) S ba t=MS (bn S x) (bn S y) ba ⟨⟩:=propext Iff.rfl
theorem Uv  {n x y}{t}:iT P (.Ac n x y) S ba t=MQ n (bn S x) (bn S y) ba ⟨⟩:=propext Iff.rfl
theorem Uw  {n x}{t}:iT P (.nq n x) S ba t=MM n (bn S x) ba ⟨⟩:=propext Iff.rfl
theorem Ux  {n m x}{t}:iT P (.D5 n m x) S ba t=ML n m (bn S x) ba ⟨⟩:=propext Iff.rfl
theorem Uy  {z pl dk}{t}:iT P (.gM z pl dk) S ba t=Mz S z pl dk ba ⟨⟩:=propext Iff.rfl
theorem Uz  {f a b}{t}:iT P (.wU f a b) S ba t=ba (.func (.func f) (a.map (bn S)).toArray (b.map (bn S)).toArray):=propext Iff.rfl
theorem UA  {n x aQ U mx}{t}:iT P (.iO n x aQ U mx) S ba t=sR S n (bn S x) aQ U mx ba ⟨⟩:=propext Iff.rfl
theorem UB  {x aQ U}{t}:iT P (.Av x aQ U) S ba t=Nd S (bn S x) aQ U ba ⟨⟩:=propext Iff.rfl
theorem UC  {x n}{t}:iT P (.ext x n) S ba t=Df (bn S x) n ba ⟨⟩:=propext Iff.rfl
theorem UD  {x}{t}:iT P (.pK x) S ba t=MX (bn S x) ba ⟨⟩:=propext Iff.rfl
theorem UE  {x}{t}:iT P (.Cr x) S ba t=MU (bn S x) ba ⟨⟩:=propext Iff.rfl
theorem UH  {x}{t}:iT P (.Ho x) S ba t=MA (bn S x) ba ⟨⟩:=propext Iff.rfl
theorem UI  {v}{t}:iT P (.JV v) S ba t=ba v:=propext Iff.rfl
theorem M2  {x y}{t}:iT P (.wT x y) S ba t=MZ (bn S x) (bn S y) ba ⟨⟩:=propext Iff.rfl
theorem UJ  {x y}{t}:iT P (.yA x y) S ba t=M0 (bn S x) (bn S y) ba ⟨⟩:=propext Iff.rfl
theorem UK  {n x}{t}:iT P (.Cv n x) S ba t=ba (.iface n (bn S x)):=propext Iff.rfl
theorem UL  {x}{t}:iT P (.wV x) S ba t=G5 (bn S x) ba ⟨⟩:=propext Iff.rfl
theorem UM  {x}{t}:xF (.ld x) S w ba t=ue (bn S x) w ba ⟨⟩:=propext Iff.rfl
theorem UN  {n x}{t}:xF (.kM n x) S w ba t=xA n (bn S x) w ba ⟨⟩:=propext Iff.rfl
theorem UO  {d z ok m k}{t}:xF (.ot d z ok m k) S w ba t=Di d z ok (bn S m) (bn S k) w ba ⟨⟩:=propext Iff.rfl
theorem UP  {x}{t}:xF (.Cs x) S w ba t=MW (bn S x) w ba ⟨⟩:=propext Iff.rfl
theorem UQ  {n x}{t}:pe P (.box n x) S w K t=Dk n (bn S x).cells w K ⟨⟩:=propext Iff.rfl
theorem UR  {n z}{t}:pe P (.new n z) S w K t=Dk n z.cells w K ⟨⟩:=propext Iff.rfl
theorem US  {x v}{t}:pe P (.st x v) S w K t=rS (bn S x) (bn S v) w (K undef) ⟨⟩:=propext Iff.rfl
theorem UT  {n x v}{t}:pe P (.l3 n x v) S w K t=Ba n (bn S x) (bn S v) w (K undef) ⟨⟩:=propext Iff.rfl
theorem UU  {t}:pe P .u3 S w K t=M5 w K ⟨⟩:=propext Iff.rfl
theorem UW  {e n b z l c}{t}:pe P (.yB e n b z l c) S w K t=Dj e n b z (bn S l) (bn S c) w K ⟨⟩:=propext Iff.rfl
theorem UX  {e l n z dk}{t}:pe P (.kB e l n z dk) S w K t=GI S e l n z dk w K ⟨⟩:=propext Iff.rfl
theorem UY  {ty e n b s x}{t}:pe P (.app ty e n b s x) S w K t=mB P ty e n b (bn S s) (bn S x) w K ⟨⟩:=propext Iff.rfl
theorem UZ  {d m k v}{t}:pe P (.kd d m k v) S w K t=AZ d (bn S m) (bn S k) (bn S v) w (K undef) ⟨⟩:=propext Iff.rfl
theorem U0  {x}{t}:pe P (.As x) S w K t=Nb (bn S x) w K ⟨⟩:=propext Iff.rfl
theorem U2  {x}{t}:pe P (.Am x) S w K t=M7 (bn S x) w K ⟨⟩:=propext Iff.rfl
theorem U3  {op ty}{t}:pe P (.raw op ty) S w K t=uh P op ty S w K ⟨⟩:=propext Iff.rfl
theorem U4  {f l}{t}:C8 P (.fn f l) S w K t=GM P f (l.map (bn S)) w K ⟨⟩:=propext Iff.rfl
theorem U5  {x m l}{t}:C8 P (.inv x m l) S w K t=AP P (bn S x) m (l.map (bn S)) w K ⟨⟩:=propext Iff.rfl
theorem U6  {x l}{t}:C8 P (.val x l) S w K t=xo P (bn S x) (l.map (bn S)) w K ⟨⟩:=propext Iff.rfl
theorem U7  {f l}{t}:C9 P (.fn f l) S w K t=GM P f (l.map (bn S)) w K ⟨⟩:=propext Iff.rfl
theorem U8  {x m l}{t}:C9 P (.inv x m l) S w K t=AP P (bn S x) m (l.map (bn S)) w K ⟨⟩:=propext Iff.rfl
theorem U9  {x l}{t}:C9 P (.val x l) S w K t=AR P (bn S x) (l.map (bn S)) w K ⟨⟩:=propext Iff.rfl
theorem Va  {ty eb eu}(k:IntKind)(a b:Int){t}:kj P .lss ty eb eu (.int k a) (.int k b) ba t=ba (.bool (decide (a<b))):=afF k a b
theorem Vb  {ty eb eu}(k:IntKind)(a b:Int){t}:kj P .leq ty eb eu (.int k a) (.int k b) ba t=ba (.bool (decide (a<=b))):=afE k a b
theorem Vc  {ty eb eu}(k:IntKind)(a b:Int){t}:kj P .gtr ty eb eu (.int k a) (.int k b) ba t=ba (.bool (decide (b<a))):=afD k a b
theorem Vd  {ty eb eu}(k:IntKind)(a b:Int){t}:kj P .geq ty eb eu (.int k a) (.int k b) ba t=ba (.bool (decide (b<=a))):=afC k a b
theorem Ve  {ty eb eu}(k:IntKind)(a b:Int){t}:kj P .eql ty eb eu (.int k a) (.int k b) ba t=ba (.bool (decide (a=b))):=afB k a b
theorem Vf  {ty eb eu}(k:IntKind)(a b:Int){t}:kj P .neq ty eb eu (.int k a) (.int k b) ba t=ba (.bool (!decide (a=b))):=(afH k a b).trans Bh
theorem Vg  {ty eb eu}(k:IntKind)(a b:Int){t}:kj P .add ty eb eu (.int k a) (.int k b) ba t=um k (a+b) ba ⟨⟩:=afA k a b
theorem Vh  {ty eb eu}(k:IntKind)(a b:Int){t}:kj P .sub ty eb eu (.int k a) (.int k b) ba t=um k (a - b) ba ⟨⟩:=afM k a b
theorem Vi  {ty eb eu}(k:IntKind)(a b:Int){t}:kj P .mul ty eb eu (.int k a) (.int k b) ba t=um k (a*b) ba ⟨⟩:=afG k a b
theorem Vj  {ty eb eu}(a b:ByteArray){t}:kj P .eql ty eb eu (.string a) (.string b) ba t=ba (.bool (decide (a=b))):=afK a b
theorem Vk  {ty eb eu}(a b:ByteArray){t}:kj P .neq ty eb eu (.string a) (.string b) ba t=ba (.bool (!decide (a=b))):=(afL a b).trans Bh
theorem Vl  (b:Bool){t}:Hc .not (.bool b) ba t=ba (.bool (!b)):=propext Iff.rfl
theorem Vo  (k:IntKind)(n:Int){t}:Hc .neg (.int k n) ba t=um k (0 - n) ba ⟨⟩:=propext Iff.rfl
theorem Dq  (k q:IntKind)(n:Int){t}:MB k (.int q n) ba t=um k n ba ⟨⟩:=agS k q n ba
theorem Dr  (n:Nat)(a:Addr){t}:MK n (.pointer (some a)) ba t=ba (.pointer (some (a.add n))):=ain n a ba
theorem Vp  (v:B_)(vs:C_ B_){t}:Df (.tuple (v :: vs).toArray) 0 ba t=ba v:=ah6 v vs ba
theorem Vq  (v u:B_)(vs:C_ B_){t}:Df (.tuple (v :: u :: vs).toArray) 1 ba t=ba u:=ah7 v u vs ba
theorem Vr  (v u x:B_)(vs:C_ B_){t}:Df (.tuple (v :: u :: x :: vs).toArray) 2 ba t=ba x:=ah8 v u x vs ba
theorem Ds  (s:ByteArray){t}:MX (.string s) ba t=ba (.I s.size):=anG s ba
theorem A3  (a:H_ Addr)(n c:Nat){t}:MU (.slice a n c) ba t=ba (.I n):=anE a n c ba
theorem Vs  (a:H_ Addr)(n c:Nat){t}:MA (.slice a n c) ba t=ba (.I c):=af2 a n c ba
theorem Vt  (k q:IntKind)(a b:Int){t}:MZ (.int k a) (.int q b) ba t=ba (.int k (max a b)):=anZ k q a b ba
theorem Vz  (k q:IntKind)(a b:Int){t}:M0 (.int k a) (.int q b) ba t=ba (.int k (min a b)):=an3 k q a b ba
theorem VA  (m n:Nat)(cs:Array B_){t}:ML m n (.agg cs) ba t=ba (.agg (cs.extract m (m+n))):=aiB m n cs ba
theorem VB  (a:Addr){t}:G5 (.pointer (some a)) ba t=ba (.pointer (some a)):=propext Iff.rfl
theorem VC  (f:E_)(a b:Array B_){t}:G5 (.func (.func f) a b) ba t=ba (.func (.func f) a b):=propext Iff.rfl
theorem VD  {t}:nJ [] S w xy t=xy []:=propext Iff.rfl
theorem VE  {n r}{t}:nJ (.tmp n :: r) S w xy t=nJ r S w (fun vs=>xy (S n :: vs)) ⟨⟩:=propext Iff.rfl
theorem VF  {n r}{t}:nJ (.cell n :: r) S w xy t=ue (S n) w (fun v=>nJ r S w (fun vs=>xy (v :: vs)) ⟨⟩) ⟨⟩:=propext Iff.rfl
theorem VG  {m n r}{t}:nJ (.jm m n :: r) S w xy t=xA m (S n) w (fun v=>nJ r S w (fun vs=>xy (v :: vs)) ⟨⟩) ⟨⟩:=propext Iff.rfl
theorem VH{S:Fr}{d:Nat}{v:B_}:put S (some d) v=cb S d v:=eq_of_heq (heq_of_eq (iM S d v))
theorem VI{S:Fr}{v:B_}:put S none v=S:=eq_of_heq (heq_of_eq (acn S v))
theorem VK{S:Fr}{d t:Nat}{v:B_}:cb S d v t=if t=d then v else S t:=eq_of_heq (heq_of_eq (bL S d t v))
theorem VL{S:Fr}{t:Nat}:bn S (.tmp t)=S t:=eq_of_heq (heq_of_eq (c0 S t))
theorem VM{S:Fr}{v:B_}:bn S (.const v)=v:=eq_of_heq (heq_of_eq (n2 S v))
theorem VN{S:Fr}{g:Nat}:bn S (.global g) = .pointer (some ⟨g,0,none⟩):=eq_of_heq (heq_of_eq (ahJ S g))
theorem VO{S:Fr}{f:Nat}:bn S (.func f) = .func (.func f) #[] #[]:=eq_of_heq (heq_of_eq (vP S f))
theorem VP{k:Nat}:iE [] k=fun _=>undef:=eq_of_heq (heq_of_eq (nr k))
theorem VQ{v:B_}{vs:C_ B_}{k:Nat}:iE (v :: vs) k=cb (iE vs (k+1)) k v:=eq_of_heq (heq_of_eq (j4 v vs k))
theorem VR  : ji [] = .tuple #[]:=eq_of_heq (heq_of_eq (asq ..))
theorem VS  (v:B_):ji [v]=v:=eq_of_heq (heq_of_eq (asr ..))
theorem VT  (v u:B_):ji [v,u] = .tuple #[v,u]:=eq_of_heq (heq_of_eq (ass ..))
theorem VU  (v u x:B_):ji [v,u,x] = .tuple #[v,u,x]:=eq_of_heq (heq_of_eq (ast ..))
theorem VV  (a:H_ Addr)(n c:Nat):(Value.slice a n c).cells=#[.slice a n c]:=eq_of_heq (heq_of_eq (ago ..))
theorem VW  (k:IntKind)(n:Int):(Value.int k n).cells=#[.int k n]:=eq_of_heq (heq_of_eq (agj ..))
theorem VX  (b:Bool):(Value.bool b).cells=#[.bool b]:=eq_of_heq (heq_of_eq (agf ..))
theorem VY  (s:ByteArray):(Value.string s).cells=#[.string s]:=eq_of_heq (heq_of_eq (agp ..))
theorem VZ  (a:H_ Addr):(Value.pointer a).cells=#[.pointer a]:=eq_of_heq (heq_of_eq (agn ..))
theorem V0  (a:H_ Nat):(Value.map a).cells=#[.map a]:=eq_of_heq (heq_of_eq (agk ..))
theorem V1  (f:Fn)(a b:Array B_):(Value.func f a b).cells=#[.func f a b]:=eq_of_heq (heq_of_eq (agi ..))
theorem V2  (cs:Array B_):(Value.agg cs).cells=cs:=eq_of_heq (heq_of_eq (age ..))
theorem V3{α β:Type}{f:α->β}{a:α}{l:C_ α}:(a :: l).map f=f a :: l.map f:=eq_of_heq (heq_of_eq (AG5))
theorem V4{α β:Type}{f:α->β}:([]:C_ α).map f=[]:=eq_of_heq (heq_of_eq (AJ6))
theorem iB  : (!true)=false:=eq_of_heq (heq_of_eq (Bool.not_true))
theorem eV  : (!false)=true:=eq_of_heq (heq_of_eq (Bool.not_false))
theorem nU{h:Decidable True}:decide True=true:=eq_of_heq (heq_of_eq (decide_true h))
theorem Bc{h:Decidable False}:decide False=false:=eq_of_heq (heq_of_eq (decide_false h))
theorem p6{α:Type}{a b:α}{h:Decidable True}:(if True then a else b)=a:=eq_of_heq (heq_of_eq (if_true a b))
theorem lo{α:Type}{a b:α}{h:Decidable False}:(if False then a else b)=b:=eq_of_heq (heq_of_eq (if_false a b))
end
def cV :=
 (i_ (i_ (i_ (i_ (i_ (i_ (i_ @Tl @Tm) (i_ @Tn (i_ @To @Tp))) (i_ (i_ @Tq (i_ @Tr @Ts)) (i_ @Tt (i_ @Tu @Tw)))) (i_ (i_ (i_ @xl @xm) (i_ @Tx (i_ @Ty @Tz))) (i_ (i_ @TA (i_ @TB @TC)) (i_ @TD (i_ @TE @TF))))) (i_ (i_ (i_ (i_ @TG @TH) (i_ @TI (i_ @TJ @TK))) (i_ (i_ @TL (i_ @TM @uc)) (i_ @TP (i_ @TQ @TR)))) (i_ (i_ (i_ @TS @TT) (i_ @TU (i_ @TV @TW))) (i_ (i_ @TX (i_ @yV @jE)) (i_ @cY (i_ @fD @dW)))))) (i_ (i_ (i_ (i_ (i_ @ix @hq) (i_ @gx (i_ @hr @gR))) (i_ (i_ @T2 (i_ @T3 @T4)) (i_ @T5 (i_ @T6 @T7)))) (i_ (i_ (i_ @T8 @T9) (i_ @Ua (i_ @Ub @Uc))) (i_ (i_ @H1 (i_ @Ud @Ue)) (i_ @Uf (i_ @Ug @Uh))))) (i_ (i_ (i_ (i_ @Ui @Uj) (i_ @Uk (i_ @Ul @Um))) (i_ (i_ @Un (i_ @Uo @Up)) (i_ @Uq (i_ @Ur @Us)))) (i_ (i_ (i_ @Ut @Uu) (i_ @Uv (i_ @Uw @Ux))) (i_ (i_ @Uy (i_ @Uz @UA)) (i_ @UB (i_ @UC @UD))))))) (i_ (i_ (i_ (i_ (i_ (i_ @UE @UH) (i_ @UI (i_ @M2 @UJ))) (i_ (i_ @UK (i_ @UL @UM)) (i_ @UN (i_ @UO @UP)))) (i_ (i_ (i_ @UQ @UR) (i_ @US (i_ @UT @UU))) (i_ (i_ @UW (i_ @UX @UY)) (i_ @UZ (i_ @U0 @U2))))) (i_ (i_ (i_ (i_ @U3 @U4) (i_ @U5 (i_ @U6 @U7))) (i_ (i_ @U8 (i_ @U9 @Va)) (i_ @Vb (i_ @Vc @Vd)))) (i_ (i_ (i_ @Ve @Vf) (i_ @Vg (i_ @Vh @Vi))) (i_ (i_ @Vj (i_ @Vk @Vl)) (i_ @Vo (i_ @Dq @Dr)))))) (i_ (i_ (i_ (i_ (i_ @Vp @Vq) (i_ @Vr (i_ @Ds @A3))) (i_ (i_ @Vs (i_ @Vt @Vz)) (i_ @VA (i_ @VB @VC)))) (i_ (i_ (i_ @VD @VE) (i_ @VF (i_ @VG @VH))) (i_ (i_ @VI (i_ @VK @VL)) (i_ @VM (i_ @VN @VO))))) (i_ (i_ (i_ (i_ @VP @VQ) (i_ @VR (i_ @VS @VT))) (i_ (i_ @VU (i_ @VV @VW)) (i_ @VX (i_ @VY @VZ)))) (i_ (i_ (i_ @V0 @V1) (i_ @V2 (i_ @V3 @V4))) (i_ (i_ @iB (i_ @eV @nU)) (i_ @Bc (i_ @p6 @lo))))))))
section
variable{P:Program}{Q:fy->Fr->World->Prop}{ba:Value->Prop}{K:Value->World->Prop}{KW:World->Prop}{S:Fr}{w:World}{A B:Prop}
theorem I_{p:Prop}[Decidable p]{t}(h1:p->A)(I:¬p->B):pd (.bool (decide p)) A B t:=af7 h1 I
theorem N_{u:Bool}{t}(h1:u=true->A)(I:u=false->B):pd (.bool u) A B t:=af6 h1 I
theorem Q_{n:Int}{t}(h : -9223372036854775808<=n/\n<=9223372036854775807)(hk:ba (.I n)):um .i64 n ba t:=wrap_i64 h hk
theorem _l{k:IntKind}{n:Int}{t}(h:ba (.int k (k.wrap n))):um k n ba t:=aeg h
theorem AA5{k:IntKind}{n:Int}{t}(h:k.wrap n=n)(hk:ba (.int k n)):um k n ba t:=aeg (by rw[h];exact hk)
theorem _J{ty:F_}{eb eu:G_}{k:IntKind}{a b:Int}{t}(an:b≠0)(h:um k (a.tdiv b) ba ⟨⟩):kj P .quo ty eb eu (.int k a) (.int k b) ba t:=afI an h
theorem _s{ty:F_}{eb eu:G_}{k:IntKind}{a b:Int}{t}(an:b≠0)(h:ba (.int k (a.tmod b))):kj P .rem ty eb eu (.int k a) (.int k b) ba t:=afJ an h
theorem _Z{op:BinOp}{ty:F_}{eb eu:G_}{x y v:B_}{t}(h:∀w,(do eqGuard op ty eb eu x y;binOp op ty x y:Sem B_).run P w = .ok v w)(hk:ba v):kj P op ty eb eu x y ba t:=⟨v,h,hk⟩
theorem _a{sz:Nat}{a:Addr}{len cap:Nat}{k:IntKind}{n:Int}{t}(h:0<=n/\n<len)(hk:ba (.pointer (some (a.add (n.toNat*sz))))):Dg sz (.slice (some a) len cap) (.int k n) ba t:=amO h hk
theorem K_{sz:Nat}{a:Addr}{len cap:Nat}{k:IntKind}{n:Int}{t}(i:Nat)(U:n=i)(h:i<len)(hk:ba (.pointer (some (a.add (i*sz))))):Dg sz (.slice (some a) len cap) (.int k n) ba t:=amN i U h hk
theorem AE2{sz:Nat}{a:Addr}{len:Nat}{k:IntKind}{n:Int}{t}(h:0<=n/\n<len)(hk:ba (.pointer (some (a.add (n.toNat*sz))))):MO len sz (.pointer (some a)) (.int k n) ba t:=amM h hk
theorem _b{s:ByteArray}{k:IntKind}{n:Int}{t}(c:UInt8)(ad:0<=n)(h:s[n.toNat]? = some c)(hk:ba (.int .u8 c.toNat)):MS (.string s) (.int k n) ba t:=am2 c ad h hk
theorem AA6{len:Nat}{cs:Array B_}{k:IntKind}{n:Int}{t}(v:B_)(ad:0<=n/\n<len)(h:cs[n.toNat]? = some v)(hk:ba v):MQ len (.agg cs) (.int k n) ba t:=am1 v ad h hk
theorem _K{off:Nat}{cs:Array B_}{v:B_}{t}(h:cs[off]? = some v)(hk:ba v):MM off (.agg cs) ba t:=aiC h hk
theorem W_{z cs:C_ B_}{pl:C_ (Nat×Nat)}{dk:C_ (Nat×G_)}{t}(h:eZ S pl dk z=some cs)(hk:ba (.agg cs.toArray)):Mz S z pl dk ba t:=afP h hk
theorem _B{sz:Nat}{a:H_ Addr}{len cap:Nat}{aQ U mx:H_ G_}{t}(l h m:Nat)(h1:et S aQ 0=some l)(I:et S U len=some h)(ab:et S mx cap=some m)
  (aE:l<=h/\h<=m/\m<=cap)(aY:mx.isSome=true->U.isSome=true)(hk:ba (.slice (if m=l then a else a.map (·.add (l*sz))) (h - l) (m - l))):sR S sz (.slice a len cap) aQ U mx ba t:=arE l h m h1 I ab aE aY hk
theorem AA7{s:ByteArray}{aQ U:H_ G_}{t}(l h:Nat)(h1:et S aQ 0=some l)(I:et S U s.size=some h)(aE:l<=h/\h<=s.size)(hk:ba (.string (s.extract l h))):Nd S (.string s) aQ U ba t:=arB l h h1 I aE hk
theorem M_{a:Addr}{c:B_}{t}(h:w.cell? a=some c)(hk:ba c):ue (.pointer (some a)) w ba t:=anA h hk
theorem Z_{n:Nat}{a:Addr}{cs:C_ B_}{t}(h:e7 w a cs)(ax:cs.length=n)(hk:ba (.agg cs.toArray)):xA n (.pointer (some a)) w ba t:=anz h ax hk
theorem _m{d:TypeDesc}{z:B_}{ok:Bool}{m k:B_}{es:Array MapEntry}{r:H_ (Nat×B_)}{t}(h1:rP w m es)(I:Instr.findNow d k es.toList 0=some r)(hk:ba (mX z ok r)):Di d z ok m k w ba t:=anP h1 I hk
theorem AE3{m:B_}{es:Array MapEntry}{t}(h:rP w m es)(hk:ba (.I es.size)):MW m w ba t:=anF h hk
theorem _1{a:Addr}{v hz:B_}{t}(h:w.cell? a=some hz)(av:w.frozen? a=false)(aD:v.oneCell'=true)(hk:KW (w.setCell a v)):rS (.pointer (some a)) v w KW t:=adF h av aD hk
theorem _5{n:Nat}{a:Addr}{cs:Array B_}{t}(ax:cs.size=n)(h:∀j,j<n->(∃hz,w.cell? (a.add j)=some hz)/\w.frozen? (a.add j)=false)(h1:∀c∈cs.toList,c.oneCell'=true)(hk:KW (ih w a cs.toList 0)):Ba n (.pointer (some a)) (.agg cs) w KW t:=SI ax h h1 hk
theorem _6{e:F_}{sz bytes:Nat}{z:B_}{k q:IntKind}{n m:Int}{t}(h:0<=n/\n<=m/\m<=9223372036854775807/\bytes*m<=281474976710656)(hk:K (.slice (some ⟨w.heap.size,0,none⟩) n.toNat m.toNat) (w.alloc (.cells (rM z.cells (m.toNat*sz)) e))) :
  Dj e sz bytes z (.int k n) (.int q m) w K t:=an4 h hk
theorem AE4{e:F_}{len sz:Nat}{z cs:C_ B_}{dk:C_ (Nat×G_)}{t}(h:eZ S ((List.range len).map fun i=>(i*sz,sz)) dk z=some cs)(hk:K (.slice (some ⟨w.heap.size,0,none⟩) len len) (w.alloc (.cells cs.toArray e))):GI S e len sz z dk w K t:=DJ h hk
theorem _n{ty e:F_}{sz b:Nat}{s x:B_}{t}(h:Vy P ty e sz b->∃u bS w',(Builtin.append_ #[ty,ty] u #[s,x]).run P w = .ok bS w'/\K bS w'):mB P ty e sz b s x w K t:=h
theorem _t{d:TypeDesc}{r:Nat}{k v:B_}{es:Array MapEntry}{c:Nat}{q:H_ (Nat×B_)}{t}(h1:w.heap[r]? = some (.map es c))(I:Instr.findNow d k es.toList 0=some q)(hk:KW (fv w r (sq es c k v q))):AZ d (.map (some r)) k v w KW t:=aoc h1 I hk
theorem AA8{r pos:Nat}{s:ByteArray}{t}(h:w.heap[r]? = some (.stringIter s pos))(h1:pos<s.size->K (.tuple #[.bool true,.I pos,.int .i32 (Utf8.decode s pos).1]) (fv w r (.stringIter s (pos+(Utf8.decode s pos).2))))
  (I:¬pos<s.size->K (.tuple #[.bool false]) w):M7 (.pointer (some ⟨r,0,none⟩)) w K t:=aoB h h1 I
theorem _D{op:Op}{ty:F_}{v:B_}{w':A_}{t}(h:(execOp (bn S) ⟨none,op,ty, "",#[],none⟩).run P w = .ok (.value v) w')(hk:K v w'):uh P op ty S w K t:=⟨v,w',.inl h,hk⟩
theorem J_{f:E_}{args:C_ B_}{R:B_->A_->Prop}{t}(h:aW P f args.toArray w R)(hk:∀v w',R v w'->K v w'):GM P f args w K t:=af1 h hk
theorem X_{f:E_}{args:C_ B_}{R:B_->A_->Prop}{Z sT:C_ PanicEntry->A_->Prop}{t}(h:qT P f args.toArray w R Z)(hk:∀v w',R v w'->K v w')(bw:∀c w',Z c w'->sT c w'):Ng P f args w K sT t:=qT.mono h hk bw
theorem AA9{f:E_}{L:mG}(hm:P.follows .mixedOrders=true)(ai:lq P f=some L){args:C_ B_}{R:B_->A_->Prop}{Z:C_ PanicEntry->A_->Prop}(aU:args.length<=L.n)(h:eQ P L.code (BB L.res R Z ⟨⟩) (iE args 0) w ⟨⟩):qT P f args.toArray w R Z:=ahE hm ai aU h
theorem V_{f:E_}{first cap:C_ B_}{args:C_ B_}{R:B_->A_->Prop}{t}(av:okF P f=true)(h:aW P f (first++args++cap).toArray w R)(hk:∀v w',R v w'->K v w'):AR P (.func (.func f) first.toArray cap.toArray) args w K t:=Or.inl (NN av h hk)
theorem _e{f:E_}{first cap:C_ B_}{args:C_ B_}{R:B_->A_->Prop}{t}(av:okF P f=true)(h:aW P f (first++args++cap).toArray w R)(hk:∀v w',R v w'->K v w'):xo P (.func (.func f) first.toArray cap.toArray) args w K t:=NN av h hk
theorem _2{l:Nat}{args:C_ B_}{R:Ending->A_->Prop}{t}(h:YieldAt Fence.wide 0 P l args.toArray w R)(hk:∀e w',R e w'->∃v,e = .returned v/\K v w'):AR P (.func (.yield l) #[] #[]) args w K t :=
 Or.inr ⟨l,rfl,let ⟨fn,tmps,assign,body,h1,I⟩:=h; ⟨fn,tmps,assign,body,h1,I.mono hk⟩⟩
theorem P_{f:E_}{args:C_ B_}{t}(v:B_)(h:∀w',Ext w w'->aW P f args.toArray w' fun u bM=>u=v/\Ext w' bM)(hk:ba v):Na P f args w ba t:=apZ v h hk
theorem O_{n:F_}{cs:Array B_}{t}(hk:∀w1 b,w.heap.size<=b->Ext w w1->w1.heap[b]? = some (.cells cs n)->K (.pointer (some ⟨b,0,none⟩)) w1):Dk n cs w K t :=
 hk _ _ (Gf _) ((Ext.refl w).alloc _) (heap_alloc_new w _)
theorem _g{t}(hk:∀w1 b,w.heap.size<=b->Ext w w1->w1.heap[b]? = some (.map #[] 0)->K (.map (some b)) w1):M5 w K t:=hk _ _ (Gf _) ((Ext.refl w).alloc _) (heap_alloc_new w _)
theorem AB0{s:ByteArray}{t}(hk:∀w1 b,w.heap.size<=b->Ext w w1->w1.heap[b]? = some (.stringIter s 0)->K (.pointer (some ⟨b,0,none⟩)) w1):Nb (.string s) w K t :=
 ⟨s,rfl,hk _ _ (Gf _) ((Ext.refl w).alloc _) (heap_alloc_new w _)⟩
theorem Y_{e:F_}{len sz:Nat}{z cs:C_ B_}{dk:C_ (Nat×G_)}{t}(h:eZ S ((List.range len).map fun i=>(i*sz,sz)) dk z=some cs)
  (hk:∀w1 b,w.heap.size<=b->Ext w w1->w1.heap[b]? = some (.cells cs.toArray e)->K (.slice (some ⟨b,0,none⟩) len len) w1):GI S e len sz z dk w K t :=
 DJ h (hk _ _ (Gf _) ((Ext.refl w).alloc _) (heap_alloc_new w _))
theorem _E{b j:Nat}{c:Array B_}{e:F_}{v:B_}{t}(an:w.heap[b]? = some (.cells c e))(aC:j<c.size)(aD:v.oneCell'=true)
  (hk:∀w1,di b w w1->w1.heap[b]? = some (.cells (c.set j v aC) e)->KW w1):rS (.pointer (some (Addr.add ⟨b,0,none⟩ j))) v w KW t :=
 adF (fT an (Array.getElem?_eq_getElem aC)) (by rw[add_eq];simp[World.frozen?,an]) aD (hk _ (by have h:=di.setCell w (Addr.add ⟨b,0,none⟩ j) v;rwa[Nr] at h) (Ge an aC v))
theorem _W{b:Nat}{c:Array B_}{e:F_}{v:B_}{t}(an:w.heap[b]? = some (.cells c e))(aC:0<c.size)(aD:v.oneCell'=true)
  (hk:∀w1,di b w w1->w1.heap[b]? = some (.cells (c.set 0 v aC) e)->KW w1):rS (.pointer (some ⟨b,0,none⟩)) v w KW t :=
 _E (j:=0) (t:=⟨⟩) an aC aD hk
theorem T_{b n:Nat}{c cs:Array B_}{e:F_}{t}(an:w.heap[b]? = some (.cells c e))(ai:c.size=n)(ax:cs.size=n)(h1:∀x∈cs.toList,x.oneCell'=true)
  (hk:∀w1,di b w w1->w1.heap[b]? = some (.cells cs e)->KW w1):Ba n (.pointer (some ⟨b,0,none⟩)) (.agg cs) w KW t :=
 SI ax (fun j aC=>⟨⟨_,fT an (Array.getElem?_eq_getElem Aw)⟩,by rw[add_eq];simp[World.frozen?,an]⟩) h1 (hk _ (di.ih cs.toList w ⟨b,0,none⟩ 0) (ado an Aw))
theorem _A{b:eR}{t}(cW:Fr->A_->Prop)(kv:Fr->A_->Nat)(ad:cW S w)
  (aG:∀aZ w',(∀t,b.fQ.contains t=false->aZ t=S t)->cW aZ w'->eQ P b (jh (fun fO bM=>cW fO bM/\kv fO bM<kv aZ w') Q ⟨⟩) aZ w' ⟨⟩):AX P b Q S w t:=anT cW kv ad aG
theorem _h{f:E_}{L:mG}(hm:P.follows .mixedOrders=true)(ai:lq P f=some L){args:C_ B_}{R:B_->A_->Prop}(aU:args.length<=L.n)(h:eQ P L.code (tg L.res R ⟨⟩) (iE args 0) w ⟨⟩):aW P f args.toArray w R:=enter hm ai aU h
end
attribute [irreducible] eQ
attribute [irreducible] pS
attribute [irreducible] rE
attribute [irreducible] kP
attribute [irreducible] L5
attribute [irreducible] BK
attribute [irreducible] Bg
attribute [irreducible] yY
attribute [irreducible] vq
attribute [irreducible] C9
attribute [irreducible] AR
attribute [irreducible] xE
attribute [irreducible] Dn
attribute [irreducible] Na
attribute [irreducible] G9
attribute [irreducible] iT
attribute [irreducible] xF
attribute [irreducible] pe
attribute [irreducible] C8
attribute [irreducible] kj
attribute [irreducible] Hc
attribute [irreducible] MB
attribute [irreducible] um
attribute [irreducible] pd
attribute [irreducible] qM
attribute [irreducible] MK
attribute [irreducible] Dg
attribute [irreducible] MO
attribute [irreducible] MS
attribute [irreducible] MQ
attribute [irreducible] MM
attribute [irreducible] ML
attribute [irreducible] Mz
attribute [irreducible] sR
attribute [irreducible] Nd
attribute [irreducible] Df
attribute [irreducible] MX
attribute [irreducible] MU
attribute [irreducible] MA
attribute [irreducible] MZ
attribute [irreducible] M0
attribute [irreducible] G5
attribute [irreducible] ue
attribute [irreducible] xA
attribute [irreducible] Di
attribute [irreducible] MW
attribute [irreducible] rS
attribute [irreducible] Ba
attribute [irreducible] Dj
attribute [irreducible] GI
attribute [irreducible] mB
attribute [irreducible] AZ
attribute [irreducible] M7
attribute [irreducible] Nb
attribute [irreducible] uh
attribute [irreducible] GM
attribute [irreducible] Ng
attribute [irreducible] AP
attribute [irreducible] Vn
attribute [irreducible] M9
attribute [irreducible] xo
attribute [irreducible] Dk
attribute [irreducible] M5
attribute [irreducible] AX
attribute [irreducible] nJ
attribute [irreducible] jh xR tg BB
end a7
end
section
namespace a7
open Go Go.RowKit
structure bg{α:Type}(sz:Nat)(R:World->Addr->α->Prop)(w:World)(v:Value)(xs:List α):Prop where
 ex:∃aO cap,v = .slice aO xs.length cap/\xs.length<=cap/\cap<=maxLen/\(xs≠[]->aO.isSome=true)/\∀a,aO=some a->∀i (h:i<xs.length),R w (a.add (i*sz)) xs[i]
theorem bg.form{α:Type}{sz:Nat}{R:A_->Addr->α->Prop}{w:A_}{v:B_}{xs:C_ α}(h:bg sz R w v xs):∃aO cap,v = .slice aO xs.length cap/\xs.length<=9223372036854775807:=by
 obtain⟨aO,cap,h1,I,ab,_⟩:=h.ex;exact⟨aO,cap,h1,by unfold maxLen at ab;omega⟩
theorem bg.addr{α:Type}{sz:Nat}{R:A_->Addr->α->Prop}{w:A_}{aO:H_ Addr}{n c:Nat}{xs:C_ α}(h:bg sz R w (.slice aO n c) xs)(ax:0<xs.length:=by omega):∃a,aO=some a:=by
 obtain⟨kN,cap,h1,I,ab,aE,_⟩:=h.ex;injection h1 with h1 _ _
 subst h1;exact Option.isSome_iff_exists.1 (aE (by intro e;subst e;simp at ax))
theorem bg.at{α:Type}{sz:Nat}{R:A_->Addr->α->Prop}{w:A_}{a:Addr}{n c:Nat}{xs:C_ α}(h:bg sz R w (.slice (some a) n c) xs)(i:Nat)(U:i<xs.length):R w (a.add (i*sz)) xs[i]:=by
 obtain⟨kN,cap,h1,I,ab,aE,aY⟩:=h.ex;injection h1 with h1 _ _
 subst h1;exact aY a rfl i U
theorem bg.ext{α:Type}{sz:Nat}{R:A_->Addr->α->Prop}(bD:∀w w' a x,Ext w w'->R w a x->R w' a x){w w':A_}{v:B_}{xs:C_ α}(he:Ext w w')(h:bg sz R w v xs):bg sz R w' v xs:=by
 obtain⟨aO,cap,h1,I,ab,aE,aY⟩:=h.ex;exact⟨aO,cap,h1,I,ab,aE,fun a aU i U=>bD _ _ _ _ he (aY a aU i U)⟩
def Flat{α:Type}(enc:α->C_ B_)(w:A_)(a:Addr)(x:α):Prop:=e7 w a (enc x)
theorem Flat.ext{α:Type}{enc:α->C_ B_}(w w':A_)(a:Addr)(x:α)(he:Ext w w')(h:Flat enc w a x):Flat enc w' a x:=e7.ext he h
def iy{oG:Type}(enc:oG->B_)(es:C_ MapEntry)(m:C_ (oG×B_)):Prop:=es.map (fun e=>(e.key,e.val))=m.map (fun p=>(enc p.1,p.2))
theorem zr{oG:Type}[DecidableEq oG]{enc:oG->B_}{d:TypeDesc}(ak:∀x y,Instr.sameNow d (enc x) (enc y)=some (decide (x=y)))(x:oG):∀(es:C_ MapEntry) (m:C_ (oG×B_)) (i:Nat),iy enc es m ->
  ∃r,Instr.findNow d (enc x) es i=some r/\r.map (·.2)=(m.find? (fun p=>decide (x=p.1))).map (·.2)
 | [],m,i,h=>by
  have:m=[]:=by cases m with | nil=>rfl | cons _ _=>simp[iy] at h
  subst this;exact⟨none,rfl,rfl⟩
 | e :: es,m,i,h=>by
  cases m with
  | nil=>simp[iy] at h
  | cons p m =>
   simp only[iy,List.map_cons,List.cons.injEq,Prod.mk.injEq] at h;obtain⟨⟨h1,I⟩,ab⟩:=h;unfold Instr.findNow;rw[h1,ak];by_cases af:x=p.1
   .simp only[af,decide_true];exact⟨_,rfl,by simp[I]⟩
   .simp only[af,decide_false];obtain⟨r,aE,aY⟩:=zr ak x es m (i+1) ab;exact⟨r,aE,by rw[aY];simp[af]⟩
theorem LM(x y:ByteArray):Instr.sameNow .string (.string x) (.string y)=some (decide (x=y)):=by simp[Instr.sameNow,DF]
theorem LL(k q:IntKind)(x y:Int):Instr.sameNow (.int q) (.int k x) (.int k y)=some (decide (x=y)):=by simp[Instr.sameNow];rfl
theorem iy.push{oG:Type}{enc:oG->B_}{es:Array MapEntry}{m:C_ (oG×B_)}(h:iy enc es.toList m)(x:oG)(v:B_)(c:Nat):iy enc (es.push { key:=enc x,val:=v,born:=c }).toList (m++[(x,v)]):=by
 simp only[iy] at *;simp[h]
theorem OM{α:Type}{enc:α->C_ B_}{sz:Nat}(dd:∀x,(enc x).length=sz):∀(xs:C_ α) (i j:Nat) (h:i<xs.length),j<sz->(xs.flatMap enc)[i*sz+j]? = (enc xs[i])[j]?
 | [],i,j,h,_=>by simp at h
 | x :: xs,0,j,h,aC=>by
  simp only[List.flatMap_cons,Nat.zero_mul,Nat.zero_add,List.getElem_cons_zero];rw[List.getElem?_append_left (by rw[dd];exact aC)]
 | x :: xs,i+1,j,h,aC=>by
  simp only[List.flatMap_cons,List.getElem_cons_succ];rw[List.getElem?_append_right (by rw[dd,AH4];omega),dd,show(i+1)*sz+j - sz=i*sz+j from by rw[AH4];omega];exact OM dd xs i j (by simpa using h) aC
theorem agh{α:Type}{enc:α->C_ B_}{sz:Nat}(dd:∀x,(enc x).length=sz){w:A_}{b:Nat}{e:F_}{f:Nat×Nat}{xs:C_ α}(an:w.heap[b]? = some (.cells (xs.flatMap enc).toArray e f))(i:Nat)(h:i<xs.length) :
  e7 w (Addr.add ⟨b,0,none⟩ (i*sz)) (enc xs[i]):=fun j v aC=>by
 have EP:j<sz:=by rw[<-dd xs[i]];exact(List.getElem?_eq_some_iff.1 aC).1
 rw[add_add];exact fT an (by rw[List.getElem?_toArray,OM dd xs i j h EP];exact aC)
theorem bg.cm{α:Type}{enc:α->C_ B_}{sz:Nat}(dd:∀x,(enc x).length=sz){R:A_->Addr->α->Prop}{w:A_}{b n:Nat}{e:F_}{f:Nat×Nat}{xs:C_ α}(an:w.heap[b]? = some (.cells (xs.flatMap enc).toArray e f))
  (ax:n=xs.length)(hm:xs.length<=maxLen)(bD:∀a x,x∈xs->e7 w a (enc x)->R w a x):bg sz R w (.slice (some ⟨b,0,none⟩) n n) xs:=by
 subst ax;refine⟨_,_,rfl,Gf _,hm,fun _=>rfl,fun a aU i U=>?_⟩;injection aU with aU;subst aU
 exact bD _ _ (Gy _) (agh dd an i U)
theorem bg.nil{α:Type}{sz:Nat}{R:A_->Addr->α->Prop}{w:A_}:bg sz R w (.slice none 0 0) ([]:C_ α):=⟨none,0,rfl,Gf _,AG0 _,fun h=>absurd rfl h,fun a h=>by cases h⟩
end a7
end
section
namespace a7
open Go Go.RowKit Go.ChangeShapes Go.WideShapes Go.Deep
section
variable{H:Type}{enc:TypeId×Value->H}{P:Program}
theorem adV{w:A_}:∀{cv:C_ F_} {vs:C_ B_} {ds:C_ (DataW H)} {dk:C_ MemPlace},DataW.TrodAll enc P w 0 (fun _=>true) true cv vs ds dk->∀x∈dk,x.block<w.heap.size
 | [],_,_,_,h=>by
  obtain⟨rfl,rfl,rfl⟩:=trodAll_nil h;intro x af;cases af
 | _ :: _,_,_,_,h=>by
  obtain⟨v,ad4,d,Xg,a,b,rfl,rfl,rfl,⟨m,h1⟩,I⟩:=trodAll_cons h;intro x af;rcases List.mem_append.1 af with af | af
  .exact DataW.trod_lt m _ _ _ h1 x af
  .exact adV I x af
theorem adU{w:A_}{sp:Nat->Bool}{a6:Bool}:∀{cv:C_ F_} {vs:C_ B_} {ds:C_ (DataW H)} {dk:C_ MemPlace},DataW.TrodAll enc P w 0 sp a6 cv vs ds dk->ds.length=cv.length
 | [],_,_,_,h=>by
  obtain⟨rfl,rfl,rfl⟩:=trodAll_nil h;rfl
 | _ :: _,_,_,_,h=>by
  obtain⟨v,ad4,d,Xg,a,b,rfl,rfl,rfl,h1,I⟩:=trodAll_cons h;simp[adU I]
theorem adT(az:laidOutB P=true){W bX:A_}(an:Below W.heap.size W bX):∀{cv:C_ F_} {vs:C_ B_} {ds:C_ (DataW H)} {dk:C_ MemPlace},(cv.all fun t=>P.readableRec t&&decide (t<P.types.size))=true ->
  DataW.TrodAll enc P W 0 (fun _=>true) true cv vs ds dk->(∀x∈dk,x.block<W.heap.size)->DataW.TrodAll enc P bX 0 (fun b=>decide (b<W.heap.size)) true cv vs ds dk
 | [],_,_,_,_,h,_=>by
  obtain⟨rfl,rfl,rfl⟩:=trodAll_nil h;exact trodAll_mk0
 | _ :: _,_,_,_,aG,h,b4=>by
  obtain⟨v,ad4,d,Xg,a,b,rfl,rfl,rfl,h1,I⟩:=trodAll_cons h;simp only[List.all_cons,Bool.and_eq_true,decide_eq_true_eq] at aG;exact trodAll_cons_mk (Below.trod az aG.1.1 aG.1.2 h1 an fun x af=>b4 x (AG3 _ af)) (adT az an aG.2 I fun x af=>b4 x (AF5 _ af))
theorem avD{s:ChangeSpec}{f:Func}{tb:F_}(az:laidOutB P=true)(aG:(f.params.toList.all fun t=>P.readableRec t&&decide (t<P.types.size))=true)(aD:s.vars=[])
  (yp:f.resultTypes=#[tb])(aA:P.underlying tb=some .bool)(ak:∀ds:C_ (DataW H),ds.length=f.params.toList.length->s.fn H ds = { results:=[.lit (.bool true)],args:=ds })
  {W bX:A_}{args:Array B_}{ds gs:C_ (DataW H)}{before:C_ MemPlace}(ek:DataW.Whole enc P f.params.toList s.vars false W args.toList ds gs before)(Wv:Ext W bX) :
  s.post enc P f false true false false W args (.bool true) bX:=by
 have Eo:=ek;obtain⟨p,q,c4,mN,rfl,auF,lA⟩:=ek;rw[aD] at mN;obtain⟨rfl,rfl⟩:=trodVars_none mN;have b4:=adV c4;have e:=ak ds (adU c4);refine⟨ds,[],_,[],p,[],Eo,?_,?_,?_,Wv.frame _,fun h=>by cases h⟩
 .rw[AF2,e,yp];exact trodAll_mk1 (shut_bool aA _)
 .rw[AF2,e];exact adT az Wv aG c4 b4
 .rw[AF2,e,aD];rfl
variable{w:World}{base:Nat}{spare:Nat->Bool}{held:Bool}
theorem Rw{α:Type}(n:Nat)(R:Nat->α->Prop)(h:∀i,i<n->∃x,R i x):∃xs:C_ α,xs.length=n/\∀i (U:i<xs.length),R i xs[i]:=by
 induction n with
 | zero=>exact⟨[],rfl,fun i U=>absurd U (LC _)⟩
 | succ n fb =>
  obtain⟨xs,az,af⟩:=fb fun i U=>h i Aw;obtain⟨x,uO⟩:=h n Aw;refine⟨xs++[x],by simp[az],fun i U=>?_⟩;by_cases ax:i<xs.length
  .rw[AI5 ax];exact af i ax
  .have:i=n:=by simp at U;omega
   subst this;rw[AI6 Aw];simpa[az] using uO
end
theorem agl{H:Type}{enc:F_×B_->H}{P:D_}{w:A_}{base:Nat}{sp:Nat->Bool}{held:Bool}{fuel:Nat}{t e:F_}{n:Nat}{cs:C_ B_}{zs:C_ ByteArray}{p:C_ MemPlace}
  (aA:P.underlying t=some (.array n e))(he:P.underlying e=some .string)(e0:P.cellsOf e=1)(yf:P.cellsOf t=n)
  (h:DataW.trod enc P w base sp held fuel t cs=some (.agg (zs.map fun z=>.lit (.string z.data.toList)),p)):cs=zs.map Value.string:=by
 cases fuel with
 | zero=>simp[DataW.trod] at h
 | succ fuel =>
  simp only[DataW.trod,aA,e0,yf,Nat.mul_one] at h;split at h
  .rename_i az;obtain⟨xs,hm,af⟩:=Option.map_eq_some_iff.1 h;have tB:xs.map (·.1)=zs.map fun z=>(DataW.lit (.string z.data.toList):DataW H):=by
    have:=congrArg Prod.fst af
    simpa using this
   have tA:xs.length=n:=by simpa using Lib.mapM_length hm
   have ava:zs.length=n:=by
    have:=congrArg List.length tB
    simp at this;omega
   apply List.ext_getElem?;intro i;by_cases U:i<n
   .obtain⟨b,an,av⟩:=Lib.mapM_at hm i i (by simp[U]);obtain⟨z,ai,rfl,_⟩:=DataW.trod_string he av;have h1:cs[i]? = some (.string z):=by
     have:=congrArg (·[0]?) ai
     simpa[List.getElem?_take,List.getElem?_drop] using this
    have I:(xs.map (·.1))[i]? = some (DataW.lit (.string z.data.toList):DataW H):=by simp[an]
    rw[tB] at I;simp only[List.getElem?_map,Option.map_eq_some_iff,DataW.lit.injEq,Lit.string.injEq] at I;obtain⟨aep,Fm,e⟩:=I;have e2:aep=z:=by
     cases aep;cases z;simp at e;simp[e]
    simp[h1,Fm,e2]
   .rw[List.getElem?_eq_none Aw,List.getElem?_eq_none (by simp;omega)]
  .cases h
theorem awe{P:D_}{W:A_}{name:String}{zs:C_ ByteArray}{rest:C_ (String×DataW Unit)}{g:Nat}{t e:F_}{n:Nat}
  (aH:P.globalNamed name=some g)(QK:(P.globals[g]?).map (·.type)=some t)(aA:P.underlying t=some (.array n e))(he:P.underlying e=some .string)(e0:P.cellsOf e=1)(yf:P.cellsOf t=n)
  (h:laidMet P ((name,.agg (zs.map fun z=>.lit (.string z.data.toList))) :: rest) W):e7 W ⟨g,0,none⟩ (zs.map Value.string):=by
 obtain⟨dk,⟨aiQ,hP,cs,fuel,p,q,akU,sk,amn,a6,_,_⟩,_⟩:=h;obtain rfl:=Option.some.inj (aH.symm.trans akU);obtain rfl:=Option.some.inj (QK.symm.trans sk);have e:=agl aA he e0 yf a6;intro j v aC
 have:=World.var?_cell aH amn j
 rw[show Addr.add ⟨g,0,none⟩ j=⟨g,j,none⟩ from by cases j<;>simp[Addr.add],this,Array.getElem?_toList.symm,e];exact aC
end a7
end
section
namespace a7
open Go Go.RowKit
theorem Ext.grown{w0 w w':A_}{r:H_ Nat}(he:Ext w0 w)(aH:w.grownBy w' r)(aG:∀k,r=some k->w0.heap.size<=k):Ext w0 w':=Below.grown he aH he.size aG
theorem ao9{w w':A_}{base:Nat}{e:F_}{sz:Nat}{v:B_}{n:Nat}{xs:C_ B_}(he:Ext w w')(h:w.ownsRow base e sz v n xs):w'.ownsRow base e sz v n xs:=by
 refine⟨h.1,?_⟩;rcases h.2 with ax | ⟨g,cap,cur,rfl,an,B6,rest⟩
 .exact .inl ax
 .exact .inr ⟨g,cap,cur,rfl,an,he.obj B6,rest⟩
theorem apa{w:A_}{base vB:Nat}{e:F_}{sz:Nat}{v:B_}{n:Nat}{xs:C_ B_}(an:vB<=base)(h:w.ownsRow base e sz v n xs):w.ownsRow vB e sz v n xs:=by
 refine⟨h.1,?_⟩;rcases h.2 with ax | ⟨g,cap,cur,rfl,qf,rest⟩
 .exact .inl ax
 .exact .inr ⟨g,cap,cur,rfl,Ru an qf,rest⟩
theorem ab5{w:A_}{base:Nat}{e:F_}{sz:Nat}{v:B_}{n:Nat}{xs:C_ B_}(h:w.ownsRow base e sz v n xs):∃aO cap,v = .slice aO n cap/\n<=cap/\cap<=maxLen/\(n≠0->aO.isSome=true)/\∀a,aO=some a->e7 w a xs:=by
 rcases h.2 with ⟨rfl,rfl⟩ | ⟨g,cap,cur,rfl,an,B6,h1,I,ab,aE⟩
 .exact⟨none,0,rfl,Gf _,AG0 _,fun h=>absurd rfl h,fun a aU=>by cases aU⟩
 .exact⟨_,cap,rfl,h1,I,fun _=>rfl,fun a aU=>by injection aU with aU;subst aU;exact fun j u aC=>h.cells (g:=g) rfl j u aC⟩
theorem apb{α:Type}{enc:α->C_ B_}{w:A_}{base:Nat}{e:F_}{sz:Nat}{v:B_}{xs:C_ α}(dd:∀x,(enc x).length=sz)(h:w.ownsRow base e sz v xs.length (xs.flatMap enc)):bg sz (Flat enc) w v xs:=by
 obtain⟨aO,cap,rfl,h1,I,ab,aE⟩:=ab5 h;refine⟨aO,cap,rfl,h1,I,fun ax=>ab (by intro e;exact ax (AG1 e)),fun a aU i U=>?_⟩;intro j u aC;have EP:j<sz:=by rw[<-dd xs[i]];exact(List.getElem?_eq_some_iff.1 aC).1
 rw[add_add];exact aE a aU _ _ (by rw[OM dd xs i j U EP];exact aC)
theorem AB1{P:D_}{cK:B_->A_->Prop}{w:A_}{ty e:F_}{sz b:Nat}{s:B_}{a:Addr}{m c:Nat}{t}{base n:Nat}{xs news:C_ B_}(ak:w.ownsRow base e sz s n xs)(ai:e7 w a news)(az:news.length=m*sz)
  (h1:∀u∈news,u.oneCell'=true)(k3:n+m<=maxLen)(an:(n+m)*b<=140737488355328)(kp:base<=w.heap.size)
  (hk:∀bS w',w'.ownsRow base e sz bS (n+m) (xs++news)->w.grownBy w' s.ownBlock->cK bS w'):mB P ty e sz b s (.slice (some a) m c) w cK t :=
 _n fun⟨aA,i,z,U,bw,Ck,BX,z7,dd⟩=>by
  obtain⟨bS,w',aG,I,ab,_⟩:=run_append_own (P:=P) w base ty ty e i z sz b aA U bw Ck BX z7 dd s n xs ak a m c news az ai h1 k3 an kp;exact⟨ty,bS,w',aG,hk bS w' I ab⟩
theorem add_zero(a:Addr):a.add 0=a:=by simp[Addr.add]
theorem bg.cap{α:Type}{sz:Nat}{R:A_->Addr->α->Prop}{w:A_}{aO:H_ Addr}{n c:Nat}{xs:C_ α}(h:bg sz R w (.slice aO n c) xs):xs.length<=c:=by
 obtain⟨kN,cap,e,I,ab,aE,aY⟩:=h.ex;injection e with e1 e2 a1
 subst a1;exact I
theorem bg.take{α:Type}{sz:Nat}{R:A_->Addr->α->Prop}{w:A_}{aO:H_ Addr}{n c:Nat}{xs:C_ α}(h:bg sz R w (.slice aO n c) xs)(k:Nat)(hk:k<=xs.length) :
  bg sz R w (.slice (if c=0 then aO else aO.map (·.add (0*sz))) (k - 0) (c - 0)) (xs.take k):=by
 obtain⟨kN,cap,e,I,ab,aE,aY⟩:=h.ex;injection e with e1 e2 a1
 subst e1 e2 a1;have e:(if c=0 then aO else aO.map (·.add (0*sz)))=aO:=by
  split
  .rfl
  .cases aO with
   | none=>rfl
   | some a=>simp[add_zero]
 rw[e];refine⟨aO,c,by simp[List.length_take,Nat.min_eq_left hk],by simp[List.length_take];omega,ab,fun ax=>aE (by intro e;subst e;simp at ax),fun a aU i U=>?_⟩;have cw:i<xs.length:=by simp[List.length_take] at U;omega
 rw[AI7];exact aY a aU i cw
theorem X1{α:Type}{enc:α->C_ B_}{sz:Nat}(dd:∀x,(enc x).length=sz):∀(xs:C_ α) (p:Nat) (v:B_),(xs.flatMap enc)[p]? = some v->∃i j,∃h:i<xs.length,j<sz/\p=i*sz+j/\(enc xs[i])[j]? = some v
 | [],p,v,h=>by simp at h
 | x :: xs,p,v,h=>by
  rw[AH5] at h;by_cases aq:p<sz
  .rw[List.getElem?_append_left (by rw[dd];exact aq)] at h;exact⟨0,p,Bh,aq,Bh,h⟩
  .rw[List.getElem?_append_right (by rw[dd];omega),dd] at h;obtain⟨i,j,U,aC,e,I⟩:=X1 dd xs (p - sz) v h;exact⟨i+1,j,by simpa using U,aC,by rw[AH4];omega,by simpa using I⟩
theorem bg.flat{α:Type}{enc:α->C_ B_}{sz:Nat}{R:A_->Addr->α->Prop}{w:A_}{a:Addr}{n c:Nat}{xs:C_ α}(dd:∀x,(enc x).length=sz)(bD:∀a x,R w a x->e7 w a (enc x))
  (h:bg sz R w (.slice (some a) n c) xs):e7 w a (xs.flatMap enc):=by
 intro p v aq;obtain⟨i,j,U,aC,rfl,I⟩:=X1 dd xs p v aq
 have:=bD _ _ (h.at i U) j v I
 rwa[add_add] at this
theorem x6{α:Type}{enc:α->C_ B_}{sz:Nat}(dd:∀x,(enc x).length=sz):∀(xs:C_ α),(xs.flatMap enc).length=xs.length*sz
 | []=>Bh
 | x :: xs=>by rw[AH5,Lk,x6 dd xs,dd,AH0,AH4];omega
theorem _u{P:D_}{Q:fy->Fr->A_->Prop}{S:Fr}{w:A_}{a b:eR}{t}(N:Fr->A_->Prop)(h1:eQ P a (jh N Q ⟨⟩) S w ⟨⟩)
  (I:∀aZ w',(∀t,a.fQ.contains t=false->aZ t=S t)->N aZ w'->eQ P b Q aZ w' ⟨⟩):eQ P (.seq a b) Q S w t:=by
 unfold eQ jh at *;exact pU a _ _ S w (fun e aZ w' ak h=>match e,h with | .normal,h=>I aZ w' ak h | .exit _,h=>h | .ret,h=>h | .hj _,h=>h) h1
theorem _7{P:D_}{hP:F_}{eb eu:G_}{ba:B_->Prop}{a b:Bool}{t}(h:P.underlying hP=some .bool)(hk:ba (.bool (a != b))):kj P .neq hP eb eu (.bool a) (.bool b) ba t :=
 _Z (v:=.bool (a != b)) (fun w=>by cases a<;>cases b<;>simp[eqGuard_at_bool,binOp,run_equal_bool w hP _ _ h]) hk
theorem ao8{w:A_}{base:Nat}{e:F_}{sz b:Nat}(an:base<=b)(h:w.heap[b]? = some (.cells #[] e)):w.ownsRow base e sz (.slice (some ⟨b,0,none⟩) 0 0) 0 [] :=
 ⟨Bh,.inr ⟨b,0,#[],rfl,an,h,Gf _,AG0 _,Bh,Bh⟩⟩
end a7
end
section
namespace a7
open Go Go.RowKit
class oI{α:Type}(R:World->Addr->α->Prop)(enc:outParam (α->List Value)):Prop where
 Hq:∀w a x,R w a x->e7 w a (enc x)
instance avc{α:Type}(enc:α->List Value):oI (Flat enc) enc:=⟨fun _ _ _ h=>h⟩
section
variable{P:Program}{Q:fy->Fr->World->Prop}{ba:Value->Prop}{K:Value->World->Prop}{S:Fr}{w w0:World}
theorem _L{b j:Nat}{c:C_ B_}{ty:F_}{f:Nat×Nat}{v:B_}{t}(an:w0.heap[b]? = some (.cells c.toArray ty f))(he:Ext w0 w)(aC:c[j]? = some v)(hk:ba v):ue (.pointer (some (Addr.add ⟨b,0,none⟩ j))) w ba t :=
 M_ (fT (he.obj an) (by simpa using aC)) hk
theorem _C{b:Nat}{c:C_ B_}{ty:F_}{f:Nat×Nat}{v:B_}{t}(an:w0.heap[b]? = some (.cells c.toArray ty f))(he:Ext w0 w)(aC:c[0]? = some v)(hk:ba v):ue (.pointer (some ⟨b,0,none⟩)) w ba t :=
 M_ (Bt (he.obj an) (by simpa using aC)) hk
theorem R_{b n:Nat}{c:C_ B_}{ty:F_}{f:Nat×Nat}{t}(an:w0.heap[b]? = some (.cells c.toArray ty f))(he:Ext w0 w)(ax:c.length=n)(hk:ba (.agg c.toArray)):xA n (.pointer (some ⟨b,0,none⟩)) w ba t :=
 Z_ (gN (he.obj an)) ax hk
theorem _Q{α:Type}{sz i j n c:Nat}{R:A_->Addr->α->Prop}{enc:α->C_ B_}[oI R enc]{a:Addr}{xs:C_ α}{v:B_}{t}(az:bg sz R w0 (.slice (some a) n c) xs)(he:Ext w0 w)(U:i<xs.length)(aC:(enc xs[i])[j]? = some v)
  (hk:ba v):ue (.pointer (some ((a.add (i*sz)).add j))) w ba t:=M_ (he.cell (oI.Hq _ _ _ (az.at i U) j v aC)) hk
theorem _R{α:Type}{i n c:Nat}{R:A_->Addr->α->Prop}{enc:α->C_ B_}[oI R enc]{a:Addr}{xs:C_ α}{v:B_}{t}(az:bg 1 R w0 (.slice (some a) n c) xs)(he:Ext w0 w)(U:i<xs.length)(aC:(enc xs[i])[0]? = some v)
  (hk:ba v):ue (.pointer (some (a.add (i*1)))) w ba t:=by
 have h:=oI.Hq (R:=R) _ _ _ (az.at i U) 0 v aC;rw[add_zero] at h;exact M_ (he.cell h) hk
theorem _S{α:Type}{sz i n c m:Nat}{R:A_->Addr->α->Prop}{enc:α->C_ B_}[oI R enc]{a:Addr}{xs:C_ α}{t}(az:bg sz R w0 (.slice (some a) n c) xs)(he:Ext w0 w)(U:i<xs.length)(ax:(enc xs[i]).length=m)
  (hk:ba (.agg (enc xs[i]).toArray)):xA m (.pointer (some (a.add (i*sz)))) w ba t:=Z_ ((oI.Hq _ _ _ (az.at i U)).ext he) ax hk
theorem _T{p:Prop}[Decidable p]{A B:Prop}{t}(h:p)(hk:A):pd (.bool (decide p)) A B t:=I_ (fun _=>hk) fun bk=>absurd h bk
theorem _U{p:Prop}[Decidable p]{A B:Prop}{t}(h:¬p)(hk:B):pd (.bool (decide p)) A B t:=I_ (fun bk=>absurd bk h) fun _=>hk
theorem _F{u:Bool}{A B:Prop}{t}(h:u=true)(hk:A):pd (.bool u) A B t:=N_ (fun _=>hk) fun bk=>by rw[h] at bk;cases bk
theorem _G{u:Bool}{A B:Prop}{t}(h:u=false)(hk:B):pd (.bool u) A B t:=N_ (fun bk=>by rw[h] at bk;cases bk) fun _=>hk
theorem _V{sz:Nat}{a:Addr}{len cap:Nat}{k:IntKind}{i:Nat}{t}(h:i<len)(hk:ba (.pointer (some (a.add (i*sz))))):Dg sz (.slice (some a) len cap) (.int k (i:Int)) ba t:=K_ i rfl h hk
theorem _M{d n:Nat}{ty:F_}{cs:Array B_}{x:G_}{r:C_ Step}{cK:Fr->A_->Prop}{vs:C_ B_}{t1 t}(af:∀v,bn (cb S d v) x = .agg vs.toArray)(ax:vs.length=n)(ai:cs.size=n)(h1:∀u∈vs,u.oneCell'=true)
  (hk:∀w1 b,w.heap.size<=b->Ext w w1->w1.heap[b]? = some (.cells vs.toArray ty)->pS P r (cb S d (.pointer (some ⟨b,0,none⟩))) w1 cK ⟨⟩) :
  Dk ty cs w (fun v w'=>pS P (⟨none,none,.e (.l3 n (.tmp d) x)⟩ :: r) (put S (some d) v) w' cK t1) t:=by
 refine O_ fun w1 b an he cN=>?_;simp -dsimp only[Tl,Tm,Tn,To,Tp,Tq,Tr,Ts,Tt,Tu,Tw,xl,xm,Tx,Ty,Tz,TA,TB,TC,cu,TD,TE,TF,TG,TH,TI,TJ,TK,TL,TM,uc,TP,TQ,TR,TS,TT,TU,TV,TW,TX,yV,jE,cY,fD,dW,ix,hq,gx,hr,gR,T2,T3,T4,T5,T6,T7,T8,T9,Ua,Ub,Uc,H1,Ud,Ue,Uf,Ug,Uh,Ui,Uj,Uk,Ul,Um,Un,Uo,Up,Uq,Ur,Us,Ut,Uu,Uv,Uw,Ux,Uy,Uz,UA,UB,UC,UD,UE,UH,UI,M2,UJ,UK,UL,UM,UN,UO,UP,UQ,UR,US,UT,UU,UW,UX,UY,UZ,U0,U2,U3,U4,U5,U6,U7,U8,U9,Va,Vb,Vc,Vd,Ve,Vf,Vg,Vh,Vi,Vj,Vk,Vl,Vo,Dq,Dr,Vp,Vq,Vr,Ds,A3,Vs,Vt,Vz,VA,VB,VC,VD,VE,VF,VG,VH,VI,VK,VL,VM,VN,VO,VP,VQ,VR,VS,VT,VU,VV,VW,VX,VY,VZ,V0,V1,V2,V3,V4,iB,eV,nU,Bc,p6,lo,Nat.reduceAdd,Nat.reduceEqDiff,reduceIte,reduceCtorEq,c3,af];refine T_ (cs:=vs.toArray) cN ai (by simpa using ax) (by simpa using h1) fun aB hw au=>?_;exact hk aB b an (hw.ext he an) au
theorem _i{b:eR}{t}(i N:Nat)(iS:Nat->Fr->A_->Prop)(P1:S i = .I 0)(ad:iS 0 S w)
  (aG:∀(k:Nat) aZ w',(∀t,b.fQ.contains t=false->aZ t=S t)->k<=N->aZ i = .I k->iS k aZ w' ->
   eQ P b (jh (fun fO bM=>k<N/\fO i = .I ((k:Int)+1)/\iS (k+1) fO bM) Q ⟨⟩) aZ w' ⟨⟩):AX P b Q S w t:=by
 refine _A (fun S w => ∃k:Nat,k<=N/\S i = .I k/\iS k S w) (fun S _=>(N - intOf (S i)).toNat) ⟨0,AG0 _,by simpa using P1,ad⟩ ?_;rintro aZ w' b3 ⟨k,hk,U,aC⟩;have h:=aG k aZ w' b3 hk U aC;unfold eQ jh at *;refine pU b _ _ aZ w' (fun e fO bM _ h=>?_) h
 match e,h with
 | .normal,⟨h1,I,ab⟩=>exact⟨⟨k+1,h1,by simpa using I,ab⟩,by simp[U,I,intOf];omega⟩
 | .exit _,h=>exact h
 | .ret,h=>exact h
 | .hj _,h=>exact h
theorem _H{KW:A_->Prop}{d:TypeDesc}{r:Nat}{k v:B_}{es:Array MapEntry}{c:Nat}{t}(h1:w.heap[r]? = some (.map es c))(I:Instr.findNow d k es.toList 0=some none)
  (hk:∀w1,di r w w1->w1.heap[r]? = some (.map (es.push { key:=k,val:=v,born:=c }) (c+1))->KW w1):AZ d (.map (some r)) k v w KW t :=
 _t h1 I (hk _ (di.fv _ _ _) (CO (cr h1)))
theorem _N{sz:Nat}{aO:H_ Addr}{n cap:Nat}{x:G_}{k:IntKind}{t}(h:Nat)(af:bn S x = .int k (h:Int))(cN:h<=cap)(hk:ba (.slice aO h cap)):sR S sz (.slice aO n cap) none (some x) none ba t:=by
 refine _B 0 h cap (by simp[et]) (by simp[et,af]) (by simp[et]) ⟨AG0 _,cN,Gf _⟩ Bh ?_;have e:(if cap=0 then aO else aO.map (·.add (0*sz)))=aO:=by
  split
  .rfl
  .cases aO with
   | none=>rfl
   | some a=>simp[add_zero]
 rw[e];exact hk
theorem _8{sz:Nat}{aO:H_ Addr}{n cap:Nat}{x:G_}{k:IntKind}{t}(l:Nat)(af:bn S x = .int k (l:Int))(az:l<=n/\n<=cap)(hk:ba (.slice (if cap=l then aO else aO.map (·.add (l*sz))) (n - l) (cap - l))) :
  sR S sz (.slice aO n cap) (some x) none none ba t :=
 _B l n cap (by simp[et,af]) (by simp[et]) (by simp[et]) ⟨az.1,az.2,Gf _⟩ Bh hk
end
theorem bg.head{α:Type}{sz:Nat}{R:A_->Addr->α->Prop}{w:A_}{aO:H_ Addr}{n c:Nat}{xs:C_ α}(h:bg sz R w (.slice aO n c) xs)(k:Nat)(hk:k<=xs.length):bg sz R w (.slice aO k c) (xs.take k):=by
 have:=h.take k hk
 have e:(if c=0 then aO else aO.map (·.add (0*sz)))=aO:=by
  split
  .rfl
  .cases aO with
   | none=>rfl
   | some a=>simp[add_zero]
 rw[e] at this;exact this
theorem bg.len{α:Type}{sz:Nat}{R:A_->Addr->α->Prop}{w:A_}{aO:H_ Addr}{n c:Nat}{xs:C_ α}(h:bg sz R w (.slice aO n c) xs):n=xs.length/\n<=c/\c<=maxLen:=by
 obtain⟨kN,cap,e,I,ab,_⟩:=h.ex;injection e with e1 e2 a1
 subst e2 a1;exact⟨rfl,I,ab⟩
theorem bg.tail{α:Type}{sz:Nat}{R:A_->Addr->α->Prop}{w:A_}{aO:H_ Addr}{n c:Nat}{xs:C_ α}(h:bg sz R w (.slice aO n c) xs)(l:Nat)(az:l<=xs.length) :
  bg sz R w (.slice (if c=l then aO else aO.map (·.add (l*sz))) (n - l) (c - l)) (xs.drop l):=by
 obtain⟨e1,e2,a1⟩:=h.len;subst e1;obtain⟨kN,cap,e,I,ab,aE,aY⟩:=h.ex;injection e with e1 e2 a1
 subst e1 a1;refine⟨_,_,by rw[AF8],by rw[AF8];omega,Aw,fun ax=>?_,fun a aU i U=>?_⟩
 .have:xs≠[]:=by intro e;subst e;simp at ax
  have:=aE this
  split
  .exact this
  .cases aO with
   | none=>cases this
   | some a=>rfl
 .have cw:l+i<xs.length:=by rw[AF8] at U;omega
  rw[if_neg Aw] at aU;cases aO with
  | none=>cases aU
  | some b =>
   simp only[Option.map_some,Option.some.injEq] at aU;subst aU;rw[add_add,<-AH4,AJ7];exact aY b rfl _ cw
structure Mod(A:Nat->Prop)(w w':World):Prop where
 os:w'.os=w.os
 tape:w'.tape=w.tape
 output:w'.output=w.output
 size:w.heap.size<=w'.heap.size
 block:∀k,k<w.heap.size->¬A k->w'.heap[k]? = w.heap[k]?
theorem Mod.refl(A:Nat->Prop)(w:A_):Mod A w w:=⟨rfl,rfl,rfl,Gf _,fun _ _ _=>rfl⟩
theorem Mod.trans{A:Nat->Prop}{a b c:A_}(h:Mod A a b)(k:Mod A b c):Mod A a c :=
 ⟨k.os.trans h.os,k.tape.trans h.tape,k.output.trans h.output,Ru h.size k.size,fun i U ax=>(k.block i (AH7 U h.size) ax).trans (h.block i U ax)⟩
theorem Mod.then{A B:Nat->Prop}{a b c:A_}(h:Mod B a b)(k:Mod A b c)(ak:∀i,i<a.heap.size->A i->B i):Mod B a c :=
 ⟨k.os.trans h.os,k.tape.trans h.tape,k.output.trans h.output,Ru h.size k.size,fun i U ax=>(k.block i (AH7 U h.size) fun e=>ax (ak i U e)).trans (h.block i U ax)⟩
theorem Ext.mod{A:Nat->Prop}{w w':A_}(h:Ext w w'):Mod A w w':=⟨h.os,h.tape,h.output,h.size,fun _ hk _=>h.heap hk⟩
theorem di.mod{A:Nat->Prop}{b:Nat}{w w':A_}(h:di b w w')(an:A b):Mod A w w':=⟨h.os,h.tape,h.output,by rw[h.size];exact Gf _,fun k _ ax=>h.block k fun e=>ax (e ▸ an)⟩
theorem Mod.grown{A:Nat->Prop}{w w':A_}{row:H_ Nat}(h:w.grownBy w' row)(aG:∀k,row=some k->A k):Mod A w w':=⟨h.os,h.tape,h.output,h.size,fun k hk ax=>h.block k hk fun e=>ax (aG k e.symm)⟩
theorem Mod.ext{A:Nat->Prop}{w0 w w':A_}(h:Mod A w w')(he:Ext w0 w)(c4:∀k,k<w0.heap.size->¬A k):Ext w0 w' :=
 ⟨h.os.trans he.os,h.tape.trans he.tape,h.output.trans he.output,Ru he.size h.size,fun k hk=>(h.block k (AH7 hk he.size) (c4 k hk)).trans (he.heap hk)⟩
theorem Mod.obj{A:Nat->Prop}{w w':A_}{k:Nat}{ae:Obj}(h:Mod A w w')(ax:¬A k)(hk:w.heap[k]? = some ae):w'.heap[k]? = some ae:=(h.block k (cr hk) ax).trans hk
theorem Mod.AI{A B:Nat->Prop}{w w':A_}(h:Mod A w w')(ak:∀k,A k->B k):Mod B w w':=⟨h.os,h.tape,h.output,h.size,fun k hk ax=>h.block k hk fun e=>ax (ak k e)⟩
def aP{α:Type}(enc:α->C_ B_)(e:F_)(sz base:Nat)(w:A_)(v:B_)(xs:C_ α):Prop:=w.ownsRow base e sz v xs.length (xs.flatMap enc)
section
variable{α:Type}{enc:α->List Value}{e:TypeId}{sz base:Nat}{w w':World}{v:Value}{xs:List α}
theorem aP.nil(enc:α->C_ B_)(e:F_)(sz base:Nat)(w:A_):aP enc e sz base w (.slice none 0 0) []:=World.ownsRow_nil w base e sz
theorem aP.ext(he:Ext w w')(h:aP enc e sz base w v xs):aP enc e sz base w' v xs:=ao9 he h
theorem aP.wr{b:Nat}(hw:di b w w')(an:b<base)(h:aP enc e sz base w v xs):aP enc e sz base w' v xs :=
 World.ownsRow.kept (row:=some b) h ⟨hw.os,hw.tape,hw.output,by rw[hw.size];exact Gf _,fun k _ hk=>hw.block k (fun e=>hk (by rw[e]))⟩ (by
  cases aD:v.ownBlock with
  | none=>exact .inl rfl
  | some k=>exact .inr (by have:=(World.ownsRow.lt h k aD).1;intro e;injection e with e;omega))
theorem aP.lt(h:aP enc e sz base w v xs):∀k,v.ownBlock=some k->base<=k/\k<w.heap.size:=World.ownsRow.lt h
theorem aP.form(h:aP enc e sz base w v xs):∃aO cap,v = .slice aO xs.length cap/\xs.length<=cap/\cap<=maxLen:=by
 obtain⟨aO,cap,h1,I,ab,_⟩:=ab5 h;exact⟨aO,cap,h1,I,ab⟩
theorem aP.jg(dd:∀x,(enc x).length=sz)(h:aP enc e sz base w v xs):bg sz (Flat enc) w v xs:=apb dd h
theorem aP.head{aO:H_ Addr}{n cap:Nat}(dd:∀x,(enc x).length=sz)(h:aP enc e sz base w (.slice aO n cap) xs)(k:Nat)(hk:k<=xs.length):aP enc e sz base w (.slice aO k cap) (xs.take k):=by
 have lv:∀(xs:C_ α) (k:Nat),(xs.flatMap enc).take (k*sz)=(xs.take k).flatMap enc:=by
  intro xs
  induction xs with
  | nil=>intro k;simp
  | cons x xs fb =>
   intro k;cases k with
   | zero=>simp
   | succ k =>
    simp only[List.flatMap_cons,List.take_succ_cons];rw[List.take_append,dd,show(k+1)*sz - sz=k*sz from by rw[AH4];omega,fb,Lj (by rw[dd,AH4];omega)]
 have az:(xs.take k).length=k:=by simp[List.length_take];omega
 refine⟨by rw[az,x6 dd,az],?_⟩;rcases h.2 with ⟨h1,I⟩ | ⟨g,p9,cur,h1,I,ab,aE,aY,bz,b0⟩
 .injection h1 with e1 e2 a1
  subst e1 a1
  have:xs.length=0:=I
  exact .inl ⟨by congr 1;omega,Aw⟩
 .injection h1 with e1 e2 a1
  subst e1 a1;refine .inr ⟨g,cap,cur,by rw[az],I,ab,Aw,aY,bz,?_⟩;rw[az,<-lv,<-b0,AI8,Nat.min_eq_left (AI9 _ hk)]
theorem _O{P:D_}{cK:B_->A_->Prop}{ty:F_}{b:Nat}{s:B_}{a:Addr}{m c:Nat}{ys:C_ α}{t}(ak:aP enc e sz base w s xs)(dd:∀x,(enc x).length=sz)(ai:e7 w a (ys.flatMap enc))(hm:m=ys.length)
  (h1:∀y,∀u∈enc y,u.oneCell'=true)(an:(xs.length+ys.length)*b<=140737488355328)(k3:xs.length+ys.length<=maxLen)(kp:base<=w.heap.size)
  (hk:∀bS w',aP enc e sz base w' bS (xs++ys)->w.grownBy w' s.ownBlock->cK bS w'):mB P ty e sz b s (.slice (some a) m c) w cK t:=by
 subst hm;refine AB1 ak ai (x6 dd ys) (fun u hu=>by obtain⟨y,_,bK⟩:=List.mem_flatMap.1 hu;exact h1 y u bK) k3 an kp fun bS w' lX aH=>hk bS w' ?_ aH;unfold aP;rw[Lk,AH1];exact lX
end
end a7
end
section
namespace a7
open Go Go.RowKit
section
variable{P:Program}{cK:Value->World->Prop}{α:Type}{enc:α->List Value}{e:TypeId}{sz base vB:Nat}{w:World}{s x:Value}{xs ys:List α}
theorem _j{ty:F_}{b:Nat}{t}(ak:aP enc e sz base w s xs)(af:aP enc e sz vB w x ys)(dd:∀x,(enc x).length=sz)(h1:∀y,∀u∈enc y,u.oneCell'=true)(an:(xs.length+ys.length)*b<=140737488355328)
  (k3:xs.length+ys.length<=maxLen)(kp:base<=w.heap.size)(hk:∀bS w',aP enc e sz base w' bS (xs++ys)->w.grownBy w' s.ownBlock->cK bS w'):mB P ty e sz b s x w cK t:=by
 rcases af.2 with ⟨rfl,ad⟩ | ⟨g,cap,cur,rfl,I5,aH,ab,aE,aY,bz⟩
 .have:ys=[]:=AG1 ad
  subst this;rw[AF2] at hk;refine _n fun⟨aA,i,z,U,bw,Ck,BX,z7,JI⟩=>?_;exact⟨ty,s,w,run_append_owned_none w base ty ty e i sz aA U s _ _ ak,hk s w ak ⟨rfl,rfl,rfl,Gf _,fun _ _ _=>rfl⟩⟩
 .exact _O ak dd (fun j u aC=>World.ownsRow.cells af (g:=g) rfl j u aC) rfl h1 an k3 kp hk
theorem AB2{R:A_->Addr->α->Prop}[oI R enc]{ty:F_}{b:Nat}{a:Addr}{m c:Nat}{t}(ak:aP enc e sz base w s xs)(af:bg sz R w (.slice (some a) m c) ys)(dd:∀x,(enc x).length=sz)(h1:∀y,∀u∈enc y,u.oneCell'=true)
  (an:(xs.length+ys.length)*b<=140737488355328)(k3:xs.length+ys.length<=maxLen)(kp:base<=w.heap.size)(hk:∀bS w',aP enc e sz base w' bS (xs++ys)->w.grownBy w' s.ownBlock->cK bS w'):mB P ty e sz b s (.slice (some a) m c) w cK t :=
 _O ak dd (bg.flat (enc:=enc) dd (fun a x h=>oI.Hq _ a x h) af) af.len.1 h1 an k3 kp hk
theorem aP.empty{b:Nat}(an:base<=b)(h:w.heap[b]? = some (.cells #[] e)):aP enc e sz base w (.slice (some ⟨b,0,none⟩) 0 0) ([]:C_ α):=ao8 an h
theorem aP.low{v:B_}(an:vB<=base)(h:aP enc e sz base w v xs):aP enc e sz vB w v xs:=apa an h
end
end a7
end
section
namespace a7
open Go
def aM(n:Nat):G_:=.tmp n
def ct(n:Int):G_:=.const (.int .i64 n)
def kR(b:Bool):G_:=.const (.bool b)
def cD(d:Nat)(i:xC):Step:=⟨some d,none,.p i⟩
def pc(d:Nat)(i:vv):Step:=⟨some d,none,.r i⟩
def dC(d:Nat)(i:sJ):Step:=⟨some d,none,.e i⟩
def h4(d:Nat)(i:qK):Step:=⟨some d,none,.c i⟩
def hp(i:sJ):Step:=⟨none,none,.e i⟩
def dR(j:Nat)(b:Bool)(s:Step):Step:=⟨s.dst,some (j,b),s.i⟩
def aN(d n:Nat):Step:=⟨some d,none,.p (.nF (.tmp n))⟩
def fx(d:Nat)(x:G_):Step:=⟨some d,none,.p (.nF x)⟩
def fw(d k n:Nat):Step:=⟨some d,none,.p (.lr k (.tmp n))⟩
def ey(d n:Nat):Step:=⟨some d,none,.r (.ld (.tmp n))⟩
def ik(d k a i:Nat):Step:=⟨some d,none,.p (.o2 k (.tmp a) (.tmp i))⟩
def ys(a v:Nat):Step:=⟨none,none,.e (.st (.tmp a) (.tmp v))⟩
def lJ(d n:Nat):Step:=⟨some d,none,.p (.Cr (.tmp n))⟩
def dD:B_:=.int .i64 0
def iw:B_:=.slice none 0 0
def AK:B_:=.string ⟨#[]⟩
def iR(op:BinOp)(t:F_)(d a b:Nat):Step:=⟨some d,none,.p (.bin op t (.tmp a) (.tmp b))⟩
def ki(op:BinOp)(t:F_)(d a:Nat)(n:Int):Step:=⟨some d,none,.p (.bin op t (.tmp a) (.const (.int .i64 n)))⟩
def xk(d a b:Nat):Step:=⟨some d,none,.p (.pick (.tmp a) (.tmp b) (.const (.bool false)))⟩
def oF(d a b:Nat):Step:=⟨some d,none,.p (.pick (.tmp a) (.const (.bool true)) (.tmp b))⟩
def cG(ca:C_ Step)(b:eR):eR:=.seq (.dm ca) b
def jY(n:Nat)(a b:eR):eR:=.cond (.tmp n) a b
def h3(d k n:Nat):Step:=⟨some d,none,.r (.kM k (.tmp n))⟩
def pV(k a v:Nat):Step:=⟨none,none,.e (.l3 k (.tmp a) (.tmp v))⟩
def Mv(d n:Nat):Step:=⟨some d,none,.p (.wV (.tmp n))⟩
def C4(d n i:Nat):Step:=⟨some d,none,.p (.ext (.tmp n) i)⟩
def nL(d:Nat)(f:E_)(l:C_ Nat):Step:=⟨some d,none,.c (.fn f (l.map .tmp))⟩
def vl(n m:Nat)(b:eR):eR:=.seq (.cond (.tmp n) .skip (.exit m)) b
def rL(n:Nat)(s:Step):Step:=dR n true s
def lI(n:Nat)(s:Step):Step:=dR n false s
def xj(s:Step)(k:eJ):eJ:=.take s k
def vk(t:F_)(a b:Nat):eR:=.dm [⟨some a,none,.p (.bin .add t (.tmp b) (.const (.int .i64 1)))⟩,⟨some b,none,.p (.nF (.tmp a))⟩]
theorem nV{A B:Prop}(k:B)(h:B->A:=by
 intro q
 try dsimp only[aM,ct,kR,cD,pc,dC,h4,hp,dR,aN,fx,fw,ey,ik,ys,lJ,dD,iw,AK,iR,ki,xk,oF,cG,jY,h3,pV,Mv,C4,nL,vl,vk,rL,lI,xj,List.map_cons,List.map_nil]
 exact q):A:=h k
end a7
end
section
namespace a7
open Go Go.RowKit
structure xw(p:Prop):Prop where out:p
theorem ay{A B:Prop}(k:B)(h:xw B->A:=by
 intro q
 (repeat' first
 | assumption
 | exact Ext.refl _
 | refine Ext.trans ?_ Br
 | refine Q_ Aw ?_
 | refine _L Br ?_ rfl ?_
 | refine _C Br ?_ rfl ?_
 | refine _Q Br ?_ Aw rfl ?_
 | refine _R Br ?_ Aw rfl ?_
 | refine _S Br ?_ Aw rfl ?_
 | refine _V Aw ?_
 | refine _T (by first | assumption | omega) ?_
 | refine _U (by first | assumption | omega) ?_
 | refine _F Br ?_
 | refine _G Br ?_
 | simp -dsimp only[cV,cu,Nat.reduceAdd,Nat.reduceEqDiff,reduceIte,reduceCtorEq,c3])
 exact q.out):A:=h ⟨k⟩
theorem dh{F A B:Prop}(f:F)(k:B)(h:F->xw B->A:=by
 intro f q
 (repeat' first
 | assumption
 | exact Ext.refl _
 | refine Ext.trans ?_ Br
 | refine Q_ Aw ?_
 | refine _L Br ?_ rfl ?_
 | refine _C Br ?_ rfl ?_
 | refine _Q Br ?_ Aw rfl ?_
 | refine _R Br ?_ Aw rfl ?_
 | refine _S Br ?_ Aw rfl ?_
 | refine _V Aw ?_
 | refine _T (by first | assumption | omega) ?_
 | refine _U (by first | assumption | omega) ?_
 | refine _F Br ?_
 | refine _G Br ?_
 | simp -dsimp only[cV,cu,Nat.reduceAdd,Nat.reduceEqDiff,reduceIte,reduceCtorEq,c3,f])
 exact q.out):A:=h f ⟨k⟩
theorem qV{A B:Prop}(k:B)(h:xw B->A:=by
 intro q
 (repeat' first
 | assumption
 | exact Ext.refl _
 | refine Ext.trans ?_ Br
 | refine Q_ Aw ?_
 | refine _L Br ?_ rfl ?_
 | refine _C Br ?_ rfl ?_
 | refine _Q Br ?_ Aw rfl ?_
 | refine _R Br ?_ Aw rfl ?_
 | refine _S Br ?_ Aw rfl ?_
 | refine _V Aw ?_
 | refine _T (by first | assumption | omega) ?_
 | refine _U (by first | assumption | omega) ?_
 | refine _F Br ?_
 | refine _G Br ?_
 | simp -dsimp only[cV,Nat.reduceAdd,Nat.reduceEqDiff,reduceIte,reduceCtorEq,c3])
 exact q.out):A:=h ⟨k⟩
theorem b7{F A B:Prop}(f:F)(k:B)(h:F->xw B->A:=by
 intro f q;simp -dsimp only[cV,cu,Nat.reduceAdd,Nat.reduceEqDiff,reduceIte,reduceCtorEq,c3,f];exact q.out):A:=h f ⟨k⟩
def ve:C_ (Nat×B_)->Fr->Fr
 | [],S=>S
 | p :: r,S=>cb (ve r S) p.1 p.2
theorem w9(S:Fr):ve [] S=S:=eq_of_heq (HEq.refl _)
theorem w8(t:Nat)(v:B_)(r:C_ (Nat×B_))(S:Fr):ve ((t,v) :: r) S=cb (ve r S) t v:=eq_of_heq (HEq.refl _)
def Has(S:Fr):C_ (Nat×B_)->Prop
 | []=>True
 | p :: r=>S p.1=p.2/\Has S r
theorem wa(S:Fr):Has S []=True:=propext Iff.rfl
theorem v8(S:Fr)(t:Nat)(v:B_)(r:C_ (Nat×B_)):Has S ((t,v) :: r)=(S t=v/\Has S r):=propext Iff.rfl
theorem Gg{S:Fr}:∀L,Has S L->ve L S=S
 | [],_=>rfl
 | p :: r,h=>by
  show cb (ve r S) p.1 p.2=S;rw[Gg r h.2];exact jU S _ _ h.1
def uY(S:Fr):C_ Nat->Fr->Fr
 | [],aZ=>aZ
 | t :: r,aZ=>cb (uY S r aZ) t (S t)
theorem wM(S aZ:Fr):uY S [] aZ=aZ:=eq_of_heq (HEq.refl _)
theorem wL(S aZ:Fr)(t:Nat)(r:C_ Nat):uY S (t :: r) aZ=cb (uY S r aZ) t (S t):=eq_of_heq (HEq.refl _)
theorem Fy{S aZ:Fr}:∀cv:C_ Nat,(∀t∈cv,aZ t=S t)->uY S cv aZ=aZ
 | [],_=>rfl
 | t :: r,h=>by
  show cb (uY S r aZ) t (S t)=aZ;rw[Fy r fun u hu=>h u (by simp[hu])];exact jU aZ _ _ (h t Bh)
theorem a8{p:Prop}(h:p:=by first | trivial | rfl | exact⟨rfl,trivial⟩ | (simp -dsimp only[cV,w9,w8,wM,wL,wa,v8,Nat.reduceAdd,Nat.reduceEqDiff,reduceIte,and_self];done) | (simp -dsimp only[cV,w9,w8,wM,wL,wa,v8,Nat.reduceAdd,Nat.reduceEqDiff,reduceIte,and_self];exact⟨rfl,trivial⟩)):p:=h
theorem Lp{ds cv:C_ Nat}(h:(cv.all fun t => !ds.contains t)=true):∀t∈cv,ds.contains t=false:=fun t aA=>by
 have:=List.all_eq_true.1 h t aA
 simpa using this
theorem an1{p:Nat->Prop}:∀n,p n->∃m,p m/\∀k,p k->m<=k:=fun n=>by
 induction n using Nat.strongRecOn with
 | _ n fb =>
  intro h;by_cases hm:∃k,k<n/\p k
  .obtain⟨k,hk,aq⟩:=hm;exact fb k hk aq
  .exact⟨n,h,fun k hk=>Nat.le_of_not_lt fun b4=>hm ⟨k,b4,hk⟩⟩
noncomputable def least(p:Nat->Prop):Nat:=open Classical in if h:∃m,p m/\∀k,p k->m<=k then h.choose else 0
theorem abk{p:Nat->Prop}(h:∃n,p n):p (least p)/\∀k,p k->least p<=k:=by
 obtain⟨n,ax⟩:=h;have hm:=an1 n ax;unfold least;rw[dif_pos hm];exact hm.choose_spec
section
variable{P:Program}{Q:fy->Fr->World->Prop}{S:Fr}{w:World}
theorem L_{β:Type}{b:eR}{t}(i N:Nat)(cv:C_ Nat)(M:β->C_ (Nat×B_))(l7:β)(iS:Nat->β->A_->Prop)(P1:S i = .I 0)(aS:Has S (M l7))(ad:iS 0 l7 w)
  (aG:∀(k:Nat) x aZ w',k<=N->iS k x w' ->
   eQ P b (jh (fun fO bM=>k<N/\fO i = .I ((k:Int)+1)/\∃AJ,Has fO (M AJ)/\iS (k+1) AJ bM) Q ⟨⟩) (ve (M x) (cb (uY S cv aZ) i (.I k))) w' ⟨⟩)
  (a6:(cv.all fun t => !b.fQ.contains t)=true:=by rfl):AX P b Q S w t:=by
 refine _i i N (fun k S w => ∃x,Has S (M x)/\iS k x w) P1 ⟨l7,aS,ad⟩ ?_;rintro k aZ w' b3 hk U ⟨x,Ei,q7⟩;have h:=aG k x aZ w' hk q7;rw[Fy cv fun t aA=>b3 t (Lp a6 t aA),jU aZ i _ U,Gg _ Ei] at h;exact h
theorem S_{β:Type}{a b:eR}{t}(cv:C_ Nat)(M:β->C_ (Nat×B_))(N:β->A_->Prop)(h1:eQ P a (jh (fun fO bM => ∃x,Has fO (M x)/\N x bM) Q ⟨⟩) S w ⟨⟩)
  (I:∀x aZ w',N x w'->eQ P b Q (ve (M x) (uY S cv aZ)) w' ⟨⟩)(a6:(cv.all fun t => !a.fQ.contains t)=true:=by rfl):eQ P (.seq a b) Q S w t:=by
 refine _u _ h1 ?_;rintro aZ w' b3 ⟨x,aS,fI⟩;have h:=I x aZ w' fI;rw[Fy cv fun t aA=>b3 t (Lp a6 t aA),Gg _ aS] at h;exact h
theorem _P{β:Type}{b:eR}{t}(cv:C_ Nat)(M:β->C_ (Nat×B_))(l7:β)(iS:β->A_->Prop)(kv:β->Nat)(aS:Has S (M l7))(ad:iS l7 w)
  (aG:∀x aZ w',iS x w' ->
   eQ P b (jh (fun fO bM => ∃AJ,Has fO (M AJ)/\iS AJ bM/\kv AJ<kv x) Q ⟨⟩) (ve (M x) (uY S cv aZ)) w' ⟨⟩)
  (a6:(cv.all fun t => !b.fQ.contains t)=true:=by rfl):AX P b Q S w t:=by
 refine _A (fun S w => ∃x,Has S (M x)/\iS x w) (fun S w=>least fun n => ∃x,Has S (M x)/\iS x w/\kv x=n) ⟨l7,aS,ad⟩ ?_;rintro aZ w' b3 ⟨x,Ei,q7⟩;obtain⟨⟨y,h1,I,ab⟩,aE⟩:=abk (p:=fun n => ∃x,Has aZ (M x)/\iS x w'/\kv x=n) ⟨kv x,x,Ei,q7,rfl⟩;have h:=aG y aZ w' I;rw[Fy cv fun t aA=>b3 t (Lp a6 t aA),Gg _ h1] at h;unfold eQ jh at *;refine pU b _ _ aZ w' (fun e fO bM _ h=>?_) h
 match e,h with
 | .normal,⟨z,cq,cB,e5⟩ =>
  refine⟨⟨z,cq,cB⟩,?_⟩;have aY:=(abk (p:=fun n => ∃x,Has fO (M x)/\iS x bM/\kv x=n) ⟨kv z,z,cq,cB,rfl⟩).2 (kv z) ⟨z,cq,cB,rfl⟩;show least _<least _;rw[<-ab];omega
 | .exit _,h=>exact h
 | .ret,h=>exact h
 | .hj _,h=>exact h
end
end a7
end
section
namespace o
open Go
def letter(n:Int):Bool:=decide (97<=n/\n<=122\/65<=n/\n<=90)
def digit(n:Int):Bool:=decide (48<=n/\n<=57)
def part(n:Int):Bool:=letter n||digit n||decide (n=95)
def s4(s:ByteArray)(i:Nat):Nat:=(s.get! i).toNat
def run(p:Int->Bool)(s:ByteArray):Nat:=(s.data.toList.takeWhile fun b=>p b.toNat).length
theorem adK{α:Type}(p:α->Bool):∀(l:C_ α) (n:Nat) (h:n<l.length),(∀j (aC:j<n),p (l[j]' Aw)=true)->p l[n]=false->(l.takeWhile p).length=n
 | [],n,h,_,_=>by simp at h
 | x :: l,0,h,_,I=>by simp at I;simp[I]
 | x :: l,n+1,h,h1,I=>by
  have af:p x=true:=h1 0 Aw;rw[List.takeWhile_cons,if_pos af,AH0,adK p l n (by simpa using h) (fun j aC=>h1 (j+1) Aw) (by simpa using I)]
theorem adJ{α:Type}(p:α->Bool):∀(l:C_ α) (_:∀j (aC:j<l.length),p l[j]=true),(l.takeWhile p).length=l.length
 | [],_=>rfl
 | x :: l,h=>by
  have af:p x=true:=h 0 Bh;rw[List.takeWhile_cons,if_pos af,AH0,adJ p l (fun j aC=>h (j+1) (by simpa using aC)),AH0]
theorem adf(p:Int->Bool)(s:ByteArray)(n:Nat)(h:n<s.size)(h1:∀j (aC:j<n),p (s[j]' Aw).toNat=true)(I:p s[n].toNat=false):run p s=n :=
 adK (fun b:UInt8=>p b.toNat) s.data.toList n (by simpa using h) (fun j aC=>h1 j aC) I
theorem ac5(p:Int->Bool)(s:ByteArray)(h:∀j (aC:j<s.size),p s[j].toNat=true):run p s=s.size:=by
 have:=adJ (fun b:UInt8=>p b.toNat) s.data.toList (fun j aC=>h j (by simpa using aC))
 rw[run,this];simp
theorem ag4{p:Int->Bool}(aq:∀r:Int,128<=r->p r=false)(s:ByteArray)(pos:Nat)(h:pos<s.size) :
  p (Utf8.decode s pos).1=p s[pos].toNat/\(p s[pos].toNat=true->(Utf8.decode s pos).2=1):=by
 by_cases aU:s[pos].toNat<128
 .rw[decode_ascii s pos h aU];exact⟨rfl,fun _=>rfl⟩
 .have h1:=decode_high s pos h Aw;rw[aq _ Aw,aq _ Aw];exact⟨rfl,fun h=>by simp at h⟩
theorem anH(r:Int)(h:128<=r):letter r=false:=by simp[letter];omega
theorem aha(r:Int)(h:128<=r):digit r=false:=by simp[digit];omega
theorem apn(r:Int)(h:128<=r):part r=false:=by simp[part,anH r h,aha r h];omega
instance avi:LawfulBEq ByteArray where
 eq_of_beq {a b} h:=by rw[a7.DF] at h;exact of_decide_eq_true h
 rfl {a}:=by rw[a7.DF];exact decide_eq_true rfl
def rz:C_ ByteArray:=[⟨#[115,101,108,102]⟩,⟨#[110,111,110,101]⟩,⟨#[108,101,110]⟩,⟨#[97,116]⟩]
def isName(s:ByteArray):Bool:=decide (s.size≠0)&&decide (s.size<=16)&&letter (s4 s 0)&&decide (run part s=s.size) && !decide (s∈rz)
theorem aq3(p:Int->Bool)(s:ByteArray):run p s<=s.size:=by
 have:=(List.takeWhile_sublist (fun b:UInt8=>p b.toNat) (l:=s.data.toList)).length_le
 simpa[run] using this
theorem get_eq(s:ByteArray)(i:Nat)(h:i<s.size):s.get! i=s[i]:=by
 obtain⟨d⟩:=s;show d[i]! = d[i];exact getElem!_pos d i h
theorem get?_eq(s:ByteArray)(i:Nat)(h:i<s.size):s[i]? = some (s.get! i):=by rw[get_eq s i h];exact getElem?_pos s i h
structure Scalar where
 name:ByteArray
 size:Int
structure Var where
 name:ByteArray
 scalar:Int
 over:Int
 aQ:Int
 U:Int
 init:Int
structure dg where
 name:ByteArray
 scalar:Int
 cap:Int
 aQ:Int
 U:Int
 abt:Bool
def size(k:Int)(s:C_ Scalar):Int :=
 match s[(k - 1).toNat]? with
 | some x=>if 1<=k/\1<=x.size/\x.size<=4 then x.size else 0
 | none=>0
def narrow(aQ U:Int):Bool:=decide (-1048576<=aQ/\aQ<=U/\U<=1048576/\U - aQ<256)
def there(k:Int)(s:C_ Scalar):Bool:=decide (k=0\/size k s≠0)
def err(fL:Int)(fZ:Nat->ByteArray)(mo:Nat->Int)(i:Nat):Int :=
 if fL<=i then 11 else if isName (fZ i)=false then 6 else if ∃j,j<i/\fZ j=fZ i then 7 else mo i
def first(n:Nat)(e:Nat->Int):Int×Int:=match (List.range n).find? (fun i=>decide (e i≠0)) with | some i=>((i:Int),e i) | none=>(0,0)
theorem jr{n:Nat}{e:Nat->Int}{i:Nat}(U:i<n)(h1:∀j,j<i->e j=0)(I:e i≠0):first n e=((i:Int),e i):=by
 have:(List.range n).find? (fun i=>decide (e i≠0))=some i:=by
  rw[List.find?_range_eq_some];simp only[decide_eq_true_eq];exact⟨I,by simpa using U,fun j aC=>by simp[h1 j aC]⟩
 rw[first,this]
theorem py{n:Nat}{e:Nat->Int}(h:∀j,j<n->e j=0):first n e=(0,0):=by
 have:(List.range n).find? (fun i=>decide (e i≠0))=none:=by
  rw[List.find?_range_eq_none];intro j aC;simp[h j aC]
 rw[first,this]
theorem XT{n:Nat}{e e':Nat->Int}(h:∀j,j<n->e j=e' j):first n e=first n e':=by
 by_cases af:∃i,i<n/\e i≠0/\∀j,j<i->e j=0
 .obtain⟨i,U,h1,I⟩:=af;rw[jr U I h1,jr U (fun j aC=>by rw[<-h j Aw];exact I j aC) (by rw[<-h i U];exact h1),h i U]
 .have bw:∀j,j<n->e j=0:=by
   intro j
   induction j using Nat.strongRecOn with
   | _ j fb =>
    intro aC;by_cases ad:e j=0
    .exact ad
    .exact absurd ⟨j,aC,ad,fun k hk=>fb k hk Aw⟩ af
  rw[py bw,py fun j aC=>by rw[<-h j aC];exact bw j aC]
def nameAt{α:Type}(f:α->ByteArray)(l:C_ α)(i:Nat):ByteArray:=(l[i]?.map f).getD ⟨#[]⟩
def va(l:C_ Scalar)(i:Nat):Int:=match l[i]? with | some x=>if 1<=x.size/\x.size<=4 then 0 else 10 | none=>0
def scalars(l:C_ Scalar):Int×Int:=first l.length (err 2 (nameAt (·.name) l) (va l))
def bounds(v:Var)(s:C_ Scalar):Int×Int:=if v.scalar=0 then (v.aQ,v.U) else (0,size v.scalar s)
def cells(v:Var)(s:C_ Scalar):Int:=if v.over=0 then 1 else size v.over s
def pT(l:C_ Var)(s:C_ Scalar)(i:Nat):Int :=
 match l[i]? with
 | some v=>if there v.scalar s=false\/there v.over s=false then 8
  else if (v.scalar=0/\narrow v.aQ v.U=false)\/v.init<(bounds v s).1\/v.init > (bounds v s).2 then 10 else 0
 | none=>0
def vars(l:C_ Var)(s:C_ Scalar)(fL:Int):Int×Int:=first l.length (err (max fL 0) (nameAt (·.name) l) (pT l s))
def pw(l:C_ dg)(s:C_ Scalar)(i:Nat):Int :=
 match l[i]? with
 | some c=>if there c.scalar s=false then 8
  else if c.cap<1\/c.cap > 4\/(c.scalar=0/\narrow c.aQ c.U=false) then 10 else 0
 | none=>0
def ar(l:C_ dg)(s:C_ Scalar):Int×Int:=first l.length (err 4 (nameAt (·.name) l) (pw l s))
end o
end
section
namespace o
open Go Go.RowKit a7
def Scalar.enc(x:Scalar):C_ B_:=[.string x.name,.int .i64 x.size]
def Var.enc(x:Var):C_ B_:=[.string x.name,.int .i64 x.scalar,.int .i64 x.over,.int .i64 x.aQ,.int .i64 x.U,.int .i64 x.init]
def dg.enc(x:dg):C_ B_:=[.string x.name,.int .i64 x.scalar,.int .i64 x.cap,.int .i64 x.aQ,.int .i64 x.U,.bool x.abt]
def jB(s:ByteArray):Prop:=s.size<=9223372036854775807
instance avy(s:ByteArray):Decidable (jB s):=Nat.decLe _ _
structure jZ(w:World)(a:Addr)(x:Scalar):Prop where
 cells:e7 w a x.enc
 ok:jB x.name
structure qS(w:World)(a:Addr)(x:Var):Prop where
 cells:e7 w a x.enc
 ok:jB x.name
structure qR(w:World)(a:Addr)(x:dg):Prop where
 cells:e7 w a x.enc
 ok:jB x.name
theorem jZ.ext(w w':A_)(a:Addr)(x:Scalar)(he:Ext w w')(h:jZ w a x):jZ w' a x:=⟨h.cells.ext he,h.ok⟩
theorem qS.ext(w w':A_)(a:Addr)(x:Var)(he:Ext w w')(h:qS w a x):qS w' a x:=⟨h.cells.ext he,h.ok⟩
theorem qR.ext(w w':A_)(a:Addr)(x:dg)(he:Ext w w')(h:qR w a x):qR w' a x:=⟨h.cells.ext he,h.ok⟩
abbrev h5(w:A_)(v:B_)(l:C_ Scalar):Prop:=bg 2 jZ w v l
abbrev hR(w:A_)(v:B_)(l:C_ Var):Prop:=bg 6 qS w v l
abbrev mC(w:A_)(v:B_)(l:C_ dg):Prop:=bg 6 qR w v l
theorem hR.cm{w:A_}{b n:Nat}{e:F_}{f:Nat×Nat}{xs:C_ Var}(an:w.heap[b]? = some (.cells (xs.flatMap Var.enc).toArray e f))(ax:n=xs.length)(hm:xs.length<=maxLen)(c5:∀x∈xs,jB x.name) :
  hR w (.slice (some ⟨b,0,none⟩) n n) xs:=bg.cm (enc:=Var.enc) (fun _=>rfl) an ax hm fun _ x af ai=>⟨ai,c5 x af⟩
structure Node where
 op:Int
 n:Int
structure Act where
 kind:Int
 to:Int
 loc:Int
 index:List Node
 value:List Node
structure dr where
 name:ByteArray
 from_:Int
 to:Int
 guard:List Node
 bE:List Act
 fair:Bool
structure dw where
 name:ByteArray
 over:Int
 b2:Int
 vars:List Var
 cy:List dr
structure lL where
 name:ByteArray
 expr:List Node
structure Model where
 scalars:List Scalar
 vars:List Var
 ar:List dg
 procs:List dw
 props:List lL
structure cR where
 proc:Int
 elem:Int
deriving DecidableEq
structure Ref where
 inst:Int
 cmd:Int
deriving DecidableEq
def cR.enc(x:cR):C_ B_:=[.int .i64 x.proc,.int .i64 x.elem]
def Ref.enc(x:Ref):C_ B_:=[.int .i64 x.inst,.int .i64 x.cmd]
def Node.enc(x:Node):C_ B_:=[.int .i64 x.op,.int .i64 x.n]
def dP(n:Int):Prop := -9223372036854775808<=n/\n<=9223372036854775807
structure Node.ok(x:Node):Prop where
 op:dP x.op
 n:dP x.n
structure y7(w:World)(a:Addr)(x:Node):Prop where
 cells:e7 w a x.enc
 ok:x.ok
theorem y7.ext(w w':A_)(a:Addr)(x:Node)(he:Ext w w')(h:y7 w a x):y7 w' a x:=⟨h.cells.ext he,h.ok⟩
abbrev eL(w:A_)(v:B_)(l:C_ Node):Prop:=bg 2 y7 w v l
theorem eL.ext{w w':A_}{v:B_}{l:C_ Node}(he:Ext w w')(h:eL w v l):eL w' v l:=bg.ext y7.ext he h
def Act.enc(x:Act)(bH bV:B_):C_ B_:=[.int .i64 x.kind,.int .i64 x.to,.int .i64 x.loc,bH,bV]
def y3(w:A_)(a:Addr)(x:Act):Prop := ∃bH bV,e7 w a (x.enc bH bV)/\eL w bH x.index/\eL w bV x.value
theorem y3.ext(w w':A_)(a:Addr)(x:Act)(he:Ext w w')(h:y3 w a x):y3 w' a x:=let ⟨bH,bV,h1,I,ab⟩:=h; ⟨bH,bV,h1.ext he,I.ext he,ab.ext he⟩
abbrev lK(w:A_)(v:B_)(l:C_ Act):Prop:=bg 5 y3 w v l
theorem lK.ext{w w':A_}{v:B_}{l:C_ Act}(he:Ext w w')(h:lK w v l):lK w' v l:=bg.ext y3.ext he h
def dr.enc(x:dr)(e6 dn:B_):C_ B_:=[.string x.name,.int .i64 x.from_,.int .i64 x.to,e6,dn,.bool x.fair]
def y4(w:A_)(a:Addr)(x:dr):Prop:=jB x.name/\∃e6 dn,e7 w a (x.enc e6 dn)/\eL w e6 x.guard/\lK w dn x.bE
theorem y4.ext(w w':A_)(a:Addr)(x:dr)(he:Ext w w')(h:y4 w a x):y4 w' a x:=let ⟨ad,bH,bV,h1,I,ab⟩:=h; ⟨ad,bH,bV,h1.ext he,I.ext he,ab.ext he⟩
abbrev rO(w:A_)(v:B_)(l:C_ dr):Prop:=bg 6 y4 w v l
theorem rO.ext{w w':A_}{v:B_}{l:C_ dr}(he:Ext w w')(h:rO w v l):rO w' v l:=bg.ext y4.ext he h
theorem h5.ext{w w':A_}{v:B_}{l:C_ Scalar}(he:Ext w w')(h:h5 w v l):h5 w' v l:=bg.ext jZ.ext he h
theorem hR.ext{w w':A_}{v:B_}{l:C_ Var}(he:Ext w w')(h:hR w v l):hR w' v l:=bg.ext qS.ext he h
theorem mC.ext{w w':A_}{v:B_}{l:C_ dg}(he:Ext w w')(h:mC w v l):mC w' v l:=bg.ext qR.ext he h
def dw.enc(x:dw)(bV dL:B_):C_ B_:=[.string x.name,.int .i64 x.over,.int .i64 x.b2,bV,dL]
def A4(w:A_)(a:Addr)(x:dw):Prop:=jB x.name/\∃bV dL,e7 w a (x.enc bV dL)/\hR w bV x.vars/\rO w dL x.cy
theorem A4.ext(w w':A_)(a:Addr)(x:dw)(he:Ext w w')(h:A4 w a x):A4 w' a x:=let ⟨ad,bH,bV,h1,I,ab⟩:=h; ⟨ad,bH,bV,h1.ext he,I.ext he,ab.ext he⟩
abbrev qQ(w:A_)(v:B_)(l:C_ dw):Prop:=bg 5 A4 w v l
theorem qQ.ext{w w':A_}{v:B_}{l:C_ dw}(he:Ext w w')(h:qQ w v l):qQ w' v l:=bg.ext A4.ext he h
def AS(w:A_)(cs:C_ B_)(c:dr):Prop:=jB c.name/\∃e6 dn,cs=c.enc e6 dn/\eL w e6 c.guard/\lK w dn c.bE
theorem AS.ext{w w':A_}{cs:C_ B_}{c:dr}(he:Ext w w')(h:AS w cs c):AS w' cs c:=let ⟨ad,bH,bV,h1,I,ab⟩:=h; ⟨ad,bH,bV,h1,I.ext he,ab.ext he⟩
def xD(w:A_)(cs:C_ B_)(p:dw):Prop:=jB p.name/\∃bV dL,cs=p.enc bV dL/\hR w bV p.vars/\rO w dL p.cy
theorem xD.ext{w w':A_}{cs:C_ B_}{p:dw}(he:Ext w w')(h:xD w cs p):xD w' cs p:=let ⟨ad,bH,bV,h1,I,ab⟩:=h; ⟨ad,bH,bV,h1,I.ext he,ab.ext he⟩
def lL.enc(x:lL)(gQ:B_):C_ B_:=[.string x.name,gQ]
def A5(w:A_)(a:Addr)(x:lL):Prop:=jB x.name/\∃gQ,e7 w a (x.enc gQ)/\eL w gQ x.expr
theorem A5.ext(w w':A_)(a:Addr)(x:lL)(he:Ext w w')(h:A5 w a x):A5 w' a x:=let ⟨ad,bH,h1,I⟩:=h; ⟨ad,bH,h1.ext he,I.ext he⟩
abbrev A2(w:A_)(v:B_)(l:C_ lL):Prop:=bg 2 A5 w v l
theorem A2.ext{w w':A_}{v:B_}{l:C_ lL}(he:Ext w w')(h:A2 w v l):A2 w' v l:=bg.ext A5.ext he h
structure dU(w:World)(cs:List Value)(m:Model):Prop where
 ex:∃v0 v1 v2 v3 v4,cs=[v0,v1,v2,v3,v4]/\h5 w v0 m.scalars/\hR w v1 m.vars/\mC w v2 m.ar/\qQ w v3 m.procs/\A2 w v4 m.props
theorem dU.ext{w w':A_}{cs:C_ B_}{m:Model}(he:Ext w w')(h:dU w cs m):dU w' cs m :=
 let ⟨v0,v1,v2,v3,v4,e,ad,h1,I,ab,aE⟩:=h.ex
 ⟨v0,v1,v2,v3,v4,e,ad.ext he,h1.ext he,I.ext he,ab.ext he,aE.ext he⟩
instance avf:oI y7 Node.enc:=⟨fun _ _ _ h=>h.cells⟩
instance avg:oI jZ Scalar.enc:=⟨fun _ _ _ h=>h.cells⟩
instance avh:oI qS Var.enc:=⟨fun _ _ _ h=>h.cells⟩
instance avb:oI qR dg.enc:=⟨fun _ _ _ h=>h.cells⟩
end o
end
section
namespace a7
open Go Go.RowKit
section
variable{P:Program}{ba:Value->Prop}{w w0:World}
theorem _3{a:Addr}{cs:C_ B_}{j:Nat}{v:B_}{t}(h:e7 w0 a cs)(he:Ext w0 w)(aC:cs[j]? = some v)(hk:ba v):ue (.pointer (some (a.add j))) w ba t:=M_ (he.cell (h j v aC)) hk
theorem _4{a:Addr}{cs:C_ B_}{n:Nat}{t}(h:e7 w0 a cs)(he:Ext w0 w)(ax:cs.length=n)(hk:ba (.agg cs.toArray)):xA n (.pointer (some a)) w ba t:=Z_ (h.ext he) ax hk
end
theorem aa{A B:Prop}(k:B)(h:xw B->A:=by
 intro q
 (repeat' first
 | assumption
 | exact Ext.refl _
 | refine Ext.trans ?_ Br
 | simp -dsimp only[cV,cu,Nat.reduceAdd,Nat.reduceEqDiff,reduceIte,reduceCtorEq,c3,w9,w8,wM,wL,wa,v8,List.cons_append,List.nil_append]
 | refine Q_ Aw ?_
 | refine _L Br ?_ rfl ?_
 | refine _C Br ?_ rfl ?_
 | refine _V Aw ?_
 | refine _T (by first | assumption | omega) ?_
 | refine _U (by first | assumption | omega) ?_
 | refine _F Br ?_
 | refine _G Br ?_
 | refine _Q Br ?_ Aw rfl ?_
 | refine _R Br ?_ Aw rfl ?_
 | refine _S Br ?_ Aw rfl ?_
 | refine _3 Br ?_ rfl ?_
 | refine _4 Br ?_ rfl ?_
 | refine R_ Br ?_ rfl ?_
 | refine _M (fun _=>by (simp -dsimp only[cV,Nat.reduceAdd,Nat.reduceEqDiff,reduceIte,reduceCtorEq,c3]);rfl) rfl rfl (by first | assumption | (simp[Value.oneCell',o.cR.enc,o.Ref.enc,o.Node.enc,o.Scalar.enc,o.Var.enc,o.dg.enc,o.Act.enc,o.dr.enc,o.dw.enc,o.lL.enc];done)) ?_
 | refine O_ ?_
 | refine T_ Br rfl rfl (by first | assumption | (simp[Value.oneCell',o.cR.enc,o.Ref.enc,o.Node.enc,o.Scalar.enc,o.Var.enc,o.dg.enc,o.Act.enc,o.dr.enc,o.dw.enc,o.lL.enc];done)) ?_
 | refine _E Br (Nat.le_of_ble_eq_true rfl) rfl ?_
 | refine _W Br (Nat.le_of_ble_eq_true rfl) rfl ?_
 | refine Y_ (by (simp only[eZ,lay,n2,c0,bL,Value.cells,Nat.reduceAdd,Nat.reduceEqDiff,reduceIte,List.range,List.range.loop,List.map_cons,List.map_nil]);rfl) ?_
 | refine W_ (by (simp only[eZ,lay,n2,c0,bL,Value.cells,Nat.reduceAdd,Nat.reduceEqDiff,reduceIte]);rfl) ?_)
 exact q.out):A:=h ⟨k⟩
theorem dO{A B:Prop}(k:B)(h:xw B->A:=by
 intro q
 (repeat' first
 | assumption
 | exact Ext.refl _
 | refine Ext.trans ?_ Br
 | simp -dsimp only[cV,Nat.reduceAdd,Nat.reduceEqDiff,reduceIte,reduceCtorEq,c3,w9,w8,wM,wL,wa,v8,List.cons_append,List.nil_append]
 | refine Q_ Aw ?_
 | refine _L Br ?_ rfl ?_
 | refine _C Br ?_ rfl ?_
 | refine _V Aw ?_
 | refine _T (by first | assumption | omega) ?_
 | refine _U (by first | assumption | omega) ?_
 | refine _F Br ?_
 | refine _G Br ?_
 | refine _Q Br ?_ Aw rfl ?_
 | refine _R Br ?_ Aw rfl ?_
 | refine _S Br ?_ Aw rfl ?_
 | refine _3 Br ?_ rfl ?_
 | refine _4 Br ?_ rfl ?_
 | refine R_ Br ?_ rfl ?_
 | refine _M (fun _=>by (simp -dsimp only[cV,Nat.reduceAdd,Nat.reduceEqDiff,reduceIte,reduceCtorEq,c3]);rfl) rfl rfl (by first | assumption | (simp[Value.oneCell',o.cR.enc,o.Ref.enc,o.Node.enc,o.Scalar.enc,o.Var.enc,o.dg.enc,o.Act.enc,o.dr.enc,o.dw.enc,o.lL.enc];done)) ?_
 | refine O_ ?_
 | refine T_ Br rfl rfl (by first | assumption | (simp[Value.oneCell',o.cR.enc,o.Ref.enc,o.Node.enc,o.Scalar.enc,o.Var.enc,o.dg.enc,o.Act.enc,o.dr.enc,o.dw.enc,o.lL.enc];done)) ?_
 | refine _E Br (Nat.le_of_ble_eq_true rfl) rfl ?_
 | refine _W Br (Nat.le_of_ble_eq_true rfl) rfl ?_
 | refine Y_ (by (simp only[eZ,lay,n2,c0,bL,Value.cells,Nat.reduceAdd,Nat.reduceEqDiff,reduceIte,List.range,List.range.loop,List.map_cons,List.map_nil]);rfl) ?_
 | refine W_ (by (simp only[eZ,lay,n2,c0,bL,Value.cells,Nat.reduceAdd,Nat.reduceEqDiff,reduceIte]);rfl) ?_)
 exact q.out):A:=h ⟨k⟩
end a7
end