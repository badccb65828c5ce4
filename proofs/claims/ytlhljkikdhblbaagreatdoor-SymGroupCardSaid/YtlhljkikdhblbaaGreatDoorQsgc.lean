/- Parts. -/
import Derived.Test.YtlhljkikdhblbaaGreatDoorQsgb
import Derived.Lib.RuneCount
import Derived.Lib.TrimU
import Derived.RowKit
import Derived.ChangeSame
import Derived.Carry
import Derived.OpenShut
import Derived.Deep.Slices
import Derived.Deep.Fields
import Derived.Lib.LaidTab
import Derived.Laws.OwnMore
set_option linter.all false
namespace a8
open Go Go.RowKit
structure Tok{α:Type}(a:α):Type where
def fa(P:D_)(c:fg)(Q:fG->Fr->A_->Prop)(S:Fr)(w:A_)(_:Tok (P,c,Q)):Prop:=dI P c Q S w
def qW(P:D_)(a:C_ Step)(S:Fr)(w:A_)(K:Fr->A_->Prop)(_:Tok (P,a,K)):Prop:=steps P a S w K
def sN(P:D_)(a:C_ Step)(S:Fr)(w:A_)(K:Fr->Prop)(_:Tok (P,a,K)):Prop:=u5 P a S w K
def lO(P:D_)(w0:A_)(x:e5)(S:Fr)(w:A_)(K:Fr->A_->Prop)(_:Tok (P,w0,x,K)):Prop:=oc P w0 x S w K
def ON(P:D_)(w0:A_)(s:Step)(S:Fr)(K:Fr->Prop)(_:Tok (P,w0,s,K)):Prop:=Ix P w0 s S K
def Dl(P:D_)(s:Step)(S:Fr)(w:A_)(K:Fr->A_->Prop)(_:Tok (P,s,K)):Prop:=mu P s S w K
def CV(P:D_)(w0:A_)(s:Step)(S:Fr)(w:A_)(K:Fr->A_->Prop)(_:Tok (P,w0,s,K)):Prop:=Fx P w0 s S w K
def As(P:D_)(i:lu)(S:Fr)(w:A_)(K:B_->A_->Prop)(_:Tok (P,i,K)):Prop:=lq P i S w K
def wP(P:D_)(i:lu)(S:Fr)(w:A_)(K:B_->A_->Prop)(_:Tok (P,i,K)):Prop:=lr P i S w K
def E3(P:D_)(i:r0)(S:Fr)(w:A_)(K:B_->A_->Prop)(_:Tok (P,i,K)):Prop:=WT P i S w K
def CB(P:D_)(x:B_)(l:C_ B_)(w:A_)(K:B_->A_->Prop)(_:Tok (P,K)):Prop:=WU P x l w K
def yO(P:D_)(i:lu)(S:Fr)(w:A_)(K:B_->Prop)(_:Tok (P,i,K)):Prop:=nj P i S w K
def Fl(P:D_)(i:r0)(S:Fr)(w:A_)(K:B_->Prop)(_:Tok (P,i,K)):Prop:=aje P i S w K
def PO(P:D_)(f:E_)(l:C_ B_)(w:A_)(K:B_->Prop)(_:Tok (P,f,K)):Prop:=Yv P f l w K
def Jc(P:D_)(x:B_)(l:C_ B_)(w:A_)(K:B_->Prop)(_:Tok (P,K)):Prop:=ajg P x l w K
def jL(P:D_)(i:yM)(S:Fr)(K:B_->Prop)(_:Tok (P,i,K)):Prop:=qn P i S K
def yQ(i:wR)(S:Fr)(w:A_)(K:B_->Prop)(_:Tok (i,K)):Prop:=oZ i S w K
def qh(P:D_)(i:tO)(S:Fr)(w:A_)(K:B_->A_->Prop)(_:Tok (P,i,K)):Prop:=oW P i S w K
def E2(P:D_)(i:r0)(S:Fr)(w:A_)(K:B_->A_->Prop)(_:Tok (P,i,K)):Prop:=sW P i S w K
def h4(P:D_)(op:BinOp)(t:F_)(a:G_)(b:G_)(x:B_)(y:B_)(K:B_->Prop)(_:Tok (P,op,t,a,b,K)):Prop:=oV P op t a b x y K
def Jg(op:UnOp)(x:B_)(K:B_->Prop)(_:Tok (op,K)):Prop:=CQ op x K
def Pf(k:IntKind)(x:B_)(K:B_->Prop)(_:Tok (k,K)):Prop:=IT k x K
def vu(k:IntKind)(n:Int)(K:B_->Prop)(_:Tok (k,K)):Prop:=tV k n K
def qg(v:B_)(A:Prop)(B:Prop)(_:Tok (A,B)):Prop:=nN v A B
def r1(v:B_)(b:Bool)(A:Prop)(B:Prop)(C:Prop)(_:Tok (b,A,B,C)):Prop:=mM v b A B C
def Po(off:Nat)(x:B_)(K:B_->Prop)(_:Tok (off,K)):Prop:=IZ off x K
def Fc(sz:Nat)(x:B_)(i:B_)(K:B_->Prop)(_:Tok (sz,K)):Prop:=I2 sz x i K
def Pt(len:Nat)(sz:Nat)(x:B_)(i:B_)(K:B_->Prop)(_:Tok (len,sz,K)):Prop:=Ps len sz x i K
def Px(x:B_)(i:B_)(K:B_->Prop)(_:Tok (K)):Prop:=Pw x i K
def Pv(len:Nat)(x:B_)(i:B_)(K:B_->Prop)(_:Tok (len,K)):Prop:=Pu len x i K
def Pr(off:Nat)(x:B_)(K:B_->Prop)(_:Tok (off,K)):Prop:=Pq off x K
def Pp(off:Nat)(n:Nat)(x:B_)(K:B_->Prop)(_:Tok (off,n,K)):Prop:=I0 off n x K
def Pd(S:Fr)(a:C_ B_)(b:C_ (Nat×Nat))(c:C_ (Nat×G_))(K:B_->Prop)(_:Tok (a,b,c,K)):Prop:=Pc S a b c K
def s0(S:Fr)(sz:Nat)(x:B_)(a:H_ G_)(b:H_ G_)(mx:H_ G_)(K:B_->Prop)(_:Tok (sz,a,b,mx,K)):Prop:=PU S sz x a b mx K
def PT(S:Fr)(x:B_)(a:H_ G_)(b:H_ G_)(K:B_->Prop)(_:Tok (a,b,K)):Prop:=PS S x a b K
def Fb(x:B_)(i:Nat)(K:B_->Prop)(_:Tok (i,K)):Prop:=yG x i K
def PB(x:B_)(K:B_->Prop)(_:Tok (K)):Prop:=I5 x K
def Py(x:B_)(K:B_->Prop)(_:Tok (K)):Prop:=Ff x K
def Pe(x:B_)(K:B_->Prop)(_:Tok (K)):Prop:=IQ x K
def PE(x:B_)(y:B_)(K:B_->Prop)(_:Tok (K)):Prop:=I7 x y K
def PF(x:B_)(y:B_)(K:B_->Prop)(_:Tok (K)):Prop:=I8 x y K
def Ja(x:B_)(K:B_->Prop)(_:Tok (K)):Prop:=Ax x K
def tR(x:B_)(w:A_)(K:B_->Prop)(_:Tok (K)):Prop:=I4 x w K
def yK(n:Nat)(x:B_)(w:A_)(K:B_->Prop)(_:Tok (n,K)):Prop:=Fe n x w K
def I6(d:TypeDesc)(a:B_)(b:Bool)(m:B_)(k:B_)(w:A_)(K:B_->Prop)(_:Tok (d,a,b,K)):Prop:=PC d a b m k w K
def PA(m:B_)(w:A_)(K:B_->Prop)(_:Tok (K)):Prop:=Pz m w K
def vr(x:B_)(v:B_)(w:A_)(K:A_->Prop)(_:Tok (K)):Prop:=AF x v w K
def Fq(n:Nat)(x:B_)(v:B_)(w:A_)(K:A_->Prop)(_:Tok (n,K)):Prop:=CP n x v w K
def Fg(e:F_)(sz:Nat)(b:Nat)(a:B_)(l:B_)(c:B_)(w:A_)(K:B_->A_->Prop)(_:Tok (e,sz,b,a,K)):Prop:=PG e sz b a l c w K
def IL(S:Fr)(e:F_)(len:Nat)(sz:Nat)(a:C_ B_)(b:C_ (Nat×G_))(w:A_)(K:B_->A_->Prop)(_:Tok (e,len,sz,a,b,K)):Prop:=Cy S e len sz a b w K
def lQ(P:D_)(t:F_)(e:F_)(sz:Nat)(b:Nat)(s:B_)(x:B_)(w:A_)(K:B_->A_->Prop)(_:Tok (P,t,e,sz,b,K)):Prop:=Ar P t e sz b s x w K
def Fh(d:TypeDesc)(m:B_)(k:B_)(v:B_)(w:A_)(K:A_->Prop)(_:Tok (d,K)):Prop:=PH d m k v w K
def PL(x:B_)(w:A_)(K:B_->A_->Prop)(_:Tok (K)):Prop:=PK x w K
def PR(x:B_)(w:A_)(K:B_->A_->Prop)(_:Tok (K)):Prop:=YH x w K
def wS(P:D_)(op:Op)(a:F_)(S:Fr)(w:A_)(K:B_->A_->Prop)(_:Tok (P,op,a,K)):Prop:=YF P op a S w K
def IP(P:D_)(f:E_)(l:C_ B_)(w:A_)(K:B_->A_->Prop)(_:Tok (P,f,K)):Prop:=IN P f l w K
def PV(P:D_)(f:E_)(l:C_ B_)(w:A_)(K:B_->A_->Prop)(a:C_ PanicEntry->A_->Prop)(_:Tok (P,f,K,a)):Prop:=AG P f l w K a
def Cz(P:D_)(x:B_)(m:String)(l:C_ B_)(w:A_)(K:B_->A_->Prop)(_:Tok (P,m,K)):Prop:=E4 P x m l w K
def Yw(P:D_)(x:B_)(m:String)(l:C_ B_)(w:A_)(K:B_->Prop)(_:Tok (P,m,K)):Prop:=ajf P x m l w K
def PN(v:B_)(a:C_ PanicEntry->Prop)(_:Tok (a)):Prop:=wQ v a
def yA(P:D_)(x:B_)(l:C_ B_)(w:A_)(K:B_->A_->Prop)(_:Tok (P,K)):Prop:=CA P x l w K
def Fi(t:F_)(cs:Array B_)(w:A_)(K:B_->A_->Prop)(_:Tok (t,K)):Prop:=ai9 t cs w K
def PI(w:A_)(K:B_->A_->Prop)(_:Tok (K)):Prop:=ai8 w K
def CI(P:D_)(b:fg)(Q:fG->Fr->A_->Prop)(S:Fr)(w:A_)(_:Tok (P,b,Q)):Prop:=XQ P b Q S w
def oR(r:C_ nP)(S:Fr)(w:A_)(K:C_ B_->Prop)(_:Tok (r,K)):Prop:=qT r S w K
def j4(a:Fr->A_->Prop)(Q:fG->Fr->A_->Prop)(_:Tok (a,Q)):fG->Fr->A_->Prop:=yp a Q
def w4(i:Nat)(Q:fG->Fr->A_->Prop)(_:Tok (i,Q)):fG->Fr->A_->Prop:=AM i Q
def um(r:C_ nP)(R:B_->A_->Prop)(_:Tok (r,R)):fG->Fr->A_->Prop:=F5 r R
def Df(r:C_ nP)(R:B_->A_->Prop)(a:C_ PanicEntry->A_->Prop)(_:Tok (r,R,a)):fG->Fr->A_->Prop:=aa6 r R a
section
variable{P:Program}{Q:fG->Fr->World->Prop}{N gA:Fr->World->Prop}{q9:Fr->Prop}{a9:Value->Prop}{K:Value->World->Prop}{yI:List Value->Prop}{R:Value->World->Prop}{Z:List PanicEntry->World->Prop}{PX:List PanicEntry->Prop}{S:Fr}{w:World}{A B C:Prop}
set_option linter.unusedVariables false
theorem Wo  {t}:fa P .skip Q S w t=Q .normal S w:=propext Iff.rfl
theorem Wp  {a}{t}:fa P (.cN a) Q S w t=qW P a S w (λS w=>Q .normal S w) ⟨⟩:=propext Iff.rfl
theorem Wq  {a}{t}:fa P (.si a) Q S w t=sN P a S w (λS => ∀b,Ext w b->Q .normal S b) ⟨⟩:=propext Iff.rfl
theorem Wr  {x}{t}:fa P (.p7 x) Q S w t=(∀a,Ext w a->lO P a x S a (λS w=>Q .normal S w) ⟨⟩):=propext Iff.rfl
theorem Ws  {w0}{t}:lO P w0 .done S w gA t=gA S w:=propext Iff.rfl
theorem Wt  {w0}{t}:lO P w0 .nil S w gA t=True:=propext Iff.rfl
theorem Wu  {w0 s r}{t}:lO P w0 (.take s r) S w gA t=ON P w0 s S (λS=>lO P w0 r S w gA ⟨⟩) ⟨⟩:=propext Iff.rfl
theorem Wv  {w0 s r}{t}:lO P w0 (.alt s r .nil) S w gA t=CV P w0 s S w (λS w=>lO P w0 r S w gA ⟨⟩) ⟨⟩:=and_true _
theorem Ww  {w0 s r a b c}{t}:lO P w0 (.alt s r (.alt a b c)) S w gA t=(CV P w0 s S w (λS w=>lO P w0 r S w gA ⟨⟩) ⟨⟩/\lO P w0 (.alt a b c) S w gA ⟨⟩):=propext Iff.rfl
theorem Wx  {w0 s r a b c}{t}:lO P w0 (.alt s r (.gv a b c)) S w gA t=(CV P w0 s S w (λS w=>lO P w0 r S w gA ⟨⟩) ⟨⟩/\lO P w0 (.gv a b c) S w gA ⟨⟩):=propext Iff.rfl
theorem Wz  {w0 s r}{t}:lO P w0 (.gv s r .nil) S w gA t=Dl P s S w (λS w=>lO P w0 r S w gA ⟨⟩) ⟨⟩:=and_true _
theorem B1  {w0 s r a b c}{t}:lO P w0 (.gv s r (.alt a b c)) S w gA t=(Dl P s S w (λS w=>lO P w0 r S w gA ⟨⟩) ⟨⟩/\lO P w0 (.alt a b c) S w gA ⟨⟩):=propext Iff.rfl
theorem WA  {w0 s r a b c}{t}:lO P w0 (.gv s r (.gv a b c)) S w gA t=(Dl P s S w (λS w=>lO P w0 r S w gA ⟨⟩) ⟨⟩/\lO P w0 (.gv a b c) S w gA ⟨⟩):=propext Iff.rfl
theorem WB  {d i}{t}:Dl P ⟨d,none,i⟩ S w gA t=wP P i S w (λa b=>gA (put S d a) b) ⟨⟩:=propext Iff.rfl
theorem WC  {d j b i}{t}:Dl P ⟨d,some (j,b),i⟩ S w gA t=r1 (S j) b (wP P i (cz S j (.bool b)) w (λa c=>gA (put (cz S j (.bool b)) d a) c) ⟨⟩) (gA (put (cz S j (.bool (!b))) d undef) w) (gA (put S d undef) w) ⟨⟩:=propext Iff.rfl
theorem WD  {w0 d i}{t}:ON P w0 ⟨d,none,i⟩ S q9 t=yO P i S w0 (λa=>q9 (put S d a)) ⟨⟩:=propext Iff.rfl
theorem WE  {w0 d j b i}{t}:ON P w0 ⟨d,some (j,b),i⟩ S q9 t=r1 (S j) b (yO P i (cz S j (.bool b)) w0 (λa=>q9 (put (cz S j (.bool b)) d a)) ⟨⟩) (q9 (put (cz S j (.bool (!b))) d undef)) (q9 (put S d undef)) ⟨⟩:=propext Iff.rfl
theorem WG  {w0 d i}{t}:CV P w0 ⟨d,none,i⟩ S w gA t=As P i S w (λb a=>Ext w0 a/\gA (put S d b) a) ⟨⟩:=propext Iff.rfl
theorem WH  {w0 d j b i}{t}:CV P w0 ⟨d,some (j,b),i⟩ S w gA t=r1 (S j) b (As P i (cz S j (.bool b)) w (λc a=>Ext w0 a/\gA (put (cz S j (.bool b)) d c) a) ⟨⟩) (gA (put (cz S j (.bool (!b))) d undef) w) (gA (put S d undef) w) ⟨⟩:=propext Iff.rfl
theorem cA  {a b}{t}:fa P (.seq a b) Q S w t=fa P a (j4 (λS w=>fa P b Q S w ⟨⟩) Q ⟨⟩) S w ⟨⟩:=propext Iff.rfl
theorem WI  {c x y}{t}:fa P (.cond c x y) Q S w t=qg (bq S c) (fa P x Q S w ⟨⟩) (fa P y Q S w ⟨⟩) ⟨⟩:=propext Iff.rfl
theorem WJ  {a b}{t}:fa P (.b0 a b) Q S w t=fa P b (w4 a Q ⟨⟩) S w ⟨⟩:=propext Iff.rfl
theorem WK  {a}{t}:fa P (.exit a) Q S w t=Q (.exit a) S w:=propext Iff.rfl
theorem WL  {t}:fa P .ret Q S w t=Q .ret S w:=propext Iff.rfl
theorem WM  {b d f l}{t}:fa P (.fS b d f l) Q S w t=qW P b S w (λS w=>PV P f (l.map (bq S)) w (λc a=>Q .normal (put S d c) a) (λe a=>Q (.ib e) S a) ⟨⟩) ⟨⟩:=propext Iff.rfl
theorem WN  {a x}{t}:fa P (.u4 a x) Q S w t=qW P a S w (λS w=>PN (bq S x) (λb=>Q (.ib b) S w) ⟨⟩) ⟨⟩:=propext Iff.rfl
theorem WO  {i:F_}{v:B_}{t}:PN (.iface i v) PX t=PX [{ v:=.iface i v,recovered:=false }]:=a8.avp i v PX
theorem WQ  {c}{t}:j4 N Q t (.ib c) S w=Q (.ib c) S w:=propext Iff.rfl
theorem WR{i}{c}{t}:w4 i Q t (.ib c) S w=Q (.ib c) S w:=propext Iff.rfl
theorem WS{r}{t}:Df r R Z t .normal S w=oR r S w (λa=>R (j5 a) w) ⟨⟩:=propext Iff.rfl
theorem WV{r}{t}:Df r R Z t .ret S w=oR r S w (λa=>R (j5 a) w) ⟨⟩:=propext Iff.rfl
theorem WW{r}{c}{t}:Df r R Z t (.ib c) S w=Z c w:=propext Iff.rfl
theorem WX  {b}{t}:fa P (.loop b) Q S w t=CI P b Q S w ⟨⟩:=propext Iff.rfl
theorem WY  {t}:j4 N Q t .normal S w=N S w:=propext Iff.rfl
theorem WZ  {i}{t}:j4 N Q t (.exit i) S w=Q (.exit i) S w:=propext Iff.rfl
theorem W0  {t}:j4 N Q t .ret S w=Q .ret S w:=propext Iff.rfl
theorem W1{i}{t}:w4 i Q t .normal S w=Q .normal S w:=propext Iff.rfl
theorem W2{i}{t}:w4 i Q t .ret S w=Q .ret S w:=propext Iff.rfl
theorem W3{i}{j}{t}:w4 i Q t (.exit j) S w=if j=i then Q .normal S w else Q (.exit j) S w:=propext Iff.rfl
theorem W4{r}{t}:um r R t .normal S w=oR r S w (λa=>R (j5 a) w) ⟨⟩:=propext Iff.rfl
theorem W7{r}{t}:um r R t .ret S w=oR r S w (λa=>R (j5 a) w) ⟨⟩:=propext Iff.rfl
theorem W8  {t}:qW P [] S w gA t=gA S w:=propext Iff.rfl
theorem dm  {d i r}{t}:qW P (⟨d,none,i⟩ :: r) S w gA t=wP P i S w (λa b=>qW P r (put S d a) b gA ⟨⟩) ⟨⟩:=propext Iff.rfl
theorem g7  {d j b i r}{t}:qW P (⟨d,some (j,b),i⟩ :: r) S w gA t=r1 (S j) b (wP P i (cz S j (.bool b)) w (λa c=>qW P r (put (cz S j (.bool b)) d a) c gA ⟨⟩) ⟨⟩) (qW P r (put (cz S j (.bool (!b))) d undef) w gA ⟨⟩) (qW P r (put S d undef) w gA ⟨⟩) ⟨⟩:=propext Iff.rfl
theorem dO  {t}:sN P [] S w q9 t=q9 S:=propext Iff.rfl
theorem hg  {d i r}{t}:sN P (⟨d,none,i⟩ :: r) S w q9 t=yO P i S w (λa=>sN P r (put S d a) w q9 ⟨⟩) ⟨⟩:=propext Iff.rfl
theorem ks  {d j b i r}{t}:sN P (⟨d,some (j,b),i⟩ :: r) S w q9 t=r1 (S j) b (yO P i (cz S j (.bool b)) w (λa=>sN P r (put (cz S j (.bool b)) d a) w q9 ⟨⟩) ⟨⟩) (sN P r (put (cz S j (.bool (!b))) d undef) w q9 ⟨⟩) (sN P r (put S d undef) w q9 ⟨⟩) ⟨⟩:=propext Iff.rfl
theorem hh  {i}{t}:As P (.p i) S w K t=jL P i S (λa=>K a w) ⟨⟩:=propext Iff.rfl
theorem jc  {i}{t}:As P (.r i) S w K t=yQ i S w (λa=>K a w) ⟨⟩:=propext Iff.rfl
theorem fT  {i}{t}:As P (.e i) S w K t=qh P i S w K ⟨⟩:=propext Iff.rfl
theorem Xb  {i}{t}:As P (.c i) S w K t=E2 P i S w K ⟨⟩:=propext Iff.rfl
theorem Xc  {i}{t}:wP P (.p i) S w K t=jL P i S (λa=>K a w) ⟨⟩:=propext Iff.rfl
theorem Xd  {i}{t}:wP P (.r i) S w K t=yQ i S w (λa=>K a w) ⟨⟩:=propext Iff.rfl
theorem Xe  {i}{t}:wP P (.e i) S w K t=qh P i S w K ⟨⟩:=propext Iff.rfl
theorem Xf  {i}{t}:wP P (.c i) S w K t=E3 P i S w K ⟨⟩:=propext Iff.rfl
theorem Xg  {i}{t}:yO P (.p i) S w a9 t=jL P i S a9 ⟨⟩:=propext Iff.rfl
theorem Xh  {i}{t}:yO P (.r i) S w a9 t=yQ i S w a9 ⟨⟩:=propext Iff.rfl
theorem Xi  {i}{t}:yO P (.c i) S w a9 t=Fl P i S w a9 ⟨⟩:=propext Iff.rfl
theorem Xj  {f l}{t}:Fl P (.fn f l) S w a9 t=PO P f (l.map (bq S)) w a9 ⟨⟩:=propext Iff.rfl
theorem Xk  {x m l}{t}:Fl P (.inv x m l) S w a9 t=Yw P (bq S x) m (l.map (bq S)) w a9 ⟨⟩:=propext Iff.rfl
theorem Xl  {x l}{t}:Fl P (.val x l) S w a9 t=Jc P (bq S x) (l.map (bq S)) w a9 ⟨⟩:=propext Iff.rfl
theorem H1  {t}:r1 (.bool true) true A B C t=A:=a8.abL A B C
theorem Xm  {t}:r1 (.bool true) false A B C t=B:=a8.anF A B C
theorem Xn  {t}:r1 (.bool false) true A B C t=B:=a8.anE A B C
theorem Xo  {t}:r1 (.bool false) false A B C t=A:=a8.anD A B C
theorem Xp  (a:Bool){t}:r1 undef a A B C t=C:=a8.anG a A B C
theorem Xq  (a:Bool){t}:r1 (.bool a) true A B C t=qg (.bool a) A B ⟨⟩:=(a8.abK a true A B C).trans (by rfl)
theorem Xr  (a:Bool){t}:r1 (.bool a) false A B C t=qg (.bool a) B A ⟨⟩:=(a8.abK a false A B C).trans (by rfl)
theorem Xs  {t}:qg (.bool true) A B t=A:=akJ A B
theorem Xt  {t}:qg (.bool false) A B t=B:=akH A B
theorem Xu  (a:Bool){t}:qg (.bool (!a)) A B t=qg (.bool a) B A ⟨⟩:=akI a A B
theorem Xv  {x}{t}:jL P (.ps x) S a9 t=a9 (bq S x):=propext Iff.rfl
theorem Xw  {c x y}{t}:jL P (.pick c x y) S a9 t=qg (bq S c) (a9 (bq S x)) (a9 (bq S y)) ⟨⟩:=propext Iff.rfl
theorem Xx  {op a x y}{t}:jL P (.bin op a x y) S a9 t=h4 P op a x y (bq S x) (bq S y) a9 ⟨⟩:=propext Iff.rfl
theorem Xy  {op x}{t}:jL P (.un op x) S a9 t=Jg op (bq S x) a9 ⟨⟩:=propext Iff.rfl
theorem Xz  {k x}{t}:jL P (.Da k x) S a9 t=Pf k (bq S x) a9 ⟨⟩:=propext Iff.rfl
theorem XA  {n x}{t}:jL P (.mr n x) S a9 t=Po n (bq S x) a9 ⟨⟩:=propext Iff.rfl
theorem XB  {n x y}{t}:jL P (.ph n x y) S a9 t=Fc n (bq S x) (bq S y) a9 ⟨⟩:=propext Iff.rfl
theorem XC  {m n x y}{t}:jL P (.qL m n x y) S a9 t=Pt m n (bq S x) (bq S y) a9 ⟨⟩:=propext Iff.rfl
theorem XD  {x y}{t}:jL P (.n8 x y) S a9 t=Px (bq S x) (bq S y) a9 ⟨⟩:=propext Iff.rfl
theorem XF  {n x y}{t}:jL P (.BP n x y) S a9 t=Pv n (bq S x) (bq S y) a9 ⟨⟩:=propext Iff.rfl
theorem XG  {n x}{t}:jL P (.sm n x) S a9 t=Pr n (bq S x) a9 ⟨⟩:=propext Iff.rfl
theorem XH  {n m x}{t}:jL P (.Gd n m x) S a9 t=Pp n m (bq S x) a9 ⟨⟩:=propext Iff.rfl
theorem XI  {a b c}{t}:jL P (.hL a b c) S a9 t=Pd S a b c a9 ⟨⟩:=propext Iff.rfl
theorem XJ  {f a b}{t}:jL P (.z1 f a b) S a9 t=a9 (.func (.func f) (a.map (bq S)).toArray (b.map (bq S)).toArray):=propext Iff.rfl
theorem XK  {n x a b mx}{t}:jL P (.kG n x a b mx) S a9 t=s0 S n (bq S x) a b mx a9 ⟨⟩:=propext Iff.rfl
theorem XL  {x a b}{t}:jL P (.Ch x a b) S a9 t=PT S (bq S x) a b a9 ⟨⟩:=propext Iff.rfl
theorem XM  {x n}{t}:jL P (.ext x n) S a9 t=Fb (bq S x) n a9 ⟨⟩:=propext Iff.rfl
theorem XN  {x}{t}:jL P (.qN x) S a9 t=PB (bq S x) a9 ⟨⟩:=propext Iff.rfl
theorem XO  {x}{t}:jL P (.D6 x) S a9 t=Py (bq S x) a9 ⟨⟩:=propext Iff.rfl
theorem XR  {x}{t}:jL P (.Jw x) S a9 t=Pe (bq S x) a9 ⟨⟩:=propext Iff.rfl
theorem XS  {v}{t}:jL P (.Mf v) S a9 t=a9 v:=propext Iff.rfl
theorem M2  {x y}{t}:jL P (.x5 x y) S a9 t=PE (bq S x) (bq S y) a9 ⟨⟩:=propext Iff.rfl
theorem XT  {x y}{t}:jL P (.z0 x y) S a9 t=PF (bq S x) (bq S y) a9 ⟨⟩:=propext Iff.rfl
theorem XU  {n x}{t}:jL P (.Ee n x) S a9 t=a9 (.iface n (bq S x)):=propext Iff.rfl
theorem XV  {x}{t}:jL P (.sK x) S a9 t=Ja (bq S x) a9 ⟨⟩:=propext Iff.rfl
theorem XW  {x}{t}:yQ (.ck x) S w a9 t=tR (bq S x) w a9 ⟨⟩:=propext Iff.rfl
theorem XX  {n x}{t}:yQ (.lk n x) S w a9 t=yK n (bq S x) w a9 ⟨⟩:=propext Iff.rfl
theorem XY  {d a b m k}{t}:yQ (.qO d a b m k) S w a9 t=I6 d a b (bq S m) (bq S k) w a9 ⟨⟩:=propext Iff.rfl
theorem XZ  {x}{t}:yQ (.D7 x) S w a9 t=PA (bq S x) w a9 ⟨⟩:=propext Iff.rfl
theorem X1  {n x}{t}:qh P (.box n x) S w K t=Fi n (bq S x).cells w K ⟨⟩:=propext Iff.rfl
theorem X2  {n a}{t}:qh P (.new n a) S w K t=Fi n a.cells w K ⟨⟩:=propext Iff.rfl
theorem X3  {x v}{t}:qh P (.st x v) S w K t=vr (bq S x) (bq S v) w (K undef) ⟨⟩:=propext Iff.rfl
theorem X4  {n x v}{t}:qh P (.mJ n x v) S w K t=Fq n (bq S x) (bq S v) w (K undef) ⟨⟩:=propext Iff.rfl
theorem X5  {t}:qh P .z2 S w K t=PI w K ⟨⟩:=propext Iff.rfl
theorem X6  {e n b a l c}{t}:qh P (.z4 e n b a l c) S w K t=Fg e n b a (bq S l) (bq S c) w K ⟨⟩:=propext Iff.rfl
theorem X7  {e l n a b}{t}:qh P (.hj e l n a b) S w K t=IL S e l n a b w K ⟨⟩:=propext Iff.rfl
theorem X8  {a e n b s x}{t}:qh P (.app a e n b s x) S w K t=lQ P a e n b (bq S s) (bq S x) w K ⟨⟩:=propext Iff.rfl
theorem X9  {d m k v}{t}:qh P (.lM d m k v) S w K t=Fh d (bq S m) (bq S k) (bq S v) w (K undef) ⟨⟩:=propext Iff.rfl
theorem Ya  {x}{t}:qh P (.Cc x) S w K t=PR (bq S x) w K ⟨⟩:=propext Iff.rfl
theorem Yb  {x}{t}:qh P (.B3 x) S w K t=PL (bq S x) w K ⟨⟩:=propext Iff.rfl
theorem Yc  {op a}{t}:qh P (.raw op a) S w K t=wS P op a S w K ⟨⟩:=propext Iff.rfl
theorem Yd  {f l}{t}:E2 P (.fn f l) S w K t=IP P f (l.map (bq S)) w K ⟨⟩:=propext Iff.rfl
theorem Ye  {x m l}{t}:E2 P (.inv x m l) S w K t=Cz P (bq S x) m (l.map (bq S)) w K ⟨⟩:=propext Iff.rfl
theorem Yf  {x l}{t}:E2 P (.val x l) S w K t=yA P (bq S x) (l.map (bq S)) w K ⟨⟩:=propext Iff.rfl
theorem Yg  {f l}{t}:E3 P (.fn f l) S w K t=IP P f (l.map (bq S)) w K ⟨⟩:=propext Iff.rfl
theorem Yh  {x m l}{t}:E3 P (.inv x m l) S w K t=Cz P (bq S x) m (l.map (bq S)) w K ⟨⟩:=propext Iff.rfl
theorem Yi  {x l}{t}:E3 P (.val x l) S w K t=CB P (bq S x) (l.map (bq S)) w K ⟨⟩:=propext Iff.rfl
theorem Yj  {c d e}(k:IntKind)(a b:Int){t}:h4 P .lss c d e (.int k a) (.int k b) a9 t=a9 (.bool (decide (a<b))):=akf k a b
theorem Yk  {c d e}(k:IntKind)(a b:Int){t}:h4 P .leq c d e (.int k a) (.int k b) a9 t=a9 (.bool (decide (a<=b))):=ake k a b
theorem Yl  {c d e}(k:IntKind)(a b:Int){t}:h4 P .gtr c d e (.int k a) (.int k b) a9 t=a9 (.bool (decide (b<a))):=akd k a b
theorem Ym  {c d e}(k:IntKind)(a b:Int){t}:h4 P .geq c d e (.int k a) (.int k b) a9 t=a9 (.bool (decide (b<=a))):=akc k a b
theorem Yn  {c d e}(k:IntKind)(a b:Int){t}:h4 P .eql c d e (.int k a) (.int k b) a9 t=a9 (.bool (decide (a=b))):=ZP k a b
theorem Yo  {c d e}(k:IntKind)(a b:Int){t}:h4 P .neq c d e (.int k a) (.int k b) a9 t=a9 (.bool (!decide (a=b))):=(akh k a b).trans Ah
theorem Yp  {c d e}(k:IntKind)(a b:Int){t}:h4 P .add c d e (.int k a) (.int k b) a9 t=vu k (a+b) a9 ⟨⟩:=akb k a b
theorem Yq  {c d e}(k:IntKind)(a b:Int){t}:h4 P .sub c d e (.int k a) (.int k b) a9 t=vu k (a - b) a9 ⟨⟩:=akm k a b
theorem Yr  {c d e}(k:IntKind)(a b:Int){t}:h4 P .mul c d e (.int k a) (.int k b) a9 t=vu k (a*b) a9 ⟨⟩:=akg k a b
theorem Ys  {c d e}(a b:ByteArray){t}:h4 P .eql c d e (.string a) (.string b) a9 t=a9 (.bool (decide (a=b))):=akk a b
theorem Yt  {c d e}(a b:ByteArray){t}:h4 P .neq c d e (.string a) (.string b) a9 t=a9 (.bool (!decide (a=b))):=(akl a b).trans Ah
theorem Yu  (b:Bool){t}:Jg .not (.bool b) a9 t=a9 (.bool (!b)):=propext Iff.rfl
theorem Yx  (k:IntKind)(n:Int){t}:Jg .neg (.int k n) a9 t=vu k (0 - n) a9 ⟨⟩:=propext Iff.rfl
theorem Fm  (k q:IntKind)(n:Int){t}:Pf k (.int q n) a9 t=vu k n a9 ⟨⟩:=alH k q n a9
theorem Fo  (n:Nat)(a:Addr){t}:Po n (.pointer (some a)) a9 t=a9 (.pointer (some (a.add n))):=am9 n a a9
theorem Yy  (v:B_)(vs:C_ B_){t}:Fb (.tuple (v :: vs).toArray) 0 a9 t=a9 v:=amS v vs a9
theorem Yz  (v a:B_)(vs:C_ B_){t}:Fb (.tuple (v :: a :: vs).toArray) 1 a9 t=a9 a:=amT v a vs a9
theorem YA  (v a x:B_)(vs:C_ B_){t}:Fb (.tuple (v :: a :: x :: vs).toArray) 2 a9 t=a9 x:=amU v a x vs a9
theorem YB  (s:ByteArray){t}:PB (.string s) a9 t=a9 (.I s.size):=atb s a9
theorem YC  (a:H_ Addr)(n c:Nat){t}:Py (.slice a n c) a9 t=a9 (.I n):=as9 a n c a9
theorem YD  (a:H_ Addr)(n c:Nat){t}:Pe (.slice a n c) a9 t=a9 (.I c):=akB a n c a9
theorem YE  (k q:IntKind)(a b:Int){t}:PE (.int k a) (.int q b) a9 t=a9 (.int k (max a b)):=atA k q a b a9
theorem YK  (k q:IntKind)(a b:Int){t}:PF (.int k a) (.int q b) a9 t=a9 (.int k (min a b)):=atE k q a b a9
theorem YL  (m n:Nat)(cs:Array B_){t}:Pp m n (.agg cs) a9 t=a9 (.agg (cs.extract m (m+n))):=ano m n cs a9
theorem YM  (a:Addr){t}:Ja (.pointer (some a)) a9 t=a9 (.pointer (some a)):=propext Iff.rfl
theorem k3  (f:E_)(a b:Array B_){t}:Ja (.func (.func f) a b) a9 t=a9 (.func (.func f) a b):=propext Iff.rfl
theorem YN  {t}:oR [] S w yI t=yI []:=propext Iff.rfl
theorem YO  {n r}{t}:oR (.tmp n :: r) S w yI t=oR r S w (λa=>yI (S n :: a)) ⟨⟩:=propext Iff.rfl
theorem YP  {n r}{t}:oR (.cell n :: r) S w yI t=tR (S n) w (λa=>oR r S w (λb=>yI (a :: b)) ⟨⟩) ⟨⟩:=propext Iff.rfl
theorem YQ  {m n r}{t}:oR (.jq m n :: r) S w yI t=yK m (S n) w (λa=>oR r S w (λb=>yI (a :: b)) ⟨⟩) ⟨⟩:=propext Iff.rfl
theorem YR{S:Fr}{d:Nat}{v:B_}:put S (some d) v=cz S d v:=eq_of_heq (heq_of_eq (jk S d v))
theorem YS{S:Fr}{v:B_}:put S none v=S:=eq_of_heq (heq_of_eq (agj S v))
theorem YU{S:Fr}{d t:Nat}{v:B_}:cz S d v t=if t=d then v else S t:=eq_of_heq (heq_of_eq (bS S d t v))
theorem YV{S:Fr}{t:Nat}:bq S (.tmp t)=S t:=eq_of_heq (heq_of_eq (dy S t))
theorem YW{S:Fr}{v:B_}:bq S (.const v)=v:=eq_of_heq (heq_of_eq (o8 S v))
theorem YX{S:Fr}{g:Nat}:bq S (.global g) = .pointer (some ⟨g,0,none⟩):=eq_of_heq (heq_of_eq (amE S g))
theorem YY{S:Fr}{f:Nat}:bq S (.func f) = .func (.func f) #[] #[]:=eq_of_heq (heq_of_eq (xe S f))
theorem YZ{k:Nat}:js [] k=λ_=>undef:=eq_of_heq (heq_of_eq (oE k))
theorem Y0{v:B_}{vs:C_ B_}{k:Nat}:js (v :: vs) k=cz (js vs (k+1)) k v:=eq_of_heq (heq_of_eq (kK v vs k))
theorem Y1  : j5 [] = .tuple #[]:=eq_of_heq (heq_of_eq (ayg ..))
theorem Y2  (v:B_):j5 [v]=v:=eq_of_heq (heq_of_eq (ayh ..))
theorem Y3  (v a:B_):j5 [v,a] = .tuple #[v,a]:=eq_of_heq (heq_of_eq (ayi ..))
theorem Y4  (v a x:B_):j5 [v,a,x] = .tuple #[v,a,x]:=eq_of_heq (heq_of_eq (ayj ..))
theorem Y5  (a:H_ Addr)(n c:Nat):(Value.slice a n c).cells=#[.slice a n c]:=eq_of_heq (heq_of_eq (ak0 ..))
theorem Y6  (k:IntKind)(n:Int):(Value.int k n).cells=#[.int k n]:=eq_of_heq (heq_of_eq (akU ..))
theorem Y7  (b:Bool):(Value.bool b).cells=#[.bool b]:=eq_of_heq (heq_of_eq (akR ..))
theorem Y8  (s:ByteArray):(Value.string s).cells=#[.string s]:=eq_of_heq (heq_of_eq (ak1 ..))
theorem Y9  (a:H_ Addr):(Value.pointer a).cells=#[.pointer a]:=eq_of_heq (heq_of_eq (akZ ..))
theorem Za  (a:H_ Nat):(Value.map a).cells=#[.map a]:=eq_of_heq (heq_of_eq (akV ..))
theorem Zb  (f:Fn)(a b:Array B_):(Value.func f a b).cells=#[.func f a b]:=eq_of_heq (heq_of_eq (akT ..))
theorem Zc  (cs:Array B_):(Value.agg cs).cells=cs:=eq_of_heq (heq_of_eq (akQ ..))
theorem Zd{α β:Type}{f:α->β}{a:α}{l:C_ α}:(a :: l).map f=f a :: l.map f:=eq_of_heq (heq_of_eq (AH9))
theorem Ze{α β:Type}{f:α->β}:([]:C_ α).map f=[]:=eq_of_heq (heq_of_eq (List.map_nil))
theorem g0  : (!true)=false:=eq_of_heq (heq_of_eq (Bool.not_true))
theorem eT  : (!false)=true:=eq_of_heq (heq_of_eq (Bool.not_false))
theorem jd{h:Decidable True}:decide True=true:=eq_of_heq (heq_of_eq (decide_true h))
theorem o2{h:Decidable False}:decide False=false:=eq_of_heq (heq_of_eq (decide_false h))
theorem j7{α:Type}{a b:α}{h:Decidable True}:(if True then a else b)=a:=eq_of_heq (heq_of_eq (if_true a b))
theorem j8{α:Type}{a b:α}{h:Decidable False}:(if False then a else b)=b:=eq_of_heq (heq_of_eq (if_false a b))
end
def c8 :=
 (i_ (i_ (i_ (i_ (i_ (i_ (i_ @Wo @Wp) (i_ @Wq (i_ @Wr @Ws))) (i_ (i_ @Wt (i_ @Wu @Wv)) (i_ @Ww (i_ @Wx @Wz)))) (i_ (i_ (i_ @B1 @WA) (i_ @WB (i_ @WC @WD))) (i_ (i_ @WE (i_ @WG @WH)) (i_ @WI (i_ @WJ @WK))))) (i_ (i_ (i_ (i_ @WL @WM) (i_ @WN (i_ @WO @WQ))) (i_ (i_ @WR (i_ @WS @WV)) (i_ @WW (i_ @WX @WY)))) (i_ (i_ (i_ @WZ @W0) (i_ @W1 (i_ @W2 @W3))) (i_ (i_ @W4 (i_ @W7 @W8)) (i_ @dm (i_ @g7 @dO)))))) (i_ (i_ (i_ (i_ (i_ @hg @ks) (i_ @hh (i_ @jc @fT))) (i_ (i_ @Xb (i_ @Xc @Xd)) (i_ @Xe (i_ @Xf @Xg)))) (i_ (i_ (i_ @Xh @Xi) (i_ @Xj (i_ @Xk @Xl))) (i_ (i_ @H1 (i_ @Xm @Xn)) (i_ @Xo (i_ @Xp @Xq))))) (i_ (i_ (i_ (i_ @Xr @Xs) (i_ @Xt (i_ @Xu @Xv))) (i_ (i_ @Xw (i_ @Xx @Xy)) (i_ @Xz (i_ @XA @XB)))) (i_ (i_ (i_ @XC @XD) (i_ @XF (i_ @XG @XH))) (i_ (i_ @XI (i_ @XJ @XK)) (i_ @XL (i_ @XM @XN))))))) (i_ (i_ (i_ (i_ (i_ (i_ @XO @XR) (i_ @XS (i_ @M2 @XT))) (i_ (i_ @XU (i_ @XV @XW)) (i_ @XX (i_ @XY @XZ)))) (i_ (i_ (i_ @X1 @X2) (i_ @X3 (i_ @X4 @X5))) (i_ (i_ @X6 (i_ @X7 @X8)) (i_ @X9 (i_ @Ya @Yb))))) (i_ (i_ (i_ (i_ @Yc @Yd) (i_ @Ye (i_ @Yf @Yg))) (i_ (i_ @Yh (i_ @Yi @Yj)) (i_ @Yk (i_ @Yl @Ym)))) (i_ (i_ (i_ @Yn @Yo) (i_ @Yp (i_ @Yq @Yr))) (i_ (i_ @Ys (i_ @Yt @Yu)) (i_ @Yx (i_ @Fm @Fo)))))) (i_ (i_ (i_ (i_ (i_ @Yy @Yz) (i_ @YA (i_ @YB @YC))) (i_ (i_ @YD (i_ @YE @YK)) (i_ @YL (i_ @YM @k3)))) (i_ (i_ (i_ @YN @YO) (i_ @YP (i_ @YQ @YR))) (i_ (i_ @YS (i_ @YU @YV)) (i_ @YW (i_ @YX @YY))))) (i_ (i_ (i_ (i_ @YZ @Y0) (i_ @Y1 (i_ @Y2 @Y3))) (i_ (i_ @Y4 (i_ @Y5 @Y6)) (i_ @Y7 (i_ @Y8 @Y9)))) (i_ (i_ (i_ @Za @Zb) (i_ @Zc (i_ @Zd @Ze))) (i_ (i_ @g0 (i_ @eT @jd)) (i_ @o2 (i_ @j7 @j8))))))))
section
variable{P:Program}{Q:fG->Fr->World->Prop}{a9:Value->Prop}{K:Value->World->Prop}{iB:World->Prop}{S:Fr}{w:World}{A B:Prop}
def I_{p:Prop}[Decidable p]{t}(a:p->A)(b:¬p->B):qg (.bool (decide p)) A B t:=akG a b
def N_{a:Bool}{t}(b:a=true->A)(c:a=false->B):qg (.bool a) A B t:=akF b c
def Q_{n:Int}{t}(h : -9223372036854775808<=n/\n<=9223372036854775807)(a:a9 (.I n)):vu .i64 n a9 t:=wrap_i64 h a
def _n{k:IntKind}{n:Int}{t}(h:a9 (.int k (k.wrap n))):vu k n a9 t:=aiJ h
def AB2{k:IntKind}{n:Int}{t}(h:k.wrap n=n)(a:a9 (.int k n)):vu k n a9 t:=aiJ (by rw[h];exact a)
def _P{c:F_}{d e:G_}{k:IntKind}{a b:Int}{t}(f:b≠0)(h:vu k (a.tdiv b) a9 ⟨⟩):h4 P .quo c d e (.int k a) (.int k b) a9 t:=aki f h
def _o{c:F_}{d e:G_}{k:IntKind}{a b:Int}{t}(f:b≠0)(h:a9 (.int k (a.tmod b))):h4 P .rem c d e (.int k a) (.int k b) a9 t:=akj f h
def _Q{op:BinOp}{a:F_}{b c:G_}{x y v:B_}{t}(h:∀w,(do eqGuard op a b c x y;binOp op a x y:Sem B_).run P w = .ok v w)(d:a9 v):h4 P op a b c x y a9 t:=⟨v,h,d⟩
def _b{sz:Nat}{a:Addr}{len cap:Nat}{k:IntKind}{n:Int}{t}(h:0<=n/\n<len)(b:a9 (.pointer (some (a.add (n.toNat*sz))))):Fc sz (.slice (some a) len cap) (.int k n) a9 t:=ar4 h b
def M_{sz:Nat}{a:Addr}{len cap:Nat}{k:IntKind}{n:Int}{t}(i:Nat)(b:n=i)(h:i<len)(c:a9 (.pointer (some (a.add (i*sz))))):Fc sz (.slice (some a) len cap) (.int k n) a9 t:=ar3 i b h c
def _p{sz:Nat}{a:Addr}{len:Nat}{k:IntKind}{n:Int}{t}(h:0<=n/\n<len)(b:a9 (.pointer (some (a.add (n.toNat*sz))))):Pt len sz (.pointer (some a)) (.int k n) a9 t:=ar2 h b
def _c{s:ByteArray}{k:IntKind}{n:Int}{t}(c:UInt8)(a:0<=n)(h:s[n.toNat]? = some c)(b:a9 (.int .u8 c.toNat)):Px (.string s) (.int k n) a9 t:=ast c a h b
def AB3{len:Nat}{cs:Array B_}{k:IntKind}{n:Int}{t}(v:B_)(a:0<=n/\n<len)(h:cs[n.toNat]? = some v)(b:a9 v):Pv len (.agg cs) (.int k n) a9 t:=ass v a h b
def _d{off:Nat}{cs:Array B_}{v:B_}{t}(h:cs[off]? = some v)(a:a9 v):Pr off (.agg cs) a9 t:=anp h a
def V_{a cs:C_ B_}{b:C_ (Nat×Nat)}{c:C_ (Nat×G_)}{t}(h:gu S b c a=some cs)(d:a9 (.agg cs.toArray)):Pd S a b c a9 t:=akp h d
def _K{sz:Nat}{a:H_ Addr}{len cap:Nat}{c b mx:H_ G_}{t}(l h m:Nat)(d:fb S c 0=some l)(e:fb S b len=some h)(f:fb S mx cap=some m)
  (g:l<=h/\h<=m/\m<=cap)(i:mx.isSome=true->b.isSome=true)(j:a9 (.slice (if m=l then a else a.map (·.add (l*sz))) (h - l) (m - l))):s0 S sz (.slice a len cap) c b mx a9 t:=axz l h m d e f g i j
def AB4{s:ByteArray}{a b:H_ G_}{t}(l h:Nat)(c:fb S a 0=some l)(d:fb S b s.size=some h)(e:l<=h/\h<=s.size)(f:a9 (.string (s.extract l h))):PT S (.string s) a b a9 t:=axx l h c d e f
def L_{a:Addr}{c:B_}{t}(h:w.cell? a=some c)(b:a9 c):tR (.pointer (some a)) w a9 t:=as3 h b
def Y_{n:Nat}{a:Addr}{cs:C_ B_}{t}(h:fx w a cs)(b:cs.length=n)(c:a9 (.agg cs.toArray)):yK n (.pointer (some a)) w a9 t:=ae5 h b c
def _t{d:TypeDesc}{a:B_}{b:Bool}{m k:B_}{es:Array MapEntry}{r:H_ (Nat×B_)}{t}(c:tS w m es)(e:Instr.findNow d k es.toList 0=some r)(f:a9 (po a b r)):I6 d a b m k w a9 t:=atn c e f
def AF2{m:B_}{es:Array MapEntry}{t}(h:tS w m es)(a:a9 (.I es.size)):PA m w a9 t:=ata h a
def _1{a:Addr}{v b:B_}{t}(h:w.cell? a=some b)(c:w.frozen? a=false)(d:v.oneCell'=true)(e:iB (w.setCell a v)):vr (.pointer (some a)) v w iB t:=ahU h c d e
def AB5{n:Nat}{a:Addr}{cs:Array B_}{t}(c:cs.size=n)(h:∀b,b<n->(∃d,w.cell? (a.add b)=some d)/\w.frozen? (a.add b)=false)(e:∀f∈cs.toList,f.oneCell'=true)(g:iB (k0 w a cs.toList 0)):Fq n (.pointer (some a)) (.agg cs) w iB t:=VG c h e g
def _7{e:F_}{sz bytes:Nat}{a:B_}{k q:IntKind}{n m:Int}{t}(h:0<=n/\n<=m/\m<=9223372036854775807/\bytes*m<=281474976710656)(b:K (.slice (some ⟨w.heap.size,0,none⟩) n.toNat m.toNat) (w.alloc (.cells (qe a.cells (m.toNat*sz)) e))) :
  Fg e sz bytes a (.int k n) (.int q m) w K t:=atH h b
def AF3{e:F_}{len sz:Nat}{a cs:C_ B_}{b:C_ (Nat×G_)}{t}(h:gu S ((List.range len).map λc=>(c*sz,sz)) b a=some cs)(d:K (.slice (some ⟨w.heap.size,0,none⟩) len len) (w.alloc (.cells cs.toArray e))):IL S e len sz a b w K t:=AL h d
def _i{a e:F_}{sz b:Nat}{s x:B_}{t}(h:YJ P a e sz b->∃f c d,(Builtin.append_ #[a,a] f #[s,x]).run P w = .ok c d/\K c d):lQ P a e sz b s x w K t:=h
def _2{d:TypeDesc}{r:Nat}{k v:B_}{es:Array MapEntry}{c:Nat}{q:H_ (Nat×B_)}{t}(a:w.heap[r]? = some (.map es c))(b:Instr.findNow d k es.toList 0=some q)(e:iB (fZ w r (uX es c k v q))):Fh d (.map (some r)) k v w iB t:=atS a b e
def AB6{r pos:Nat}{s:ByteArray}{t}(h:w.heap[r]? = some (.stringIter s pos))(a:pos<s.size->K (.tuple #[.bool true,.I pos,.int .i32 (Utf8.decode s pos).1]) (fZ w r (.stringIter s (pos+(Utf8.decode s pos).2))))
  (b:¬pos<s.size->K (.tuple #[.bool false]) w):PL (.pointer (some ⟨r,0,none⟩)) w K t:=aul h a b
def _X{op:Op}{ty:F_}{v:B_}{w':A_}{t}(h:(execOp (bq S) ⟨none,op,ty, "",#[],none⟩).run P w = .ok (.value v) w')(J:K v w'):wS P op ty S w K t:=⟨v,w',.inl h,J⟩
def J_{f:E_}{args:C_ B_}{R:B_->A_->Prop}{t}(h:a3 P f args.toArray w R)(c:∀a b,R a b->K a b):IP P f args w K t:=akz h c
def U_{f:E_}{args:C_ B_}{R:B_->A_->Prop}{b c:C_ PanicEntry->A_->Prop}{t}(h:r6 P f args.toArray w R b)(g:∀d a,R d a->K d a)(i:∀e a,b e a->c e a):PV P f args w K c t:=r6.mono h g i
def AB7{f:E_}{a:mi}(c:P.follows .mixedOrders=true)(d:k7 P f=some a){args:C_ B_}{R:B_->A_->Prop}{b:C_ PanicEntry->A_->Prop}(e:args.length<=a.n)(h:fa P a.code (Df a.res R b ⟨⟩) (js args 0) w ⟨⟩):r6 P f args.toArray w R b:=amz c d e h
def W_{f:E_}{first cap:C_ B_}{args:C_ B_}{R:B_->A_->Prop}{t}(c:okF P f=true)(h:a3 P f (first++args++cap).toArray w R)(d:∀a b,R a b->K a b):CB P (.func (.func f) first.toArray cap.toArray) args w K t:=Or.inl (Qr c h d)
def _u{f:E_}{first cap:C_ B_}{args:C_ B_}{R:B_->A_->Prop}{t}(c:okF P f=true)(h:a3 P f (first++args++cap).toArray w R)(d:∀a b,R a b->K a b):yA P (.func (.func f) first.toArray cap.toArray) args w K t:=Qr c h d
def _v{l:Nat}{args:C_ B_}{R:Ending->A_->Prop}{t}(h:YieldAt Fence.wide 0 P l args.toArray w R)(d:∀a b,R a b->∃c,a = .returned c/\K c b):CB P (.func (.yield l) #[] #[]) args w K t :=
 Or.inr ⟨l,rfl,let ⟨fn,tmps,assign,body,e,f⟩:=h; ⟨fn,tmps,assign,body,e,f.mono d⟩⟩
def P_{f:E_}{args:C_ B_}{t}(v:B_)(h:∀a,Ext w a->a3 P f args.toArray a λb c=>b=v/\Ext a c)(d:a9 v):PO P f args w a9 t:=avN v h d
def O_{n:F_}{cs:Array B_}{t}(c:∀a b,w.heap.size<=b->Ext w a->a.heap[b]? = some (.cells cs n)->K (.pointer (some ⟨b,0,none⟩)) a):Fi n cs w K t :=
 c _ _ (Fy _) ((Ext.refl w).alloc _) (heap_alloc_new w _)
def _w{t}(c:∀a b,w.heap.size<=b->Ext w a->a.heap[b]? = some (.map #[] 0)->K (.map (some b)) a):PI w K t:=c _ _ (Fy _) ((Ext.refl w).alloc _) (heap_alloc_new w _)
def AB8{s:ByteArray}{t}(c:∀a b,w.heap.size<=b->Ext w a->a.heap[b]? = some (.stringIter s 0)->K (.pointer (some ⟨b,0,none⟩)) a):PR (.string s) w K t :=
 ⟨s,rfl,c _ _ (Fy _) ((Ext.refl w).alloc _) (heap_alloc_new w _)⟩
def _E{e:F_}{len sz:Nat}{c cs:C_ B_}{d:C_ (Nat×G_)}{t}(h:gu S ((List.range len).map λf=>(f*sz,sz)) d c=some cs)
  (g:∀a b,w.heap.size<=b->Ext w a->a.heap[b]? = some (.cells cs.toArray e)->K (.slice (some ⟨b,0,none⟩) len len) a):IL S e len sz c d w K t :=
 AL h (g _ _ (Fy _) ((Ext.refl w).alloc _) (heap_alloc_new w _))
def _B{b j:Nat}{c:Array B_}{e:F_}{v:B_}{t}(a:w.heap[b]? = some (.cells c e))(d:j<c.size)(g:v.oneCell'=true)
  (h:∀f,dY b w f->f.heap[b]? = some (.cells (c.set j v d) e)->iB f):vr (.pointer (some (Addr.add ⟨b,0,none⟩ j))) v w iB t :=
 ahU (gD a (Array.getElem?_eq_getElem d)) (by rw[add_eq];simp[World.frozen?,a]) g (h _ (by have i:=dY.setCell w (Addr.add ⟨b,0,none⟩ j) v;rwa[Zt] at i) (Vw a d v))
def _j{b:Nat}{c:Array B_}{e:F_}{v:B_}{t}(f:w.heap[b]? = some (.cells c e))(d:0<c.size)(g:v.oneCell'=true)
  (h:∀a,dY b w a->a.heap[b]? = some (.cells (c.set 0 v d) e)->iB a):vr (.pointer (some ⟨b,0,none⟩)) v w iB t :=
 _B (j:=0) (t:=⟨⟩) f d g h
def X_{b n:Nat}{c cs:Array B_}{e:F_}{t}(a:w.heap[b]? = some (.cells c e))(j:c.size=n)(f:cs.size=n)(g:∀h∈cs.toList,h.oneCell'=true)
  (i:∀d,dY b w d->d.heap[b]? = some (.cells cs e)->iB d):Fq n (.pointer (some ⟨b,0,none⟩)) (.agg cs) w iB t :=
 VG f (λk l=>⟨⟨_,gD a (Array.getElem?_eq_getElem AW)⟩,by rw[add_eq];simp[World.frozen?,a]⟩) g (i _ (dY.k0 cs.toList w ⟨b,0,none⟩ 0) (ahy a AW))
def Z_{b:fg}{t}(cE:Fr->A_->Prop)(c:Fr->A_->Nat)(g:cE S w)
  (h:∀a d,(∀t,b.gr.contains t=false->a t=S t)->cE a d->fa P b (j4 (λe f=>cE e f/\c e f<c a d) Q ⟨⟩) a d ⟨⟩):CI P b Q S w t:=atr cE c g h
def _R{f:E_}{a:mi}(b:P.follows .mixedOrders=true)(c:k7 P f=some a){args:C_ B_}{R:B_->A_->Prop}(d:args.length<=a.n)(h:fa P a.code (um a.res R ⟨⟩) (js args 0) w ⟨⟩):a3 P f args.toArray w R:=enter b c d h
end
attribute [irreducible] fa
attribute [irreducible] qW
attribute [irreducible] sN
attribute [irreducible] lO
attribute [irreducible] ON
attribute [irreducible] Dl
attribute [irreducible] CV
attribute [irreducible] As
attribute [irreducible] wP
attribute [irreducible] E3
attribute [irreducible] CB
attribute [irreducible] yO
attribute [irreducible] Fl
attribute [irreducible] PO
attribute [irreducible] Jc
attribute [irreducible] jL
attribute [irreducible] yQ
attribute [irreducible] qh
attribute [irreducible] E2
attribute [irreducible] h4
attribute [irreducible] Jg
attribute [irreducible] Pf
attribute [irreducible] vu
attribute [irreducible] qg
attribute [irreducible] r1
attribute [irreducible] Po
attribute [irreducible] Fc
attribute [irreducible] Pt
attribute [irreducible] Px
attribute [irreducible] Pv
attribute [irreducible] Pr
attribute [irreducible] Pp
attribute [irreducible] Pd
attribute [irreducible] s0
attribute [irreducible] PT
attribute [irreducible] Fb
attribute [irreducible] PB
attribute [irreducible] Py
attribute [irreducible] Pe
attribute [irreducible] PE
attribute [irreducible] PF
attribute [irreducible] Ja
attribute [irreducible] tR
attribute [irreducible] yK
attribute [irreducible] I6
attribute [irreducible] PA
attribute [irreducible] vr
attribute [irreducible] Fq
attribute [irreducible] Fg
attribute [irreducible] IL
attribute [irreducible] lQ
attribute [irreducible] Fh
attribute [irreducible] PL
attribute [irreducible] PR
attribute [irreducible] wS
attribute [irreducible] IP
attribute [irreducible] PV
attribute [irreducible] Cz
attribute [irreducible] Yw
attribute [irreducible] PN
attribute [irreducible] yA
attribute [irreducible] Fi
attribute [irreducible] PI
attribute [irreducible] CI
attribute [irreducible] oR
attribute [irreducible] j4 w4 um Df
end a8
namespace a8
open Go Go.RowKit
structure a4{α:Type}(sz:Nat)(R:World->Addr->α->Prop)(w:World)(v:Value)(xs:List α):Prop where
 ex:∃aS cap,v = .slice aS xs.length cap/\xs.length<=cap/\cap<=maxLen/\(xs≠[]->aS.isSome=true)/\∀a,aS=some a->∀i (h:i<xs.length),R w (a.add (i*sz)) xs[i]
def a4.form{α:Type}{sz:Nat}{R:A_->Addr->α->Prop}{w:A_}{v:B_}{xs:C_ α}(h:a4 sz R w v xs):∃a b,v = .slice a xs.length b/\xs.length<=9223372036854775807:=by
 obtain⟨a,b,c,e,d,_⟩:=h.ex;exact⟨a,b,c,by unfold maxLen at d;omega⟩
def a4.addr{α:Type}{sz:Nat}{R:A_->Addr->α->Prop}{w:A_}{b:H_ Addr}{n c:Nat}{xs:C_ α}(h:a4 sz R w (.slice b n c) xs)(d:0<xs.length:=by omega):∃e,b=some e:=by
 obtain⟨i,j,a,k,l,f,_⟩:=h.ex;injection a with a _ _
 subst a;exact Option.isSome_iff_exists.1 (f (by intro g;subst g;simp at d))
def a4.at{α:Type}{sz:Nat}{R:A_->Addr->α->Prop}{w:A_}{a:Addr}{n c:Nat}{xs:C_ α}(h:a4 sz R w (.slice (some a) n c) xs)(i:Nat)(d:i<xs.length):R w (a.add (i*sz)) xs[i]:=by
 obtain⟨f,g,b,j,k,l,e⟩:=h.ex;injection b with b _ _
 subst b;exact e a rfl i d
theorem a4.ext{α:Type}{sz:Nat}{R:A_->Addr->α->Prop}(c:∀w w' a b,Ext w w'->R w a b->R w' a b){w w':A_}{v:B_}{xs:C_ α}(d:Ext w w')(h:a4 sz R w v xs):a4 sz R w' v xs:=by
 obtain⟨e,f,g,i,j,k,l⟩:=h.ex;exact⟨e,f,g,i,j,k,λa m n p=>c _ _ _ _ d (l a m n p)⟩
def Flat{α:Type}(enc:α->C_ B_)(w:A_)(a:Addr)(x:α):Prop:=fx w a (enc x)
theorem Flat.ext{α:Type}{enc:α->C_ B_}(w w':A_)(a:Addr)(x:α)(b:Ext w w')(h:Flat enc w a x):Flat enc w' a x:=fx.ext b h
def mN{a:Type}(enc:a->B_)(es:C_ MapEntry)(m:C_ (a×B_)):Prop:=es.map (λb=>(b.key,b.val))=m.map (λc=>(enc c.1,c.2))
theorem F8{c:Type}[DecidableEq c]{enc:c->B_}{d:TypeDesc}(j:∀x k,Instr.sameNow d (enc x) (enc k)=some (decide (x=k)))(x:c):∀(e:C_ MapEntry) (a:C_ (c×B_)) (f:Nat),mN enc e a ->
  ∃g,Instr.findNow d (enc x) e f=some g/\g.map (·.2)=(a.find? (λh=>decide (x=h.1))).map (·.2)
 | [],a,f,b=>by
  have:a=[]:=by cases a with | nil=>rfl | cons _ _=>simp[mN] at b
  subst this;exact⟨none,rfl,rfl⟩
 | r :: e,a,f,b=>by
  cases a with
  | nil=>simp[mN] at b
  | cons h a =>
   simp only[mN,List.map_cons,List.cons.injEq,Prod.mk.injEq] at b;obtain⟨⟨l,m⟩,n⟩:=b;unfold Instr.findNow;rw[l,j];by_cases i:x=h.1
   .simp only[i,decide_true];exact⟨_,rfl,by simp[m]⟩
   .simp only[i,decide_false];obtain⟨g,p,q⟩:=F8 j x e a (f+1) n;exact⟨g,p,by rw[q];simp[i]⟩
def Ov(x y:ByteArray):Instr.sameNow .string (.string x) (.string y)=some (decide (x=y)):=by simp[Instr.sameNow,FD]
def axj(k q:IntKind)(x y:Int):Instr.sameNow (.int q) (.int k x) (.int k y)=some (decide (x=y)):=by simp[Instr.sameNow];rfl
def mN.push{a:Type}{enc:a->B_}{es:Array MapEntry}{m:C_ (a×B_)}(h:mN enc es.toList m)(x:a)(v:B_)(c:Nat):mN enc (es.push { key:=enc x,val:=v,born:=c }).toList (m++[(x,v)]):=by
 simp only[mN] at *;simp[h]
theorem Rl{α:Type}{enc:α->C_ B_}{sz:Nat}(e:∀f,(enc f).length=sz):∀(c:C_ α) (b a:Nat) (d:b<c.length),a<sz->(c.flatMap enc)[b*sz+a]? = (enc c[b])[a]?
 | [],b,a,d,_=>by simp at d
 | f :: c,0,a,d,g=>by
  simp only[List.flatMap_cons,Nat.zero_mul,Nat.zero_add,List.getElem_cons_zero];rw[List.getElem?_append_left (by rw[e];exact g)]
 | f :: c,b+1,a,d,g=>by
  simp only[List.flatMap_cons,List.getElem_cons_succ];rw[List.getElem?_append_right (by rw[e,AI2];omega),e,show(b+1)*sz+a - sz=b*sz+a from by rw[AI2];omega];exact Rl e c b a (by simpa using d) g
def akS{α:Type}{enc:α->C_ B_}{sz:Nat}(a:∀g,(enc g).length=sz){w:A_}{b:Nat}{e:F_}{f:Nat×Nat}{xs:C_ α}(j:w.heap[b]? = some (.cells (xs.flatMap enc).toArray e f))(i:Nat)(h:i<xs.length) :
  fx w (Addr.add ⟨b,0,none⟩ (i*sz)) (enc xs[i]):=λc l d=>by
 have k:c<sz:=by rw[<-a xs[i]];exact(List.getElem?_eq_some_iff.1 d).1
 rw[add_add];exact gD j (by rw[List.getElem?_toArray,Rl a xs i c h k];exact d)
def a4.b0{α:Type}{enc:α->C_ B_}{sz:Nat}(g:∀a,(enc a).length=sz){R:A_->Addr->α->Prop}{w:A_}{b n:Nat}{e:F_}{f:Nat×Nat}{xs:C_ α}(h:w.heap[b]? = some (.cells (xs.flatMap enc).toArray e f))
  (i:n=xs.length)(j:xs.length<=maxLen)(k:∀c a,a∈xs->fx w c (enc a)->R w c a):a4 sz R w (.slice (some ⟨b,0,none⟩) n n) xs:=by
 subst i;refine⟨_,_,rfl,Fy _,j,λ_=>rfl,λc d l m=>?_⟩;injection d with d;subst d
 exact k _ _ (ID _) (akS g h l m)
def a4.nil{α:Type}{sz:Nat}{R:A_->Addr->α->Prop}{w:A_}:a4 sz R w (.slice none 0 0) ([]:C_ α):=⟨none,0,rfl,Fy _,AG2 _,λa=>absurd rfl a,λb a=>by cases a⟩
end a8
namespace o
open Go
def letter(n:Int):Bool:=decide (97<=n/\n<=122\/65<=n/\n<=90)
def digit(n:Int):Bool:=decide (48<=n/\n<=57)
def part(n:Int):Bool:=letter n||digit n||decide (n=95)
def uc(s:ByteArray)(i:Nat):Nat:=(s.get! i).toNat
def run(p:Int->Bool)(s:ByteArray):Nat:=(s.data.toList.takeWhile λa=>p a.toNat).length
theorem ah2{α:Type}(p:α->Bool):∀(a:C_ α) (b:Nat) (c:b<a.length),(∀d (h:d<b),p (a[d]' AW)=true)->p a[b]=false->(a.takeWhile p).length=b
 | [],b,c,_,_=>by simp at c
 | f :: a,0,c,_,e=>by simp at e;simp[e]
 | f :: a,b+1,c,g,e=>by
  have i:p f=true:=g 0 AW;rw[List.takeWhile_cons,if_pos i,AH3,ah2 p a b (by simpa using c) (λd h=>g (d+1) AW) (by simpa using e)]
theorem ah1{α:Type}(p:α->Bool):∀(a:C_ α) (_:∀b (c:b<a.length),p a[b]=true),(a.takeWhile p).length=a.length
 | [],_=>rfl
 | e :: a,d=>by
  have f:p e=true:=d 0 Ah;rw[List.takeWhile_cons,if_pos f,AH3,ah1 p a (λb c=>d (b+1) (by simpa using c)),AH3]
def ahh(p:Int->Bool)(s:ByteArray)(n:Nat)(h:n<s.size)(c:∀a (b:a<n),p (s[a]' AW).toNat=true)(d:p s[n].toNat=false):run p s=n :=
 ah2 (λe:UInt8=>p e.toNat) s.data.toList n (by simpa using h) (λa b=>c a b) d
def ag8(p:Int->Bool)(s:ByteArray)(h:∀a (b:a<s.size),p s[a].toNat=true):run p s=s.size:=by
 have:=ah1 (λc:UInt8=>p c.toNat) s.data.toList (λa b=>h a (by simpa using b))
 rw[run,this];simp
def alV{p:Int->Bool}(a:∀b:Int,128<=b->p b=false)(s:ByteArray)(pos:Nat)(h:pos<s.size) :
  p (Utf8.decode s pos).1=p s[pos].toNat/\(p s[pos].toNat=true->(Utf8.decode s pos).2=1):=by
 by_cases c:s[pos].toNat<128
 .rw[decode_ascii s pos h c];exact⟨rfl,λ_=>rfl⟩
 .have d:=decode_high s pos h AW;rw[a _ AW,a _ AW];exact⟨rfl,λh=>by simp at h⟩
theorem ate(r:Int)(h:128<=r):letter r=false:=by simp[letter];omega
theorem alY(r:Int)(h:128<=r):digit r=false:=by simp[digit];omega
def au7(r:Int)(h:128<=r):part r=false:=by simp[part,ate r h,alY r h];omega
instance aBj:LawfulBEq ByteArray where
 eq_of_beq {a b} h:=by rw[a8.FD] at h;exact of_decide_eq_true h
 rfl {a}:=by rw[a8.FD];exact decide_eq_true rfl
def sL:C_ ByteArray:=[⟨#[115,101,108,102]⟩,⟨#[110,111,110,101]⟩,⟨#[108,101,110]⟩,⟨#[97,116]⟩]
def isName(s:ByteArray):Bool:=decide (s.size≠0)&&decide (s.size<=16)&&letter (uc s 0)&&decide (run part s=s.size) && !decide (s∈sL)
def aw9(p:Int->Bool)(s:ByteArray):run p s<=s.size:=by
 have:=(List.takeWhile_sublist (λa:UInt8=>p a.toNat) (l:=s.data.toList)).length_le
 simpa[run] using this
def get_eq(s:ByteArray)(i:Nat)(h:i<s.size):s.get! i=s[i]:=by
 obtain⟨a⟩:=s;show a[i]! = a[i];exact getElem!_pos a i h
def get?_eq(s:ByteArray)(i:Nat)(h:i<s.size):s[i]? = some (s.get! i):=by rw[get_eq s i h];exact getElem?_pos s i h
structure Scalar where
 name:ByteArray
 size:Int
structure Var where
 name:ByteArray
 scalar:Int
 over:Int
 aQ:Int
 ab:Int
 init:Int
structure ed where
 name:ByteArray
 scalar:Int
 cap:Int
 aQ:Int
 ab:Int
 afj:Bool
def size(k:Int)(s:C_ Scalar):Int :=
 match s[(k - 1).toNat]? with
 | some a=>if 1<=k/\1<=a.size/\a.size<=4 then a.size else 0
 | none=>0
def narrow(a b:Int):Bool:=decide (-1048576<=a/\a<=b/\b<=1048576/\b - a<256)
def there(k:Int)(s:C_ Scalar):Bool:=decide (k=0\/size k s≠0)
def err(fR:Int)(a:Nat->ByteArray)(mo:Nat->Int)(i:Nat):Int :=
 if fR<=i then 11 else if isName (a i)=false then 6 else if ∃b,b<i/\a b=a i then 7 else mo i
def first(n:Nat)(e:Nat->Int):Int×Int:=match (List.range n).find? (λa=>decide (e a≠0)) with | some a=>((a:Int),e a) | none=>(0,0)
def kd{n:Nat}{e:Nat->Int}{i:Nat}(b:i<n)(c:∀a,a<i->e a=0)(d:e i≠0):first n e=((i:Int),e i):=by
 have:(List.range n).find? (λi=>decide (e i≠0))=some i:=by
  rw[List.find?_range_eq_some];simp only[decide_eq_true_eq];exact⟨d,by simpa using b,λa f=>by simp[c a f]⟩
 rw[first,this]
def qv{n:Nat}{e:Nat->Int}(h:∀a,a<n->e a=0):first n e=(0,0):=by
 have:(List.range n).find? (λb=>decide (e b≠0))=none:=by
  rw[List.find?_range_eq_none];intro a c;simp[h a c]
 rw[first,this]
def abo{n:Nat}{e e':Nat->Int}(h:∀a,a<n->e a=e' a):first n e=first n e':=by
 by_cases f:∃b,b<n/\e b≠0/\∀a,a<b->e a=0
 .obtain⟨b,d,g,i⟩:=f;rw[kd d i g,kd d (λa c=>by rw[<-h a AW];exact i a c) (by rw[<-h b d];exact g),h b d]
 .have j:∀a,a<n->e a=0:=by
   intro a
   induction a using Nat.strongRecOn with
   | _ a l =>
    intro c;by_cases k:e a=0
    .exact k
    .exact absurd ⟨a,c,k,λm p=>l m p AW⟩ f
  rw[qv j,qv λa c=>by rw[<-h a c];exact j a c]
def nameAt{α:Type}(f:α->ByteArray)(l:C_ α)(i:Nat):ByteArray:=(l[i]?.map f).getD ⟨#[]⟩
def u7(l:C_ Scalar)(i:Nat):Int:=match l[i]? with | some a=>if 1<=a.size/\a.size<=4 then 0 else 10 | none=>0
def scalars(l:C_ Scalar):Int×Int:=first l.length (err 2 (nameAt (·.name) l) (u7 l))
def bounds(v:Var)(s:C_ Scalar):Int×Int:=if v.scalar=0 then (v.aQ,v.ab) else (0,size v.scalar s)
def cells(v:Var)(s:C_ Scalar):Int:=if v.over=0 then 1 else size v.over s
def q1(l:C_ Var)(s:C_ Scalar)(i:Nat):Int :=
 match l[i]? with
 | some a=>if there a.scalar s=false\/there a.over s=false then 8
  else if (a.scalar=0/\narrow a.aQ a.ab=false)\/a.init<(bounds a s).1\/a.init > (bounds a s).2 then 10 else 0
 | none=>0
def vars(l:C_ Var)(s:C_ Scalar)(fR:Int):Int×Int:=first l.length (err (max fR 0) (nameAt (·.name) l) (q1 l s))
def qt(l:C_ ed)(s:C_ Scalar)(i:Nat):Int :=
 match l[i]? with
 | some a=>if there a.scalar s=false then 8
  else if a.cap<1\/a.cap > 4\/(a.scalar=0/\narrow a.aQ a.ab=false) then 10 else 0
 | none=>0
def ay(l:C_ ed)(s:C_ Scalar):Int×Int:=first l.length (err 4 (nameAt (·.name) l) (qt l s))
end o
namespace o
open Go Go.RowKit a8
def Scalar.enc(x:Scalar):C_ B_:=[.string x.name,.int .i64 x.size]
def Var.enc(x:Var):C_ B_:=[.string x.name,.int .i64 x.scalar,.int .i64 x.over,.int .i64 x.aQ,.int .i64 x.ab,.int .i64 x.init]
def ed.enc(x:ed):C_ B_:=[.string x.name,.int .i64 x.scalar,.int .i64 x.cap,.int .i64 x.aQ,.int .i64 x.ab,.bool x.afj]
def kq(s:ByteArray):Prop:=s.size<=9223372036854775807
instance aBA(s:ByteArray):Decidable (kq s):=Nat.decLe _ _
structure jM(w:World)(a:Addr)(x:Scalar):Prop where
 cells:fx w a x.enc
 ok:kq x.name
structure ra(w:World)(a:Addr)(x:Var):Prop where
 cells:fx w a x.enc
 ok:kq x.name
structure r5(w:World)(a:Addr)(x:ed):Prop where
 cells:fx w a x.enc
 ok:kq x.name
theorem jM.ext(w w':A_)(a:Addr)(x:Scalar)(b:Ext w w')(h:jM w a x):jM w' a x:=⟨h.cells.ext b,h.ok⟩
theorem ra.ext(w w':A_)(a:Addr)(x:Var)(b:Ext w w')(h:ra w a x):ra w' a x:=⟨h.cells.ext b,h.ok⟩
theorem r5.ext(w w':A_)(a:Addr)(x:ed)(b:Ext w w')(h:r5 w a x):r5 w' a x:=⟨h.cells.ext b,h.ok⟩
abbrev hC(w:A_)(v:B_)(l:C_ Scalar):Prop:=a4 2 jM w v l
abbrev jO(w:A_)(v:B_)(l:C_ Var):Prop:=a4 6 ra w v l
abbrev ot(w:A_)(v:B_)(l:C_ ed):Prop:=a4 6 r5 w v l
def hC.b0{w:A_}{b n:Nat}{e:F_}{f:Nat×Nat}{xs:C_ Scalar}(c:w.heap[b]? = some (.cells (xs.flatMap Scalar.enc).toArray e f))(d:n=xs.length)(g:xs.length<=maxLen)(h:∀a∈xs,kq a.name) :
  hC w (.slice (some ⟨b,0,none⟩) n n) xs:=a4.b0 (enc:=Scalar.enc) (λ_=>rfl) c d g λ_ a i j=>⟨j,h a i⟩
end o
namespace a8
open Go Go.RowKit Go.ChangeShapes Go.WideShapes Go.Deep
section
variable{H:Type}{enc:TypeId×Value->H}{P:Program}
theorem aii{w:A_}:∀{e:C_ F_} {f:C_ B_} {g:C_ (DataW H)} {d:C_ MemPlace},DataW.TrodAll enc P w 0 (λ_=>true) true e f g d->∀b∈d,b.block<w.heap.size
 | [],_,_,_,c=>by
  obtain⟨rfl,rfl,rfl⟩:=trodAll_nil c;intro b a;cases a
 | _ :: _,_,_,_,c=>by
  obtain⟨k,l,m,n,p,q,rfl,rfl,rfl,⟨h,i⟩,j⟩:=trodAll_cons c;intro b a;rcases List.mem_append.1 a with a | a
  .exact DataW.trod_lt h _ _ _ i b a
  .exact aii j b a
theorem aih{w:A_}{d:Nat->Bool}{e:Bool}:∀{b:C_ F_} {f:C_ B_} {c:C_ (DataW H)} {g:C_ MemPlace},DataW.TrodAll enc P w 0 d e b f c g->c.length=b.length
 | [],_,_,_,a=>by
  obtain⟨rfl,rfl,rfl⟩:=trodAll_nil a;rfl
 | _ :: _,_,_,_,a=>by
  obtain⟨i,j,k,l,m,n,rfl,rfl,rfl,p,h⟩:=trodAll_cons a;simp[aih h]
theorem aif(h:laidOutB P=true){a i:A_}(j:Below a.heap.size a i):∀{d:C_ F_} {k:C_ B_} {l:C_ (DataW H)} {e:C_ MemPlace},(d.all λm=>P.readableRec m&&decide (m<P.types.size))=true ->
  DataW.TrodAll enc P a 0 (λ_=>true) true d k l e->(∀b∈e,b.block<a.heap.size)->DataW.TrodAll enc P i 0 (λn=>decide (n<a.heap.size)) true d k l e
 | [],_,_,_,_,f,_=>by
  obtain⟨rfl,rfl,rfl⟩:=trodAll_nil f;exact trodAll_mk0
 | _ :: _,_,_,_,c,f,p=>by
  obtain⟨s,t,u,v,w,n,rfl,rfl,rfl,q,r⟩:=trodAll_cons f;simp only[List.all_cons,Bool.and_eq_true,decide_eq_true_eq] at c;exact trodAll_cons_mk (Below.trod h c.1.1 c.1.2 q j λb g=>p b (AI4 _ g)) (aif h j c.2 r λb g=>p b (AI7 _ g))
def aBG{s:ChangeSpec}{f:Func}{d:F_}(l:laidOutB P=true)(m:(f.params.toList.all λe=>P.readableRec e&&decide (e<P.types.size))=true)(g:s.vars=[])
  (n:f.resultTypes=#[d])(p:P.underlying d=some .bool)(q:∀ds:C_ (DataW H),ds.length=f.params.toList.length->s.fn H ds = { results:=[.lit (.bool true)],args:=ds })
  {a h:A_}{args:Array B_}{ds r:C_ (DataW H)}{t:C_ MemPlace}(i:DataW.Whole enc P f.params.toList s.vars false a args.toList ds r t)(j:Ext a h) :
  s.post enc P f false true false false a args (.bool true) h:=by
 have u:=i;obtain⟨v,y,b,k,rfl,z,A⟩:=i;rw[g] at k;obtain⟨rfl,rfl⟩:=trodVars_none k;have w:=aii b;have c:=q ds (aih b);refine⟨ds,[],_,[],v,[],u,?_,?_,?_,j.frame _,λx=>by cases x⟩
 .rw[AG8,c,n];exact trodAll_mk1 (shut_bool p _)
 .rw[AG8,c];exact aif l j m b w
 .rw[AG8,c,g];rfl
variable{w:World}{base:Nat}{spare:Nat->Bool}{held:Bool}
theorem afd{α:Type}(n:Nat)(R:Nat->α->Prop)(h:∀a,a<n->∃d,R a d):∃b:C_ α,b.length=n/\∀a (c:a<b.length),R a b[a]:=by
 induction n with
 | zero=>exact⟨[],rfl,λa c=>absurd c (Og _)⟩
 | succ n g =>
  obtain⟨b,e,i⟩:=g λa c=>h a AW;obtain⟨d,j⟩:=h n AW;refine⟨b++[d],by simp[e],λa c=>?_⟩;by_cases f:a<b.length
  .rw[AJ3 f];exact i a f
  .have:a=n:=by simp at c;omega
   subst this;rw[AJ4 AW];simpa[e] using j
end
theorem akW{d:Type}{enc:F_×B_->d}{P:D_}{w:A_}{base:Nat}{m:Nat->Bool}{q:Bool}{f:Nat}{t e:F_}{n:Nat}{cs:C_ B_}{c:C_ ByteArray}{p:C_ MemPlace}
  (r:P.underlying t=some (.array n e))(s:P.underlying e=some .string)(u:P.cellsOf e=1)(v:P.cellsOf t=n)
  (h:DataW.trod enc P w base m q f t cs=some (.agg (c.map λa=>.lit (.string a.data.toList)),p)):cs=c.map Value.string:=by
 cases f with
 | zero=>simp[DataW.trod] at h
 | succ f =>
  simp only[DataW.trod,r,u,v,Nat.mul_one] at h;split at h
  .rename_i I;obtain⟨g,j,x⟩:=Option.map_eq_some_iff.1 h;have k:g.map (·.1)=c.map λa=>(DataW.lit (.string a.data.toList):DataW d):=by
    have:=congrArg Prod.fst x
    simpa using this
   have J:g.length=n:=by simpa using Lib.mapM_length j
   have K:c.length=n:=by
    have:=congrArg List.length k
    simp at this;omega
   apply List.ext_getElem?;intro b;by_cases y:b<n
   .obtain⟨L,z,A⟩:=Lib.mapM_at j b b (by simp[y]);obtain⟨a,B,rfl,_⟩:=DataW.trod_string s A;have C:cs[b]? = some (.string a):=by
     have:=congrArg (·[0]?) B
     simpa[List.getElem?_take,List.getElem?_drop] using this
    have i:(g.map (·.1))[b]? = some (DataW.lit (.string a.data.toList):DataW d):=by simp[z]
    rw[k] at i;simp only[List.getElem?_map,Option.map_eq_some_iff,DataW.lit.injEq,Lit.string.injEq] at i;obtain⟨l,G,e⟩:=i;have H:l=a:=by
     cases l;cases a;simp at e;simp[e]
    simp[C,G,H]
   .rw[List.getElem?_eq_none AW,List.getElem?_eq_none (by simp;omega)]
  .cases h
def aB9{P:D_}{b:A_}{name:String}{c:C_ ByteArray}{f:C_ (String×DataW Unit)}{g:Nat}{t e:F_}{n:Nat}
  (d:P.globalNamed name=some g)(i:(P.globals[g]?).map (·.type)=some t)(j:P.underlying t=some (.array n e))(k:P.underlying e=some .string)(l:P.cellsOf e=1)(m:P.cellsOf t=n)
  (h:laidMet P ((name,.agg (c.map λp=>.lit (.string p.data.toList))) :: f) b):fx b ⟨g,0,none⟩ (c.map Value.string):=by
 obtain⟨w,⟨x,y,z,A,B,C,q,r,s,u,_,_⟩,_⟩:=h;obtain rfl:=Option.some.inj (d.symm.trans q);obtain rfl:=Option.some.inj (i.symm.trans r);have e:=akW j k l m u;intro a G v
 have:=World.var?_cell d s a
 rw[show Addr.add ⟨g,0,none⟩ a=⟨g,a,none⟩ from by cases a<;>simp[Addr.add],this,Array.getElem?_toList.symm,e];exact v
end a8
namespace a8
open Go Go.RowKit
def Ext.grown{w0 w w':A_}{r:H_ Nat}(a:Ext w0 w)(c:w.grownBy w' r)(d:∀b,r=some b->w0.heap.size<=b):Ext w0 w':=Below.grown a c a.size d
def au0{w w':A_}{base:Nat}{e:F_}{sz:Nat}{v:B_}{n:Nat}{xs:C_ B_}(a:Ext w w')(h:w.ownsRow base e sz v n xs):w'.ownsRow base e sz v n xs:=by
 refine⟨h.1,?_⟩;rcases h.2 with b | ⟨c,cap,cur,rfl,d,f,rest⟩
 .exact .inl b
 .exact .inr ⟨c,cap,cur,rfl,d,a.obj f,rest⟩
def au1{w:A_}{base a:Nat}{e:F_}{sz:Nat}{v:B_}{n:Nat}{xs:C_ B_}(b:a<=base)(h:w.ownsRow base e sz v n xs):w.ownsRow a e sz v n xs:=by
 refine⟨h.1,?_⟩;rcases h.2 with c | ⟨d,cap,cur,rfl,f,rest⟩
 .exact .inl c
 .exact .inr ⟨d,cap,cur,rfl,T6 b f,rest⟩
def afW{w:A_}{base:Nat}{e:F_}{sz:Nat}{v:B_}{n:Nat}{xs:C_ B_}(h:w.ownsRow base e sz v n xs):∃d a,v = .slice d n a/\n<=a/\a<=maxLen/\(n≠0->d.isSome=true)/\∀c,d=some c->fx w c xs:=by
 rcases h.2 with ⟨rfl,rfl⟩ | ⟨f,a,cur,rfl,m,p,g,i,q,r⟩
 .exact⟨none,0,rfl,Fy _,AG2 _,λh=>absurd rfl h,λc b=>by cases b⟩
 .exact⟨_,a,rfl,g,i,λ_=>rfl,λc b=>by injection b with b;subst b;exact λj k l=>h.cells (g:=f) rfl j k l⟩
def au2{α:Type}{enc:α->C_ B_}{w:A_}{base:Nat}{e:F_}{sz:Nat}{v:B_}{xs:C_ α}(a:∀f,(enc f).length=sz)(h:w.ownsRow base e sz v xs.length (xs.flatMap enc)):a4 sz (Flat enc) w v xs:=by
 obtain⟨g,i,rfl,j,k,l,m⟩:=afW h;refine⟨g,i,rfl,j,k,λn=>l (by intro e;exact n (AG1 e)),λp q b r=>?_⟩;intro c t d;have s:c<sz:=by rw[<-a xs[b]];exact(List.getElem?_eq_some_iff.1 d).1
 rw[add_add];exact m p q _ _ (by rw[Rl a xs b c r s];exact d)
def AB9{P:D_}{i:B_->A_->Prop}{w:A_}{h e:F_}{sz b:Nat}{s:B_}{a:Addr}{m c:Nat}{t}{base n:Nat}{xs f:C_ B_}(j:w.ownsRow base e sz s n xs)(k:fx w a f)(l:f.length=m*sz)
  (p:∀q∈f,q.oneCell'=true)(r:n+m<=maxLen)(u:(n+m)*b<=140737488355328)(v:base<=w.heap.size)
  (x:∀g d,d.ownsRow base e sz g (n+m) (xs++f)->w.grownBy d s.ownBlock->i g d):lQ P h e sz b s (.slice (some a) m c) w i t :=
 _i λ⟨y,z,A,B,C,G,H,I,J⟩=>by
  obtain⟨g,d,K,L,M,_⟩:=run_append_own (P:=P) w base h h e z A sz b y B C G H I J s n xs j a m c f l k p r u v;exact⟨h,g,d,K,x g d L M⟩
theorem add_zero(a:Addr):a.add 0=a:=by simp[Addr.add]
theorem a4.cap{α:Type}{sz:Nat}{R:A_->Addr->α->Prop}{w:A_}{a:H_ Addr}{n c:Nat}{xs:C_ α}(h:a4 sz R w (.slice a n c) xs):xs.length<=c:=by
 obtain⟨f,g,b,d,i,j,k⟩:=h.ex;injection b with l m e
 subst e;exact d
def a4.take{α:Type}{sz:Nat}{R:A_->Addr->α->Prop}{w:A_}{a:H_ Addr}{n c:Nat}{xs:C_ α}(h:a4 sz R w (.slice a n c) xs)(k:Nat)(f:k<=xs.length) :
  a4 sz R w (.slice (if c=0 then a else a.map (·.add (0*sz))) (k - 0) (c - 0)) (xs.take k):=by
 obtain⟨u,v,b,x,g,i,j⟩:=h.ex;injection b with l m p
 subst l m p;have b:(if c=0 then a else a.map (·.add (0*sz)))=a:=by
  split
  .rfl
  .cases a with
   | none=>rfl
   | some d=>simp[add_zero]
 rw[b];refine⟨a,c,by simp[List.length_take,Nat.min_eq_left f],by simp[List.length_take];omega,g,λq=>i (by intro b;subst b;simp at q),λd r e s=>?_⟩;have t:e<xs.length:=by simp[List.length_take] at s;omega
 rw[AL2];exact j d r e t
theorem abu{α:Type}{enc:α->C_ B_}{sz:Nat}(g:∀h,(enc h).length=sz):∀(c:C_ α) (b:Nat) (d:B_),(c.flatMap enc)[b]? = some d->∃e f,∃a:e<c.length,f<sz/\b=e*sz+f/\(enc c[e])[f]? = some d
 | [],b,d,a=>by simp at a
 | h :: c,b,d,a=>by
  rw[AJ5] at a;by_cases i:b<sz
  .rw[List.getElem?_append_left (by rw[g];exact i)] at a;exact⟨0,b,Ah,i,Ah,a⟩
  .rw[List.getElem?_append_right (by rw[g];omega),g] at a;obtain⟨e,f,j,k,m,l⟩:=abu g c (b - sz) d a;exact⟨e+1,f,by simpa using j,k,by rw[AI2];omega,by simpa using l⟩
def a4.flat{α:Type}{enc:α->C_ B_}{sz:Nat}{R:A_->Addr->α->Prop}{w:A_}{a:Addr}{n c:Nat}{xs:C_ α}(e:∀b,(enc b).length=sz)(f:∀a b,R w a b->fx w a (enc b))
  (h:a4 sz R w (.slice (some a) n c) xs):fx w a (xs.flatMap enc):=by
 intro g d i;obtain⟨j,k,l,p,rfl,m⟩:=abu e xs g d i
 have:=f _ _ (h.at j l) k d m
 rwa[add_add] at this
theorem mW{α:Type}{enc:α->C_ B_}{sz:Nat}(b:∀c,(enc c).length=sz):∀(a:C_ α),(a.flatMap enc).length=a.length*sz
 | []=>Ah
 | c :: a=>by rw[AJ5,Jv,mW b a,b,AH3,AI2];omega
def _x{P:D_}{Q:fG->Fr->A_->Prop}{S:Fr}{w:A_}{a b:fg}{t}(f:Fr->A_->Prop)(g:fa P a (j4 f Q ⟨⟩) S w ⟨⟩)
  (h:∀d e,(∀t,a.gr.contains t=false->d t=S t)->f d e->fa P b Q d e ⟨⟩):fa P (.seq a b) Q S w t:=by
 unfold fa j4 at *;exact rW a _ _ S w (λi d e j c=>match i,c with | .normal,c=>h d e j c | .exit _,c=>c | .ret,c=>c | .ib _,c=>c) g
def _8{P:D_}{c:F_}{e f:G_}{d:B_->Prop}{a b:Bool}{t}(h:P.underlying c=some .bool)(g:d (.bool (a != b))):h4 P .neq c e f (.bool a) (.bool b) d t :=
 _Q (v:=.bool (a != b)) (λi=>by cases a<;>cases b<;>simp[eqGuard_at_bool,binOp,run_equal_bool i c _ _ h]) g
def auZ{w:A_}{base:Nat}{e:F_}{sz b:Nat}(a:base<=b)(h:w.heap[b]? = some (.cells #[] e)):w.ownsRow base e sz (.slice (some ⟨b,0,none⟩) 0 0) 0 [] :=
 ⟨Ah,.inr ⟨b,0,#[],rfl,a,h,Fy _,AG2 _,Ah,Ah⟩⟩
end a8
namespace a8
open Go Go.RowKit
class nM{α:Type}(R:World->Addr->α->Prop)(enc:outParam (α->List Value)):Prop where
 Jy:∀w a x,R w a x->fx w a (enc x)
instance aBd{α:Type}(enc:α->List Value):nM (Flat enc) enc:=⟨λ_ _ _ h=>h⟩
section
variable{P:Program}{Q:fG->Fr->World->Prop}{a9:Value->Prop}{K:Value->World->Prop}{S:Fr}{w w0:World}
def _H{b j:Nat}{c:C_ B_}{a:F_}{f:Nat×Nat}{v:B_}{t}(d:w0.heap[b]? = some (.cells c.toArray a f))(e:Ext w0 w)(g:c[j]? = some v)(h:a9 v):tR (.pointer (some (Addr.add ⟨b,0,none⟩ j))) w a9 t :=
 L_ (gD (e.obj d) (by simpa using g)) h
def _C{b:Nat}{c:C_ B_}{a:F_}{f:Nat×Nat}{v:B_}{t}(d:w0.heap[b]? = some (.cells c.toArray a f))(e:Ext w0 w)(g:c[0]? = some v)(h:a9 v):tR (.pointer (some ⟨b,0,none⟩)) w a9 t :=
 L_ (C3 (e.obj d) (by simpa using g)) h
def R_{b n:Nat}{c:C_ B_}{a:F_}{f:Nat×Nat}{t}(d:w0.heap[b]? = some (.cells c.toArray a f))(e:Ext w0 w)(g:c.length=n)(h:a9 (.agg c.toArray)):yK n (.pointer (some ⟨b,0,none⟩)) w a9 t :=
 Y_ (gP (e.obj d)) g h
def _L{α:Type}{sz i j n c:Nat}{R:A_->Addr->α->Prop}{enc:α->C_ B_}[nM R enc]{a:Addr}{xs:C_ α}{v:B_}{t}(b:a4 sz R w0 (.slice (some a) n c) xs)(d:Ext w0 w)(e:i<xs.length)(f:(enc xs[i])[j]? = some v)
  (g:a9 v):tR (.pointer (some ((a.add (i*sz)).add j))) w a9 t:=L_ (d.cell (nM.Jy _ _ _ (b.at i e) j v f)) g
def _S{α:Type}{i n c:Nat}{R:A_->Addr->α->Prop}{enc:α->C_ B_}[nM R enc]{a:Addr}{xs:C_ α}{v:B_}{t}(d:a4 1 R w0 (.slice (some a) n c) xs)(e:Ext w0 w)(f:i<xs.length)(g:(enc xs[i])[0]? = some v)
  (h:a9 v):tR (.pointer (some (a.add (i*1)))) w a9 t:=by
 have b:=nM.Jy (R:=R) _ _ _ (d.at i f) 0 v g;rw[add_zero] at b;exact L_ (e.cell b) h
def _T{α:Type}{sz i n c m:Nat}{R:A_->Addr->α->Prop}{enc:α->C_ B_}[nM R enc]{a:Addr}{xs:C_ α}{t}(b:a4 sz R w0 (.slice (some a) n c) xs)(d:Ext w0 w)(e:i<xs.length)(f:(enc xs[i]).length=m)
  (g:a9 (.agg (enc xs[i]).toArray)):yK m (.pointer (some (a.add (i*sz)))) w a9 t:=Y_ ((nM.Jy _ _ _ (b.at i e)).ext d) f g
def _M{p:Prop}[Decidable p]{A B:Prop}{t}(h:p)(a:A):qg (.bool (decide p)) A B t:=I_ (λ_=>a) λb=>absurd h b
def _N{p:Prop}[Decidable p]{A B:Prop}{t}(h:¬p)(a:B):qg (.bool (decide p)) A B t:=I_ (λb=>absurd b h) λ_=>a
def _F{a:Bool}{A B:Prop}{t}(h:a=true)(c:A):qg (.bool a) A B t:=N_ (λ_=>c) λb=>by rw[h] at b;cases b
def _G{a:Bool}{A B:Prop}{t}(h:a=false)(c:B):qg (.bool a) A B t:=N_ (λb=>by rw[h] at b;cases b) λ_=>c
def _U{sz:Nat}{a:Addr}{len cap:Nat}{k:IntKind}{i:Nat}{t}(h:i<len)(b:a9 (.pointer (some (a.add (i*sz))))):Fc sz (.slice (some a) len cap) (.int k (i:Int)) a9 t:=M_ i rfl h b
def _O{d n:Nat}{e:F_}{cs:Array B_}{x:G_}{r:C_ Step}{f:Fr->A_->Prop}{vs:C_ B_}{h t}(i:∀c,bq (cz S d c) x = .agg vs.toArray)(j:vs.length=n)(k:cs.size=n)(l:∀m∈vs,m.oneCell'=true)
  (p:∀b a,w.heap.size<=a->Ext w b->b.heap[a]? = some (.cells vs.toArray e)->qW P r (cz S d (.pointer (some ⟨a,0,none⟩))) b f ⟨⟩) :
  Fi e cs w (λc q=>qW P (⟨none,none,.e (.mJ n (.tmp d) x)⟩ :: r) (put S (some d) c) q f h) t:=by
 refine O_ λb a g s u=>?_;simp -dsimp only[Wo,Wp,Wq,Wr,Ws,Wt,Wu,Wv,Ww,Wx,Wz,B1,WA,WB,WC,WD,WE,WG,WH,cA,WI,WJ,WK,WL,WM,WN,WO,WQ,WR,WS,WV,WW,WX,WY,WZ,W0,W1,W2,W3,W4,W7,W8,dm,g7,dO,hg,ks,hh,jc,fT,Xb,Xc,Xd,Xe,Xf,Xg,Xh,Xi,Xj,Xk,Xl,H1,Xm,Xn,Xo,Xp,Xq,Xr,Xs,Xt,Xu,Xv,Xw,Xx,Xy,Xz,XA,XB,XC,XD,XF,XG,XH,XI,XJ,XK,XL,XM,XN,XO,XR,XS,M2,XT,XU,XV,XW,XX,XY,XZ,X1,X2,X3,X4,X5,X6,X7,X8,X9,Ya,Yb,Yc,Yd,Ye,Yf,Yg,Yh,Yi,Yj,Yk,Yl,Ym,Yn,Yo,Yp,Yq,Yr,Ys,Yt,Yu,Yx,Fm,Fo,Yy,Yz,YA,YB,YC,YD,YE,YK,YL,YM,k3,YN,YO,YP,YQ,YR,YS,YU,YV,YW,YX,YY,YZ,Y0,Y1,Y2,Y3,Y4,Y5,Y6,Y7,Y8,Y9,Za,Zb,Zc,Zd,Ze,g0,eT,jd,o2,j7,j8,Nat.reduceAdd,Nat.reduceEqDiff,reduceIte,reduceCtorEq,dq,i];refine X_ (cs:=vs.toArray) u k (by simpa using j) (by simpa using l) λv y z=>?_;exact p v a g (y.ext s g) z
theorem _k{b:fg}{t}(i f:Nat)(g:Nat->Fr->A_->Prop)(m:S i = .I 0)(n:g 0 S w)
  (p:∀(a:Nat) d e,(∀t,b.gr.contains t=false->d t=S t)->a<=f->d i = .I a->g a d e ->
   fa P b (j4 (λh j=>a<f/\h i = .I ((a:Int)+1)/\g (a+1) h j) Q ⟨⟩) d e ⟨⟩):CI P b Q S w t:=by
 refine Z_ (λS w => ∃a:Nat,a<=f/\S i = .I a/\g a S w) (λS _=>(f - intOf (S i)).toNat) ⟨0,AG2 _,by simpa using m,n⟩ ?_;rintro d e q ⟨a,r,k,s⟩;have c:=p a d e q r k s;unfold fa j4 at *;refine rW b _ _ d e (λu h j _ c=>?_) c
 match u,c with
 | .normal,⟨v,l,x⟩=>exact⟨⟨a+1,v,by simpa using l,x⟩,by simp[k,l,intOf];omega⟩
 | .exit _,c=>exact c
 | .ret,c=>exact c
 | .ib _,c=>exact c
def _I{b:A_->Prop}{d:TypeDesc}{r:Nat}{k v:B_}{es:Array MapEntry}{c:Nat}{t}(e:w.heap[r]? = some (.map es c))(f:Instr.findNow d k es.toList 0=some none)
  (g:∀a,dY r w a->a.heap[r]? = some (.map (es.push { key:=k,val:=v,born:=c }) (c+1))->b a):Fh d (.map (some r)) k v w b t :=
 _2 e f (g _ (dY.fZ _ _ _) (Ik (ca e)))
def _l{sz:Nat}{a:H_ Addr}{n cap:Nat}{x:G_}{k:IntKind}{t}(h:Nat)(b:bq S x = .int k (h:Int))(c:h<=cap)(d:a9 (.slice a h cap)):s0 S sz (.slice a n cap) none (some x) none a9 t:=by
 refine _K 0 h cap (by simp[fb]) (by simp[fb,b]) (by simp[fb]) ⟨AG2 _,c,Fy _⟩ Ah ?_;have e:(if cap=0 then a else a.map (·.add (0*sz)))=a:=by
  split
  .rfl
  .cases a with
   | none=>rfl
   | some f=>simp[add_zero]
 rw[e];exact d
def _9{sz:Nat}{a:H_ Addr}{n cap:Nat}{x:G_}{k:IntKind}{t}(l:Nat)(c:bq S x = .int k (l:Int))(b:l<=n/\n<=cap)(d:a9 (.slice (if cap=l then a else a.map (·.add (l*sz))) (n - l) (cap - l))) :
  s0 S sz (.slice a n cap) (some x) none none a9 t :=
 _K l n cap (by simp[fb,c]) (by simp[fb]) (by simp[fb]) ⟨b.1,b.2,Fy _⟩ Ah d
end
def a4.head{α:Type}{sz:Nat}{R:A_->Addr->α->Prop}{w:A_}{a:H_ Addr}{n c:Nat}{xs:C_ α}(h:a4 sz R w (.slice a n c) xs)(k:Nat)(b:k<=xs.length):a4 sz R w (.slice a k c) (xs.take k):=by
 have:=h.take k b
 have d:(if c=0 then a else a.map (·.add (0*sz)))=a:=by
  split
  .rfl
  .cases a with
   | none=>rfl
   | some e=>simp[add_zero]
 rw[d] at this;exact this
theorem a4.len{α:Type}{sz:Nat}{R:A_->Addr->α->Prop}{w:A_}{a:H_ Addr}{n c:Nat}{xs:C_ α}(h:a4 sz R w (.slice a n c) xs):n=xs.length/\n<=c/\c<=maxLen:=by
 obtain⟨i,j,b,d,e,_⟩:=h.ex;injection b with k f g
 subst f g;exact⟨rfl,d,e⟩
def a4.tail{α:Type}{sz:Nat}{R:A_->Addr->α->Prop}{w:A_}{a:H_ Addr}{n c:Nat}{xs:C_ α}(h:a4 sz R w (.slice a n c) xs)(l:Nat)(t:l<=xs.length) :
  a4 sz R w (.slice (if c=l then a else a.map (·.add (l*sz))) (n - l) (c - l)) (xs.drop l):=by
 obtain⟨d,g,f⟩:=h.len;subst d;obtain⟨u,v,e,x,y,i,j⟩:=h.ex;injection e with d g f
 subst d f;refine⟨_,_,by rw[AG5],by rw[AG5];omega,AW,λk=>?_,λm b p q=>?_⟩
 .have:xs≠[]:=by intro e;subst e;simp at k
  have:=i this
  split
  .exact this
  .cases a with
   | none=>cases this
   | some m=>rfl
 .have r:l+p<xs.length:=by rw[AG5] at q;omega
  rw[if_neg AW] at b;cases a with
  | none=>cases b
  | some s =>
   simp only[Option.map_some,Option.some.injEq] at b;subst b;rw[add_add,<-AI2,AK3];exact j s rfl _ r
structure Mod(A:Nat->Prop)(w w':World):Prop where
 os:w'.os=w.os
 tape:w'.tape=w.tape
 output:w'.output=w.output
 size:w.heap.size<=w'.heap.size
 block:∀k,k<w.heap.size->¬A k->w'.heap[k]? = w.heap[k]?
def Mod.refl(A:Nat->Prop)(w:A_):Mod A w w:=⟨rfl,rfl,rfl,Fy _,λ_ _ _=>rfl⟩
def Mod.trans{A:Nat->Prop}{a b c:A_}(h:Mod A a b)(k:Mod A b c):Mod A a c :=
 ⟨k.os.trans h.os,k.tape.trans h.tape,k.output.trans h.output,T6 h.size k.size,λd e f=>(k.block d (AI8 e h.size) f).trans (h.block d e f)⟩
theorem Mod.then{A B:Nat->Prop}{a b c:A_}(h:Mod B a b)(k:Mod A b c)(g:∀d,d<a.heap.size->A d->B d):Mod B a c :=
 ⟨k.os.trans h.os,k.tape.trans h.tape,k.output.trans h.output,T6 h.size k.size,λd e f=>(k.block d (AI8 e h.size) λi=>f (g d e i)).trans (h.block d e f)⟩
def Ext.mod{A:Nat->Prop}{w w':A_}(h:Ext w w'):Mod A w w':=⟨h.os,h.tape,h.output,h.size,λ_ a _=>h.heap a⟩
def dY.mod{A:Nat->Prop}{b:Nat}{w w':A_}(h:dY b w w')(a:A b):Mod A w w':=⟨h.os,h.tape,h.output,by rw[h.size];exact Fy _,λc _ d=>h.block c λe=>d (e ▸ a)⟩
def Mod.grown{A:Nat->Prop}{w w':A_}{row:H_ Nat}(h:w.grownBy w' row)(b:∀a,row=some a->A a):Mod A w w':=⟨h.os,h.tape,h.output,h.size,λa c d=>h.block a c λe=>d (b a e.symm)⟩
theorem Mod.ext{A:Nat->Prop}{w0 w w':A_}(h:Mod A w w')(a:Ext w0 w)(d:∀b,b<w0.heap.size->¬A b):Ext w0 w' :=
 ⟨h.os.trans a.os,h.tape.trans a.tape,h.output.trans a.output,T6 a.size h.size,λb c=>(h.block b (AI8 c a.size) (d b c)).trans (a.heap c)⟩
theorem Mod.obj{A:Nat->Prop}{w w':A_}{k:Nat}{a:Obj}(h:Mod A w w')(c:¬A k)(b:w.heap[k]? = some a):w'.heap[k]? = some a:=(h.block k (ca b) c).trans b
def Mod.Ct{A B:Nat->Prop}{w w':A_}(h:Mod A w w')(b:∀a,A a->B a):Mod B w w':=⟨h.os,h.tape,h.output,h.size,λa c d=>h.block a c λe=>d (b a e)⟩
def aR{α:Type}(enc:α->C_ B_)(e:F_)(sz base:Nat)(w:A_)(v:B_)(xs:C_ α):Prop:=w.ownsRow base e sz v xs.length (xs.flatMap enc)
section
variable{α:Type}{enc:α->List Value}{e:TypeId}{sz base:Nat}{w w':World}{v:Value}{xs:List α}
def aR.nil(enc:α->C_ B_)(e:F_)(sz base:Nat)(w:A_):aR enc e sz base w (.slice none 0 0) []:=World.ownsRow_nil w base e sz
theorem aR.ext(a:Ext w w')(h:aR enc e sz base w v xs):aR enc e sz base w' v xs:=au0 a h
def aR.wr{b:Nat}(a:dY b w w')(g:b<base)(h:aR enc e sz base w v xs):aR enc e sz base w' v xs :=
 World.ownsRow.kept (row:=some b) h ⟨a.os,a.tape,a.output,by rw[a.size];exact Fy _,λc _ d=>a.block c (λe=>d (by rw[e]))⟩ (by
  cases f:v.ownBlock with
  | none=>exact .inl rfl
  | some c=>exact .inr (by have:=(World.ownsRow.lt h c f).1;intro e;injection e with e;omega))
def aR.lt(h:aR enc e sz base w v xs):∀a,v.ownBlock=some a->base<=a/\a<w.heap.size:=World.ownsRow.lt h
def aR.form(h:aR enc e sz base w v xs):∃b a,v = .slice b xs.length a/\xs.length<=a/\a<=maxLen:=by
 obtain⟨b,a,c,d,f,_⟩:=afW h;exact⟨b,a,c,d,f⟩
def aR.iw(a:∀b,(enc b).length=sz)(h:aR enc e sz base w v xs):a4 sz (Flat enc) w v xs:=au2 a h
def aR.head{i:H_ Addr}{n cap:Nat}(b:∀j,(enc j).length=sz)(h:aR enc e sz base w (.slice i n cap) xs)(k:Nat)(l:k<=xs.length):aR enc e sz base w (.slice i k cap) (xs.take k):=by
 have m:∀(xs:C_ α) (k:Nat),(xs.flatMap enc).take (k*sz)=(xs.take k).flatMap enc:=by
  intro xs
  induction xs with
  | nil=>intro k;simp
  | cons j xs p =>
   intro k;cases k with
   | zero=>simp
   | succ k =>
    simp only[List.flatMap_cons,List.take_succ_cons];rw[List.take_append,b,show(k+1)*sz - sz=k*sz from by rw[AI2];omega,p,Im (by rw[b,AI2];omega)]
 have a:(xs.take k).length=k:=by simp[List.length_take];omega
 refine⟨by rw[a,mW b,a],?_⟩;rcases h.2 with ⟨c,d⟩ | ⟨q,x,cur,c,d,r,y,s,t,u⟩
 .injection c with f v g
  subst f g
  have:xs.length=0:=d
  exact .inl ⟨by congr 1;omega,AW⟩
 .injection c with f v g
  subst f g;refine .inr ⟨q,cap,cur,by rw[a],d,r,AW,s,t,?_⟩;rw[a,<-m,<-u,AI9,Nat.min_eq_left (AJ0 _ l)]
def _m{P:D_}{h:B_->A_->Prop}{i:F_}{b:Nat}{s:B_}{a:Addr}{m c:Nat}{ys:C_ α}{t}(j:aR enc e sz base w s xs)(k:∀l,(enc l).length=sz)(n:fx w a (ys.flatMap enc))(p:m=ys.length)
  (q:∀f,∀g∈enc f,g.oneCell'=true)(r:(xs.length+ys.length)*b<=140737488355328)(u:xs.length+ys.length<=maxLen)(v:base<=w.heap.size)
  (x:∀d w',aR enc e sz base w' d (xs++ys)->w.grownBy w' s.ownBlock->h d w'):lQ P i e sz b s (.slice (some a) m c) w h t:=by
 subst p;refine AB9 j n (mW k ys) (λg y=>by obtain⟨f,_,z⟩:=List.mem_flatMap.1 y;exact q f g z) u r v λd w' A B=>x d w' ?_ B;unfold aR;rw[Jv,AJ6];exact A
end
end a8
namespace o
open Go Go.RowKit a8
structure Node where
 op:Int
 n:Int
structure Act where
 kind:Int
 to:Int
 loc:Int
 index:List Node
 value:List Node
structure et where
 name:ByteArray
 from_:Int
 to:Int
 guard:List Node
 b6:List Act
 fair:Bool
structure ee where
 name:ByteArray
 over:Int
 cb:Int
 vars:List Var
 cL:List et
structure nh where
 name:ByteArray
 expr:List Node
structure Model where
 scalars:List Scalar
 vars:List Var
 ay:List ed
 procs:List ee
 props:List nh
structure c7 where
 proc:Int
 elem:Int
deriving DecidableEq
structure Ref where
 inst:Int
 cmd:Int
deriving DecidableEq
def c7.enc(x:c7):C_ B_:=[.int .i64 x.proc,.int .i64 x.elem]
def Ref.enc(x:Ref):C_ B_:=[.int .i64 x.inst,.int .i64 x.cmd]
def Node.enc(x:Node):C_ B_:=[.int .i64 x.op,.int .i64 x.n]
def eA(n:Int):Prop := -9223372036854775808<=n/\n<=9223372036854775807
structure Node.ok(x:Node):Prop where
 op:eA x.op
 n:eA x.n
structure AB(w:World)(a:Addr)(x:Node):Prop where
 cells:fx w a x.enc
 ok:x.ok
theorem AB.ext(w w':A_)(a:Addr)(x:Node)(b:Ext w w')(h:AB w a x):AB w' a x:=⟨h.cells.ext b,h.ok⟩
abbrev fH(w:A_)(v:B_)(l:C_ Node):Prop:=a4 2 AB w v l
theorem fH.ext{w w':A_}{v:B_}{l:C_ Node}(a:Ext w w')(h:fH w v l):fH w' v l:=a4.ext AB.ext a h
def Act.enc(x:Act)(a b:B_):C_ B_:=[.int .i64 x.kind,.int .i64 x.to,.int .i64 x.loc,a,b]
def Ay(w:A_)(a:Addr)(x:Act):Prop := ∃b c,fx w a (x.enc b c)/\fH w b x.index/\fH w c x.value
theorem Ay.ext(w w':A_)(a:Addr)(x:Act)(b:Ext w w')(h:Ay w a x):Ay w' a x:=let ⟨c,d,e,f,g⟩:=h; ⟨c,d,e.ext b,f.ext b,g.ext b⟩
abbrev oq(w:A_)(v:B_)(l:C_ Act):Prop:=a4 5 Ay w v l
theorem oq.ext{w w':A_}{v:B_}{l:C_ Act}(a:Ext w w')(h:oq w v l):oq w' v l:=a4.ext Ay.ext a h
def et.enc(x:et)(a b:B_):C_ B_:=[.string x.name,.int .i64 x.from_,.int .i64 x.to,a,b,.bool x.fair]
def Az(w:A_)(a:Addr)(x:et):Prop:=kq x.name/\∃b c,fx w a (x.enc b c)/\fH w b x.guard/\oq w c x.b6
theorem Az.ext(w w':A_)(a:Addr)(x:et)(b:Ext w w')(h:Az w a x):Az w' a x:=let ⟨c,d,e,f,g,i⟩:=h; ⟨c,d,e,f.ext b,g.ext b,i.ext b⟩
abbrev sX(w:A_)(v:B_)(l:C_ et):Prop:=a4 6 Az w v l
theorem sX.ext{w w':A_}{v:B_}{l:C_ et}(a:Ext w w')(h:sX w v l):sX w' v l:=a4.ext Az.ext a h
theorem hC.ext{w w':A_}{v:B_}{l:C_ Scalar}(a:Ext w w')(h:hC w v l):hC w' v l:=a4.ext jM.ext a h
theorem jO.ext{w w':A_}{v:B_}{l:C_ Var}(a:Ext w w')(h:jO w v l):jO w' v l:=a4.ext ra.ext a h
theorem ot.ext{w w':A_}{v:B_}{l:C_ ed}(a:Ext w w')(h:ot w v l):ot w' v l:=a4.ext r5.ext a h
def ee.enc(x:ee)(a dI:B_):C_ B_:=[.string x.name,.int .i64 x.over,.int .i64 x.cb,a,dI]
def AD(w:A_)(a:Addr)(x:ee):Prop:=kq x.name/\∃b dI,fx w a (x.enc b dI)/\jO w b x.vars/\sX w dI x.cL
theorem AD.ext(w w':A_)(a:Addr)(x:ee)(b:Ext w w')(h:AD w a x):AD w' a x:=let ⟨c,d,e,f,g,i⟩:=h; ⟨c,d,e,f.ext b,g.ext b,i.ext b⟩
abbrev r4(w:A_)(v:B_)(l:C_ ee):Prop:=a4 5 AD w v l
theorem r4.ext{w w':A_}{v:B_}{l:C_ ee}(a:Ext w w')(h:r4 w v l):r4 w' v l:=a4.ext AD.ext a h
def CC(w:A_)(cs:C_ B_)(c:et):Prop:=kq c.name/\∃a b,cs=c.enc a b/\fH w a c.guard/\oq w b c.b6
theorem CC.ext{w w':A_}{cs:C_ B_}{c:et}(a:Ext w w')(h:CC w cs c):CC w' cs c:=let ⟨b,d,e,f,g,i⟩:=h; ⟨b,d,e,f,g.ext a,i.ext a⟩
def yN(w:A_)(cs:C_ B_)(p:ee):Prop:=kq p.name/\∃a dI,cs=p.enc a dI/\jO w a p.vars/\sX w dI p.cL
theorem yN.ext{w w':A_}{cs:C_ B_}{p:ee}(a:Ext w w')(h:yN w cs p):yN w' cs p:=let ⟨b,c,d,e,f,g⟩:=h; ⟨b,c,d,e,f.ext a,g.ext a⟩
def nh.enc(x:nh)(a:B_):C_ B_:=[.string x.name,a]
def CN(w:A_)(a:Addr)(x:nh):Prop:=kq x.name/\∃b,fx w a (x.enc b)/\fH w b x.expr
theorem CN.ext(w w':A_)(a:Addr)(x:nh)(b:Ext w w')(h:CN w a x):CN w' a x:=let ⟨c,d,e,f⟩:=h; ⟨c,d,e.ext b,f.ext b⟩
abbrev CM(w:A_)(v:B_)(l:C_ nh):Prop:=a4 2 CN w v l
theorem CM.ext{w w':A_}{v:B_}{l:C_ nh}(a:Ext w w')(h:CM w v l):CM w' v l:=a4.ext CN.ext a h
structure eu(w:World)(cs:List Value)(m:Model):Prop where
 ex:∃v0 v1 v2 eB v4,cs=[v0,v1,v2,eB,v4]/\hC w v0 m.scalars/\jO w v1 m.vars/\ot w v2 m.ay/\r4 w eB m.procs/\CM w v4 m.props
theorem eu.ext{w w':A_}{cs:C_ B_}{m:Model}(a:Ext w w')(h:eu w cs m):eu w' cs m :=
 let ⟨v0,v1,v2,b,v4,c,d,e,f,g,i⟩:=h.ex
 ⟨v0,v1,v2,b,v4,c,d.ext a,e.ext a,f.ext a,g.ext a,i.ext a⟩
instance aBg:nM AB Node.enc:=⟨λ_ _ _ h=>h.cells⟩
instance aBh:nM jM Scalar.enc:=⟨λ_ _ _ h=>h.cells⟩
instance aBi:nM ra Var.enc:=⟨λ_ _ _ h=>h.cells⟩
instance aBc:nM r5 ed.enc:=⟨λ_ _ _ h=>h.cells⟩
end o
namespace o
open Go
structure Scope where
 scalars:List Scalar
 vars:List Var
 ay:List ed
 procs:List ee
 locals:List Var
 self:Int
structure Env where
 vars:List (List Int)
 lens:List Int
 locals:List Int
 at_:List (List Int)
 self:Int
def nth{α:Type}(l:C_ α)(n:Int):H_ α:=if 0<=n then l[n.toNat]? else none
theorem ir{α:Type}{l:C_ α}{n:Int}(h:0<=n)(a:n<l.length):nth l n=some (l[n.toNat]' AW):=by
 unfold nth;rw[if_pos h,List.getElem?_eq_getElem]
theorem hz{α:Type}{l:C_ α}{n:Int}(h:n<0\/(l.length:Int)<=n):nth l n=none:=by
 unfold nth;split
 .rw[List.getElem?_eq_none AW]
 .rfl
def within(n:Int):Bool:=decide (-1048576<=n/\n<=1048576)
def tell(f:Int->Int->Int)(a b:Int):Int×Bool:=if within a&&within b&&within (f a b) then (f a b,true) else (0,false)
def bit(b:Bool):Int:=if b then 1 else 0
def ej(op:Int):Int:=if op=3 then 1 else if 1<=op/\op<=8 then 0 else if op=9\/op=10 then 1 else if 11<=op/\op<=19 then 2 else -1
def BN(op:Int):Bool:=decide (9<=op/\op<=19)
structure pA where
 parts:Int
 iZ:Int
 makes:Int
 xa:Int->Int->Int×Bool
def wz(a:Int)(p:Int->Int->Bool):pA:=⟨2,a,1,λb c=>(bit (p b c),true)⟩
def gS(x:Int):H_ pA :=
 if x=9 then some ⟨1,1,1,λa _=>(bit (decide (a=0)),true)⟩
 else if x=10 then some ⟨1,0,0,λa _=>tell (· - ·) 0 a⟩
 else if x=11 then some ⟨2,0,0,tell (· + ·)⟩
 else if x=12 then some ⟨2,0,0,tell (· - ·)⟩
 else if x=13 then some ⟨2,0,0,tell (· * ·)⟩
 else if x=14 then some (wz (-1) λa b=>decide (a=b))
 else if x=15 then some (wz (-1) λa b => !decide (a=b))
 else if x=16 then some (wz 0 λa b=>decide (a<b))
 else if x=17 then some (wz 0 λa b=>decide (a<=b))
 else if x=18 then some (wz 1 λa b => !decide (a=0) && !decide (b=0))
 else if x=19 then some (wz 1 λa b => !decide (a=0) || !decide (b=0))
 else none
def afM{x:Int}(h:BN x=false):gS x=none:=by
 have a:¬(9<=x/\x<=19):=by simpa[BN] using h
 unfold gS
 repeat rw[if_neg AW]
def B5{x:Int}{a:pA}(h:gS x=some a):a.parts=ej x/\BN x=true:=by
 unfold gS at h
 repeat' split at h
 all_goals first | (cases h;subst_vars;decide) | cases h
def stepG(f:Node->C_ Int->Int×Int)(x:Node)(st:C_ Int):Int×C_ Int :=
 if ej x.op<0 then (3,st) else if (st.length:Int)<ej x.op then (4,st)
 else if (f x st).2≠0 then ((f x st).2,st)
 else if (st.take (st.length - (ej x.op).toNat)++[(f x st).1]).length > 12 then (12,st) else (0,st.take (st.length - (ej x.op).toNat)++[(f x st).1])
def e7(f:Node->C_ Int->Int×Int):C_ Node->C_ Int->Int×C_ Int
 | [],st=>(0,st)
 | a :: b,st=>if (stepG f a st).1≠0 then stepG f a st else e7 f b (stepG f a st).2
def ma(f:Node->C_ Int->Int×Int)(e:C_ Node):Int×Int :=
 if e.length > 24 then (0,5) else if e.length=0 then (0,4)
 else if (e7 f e []).1≠0 then (0,(e7 f e []).1) else if (e7 f e []).2.length > 1 then (0,5) else ((e7 f e []).2.headD 0,0)
theorem Ot(f:Node->C_ Int->Int×Int):∀(b c:C_ Node) (a:C_ Int),e7 f (b++c) a=if (e7 f b a).1≠0 then e7 f b a else e7 f c (e7 f b a).2
 | [],c,a=>by simp[e7]
 | e :: b,c,a=>by
  simp only[List.cons_append,e7];by_cases d:(stepG f e a).1=0
  .simp only[d,ne_eq,not_true_eq_false,if_false];exact Ot f b c _
  .simp[d]
def EB{f:Node->C_ Int->Int×Int}{e:C_ Node}{k:Nat}{st:C_ Int}(b:k<e.length)(h:e7 f (e.take k) []=(0,st)):e7 f (e.take (k+1)) []=stepG f e[k] st:=by
 rw[NZ b,Ot,h];simp only[ne_eq,not_true_eq_false,if_false,e7];split
 .rfl
 .rename_i a;simp at a;exact Prod.ext a.symm rfl
def ag7{f:Node->C_ Int->Int×Int}{e:C_ Node}{k:Nat}{q:Int×C_ Int}(h:e7 f (e.take k) []=q)(a:q.1≠0):e7 f e []=q:=by
 have:=Ot f (e.take k) (e.drop k) []
 rw[AH7,h,if_pos a] at this;exact this
def Vq{f:Node->C_ Int->Int×Int}{e:C_ Node}(g:e.length<=24){k:Nat}(b:k<e.length){st:C_ Int}(h:e7 f (e.take k) []=(0,st))(a:(stepG f e[k] st).1≠0):ma f e=(0,(stepG f e[k] st).1):=by
 have c:=EB b h;have d:=ag7 c a;unfold ma;rw[if_neg AW,if_neg AW,d,if_pos a]
def axU{f:Node->C_ Int->Int×Int}{x:Node}{st:C_ Int}(h:(stepG f x st).1=0):1<=(stepG f x st).2.length/\(stepG f x st).2.length<=12:=by
 unfold stepG at h ⊢
 repeat' split
 all_goals simp_all
def h9(n:Int)(s:Scope):Int×Bool:=if n=0 then (0,true) else if n<0\/(s.scalars.length:Int)<n then (0,false) else (1+n,true)
def fQ(l:C_ Var)(n:Int)(s:Scope):Int×Int×Bool :=
 match nth l n with
 | some a=>((h9 a.scalar s).1,(h9 a.over s).1,(h9 a.scalar s).2&&(h9 a.over s).2)
 | none=>(0,0,false)
def kT(n:Int)(s:Scope):Int×Int:=match nth s.ay n with | some a=>if (h9 a.scalar s).2 then (0,0) else (0,8) | none=>(0,8)
def zW(n:Int)(s:Scope):Int×Int:=if 0<=n then (match nth s.procs (n.tdiv 16) with | some a=>if n.tmod 16<a.cb then (0,0) else (0,8) | none=>(0,8)) else (0,8)
def kU(x:Node)(s:Scope):Int×Int :=
 if x.op=5 then (if 1<=s.self/\s.self<=s.scalars.length then (1+s.self,0) else (0,8))
 else if x.op=6 then kT x.n s
 else if x.op=7 then zW x.n s
 else if x.op=8 then (if 0<=x.n/\x.n<s.scalars.length then (2+x.n,0) else (0,8))
 else (0,8)
def hf(x:Node)(s:Scope)(b:Int):Int×Int :=
 if x.op=1 then (if within x.n then (0,0) else (0,10))
 else if x.op=2\/x.op=3\/x.op=4 then
  (let a:=fQ (if x.op=4 then s.locals else s.vars) x.n s
   if a.2.2=false then (0,8) else if (x.op=3/\(a.2.1=0\/b≠a.2.1))\/(x.op≠3/\a.2.1≠0) then (0,9) else (a.1,0))
 else kU x s
def nG(a:pA)(l:C_ Int):Int×Int:=if l.all (λb=>(decide (a.iZ = -1)||decide (b=a.iZ))&&decide (b=l.headD 0)) then (a.makes,0) else (0,9)
def gC(s:Scope)(x:Node)(st:C_ Int):Int×Int :=
 match gS x.op with
 | some a=>nG a (st.drop (st.length - a.parts.toNat))
 | none=>hf x s (st.getLastD 0)
def kind(e:C_ Node)(s:Scope):Int×Int:=ma (gC s) e
def gW(l:C_ Int)(n:Int):Int×Int:=match nth l n with | some a=>(a,0) | none=>(0,8)
def fm(x:Node)(v:Env)(b:Int):Int×Int :=
 if x.op=1 then (if within x.n then (x.n,0) else (0,10))
 else if x.op=2 then (match nth v.vars x.n with | some a=>gW a 0 | none=>(0,8))
 else if x.op=3 then (match nth v.vars x.n with | some a=>(match nth a (b - 1) with | some c=>(c,0) | none=>(0,10)) | none=>(0,8))
 else if x.op=4 then gW v.locals x.n
 else if x.op=6 then gW v.lens x.n
 else if x.op=5 then (v.self,0)
 else if x.op=7 then (if 0<=x.n then (match nth v.at_ (x.n.tdiv 16) with | some a=>gW a (x.n.tmod 16) | none=>(0,8)) else (0,8))
 else (0,0)
def wH(b:pA)(l:C_ Int):Int×Int:=let a:=b.xa (l.headD 0) (l.getLastD 0);if a.2 then (a.1,0) else (0,10)
def gk(v:Env)(x:Node)(st:C_ Int):Int×Int :=
 match gS x.op with
 | some a=>wH a (st.drop (st.length - a.parts.toNat))
 | none=>fm x v (st.getLastD 0)
def eval(e:C_ Node)(v:Env):Int×Int:=ma (gk v) e
def Iq(x:Node)(s:C_ Int×C_ Int):Int:=if 0<ej x.op then (s.1[s.1.length - (ej x.op).toNat]?).getD 0 else (s.2.length:Int)
def EH(x:Node)(s:C_ Int×C_ Int):H_ (C_ Int×C_ Int) :=
 if ej x.op<0\/(s.1.length:Int)<ej x.op then none else some (s.1.take (s.1.length - (ej x.op).toNat)++[Iq x s],s.2++[Iq x s])
def wC:C_ Node->C_ Int×C_ Int->H_ (C_ Int×C_ Int)
 | [],a=>some a
 | b :: c,a=>(EH b a).bind (wC c)
theorem ahN:∀(c a:C_ Node) (b:C_ Int×C_ Int),wC (c++a) b=(wC c b).bind (wC a)
 | [],a,b=>rfl
 | d :: c,a,b=>by
  simp only[List.cons_append,wC];cases EH d b with
  | none=>rfl
  | some e=>exact ahN c a e
def axG{e:C_ Node}{k:Nat}{s:C_ Int×C_ Int}(a:k<e.length)(h:wC (e.take k) ([],[])=some s):wC (e.take (k+1)) ([],[])=EH e[k] s:=by
 rw[NZ a,ahN,h];simp only[Option.bind_some,wC];cases EH e[k] s<;>rfl
def jJ(c:C_ Int):Nat->C_ Int->Prop
 | a,[]=>a=0
 | a,d :: e=>0<a/\∃b:Nat,d=(b:Int)/\b<a/\c[a - 1]? = some d/\jJ c b e
theorem jJ.app{b:C_ Int}{v:Int}:∀{c:C_ Int} {a:Nat},a<=b.length->jJ b a c->jJ (b++[v]) a c
 | [],_,_,d=>d
 | k :: l,a,m,⟨e,f,g,h,i,j⟩=>⟨e,f,g,h,by rw[List.getElem?_append_left AW];exact i,jJ.app AW j⟩
def jJ.push{a:C_ Int}{b:C_ Int}{c:Nat}(h:jJ a c b)(d:c<=a.length):jJ (a++[(c:Int)]) (a.length+1) ((c:Int) :: b) :=
 ⟨AW,c,rfl,AW,Ah,h.app d⟩
def awK{st:C_ Int}{n:Nat}(h:n<=st.length):(st.take (st.length - n)).reverse=st.reverse.drop n:=by
 rw[List.reverse_take];congr 1;omega
def ahY{f:Node->C_ Int->Int×Int}{x:Node}{st:C_ Int}(h:(stepG f x st).1=0):0<=ej x.op/\ej x.op<=(st.length:Int)/\∃d,(stepG f x st).2=st.take (st.length - (ej x.op).toNat)++[d]:=by
 unfold stepG at h ⊢;by_cases a:ej x.op<0
 .rw[if_pos a] at h;cases h
 by_cases c:(st.length:Int)<ej x.op
 .rw[if_neg a,if_pos c] at h;cases h
 rw[if_neg a,if_neg c] at h ⊢;by_cases b:(f x st).2≠0
 .rw[if_pos b] at h;exact absurd h b
 rw[if_neg b] at h ⊢;refine⟨AW,AW,(f x st).1,?_⟩;split at h
 .cases h
 .rename_i e;rw[if_neg e]
def Vs{f:Node->C_ Int->Int×Int}{e:C_ Node}{st:C_ Int}(h:e7 f e []=(0,st))(k:Nat):∃c,e7 f (e.take k) []=(0,c):=by
 have b:=Ot f (e.take k) (e.drop k) [];rw[AH7,h] at b;by_cases a:(e7 f (e.take k) []).1≠0
 .rw[if_pos a] at b;rw[<-b] at a;exact absurd rfl a
 .exact⟨_,Prod.ext (by simpa using a) rfl⟩
theorem aad{f:C_ Int}:∀{c:C_ Int} {d:Nat},jJ f d c->∀b (g:b<c.length),∃a:Nat,c[b]=(a:Int)/\a<d/\jJ f a (c.drop (b+1))
 | j :: k,d,⟨_,a,h,i,_,e⟩,0,_=>⟨a,h,i,by simpa using e⟩
 | j :: k,d,⟨_,a,h,i,_,e⟩,b+1,g=>by
  obtain⟨l,m,p,n⟩:=aad e b (by simpa using g);exact⟨l,by simpa using m,AW,by simpa using n⟩
theorem ahO{f:Node->C_ Int->Int×Int}{e:C_ Node}{st:C_ Int}(h:e7 f e []=(0,st)):∀a,a<=e.length->∃b c d,wC (e.take a) ([],[])=some (b,c)/\e7 f (e.take a) []=(0,d)/\c.length=a/\b.length=d.length/\jJ c a b.reverse
 | 0,_=>⟨[],[],[],by simp[wC],by simp[e7],rfl,rfl,rfl⟩
 | a+1,B=>by
  obtain⟨b,c,d,s,t,g,u,j⟩:=ahO h a AW;obtain⟨k,l⟩:=Vs h (a+1);have i:=EB (by omega:a<e.length) t;rw[l] at i;have v:(stepG f e[a] d).1=0:=by rw[<-i]
  obtain⟨C,G,w,x⟩:=ahY v;have m:=axG (by omega:a<e.length) s;have y:EH e[a] (b,c)=some (b.take (b.length - (ej e[a].op).toNat)++[Iq e[a] (b,c)],c++[Iq e[a] (b,c)]):=by
   unfold EH;rw[if_neg];simp only;omega
  rw[y] at m;have n:k=d.take (d.length - (ej e[a].op).toNat)++[w]:=by rw[<-x,<-i]
  refine⟨_,_,k,m,l,by simp[g],?_,?_⟩
  .rw[n];simp[u]
  .rw[List.reverse_append,List.reverse_singleton,List.singleton_append,awK AW];unfold Iq;simp only;by_cases p:0<ej e[a].op
   .rw[if_pos p];obtain⟨z,q,n,r⟩:=aad j ((ej e[a].op).toNat - 1) (by rw[List.length_reverse];omega);rw[show(ej e[a].op).toNat - 1+1=(ej e[a].op).toNat from AW] at r;have A:b[b.length - (ej e[a].op).toNat]? = some (z:Int):=by
     rw[List.getElem_reverse] at q;rw[<-q,List.getElem?_eq_getElem AW];congr 2;omega
    rw[A,Option.getD_some]
    have:=jJ.push r AW
    rw[g] at this;exact this
   .rw[if_neg p]
    have:(ej e[a].op).toNat=0:=AW
    rw[this,List.drop_zero]
    have:=jJ.push j AW
    rw[g];rw[g] at this;exact this
theorem aw7{f:Node->C_ Int->Int×Int}{e:C_ Node}(h:(ma f e).2=0):e.length<=24/\e≠[]/\∃c,e7 f e []=(0,[c]):=by
 unfold ma at h;by_cases g:e.length > 24
 .rw[if_pos g] at h;cases h
 rw[if_neg g] at h;by_cases d:e.length=0
 .rw[if_pos d] at h;cases h
 rw[if_neg d] at h;by_cases a:(e7 f e []).1≠0
 .rw[if_pos a] at h;exact absurd h a
 rw[if_neg a] at h;by_cases b:(e7 f e []).2.length > 1
 .rw[if_pos b] at h;cases h
 have j:(e7 f e []).1=0:=by simpa using a
 refine⟨AW,by intro k;subst k;exact d rfl,?_⟩;obtain⟨l,r,m,s,i,t,n,p⟩:=ahO (f:=f) (e:=e) (st:=(e7 f e []).2) (Prod.ext j rfl) e.length (Fy _);rw[AG9] at i;rw[i] at b ⊢;simp only at b
 match m,b with
 | [c],_=>exact⟨c,rfl⟩
 | [],_ =>
  exfalso
  have:l=[]:=AG1 n
  subst this
  have:=p
  simp only[List.reverse_nil,jJ] at this;omega
 | _ :: _ :: _,q=>simp at q
def aw6{f:Node->C_ Int->Int×Int}{e:C_ Node}{v:Int}(c:e.length<=24)(a:e≠[])(h:e7 f e []=(0,[v])):ma f e=(v,0):=by
 unfold ma;rw[if_neg AW,if_neg (by intro b;exact a (AG1 b)),h];simp
def ln(a b:Int)(s:Scope):Int×Bool :=
 if a<0\/(s.scalars.length:Int)<a\/b<0\/(s.scalars.length:Int)<b then (0,false) else if a=0 then (0,true) else (1+a,true)
def ax5{a b:Int}{s:Scope}(h:(ln a b s).2=false):(ln a b s).1=0:=by
 unfold ln at h ⊢;by_cases c:a<0\/(s.scalars.length:Int)<a\/b<0\/(s.scalars.length:Int)<b
 .rw[if_pos c]
 .rw[if_neg c] at h;by_cases d:a=0
  .rw[if_pos d] at h;cases h
  .rw[if_neg d] at h;cases h
def declared(l:C_ Var)(n:Int)(s:Scope):H_ (Var×Int) :=
 match nth l n with
 | some a=>if (ln a.scalar a.over s).2 then some (a,(ln a.scalar a.over s).1) else none
 | none=>none
theorem alU{l:C_ Var}{n:Int}{s:Scope}{q:Var×Int}(h:declared l n s=some q):0<=q.1.over/\q.1.over<=s.scalars.length:=by
 unfold declared at h;cases c:nth l n with
 | none=>rw[c] at h;cases h
 | some a =>
  rw[c] at h;simp only at h;by_cases b:(ln a.scalar a.over s).2=true
  .rw[if_pos b] at h;unfold ln at b;by_cases d:a.scalar<0\/(s.scalars.length:Int)<a.scalar\/a.over<0\/(s.scalars.length:Int)<a.over
   .rw[if_pos d] at b;cases b
   .injection h with h
    subst h;simp only;omega
  .rw[if_neg b] at h;cases h
def channel(n:Int)(s:Scope):H_ Int :=
 match nth s.ay n with
 | some a=>if (ln a.scalar 0 s).2 then some (ln a.scalar 0 s).1 else none
 | none=>none
def asked(e:C_ Node)(k:Int)(s:Scope):Int:=if (kind e s).2≠0 then (kind e s).2 else if (kind e s).1≠k then 9 else 0
def h2(a:Act):Bool:=decide (a.kind=4\/a.kind=5)
def Eu(a:Act)(k:Int)(s:Scope):Int:=match declared s.locals a.loc s with | some (b,c)=>if b.over≠0\/c≠k then 9 else 0 | none=>8
def lx(a:Act)(s:Scope):Int :=
 if a.kind=1\/a.kind=2\/a.kind=3 then
  match declared (if a.kind=3 then s.locals else s.vars) a.to s with
  | none=>8
  | some (c,b) =>
   if (c.over≠0)≠(a.kind=2) then 9
   else if a.kind=2/\asked a.index (1+c.over) s≠0 then asked a.index (1+c.over) s
   else asked a.value b s
 else if a.kind=4\/a.kind=5 then
  match channel a.to s with
  | none=>8
  | some b=>if a.kind=5 then Eu a b s else asked a.value b s
 else 3
def head(c:et)(a:Int):Int :=
 if isName c.name=false then 6 else if c.from_<0\/a<=c.from_\/c.to<0\/a<=c.to then 10 else if c.b6.length > 6 then 11 else 0
def mm(s:Scope):C_ Act->Nat->Bool->Int×Int
 | [],_,_=>(0,0)
 | a :: d,b,c=>if h2 a&&c then (2+b,7) else if lx a s≠0 then (2+b,lx a s) else mm s d (b+1) (c||h2 a)
def jP(c:et)(a:Int)(s:Scope):Int×Int :=
 if head c a≠0 then (0,head c a) else if c.guard.length > 0/\asked c.guard 1 s≠0 then (1,asked c.guard 1 s) else mm s c.b6 0 false
def comm:C_ Act->Int×Int
 | []=>(0,0)
 | a :: b=>if h2 a then (a.kind,a.to) else comm b
def ways(c:et)(l:C_ ed):Int:=if (comm c.b6).1=4 then (match nth l (comm c.b6).2 with | some a=>if a.afj then 2 else 1 | none=>1) else 1
end o