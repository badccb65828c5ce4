/- Parts. -/
import Derived.Test.YtlhljkikdhblbaaGreatDoorQsmb
import Derived.Lib.RuneCount
import Derived.Lib.TrimU
import Derived.RowKit
import Derived.ChangeSame
import Derived.Carry
import Derived.OpenShut
import Derived.Deep.Slices
import Derived.Deep.Fields
import Derived.Lib.LaidTab
import Derived.Laws.OwnMore
set_option linter.all false
namespace ba
open Go Go.RowKit
structure Tok{α:Type}(a:α):Type where
def e5(P:D_)(c:fg)(Q:fI->Fr->A_->Prop)(S:Fr)(w:A_)(_:Tok (P,c,Q)):Prop:=dN P c Q S w
def qU(P:D_)(a:C_ Step)(S:Fr)(w:A_)(K:Fr->A_->Prop)(_:Tok (P,a,K)):Prop:=steps P a S w K
def sC(P:D_)(a:C_ Step)(S:Fr)(w:A_)(K:Fr->Prop)(_:Tok (P,a,K)):Prop:=u4 P a S w K
def lI(P:D_)(w0:A_)(x:e2)(S:Fr)(w:A_)(K:Fr->A_->Prop)(_:Tok (P,w0,x,K)):Prop:=n2 P w0 x S w K
def O6(P:D_)(w0:A_)(s:Step)(S:Fr)(K:Fr->Prop)(_:Tok (P,w0,s,K)):Prop:=IL P w0 s S K
def Ds(P:D_)(s:Step)(S:Fr)(w:A_)(K:Fr->A_->Prop)(_:Tok (P,s,K)):Prop:=mm P s S w K
def C4(P:D_)(w0:A_)(s:Step)(S:Fr)(w:A_)(K:Fr->A_->Prop)(_:Tok (P,w0,s,K)):Prop:=Fz P w0 s S w K
def Av(P:D_)(i:ll)(S:Fr)(w:A_)(K:B_->A_->Prop)(_:Tok (P,i,K)):Prop:=lj P i S w K
def wU(P:D_)(i:ll)(S:Fr)(w:A_)(K:B_->A_->Prop)(_:Tok (P,i,K)):Prop:=lk P i S w K
def E8(P:D_)(i:rQ)(S:Fr)(w:A_)(K:B_->A_->Prop)(_:Tok (P,i,K)):Prop:=W9 P i S w K
def CJ(P:D_)(x:B_)(l:C_ B_)(w:A_)(K:B_->A_->Prop)(_:Tok (P,K)):Prop:=Xa P x l w K
def yQ(P:D_)(i:ll)(S:Fr)(w:A_)(K:B_->Prop)(_:Tok (P,i,K)):Prop:=nd P i S w K
def Fp(P:D_)(i:rQ)(S:Fr)(w:A_)(K:B_->Prop)(_:Tok (P,i,K)):Prop:=ajN P i S w K
def P8(P:D_)(f:E_)(l:C_ B_)(w:A_)(K:B_->Prop)(_:Tok (P,f,K)):Prop:=YL P f l w K
def Jp(P:D_)(x:B_)(l:C_ B_)(w:A_)(K:B_->Prop)(_:Tok (P,K)):Prop:=ajP P x l w K
def jF(P:D_)(i:yO)(S:Fr)(K:B_->Prop)(_:Tok (P,i,K)):Prop:=qj P i S K
def yS(i:wW)(S:Fr)(w:A_)(K:B_->Prop)(_:Tok (i,K)):Prop:=oU i S w K
def qf(P:D_)(i:tJ)(S:Fr)(w:A_)(K:B_->A_->Prop)(_:Tok (P,i,K)):Prop:=oR P i S w K
def E7(P:D_)(i:rQ)(S:Fr)(w:A_)(K:B_->A_->Prop)(_:Tok (P,i,K)):Prop:=sL P i S w K
def h6(P:D_)(op:BinOp)(t:F_)(a:G_)(b:G_)(x:B_)(y:B_)(K:B_->Prop)(_:Tok (P,op,t,a,b,K)):Prop:=oQ P op t a b x y K
def Ju(op:UnOp)(x:B_)(K:B_->Prop)(_:Tok (op,K)):Prop:=CX op x K
def Px(k:IntKind)(x:B_)(K:B_->Prop)(_:Tok (k,K)):Prop:=I4 k x K
def tR(k:IntKind)(n:Int)(K:B_->Prop)(_:Tok (k,K)):Prop:=tQ k n K
def qe(v:B_)(A:Prop)(B:Prop)(_:Tok (A,B)):Prop:=nE v A B
def rR(v:B_)(b:Bool)(A:Prop)(B:Prop)(C:Prop)(_:Tok (b,A,B,C)):Prop:=mJ v b A B C
def PH(off:Nat)(x:B_)(K:B_->Prop)(_:Tok (off,K)):Prop:=Jc off x K
def Fg(sz:Nat)(x:B_)(i:B_)(K:B_->Prop)(_:Tok (sz,K)):Prop:=Jf sz x i K
def PM(len:Nat)(sz:Nat)(x:B_)(i:B_)(K:B_->Prop)(_:Tok (len,sz,K)):Prop:=PL len sz x i K
def PR(x:B_)(i:B_)(K:B_->Prop)(_:Tok (K)):Prop:=PQ x i K
def PO(len:Nat)(x:B_)(i:B_)(K:B_->Prop)(_:Tok (len,K)):Prop:=PN len x i K
def PK(off:Nat)(x:B_)(K:B_->Prop)(_:Tok (off,K)):Prop:=PJ off x K
def PI(off:Nat)(n:Nat)(x:B_)(K:B_->Prop)(_:Tok (off,n,K)):Prop:=Jd off n x K
def Pv(S:Fr)(a:C_ B_)(b:C_ (Nat×Nat))(c:C_ (Nat×G_))(K:B_->Prop)(_:Tok (a,b,c,K)):Prop:=Pu S a b c K
def sR(S:Fr)(sz:Nat)(x:B_)(a:H_ G_)(b:H_ G_)(mx:H_ G_)(K:B_->Prop)(_:Tok (sz,a,b,mx,K)):Prop:=Qd S sz x a b mx K
def Qc(S:Fr)(x:B_)(a:H_ G_)(b:H_ G_)(K:B_->Prop)(_:Tok (a,b,K)):Prop:=Qb S x a b K
def Ff(x:B_)(i:Nat)(K:B_->Prop)(_:Tok (i,K)):Prop:=yJ x i K
def PV(x:B_)(K:B_->Prop)(_:Tok (K)):Prop:=Ji x K
def PS(x:B_)(K:B_->Prop)(_:Tok (K)):Prop:=Fi x K
def Pw(x:B_)(K:B_->Prop)(_:Tok (K)):Prop:=I2 x K
def PY(x:B_)(y:B_)(K:B_->Prop)(_:Tok (K)):Prop:=Jk x y K
def PZ(x:B_)(y:B_)(K:B_->Prop)(_:Tok (K)):Prop:=Jl x y K
def Jn(x:B_)(K:B_->Prop)(_:Tok (K)):Prop:=AB x K
def tM(x:B_)(w:A_)(K:B_->Prop)(_:Tok (K)):Prop:=Jh x w K
def yN(n:Nat)(x:B_)(w:A_)(K:B_->Prop)(_:Tok (n,K)):Prop:=Fh n x w K
def Jj(d:TypeDesc)(a:B_)(b:Bool)(m:B_)(k:B_)(w:A_)(K:B_->Prop)(_:Tok (d,a,b,K)):Prop:=PW d a b m k w K
def PU(m:B_)(w:A_)(K:B_->Prop)(_:Tok (K)):Prop:=PT m w K
def vo(x:B_)(v:B_)(w:A_)(K:A_->Prop)(_:Tok (K)):Prop:=AJ x v w K
def Ft(n:Nat)(x:B_)(v:B_)(w:A_)(K:A_->Prop)(_:Tok (n,K)):Prop:=CW n x v w K
def Fj(e:F_)(sz:Nat)(b:Nat)(a:B_)(l:B_)(c:B_)(w:A_)(K:B_->A_->Prop)(_:Tok (e,sz,b,a,K)):Prop:=P0 e sz b a l c w K
def IY(S:Fr)(e:F_)(len:Nat)(sz:Nat)(a:C_ B_)(b:C_ (Nat×G_))(w:A_)(K:B_->A_->Prop)(_:Tok (e,len,sz,a,b,K)):Prop:=CG S e len sz a b w K
def lJ(P:D_)(t:F_)(e:F_)(sz:Nat)(b:Nat)(s:B_)(x:B_)(w:A_)(K:B_->A_->Prop)(_:Tok (P,t,e,sz,b,K)):Prop:=Au P t e sz b s x w K
def Fk(d:TypeDesc)(m:B_)(k:B_)(v:B_)(w:A_)(K:A_->Prop)(_:Tok (d,K)):Prop:=P1 d m k v w K
def P5(x:B_)(w:A_)(K:B_->A_->Prop)(_:Tok (K)):Prop:=P4 x w K
def Qa(x:B_)(w:A_)(K:B_->A_->Prop)(_:Tok (K)):Prop:=YX x w K
def wX(P:D_)(op:Op)(a:F_)(S:Fr)(w:A_)(K:B_->A_->Prop)(_:Tok (P,op,a,K)):Prop:=YV P op a S w K
def I1(P:D_)(f:E_)(l:C_ B_)(w:A_)(K:B_->A_->Prop)(_:Tok (P,f,K)):Prop:=I0 P f l w K
def Qe(P:D_)(f:E_)(l:C_ B_)(w:A_)(K:B_->A_->Prop)(a:C_ PanicEntry->A_->Prop)(_:Tok (P,f,K,a)):Prop:=AK P f l w K a
def CH(P:D_)(x:B_)(m:String)(l:C_ B_)(w:A_)(K:B_->A_->Prop)(_:Tok (P,m,K)):Prop:=E9 P x m l w K
def YM(P:D_)(x:B_)(m:String)(l:C_ B_)(w:A_)(K:B_->Prop)(_:Tok (P,m,K)):Prop:=ajO P x m l w K
def P7(v:B_)(a:C_ PanicEntry->Prop)(_:Tok (a)):Prop:=wV v a
def yD(P:D_)(x:B_)(l:C_ B_)(w:A_)(K:B_->A_->Prop)(_:Tok (P,K)):Prop:=CI P x l w K
def Fl(t:F_)(cs:Array B_)(w:A_)(K:B_->A_->Prop)(_:Tok (t,K)):Prop:=ajH t cs w K
def P2(w:A_)(K:B_->A_->Prop)(_:Tok (K)):Prop:=ajG w K
def CQ(P:D_)(b:fg)(Q:fI->Fr->A_->Prop)(S:Fr)(w:A_)(_:Tok (P,b,Q)):Prop:=X5 P b Q S w
def oM(r:C_ nG)(S:Fr)(w:A_)(K:C_ B_->Prop)(_:Tok (r,K)):Prop:=qS r S w K
def jY(a:Fr->A_->Prop)(Q:fI->Fr->A_->Prop)(_:Tok (a,Q)):fI->Fr->A_->Prop:=yx a Q
def w7(i:Nat)(Q:fI->Fr->A_->Prop)(_:Tok (i,Q)):fI->Fr->A_->Prop:=AP i Q
def uk(r:C_ nG)(R:B_->A_->Prop)(_:Tok (r,R)):fI->Fr->A_->Prop:=F8 r R
def Dl(r:C_ nG)(R:B_->A_->Prop)(a:C_ PanicEntry->A_->Prop)(_:Tok (r,R,a)):fI->Fr->A_->Prop:=abm r R a
section
variable{P:Program}{Q:fI->Fr->World->Prop}{N gD:Fr->World->Prop}{q2:Fr->Prop}{bb:Value->Prop}{K:Value->World->Prop}{yL:List Value->Prop}{R:Value->World->Prop}{Z:List PanicEntry->World->Prop}{Qf:List PanicEntry->Prop}{S:Fr}{w:World}{A B C:Prop}
set_option linter.unusedVariables false
theorem WE  {t}:e5 P .skip Q S w t=Q .normal S w:=propext Iff.rfl
theorem WG  {a}{t}:e5 P (.cN a) Q S w t=qU P a S w (λS w=>Q .normal S w) ⟨⟩:=propext Iff.rfl
theorem WH  {a}{t}:e5 P (.r4 a) Q S w t=sC P a S w (λS => ∀b,Ext w b->Q .normal S b) ⟨⟩:=propext Iff.rfl
theorem WI  {x}{t}:e5 P (.p5 x) Q S w t=(∀a,Ext w a->lI P a x S a (λS w=>Q .normal S w) ⟨⟩):=propext Iff.rfl
theorem WJ  {w0}{t}:lI P w0 .done S w gD t=gD S w:=propext Iff.rfl
theorem WK  {w0}{t}:lI P w0 .nil S w gD t=True:=propext Iff.rfl
theorem WL  {w0 s r}{t}:lI P w0 (.take s r) S w gD t=O6 P w0 s S (λS=>lI P w0 r S w gD ⟨⟩) ⟨⟩:=propext Iff.rfl
theorem WM  {w0 s r}{t}:lI P w0 (.alt s r .nil) S w gD t=C4 P w0 s S w (λS w=>lI P w0 r S w gD ⟨⟩) ⟨⟩:=and_true _
theorem WN  {w0 s r a b c}{t}:lI P w0 (.alt s r (.alt a b c)) S w gD t=(C4 P w0 s S w (λS w=>lI P w0 r S w gD ⟨⟩) ⟨⟩/\lI P w0 (.alt a b c) S w gD ⟨⟩):=propext Iff.rfl
theorem WO  {w0 s r a b c}{t}:lI P w0 (.alt s r (.gw a b c)) S w gD t=(C4 P w0 s S w (λS w=>lI P w0 r S w gD ⟨⟩) ⟨⟩/\lI P w0 (.gw a b c) S w gD ⟨⟩):=propext Iff.rfl
theorem WR  {w0 s r}{t}:lI P w0 (.gw s r .nil) S w gD t=Ds P s S w (λS w=>lI P w0 r S w gD ⟨⟩) ⟨⟩:=and_true _
theorem B1  {w0 s r a b c}{t}:lI P w0 (.gw s r (.alt a b c)) S w gD t=(Ds P s S w (λS w=>lI P w0 r S w gD ⟨⟩) ⟨⟩/\lI P w0 (.alt a b c) S w gD ⟨⟩):=propext Iff.rfl
theorem WS  {w0 s r a b c}{t}:lI P w0 (.gw s r (.gw a b c)) S w gD t=(Ds P s S w (λS w=>lI P w0 r S w gD ⟨⟩) ⟨⟩/\lI P w0 (.gw a b c) S w gD ⟨⟩):=propext Iff.rfl
theorem WT  {d i}{t}:Ds P ⟨d,none,i⟩ S w gD t=wU P i S w (λa b=>gD (put S d a) b) ⟨⟩:=propext Iff.rfl
theorem WU  {d j b i}{t}:Ds P ⟨d,some (j,b),i⟩ S w gD t=rR (S j) b (wU P i (cC S j (.bool b)) w (λa c=>gD (put (cC S j (.bool b)) d a) c) ⟨⟩) (gD (put (cC S j (.bool (!b))) d undef) w) (gD (put S d undef) w) ⟨⟩:=propext Iff.rfl
theorem WV  {w0 d i}{t}:O6 P w0 ⟨d,none,i⟩ S q2 t=yQ P i S w0 (λa=>q2 (put S d a)) ⟨⟩:=propext Iff.rfl
theorem WW  {w0 d j b i}{t}:O6 P w0 ⟨d,some (j,b),i⟩ S q2 t=rR (S j) b (yQ P i (cC S j (.bool b)) w0 (λa=>q2 (put (cC S j (.bool b)) d a)) ⟨⟩) (q2 (put (cC S j (.bool (!b))) d undef)) (q2 (put S d undef)) ⟨⟩:=propext Iff.rfl
theorem WX  {w0 d i}{t}:C4 P w0 ⟨d,none,i⟩ S w gD t=Av P i S w (λb a=>Ext w0 a/\gD (put S d b) a) ⟨⟩:=propext Iff.rfl
theorem WY  {w0 d j b i}{t}:C4 P w0 ⟨d,some (j,b),i⟩ S w gD t=rR (S j) b (Av P i (cC S j (.bool b)) w (λc a=>Ext w0 a/\gD (put (cC S j (.bool b)) d c) a) ⟨⟩) (gD (put (cC S j (.bool (!b))) d undef) w) (gD (put S d undef) w) ⟨⟩:=propext Iff.rfl
theorem cD  {a b}{t}:e5 P (.seq a b) Q S w t=e5 P a (jY (λS w=>e5 P b Q S w ⟨⟩) Q ⟨⟩) S w ⟨⟩:=propext Iff.rfl
theorem WZ  {c x y}{t}:e5 P (.cond c x y) Q S w t=qe (br S c) (e5 P x Q S w ⟨⟩) (e5 P y Q S w ⟨⟩) ⟨⟩:=propext Iff.rfl
theorem W0  {a b}{t}:e5 P (.b0 a b) Q S w t=e5 P b (w7 a Q ⟨⟩) S w ⟨⟩:=propext Iff.rfl
theorem W1  {a}{t}:e5 P (.exit a) Q S w t=Q (.exit a) S w:=propext Iff.rfl
theorem W2  {t}:e5 P .ret Q S w t=Q .ret S w:=propext Iff.rfl
theorem W3  {b d f l}{t}:e5 P (.fS b d f l) Q S w t=qU P b S w (λS w=>Qe P f (l.map (br S)) w (λc a=>Q .normal (put S d c) a) (λe a=>Q (.h2 e) S a) ⟨⟩) ⟨⟩:=propext Iff.rfl
theorem W4  {a x}{t}:e5 P (.u3 a x) Q S w t=qU P a S w (λS w=>P7 (br S x) (λb=>Q (.h2 b) S w) ⟨⟩) ⟨⟩:=propext Iff.rfl
theorem W5  {i:F_}{v:B_}{t}:P7 (.iface i v) Qf t=Qf [{ v:=.iface i v,recovered:=false }]:=ba.avS i v Qf
theorem W6  {c}{t}:jY N Q t (.h2 c) S w=Q (.h2 c) S w:=propext Iff.rfl
theorem W7{i}{c}{t}:w7 i Q t (.h2 c) S w=Q (.h2 c) S w:=propext Iff.rfl
theorem W8{r}{t}:Dl r R Z t .normal S w=oM r S w (λa=>R (jZ a) w) ⟨⟩:=propext Iff.rfl
theorem Xb{r}{t}:Dl r R Z t .ret S w=oM r S w (λa=>R (jZ a) w) ⟨⟩:=propext Iff.rfl
theorem Xc{r}{c}{t}:Dl r R Z t (.h2 c) S w=Z c w:=propext Iff.rfl
theorem Xd  {b}{t}:e5 P (.loop b) Q S w t=CQ P b Q S w ⟨⟩:=propext Iff.rfl
theorem Xe  {t}:jY N Q t .normal S w=N S w:=propext Iff.rfl
theorem Xf  {i}{t}:jY N Q t (.exit i) S w=Q (.exit i) S w:=propext Iff.rfl
theorem Xg  {t}:jY N Q t .ret S w=Q .ret S w:=propext Iff.rfl
theorem Xh{i}{t}:w7 i Q t .normal S w=Q .normal S w:=propext Iff.rfl
theorem Xi{i}{t}:w7 i Q t .ret S w=Q .ret S w:=propext Iff.rfl
theorem Xj{i}{j}{t}:w7 i Q t (.exit j) S w=if j=i then Q .normal S w else Q (.exit j) S w:=propext Iff.rfl
theorem Xk{r}{t}:uk r R t .normal S w=oM r S w (λa=>R (jZ a) w) ⟨⟩:=propext Iff.rfl
theorem Xn{r}{t}:uk r R t .ret S w=oM r S w (λa=>R (jZ a) w) ⟨⟩:=propext Iff.rfl
theorem Xo  {t}:qU P [] S w gD t=gD S w:=propext Iff.rfl
theorem dh  {d i r}{t}:qU P (⟨d,none,i⟩ :: r) S w gD t=wU P i S w (λa b=>qU P r (put S d a) b gD ⟨⟩) ⟨⟩:=propext Iff.rfl
theorem hb  {d j b i r}{t}:qU P (⟨d,some (j,b),i⟩ :: r) S w gD t=rR (S j) b (wU P i (cC S j (.bool b)) w (λa c=>qU P r (put (cC S j (.bool b)) d a) c gD ⟨⟩) ⟨⟩) (qU P r (put (cC S j (.bool (!b))) d undef) w gD ⟨⟩) (qU P r (put S d undef) w gD ⟨⟩) ⟨⟩:=propext Iff.rfl
theorem dT  {t}:sC P [] S w q2 t=q2 S:=propext Iff.rfl
theorem hA  {d i r}{t}:sC P (⟨d,none,i⟩ :: r) S w q2 t=yQ P i S w (λa=>sC P r (put S d a) w q2 ⟨⟩) ⟨⟩:=propext Iff.rfl
theorem ko  {d j b i r}{t}:sC P (⟨d,some (j,b),i⟩ :: r) S w q2 t=rR (S j) b (yQ P i (cC S j (.bool b)) w (λa=>sC P r (put (cC S j (.bool b)) d a) w q2 ⟨⟩) ⟨⟩) (sC P r (put (cC S j (.bool (!b))) d undef) w q2 ⟨⟩) (sC P r (put S d undef) w q2 ⟨⟩) ⟨⟩:=propext Iff.rfl
theorem h7  {i}{t}:Av P (.p i) S w K t=jF P i S (λa=>K a w) ⟨⟩:=propext Iff.rfl
theorem iV  {i}{t}:Av P (.r i) S w K t=yS i S w (λa=>K a w) ⟨⟩:=propext Iff.rfl
theorem iW  {i}{t}:Av P (.e i) S w K t=qf P i S w K ⟨⟩:=propext Iff.rfl
theorem Xq  {i}{t}:Av P (.c i) S w K t=E7 P i S w K ⟨⟩:=propext Iff.rfl
theorem Xr  {i}{t}:wU P (.p i) S w K t=jF P i S (λa=>K a w) ⟨⟩:=propext Iff.rfl
theorem Xs  {i}{t}:wU P (.r i) S w K t=yS i S w (λa=>K a w) ⟨⟩:=propext Iff.rfl
theorem Xt  {i}{t}:wU P (.e i) S w K t=qf P i S w K ⟨⟩:=propext Iff.rfl
theorem Xu  {i}{t}:wU P (.c i) S w K t=E8 P i S w K ⟨⟩:=propext Iff.rfl
theorem Xv  {i}{t}:yQ P (.p i) S w bb t=jF P i S bb ⟨⟩:=propext Iff.rfl
theorem Xw  {i}{t}:yQ P (.r i) S w bb t=yS i S w bb ⟨⟩:=propext Iff.rfl
theorem Xx  {i}{t}:yQ P (.c i) S w bb t=Fp P i S w bb ⟨⟩:=propext Iff.rfl
theorem Xy  {f l}{t}:Fp P (.fn f l) S w bb t=P8 P f (l.map (br S)) w bb ⟨⟩:=propext Iff.rfl
theorem Xz  {x m l}{t}:Fp P (.inv x m l) S w bb t=YM P (br S x) m (l.map (br S)) w bb ⟨⟩:=propext Iff.rfl
theorem XA  {x l}{t}:Fp P (.val x l) S w bb t=Jp P (br S x) (l.map (br S)) w bb ⟨⟩:=propext Iff.rfl
theorem H1  {t}:rR (.bool true) true A B C t=A:=ba.ab0 A B C
theorem XB  {t}:rR (.bool true) false A B C t=B:=ba.aoe A B C
theorem XC  {t}:rR (.bool false) true A B C t=B:=ba.aod A B C
theorem XD  {t}:rR (.bool false) false A B C t=A:=ba.aoc A B C
theorem XE  (a:Bool){t}:rR undef a A B C t=C:=ba.aof a A B C
theorem XF  (a:Bool){t}:rR (.bool a) true A B C t=qe (.bool a) A B ⟨⟩:=(ba.abZ a true A B C).trans (by rfl)
theorem XG  (a:Bool){t}:rR (.bool a) false A B C t=qe (.bool a) B A ⟨⟩:=(ba.abZ a false A B C).trans (by rfl)
theorem XH  {t}:qe (.bool true) A B t=A:=alj A B
theorem XI  {t}:qe (.bool false) A B t=B:=alh A B
theorem XJ  (a:Bool){t}:qe (.bool (!a)) A B t=qe (.bool a) B A ⟨⟩:=ali a A B
theorem XK  {x}{t}:jF P (.px x) S bb t=bb (br S x):=propext Iff.rfl
theorem XL  {c x y}{t}:jF P (.pick c x y) S bb t=qe (br S c) (bb (br S x)) (bb (br S y)) ⟨⟩:=propext Iff.rfl
theorem XM  {op a x y}{t}:jF P (.bin op a x y) S bb t=h6 P op a x y (br S x) (br S y) bb ⟨⟩:=propext Iff.rfl
theorem XN  {op x}{t}:jF P (.un op x) S bb t=Ju op (br S x) bb ⟨⟩:=propext Iff.rfl
theorem XO  {k x}{t}:jF P (.AW k x) S bb t=Px k (br S x) bb ⟨⟩:=propext Iff.rfl
theorem XP  {n x}{t}:jF P (.ku n x) S bb t=PH n (br S x) bb ⟨⟩:=propext Iff.rfl
theorem XQ  {n x y}{t}:jF P (.pn n x y) S bb t=Fg n (br S x) (br S y) bb ⟨⟩:=propext Iff.rfl
theorem XR  {m n x y}{t}:jF P (.qI m n x y) S bb t=PM m n (br S x) (br S y) bb ⟨⟩:=propext Iff.rfl
theorem XS  {x y}{t}:jF P (.nX x y) S bb t=PR (br S x) (br S y) bb ⟨⟩:=propext Iff.rfl
theorem XU  {n x y}{t}:jF P (.BT n x y) S bb t=PO n (br S x) (br S y) bb ⟨⟩:=propext Iff.rfl
theorem XV  {n x}{t}:jF P (.r7 n x) S bb t=PK n (br S x) bb ⟨⟩:=propext Iff.rfl
theorem XW  {n m x}{t}:jF P (.Gg n m x) S bb t=PI n m (br S x) bb ⟨⟩:=propext Iff.rfl
theorem XX  {a b c}{t}:jF P (.hW a b c) S bb t=Pv S a b c bb ⟨⟩:=propext Iff.rfl
theorem XY  {f a b}{t}:jF P (.z1 f a b) S bb t=bb (.func (.func f) (a.map (br S)).toArray (b.map (br S)).toArray):=propext Iff.rfl
theorem XZ  {n x a b mx}{t}:jF P (.kB n x a b mx) S bb t=sR S n (br S x) a b mx bb ⟨⟩:=propext Iff.rfl
theorem X0  {x a b}{t}:jF P (.Ck x a b) S bb t=Qc S (br S x) a b bb ⟨⟩:=propext Iff.rfl
theorem X1  {x n}{t}:jF P (.ext x n) S bb t=Ff (br S x) n bb ⟨⟩:=propext Iff.rfl
theorem X2  {x}{t}:jF P (.qK x) S bb t=PV (br S x) bb ⟨⟩:=propext Iff.rfl
theorem X3  {x}{t}:jF P (.Ef x) S bb t=PS (br S x) bb ⟨⟩:=propext Iff.rfl
theorem X6  {x}{t}:jF P (.JO x) S bb t=Pw (br S x) bb ⟨⟩:=propext Iff.rfl
theorem X7  {v}{t}:jF P (.Mv v) S bb t=bb v:=propext Iff.rfl
theorem M2  {x y}{t}:jF P (.yd x y) S bb t=PY (br S x) (br S y) bb ⟨⟩:=propext Iff.rfl
theorem X8  {x y}{t}:jF P (.z0 x y) S bb t=PZ (br S x) (br S y) bb ⟨⟩:=propext Iff.rfl
theorem X9  {n x}{t}:jF P (.Em n x) S bb t=bb (.iface n (br S x)):=propext Iff.rfl
theorem Ya  {x}{t}:jF P (.sx x) S bb t=Jn (br S x) bb ⟨⟩:=propext Iff.rfl
theorem Yb  {x}{t}:yS (.cp x) S w bb t=tM (br S x) w bb ⟨⟩:=propext Iff.rfl
theorem Yc  {n x}{t}:yS (.lb n x) S w bb t=yN n (br S x) w bb ⟨⟩:=propext Iff.rfl
theorem Yd  {d a b m k}{t}:yS (.qL d a b m k) S w bb t=Jj d a b (br S m) (br S k) w bb ⟨⟩:=propext Iff.rfl
theorem Ye  {x}{t}:yS (.Eg x) S w bb t=PU (br S x) w bb ⟨⟩:=propext Iff.rfl
theorem Yh  {n x}{t}:qf P (.box n x) S w K t=Fl n (br S x).cells w K ⟨⟩:=propext Iff.rfl
theorem Yi  {n a}{t}:qf P (.new n a) S w K t=Fl n a.cells w K ⟨⟩:=propext Iff.rfl
theorem Yj  {x v}{t}:qf P (.st x v) S w K t=vo (br S x) (br S v) w (K undef) ⟨⟩:=propext Iff.rfl
theorem Yk  {n x v}{t}:qf P (.mF n x v) S w K t=Ft n (br S x) (br S v) w (K undef) ⟨⟩:=propext Iff.rfl
theorem Yl  {t}:qf P .z2 S w K t=P2 w K ⟨⟩:=propext Iff.rfl
theorem Ym  {e n b a l c}{t}:qf P (.z4 e n b a l c) S w K t=Fj e n b a (br S l) (br S c) w K ⟨⟩:=propext Iff.rfl
theorem Yn  {e l n a b}{t}:qf P (.hk e l n a b) S w K t=IY S e l n a b w K ⟨⟩:=propext Iff.rfl
theorem Yo  {a e n b s x}{t}:qf P (.app a e n b s x) S w K t=lJ P a e n b (br S s) (br S x) w K ⟨⟩:=propext Iff.rfl
theorem Yp  {d m k v}{t}:qf P (.lD d m k v) S w K t=Fk d (br S m) (br S k) (br S v) w (K undef) ⟨⟩:=propext Iff.rfl
theorem Yq  {x}{t}:qf P (.Cg x) S w K t=Qa (br S x) w K ⟨⟩:=propext Iff.rfl
theorem Yr  {x}{t}:qf P (.B7 x) S w K t=P5 (br S x) w K ⟨⟩:=propext Iff.rfl
theorem Ys  {op a}{t}:qf P (.raw op a) S w K t=wX P op a S w K ⟨⟩:=propext Iff.rfl
theorem Yt  {f l}{t}:E7 P (.fn f l) S w K t=I1 P f (l.map (br S)) w K ⟨⟩:=propext Iff.rfl
theorem Yu  {x m l}{t}:E7 P (.inv x m l) S w K t=CH P (br S x) m (l.map (br S)) w K ⟨⟩:=propext Iff.rfl
theorem Yv  {x l}{t}:E7 P (.val x l) S w K t=yD P (br S x) (l.map (br S)) w K ⟨⟩:=propext Iff.rfl
theorem Yw  {f l}{t}:E8 P (.fn f l) S w K t=I1 P f (l.map (br S)) w K ⟨⟩:=propext Iff.rfl
theorem Yx  {x m l}{t}:E8 P (.inv x m l) S w K t=CH P (br S x) m (l.map (br S)) w K ⟨⟩:=propext Iff.rfl
theorem Yy  {x l}{t}:E8 P (.val x l) S w K t=CJ P (br S x) (l.map (br S)) w K ⟨⟩:=propext Iff.rfl
theorem Yz  {c d e}(k:IntKind)(a b:Int){t}:h6 P .lss c d e (.int k a) (.int k b) bb t=bb (.bool (decide (a<b))):=akR k a b
theorem YA  {c d e}(k:IntKind)(a b:Int){t}:h6 P .leq c d e (.int k a) (.int k b) bb t=bb (.bool (decide (a<=b))):=akQ k a b
theorem YB  {c d e}(k:IntKind)(a b:Int){t}:h6 P .gtr c d e (.int k a) (.int k b) bb t=bb (.bool (decide (b<a))):=akP k a b
theorem YC  {c d e}(k:IntKind)(a b:Int){t}:h6 P .geq c d e (.int k a) (.int k b) bb t=bb (.bool (decide (b<=a))):=akO k a b
theorem YD  {c d e}(k:IntKind)(a b:Int){t}:h6 P .eql c d e (.int k a) (.int k b) bb t=bb (.bool (decide (a=b))):=Z6 k a b
theorem YE  {c d e}(k:IntKind)(a b:Int){t}:h6 P .neq c d e (.int k a) (.int k b) bb t=bb (.bool (!decide (a=b))):=(akT k a b).trans Ah
theorem YF  {c d e}(k:IntKind)(a b:Int){t}:h6 P .add c d e (.int k a) (.int k b) bb t=tR k (a+b) bb ⟨⟩:=akN k a b
theorem YG  {c d e}(k:IntKind)(a b:Int){t}:h6 P .sub c d e (.int k a) (.int k b) bb t=tR k (a - b) bb ⟨⟩:=akY k a b
theorem YH  {c d e}(k:IntKind)(a b:Int){t}:h6 P .mul c d e (.int k a) (.int k b) bb t=tR k (a*b) bb ⟨⟩:=akS k a b
theorem YI  {c d e}(a b:ByteArray){t}:h6 P .eql c d e (.string a) (.string b) bb t=bb (.bool (decide (a=b))):=akW a b
theorem YJ  {c d e}(a b:ByteArray){t}:h6 P .neq c d e (.string a) (.string b) bb t=bb (.bool (!decide (a=b))):=(akX a b).trans Ah
theorem YK  (b:Bool){t}:Ju .not (.bool b) bb t=bb (.bool (!b)):=propext Iff.rfl
theorem YN  (k:IntKind)(n:Int){t}:Ju .neg (.int k n) bb t=tR k (0 - n) bb ⟨⟩:=propext Iff.rfl
theorem Fq  (k q:IntKind)(n:Int){t}:Px k (.int q n) bb t=tR k n bb ⟨⟩:=amg k q n bb
theorem Fs  (n:Nat)(a:Addr){t}:PH n (.pointer (some a)) bb t=bb (.pointer (some (a.add n))):=anL n a bb
theorem YO  (v:B_)(vs:C_ B_){t}:Ff (.tuple (v :: vs).toArray) 0 bb t=bb v:=ant v vs bb
theorem YP  (v a:B_)(vs:C_ B_){t}:Ff (.tuple (v :: a :: vs).toArray) 1 bb t=bb a:=anu v a vs bb
theorem YQ  (v a x:B_)(vs:C_ B_){t}:Ff (.tuple (v :: a :: x :: vs).toArray) 2 bb t=bb x:=anv v a x vs bb
theorem YR  (s:ByteArray){t}:PV (.string s) bb t=bb (.I s.size):=atF s bb
theorem YS  (a:H_ Addr)(n c:Nat){t}:PS (.slice a n c) bb t=bb (.I n):=atD a n c bb
theorem YT  (a:H_ Addr)(n c:Nat){t}:Pw (.slice a n c) bb t=bb (.I c):=alb a n c bb
theorem YU  (k q:IntKind)(a b:Int){t}:PY (.int k a) (.int q b) bb t=bb (.int k (max a b)):=at5 k q a b bb
theorem Y0  (k q:IntKind)(a b:Int){t}:PZ (.int k a) (.int q b) bb t=bb (.int k (min a b)):=aua k q a b bb
theorem Y1  (m n:Nat)(cs:Array B_){t}:PI m n (.agg cs) bb t=bb (.agg (cs.extract m (m+n))):=anZ m n cs bb
theorem Y2  (a:Addr){t}:Jn (.pointer (some a)) bb t=bb (.pointer (some a)):=propext Iff.rfl
theorem kW  (f:E_)(a b:Array B_){t}:Jn (.func (.func f) a b) bb t=bb (.func (.func f) a b):=propext Iff.rfl
theorem Y3  {t}:oM [] S w yL t=yL []:=propext Iff.rfl
theorem Y4  {n r}{t}:oM (.tmp n :: r) S w yL t=oM r S w (λa=>yL (S n :: a)) ⟨⟩:=propext Iff.rfl
theorem Y5  {n r}{t}:oM (.cell n :: r) S w yL t=tM (S n) w (λa=>oM r S w (λb=>yL (a :: b)) ⟨⟩) ⟨⟩:=propext Iff.rfl
theorem Y6  {m n r}{t}:oM (.jm m n :: r) S w yL t=yN m (S n) w (λa=>oM r S w (λb=>yL (a :: b)) ⟨⟩) ⟨⟩:=propext Iff.rfl
theorem Y7{S:Fr}{d:Nat}{v:B_}:put S (some d) v=cC S d v:=eq_of_heq (heq_of_eq (jf S d v))
theorem Y8{S:Fr}{v:B_}:put S none v=S:=eq_of_heq (heq_of_eq (agR S v))
theorem Za{S:Fr}{d t:Nat}{v:B_}:cC S d v t=if t=d then v else S t:=eq_of_heq (heq_of_eq (bR S d t v))
theorem Zb{S:Fr}{t:Nat}:br S (.tmp t)=S t:=eq_of_heq (heq_of_eq (dE S t))
theorem Zc{S:Fr}{v:B_}:br S (.const v)=v:=eq_of_heq (heq_of_eq (o6 S v))
theorem Zd{S:Fr}{g:Nat}:br S (.global g) = .pointer (some ⟨g,0,none⟩):=eq_of_heq (heq_of_eq (anh S g))
theorem Ze{S:Fr}{f:Nat}:br S (.func f) = .func (.func f) #[] #[]:=eq_of_heq (heq_of_eq (xg S f))
theorem Zf{k:Nat}:jo [] k=λ_=>undef:=eq_of_heq (heq_of_eq (ox k))
theorem Zg{v:B_}{vs:C_ B_}{k:Nat}:jo (v :: vs) k=cC (jo vs (k+1)) k v:=eq_of_heq (heq_of_eq (kF v vs k))
theorem Zh  : jZ [] = .tuple #[]:=eq_of_heq (heq_of_eq (ayJ ..))
theorem Zi  (v:B_):jZ [v]=v:=eq_of_heq (heq_of_eq (ayK ..))
theorem Zj  (v a:B_):jZ [v,a] = .tuple #[v,a]:=eq_of_heq (heq_of_eq (ayL ..))
theorem Zk  (v a x:B_):jZ [v,a,x] = .tuple #[v,a,x]:=eq_of_heq (heq_of_eq (ayM ..))
theorem Zl  (a:H_ Addr)(n c:Nat):(Value.slice a n c).cells=#[.slice a n c]:=eq_of_heq (heq_of_eq (alC ..))
theorem Zm  (k:IntKind)(n:Int):(Value.int k n).cells=#[.int k n]:=eq_of_heq (heq_of_eq (alw ..))
theorem Zn  (b:Bool):(Value.bool b).cells=#[.bool b]:=eq_of_heq (heq_of_eq (als ..))
theorem Zo  (s:ByteArray):(Value.string s).cells=#[.string s]:=eq_of_heq (heq_of_eq (alD ..))
theorem Zp  (a:H_ Addr):(Value.pointer a).cells=#[.pointer a]:=eq_of_heq (heq_of_eq (alB ..))
theorem Zq  (a:H_ Nat):(Value.map a).cells=#[.map a]:=eq_of_heq (heq_of_eq (alx ..))
theorem Zr  (f:Fn)(a b:Array B_):(Value.func f a b).cells=#[.func f a b]:=eq_of_heq (heq_of_eq (alv ..))
theorem Zs  (cs:Array B_):(Value.agg cs).cells=cs:=eq_of_heq (heq_of_eq (alr ..))
theorem Zt{α β:Type}{f:α->β}{a:α}{l:C_ α}:(a :: l).map f=f a :: l.map f:=eq_of_heq (heq_of_eq (AH8))
theorem Zu{α β:Type}{f:α->β}:([]:C_ α).map f=[]:=eq_of_heq (heq_of_eq (List.map_nil))
theorem g3  : (!true)=false:=eq_of_heq (heq_of_eq (Bool.not_true))
theorem eT  : (!false)=true:=eq_of_heq (heq_of_eq (Bool.not_false))
theorem iX{h:Decidable True}:decide True=true:=eq_of_heq (heq_of_eq (decide_true h))
theorem oY{h:Decidable False}:decide False=false:=eq_of_heq (heq_of_eq (decide_false h))
theorem j2{α:Type}{a b:α}{h:Decidable True}:(if True then a else b)=a:=eq_of_heq (heq_of_eq (if_true a b))
theorem j3{α:Type}{a b:α}{h:Decidable False}:(if False then a else b)=b:=eq_of_heq (heq_of_eq (if_false a b))
end
def c7 :=
 (i_ (i_ (i_ (i_ (i_ (i_ (i_ @WE @WG) (i_ @WH (i_ @WI @WJ))) (i_ (i_ @WK (i_ @WL @WM)) (i_ @WN (i_ @WO @WR)))) (i_ (i_ (i_ @B1 @WS) (i_ @WT (i_ @WU @WV))) (i_ (i_ @WW (i_ @WX @WY)) (i_ @WZ (i_ @W0 @W1))))) (i_ (i_ (i_ (i_ @W2 @W3) (i_ @W4 (i_ @W5 @W6))) (i_ (i_ @W7 (i_ @W8 @Xb)) (i_ @Xc (i_ @Xd @Xe)))) (i_ (i_ (i_ @Xf @Xg) (i_ @Xh (i_ @Xi @Xj))) (i_ (i_ @Xk (i_ @Xn @Xo)) (i_ @dh (i_ @hb @dT)))))) (i_ (i_ (i_ (i_ (i_ @hA @ko) (i_ @h7 (i_ @iV @iW))) (i_ (i_ @Xq (i_ @Xr @Xs)) (i_ @Xt (i_ @Xu @Xv)))) (i_ (i_ (i_ @Xw @Xx) (i_ @Xy (i_ @Xz @XA))) (i_ (i_ @H1 (i_ @XB @XC)) (i_ @XD (i_ @XE @XF))))) (i_ (i_ (i_ (i_ @XG @XH) (i_ @XI (i_ @XJ @XK))) (i_ (i_ @XL (i_ @XM @XN)) (i_ @XO (i_ @XP @XQ)))) (i_ (i_ (i_ @XR @XS) (i_ @XU (i_ @XV @XW))) (i_ (i_ @XX (i_ @XY @XZ)) (i_ @X0 (i_ @X1 @X2))))))) (i_ (i_ (i_ (i_ (i_ (i_ @X3 @X6) (i_ @X7 (i_ @M2 @X8))) (i_ (i_ @X9 (i_ @Ya @Yb)) (i_ @Yc (i_ @Yd @Ye)))) (i_ (i_ (i_ @Yh @Yi) (i_ @Yj (i_ @Yk @Yl))) (i_ (i_ @Ym (i_ @Yn @Yo)) (i_ @Yp (i_ @Yq @Yr))))) (i_ (i_ (i_ (i_ @Ys @Yt) (i_ @Yu (i_ @Yv @Yw))) (i_ (i_ @Yx (i_ @Yy @Yz)) (i_ @YA (i_ @YB @YC)))) (i_ (i_ (i_ @YD @YE) (i_ @YF (i_ @YG @YH))) (i_ (i_ @YI (i_ @YJ @YK)) (i_ @YN (i_ @Fq @Fs)))))) (i_ (i_ (i_ (i_ (i_ @YO @YP) (i_ @YQ (i_ @YR @YS))) (i_ (i_ @YT (i_ @YU @Y0)) (i_ @Y1 (i_ @Y2 @kW)))) (i_ (i_ (i_ @Y3 @Y4) (i_ @Y5 (i_ @Y6 @Y7))) (i_ (i_ @Y8 (i_ @Za @Zb)) (i_ @Zc (i_ @Zd @Ze))))) (i_ (i_ (i_ (i_ @Zf @Zg) (i_ @Zh (i_ @Zi @Zj))) (i_ (i_ @Zk (i_ @Zl @Zm)) (i_ @Zn (i_ @Zo @Zp)))) (i_ (i_ (i_ @Zq @Zr) (i_ @Zs (i_ @Zt @Zu))) (i_ (i_ @g3 (i_ @eT @iX)) (i_ @oY (i_ @j2 @j3))))))))
section
variable{P:Program}{Q:fI->Fr->World->Prop}{bb:Value->Prop}{K:Value->World->Prop}{iu:World->Prop}{S:Fr}{w:World}{A B:Prop}
def I_{p:Prop}[Decidable p]{t}(a:p->A)(b:¬p->B):qe (.bool (decide p)) A B t:=alg a b
def N_{a:Bool}{t}(b:a=true->A)(c:a=false->B):qe (.bool a) A B t:=alf b c
def Q_{n:Int}{t}(h : -9223372036854775808<=n/\n<=9223372036854775807)(a:bb (.I n)):tR .i64 n bb t:=wrap_i64 h a
def _n{k:IntKind}{n:Int}{t}(h:bb (.int k (k.wrap n))):tR k n bb t:=ajh h
def _6{k:IntKind}{n:Int}{t}(h:k.wrap n=n)(a:bb (.int k n)):tR k n bb t:=ajh (by rw[h];exact a)
def _P{c:F_}{d e:G_}{k:IntKind}{a b:Int}{t}(f:b≠0)(h:tR k (a.tdiv b) bb ⟨⟩):h6 P .quo c d e (.int k a) (.int k b) bb t:=akU f h
def _o{c:F_}{d e:G_}{k:IntKind}{a b:Int}{t}(f:b≠0)(h:bb (.int k (a.tmod b))):h6 P .rem c d e (.int k a) (.int k b) bb t:=akV f h
def _J{op:BinOp}{a:F_}{b c:G_}{x y v:B_}{t}(h:∀w,(do eqGuard op a b c x y;binOp op a x y:Sem B_).run P w = .ok v w)(d:bb v):h6 P op a b c x y bb t:=⟨v,h,d⟩
def _b{sz:Nat}{a:Addr}{len cap:Nat}{k:IntKind}{n:Int}{t}(h:0<=n/\n<len)(b:bb (.pointer (some (a.add (n.toNat*sz))))):Fg sz (.slice (some a) len cap) (.int k n) bb t:=asx h b
def M_{sz:Nat}{a:Addr}{len cap:Nat}{k:IntKind}{n:Int}{t}(i:Nat)(b:n=i)(h:i<len)(c:bb (.pointer (some (a.add (i*sz))))):Fg sz (.slice (some a) len cap) (.int k n) bb t:=asw i b h c
def _p{sz:Nat}{a:Addr}{len:Nat}{k:IntKind}{n:Int}{t}(h:0<=n/\n<len)(b:bb (.pointer (some (a.add (n.toNat*sz))))):PM len sz (.pointer (some a)) (.int k n) bb t:=asv h b
def _c{s:ByteArray}{k:IntKind}{n:Int}{t}(c:UInt8)(a:0<=n)(h:s[n.toNat]? = some c)(b:bb (.int .u8 c.toNat)):PR (.string s) (.int k n) bb t:=asT c a h b
def AB1{len:Nat}{cs:Array B_}{k:IntKind}{n:Int}{t}(v:B_)(a:0<=n/\n<len)(h:cs[n.toNat]? = some v)(b:bb v):PO len (.agg cs) (.int k n) bb t:=asS v a h b
def _d{off:Nat}{cs:Array B_}{v:B_}{t}(h:cs[off]? = some v)(a:bb v):PK off (.agg cs) bb t:=an0 h a
def V_{a cs:C_ B_}{b:C_ (Nat×Nat)}{c:C_ (Nat×G_)}{t}(h:gv S b c a=some cs)(d:bb (.agg cs.toArray)):Pv S a b c bb t:=ak1 h d
def _K{sz:Nat}{a:H_ Addr}{len cap:Nat}{c b mx:H_ G_}{t}(l h m:Nat)(d:e6 S c 0=some l)(e:e6 S b len=some h)(f:e6 S mx cap=some m)
  (g:l<=h/\h<=m/\m<=cap)(i:mx.isSome=true->b.isSome=true)(j:bb (.slice (if m=l then a else a.map (·.add (l*sz))) (h - l) (m - l))):sR S sz (.slice a len cap) c b mx bb t:=ax1 l h m d e f g i j
def AB2{s:ByteArray}{a b:H_ G_}{t}(l h:Nat)(c:e6 S a 0=some l)(d:e6 S b s.size=some h)(e:l<=h/\h<=s.size)(f:bb (.string (s.extract l h))):Qc S (.string s) a b bb t:=axZ l h c d e f
def L_{a:Addr}{c:B_}{t}(h:w.cell? a=some c)(b:bb c):tM (.pointer (some a)) w bb t:=atx h b
def Y_{n:Nat}{a:Addr}{cs:C_ B_}{t}(h:fy w a cs)(b:cs.length=n)(c:bb (.agg cs.toArray)):yN n (.pointer (some a)) w bb t:=afx h b c
def _t{d:TypeDesc}{a:B_}{b:Bool}{m k:B_}{es:Array MapEntry}{r:H_ (Nat×B_)}{t}(c:tN w m es)(e:Instr.findNow d k es.toList 0=some r)(f:bb (pt a b r)):Jj d a b m k w bb t:=atQ c e f
def AF2{m:B_}{es:Array MapEntry}{t}(h:tN w m es)(a:bb (.I es.size)):PU m w bb t:=atE h a
def _0{a:Addr}{v b:B_}{t}(h:w.cell? a=some b)(c:w.frozen? a=false)(d:v.oneCell'=true)(e:iu (w.setCell a v)):vo (.pointer (some a)) v w iu t:=aip h c d e
def AB3{n:Nat}{a:Addr}{cs:Array B_}{t}(c:cs.size=n)(h:∀b,b<n->(∃d,w.cell? (a.add b)=some d)/\w.frozen? (a.add b)=false)(e:∀f∈cs.toList,f.oneCell'=true)(g:iu (kT w a cs.toList 0)):Ft n (.pointer (some a)) (.agg cs) w iu t:=VW c h e g
def _7{e:F_}{sz bytes:Nat}{a:B_}{k q:IntKind}{n m:Int}{t}(h:0<=n/\n<=m/\m<=9223372036854775807/\bytes*m<=281474976710656)(b:K (.slice (some ⟨w.heap.size,0,none⟩) n.toNat m.toNat) (w.alloc (.cells (qc a.cells (m.toNat*sz)) e))) :
  Fj e sz bytes a (.int k n) (.int q m) w K t:=aud h b
def AF3{e:F_}{len sz:Nat}{a cs:C_ B_}{b:C_ (Nat×G_)}{t}(h:gv S ((List.range len).map λc=>(c*sz,sz)) b a=some cs)(d:K (.slice (some ⟨w.heap.size,0,none⟩) len len) (w.alloc (.cells cs.toArray e))):IY S e len sz a b w K t:=AO h d
def _h{a e:F_}{sz b:Nat}{s x:B_}{t}(h:YZ P a e sz b->∃f c d,(Builtin.append_ #[a,a] f #[s,x]).run P w = .ok c d/\K c d):lJ P a e sz b s x w K t:=h
def _1{d:TypeDesc}{r:Nat}{k v:B_}{es:Array MapEntry}{c:Nat}{q:H_ (Nat×B_)}{t}(a:w.heap[r]? = some (.map es c))(b:Instr.findNow d k es.toList 0=some q)(e:iu (fZ w r (uW es c k v q))):Fk d (.map (some r)) k v w iu t:=aun a b e
def AB4{r pos:Nat}{s:ByteArray}{t}(h:w.heap[r]? = some (.stringIter s pos))(a:pos<s.size->K (.tuple #[.bool true,.I pos,.int .i32 (Utf8.decode s pos).1]) (fZ w r (.stringIter s (pos+(Utf8.decode s pos).2))))
  (b:¬pos<s.size->K (.tuple #[.bool false]) w):P5 (.pointer (some ⟨r,0,none⟩)) w K t:=auO h a b
def _V{op:Op}{ty:F_}{v:B_}{w':A_}{t}(h:(execOp (br S) ⟨none,op,ty, "",#[],none⟩).run P w = .ok (.value v) w')(J:K v w'):wX P op ty S w K t:=⟨v,w',.inl h,J⟩
def J_{f:E_}{args:C_ B_}{R:B_->A_->Prop}{t}(h:a2 P f args.toArray w R)(c:∀a b,R a b->K a b):I1 P f args w K t:=ak8 h c
def U_{f:E_}{args:C_ B_}{R:B_->A_->Prop}{b c:C_ PanicEntry->A_->Prop}{t}(h:rX P f args.toArray w R b)(g:∀d a,R d a->K d a)(i:∀e a,b e a->c e a):Qe P f args w K c t:=rX.mono h g i
def AB5{f:E_}{a:me}(c:P.follows .mixedOrders=true)(d:k2 P f=some a){args:C_ B_}{R:B_->A_->Prop}{b:C_ PanicEntry->A_->Prop}(e:args.length<=a.n)(h:e5 P a.code (Dl a.res R b ⟨⟩) (jo args 0) w ⟨⟩):rX P f args.toArray w R b:=am9 c d e h
def W_{f:E_}{first cap:C_ B_}{args:C_ B_}{R:B_->A_->Prop}{t}(c:okF P f=true)(h:a2 P f (first++args++cap).toArray w R)(d:∀a b,R a b->K a b):CJ P (.func (.func f) first.toArray cap.toArray) args w K t:=Or.inl (QH c h d)
def _u{f:E_}{first cap:C_ B_}{args:C_ B_}{R:B_->A_->Prop}{t}(c:okF P f=true)(h:a2 P f (first++args++cap).toArray w R)(d:∀a b,R a b->K a b):yD P (.func (.func f) first.toArray cap.toArray) args w K t:=QH c h d
def _v{l:Nat}{args:C_ B_}{R:Ending->A_->Prop}{t}(h:YieldAt Fence.wide 0 P l args.toArray w R)(d:∀a b,R a b->∃c,a = .returned c/\K c b):CJ P (.func (.yield l) #[] #[]) args w K t :=
 Or.inr ⟨l,rfl,let ⟨fn,tmps,assign,body,e,f⟩:=h; ⟨fn,tmps,assign,body,e,f.mono d⟩⟩
def P_{f:E_}{args:C_ B_}{t}(v:B_)(h:∀a,Ext w a->a2 P f args.toArray a λb c=>b=v/\Ext a c)(d:bb v):P8 P f args w bb t:=awh v h d
def O_{n:F_}{cs:Array B_}{t}(c:∀a b,w.heap.size<=b->Ext w a->a.heap[b]? = some (.cells cs n)->K (.pointer (some ⟨b,0,none⟩)) a):Fl n cs w K t :=
 c _ _ (EM _) ((Ext.refl w).alloc _) (heap_alloc_new w _)
def _w{t}(c:∀a b,w.heap.size<=b->Ext w a->a.heap[b]? = some (.map #[] 0)->K (.map (some b)) a):P2 w K t:=c _ _ (EM _) ((Ext.refl w).alloc _) (heap_alloc_new w _)
def AB6{s:ByteArray}{t}(c:∀a b,w.heap.size<=b->Ext w a->a.heap[b]? = some (.stringIter s 0)->K (.pointer (some ⟨b,0,none⟩)) a):Qa (.string s) w K t :=
 ⟨s,rfl,c _ _ (EM _) ((Ext.refl w).alloc _) (heap_alloc_new w _)⟩
def _D{e:F_}{len sz:Nat}{c cs:C_ B_}{d:C_ (Nat×G_)}{t}(h:gv S ((List.range len).map λf=>(f*sz,sz)) d c=some cs)
  (g:∀a b,w.heap.size<=b->Ext w a->a.heap[b]? = some (.cells cs.toArray e)->K (.slice (some ⟨b,0,none⟩) len len) a):IY S e len sz c d w K t :=
 AO h (g _ _ (EM _) ((Ext.refl w).alloc _) (heap_alloc_new w _))
def _B{b j:Nat}{c:Array B_}{e:F_}{v:B_}{t}(a:w.heap[b]? = some (.cells c e))(d:j<c.size)(g:v.oneCell'=true)
  (h:∀f,dX b w f->f.heap[b]? = some (.cells (c.set j v d) e)->iu f):vo (.pointer (some (Addr.add ⟨b,0,none⟩ j))) v w iu t :=
 aip (gH a (Array.getElem?_eq_getElem d)) (by rw[add_eq];simp[World.frozen?,a]) g (h _ (by have i:=dX.setCell w (Addr.add ⟨b,0,none⟩ j) v;rwa[ZJ] at i) (VM a d v))
def _i{b:Nat}{c:Array B_}{e:F_}{v:B_}{t}(f:w.heap[b]? = some (.cells c e))(d:0<c.size)(g:v.oneCell'=true)
  (h:∀a,dX b w a->a.heap[b]? = some (.cells (c.set 0 v d) e)->iu a):vo (.pointer (some ⟨b,0,none⟩)) v w iu t :=
 _B (j:=0) (t:=⟨⟩) f d g h
def X_{b n:Nat}{c cs:Array B_}{e:F_}{t}(a:w.heap[b]? = some (.cells c e))(j:c.size=n)(f:cs.size=n)(g:∀h∈cs.toList,h.oneCell'=true)
  (i:∀d,dX b w d->d.heap[b]? = some (.cells cs e)->iu d):Ft n (.pointer (some ⟨b,0,none⟩)) (.agg cs) w iu t :=
 VW f (λk l=>⟨⟨_,gH a (Array.getElem?_eq_getElem AY)⟩,by rw[add_eq];simp[World.frozen?,a]⟩) g (i _ (dX.kT cs.toList w ⟨b,0,none⟩ 0) (ah2 a AY))
def Z_{b:fg}{t}(cJ:Fr->A_->Prop)(c:Fr->A_->Nat)(g:cJ S w)
  (h:∀a d,(∀t,b.gu.contains t=false->a t=S t)->cJ a d->e5 P b (jY (λe f=>cJ e f/\c e f<c a d) Q ⟨⟩) a d ⟨⟩):CQ P b Q S w t:=atU cJ c g h
def _Q{f:E_}{a:me}(b:P.follows .mixedOrders=true)(c:k2 P f=some a){args:C_ B_}{R:B_->A_->Prop}(d:args.length<=a.n)(h:e5 P a.code (uk a.res R ⟨⟩) (jo args 0) w ⟨⟩):a2 P f args.toArray w R:=enter b c d h
end
attribute [irreducible] e5
attribute [irreducible] qU
attribute [irreducible] sC
attribute [irreducible] lI
attribute [irreducible] O6
attribute [irreducible] Ds
attribute [irreducible] C4
attribute [irreducible] Av
attribute [irreducible] wU
attribute [irreducible] E8
attribute [irreducible] CJ
attribute [irreducible] yQ
attribute [irreducible] Fp
attribute [irreducible] P8
attribute [irreducible] Jp
attribute [irreducible] jF
attribute [irreducible] yS
attribute [irreducible] qf
attribute [irreducible] E7
attribute [irreducible] h6
attribute [irreducible] Ju
attribute [irreducible] Px
attribute [irreducible] tR
attribute [irreducible] qe
attribute [irreducible] rR
attribute [irreducible] PH
attribute [irreducible] Fg
attribute [irreducible] PM
attribute [irreducible] PR
attribute [irreducible] PO
attribute [irreducible] PK
attribute [irreducible] PI
attribute [irreducible] Pv
attribute [irreducible] sR
attribute [irreducible] Qc
attribute [irreducible] Ff
attribute [irreducible] PV
attribute [irreducible] PS
attribute [irreducible] Pw
attribute [irreducible] PY
attribute [irreducible] PZ
attribute [irreducible] Jn
attribute [irreducible] tM
attribute [irreducible] yN
attribute [irreducible] Jj
attribute [irreducible] PU
attribute [irreducible] vo
attribute [irreducible] Ft
attribute [irreducible] Fj
attribute [irreducible] IY
attribute [irreducible] lJ
attribute [irreducible] Fk
attribute [irreducible] P5
attribute [irreducible] Qa
attribute [irreducible] wX
attribute [irreducible] I1
attribute [irreducible] Qe
attribute [irreducible] CH
attribute [irreducible] YM
attribute [irreducible] P7
attribute [irreducible] yD
attribute [irreducible] Fl
attribute [irreducible] P2
attribute [irreducible] CQ
attribute [irreducible] oM
attribute [irreducible] jY w7 uk Dl
end ba
namespace ba
open Go Go.RowKit
structure a6{α:Type}(sz:Nat)(R:World->Addr->α->Prop)(w:World)(v:Value)(xs:List α):Prop where
 ex:∃aR cap,v = .slice aR xs.length cap/\xs.length<=cap/\cap<=maxLen/\(xs≠[]->aR.isSome=true)/\∀a,aR=some a->∀i (h:i<xs.length),R w (a.add (i*sz)) xs[i]
def a6.form{α:Type}{sz:Nat}{R:A_->Addr->α->Prop}{w:A_}{v:B_}{xs:C_ α}(h:a6 sz R w v xs):∃a b,v = .slice a xs.length b/\xs.length<=9223372036854775807:=by
 obtain⟨a,b,c,e,d,_⟩:=h.ex;exact⟨a,b,c,by unfold maxLen at d;omega⟩
def a6.addr{α:Type}{sz:Nat}{R:A_->Addr->α->Prop}{w:A_}{b:H_ Addr}{n c:Nat}{xs:C_ α}(h:a6 sz R w (.slice b n c) xs)(d:0<xs.length:=by omega):∃e,b=some e:=by
 obtain⟨i,j,a,k,l,f,_⟩:=h.ex;injection a with a _ _
 subst a;exact Option.isSome_iff_exists.1 (f (by intro g;subst g;simp at d))
def a6.at{α:Type}{sz:Nat}{R:A_->Addr->α->Prop}{w:A_}{a:Addr}{n c:Nat}{xs:C_ α}(h:a6 sz R w (.slice (some a) n c) xs)(i:Nat)(d:i<xs.length):R w (a.add (i*sz)) xs[i]:=by
 obtain⟨f,g,b,j,k,l,e⟩:=h.ex;injection b with b _ _
 subst b;exact e a rfl i d
theorem a6.ext{α:Type}{sz:Nat}{R:A_->Addr->α->Prop}(c:∀w w' a b,Ext w w'->R w a b->R w' a b){w w':A_}{v:B_}{xs:C_ α}(d:Ext w w')(h:a6 sz R w v xs):a6 sz R w' v xs:=by
 obtain⟨e,f,g,i,j,k,l⟩:=h.ex;exact⟨e,f,g,i,j,k,λa m n p=>c _ _ _ _ d (l a m n p)⟩
def Flat{α:Type}(enc:α->C_ B_)(w:A_)(a:Addr)(x:α):Prop:=fy w a (enc x)
theorem Flat.ext{α:Type}{enc:α->C_ B_}(w w':A_)(a:Addr)(x:α)(b:Ext w w')(h:Flat enc w a x):Flat enc w' a x:=fy.ext b h
def mK{a:Type}(enc:a->B_)(es:C_ MapEntry)(m:C_ (a×B_)):Prop:=es.map (λb=>(b.key,b.val))=m.map (λc=>(enc c.1,c.2))
theorem Gb{c:Type}[DecidableEq c]{enc:c->B_}{d:TypeDesc}(j:∀x k,Instr.sameNow d (enc x) (enc k)=some (decide (x=k)))(x:c):∀(e:C_ MapEntry) (a:C_ (c×B_)) (f:Nat),mK enc e a ->
  ∃g,Instr.findNow d (enc x) e f=some g/\g.map (·.2)=(a.find? (λh=>decide (x=h.1))).map (·.2)
 | [],a,f,b=>by
  have:a=[]:=by cases a with | nil=>rfl | cons _ _=>simp[mK] at b
  subst this;exact⟨none,rfl,rfl⟩
 | r :: e,a,f,b=>by
  cases a with
  | nil=>simp[mK] at b
  | cons h a =>
   simp only[mK,List.map_cons,List.cons.injEq,Prod.mk.injEq] at b;obtain⟨⟨l,m⟩,n⟩:=b;unfold Instr.findNow;rw[l,j];by_cases i:x=h.1
   .simp only[i,decide_true];exact⟨_,rfl,by simp[m]⟩
   .simp only[i,decide_false];obtain⟨g,p,q⟩:=Gb j x e a (f+1) n;exact⟨g,p,by rw[q];simp[i]⟩
def OQ(x y:ByteArray):Instr.sameNow .string (.string x) (.string y)=some (decide (x=y)):=by simp[Instr.sameNow,FF]
def axL(k q:IntKind)(x y:Int):Instr.sameNow (.int q) (.int k x) (.int k y)=some (decide (x=y)):=by simp[Instr.sameNow];rfl
def mK.push{a:Type}{enc:a->B_}{es:Array MapEntry}{m:C_ (a×B_)}(h:mK enc es.toList m)(x:a)(v:B_)(c:Nat):mK enc (es.push { key:=enc x,val:=v,born:=c }).toList (m++[(x,v)]):=by
 simp only[mK] at *;simp[h]
theorem RC{α:Type}{enc:α->C_ B_}{sz:Nat}(e:∀f,(enc f).length=sz):∀(c:C_ α) (b a:Nat) (d:b<c.length),a<sz->(c.flatMap enc)[b*sz+a]? = (enc c[b])[a]?
 | [],b,a,d,_=>by simp at d
 | f :: c,0,a,d,g=>by
  simp only[List.flatMap_cons,Nat.zero_mul,Nat.zero_add,List.getElem_cons_zero];rw[List.getElem?_append_left (by rw[e];exact g)]
 | f :: c,b+1,a,d,g=>by
  simp only[List.flatMap_cons,List.getElem_cons_succ];rw[List.getElem?_append_right (by rw[e,AI2];omega),e,show(b+1)*sz+a - sz=b*sz+a from by rw[AI2];omega];exact RC e c b a (by simpa using d) g
def alu{α:Type}{enc:α->C_ B_}{sz:Nat}(a:∀g,(enc g).length=sz){w:A_}{b:Nat}{e:F_}{f:Nat×Nat}{xs:C_ α}(j:w.heap[b]? = some (.cells (xs.flatMap enc).toArray e f))(i:Nat)(h:i<xs.length) :
  fy w (Addr.add ⟨b,0,none⟩ (i*sz)) (enc xs[i]):=λc l d=>by
 have k:c<sz:=by rw[<-a xs[i]];exact(List.getElem?_eq_some_iff.1 d).1
 rw[add_add];exact gH j (by rw[List.getElem?_toArray,RC a xs i c h k];exact d)
def a6.b0{α:Type}{enc:α->C_ B_}{sz:Nat}(g:∀a,(enc a).length=sz){R:A_->Addr->α->Prop}{w:A_}{b n:Nat}{e:F_}{f:Nat×Nat}{xs:C_ α}(h:w.heap[b]? = some (.cells (xs.flatMap enc).toArray e f))
  (i:n=xs.length)(j:xs.length<=maxLen)(k:∀c a,a∈xs->fy w c (enc a)->R w c a):a6 sz R w (.slice (some ⟨b,0,none⟩) n n) xs:=by
 subst i;refine⟨_,_,rfl,EM _,j,λ_=>rfl,λc d l m=>?_⟩;injection d with d;subst d
 exact k _ _ (FA _) (alu g h l m)
def a6.nil{α:Type}{sz:Nat}{R:A_->Addr->α->Prop}{w:A_}:a6 sz R w (.slice none 0 0) ([]:C_ α):=⟨none,0,rfl,EM _,AG6 _,λa=>absurd rfl a,λb a=>by cases a⟩
end ba
namespace o
open Go
def letter(n:Int):Bool:=decide (97<=n/\n<=122\/65<=n/\n<=90)
def digit(n:Int):Bool:=decide (48<=n/\n<=57)
def part(n:Int):Bool:=letter n||digit n||decide (n=95)
def tZ(s:ByteArray)(i:Nat):Nat:=(s.get! i).toNat
def run(p:Int->Bool)(s:ByteArray):Nat:=(s.data.toList.takeWhile λa=>p a.toNat).length
theorem aiw{α:Type}(p:α->Bool):∀(a:C_ α) (b:Nat) (c:b<a.length),(∀d (h:d<b),p (a[d]' AY)=true)->p a[b]=false->(a.takeWhile p).length=b
 | [],b,c,_,_=>by simp at c
 | f :: a,0,c,_,e=>by simp at e;simp[e]
 | f :: a,b+1,c,g,e=>by
  have i:p f=true:=g 0 AY;rw[List.takeWhile_cons,if_pos i,AH5,aiw p a b (by simpa using c) (λd h=>g (d+1) AY) (by simpa using e)]
theorem aiv{α:Type}(p:α->Bool):∀(a:C_ α) (_:∀b (c:b<a.length),p a[b]=true),(a.takeWhile p).length=a.length
 | [],_=>rfl
 | e :: a,d=>by
  have f:p e=true:=d 0 Ah;rw[List.takeWhile_cons,if_pos f,AH5,aiv p a (λb c=>d (b+1) (by simpa using c)),AH5]
def ahQ(p:Int->Bool)(s:ByteArray)(n:Nat)(h:n<s.size)(c:∀a (b:a<n),p (s[a]' AY).toNat=true)(d:p s[n].toNat=false):run p s=n :=
 aiw (λe:UInt8=>p e.toNat) s.data.toList n (by simpa using h) (λa b=>c a b) d
def ahH(p:Int->Bool)(s:ByteArray)(h:∀a (b:a<s.size),p s[a].toNat=true):run p s=s.size:=by
 have:=aiv (λc:UInt8=>p c.toNat) s.data.toList (λa b=>h a (by simpa using b))
 rw[run,this];simp
def amt{p:Int->Bool}(a:∀b:Int,128<=b->p b=false)(s:ByteArray)(pos:Nat)(h:pos<s.size) :
  p (Utf8.decode s pos).1=p s[pos].toNat/\(p s[pos].toNat=true->(Utf8.decode s pos).2=1):=by
 by_cases c:s[pos].toNat<128
 .rw[decode_ascii s pos h c];exact⟨rfl,λ_=>rfl⟩
 .have d:=decode_high s pos h AY;rw[a _ AY,a _ AY];exact⟨rfl,λh=>by simp at h⟩
theorem atH(r:Int)(h:128<=r):letter r=false:=by simp[letter];omega
theorem amw(r:Int)(h:128<=r):digit r=false:=by simp[digit];omega
def avy(r:Int)(h:128<=r):part r=false:=by simp[part,atH r h,amw r h];omega
instance aBU:LawfulBEq ByteArray where
 eq_of_beq {a b} h:=by rw[ba.FF] at h;exact of_decide_eq_true h
 rfl {a}:=by rw[ba.FF];exact decide_eq_true rfl
def sy:C_ ByteArray:=[⟨#[115,101,108,102]⟩,⟨#[110,111,110,101]⟩,⟨#[108,101,110]⟩,⟨#[97,116]⟩]
def isName(s:ByteArray):Bool:=decide (s.size≠0)&&decide (s.size<=16)&&letter (tZ s 0)&&decide (run part s=s.size) && !decide (s∈sy)
def axC(p:Int->Bool)(s:ByteArray):run p s<=s.size:=by
 have:=(List.takeWhile_sublist (λa:UInt8=>p a.toNat) (l:=s.data.toList)).length_le
 simpa[run] using this
def get_eq(s:ByteArray)(i:Nat)(h:i<s.size):s.get! i=s[i]:=by
 obtain⟨a⟩:=s;show a[i]! = a[i];exact getElem!_pos a i h
def get?_eq(s:ByteArray)(i:Nat)(h:i<s.size):s[i]? = some (s.get! i):=by rw[get_eq s i h];exact getElem?_pos s i h
structure Scalar where
 name:ByteArray
 size:Int
structure Var where
 name:ByteArray
 scalar:Int
 over:Int
 aQ:Int
 ab:Int
 init:Int
structure eb where
 name:ByteArray
 scalar:Int
 cap:Int
 aQ:Int
 ab:Int
 afM:Bool
def size(k:Int)(s:C_ Scalar):Int :=
 match s[(k - 1).toNat]? with
 | some a=>if 1<=k/\1<=a.size/\a.size<=4 then a.size else 0
 | none=>0
def narrow(a b:Int):Bool:=decide (-1048576<=a/\a<=b/\b<=1048576/\b - a<256)
def there(k:Int)(s:C_ Scalar):Bool:=decide (k=0\/size k s≠0)
def err(fR:Int)(a:Nat->ByteArray)(mo:Nat->Int)(i:Nat):Int :=
 if fR<=i then 11 else if isName (a i)=false then 6 else if ∃b,b<i/\a b=a i then 7 else mo i
def first(n:Nat)(e:Nat->Int):Int×Int:=match (List.range n).find? (λa=>decide (e a≠0)) with | some a=>((a:Int),e a) | none=>(0,0)
def j9{n:Nat}{e:Nat->Int}{i:Nat}(b:i<n)(c:∀a,a<i->e a=0)(d:e i≠0):first n e=((i:Int),e i):=by
 have:(List.range n).find? (λi=>decide (e i≠0))=some i:=by
  rw[List.find?_range_eq_some];simp only[decide_eq_true_eq];exact⟨d,by simpa using b,λa f=>by simp[c a f]⟩
 rw[first,this]
def qt{n:Nat}{e:Nat->Int}(h:∀a,a<n->e a=0):first n e=(0,0):=by
 have:(List.range n).find? (λb=>decide (e b≠0))=none:=by
  rw[List.find?_range_eq_none];intro a c;simp[h a c]
 rw[first,this]
def abE{n:Nat}{e e':Nat->Int}(h:∀a,a<n->e a=e' a):first n e=first n e':=by
 by_cases f:∃b,b<n/\e b≠0/\∀a,a<b->e a=0
 .obtain⟨b,d,g,i⟩:=f;rw[j9 d i g,j9 d (λa c=>by rw[<-h a AY];exact i a c) (by rw[<-h b d];exact g),h b d]
 .have j:∀a,a<n->e a=0:=by
   intro a
   induction a using Nat.strongRecOn with
   | _ a l =>
    intro c;by_cases k:e a=0
    .exact k
    .exact absurd ⟨a,c,k,λm p=>l m p AY⟩ f
  rw[qt j,qt λa c=>by rw[<-h a c];exact j a c]
def nameAt{α:Type}(f:α->ByteArray)(l:C_ α)(i:Nat):ByteArray:=(l[i]?.map f).getD ⟨#[]⟩
def u6(l:C_ Scalar)(i:Nat):Int:=match l[i]? with | some a=>if 1<=a.size/\a.size<=4 then 0 else 10 | none=>0
def scalars(l:C_ Scalar):Int×Int:=first l.length (err 2 (nameAt (·.name) l) (u6 l))
def bounds(v:Var)(s:C_ Scalar):Int×Int:=if v.scalar=0 then (v.aQ,v.ab) else (0,size v.scalar s)
def cells(v:Var)(s:C_ Scalar):Int:=if v.over=0 then 1 else size v.over s
def qX(l:C_ Var)(s:C_ Scalar)(i:Nat):Int :=
 match l[i]? with
 | some a=>if there a.scalar s=false\/there a.over s=false then 8
  else if (a.scalar=0/\narrow a.aQ a.ab=false)\/a.init<(bounds a s).1\/a.init > (bounds a s).2 then 10 else 0
 | none=>0
def vars(l:C_ Var)(s:C_ Scalar)(fR:Int):Int×Int:=first l.length (err (max fR 0) (nameAt (·.name) l) (qX l s))
def qo(l:C_ eb)(s:C_ Scalar)(i:Nat):Int :=
 match l[i]? with
 | some a=>if there a.scalar s=false then 8
  else if a.cap<1\/a.cap > 4\/(a.scalar=0/\narrow a.aQ a.ab=false) then 10 else 0
 | none=>0
def aA(l:C_ eb)(s:C_ Scalar):Int×Int:=first l.length (err 4 (nameAt (·.name) l) (qo l s))
end o
namespace o
open Go Go.RowKit ba
def Scalar.enc(x:Scalar):C_ B_:=[.string x.name,.int .i64 x.size]
def Var.enc(x:Var):C_ B_:=[.string x.name,.int .i64 x.scalar,.int .i64 x.over,.int .i64 x.aQ,.int .i64 x.ab,.int .i64 x.init]
def eb.enc(x:eb):C_ B_:=[.string x.name,.int .i64 x.scalar,.int .i64 x.cap,.int .i64 x.aQ,.int .i64 x.ab,.bool x.afM]
def kl(s:ByteArray):Prop:=s.size<=9223372036854775807
instance aCb(s:ByteArray):Decidable (kl s):=Nat.decLe _ _
structure jG(w:World)(a:Addr)(x:Scalar):Prop where
 cells:fy w a x.enc
 ok:kl x.name
structure q4(w:World)(a:Addr)(x:Var):Prop where
 cells:fy w a x.enc
 ok:kl x.name
structure rW(w:World)(a:Addr)(x:eb):Prop where
 cells:fy w a x.enc
 ok:kl x.name
theorem jG.ext(w w':A_)(a:Addr)(x:Scalar)(b:Ext w w')(h:jG w a x):jG w' a x:=⟨h.cells.ext b,h.ok⟩
theorem q4.ext(w w':A_)(a:Addr)(x:Var)(b:Ext w w')(h:q4 w a x):q4 w' a x:=⟨h.cells.ext b,h.ok⟩
theorem rW.ext(w w':A_)(a:Addr)(x:eb)(b:Ext w w')(h:rW w a x):rW w' a x:=⟨h.cells.ext b,h.ok⟩
abbrev hI(w:A_)(v:B_)(l:C_ Scalar):Prop:=a6 2 jG w v l
abbrev j1(w:A_)(v:B_)(l:C_ Var):Prop:=a6 6 q4 w v l
abbrev oc(w:A_)(v:B_)(l:C_ eb):Prop:=a6 6 rW w v l
def hI.b0{w:A_}{b n:Nat}{e:F_}{f:Nat×Nat}{xs:C_ Scalar}(c:w.heap[b]? = some (.cells (xs.flatMap Scalar.enc).toArray e f))(d:n=xs.length)(g:xs.length<=maxLen)(h:∀a∈xs,kl a.name) :
  hI w (.slice (some ⟨b,0,none⟩) n n) xs:=a6.b0 (enc:=Scalar.enc) (λ_=>rfl) c d g λ_ a i j=>⟨j,h a i⟩
end o
namespace ba
open Go Go.RowKit Go.ChangeShapes Go.WideShapes Go.Deep
section
variable{H:Type}{enc:TypeId×Value->H}{P:Program}
theorem aiO{w:A_}:∀{e:C_ F_} {f:C_ B_} {g:C_ (DataW H)} {d:C_ MemPlace},DataW.TrodAll enc P w 0 (λ_=>true) true e f g d->∀b∈d,b.block<w.heap.size
 | [],_,_,_,c=>by
  obtain⟨rfl,rfl,rfl⟩:=trodAll_nil c;intro b a;cases a
 | _ :: _,_,_,_,c=>by
  obtain⟨k,l,m,n,p,q,rfl,rfl,rfl,⟨h,i⟩,j⟩:=trodAll_cons c;intro b a;rcases List.mem_append.1 a with a | a
  .exact DataW.trod_lt h _ _ _ i b a
  .exact aiO j b a
theorem aiN{w:A_}{d:Nat->Bool}{e:Bool}:∀{b:C_ F_} {f:C_ B_} {c:C_ (DataW H)} {g:C_ MemPlace},DataW.TrodAll enc P w 0 d e b f c g->c.length=b.length
 | [],_,_,_,a=>by
  obtain⟨rfl,rfl,rfl⟩:=trodAll_nil a;rfl
 | _ :: _,_,_,_,a=>by
  obtain⟨i,j,k,l,m,n,rfl,rfl,rfl,p,h⟩:=trodAll_cons a;simp[aiN h]
theorem aiM(h:laidOutB P=true){a i:A_}(j:Below a.heap.size a i):∀{d:C_ F_} {k:C_ B_} {l:C_ (DataW H)} {e:C_ MemPlace},(d.all λm=>P.readableRec m&&decide (m<P.types.size))=true ->
  DataW.TrodAll enc P a 0 (λ_=>true) true d k l e->(∀b∈e,b.block<a.heap.size)->DataW.TrodAll enc P i 0 (λn=>decide (n<a.heap.size)) true d k l e
 | [],_,_,_,_,f,_=>by
  obtain⟨rfl,rfl,rfl⟩:=trodAll_nil f;exact trodAll_mk0
 | _ :: _,_,_,_,c,f,p=>by
  obtain⟨s,t,u,v,w,n,rfl,rfl,rfl,q,r⟩:=trodAll_cons f;simp only[List.all_cons,Bool.and_eq_true,decide_eq_true_eq] at c;exact trodAll_cons_mk (Below.trod h c.1.1 c.1.2 q j λb g=>p b (AI7 _ g)) (aiM h j c.2 r λb g=>p b (AJ0 _ g))
def aCi{s:ChangeSpec}{f:Func}{d:F_}(l:laidOutB P=true)(m:(f.params.toList.all λe=>P.readableRec e&&decide (e<P.types.size))=true)(g:s.vars=[])
  (n:f.resultTypes=#[d])(p:P.underlying d=some .bool)(q:∀ds:C_ (DataW H),ds.length=f.params.toList.length->s.fn H ds = { results:=[.lit (.bool true)],args:=ds })
  {a h:A_}{args:Array B_}{ds r:C_ (DataW H)}{t:C_ MemPlace}(i:DataW.Whole enc P f.params.toList s.vars false a args.toList ds r t)(j:Ext a h) :
  s.post enc P f false true false false a args (.bool true) h:=by
 have u:=i;obtain⟨v,y,b,k,rfl,z,A⟩:=i;rw[g] at k;obtain⟨rfl,rfl⟩:=trodVars_none k;have w:=aiO b;have c:=q ds (aiN b);refine⟨ds,[],_,[],v,[],u,?_,?_,?_,j.frame _,λx=>by cases x⟩
 .rw[AG5,c,n];exact trodAll_mk1 (shut_bool p _)
 .rw[AG5,c];exact aiM l j m b w
 .rw[AG5,c,g];rfl
variable{w:World}{base:Nat}{spare:Nat->Bool}{held:Bool}
theorem Ul{α:Type}(n:Nat)(R:Nat->α->Prop)(h:∀a,a<n->∃d,R a d):∃b:C_ α,b.length=n/\∀a (c:a<b.length),R a b[a]:=by
 induction n with
 | zero=>exact⟨[],rfl,λa c=>absurd c (Od _)⟩
 | succ n g =>
  obtain⟨b,e,i⟩:=g λa c=>h a AY;obtain⟨d,j⟩:=h n AY;refine⟨b++[d],by simp[e],λa c=>?_⟩;by_cases f:a<b.length
  .rw[AJ4 f];exact i a f
  .have:a=n:=by simp at c;omega
   subst this;rw[AJ5 AY];simpa[e] using j
end
theorem aly{d:Type}{enc:F_×B_->d}{P:D_}{w:A_}{base:Nat}{m:Nat->Bool}{q:Bool}{f:Nat}{t e:F_}{n:Nat}{cs:C_ B_}{c:C_ ByteArray}{p:C_ MemPlace}
  (r:P.underlying t=some (.array n e))(s:P.underlying e=some .string)(u:P.cellsOf e=1)(v:P.cellsOf t=n)
  (h:DataW.trod enc P w base m q f t cs=some (.agg (c.map λa=>.lit (.string a.data.toList)),p)):cs=c.map Value.string:=by
 cases f with
 | zero=>simp[DataW.trod] at h
 | succ f =>
  simp only[DataW.trod,r,u,v,Nat.mul_one] at h;split at h
  .rename_i I;obtain⟨g,j,x⟩:=Option.map_eq_some_iff.1 h;have k:g.map (·.1)=c.map λa=>(DataW.lit (.string a.data.toList):DataW d):=by
    have:=congrArg Prod.fst x
    simpa using this
   have J:g.length=n:=by simpa using Lib.mapM_length j
   have K:c.length=n:=by
    have:=congrArg List.length k
    simp at this;omega
   apply List.ext_getElem?;intro b;by_cases y:b<n
   .obtain⟨L,z,A⟩:=Lib.mapM_at j b b (by simp[y]);obtain⟨a,B,rfl,_⟩:=DataW.trod_string s A;have C:cs[b]? = some (.string a):=by
     have:=congrArg (·[0]?) B
     simpa[List.getElem?_take,List.getElem?_drop] using this
    have i:(g.map (·.1))[b]? = some (DataW.lit (.string a.data.toList):DataW d):=by simp[z]
    rw[k] at i;simp only[List.getElem?_map,Option.map_eq_some_iff,DataW.lit.injEq,Lit.string.injEq] at i;obtain⟨l,G,e⟩:=i;have H:l=a:=by
     cases l;cases a;simp at e;simp[e]
    simp[C,G,H]
   .rw[List.getElem?_eq_none AY,List.getElem?_eq_none (by simp;omega)]
  .cases h
def aCV{P:D_}{b:A_}{name:String}{c:C_ ByteArray}{f:C_ (String×DataW Unit)}{g:Nat}{t e:F_}{n:Nat}
  (d:P.globalNamed name=some g)(i:(P.globals[g]?).map (·.type)=some t)(j:P.underlying t=some (.array n e))(k:P.underlying e=some .string)(l:P.cellsOf e=1)(m:P.cellsOf t=n)
  (h:laidMet P ((name,.agg (c.map λp=>.lit (.string p.data.toList))) :: f) b):fy b ⟨g,0,none⟩ (c.map Value.string):=by
 obtain⟨w,⟨x,y,z,A,B,C,q,r,s,u,_,_⟩,_⟩:=h;obtain rfl:=Option.some.inj (d.symm.trans q);obtain rfl:=Option.some.inj (i.symm.trans r);have e:=aly j k l m u;intro a G v
 have:=World.var?_cell d s a
 rw[show Addr.add ⟨g,0,none⟩ a=⟨g,a,none⟩ from by cases a<;>simp[Addr.add],this,Array.getElem?_toList.symm,e];exact v
end ba
namespace ba
open Go Go.RowKit
def Ext.grown{w0 w w':A_}{r:H_ Nat}(a:Ext w0 w)(c:w.grownBy w' r)(d:∀b,r=some b->w0.heap.size<=b):Ext w0 w':=Below.grown a c a.size d
def avr{w w':A_}{base:Nat}{e:F_}{sz:Nat}{v:B_}{n:Nat}{xs:C_ B_}(a:Ext w w')(h:w.ownsRow base e sz v n xs):w'.ownsRow base e sz v n xs:=by
 refine⟨h.1,?_⟩;rcases h.2 with b | ⟨c,cap,cur,rfl,d,f,rest⟩
 .exact .inl b
 .exact .inr ⟨c,cap,cur,rfl,d,a.obj f,rest⟩
def avs{w:A_}{base a:Nat}{e:F_}{sz:Nat}{v:B_}{n:Nat}{xs:C_ B_}(b:a<=base)(h:w.ownsRow base e sz v n xs):w.ownsRow a e sz v n xs:=by
 refine⟨h.1,?_⟩;rcases h.2 with c | ⟨d,cap,cur,rfl,f,rest⟩
 .exact .inl c
 .exact .inr ⟨d,cap,cur,rfl,Ug b f,rest⟩
def agu{w:A_}{base:Nat}{e:F_}{sz:Nat}{v:B_}{n:Nat}{xs:C_ B_}(h:w.ownsRow base e sz v n xs):∃d a,v = .slice d n a/\n<=a/\a<=maxLen/\(n≠0->d.isSome=true)/\∀c,d=some c->fy w c xs:=by
 rcases h.2 with ⟨rfl,rfl⟩ | ⟨f,a,cur,rfl,m,p,g,i,q,r⟩
 .exact⟨none,0,rfl,EM _,AG6 _,λh=>absurd rfl h,λc b=>by cases b⟩
 .exact⟨_,a,rfl,g,i,λ_=>rfl,λc b=>by injection b with b;subst b;exact λj k l=>h.cells (g:=f) rfl j k l⟩
def avt{α:Type}{enc:α->C_ B_}{w:A_}{base:Nat}{e:F_}{sz:Nat}{v:B_}{xs:C_ α}(a:∀f,(enc f).length=sz)(h:w.ownsRow base e sz v xs.length (xs.flatMap enc)):a6 sz (Flat enc) w v xs:=by
 obtain⟨g,i,rfl,j,k,l,m⟩:=agu h;refine⟨g,i,rfl,j,k,λn=>l (by intro e;exact n (AF8 e)),λp q b r=>?_⟩;intro c t d;have s:c<sz:=by rw[<-a xs[b]];exact(List.getElem?_eq_some_iff.1 d).1
 rw[add_add];exact m p q _ _ (by rw[RC a xs b c r s];exact d)
def AB7{P:D_}{i:B_->A_->Prop}{w:A_}{h e:F_}{sz b:Nat}{s:B_}{a:Addr}{m c:Nat}{t}{base n:Nat}{xs f:C_ B_}(j:w.ownsRow base e sz s n xs)(k:fy w a f)(l:f.length=m*sz)
  (p:∀q∈f,q.oneCell'=true)(r:n+m<=maxLen)(u:(n+m)*b<=140737488355328)(v:base<=w.heap.size)
  (x:∀g d,d.ownsRow base e sz g (n+m) (xs++f)->w.grownBy d s.ownBlock->i g d):lJ P h e sz b s (.slice (some a) m c) w i t :=
 _h λ⟨y,z,A,B,C,G,H,I,J⟩=>by
  obtain⟨g,d,K,L,M,_⟩:=run_append_own (P:=P) w base h h e z A sz b y B C G H I J s n xs j a m c f l k p r u v;exact⟨h,g,d,K,x g d L M⟩
theorem add_zero(a:Addr):a.add 0=a:=by simp[Addr.add]
theorem a6.cap{α:Type}{sz:Nat}{R:A_->Addr->α->Prop}{w:A_}{a:H_ Addr}{n c:Nat}{xs:C_ α}(h:a6 sz R w (.slice a n c) xs):xs.length<=c:=by
 obtain⟨f,g,b,d,i,j,k⟩:=h.ex;injection b with l m e
 subst e;exact d
def a6.take{α:Type}{sz:Nat}{R:A_->Addr->α->Prop}{w:A_}{a:H_ Addr}{n c:Nat}{xs:C_ α}(h:a6 sz R w (.slice a n c) xs)(k:Nat)(f:k<=xs.length) :
  a6 sz R w (.slice (if c=0 then a else a.map (·.add (0*sz))) (k - 0) (c - 0)) (xs.take k):=by
 obtain⟨u,v,b,x,g,i,j⟩:=h.ex;injection b with l m p
 subst l m p;have b:(if c=0 then a else a.map (·.add (0*sz)))=a:=by
  split
  .rfl
  .cases a with
   | none=>rfl
   | some d=>simp[add_zero]
 rw[b];refine⟨a,c,by simp[List.length_take,Nat.min_eq_left f],by simp[List.length_take];omega,g,λq=>i (by intro b;subst b;simp at q),λd r e s=>?_⟩;have t:e<xs.length:=by simp[List.length_take] at s;omega
 rw[AL0];exact j d r e t
theorem abK{α:Type}{enc:α->C_ B_}{sz:Nat}(g:∀h,(enc h).length=sz):∀(c:C_ α) (b:Nat) (d:B_),(c.flatMap enc)[b]? = some d->∃e f,∃a:e<c.length,f<sz/\b=e*sz+f/\(enc c[e])[f]? = some d
 | [],b,d,a=>by simp at a
 | h :: c,b,d,a=>by
  rw[AK1] at a;by_cases i:b<sz
  .rw[List.getElem?_append_left (by rw[g];exact i)] at a;exact⟨0,b,Ah,i,Ah,a⟩
  .rw[List.getElem?_append_right (by rw[g];omega),g] at a;obtain⟨e,f,j,k,m,l⟩:=abK g c (b - sz) d a;exact⟨e+1,f,by simpa using j,k,by rw[AI2];omega,by simpa using l⟩
def a6.flat{α:Type}{enc:α->C_ B_}{sz:Nat}{R:A_->Addr->α->Prop}{w:A_}{a:Addr}{n c:Nat}{xs:C_ α}(e:∀b,(enc b).length=sz)(f:∀a b,R w a b->fy w a (enc b))
  (h:a6 sz R w (.slice (some a) n c) xs):fy w a (xs.flatMap enc):=by
 intro g d i;obtain⟨j,k,l,p,rfl,m⟩:=abK e xs g d i
 have:=f _ _ (h.at j l) k d m
 rwa[add_add] at this
theorem mV{α:Type}{enc:α->C_ B_}{sz:Nat}(b:∀c,(enc c).length=sz):∀(a:C_ α),(a.flatMap enc).length=a.length*sz
 | []=>Ah
 | c :: a=>by rw[AK1,JM,mV b a,b,AH5,AI2];omega
def _x{P:D_}{Q:fI->Fr->A_->Prop}{S:Fr}{w:A_}{a b:fg}{t}(f:Fr->A_->Prop)(g:e5 P a (jY f Q ⟨⟩) S w ⟨⟩)
  (h:∀d e,(∀t,a.gu.contains t=false->d t=S t)->f d e->e5 P b Q d e ⟨⟩):e5 P (.seq a b) Q S w t:=by
 unfold e5 jY at *;exact rM a _ _ S w (λi d e j c=>match i,c with | .normal,c=>h d e j c | .exit _,c=>c | .ret,c=>c | .h2 _,c=>c) g
def _8{P:D_}{c:F_}{e f:G_}{d:B_->Prop}{a b:Bool}{t}(h:P.underlying c=some .bool)(g:d (.bool (a != b))):h6 P .neq c e f (.bool a) (.bool b) d t :=
 _J (v:=.bool (a != b)) (λi=>by cases a<;>cases b<;>simp[eqGuard_at_bool,binOp,run_equal_bool i c _ _ h]) g
def avq{w:A_}{base:Nat}{e:F_}{sz b:Nat}(a:base<=b)(h:w.heap[b]? = some (.cells #[] e)):w.ownsRow base e sz (.slice (some ⟨b,0,none⟩) 0 0) 0 [] :=
 ⟨Ah,.inr ⟨b,0,#[],rfl,a,h,EM _,AG6 _,Ah,Ah⟩⟩
end ba
namespace ba
open Go Go.RowKit
class nD{α:Type}(R:World->Addr->α->Prop)(enc:outParam (α->List Value)):Prop where
 JQ:∀w a x,R w a x->fy w a (enc x)
instance aBO{α:Type}(enc:α->List Value):nD (Flat enc) enc:=⟨λ_ _ _ h=>h⟩
section
variable{P:Program}{Q:fI->Fr->World->Prop}{bb:Value->Prop}{K:Value->World->Prop}{S:Fr}{w w0:World}
def _G{b j:Nat}{c:C_ B_}{a:F_}{f:Nat×Nat}{v:B_}{t}(d:w0.heap[b]? = some (.cells c.toArray a f))(e:Ext w0 w)(g:c[j]? = some v)(h:bb v):tM (.pointer (some (Addr.add ⟨b,0,none⟩ j))) w bb t :=
 L_ (gH (e.obj d) (by simpa using g)) h
def _C{b:Nat}{c:C_ B_}{a:F_}{f:Nat×Nat}{v:B_}{t}(d:w0.heap[b]? = some (.cells c.toArray a f))(e:Ext w0 w)(g:c[0]? = some v)(h:bb v):tM (.pointer (some ⟨b,0,none⟩)) w bb t :=
 L_ (Dd (e.obj d) (by simpa using g)) h
def S_{b n:Nat}{c:C_ B_}{a:F_}{f:Nat×Nat}{t}(d:w0.heap[b]? = some (.cells c.toArray a f))(e:Ext w0 w)(g:c.length=n)(h:bb (.agg c.toArray)):yN n (.pointer (some ⟨b,0,none⟩)) w bb t :=
 Y_ (g5 (e.obj d)) g h
def _L{α:Type}{sz i j n c:Nat}{R:A_->Addr->α->Prop}{enc:α->C_ B_}[nD R enc]{a:Addr}{xs:C_ α}{v:B_}{t}(b:a6 sz R w0 (.slice (some a) n c) xs)(d:Ext w0 w)(e:i<xs.length)(f:(enc xs[i])[j]? = some v)
  (g:bb v):tM (.pointer (some ((a.add (i*sz)).add j))) w bb t:=L_ (d.cell (nD.JQ _ _ _ (b.at i e) j v f)) g
def _R{α:Type}{i n c:Nat}{R:A_->Addr->α->Prop}{enc:α->C_ B_}[nD R enc]{a:Addr}{xs:C_ α}{v:B_}{t}(d:a6 1 R w0 (.slice (some a) n c) xs)(e:Ext w0 w)(f:i<xs.length)(g:(enc xs[i])[0]? = some v)
  (h:bb v):tM (.pointer (some (a.add (i*1)))) w bb t:=by
 have b:=nD.JQ (R:=R) _ _ _ (d.at i f) 0 v g;rw[add_zero] at b;exact L_ (e.cell b) h
def _S{α:Type}{sz i n c m:Nat}{R:A_->Addr->α->Prop}{enc:α->C_ B_}[nD R enc]{a:Addr}{xs:C_ α}{t}(b:a6 sz R w0 (.slice (some a) n c) xs)(d:Ext w0 w)(e:i<xs.length)(f:(enc xs[i]).length=m)
  (g:bb (.agg (enc xs[i]).toArray)):yN m (.pointer (some (a.add (i*sz)))) w bb t:=Y_ ((nD.JQ _ _ _ (b.at i e)).ext d) f g
def _M{p:Prop}[Decidable p]{A B:Prop}{t}(h:p)(a:A):qe (.bool (decide p)) A B t:=I_ (λ_=>a) λb=>absurd h b
def _N{p:Prop}[Decidable p]{A B:Prop}{t}(h:¬p)(a:B):qe (.bool (decide p)) A B t:=I_ (λb=>absurd b h) λ_=>a
def _E{a:Bool}{A B:Prop}{t}(h:a=true)(c:A):qe (.bool a) A B t:=N_ (λ_=>c) λb=>by rw[h] at b;cases b
def _F{a:Bool}{A B:Prop}{t}(h:a=false)(c:B):qe (.bool a) A B t:=N_ (λb=>by rw[h] at b;cases b) λ_=>c
def _T{sz:Nat}{a:Addr}{len cap:Nat}{k:IntKind}{i:Nat}{t}(h:i<len)(b:bb (.pointer (some (a.add (i*sz))))):Fg sz (.slice (some a) len cap) (.int k (i:Int)) bb t:=M_ i rfl h b
def _O{d n:Nat}{e:F_}{cs:Array B_}{x:G_}{r:C_ Step}{f:Fr->A_->Prop}{vs:C_ B_}{h t}(i:∀c,br (cC S d c) x = .agg vs.toArray)(j:vs.length=n)(k:cs.size=n)(l:∀m∈vs,m.oneCell'=true)
  (p:∀b a,w.heap.size<=a->Ext w b->b.heap[a]? = some (.cells vs.toArray e)->qU P r (cC S d (.pointer (some ⟨a,0,none⟩))) b f ⟨⟩) :
  Fl e cs w (λc q=>qU P (⟨none,none,.e (.mF n (.tmp d) x)⟩ :: r) (put S (some d) c) q f h) t:=by
 refine O_ λb a g s u=>?_;simp -dsimp only[WE,WG,WH,WI,WJ,WK,WL,WM,WN,WO,WR,B1,WS,WT,WU,WV,WW,WX,WY,cD,WZ,W0,W1,W2,W3,W4,W5,W6,W7,W8,Xb,Xc,Xd,Xe,Xf,Xg,Xh,Xi,Xj,Xk,Xn,Xo,dh,hb,dT,hA,ko,h7,iV,iW,Xq,Xr,Xs,Xt,Xu,Xv,Xw,Xx,Xy,Xz,XA,H1,XB,XC,XD,XE,XF,XG,XH,XI,XJ,XK,XL,XM,XN,XO,XP,XQ,XR,XS,XU,XV,XW,XX,XY,XZ,X0,X1,X2,X3,X6,X7,M2,X8,X9,Ya,Yb,Yc,Yd,Ye,Yh,Yi,Yj,Yk,Yl,Ym,Yn,Yo,Yp,Yq,Yr,Ys,Yt,Yu,Yv,Yw,Yx,Yy,Yz,YA,YB,YC,YD,YE,YF,YG,YH,YI,YJ,YK,YN,Fq,Fs,YO,YP,YQ,YR,YS,YT,YU,Y0,Y1,Y2,kW,Y3,Y4,Y5,Y6,Y7,Y8,Za,Zb,Zc,Zd,Ze,Zf,Zg,Zh,Zi,Zj,Zk,Zl,Zm,Zn,Zo,Zp,Zq,Zr,Zs,Zt,Zu,g3,eT,iX,oY,j2,j3,Nat.reduceAdd,Nat.reduceEqDiff,reduceIte,reduceCtorEq,dt,i];refine X_ (cs:=vs.toArray) u k (by simpa using j) (by simpa using l) λv y z=>?_;exact p v a g (y.ext s g) z
theorem _j{b:fg}{t}(i f:Nat)(g:Nat->Fr->A_->Prop)(m:S i = .I 0)(n:g 0 S w)
  (p:∀(a:Nat) d e,(∀t,b.gu.contains t=false->d t=S t)->a<=f->d i = .I a->g a d e ->
   e5 P b (jY (λh j=>a<f/\h i = .I ((a:Int)+1)/\g (a+1) h j) Q ⟨⟩) d e ⟨⟩):CQ P b Q S w t:=by
 refine Z_ (λS w => ∃a:Nat,a<=f/\S i = .I a/\g a S w) (λS _=>(f - intOf (S i)).toNat) ⟨0,AG6 _,by simpa using m,n⟩ ?_;rintro d e q ⟨a,r,k,s⟩;have c:=p a d e q r k s;unfold e5 jY at *;refine rM b _ _ d e (λu h j _ c=>?_) c
 match u,c with
 | .normal,⟨v,l,x⟩=>exact⟨⟨a+1,v,by simpa using l,x⟩,by simp[k,l,intOf];omega⟩
 | .exit _,c=>exact c
 | .ret,c=>exact c
 | .h2 _,c=>exact c
def _H{b:A_->Prop}{d:TypeDesc}{r:Nat}{k v:B_}{es:Array MapEntry}{c:Nat}{t}(e:w.heap[r]? = some (.map es c))(f:Instr.findNow d k es.toList 0=some none)
  (g:∀a,dX r w a->a.heap[r]? = some (.map (es.push { key:=k,val:=v,born:=c }) (c+1))->b a):Fk d (.map (some r)) k v w b t :=
 _1 e f (g _ (dX.fZ _ _ _) (Iy (cf e)))
def _k{sz:Nat}{a:H_ Addr}{n cap:Nat}{x:G_}{k:IntKind}{t}(h:Nat)(b:br S x = .int k (h:Int))(c:h<=cap)(d:bb (.slice a h cap)):sR S sz (.slice a n cap) none (some x) none bb t:=by
 refine _K 0 h cap (by simp[e6]) (by simp[e6,b]) (by simp[e6]) ⟨AG6 _,c,EM _⟩ Ah ?_;have e:(if cap=0 then a else a.map (·.add (0*sz)))=a:=by
  split
  .rfl
  .cases a with
   | none=>rfl
   | some f=>simp[add_zero]
 rw[e];exact d
def _9{sz:Nat}{a:H_ Addr}{n cap:Nat}{x:G_}{k:IntKind}{t}(l:Nat)(c:br S x = .int k (l:Int))(b:l<=n/\n<=cap)(d:bb (.slice (if cap=l then a else a.map (·.add (l*sz))) (n - l) (cap - l))) :
  sR S sz (.slice a n cap) (some x) none none bb t :=
 _K l n cap (by simp[e6,c]) (by simp[e6]) (by simp[e6]) ⟨b.1,b.2,EM _⟩ Ah d
end
def a6.head{α:Type}{sz:Nat}{R:A_->Addr->α->Prop}{w:A_}{a:H_ Addr}{n c:Nat}{xs:C_ α}(h:a6 sz R w (.slice a n c) xs)(k:Nat)(b:k<=xs.length):a6 sz R w (.slice a k c) (xs.take k):=by
 have:=h.take k b
 have d:(if c=0 then a else a.map (·.add (0*sz)))=a:=by
  split
  .rfl
  .cases a with
   | none=>rfl
   | some e=>simp[add_zero]
 rw[d] at this;exact this
theorem a6.len{α:Type}{sz:Nat}{R:A_->Addr->α->Prop}{w:A_}{a:H_ Addr}{n c:Nat}{xs:C_ α}(h:a6 sz R w (.slice a n c) xs):n=xs.length/\n<=c/\c<=maxLen:=by
 obtain⟨i,j,b,d,e,_⟩:=h.ex;injection b with k f g
 subst f g;exact⟨rfl,d,e⟩
def a6.tail{α:Type}{sz:Nat}{R:A_->Addr->α->Prop}{w:A_}{a:H_ Addr}{n c:Nat}{xs:C_ α}(h:a6 sz R w (.slice a n c) xs)(l:Nat)(t:l<=xs.length) :
  a6 sz R w (.slice (if c=l then a else a.map (·.add (l*sz))) (n - l) (c - l)) (xs.drop l):=by
 obtain⟨d,g,f⟩:=h.len;subst d;obtain⟨u,v,e,x,y,i,j⟩:=h.ex;injection e with d g f
 subst d f;refine⟨_,_,by rw[AG7],by rw[AG7];omega,AY,λk=>?_,λm b p q=>?_⟩
 .have:xs≠[]:=by intro e;subst e;simp at k
  have:=i this
  split
  .exact this
  .cases a with
   | none=>cases this
   | some m=>rfl
 .have r:l+p<xs.length:=by rw[AG7] at q;omega
  rw[if_neg AY] at b;cases a with
  | none=>cases b
  | some s =>
   simp only[Option.map_some,Option.some.injEq] at b;subst b;rw[add_add,<-AI2,AK2];exact j s rfl _ r
structure Mod(A:Nat->Prop)(w w':World):Prop where
 os:w'.os=w.os
 tape:w'.tape=w.tape
 output:w'.output=w.output
 size:w.heap.size<=w'.heap.size
 block:∀k,k<w.heap.size->¬A k->w'.heap[k]? = w.heap[k]?
def Mod.refl(A:Nat->Prop)(w:A_):Mod A w w:=⟨rfl,rfl,rfl,EM _,λ_ _ _=>rfl⟩
def Mod.trans{A:Nat->Prop}{a b c:A_}(h:Mod A a b)(k:Mod A b c):Mod A a c :=
 ⟨k.os.trans h.os,k.tape.trans h.tape,k.output.trans h.output,Ug h.size k.size,λd e f=>(k.block d (AI3 e h.size) f).trans (h.block d e f)⟩
theorem Mod.then{A B:Nat->Prop}{a b c:A_}(h:Mod B a b)(k:Mod A b c)(g:∀d,d<a.heap.size->A d->B d):Mod B a c :=
 ⟨k.os.trans h.os,k.tape.trans h.tape,k.output.trans h.output,Ug h.size k.size,λd e f=>(k.block d (AI3 e h.size) λi=>f (g d e i)).trans (h.block d e f)⟩
def Ext.mod{A:Nat->Prop}{w w':A_}(h:Ext w w'):Mod A w w':=⟨h.os,h.tape,h.output,h.size,λ_ a _=>h.heap a⟩
def dX.mod{A:Nat->Prop}{b:Nat}{w w':A_}(h:dX b w w')(a:A b):Mod A w w':=⟨h.os,h.tape,h.output,by rw[h.size];exact EM _,λc _ d=>h.block c λe=>d (e ▸ a)⟩
def Mod.grown{A:Nat->Prop}{w w':A_}{row:H_ Nat}(h:w.grownBy w' row)(b:∀a,row=some a->A a):Mod A w w':=⟨h.os,h.tape,h.output,h.size,λa c d=>h.block a c λe=>d (b a e.symm)⟩
theorem Mod.ext{A:Nat->Prop}{w0 w w':A_}(h:Mod A w w')(a:Ext w0 w)(d:∀b,b<w0.heap.size->¬A b):Ext w0 w' :=
 ⟨h.os.trans a.os,h.tape.trans a.tape,h.output.trans a.output,Ug a.size h.size,λb c=>(h.block b (AI3 c a.size) (d b c)).trans (a.heap c)⟩
theorem Mod.obj{A:Nat->Prop}{w w':A_}{k:Nat}{a:Obj}(h:Mod A w w')(c:¬A k)(b:w.heap[k]? = some a):w'.heap[k]? = some a:=(h.block k (cf b) c).trans b
def Mod.Cy{A B:Nat->Prop}{w w':A_}(h:Mod A w w')(b:∀a,A a->B a):Mod B w w':=⟨h.os,h.tape,h.output,h.size,λa c d=>h.block a c λe=>d (b a e)⟩
def aT{α:Type}(enc:α->C_ B_)(e:F_)(sz base:Nat)(w:A_)(v:B_)(xs:C_ α):Prop:=w.ownsRow base e sz v xs.length (xs.flatMap enc)
section
variable{α:Type}{enc:α->List Value}{e:TypeId}{sz base:Nat}{w w':World}{v:Value}{xs:List α}
def aT.nil(enc:α->C_ B_)(e:F_)(sz base:Nat)(w:A_):aT enc e sz base w (.slice none 0 0) []:=World.ownsRow_nil w base e sz
theorem aT.ext(a:Ext w w')(h:aT enc e sz base w v xs):aT enc e sz base w' v xs:=avr a h
def aT.wr{b:Nat}(a:dX b w w')(g:b<base)(h:aT enc e sz base w v xs):aT enc e sz base w' v xs :=
 World.ownsRow.kept (row:=some b) h ⟨a.os,a.tape,a.output,by rw[a.size];exact EM _,λc _ d=>a.block c (λe=>d (by rw[e]))⟩ (by
  cases f:v.ownBlock with
  | none=>exact .inl rfl
  | some c=>exact .inr (by have:=(World.ownsRow.lt h c f).1;intro e;injection e with e;omega))
def aT.lt(h:aT enc e sz base w v xs):∀a,v.ownBlock=some a->base<=a/\a<w.heap.size:=World.ownsRow.lt h
def aT.form(h:aT enc e sz base w v xs):∃b a,v = .slice b xs.length a/\xs.length<=a/\a<=maxLen:=by
 obtain⟨b,a,c,d,f,_⟩:=agu h;exact⟨b,a,c,d,f⟩
def aT.im(a:∀b,(enc b).length=sz)(h:aT enc e sz base w v xs):a6 sz (Flat enc) w v xs:=avt a h
def aT.head{i:H_ Addr}{n cap:Nat}(b:∀j,(enc j).length=sz)(h:aT enc e sz base w (.slice i n cap) xs)(k:Nat)(l:k<=xs.length):aT enc e sz base w (.slice i k cap) (xs.take k):=by
 have m:∀(xs:C_ α) (k:Nat),(xs.flatMap enc).take (k*sz)=(xs.take k).flatMap enc:=by
  intro xs
  induction xs with
  | nil=>intro k;simp
  | cons j xs p =>
   intro k;cases k with
   | zero=>simp
   | succ k =>
    simp only[List.flatMap_cons,List.take_succ_cons];rw[List.take_append,b,show(k+1)*sz - sz=k*sz from by rw[AI2];omega,p,IA (by rw[b,AI2];omega)]
 have a:(xs.take k).length=k:=by simp[List.length_take];omega
 refine⟨by rw[a,mV b,a],?_⟩;rcases h.2 with ⟨c,d⟩ | ⟨q,x,cur,c,d,r,y,s,t,u⟩
 .injection c with f v g
  subst f g
  have:xs.length=0:=d
  exact .inl ⟨by congr 1;omega,AY⟩
 .injection c with f v g
  subst f g;refine .inr ⟨q,cap,cur,by rw[a],d,r,AY,s,t,?_⟩;rw[a,<-m,<-u,AJ1,Nat.min_eq_left (AJ2 _ l)]
def _l{P:D_}{h:B_->A_->Prop}{i:F_}{b:Nat}{s:B_}{a:Addr}{m c:Nat}{ys:C_ α}{t}(j:aT enc e sz base w s xs)(k:∀l,(enc l).length=sz)(n:fy w a (ys.flatMap enc))(p:m=ys.length)
  (q:∀f,∀g∈enc f,g.oneCell'=true)(r:(xs.length+ys.length)*b<=140737488355328)(u:xs.length+ys.length<=maxLen)(v:base<=w.heap.size)
  (x:∀d w',aT enc e sz base w' d (xs++ys)->w.grownBy w' s.ownBlock->h d w'):lJ P i e sz b s (.slice (some a) m c) w h t:=by
 subst p;refine AB7 j n (mV k ys) (λg y=>by obtain⟨f,_,z⟩:=List.mem_flatMap.1 y;exact q f g z) u r v λd w' A B=>x d w' ?_ B;unfold aT;rw[JM,AJ6];exact A
end
end ba
namespace o
open Go Go.RowKit ba
structure Node where
 op:Int
 n:Int
structure Act where
 kind:Int
 to:Int
 loc:Int
 index:List Node
 value:List Node
structure ew where
 name:ByteArray
 from_:Int
 to:Int
 guard:List Node
 b6:List Act
 fair:Bool
structure ed where
 name:ByteArray
 over:Int
 cb:Int
 vars:List Var
 cP:List ew
structure mL where
 name:ByteArray
 expr:List Node
structure Model where
 scalars:List Scalar
 vars:List Var
 aA:List eb
 procs:List ed
 props:List mL
structure c9 where
 proc:Int
 elem:Int
deriving DecidableEq
structure Ref where
 inst:Int
 cmd:Int
deriving DecidableEq
def c9.enc(x:c9):C_ B_:=[.int .i64 x.proc,.int .i64 x.elem]
def Ref.enc(x:Ref):C_ B_:=[.int .i64 x.inst,.int .i64 x.cmd]
def Node.enc(x:Node):C_ B_:=[.int .i64 x.op,.int .i64 x.n]
def ev(n:Int):Prop := -9223372036854775808<=n/\n<=9223372036854775807
structure Node.ok(x:Node):Prop where
 op:ev x.op
 n:ev x.n
structure AG(w:World)(a:Addr)(x:Node):Prop where
 cells:fy w a x.enc
 ok:x.ok
theorem AG.ext(w w':A_)(a:Addr)(x:Node)(b:Ext w w')(h:AG w a x):AG w' a x:=⟨h.cells.ext b,h.ok⟩
abbrev fJ(w:A_)(v:B_)(l:C_ Node):Prop:=a6 2 AG w v l
theorem fJ.ext{w w':A_}{v:B_}{l:C_ Node}(a:Ext w w')(h:fJ w v l):fJ w' v l:=a6.ext AG.ext a h
def Act.enc(x:Act)(a b:B_):C_ B_:=[.int .i64 x.kind,.int .i64 x.to,.int .i64 x.loc,a,b]
def AD(w:A_)(a:Addr)(x:Act):Prop := ∃b c,fy w a (x.enc b c)/\fJ w b x.index/\fJ w c x.value
theorem AD.ext(w w':A_)(a:Addr)(x:Act)(b:Ext w w')(h:AD w a x):AD w' a x:=let ⟨c,d,e,f,g⟩:=h; ⟨c,d,e.ext b,f.ext b,g.ext b⟩
abbrev ob(w:A_)(v:B_)(l:C_ Act):Prop:=a6 5 AD w v l
theorem ob.ext{w w':A_}{v:B_}{l:C_ Act}(a:Ext w w')(h:ob w v l):ob w' v l:=a6.ext AD.ext a h
def ew.enc(x:ew)(a b:B_):C_ B_:=[.string x.name,.int .i64 x.from_,.int .i64 x.to,a,b,.bool x.fair]
def AE(w:A_)(a:Addr)(x:ew):Prop:=kl x.name/\∃b c,fy w a (x.enc b c)/\fJ w b x.guard/\ob w c x.b6
theorem AE.ext(w w':A_)(a:Addr)(x:ew)(b:Ext w w')(h:AE w a x):AE w' a x:=let ⟨c,d,e,f,g,i⟩:=h; ⟨c,d,e,f.ext b,g.ext b,i.ext b⟩
abbrev sM(w:A_)(v:B_)(l:C_ ew):Prop:=a6 6 AE w v l
theorem sM.ext{w w':A_}{v:B_}{l:C_ ew}(a:Ext w w')(h:sM w v l):sM w' v l:=a6.ext AE.ext a h
theorem hI.ext{w w':A_}{v:B_}{l:C_ Scalar}(a:Ext w w')(h:hI w v l):hI w' v l:=a6.ext jG.ext a h
theorem j1.ext{w w':A_}{v:B_}{l:C_ Var}(a:Ext w w')(h:j1 w v l):j1 w' v l:=a6.ext q4.ext a h
theorem oc.ext{w w':A_}{v:B_}{l:C_ eb}(a:Ext w w')(h:oc w v l):oc w' v l:=a6.ext rW.ext a h
def ed.enc(x:ed)(a dN:B_):C_ B_:=[.string x.name,.int .i64 x.over,.int .i64 x.cb,a,dN]
def AH(w:A_)(a:Addr)(x:ed):Prop:=kl x.name/\∃b dN,fy w a (x.enc b dN)/\j1 w b x.vars/\sM w dN x.cP
theorem AH.ext(w w':A_)(a:Addr)(x:ed)(b:Ext w w')(h:AH w a x):AH w' a x:=let ⟨c,d,e,f,g,i⟩:=h; ⟨c,d,e,f.ext b,g.ext b,i.ext b⟩
abbrev sP(w:A_)(v:B_)(l:C_ ed):Prop:=a6 5 AH w v l
theorem sP.ext{w w':A_}{v:B_}{l:C_ ed}(a:Ext w w')(h:sP w v l):sP w' v l:=a6.ext AH.ext a h
def CK(w:A_)(cs:C_ B_)(c:ew):Prop:=kl c.name/\∃a b,cs=c.enc a b/\fJ w a c.guard/\ob w b c.b6
theorem CK.ext{w w':A_}{cs:C_ B_}{c:ew}(a:Ext w w')(h:CK w cs c):CK w' cs c:=let ⟨b,d,e,f,g,i⟩:=h; ⟨b,d,e,f,g.ext a,i.ext a⟩
def yP(w:A_)(cs:C_ B_)(p:ed):Prop:=kl p.name/\∃a dN,cs=p.enc a dN/\j1 w a p.vars/\sM w dN p.cP
theorem yP.ext{w w':A_}{cs:C_ B_}{p:ed}(a:Ext w w')(h:yP w cs p):yP w' cs p:=let ⟨b,c,d,e,f,g⟩:=h; ⟨b,c,d,e,f.ext a,g.ext a⟩
def mL.enc(x:mL)(a:B_):C_ B_:=[.string x.name,a]
def CU(w:A_)(a:Addr)(x:mL):Prop:=kl x.name/\∃b,fy w a (x.enc b)/\fJ w b x.expr
theorem CU.ext(w w':A_)(a:Addr)(x:mL)(b:Ext w w')(h:CU w a x):CU w' a x:=let ⟨c,d,e,f⟩:=h; ⟨c,d,e.ext b,f.ext b⟩
abbrev CT(w:A_)(v:B_)(l:C_ mL):Prop:=a6 2 CU w v l
theorem CT.ext{w w':A_}{v:B_}{l:C_ mL}(a:Ext w w')(h:CT w v l):CT w' v l:=a6.ext CU.ext a h
structure dU(w:World)(cs:List Value)(m:Model):Prop where
 ex:∃v0 v1 v2 eC v4,cs=[v0,v1,v2,eC,v4]/\hI w v0 m.scalars/\j1 w v1 m.vars/\oc w v2 m.aA/\sP w eC m.procs/\CT w v4 m.props
theorem dU.ext{w w':A_}{cs:C_ B_}{m:Model}(a:Ext w w')(h:dU w cs m):dU w' cs m :=
 let ⟨v0,v1,v2,b,v4,c,d,e,f,g,i⟩:=h.ex
 ⟨v0,v1,v2,b,v4,c,d.ext a,e.ext a,f.ext a,g.ext a,i.ext a⟩
instance aBR:nD AG Node.enc:=⟨λ_ _ _ h=>h.cells⟩
instance aBS:nD jG Scalar.enc:=⟨λ_ _ _ h=>h.cells⟩
instance aBT:nD q4 Var.enc:=⟨λ_ _ _ h=>h.cells⟩
instance aBN:nD rW eb.enc:=⟨λ_ _ _ h=>h.cells⟩
end o
namespace o
open Go
structure Scope where
 scalars:List Scalar
 vars:List Var
 aA:List eb
 procs:List ed
 locals:List Var
 self:Int
structure Env where
 vars:List (List Int)
 lens:List Int
 locals:List Int
 at_:List (List Int)
 self:Int
def nth{α:Type}(l:C_ α)(n:Int):H_ α:=if 0<=n then l[n.toNat]? else none
theorem ik{α:Type}{l:C_ α}{n:Int}(h:0<=n)(a:n<l.length):nth l n=some (l[n.toNat]' AY):=by
 unfold nth;rw[if_pos h,List.getElem?_eq_getElem]
theorem hv{α:Type}{l:C_ α}{n:Int}(h:n<0\/(l.length:Int)<=n):nth l n=none:=by
 unfold nth;split
 .rw[List.getElem?_eq_none AY]
 .rfl
def within(n:Int):Bool:=decide (-1048576<=n/\n<=1048576)
def tell(f:Int->Int->Int)(a b:Int):Int×Bool:=if within a&&within b&&within (f a b) then (f a b,true) else (0,false)
def bit(b:Bool):Int:=if b then 1 else 0
def en(op:Int):Int:=if op=3 then 1 else if 1<=op/\op<=8 then 0 else if op=9\/op=10 then 1 else if 11<=op/\op<=19 then 2 else -1
def BR(op:Int):Bool:=decide (9<=op/\op<=19)
structure pF where
 parts:Int
 iU:Int
 makes:Int
 xd:Int->Int->Int×Bool
def wC(a:Int)(p:Int->Int->Bool):pF:=⟨2,a,1,λb c=>(bit (p b c),true)⟩
def gY(x:Int):H_ pF :=
 if x=9 then some ⟨1,1,1,λa _=>(bit (decide (a=0)),true)⟩
 else if x=10 then some ⟨1,0,0,λa _=>tell (· - ·) 0 a⟩
 else if x=11 then some ⟨2,0,0,tell (· + ·)⟩
 else if x=12 then some ⟨2,0,0,tell (· - ·)⟩
 else if x=13 then some ⟨2,0,0,tell (· * ·)⟩
 else if x=14 then some (wC (-1) λa b=>decide (a=b))
 else if x=15 then some (wC (-1) λa b => !decide (a=b))
 else if x=16 then some (wC 0 λa b=>decide (a<b))
 else if x=17 then some (wC 0 λa b=>decide (a<=b))
 else if x=18 then some (wC 1 λa b => !decide (a=0) && !decide (b=0))
 else if x=19 then some (wC 1 λa b => !decide (a=0) || !decide (b=0))
 else none
def agi{x:Int}(h:BR x=false):gY x=none:=by
 have a:¬(9<=x/\x<=19):=by simpa[BR] using h
 unfold gY
 repeat rw[if_neg AY]
def Ca{x:Int}{a:pF}(h:gY x=some a):a.parts=en x/\BR x=true:=by
 unfold gY at h
 repeat' split at h
 all_goals first | (cases h;subst_vars;decide) | cases h
def stepG(f:Node->C_ Int->Int×Int)(x:Node)(st:C_ Int):Int×C_ Int :=
 if en x.op<0 then (3,st) else if (st.length:Int)<en x.op then (4,st)
 else if (f x st).2≠0 then ((f x st).2,st)
 else if (st.take (st.length - (en x.op).toNat)++[(f x st).1]).length > 12 then (12,st) else (0,st.take (st.length - (en x.op).toNat)++[(f x st).1])
def e3(f:Node->C_ Int->Int×Int):C_ Node->C_ Int->Int×C_ Int
 | [],st=>(0,st)
 | a :: b,st=>if (stepG f a st).1≠0 then stepG f a st else e3 f b (stepG f a st).2
def l7(f:Node->C_ Int->Int×Int)(e:C_ Node):Int×Int :=
 if e.length > 24 then (0,5) else if e.length=0 then (0,4)
 else if (e3 f e []).1≠0 then (0,(e3 f e []).1) else if (e3 f e []).2.length > 1 then (0,5) else ((e3 f e []).2.headD 0,0)
theorem OO(f:Node->C_ Int->Int×Int):∀(b c:C_ Node) (a:C_ Int),e3 f (b++c) a=if (e3 f b a).1≠0 then e3 f b a else e3 f c (e3 f b a).2
 | [],c,a=>by simp[e3]
 | e :: b,c,a=>by
  simp only[List.cons_append,e3];by_cases d:(stepG f e a).1=0
  .simp only[d,ne_eq,not_true_eq_false,if_false];exact OO f b c _
  .simp[d]
def EG{f:Node->C_ Int->Int×Int}{e:C_ Node}{k:Nat}{st:C_ Int}(b:k<e.length)(h:e3 f (e.take k) []=(0,st)):e3 f (e.take (k+1)) []=stepG f e[k] st:=by
 rw[Oi b,OO,h];simp only[ne_eq,not_true_eq_false,if_false,e3];split
 .rfl
 .rename_i a;simp at a;exact Prod.ext a.symm rfl
def ahG{f:Node->C_ Int->Int×Int}{e:C_ Node}{k:Nat}{q:Int×C_ Int}(h:e3 f (e.take k) []=q)(a:q.1≠0):e3 f e []=q:=by
 have:=OO f (e.take k) (e.drop k) []
 rw[AH6,h,if_pos a] at this;exact this
def VG{f:Node->C_ Int->Int×Int}{e:C_ Node}(g:e.length<=24){k:Nat}(b:k<e.length){st:C_ Int}(h:e3 f (e.take k) []=(0,st))(a:(stepG f e[k] st).1≠0):l7 f e=(0,(stepG f e[k] st).1):=by
 have c:=EG b h;have d:=ahG c a;unfold l7;rw[if_neg AY,if_neg AY,d,if_pos a]
def ayg{f:Node->C_ Int->Int×Int}{x:Node}{st:C_ Int}(h:(stepG f x st).1=0):1<=(stepG f x st).2.length/\(stepG f x st).2.length<=12:=by
 unfold stepG at h ⊢
 repeat' split
 all_goals simp_all
def h0(n:Int)(s:Scope):Int×Bool:=if n=0 then (0,true) else if n<0\/(s.scalars.length:Int)<n then (0,false) else (1+n,true)
def fQ(l:C_ Var)(n:Int)(s:Scope):Int×Int×Bool :=
 match nth l n with
 | some a=>((h0 a.scalar s).1,(h0 a.over s).1,(h0 a.scalar s).2&&(h0 a.over s).2)
 | none=>(0,0,false)
def kO(n:Int)(s:Scope):Int×Int:=match nth s.aA n with | some a=>if (h0 a.scalar s).2 then (0,0) else (0,8) | none=>(0,8)
def zW(n:Int)(s:Scope):Int×Int:=if 0<=n then (match nth s.procs (n.tdiv 16) with | some a=>if n.tmod 16<a.cb then (0,0) else (0,8) | none=>(0,8)) else (0,8)
def kP(x:Node)(s:Scope):Int×Int :=
 if x.op=5 then (if 1<=s.self/\s.self<=s.scalars.length then (1+s.self,0) else (0,8))
 else if x.op=6 then kO x.n s
 else if x.op=7 then zW x.n s
 else if x.op=8 then (if 0<=x.n/\x.n<s.scalars.length then (2+x.n,0) else (0,8))
 else (0,8)
def hh(x:Node)(s:Scope)(b:Int):Int×Int :=
 if x.op=1 then (if within x.n then (0,0) else (0,10))
 else if x.op=2\/x.op=3\/x.op=4 then
  (let a:=fQ (if x.op=4 then s.locals else s.vars) x.n s
   if a.2.2=false then (0,8) else if (x.op=3/\(a.2.1=0\/b≠a.2.1))\/(x.op≠3/\a.2.1≠0) then (0,9) else (a.1,0))
 else kP x s
def nv(a:pF)(l:C_ Int):Int×Int:=if l.all (λb=>(decide (a.iU = -1)||decide (b=a.iU))&&decide (b=l.headD 0)) then (a.makes,0) else (0,9)
def gG(s:Scope)(x:Node)(st:C_ Int):Int×Int :=
 match gY x.op with
 | some a=>nv a (st.drop (st.length - a.parts.toNat))
 | none=>hh x s (st.getLastD 0)
def kind(e:C_ Node)(s:Scope):Int×Int:=l7 (gG s) e
def g1(l:C_ Int)(n:Int):Int×Int:=match nth l n with | some a=>(a,0) | none=>(0,8)
def fq(x:Node)(v:Env)(b:Int):Int×Int :=
 if x.op=1 then (if within x.n then (x.n,0) else (0,10))
 else if x.op=2 then (match nth v.vars x.n with | some a=>g1 a 0 | none=>(0,8))
 else if x.op=3 then (match nth v.vars x.n with | some a=>(match nth a (b - 1) with | some c=>(c,0) | none=>(0,10)) | none=>(0,8))
 else if x.op=4 then g1 v.locals x.n
 else if x.op=6 then g1 v.lens x.n
 else if x.op=5 then (v.self,0)
 else if x.op=7 then (if 0<=x.n then (match nth v.at_ (x.n.tdiv 16) with | some a=>g1 a (x.n.tmod 16) | none=>(0,8)) else (0,8))
 else (0,0)
def wJ(b:pF)(l:C_ Int):Int×Int:=let a:=b.xd (l.headD 0) (l.getLastD 0);if a.2 then (a.1,0) else (0,10)
def gj(v:Env)(x:Node)(st:C_ Int):Int×Int :=
 match gY x.op with
 | some a=>wJ a (st.drop (st.length - a.parts.toNat))
 | none=>fq x v (st.getLastD 0)
def eval(e:C_ Node)(v:Env):Int×Int:=l7 (gj v) e
def ID(x:Node)(s:C_ Int×C_ Int):Int:=if 0<en x.op then (s.1[s.1.length - (en x.op).toNat]?).getD 0 else (s.2.length:Int)
def EN(x:Node)(s:C_ Int×C_ Int):H_ (C_ Int×C_ Int) :=
 if en x.op<0\/(s.1.length:Int)<en x.op then none else some (s.1.take (s.1.length - (en x.op).toNat)++[ID x s],s.2++[ID x s])
def wF:C_ Node->C_ Int×C_ Int->H_ (C_ Int×C_ Int)
 | [],a=>some a
 | b :: c,a=>(EN b a).bind (wF c)
theorem aii:∀(c a:C_ Node) (b:C_ Int×C_ Int),wF (c++a) b=(wF c b).bind (wF a)
 | [],a,b=>rfl
 | d :: c,a,b=>by
  simp only[List.cons_append,wF];cases EN d b with
  | none=>rfl
  | some e=>exact aii c a e
def ax9{e:C_ Node}{k:Nat}{s:C_ Int×C_ Int}(a:k<e.length)(h:wF (e.take k) ([],[])=some s):wF (e.take (k+1)) ([],[])=EN e[k] s:=by
 rw[Oi a,aii,h];simp only[Option.bind_some,wF];cases EN e[k] s<;>rfl
def jC(c:C_ Int):Nat->C_ Int->Prop
 | a,[]=>a=0
 | a,d :: e=>0<a/\∃b:Nat,d=(b:Int)/\b<a/\c[a - 1]? = some d/\jC c b e
theorem jC.app{b:C_ Int}{v:Int}:∀{c:C_ Int} {a:Nat},a<=b.length->jC b a c->jC (b++[v]) a c
 | [],_,_,d=>d
 | k :: l,a,m,⟨e,f,g,h,i,j⟩=>⟨e,f,g,h,by rw[List.getElem?_append_left AY];exact i,jC.app AY j⟩
def jC.push{a:C_ Int}{b:C_ Int}{c:Nat}(h:jC a c b)(d:c<=a.length):jC (a++[(c:Int)]) (a.length+1) ((c:Int) :: b) :=
 ⟨AY,c,rfl,AY,Ah,h.app d⟩
def axd{st:C_ Int}{n:Nat}(h:n<=st.length):(st.take (st.length - n)).reverse=st.reverse.drop n:=by
 rw[List.reverse_take];congr 1;omega
def ait{f:Node->C_ Int->Int×Int}{x:Node}{st:C_ Int}(h:(stepG f x st).1=0):0<=en x.op/\en x.op<=(st.length:Int)/\∃d,(stepG f x st).2=st.take (st.length - (en x.op).toNat)++[d]:=by
 unfold stepG at h ⊢;by_cases a:en x.op<0
 .rw[if_pos a] at h;cases h
 by_cases c:(st.length:Int)<en x.op
 .rw[if_neg a,if_pos c] at h;cases h
 rw[if_neg a,if_neg c] at h ⊢;by_cases b:(f x st).2≠0
 .rw[if_pos b] at h;exact absurd h b
 rw[if_neg b] at h ⊢;refine⟨AY,AY,(f x st).1,?_⟩;split at h
 .cases h
 .rename_i e;rw[if_neg e]
def VI{f:Node->C_ Int->Int×Int}{e:C_ Node}{st:C_ Int}(h:e3 f e []=(0,st))(k:Nat):∃c,e3 f (e.take k) []=(0,c):=by
 have b:=OO f (e.take k) (e.drop k) [];rw[AH6,h] at b;by_cases a:(e3 f (e.take k) []).1≠0
 .rw[if_pos a] at b;rw[<-b] at a;exact absurd rfl a
 .exact⟨_,Prod.ext (by simpa using a) rfl⟩
theorem aaw{f:C_ Int}:∀{c:C_ Int} {d:Nat},jC f d c->∀b (g:b<c.length),∃a:Nat,c[b]=(a:Int)/\a<d/\jC f a (c.drop (b+1))
 | j :: k,d,⟨_,a,h,i,_,e⟩,0,_=>⟨a,h,i,by simpa using e⟩
 | j :: k,d,⟨_,a,h,i,_,e⟩,b+1,g=>by
  obtain⟨l,m,p,n⟩:=aaw e b (by simpa using g);exact⟨l,by simpa using m,AY,by simpa using n⟩
theorem aij{f:Node->C_ Int->Int×Int}{e:C_ Node}{st:C_ Int}(h:e3 f e []=(0,st)):∀a,a<=e.length->∃b c d,wF (e.take a) ([],[])=some (b,c)/\e3 f (e.take a) []=(0,d)/\c.length=a/\b.length=d.length/\jC c a b.reverse
 | 0,_=>⟨[],[],[],by simp[wF],by simp[e3],rfl,rfl,rfl⟩
 | a+1,B=>by
  obtain⟨b,c,d,s,t,g,u,j⟩:=aij h a AY;obtain⟨k,l⟩:=VI h (a+1);have i:=EG (by omega:a<e.length) t;rw[l] at i;have v:(stepG f e[a] d).1=0:=by rw[<-i]
  obtain⟨C,G,w,x⟩:=ait v;have m:=ax9 (by omega:a<e.length) s;have y:EN e[a] (b,c)=some (b.take (b.length - (en e[a].op).toNat)++[ID e[a] (b,c)],c++[ID e[a] (b,c)]):=by
   unfold EN;rw[if_neg];simp only;omega
  rw[y] at m;have n:k=d.take (d.length - (en e[a].op).toNat)++[w]:=by rw[<-x,<-i]
  refine⟨_,_,k,m,l,by simp[g],?_,?_⟩
  .rw[n];simp[u]
  .rw[List.reverse_append,List.reverse_singleton,List.singleton_append,axd AY];unfold ID;simp only;by_cases p:0<en e[a].op
   .rw[if_pos p];obtain⟨z,q,n,r⟩:=aaw j ((en e[a].op).toNat - 1) (by rw[List.length_reverse];omega);rw[show(en e[a].op).toNat - 1+1=(en e[a].op).toNat from AY] at r;have A:b[b.length - (en e[a].op).toNat]? = some (z:Int):=by
     rw[List.getElem_reverse] at q;rw[<-q,List.getElem?_eq_getElem AY];congr 2;omega
    rw[A,Option.getD_some]
    have:=jC.push r AY
    rw[g] at this;exact this
   .rw[if_neg p]
    have:(en e[a].op).toNat=0:=AY
    rw[this,List.drop_zero]
    have:=jC.push j AY
    rw[g];rw[g] at this;exact this
theorem axA{f:Node->C_ Int->Int×Int}{e:C_ Node}(h:(l7 f e).2=0):e.length<=24/\e≠[]/\∃c,e3 f e []=(0,[c]):=by
 unfold l7 at h;by_cases g:e.length > 24
 .rw[if_pos g] at h;cases h
 rw[if_neg g] at h;by_cases d:e.length=0
 .rw[if_pos d] at h;cases h
 rw[if_neg d] at h;by_cases a:(e3 f e []).1≠0
 .rw[if_pos a] at h;exact absurd h a
 rw[if_neg a] at h;by_cases b:(e3 f e []).2.length > 1
 .rw[if_pos b] at h;cases h
 have j:(e3 f e []).1=0:=by simpa using a
 refine⟨AY,by intro k;subst k;exact d rfl,?_⟩;obtain⟨l,r,m,s,i,t,n,p⟩:=aij (f:=f) (e:=e) (st:=(e3 f e []).2) (Prod.ext j rfl) e.length (EM _);rw[AG9] at i;rw[i] at b ⊢;simp only at b
 match m,b with
 | [c],_=>exact⟨c,rfl⟩
 | [],_ =>
  exfalso
  have:l=[]:=AF8 n
  subst this
  have:=p
  simp only[List.reverse_nil,jC] at this;omega
 | _ :: _ :: _,q=>simp at q
def axz{f:Node->C_ Int->Int×Int}{e:C_ Node}{v:Int}(c:e.length<=24)(a:e≠[])(h:e3 f e []=(0,[v])):l7 f e=(v,0):=by
 unfold l7;rw[if_neg AY,if_neg (by intro b;exact a (AF8 b)),h];simp
def lf(a b:Int)(s:Scope):Int×Bool :=
 if a<0\/(s.scalars.length:Int)<a\/b<0\/(s.scalars.length:Int)<b then (0,false) else if a=0 then (0,true) else (1+a,true)
def ayt{a b:Int}{s:Scope}(h:(lf a b s).2=false):(lf a b s).1=0:=by
 unfold lf at h ⊢;by_cases c:a<0\/(s.scalars.length:Int)<a\/b<0\/(s.scalars.length:Int)<b
 .rw[if_pos c]
 .rw[if_neg c] at h;by_cases d:a=0
  .rw[if_pos d] at h;cases h
  .rw[if_neg d] at h;cases h
def declared(l:C_ Var)(n:Int)(s:Scope):H_ (Var×Int) :=
 match nth l n with
 | some a=>if (lf a.scalar a.over s).2 then some (a,(lf a.scalar a.over s).1) else none
 | none=>none
theorem ams{l:C_ Var}{n:Int}{s:Scope}{q:Var×Int}(h:declared l n s=some q):0<=q.1.over/\q.1.over<=s.scalars.length:=by
 unfold declared at h;cases c:nth l n with
 | none=>rw[c] at h;cases h
 | some a =>
  rw[c] at h;simp only at h;by_cases b:(lf a.scalar a.over s).2=true
  .rw[if_pos b] at h;unfold lf at b;by_cases d:a.scalar<0\/(s.scalars.length:Int)<a.scalar\/a.over<0\/(s.scalars.length:Int)<a.over
   .rw[if_pos d] at b;cases b
   .injection h with h
    subst h;simp only;omega
  .rw[if_neg b] at h;cases h
def channel(n:Int)(s:Scope):H_ Int :=
 match nth s.aA n with
 | some a=>if (lf a.scalar 0 s).2 then some (lf a.scalar 0 s).1 else none
 | none=>none
def asked(e:C_ Node)(k:Int)(s:Scope):Int:=if (kind e s).2≠0 then (kind e s).2 else if (kind e s).1≠k then 9 else 0
def hU(a:Act):Bool:=decide (a.kind=4\/a.kind=5)
def Ez(a:Act)(k:Int)(s:Scope):Int:=match declared s.locals a.loc s with | some (b,c)=>if b.over≠0\/c≠k then 9 else 0 | none=>8
def lo(a:Act)(s:Scope):Int :=
 if a.kind=1\/a.kind=2\/a.kind=3 then
  match declared (if a.kind=3 then s.locals else s.vars) a.to s with
  | none=>8
  | some (c,b) =>
   if (c.over≠0)≠(a.kind=2) then 9
   else if a.kind=2/\asked a.index (1+c.over) s≠0 then asked a.index (1+c.over) s
   else asked a.value b s
 else if a.kind=4\/a.kind=5 then
  match channel a.to s with
  | none=>8
  | some b=>if a.kind=5 then Ez a b s else asked a.value b s
 else 3
def head(c:ew)(a:Int):Int :=
 if isName c.name=false then 6 else if c.from_<0\/a<=c.from_\/c.to<0\/a<=c.to then 10 else if c.b6.length > 6 then 11 else 0
def mi(s:Scope):C_ Act->Nat->Bool->Int×Int
 | [],_,_=>(0,0)
 | a :: d,b,c=>if hU a&&c then (2+b,7) else if lo a s≠0 then (2+b,lo a s) else mi s d (b+1) (c||hU a)
def jJ(c:ew)(a:Int)(s:Scope):Int×Int :=
 if head c a≠0 then (0,head c a) else if c.guard.length > 0/\asked c.guard 1 s≠0 then (1,asked c.guard 1 s) else mi s c.b6 0 false
def comm:C_ Act->Int×Int
 | []=>(0,0)
 | a :: b=>if hU a then (a.kind,a.to) else comm b
def ways(c:ew)(l:C_ eb):Int:=if (comm c.b6).1=4 then (match nth l (comm c.b6).2 with | some a=>if a.afM then 2 else 1 | none=>1) else 1
end o