/- Parts. -/
import Derived.Test.YtlhljkikdhblbaaGreatDoorQsmc
import Derived.Laws.StructEq
import Derived.Laws.Cover3
import Derived.Maps.AppendAt
import Derived.Test.YtlhljkikdhblbaaGreatDoorChecked
set_option linter.all false
set_option maxRecDepth 100000
namespace ba
open Go Go.RowKit
section
variable{P:Program}{cK:Value->World->Prop}{α:Type}{enc:α->List Value}{e:TypeId}{sz base w5:Nat}{w:World}{s x:Value}{xs ys:List α}
def AA0{a:F_}{b:Nat}{t}(c:aT enc e sz base w s xs)(h:aT enc e sz w5 w x ys)(j:∀x,(enc x).length=sz)(k:∀l,∀d∈enc l,d.oneCell'=true)(m:(xs.length+ys.length)*b<=140737488355328)
  (n:xs.length+ys.length<=maxLen)(p:base<=w.heap.size)(f:∀i g,aT enc e sz base g i (xs++ys)->w.grownBy g s.ownBlock->cK i g):lJ P a e sz b s x w cK t:=by
 rcases h.2 with ⟨rfl,q⟩ | ⟨r,cap,cur,rfl,B,C,G,H,I,J⟩
 .have:ys=[]:=AF8 q
  subst this;rw[AG5] at f;refine _h λ⟨u,v,K,y,L,M,N,O,Q⟩=>?_;exact⟨a,s,w,run_append_owned_none w base a a e v sz u y s _ _ c,f s w c ⟨rfl,rfl,rfl,EM _,λ_ _ _=>rfl⟩⟩
 .exact _l c j (λz d A=>World.ownsRow.cells h (g:=r) rfl z d A) rfl k m n p f
def AB8{R:A_->Addr->α->Prop}[nD R enc]{i:F_}{b:Nat}{a:Addr}{m c:Nat}{t}(j:aT enc e sz base w s xs)(f:a6 sz R w (.slice (some a) m c) ys)(g:∀x,(enc x).length=sz)(k:∀l,∀n∈enc l,n.oneCell'=true)
  (p:(xs.length+ys.length)*b<=140737488355328)(q:xs.length+ys.length<=maxLen)(r:base<=w.heap.size)(u:∀h d,aT enc e sz base d h (xs++ys)->w.grownBy d s.ownBlock->cK h d):lJ P i e sz b s (.slice (some a) m c) w cK t :=
 _l j g (a6.flat (enc:=enc) g (λa x v=>nD.JQ _ a x v) f) f.len.1 k p q r u
def aT.empty{b:Nat}(a:base<=b)(h:w.heap[b]? = some (.cells #[] e)):aT enc e sz base w (.slice (some ⟨b,0,none⟩) 0 0) ([]:C_ α):=avq a h
def aT.low{v:B_}(a:w5<=base)(h:aT enc e sz base w v xs):aT enc e sz w5 w v xs:=avs a h
end
end ba
namespace ba
open Go
def aN(n:Nat):G_:=.tmp n
def bP(n:Int):G_:=.const (.int .i64 n)
def hV(b:Bool):G_:=.const (.bool b)
def ck(d:Nat)(i:yO):Step:=⟨some d,none,.p i⟩
def na(d:Nat)(i:wW):Step:=⟨some d,none,.r i⟩
def c6(d:Nat)(i:tJ):Step:=⟨some d,none,.e i⟩
def fv(d:Nat)(i:rQ):Step:=⟨some d,none,.c i⟩
def hE(i:tJ):Step:=⟨none,none,.e i⟩
def cO(j:Nat)(b:Bool)(s:Step):Step:=⟨s.dst,some (j,b),s.i⟩
def aM(d n:Nat):Step:=⟨some d,none,.p (.px (.tmp n))⟩
def dm(d:Nat)(x:G_):Step:=⟨some d,none,.p (.px x)⟩
def fs(d k n:Nat):Step:=⟨some d,none,.p (.ku k (.tmp n))⟩
def dD(d n:Nat):Step:=⟨some d,none,.r (.cp (.tmp n))⟩
def gQ(d k a i:Nat):Step:=⟨some d,none,.p (.pn k (.tmp a) (.tmp i))⟩
def ys(a v:Nat):Step:=⟨none,none,.e (.st (.tmp a) (.tmp v))⟩
def gd(d n:Nat):Step:=⟨some d,none,.p (.Ef (.tmp n))⟩
def dg:B_:=.int .i64 0
def hy:B_:=.slice none 0 0
def yB:B_:=.string ⟨#[]⟩
def gR(op:BinOp)(t:F_)(d a b:Nat):Step:=⟨some d,none,.p (.bin op t (.tmp a) (.tmp b))⟩
def mc(op:BinOp)(t:F_)(d a:Nat)(n:Int):Step:=⟨some d,none,.p (.bin op t (.tmp a) (.const (.int .i64 n)))⟩
def qb(d a b:Nat):Step:=⟨some d,none,.p (.pick (.tmp a) (.tmp b) (.const (.bool false)))⟩
def n9(d a b:Nat):Step:=⟨some d,none,.p (.pick (.tmp a) (.const (.bool true)) (.tmp b))⟩
def b2(a:C_ Step)(b:fg):fg:=.seq (.cN a) b
def ir(n:Nat)(a b:fg):fg:=.cond (.tmp n) a b
def m9(d k n:Nat):Step:=⟨some d,none,.r (.lb k (.tmp n))⟩
def sK(k a v:Nat):Step:=⟨none,none,.e (.mF k (.tmp a) (.tmp v))⟩
def E2(d n:Nat):Step:=⟨some d,none,.p (.sx (.tmp n))⟩
def As(d n i:Nat):Step:=⟨some d,none,.p (.ext (.tmp n) i)⟩
def qa(d:Nat)(f:E_)(l:C_ Nat):Step:=⟨some d,none,.c (.fn f (l.map .tmp))⟩
def n8(n m:Nat)(b:fg):fg:=.seq (.cond (.tmp n) .skip (.exit m)) b
def E3(n:Nat)(s:Step):Step:=cO n true s
def At(n:Nat)(s:Step):Step:=cO n false s
def nC(s:Step)(k:e2):e2:=.take s k
def n7(t:F_)(a b:Nat):fg:=.cN [⟨some a,none,.p (.bin .add t (.tmp b) (.const (.int .i64 1)))⟩,⟨some b,none,.p (.px (.tmp a))⟩]
def om{A B:Prop}(k:B)(h:B->A:=by
 intro a
 try dsimp only[aN,bP,hV,ck,na,c6,fv,hE,cO,aM,dm,fs,dD,gQ,ys,gd,dg,hy,yB,gR,mc,qb,n9,b2,ir,m9,sK,E2,As,qa,n8,n7,E3,At,nC,List.map_cons,List.map_nil]
 exact a):A:=h k
end ba
namespace ba
open Go Go.RowKit
structure yK(p:Prop):Prop where out:p
theorem aO{A B:Prop}(k:B)(h:yK B->A:=by
 intro a
 (repeat' first
 | assumption
 | exact Ext.refl _
 | refine Ext.trans ?_ Aq
 | refine Q_ AY ?_
 | refine _G Aq ?_ rfl ?_
 | refine _C Aq ?_ rfl ?_
 | refine _L Aq ?_ AY rfl ?_
 | refine _R Aq ?_ AY rfl ?_
 | refine _S Aq ?_ AY rfl ?_
 | refine _T AY ?_
 | refine _M (by first | assumption | omega) ?_
 | refine _N (by first | assumption | omega) ?_
 | refine _E Aq ?_
 | refine _F Aq ?_
 | simp -dsimp only[c7,cD,Nat.reduceAdd,Nat.reduceEqDiff,reduceIte,reduceCtorEq,dt])
 exact a.out):A:=h ⟨k⟩
theorem eJ{F A B:Prop}(f:F)(k:B)(h:F->yK B->A:=by
 intro f a
 (repeat' first
 | assumption
 | exact Ext.refl _
 | refine Ext.trans ?_ Aq
 | refine Q_ AY ?_
 | refine _G Aq ?_ rfl ?_
 | refine _C Aq ?_ rfl ?_
 | refine _L Aq ?_ AY rfl ?_
 | refine _R Aq ?_ AY rfl ?_
 | refine _S Aq ?_ AY rfl ?_
 | refine _T AY ?_
 | refine _M (by first | assumption | omega) ?_
 | refine _N (by first | assumption | omega) ?_
 | refine _E Aq ?_
 | refine _F Aq ?_
 | simp -dsimp only[c7,cD,Nat.reduceAdd,Nat.reduceEqDiff,reduceIte,reduceCtorEq,dt,f])
 exact a.out):A:=h f ⟨k⟩
theorem rZ{A B:Prop}(k:B)(h:yK B->A:=by
 intro a
 (repeat' first
 | assumption
 | exact Ext.refl _
 | refine Ext.trans ?_ Aq
 | refine Q_ AY ?_
 | refine _G Aq ?_ rfl ?_
 | refine _C Aq ?_ rfl ?_
 | refine _L Aq ?_ AY rfl ?_
 | refine _R Aq ?_ AY rfl ?_
 | refine _S Aq ?_ AY rfl ?_
 | refine _T AY ?_
 | refine _M (by first | assumption | omega) ?_
 | refine _N (by first | assumption | omega) ?_
 | refine _E Aq ?_
 | refine _F Aq ?_
 | simp -dsimp only[c7,Nat.reduceAdd,Nat.reduceEqDiff,reduceIte,reduceCtorEq,dt])
 exact a.out):A:=h ⟨k⟩
def cg{F A B:Prop}(f:F)(k:B)(h:F->yK B->A:=by
 intro f a;simp -dsimp only[c7,cD,Nat.reduceAdd,Nat.reduceEqDiff,reduceIte,reduceCtorEq,dt,f];exact a.out):A:=h f ⟨k⟩
def yp:C_ (Nat×B_)->Fr->Fr
 | [],a=>a
 | b :: c,a=>cC (yp c a) b.1 b.2
theorem yr(S:Fr):yp [] S=S:=eq_of_heq (HEq.refl _)
theorem yq(t:Nat)(v:B_)(r:C_ (Nat×B_))(S:Fr):yp ((t,v) :: r) S=cC (yp r S) t v:=eq_of_heq (HEq.refl _)
def Has(S:Fr):C_ (Nat×B_)->Prop
 | []=>True
 | a :: b=>S a.1=a.2/\Has S b
theorem xt(S:Fr):Has S []=True:=propext Iff.rfl
theorem xr(S:Fr)(t:Nat)(v:B_)(r:C_ (Nat×B_)):Has S ((t,v) :: r)=(S t=v/\Has S r):=propext Iff.rfl
theorem OU{S:Fr}:∀a,Has S a->yp a S=S
 | [],_=>rfl
 | b :: c,d=>by
  show cC (yp c S) b.1 b.2=S;rw[OU c d.2];exact kn S _ _ d.1
def x6(S:Fr):C_ Nat->Fr->Fr
 | [],a=>a
 | b :: c,a=>cC (x6 S c a) b (S b)
theorem x8(S a:Fr):x6 S [] a=a:=eq_of_heq (HEq.refl _)
theorem x7(S a:Fr)(t:Nat)(r:C_ Nat):x6 S (t :: r) a=cC (x6 S r a) t (S t):=eq_of_heq (HEq.refl _)
theorem Mr{S a:Fr}:∀c:C_ Nat,(∀b∈c,a b=S b)->x6 S c a=a
 | [],_=>rfl
 | b :: d,e=>by
  show cC (x6 S d a) b (S b)=a;rw[Mr d λf g=>e f (by simp[g])];exact kn a _ _ (e b Ah)
def aW{p:Prop}(h:p:=by first | trivial | rfl | exact⟨rfl,trivial⟩ | (simp -dsimp only[c7,yr,yq,x8,x7,xt,xr,Nat.reduceAdd,Nat.reduceEqDiff,reduceIte,and_self];done) | (simp -dsimp only[c7,yr,yq,x8,x7,xt,xr,Nat.reduceAdd,Nat.reduceEqDiff,reduceIte,and_self];exact⟨rfl,trivial⟩)):p:=h
def UN{ds b:C_ Nat}(h:(b.all λa => !ds.contains a)=true):∀a∈b,ds.contains a=false:=λa c=>by
 have:=List.all_eq_true.1 h a c
 simpa using this
theorem at6{p:Nat->Prop}:∀b,p b->∃d,p d/\∀a,p a->d<=a:=λb=>by
 induction b using Nat.strongRecOn with
 | _ b e =>
  intro f;by_cases hm:∃a,a<b/\p a
  .obtain⟨a,c,g⟩:=hm;exact e a c g
  .exact⟨b,f,λa c=>Nat.le_of_not_lt λh=>hm ⟨a,h,c⟩⟩
noncomputable def least(p:Nat->Prop):Nat:=open Classical in if c:∃a,p a/\∀b,p b->a<=b then c.choose else 0
def afz{p:Nat->Prop}(h:∃a,p a):p (least p)/\∀b,p b->least p<=b:=by
 obtain⟨a,d⟩:=h;have c:=at6 a d;unfold least;rw[dif_pos c];exact c.choose_spec
section
variable{P:Program}{Q:fI->Fr->World->Prop}{S:Fr}{w:World}
def K_{β:Type}{b:fg}{t}(i h:Nat)(j:C_ Nat)(d:β->C_ (Nat×B_))(k:β)(e:Nat->β->A_->Prop)(p:S i = .I 0)(q:Has S (d k))(r:e 0 k w)
  (s:∀(a:Nat) c f g,a<=h->e a c g ->
   e5 P b (jY (λl u=>a<h/\l i = .I ((a:Int)+1)/\∃m,Has l (d m)/\e (a+1) m u) Q ⟨⟩) (yp (d c) (cC (x6 S j f) i (.I a))) g ⟨⟩)
  (v:(j.all λt => !b.gu.contains t)=true:=by rfl):CQ P b Q S w t:=by
 refine _j i h (λa S w => ∃c,Has S (d c)/\e a c w) p ⟨k,q,r⟩ ?_;rintro a f g x y z ⟨c,A,B⟩;have n:=s a c f g y B;rw[Mr j λt C=>x t (UN v t C),kn f i _ z,OU _ A] at n;exact n
def R_{β:Type}{a b:fg}{t}(e:C_ Nat)(g:β->C_ (Nat×B_))(h:β->A_->Prop)(j:e5 P a (jY (λk l => ∃c,Has k (g c)/\h c l) Q ⟨⟩) S w ⟨⟩)
  (m:∀c f d,h c d->e5 P b Q (yp (g c) (x6 S e f)) d ⟨⟩)(n:(e.all λt => !a.gu.contains t)=true:=by rfl):e5 P (.seq a b) Q S w t:=by
 refine _x _ j ?_;rintro f d p ⟨c,q,r⟩;have i:=m c f d r;rw[Mr e λt s=>p t (UN n t s),OU _ q] at i;exact i
theorem _W{β:Type}{b:fg}{t}(k:C_ Nat)(e:β->C_ (Nat×B_))(l:β)(f:β->A_->Prop)(d:β->Nat)(s:Has S (e l))(u:f l w)
  (v:∀a h g,f a g ->
   e5 P b (jY (λm n => ∃p,Has m (e p)/\f p n/\d p<d a) Q ⟨⟩) (yp (e a) (x6 S k h)) g ⟨⟩)
  (x:(k.all λt => !b.gu.contains t)=true:=by rfl):CQ P b Q S w t:=by
 refine Z_ (λS w => ∃a,Has S (e a)/\f a w) (λS w=>least λi => ∃a,Has S (e a)/\f a w/\d a=i) ⟨l,s,u⟩ ?_;rintro h g y ⟨a,z,A⟩;obtain⟨⟨B,C,G,H⟩,K⟩:=afz (p:=λi => ∃a,Has h (e a)/\f a g/\d a=i) ⟨d a,a,z,A,rfl⟩;have c:=v B h g G;rw[Mr k λt I=>y t (UN x t I),OU _ C] at c;unfold e5 jY at *;refine rM b _ _ h g (λJ m n _ c=>?_) c
 match J,c with
 | .normal,⟨j,q,r,L⟩ =>
  refine⟨⟨j,q,r⟩,?_⟩;have M:=(afz (p:=λi => ∃a,Has m (e a)/\f a n/\d a=i) ⟨d j,j,q,r,rfl⟩).2 (d j) ⟨j,q,r,rfl⟩;show least _<least _;rw[<-H];omega
 | .exit _,c=>exact c
 | .ret,c=>exact c
 | .h2 _,c=>exact c
end
end ba
namespace ba
open Go Go.RowKit o
section
variable{P:Program}{bb:Value->Prop}{w w0:World}
def _2{a:Addr}{cs:C_ B_}{j:Nat}{v:B_}{t}(h:fy w0 a cs)(b:Ext w0 w)(c:cs[j]? = some v)(d:bb v):tM (.pointer (some (a.add j))) w bb t:=L_ (b.cell (h j v c)) d
def _3{a:Addr}{cs:C_ B_}{n:Nat}{t}(h:fy w0 a cs)(b:Ext w0 w)(c:cs.length=n)(d:bb (.agg cs.toArray)):yN n (.pointer (some a)) w bb t:=Y_ (h.ext b) c d
end
theorem ad{A B:Prop}(k:B)(h:yK B->A:=by
 intro a
 (repeat' first
 | assumption
 | exact Ext.refl _
 | refine Ext.trans ?_ Aq
 | simp -dsimp only[c7,cD,Nat.reduceAdd,Nat.reduceEqDiff,reduceIte,reduceCtorEq,dt,yr,yq,x8,x7,xt,xr,List.cons_append,List.nil_append]
 | refine Q_ AY ?_
 | refine _G Aq ?_ rfl ?_
 | refine _C Aq ?_ rfl ?_
 | refine _T AY ?_
 | refine _M (by first | assumption | omega) ?_
 | refine _N (by first | assumption | omega) ?_
 | refine _E Aq ?_
 | refine _F Aq ?_
 | refine _L Aq ?_ AY rfl ?_
 | refine _R Aq ?_ AY rfl ?_
 | refine _S Aq ?_ AY rfl ?_
 | refine _2 Aq ?_ rfl ?_
 | refine _3 Aq ?_ rfl ?_
 | refine S_ Aq ?_ rfl ?_
 | refine _O (λ_=>by (simp -dsimp only[c7,Nat.reduceAdd,Nat.reduceEqDiff,reduceIte,reduceCtorEq,dt]);rfl) rfl rfl (by first | assumption | (simp[Value.oneCell',o.c9.enc,o.Ref.enc,o.Node.enc,o.Scalar.enc,o.Var.enc,o.eb.enc,o.Act.enc,o.ew.enc,o.ed.enc,o.mL.enc];done)) ?_
 | refine O_ ?_
 | refine X_ Aq rfl rfl (by first | assumption | (simp[Value.oneCell',o.c9.enc,o.Ref.enc,o.Node.enc,o.Scalar.enc,o.Var.enc,o.eb.enc,o.Act.enc,o.ew.enc,o.ed.enc,o.mL.enc];done)) ?_
 | refine _B Aq (Nat.le_of_ble_eq_true rfl) rfl ?_
 | refine _i Aq (Nat.le_of_ble_eq_true rfl) rfl ?_
 | refine _D (by (simp only[gv,lay,o6,dE,bR,Value.cells,Nat.reduceAdd,Nat.reduceEqDiff,reduceIte,List.range,List.range.loop,List.map_cons,List.map_nil]);rfl) ?_
 | refine V_ (by (simp only[gv,lay,o6,dE,bR,Value.cells,Nat.reduceAdd,Nat.reduceEqDiff,reduceIte]);rfl) ?_)
 exact a.out):A:=h ⟨k⟩
theorem eA{A B:Prop}(k:B)(h:yK B->A:=by
 intro a
 (repeat' first
 | assumption
 | exact Ext.refl _
 | refine Ext.trans ?_ Aq
 | simp -dsimp only[c7,Nat.reduceAdd,Nat.reduceEqDiff,reduceIte,reduceCtorEq,dt,yr,yq,x8,x7,xt,xr,List.cons_append,List.nil_append]
 | refine Q_ AY ?_
 | refine _G Aq ?_ rfl ?_
 | refine _C Aq ?_ rfl ?_
 | refine _T AY ?_
 | refine _M (by first | assumption | omega) ?_
 | refine _N (by first | assumption | omega) ?_
 | refine _E Aq ?_
 | refine _F Aq ?_
 | refine _L Aq ?_ AY rfl ?_
 | refine _R Aq ?_ AY rfl ?_
 | refine _S Aq ?_ AY rfl ?_
 | refine _2 Aq ?_ rfl ?_
 | refine _3 Aq ?_ rfl ?_
 | refine S_ Aq ?_ rfl ?_
 | refine _O (λ_=>by (simp -dsimp only[c7,Nat.reduceAdd,Nat.reduceEqDiff,reduceIte,reduceCtorEq,dt]);rfl) rfl rfl (by first | assumption | (simp[Value.oneCell',o.c9.enc,o.Ref.enc,o.Node.enc,o.Scalar.enc,o.Var.enc,o.eb.enc,o.Act.enc,o.ew.enc,o.ed.enc,o.mL.enc];done)) ?_
 | refine O_ ?_
 | refine X_ Aq rfl rfl (by first | assumption | (simp[Value.oneCell',o.c9.enc,o.Ref.enc,o.Node.enc,o.Scalar.enc,o.Var.enc,o.eb.enc,o.Act.enc,o.ew.enc,o.ed.enc,o.mL.enc];done)) ?_
 | refine _B Aq (Nat.le_of_ble_eq_true rfl) rfl ?_
 | refine _i Aq (Nat.le_of_ble_eq_true rfl) rfl ?_
 | refine _D (by (simp only[gv,lay,o6,dE,bR,Value.cells,Nat.reduceAdd,Nat.reduceEqDiff,reduceIte,List.range,List.range.loop,List.map_cons,List.map_nil]);rfl) ?_
 | refine V_ (by (simp only[gv,lay,o6,dE,bR,Value.cells,Nat.reduceAdd,Nat.reduceEqDiff,reduceIte]);rfl) ?_)
 exact a.out):A:=h ⟨k⟩
end ba
namespace ba
open Go Go.RowKit
def gJ(A:Nat->Prop)(p:A_->Prop)(w:A_):Prop := ∀a,Mod A w a->p a
def gJ.here{A:Nat->Prop}{p:A_->Prop}{w:A_}(h:gJ A p w):p w:=h w (Mod.refl A w)
theorem Mod.comp{A A' B:Nat->Prop}{a b c:A_}(h:Mod A a b)(k:Mod A' b c)(i:∀d,d<a.heap.size->A d->B d)(j:∀d,d<a.heap.size->A' d->B d):Mod B a c :=
 ⟨k.os.trans h.os,k.tape.trans h.tape,k.output.trans h.output,Ug h.size k.size,λd e g=>(k.block d (AI3 e h.size) λf=>g (j d e f)).trans (h.block d e λf=>g (i d e f))⟩
def gJ.move{A A' B:Nat->Prop}{p:A_->Prop}{w w':A_}(h:gJ B p w)(m:Mod A w w')(b:∀a,a<w.heap.size->A a->B a)(c:∀a,a<w.heap.size->A' a->B a):gJ A' p w' :=
 λd e=>h d (m.comp e b c)
def gJ.mono{A B:Nat->Prop}{p:A_->Prop}{w:A_}(h:gJ B p w)(b:∀a,a<w.heap.size->A a->B a):gJ A p w:=h.move (Mod.refl A w) b b
theorem gJ.ext{B:Nat->Prop}{p:A_->Prop}{w w':A_}(h:gJ B p w)(e:Ext w w')(b:∀a,w.heap.size<=a->¬B a):gJ B p w' :=
 h.move (A:=λ_=>False) e.mod (λ_ _ h=>h.elim) (λ_ _ h=>h)
def gJ.imp{A:Nat->Prop}{p q:A_->Prop}{w:A_}(h:gJ A p w)(b:∀w,p w->q w):gJ A q w:=λa c=>b a (h a c)
def gJ.and{A:Nat->Prop}{p q:A_->Prop}{w:A_}(h:gJ A p w)(k:gJ A q w):gJ A (λw=>p w/\q w) w:=λa b=>⟨h a b,k a b⟩
theorem gJ.of{A:Nat->Prop}{p:A_->Prop}{w:A_}(h:∀a,p a):gJ A p w:=λa _=>h a
abbrev ec(w:A_)(p:A_->Prop)(w':A_):Prop:=gJ (λa=>a<w.heap.size) p w'
theorem ec.ext{w w1 a:A_}{p:A_->Prop}(h:ec w p w1)(b:Ext w1 a)(c:w.heap.size<=w1.heap.size):ec w p a :=
 gJ.ext h b λd e f=>AY
def ec.low{w w0 w1:A_}{p:A_->Prop}(h:ec w p w1)(a:w0.heap.size<=w.heap.size):ec w0 p w1:=h.mono λb _ c=>AY
def ec.wr{w w1 a:A_}{p:A_->Prop}{b:Nat}(h:ec w p w1)(d:dX b w1 a)(g:b<w.heap.size):ec w p a :=
 gJ.move h (A:=λe=>e=b) (d.mod rfl) (λf _ c=>AY) (λf _ c=>c)
def ec.grown{w w1 c:A_}{p:A_->Prop}{row:H_ Nat}(h:ec w p w1)(e:w1.grownBy c row)(f:∀a,row=some a->a<w.heap.size):ec w p c :=
 gJ.move h (A:=λa=>row=some a) (Mod.grown e λa g=>g) (λd _ b=>f d b) (λd _ b=>b)
def ec.and{w w1:A_}{p q:A_->Prop}(h:ec w p w1)(k:ec w q w1):ec w (λw=>p w/\q w) w1:=gJ.and h k
def ec.imp{w w1:A_}{p q:A_->Prop}(h:ec w p w1)(a:∀w,p w->q w):ec w q w1:=gJ.imp h a
class Rel{α:Type}(R:World->Addr->α->Prop)(C:outParam (World->List Value->α->Prop))(sz:outParam Nat):Prop where
 out:∀{w a x},R w a x->∃cs,fy w a cs/\C w cs x
 kx:∀{w a cs x},fy w a cs->C w cs x->R w a x
 len:∀{w cs x},C w cs x->cs.length=sz
 one:∀{w cs x},C w cs x->∀u∈cs,u.oneCell'=true
 ext:∀{w w' cs x},Ext w w'->C w cs x->C w' cs x
abbrev hz(sz:Nat):={a:C_ B_ // a.length=sz/\∀b∈a,b.oneCell'=true}
def kE{sz:Nat}(c:hz sz):C_ B_:=c.1
def iZ{sz:Nat}(c:hz sz):(kE c).length=sz:=c.2.1
def vD{sz:Nat}(c:hz sz):∀a∈kE c,a.oneCell'=true:=c.2.2
abbrev og(e:F_)(sz base:Nat)(w:A_)(v:B_)(a:C_ (hz sz)):Prop:=aT kE e sz base w v a
theorem a6.cells{α:Type}{R:A_->Addr->α->Prop}{C:A_->C_ B_->α->Prop}{sz:Nat}[Rel R C sz]{w:A_}{v:B_}{xs:C_ α}(h:a6 sz R w v xs) :
  ∃c:C_ (hz sz),c.length=xs.length/\a6 sz (Flat kE) w v c/\∀a (i:a<c.length) (e:a<xs.length),C w c[a].1 xs[a]:=by
 obtain⟨j,n,rfl,i,e,k,p⟩:=h.ex;obtain⟨c,f,l⟩:=Ul xs.length (λa (m:hz sz)=>(∀d,j=some d->fy w (d.add (a*sz)) m.1)/\∀(h:a<xs.length),C w m.1 xs[a]) λa g=>by
  obtain⟨d,rfl⟩:=Option.isSome_iff_exists.1 (k (by intro b;subst b;simp at g));obtain⟨q,bg,bj⟩:=Rel.out (p d rfl a g);exact⟨⟨q,Rel.len (R:=R) bj,Rel.one (R:=R) bj⟩,λt b=>by injection b with b;subst b;exact bg,λ_=>bj⟩
 refine⟨c,f,⟨j,n,by rw[f],AY,e,λr=>k (by intro b;subst b;simp at f;exact r f),λd s a g=>(l a g).1 d s⟩,λa i e=>(l a i).2 e⟩
def a6.B9{α:Type}{R:A_->Addr->α->Prop}{C:A_->C_ B_->α->Prop}{sz:Nat}[Rel R C sz]{w:A_}{v:B_}{xs:C_ α}{b:C_ (hz sz)}(c:b.length=xs.length)(h:a6 sz (Flat kE) w v b)
  (e:∀a (f:a<b.length) (d:a<xs.length),C w b[a].1 xs[a]):a6 sz R w v xs:=by
 obtain⟨g,i,rfl,f,d,j,k⟩:=h.ex;refine⟨g,i,by rw[c],AY,d,λl=>j (by intro m;subst m;simp at c;exact l (AF8 c.symm)),λn p a q=>Rel.kx (k n p a AY) (e a AY q)⟩
def _I{P:D_}{j:B_->A_->Prop}{α:Type}{enc:α->C_ B_}{e:F_}{sz base:Nat}{w:A_}{xs:C_ α}{g:F_}{b:Nat}{s:B_}{a:Addr}{m c:Nat}{ys:C_ α}{t}(k:aT enc e sz base w s xs)(l:∀n,(enc n).length=sz)(p:fy w a (ys.flatMap enc))(q:m=ys.length)
  (r:∀h,∀i∈enc h,i.oneCell'=true)(u:(xs.length+ys.length)*b<=140737488355328)(v:xs.length+ys.length<=maxLen)(x:base<=w.heap.size)
  (y:∀d f,aT enc e sz base f d (xs++ys)->w.grownBy f s.ownBlock->(d.ownBlock=s.ownBlock\/d.ownBlock=some w.heap.size)->j d f):lJ P g e sz b s (.slice (some a) m c) w j t:=by
 subst q;refine _h λ⟨z,A,B,C,G,H,I,J,K⟩=>?_;obtain⟨d,f,L,M,N,_,O⟩:=run_append_own_at (P:=P) w base g g e A B sz b z C G H I J K s _ _ k a _ c _ (mV l ys) p (λi Q=>by obtain⟨h,_,S⟩:=List.mem_flatMap.1 Q;exact r h i S) v u x;refine⟨g,d,f,L,y d f ?_ N O⟩;unfold aT;rw[JM,AJ6];exact M
def rV(v:B_)(base k:Nat):Prop:=v.ownBlock=some k\/k<base
structure ey{α:Type}(C:World->List Value->α->Prop)(e:TypeId)(sz base:Nat)(w:World)(v:Value)(xs:List α):Prop where
 ex:∃bL:List (hz sz),bL.length=xs.length/\og e sz base w v bL/\∀i (I:i<bL.length) (U:i<xs.length),gJ (rV v base) (λw=>C w bL[i].1 xs[i]) w
section
variable{α:Type}{C:World->List Value->α->Prop}{e:TypeId}{sz base:Nat}{w w':World}{v:Value}{xs:List α}
def ey.nil(C:A_->C_ B_->α->Prop)(e:F_)(sz base:Nat)(w:A_):ey C e sz base w (.slice none 0 0) []:=⟨[],rfl,aT.nil _ _ _ _ _,λb a=>by cases a⟩
def ey.form(h:ey C e sz base w v xs):∃b a,v = .slice b xs.length a/\xs.length<=a/\a<=maxLen:=by
 obtain⟨i,c,d,_⟩:=h.ex;obtain⟨b,a,f,j,g⟩:=d.form;exact⟨b,a,by rw[f,c],AY,g⟩
def ey.lt(h:ey C e sz base w v xs):∀a,v.ownBlock=some a->base<=a/\a<w.heap.size:=by
 obtain⟨c,d,b,_⟩:=h.ex;exact b.lt
def aT.mod{enc:α->C_ B_}{A:Nat->Prop}(h:aT enc e sz base w v xs)(m:Mod A w w')(c:∀a,v.ownBlock=some a->¬A a):aT enc e sz base w' v xs:=by
 refine⟨h.1,?_⟩;rcases h.2 with d | ⟨b,cap,cur,rfl,f,g,rest⟩
 .exact .inl d
 .exact .inr ⟨b,cap,cur,rfl,f,m.obj (c b rfl) g,rest⟩
def aT.b0{enc:α->C_ B_}(h:aT enc e sz base w v xs):∀a,v.ownBlock=some a->∃b,w.heap[a]? = some (.cells b e):=λa c=>by
 rcases h.2 with ⟨rfl,_⟩ | ⟨f,cap,b,rfl,g,d,rest⟩
 .cases c
 .simp only[Value.ownBlock,Option.some.injEq] at c;subst c;exact⟨b,d⟩
def ey.mod{A:Nat->Prop}(h:ey C e sz base w v xs)(m:Mod A w w')(d:∀a,a<w.heap.size->A a->a<base):ey C e sz base w' v xs:=by
 obtain⟨g,i,f,j⟩:=h.ex;refine⟨g,i,f.mod m λa k b=>?_,λc l n=>(j c l n).move m (λc p b=>.inr (d c p b)) λ_ _ b=>b⟩
 have:=f.lt a k
 have:=d a this.2 b
 omega
theorem ey.ext(h:ey C e sz base w v xs)(m:Ext w w'):ey C e sz base w' v xs:=h.mod (A:=λ_=>False) m.mod λ_ _ h=>h.elim
def ey.wr{b:Nat}(h:ey C e sz base w v xs)(m:dX b w w')(c:b<base):ey C e sz base w' v xs:=h.mod (A:=λa=>a=b) (m.mod rfl) λa _ e=>AY
def ey.new{R:A_->Addr->α->Prop}[Rel R C sz](h:ey C e sz base w v xs):gJ (λa=>a<base) (λw=>a6 sz R w v xs) w:=λw' b=>by
 have c:=h.mod b λa _ d=>d;obtain⟨m,f,g,i⟩:=c.ex;exact a6.B9 f (g.im iZ) λj k l=>(i j k l).here
def ey.im{R:A_->Addr->α->Prop}[Rel R C sz](h:ey C e sz base w v xs):a6 sz R w v xs:=(h.new (R:=R)).here
def ey.under(h:ey C e sz base w v xs)(c:base<=w.heap.size):∀a,rV v base a->a<w.heap.size:=λa b=>by
 rcases b with b | b
 .exact(h.lt a b).2
 .omega
def ec.own{p:A_->Prop}{w1:A_}(a:ec w p w1)(h:ey C e sz base w v xs)(b:base<=w.heap.size):gJ (rV v base) p w1:=a.mono λc _ d=>h.under b c d
theorem ey.box{t:F_}{k:Nat}{c:Array B_}(b:ey C e sz base w v xs)(f:w.grownBy w' v.ownBlock)(a:w.heap[k]? = some (.cells c t))(g:t≠e):w'.heap[k]? = some (.cells c t):=by
 obtain⟨i,_,b,_⟩:=b.ex;rw[f.block k (cf a) λd=>?_]
 .exact a
 rcases b.2 with ⟨rfl,_⟩ | ⟨j,cap,bj,rfl,_,h,_⟩
 .cases d
 .simp only[Value.ownBlock,Option.some.injEq] at d;subst d;rw[h] at a;injection a with a
  injection a with _ a
  exact g a.symm
def ey.h9{w0:A_}(a:ey C e sz base w v xs)(b:Ext w0 w)(c:w.grownBy w' v.ownBlock)(d:w0.heap.size<=base):Ext w0 w':=b.grown c λf g=>Ug d (a.lt f g).1
def _A{P:D_}{p:B_->A_->Prop}{y:F_}{b:Nat}{a:Addr}{c:Nat}{cs:C_ B_}{x:α}{t}(z:ey C e sz base w v xs)(A:fy w a cs)(B:gJ (rV v base) (λw=>C w cs x) w)
  (q:cs.length=sz)(h:∀G∈cs,G.oneCell'=true)(H:(xs.length+1)*b<=140737488355328)(I:xs.length+1<=maxLen)(J:base<=w.heap.size)
  (i:∀g w',ey C e sz base w' g (xs++[x])->w.grownBy w' v.ownBlock->p g w'):lJ P y e sz b v (.slice (some a) 1 c) w p t:=by
 obtain⟨j,m,K,L⟩:=z.ex;refine _I (enc:=kE) (ys:=[(⟨cs,q,h⟩:hz sz)]) K iZ (by simpa[kE] using A) rfl vD (by rw[m];exact H) (by rw[m];exact I) J λg w' M r N=>i g w' ⟨j++[⟨cs,q,h⟩],by simp[m],M,λd h O=>?_⟩ r;have Q:Mod (λf=>v.ownBlock=some f) w w':=Mod.grown r λf i=>i;have S:∀f,f<w.heap.size->g.ownBlock=some f->rV v base f:=λf i k=>by
  rcases N with e | e
  .exact .inl (e ▸ k)
  .rw[e] at k;injection k with k;omega
 have s:∀{n:A_->Prop},gJ (rV v base) n w->gJ (rV g base) n w':=λ{n} U=>U.move Q (λd _ a=>.inl a) λd l a=>by
  rcases a with a | a
  .exact S d l a
  .exact .inr a
 rw[JM] at h O;by_cases l:d<j.length
 .have u:d<xs.length:=AY
  have:=s (L d l u)
  simpa[List.getElem_append,l,u] using this
 .have V:d=j.length:=by simp at h;omega
  subst V;have W:¬j.length<xs.length:=AY
  have:=s B
  simpa[List.getElem_append,W] using this
end
section
variable{α:Type}{enc:α->List Value}{e:TypeId}{sz base:Nat}{w w':World}{v:Value}{xs:List α}
theorem aT.box{t:F_}{k:Nat}{c:Array B_}(d:aT enc e sz base w v xs)(f:w.grownBy w' v.ownBlock)(b:w.heap[k]? = some (.cells c t))(g:t≠e):w'.heap[k]? = some (.cells c t):=by
 rw[f.block k (cf b) λh=>?_]
 .exact b
 .obtain⟨cur,a⟩:=d.b0 k h.symm;rw[b] at a;injection a with a;injection a with _ a;exact g a
def aT.h9{w0:A_}(a:aT enc e sz base w v xs)(b:Ext w0 w)(c:w.grownBy w' v.ownBlock)(d:w0.heap.size<=base):Ext w0 w':=b.grown c λf g=>Ug d (a.lt f g).1
def T_{P:D_}{c:B_->A_->Prop}{i:F_}{d b:Nat}{y:α}{cs:C_ B_}{t}(j:aT enc e sz base w v xs)(k:w.heap[b]? = some (.cells cs.toArray e))(l:cs=enc y)(m:∀n,(enc n).length=sz)(p:∀y,∀q∈enc y,q.oneCell'=true)
  (r:(xs.length+1)*d<=140737488355328)(s:xs.length+1<=maxLen)(u:base<=w.heap.size)
  (x:∀a f g w',aT enc e sz base w' (.slice a f g) (xs++[y])->w.grownBy w' v.ownBlock->c (.slice a f g) w'):lJ P i e sz d v (.slice (some ⟨b,0,none⟩) 1 1) w c t:=by
 refine _I (ys:=[y]) j m (by subst l;simpa using g5 k) rfl p r s u λA w' h z _=>?_;obtain⟨a,B,rfl,_⟩:=h.form;exact x _ _ _ _ h z
end
def VC{α:Type}{l:C_ α}{k b:Nat}(a:k<l.length)(d:l.length*b<=140737488351232)(e:l.length<=9223372036854775807):((l.take k).length+1)*b<=140737488355328/\(l.take k).length+1<=maxLen:=by
 have c:(l.take k).length=k:=by rw[IP];omega
 rw[c]
 have:=AJ2 b (show k+1<=l.length from a)
 exact⟨AY,by unfold maxLen;omega⟩
def ey.snoc{α:Type}{C:A_->C_ B_->α->Prop}{e:F_}{sz base:Nat}{w:A_}{v:B_}{l:C_ α}{k:Nat}(a:k<l.length)(h:ey C e sz base w v (l.take k++[l[k]])):ey C e sz base w v (l.take (k+1)):=by
 rw[Oi a];exact h
def ey.done{α:Type}{C:A_->C_ B_->α->Prop}{e:F_}{sz base:Nat}{w:A_}{v:B_}{l:C_ α}{k:Nat}(a:l.length<=k)(h:ey C e sz base w v (l.take k)):ey C e sz base w v l:=by
 rwa[IA a] at h
end ba
namespace ba
open Go Go.RowKit
inductive kq where
 | i
 | b
 | s
deriving DecidableEq
def kq.of:TypeDesc->H_ kq
 | .int .i64=>some .i
 | .bool=>some .b
 | .string=>some .s
 | _=>none
def kq.auZ{a:TypeDesc}(h:kq.of a=some .i):a = .int .i64:=by unfold kq.of at h;split at h<;>simp_all
def kq.auY{a:TypeDesc}(h:kq.of a=some .b):a = .bool:=by unfold kq.of at h;split at h<;>simp_all
def kq.au0{a:TypeDesc}(h:kq.of a=some .s):a = .string:=by unfold kq.of at h;split at h<;>simp_all
def kq.ok:kq->B_->Prop
 | .i,a => ∃b,a = .int .i64 b
 | .b,a => ∃b,a = .bool b
 | .s,a => ∃b,a = .string b
def s3:C_ kq->C_ B_->Prop
 | [],[]=>True
 | a :: b,c :: d=>a.ok c/\s3 b d
 | _,_=>False
theorem QZ:∀{b:C_ kq} {c:C_ B_},s3 b c->c.length=b.length
 | [],[],_=>rfl
 | _ :: _,_ :: _,a=>by simp[QZ a.2]
 | [],_ :: _,a=>a.elim
 | _ :: _,[],a=>a.elim
def Dt(P:D_):C_ Field->C_ kq->Nat->Bool
 | [],[],_=>true
 | f :: fV,k :: mw,n=>f.name != "_" && f.offset == n&&((P.underlying f.type).bind kq.of == some k)&&Dt P fV mw (n+1)
 | _,_,_=>false
def Kv(P:D_)(t:F_)(sig:C_ kq):Bool :=
 match P.underlying t with
 | some (.struct a) => !P.stoodInHeld t && !P.eqGuardType P.depth t&&Dt P a.toList sig 0
 | _=>false
def drop_cons{α:Type}{l:C_ α}{n:Nat}{x:α}{r:C_ α}(h:l.drop n=x :: r):l[n]? = some x/\l.drop (n+1)=r:=by
 have a:l[n]? = some x:=by
  have:=congrArg (·[0]?) h
  simpa using this
 refine⟨a,?_⟩
 have:=congrArg (List.drop 1) h
 simpa[List.drop_drop] using this
theorem abp{P:D_}(w:A_)(d:Nat)(xs ys:Array B_):∀(m:C_ Field) (h:C_ kq) (a:Nat),Dt P m h a=true->s3 h (xs.toList.drop a)->s3 h (ys.toList.drop a) ->
  ∃n:Bool,(Op.eqFields (d+1) xs ys m).run P w = .ok n w/\(n=true↔xs.toList.drop a=ys.toList.drop a)
 | [],[],a,_,c,e=>by
  refine⟨true,by simp[Op.eqFields],?_⟩;have v:=QZ c;have p:=QZ e;rw[AF8 v,AF8 p];simp
 | [],_ :: _,_,g,_,_=>by simp[Dt] at g
 | _ :: _,[],_,g,_,_=>by simp[Dt] at g
 | f :: m,G :: h,a,g,c,e=>by
  simp only[Dt,Bool.and_eq_true,bne_iff_ne,ne_eq,beq_iff_eq] at g;obtain⟨⟨⟨v,p⟩,H⟩,I⟩:=g;obtain⟨J,q,r⟩:=Option.bind_eq_some_iff.1 H;cases x:xs.toList.drop a with
  | nil=>rw[x] at c;exact c.elim
  | cons t rx =>
   cases y:ys.toList.drop a with
   | nil=>rw[y] at e;exact e.elim
   | cons u X =>
    rw[x] at c;rw[y] at e;obtain⟨K,z⟩:=drop_cons x;obtain⟨L,A⟩:=drop_cons y;obtain⟨n,M,B⟩:=abp w d xs ys m h (a+1) I (by rw[z];exact c.2) (by rw[A];exact e.2);have C:tV P f.type=some false:=by
     unfold tV;rw[q];cases J<;>simp[kq.of] at r<;>rfl
    have N:xs[a]? = some t:=by rw[<-Array.getElem?_toList];exact K
    have O:ys[a]? = some u:=by rw[<-Array.getElem?_toList];exact L
    have Q:(part f.type xs f.offset).run P w = .ok t w:=by simp[part,Ci C,p,N]
    have S:(part f.type ys f.offset).run P w = .ok u w:=by simp[part,Ci C,p,O]
    have U:∃j:Bool,(Op.equalIn (d+1) f.type t u).run P w = .ok j w/\(j=true↔t=u):=by
     cases G with
     | i =>
      obtain⟨k,rfl⟩:=c.1;obtain⟨b,rfl⟩:=e.1;have l:=kq.auZ r;subst l;exact⟨_,run_equalIn_int w d f.type .i64 .i64 k b q,Ah⟩
     | b =>
      obtain⟨k,rfl⟩:=c.1;obtain⟨b,rfl⟩:=e.1;have l:=kq.auY r;subst l;exact⟨_,run_equalIn_bool' w d f.type k b q,Ah⟩
     | s =>
      obtain⟨k,rfl⟩:=c.1;obtain⟨b,rfl⟩:=e.1;have l:=kq.au0 r;subst l;exact⟨_,run_equalIn_string w d f.type k b q,by rw[<-beq_toListBytes];simp⟩
    obtain⟨j,V,W⟩:=U;refine⟨j&&n,?_,?_⟩
    .simp only[Op.eqFields,v,ne_eq,not_false_eq_true,if_true,Sem.run_bind,Q,S,V,Result.andThen_ok];cases j
     .simp
     .simpa using M
    .rw[z,A] at B;simp only[Bool.and_eq_true,W,B,List.cons.injEq]
theorem ahJ{P:D_}{t:F_}{sig:C_ kq}(h:Kv P t sig=true)(w:A_){xs ys:C_ B_}(l:s3 sig xs)(m:s3 sig ys)(x y:G_) :
  ∃a:Bool,(a=true↔xs=ys)/\∀w,(do eqGuard .eql t x y (.agg xs.toArray) (.agg ys.toArray);binOp .eql t (.agg xs.toArray) (.agg ys.toArray):Sem B_).run P w = .ok (.bool a) w /\
   (do eqGuard .neq t x y (.agg xs.toArray) (.agg ys.toArray);binOp .neq t (.agg xs.toArray) (.agg ys.toArray):Sem B_).run P w = .ok (.bool (!a)) w:=by
 unfold Kv at h;cases hu:P.underlying t with
 | none=>rw[hu] at h;cases h
 | some n =>
  cases n<;>simp[hu] at h;rename_i e;obtain⟨⟨p,f⟩,q⟩:=h;have g:P.fieldsOf t=e:=by simp[Program.fieldsOf,hu]
  have i:∀w,∃a:Bool,(Op.equalIn 10000 t (.agg xs.toArray) (.agg ys.toArray)).run P w = .ok a w/\(a=true↔xs=ys):=λw=>by
   obtain⟨a,r,c⟩:=abp (P:=P) w 9998 xs.toArray ys.toArray e.toList sig 0 q (by simpa using l) (by simpa using m);refine⟨a,?_,by simpa using c⟩;rw[run_equalIn_struct w 9999 t _ _ (by rw[g];exact hu) p,g];exact r
  obtain⟨a,_,c⟩:=i w;refine⟨a,c,λd=>?_⟩;obtain⟨s,j,k⟩:=i d
  have:s=a:=by
   rcases Bool.eq_false_or_eq_true a with b | b
   .rw[b];exact k.2 (c.1 b)
   .rw[b];exact Bool.eq_false_iff.2 λh=>by rw[c.2 (k.1 h)] at b;cases b
  subst this;refine⟨?_,?_⟩
  .simp only[Sem.run_bind,run_eqGuard_agg d .eql t x y _ _ f,Result.andThen_ok,run_eql_struct,j]
  .simp only[Sem.run_bind,run_eqGuard_agg d .neq t x y _ _ f,Result.andThen_ok,run_neq_struct,j]
section
variable{P:Program}{bb:Value->Prop}{dy dO:Operand}
def AA1{t:F_}{sig:C_ kq}{xs ys:C_ B_}{b}(h:Kv P t sig=true)(c:s3 sig xs)(d:s3 sig ys)(e:∀a:Bool,(a=true↔xs=ys)->bb (.bool a)):h6 P .eql t dy dO (.agg xs.toArray) (.agg ys.toArray) bb b:=by
 obtain⟨a,f,g⟩:=ahJ h default c d dy dO;exact _J (λi=>(g i).1) (e a f)
def AB9{t:F_}{sig:C_ kq}{xs ys:C_ B_}{b}(h:Kv P t sig=true)(c:s3 sig xs)(d:s3 sig ys)(e:∀a:Bool,(a=true↔xs≠ys)->bb (.bool a)):h6 P .neq t dy dO (.agg xs.toArray) (.agg ys.toArray) bb b:=by
 obtain⟨a,f,g⟩:=ahJ h default c d dy dO;exact _J (λi=>(g i).2) (e (!a) (by rw[ne_eq,<-f];cases a<;>simp))
def AA2{t e:F_}{a:H_ Addr}{l c:Nat}{b}(h:P.underlying t=some (.slice e))(d:bb (.bool a.isNone)):h6 P .eql t dy dO (.slice a l c) (.slice none 0 0) bb b :=
 _J (v:=.bool a.isNone) (λf=>by simp[eqGuard_at_slice,binOp,run_equal_slice_nil f t e a l c h]) d
end
end ba
namespace ba
open Go Go.RowKit
section
variable{P:Program}{w0 w:World}{S:Fr}{K:Fr->World->Prop}
def strip:e2->C_ Step×e2
 | .take b a=>(b :: (strip a).1,(strip a).2)
 | t=>([],t)
theorem ET:∀(c:e2) (S:Fr),u4 P (strip c).1 S w0 (λe=>n2 P w0 (strip c).2 e w K)->n2 P w0 c S w K
 | .take ⟨f,none,g⟩ b,S,a=>by
  show nd P g S w0 λd=>n2 P w0 b (put S f d) w K;have j:nd P g S w0 λd=>u4 P (strip b).1 (put S f d) w0 (λe=>n2 P w0 (strip b).2 e w K):=a;exact nd.mono (λd h=>ET b _ h) j
 | .take ⟨f,some (p,q),g⟩ b,S,a=>by
  rcases a with ⟨c,k,l,m⟩ | ⟨hu,n⟩
  .exact .inl ⟨c,k,λi=>nd.mono (λd h=>ET b _ h) (l i),λi=>ET b _ (m i)⟩
  .exact .inr ⟨hu,ET b _ n⟩
 | .done,S,a=>a
 | .nil,S,a=>a
 | .alt _ _ _,S,a=>a
 | .gw _ _ _,S,a=>a
 | .wide _,S,a=>a
def aio{b n:Nat}{c cs:Array B_}{e:F_}{f:A_->Prop}(a:w.heap[b]? = some (.cells c e))(k:c.size=n)(g:cs.size=n)(h:∀i∈cs.toList,i.oneCell'=true)
  (j:∀d,dX b w d->d.heap[b]? = some (.cells cs e)->f d):CW n (.pointer (some ⟨b,0,none⟩)) (.agg cs) w f :=
 VW g (λl m=>⟨⟨_,gH a (Array.getElem?_eq_getElem AY)⟩,by rw[add_eq];simp[World.frozen?,a]⟩) h (j _ (dX.kT cs.toList w ⟨b,0,none⟩ 0) (ah2 a AY))
structure vp where
 d:Nat
 ty:TypeId
 z:Array Value
 n:Nat
 x:Nat
def vp.new(v:vp):Step:=⟨some v.d,none,.e (.new v.ty (.agg v.z))⟩
def vp.st(v:vp):Step:=⟨none,none,.e (.mF v.n (.tmp v.d) (.tmp v.x))⟩
theorem ako(v:vp)(k:Fr->A_->Prop):Fz P w0 v.st S w k=CW v.n (S v.d) (S v.x) w (λa=>Ext w0 a/\k S a):=rfl
theorem an5(v:vp)(k:Fr->A_->Prop):mm P v.st S w k=CW v.n (S v.d) (S v.x) w (λa=>k S a):=rfl
def aiR(a b:vp):e2 :=
 .alt a.new (.alt b.new (.alt a.st (.gw b.st .done .nil) .nil) .nil) (.alt b.new (.alt a.new (.alt a.st (.gw b.st .done .nil) .nil) .nil) .nil)
def ayT(S:Fr){a b:Nat}(h:a≠b)(x y:B_):cC (cC S a x) b y=cC (cC S b y) a x:=by
 funext c;unfold cC;split<;>split<;>simp_all
def ayN(a b:vp){g h:C_ B_}(q:(a.d != b.d&&a.x != a.d&&a.x != b.d&&b.x != a.d&&b.x != b.d)=true)(y:a.z.size=a.n)(z:b.z.size=b.n)(A:S a.x = .agg g.toArray)(B:S b.x = .agg h.toArray)(C:g.length=a.n)(G:h.length=b.n)
  (H:∀k∈g,k.oneCell'=true)(I:∀k∈h,k.oneCell'=true)
  (J:∀j c d,Ext w0 j->w0.heap.size<=c->w0.heap.size<=d->c≠d->j.heap[c]? = some (.cells g.toArray a.ty)->j.heap[d]? = some (.cells h.toArray b.ty) ->
   K (cC (cC S a.d (.pointer (some ⟨c,0,none⟩))) b.d (.pointer (some ⟨d,0,none⟩))) j):n2 P w0 (aiR a b) S w0 K:=by
 simp only[Bool.and_eq_true,bne_iff_ne,ne_eq] at q;obtain⟨⟨⟨⟨r,L⟩,M⟩,N⟩,O⟩:=q;have s:∀(l:Fr) (i:A_) (c d:Nat),l=cC (cC S a.d (.pointer (some ⟨c,0,none⟩))) b.d (.pointer (some ⟨d,0,none⟩))->Ext w0 i->w0.heap.size<=c->w0.heap.size<=d->c≠d ->
   i.heap[c]? = some (.cells a.z a.ty)->i.heap[d]? = some (.cells b.z b.ty)->n2 P w0 (.alt a.st (.gw b.st .done .nil) .nil) l i K:=by
  rintro l i c d rfl t m u n Q U;refine⟨?_,trivial⟩;have V:cC (cC S a.d (.pointer (some ⟨c,0,none⟩))) b.d (.pointer (some ⟨d,0,none⟩)) a.d = .pointer (some ⟨c,0,none⟩):=by simp[cC,r]
  have W:cC (cC S a.d (.pointer (some ⟨c,0,none⟩))) b.d (.pointer (some ⟨d,0,none⟩)) a.x = .agg g.toArray:=by simp[cC,L,M,A]
  have X:cC (cC S a.d (.pointer (some ⟨c,0,none⟩))) b.d (.pointer (some ⟨d,0,none⟩)) b.d = .pointer (some ⟨d,0,none⟩):=by simp[cC]
  have Y:cC (cC S a.d (.pointer (some ⟨c,0,none⟩))) b.d (.pointer (some ⟨d,0,none⟩)) b.x = .agg h.toArray:=by simp[cC,N,O,B]
  rw[ako,V,W];refine aio Q y (by simpa using C) (by simpa using H) λaf p Z=>⟨p.ext t m,?_⟩;refine⟨?_,trivial⟩;rw[an5,X,Y];refine aio (p.obj U (Ne.symm n)) z (by simpa using G) (by simpa using I) λab v ae=>?_;exact J ab c d (v.ext (p.ext t m) u) m u n (v.obj Z n) ae
 have w:∀(e f:Obj),((w0.alloc e).alloc f).heap[w0.heap.size]? = some e:=λe f=>((Ext.refl (w0.alloc e)).alloc f).obj (heap_alloc_new w0 e);have x:∀(e f:Obj),((w0.alloc e).alloc f).heap[w0.heap.size+1]? = some f:=λe f=>by
  have:=heap_alloc_new (w0.alloc e) f
  rwa[World.size_alloc] at this
 refine⟨⟨(Ext.refl _).alloc _,⟨((Ext.refl _).alloc _).alloc _,?_⟩,trivial⟩,⟨(Ext.refl _).alloc _,⟨((Ext.refl _).alloc _).alloc _,?_⟩,trivial⟩,trivial⟩
 .refine s _ _ w0.heap.size (w0.heap.size+1) ?_ (((Ext.refl _).alloc _).alloc _) (EM _) AY AY (w _ _) (x _ _);show cC (cC S a.d _) b.d (.pointer (some ⟨(w0.alloc _).heap.size,0,none⟩))=_;rw[World.size_alloc]
 .refine s _ _ (w0.heap.size+1) w0.heap.size ?_ (((Ext.refl _).alloc _).alloc _) AY (EM _) AY (x _ _) (w _ _);show cC (cC S b.d _) a.d (.pointer (some ⟨(w0.alloc _).heap.size,0,none⟩))=_;rw[World.size_alloc,ayT S (Ne.symm r)]
def AF4{Q:fI->Fr->A_->Prop}{t:e2}{v:fg}{x}(l:C_ Step)(b:Nat)(p:F_)(q:Array B_)(k g c:Nat)(r:F_)(s:Array B_)(m h:Nat)(y:strip t=(l,aiR ⟨b,p,q,k,g⟩ ⟨c,r,s,m,h⟩))(z:(b != c&&g != b&&g != c&&h != b&&h != c)=true)(A:q.size=k)(B:s.size=m)
  (C:∀a,Ext w a->sC P l S a (λn => ∃i j:C_ B_,n g = .agg i.toArray/\n h = .agg j.toArray/\i.length=k/\j.length=m/\(∀u∈i,u.oneCell'=true)/\(∀u∈j,u.oneCell'=true) /\
   ∀d e f,Ext a d->a.heap.size<=e->a.heap.size<=f->e≠f->d.heap[e]? = some (.cells i.toArray p)->d.heap[f]? = some (.cells j.toArray r) ->
    e5 P v Q (cC (cC n b (.pointer (some ⟨e,0,none⟩))) c (.pointer (some ⟨f,0,none⟩))) d ⟨⟩) ⟨⟩):e5 P (.seq (.p5 t) v) Q S w x:=by
 unfold e5 sC at *;show dN P (.p5 t) _ S w;intro a G;refine ET t S ?_;have H:=C a G;rw[y];refine Cf l S a _ _ (λn _ I=>?_) H;obtain⟨i,j,J,K,L,M,N,O,U⟩:=I;exact ayN ⟨b,p,q,k,g⟩ ⟨c,r,s,m,h⟩ z A B J K L M N O λd e f V W X Y Z ab=>U d e f V W X Y Z ab
def g2(w0 w w':A_)(p:A_->Prop):Prop := ∀a,Ext w0 a->w'.heap.size<=a.heap.size->(∀b,w.heap.size<=b->b<w'.heap.size->a.heap[b]? = w'.heap[b]?)->p a
structure azT(w0:World)(a b:vp)(S:Fr)(Cc Cd:List Value->World->Prop)(ku zo oL ld:Bool)(aI:Fr)(w:World)(pD p9:List Value)(pr a1 gW ak yf yg:Nat):Prop where
 ext:Ext w0 w
 mW:∀t,t≠a.d->t≠b.d->t≠a.x->t≠b.x->aI t=S t
 c3:ku=true->aI a.x = .agg pD.toArray/\pD.length=a.n/\(∀u∈pD,u.oneCell'=true)/\a1<=w.heap.size/\∀bw,Ext w0 bw->w.heap.size<=bw.heap.size->(∀k,pr<=k->k<a1->bw.heap[k]? = w.heap[k]?)->Cc pD bw
 bk:zo=true->aI b.x = .agg p9.toArray/\p9.length=b.n/\(∀u∈p9,u.oneCell'=true)/\ak<=w.heap.size/\∀bw,Ext w0 bw->w.heap.size<=bw.heap.size->(∀k,gW<=k->k<ak->bw.heap[k]? = w.heap[k]?)->Cd p9 bw
 cS:oL=true->aI a.d = .pointer (some ⟨yf,0,none⟩)/\w0.heap.size<=yf/\yf<w.heap.size/\w.heap[yf]? = some (.cells a.z a.ty)
 bW:ld=true->aI b.d = .pointer (some ⟨yg,0,none⟩)/\w0.heap.size<=yg/\yg<w.heap.size/\w.heap[yg]? = some (.cells b.z b.ty)
 q7:ku=true->oL=true->yf<pr\/a1<=yf
 r0:ku=true->ld=true->yg<pr\/a1<=yg
 g4:zo=true->oL=true->yf<gW\/ak<=yf
 fF:zo=true->ld=true->yg<gW\/ak<=yg
 u0:oL=true->ld=true->yf≠yg
structure azR(a b:vp):Prop where
 d12:a.d≠b.d
 d13:a.d≠a.x
 d14:a.d≠b.x
 d23:b.d≠a.x
 d24:b.d≠b.x
 d34:a.x≠b.x
end
end ba
namespace ba
open Go Go.RowKit
def Step.num(s:Step):Nat:=match s.dst with | some a=>a | none=>100000
section
variable(P:Program)(w0:World)(cJ:List Nat->Fr->World->Prop)
def Js(D:C_ Nat)(s:Step):Prop:=s.g=none/\∀a b,cJ D a b->lj P s.i a b λd c=>Ext w0 c/\cJ (s.num :: D) (put a s.dst d) c
def RunT(D:C_ Nat)(s:Step):Prop:=s.g=none/\∀a b,cJ D a b->nd P s.i a w0 λc=>cJ (s.num :: D) (put a s.dst c) b
def mf(b:C_ Nat):C_ Nat->e2->Prop
 | D,.done => ∀e∈b,e∈D
 | _,.nil=>True
 | D,.take a c=>RunT P w0 cJ D a/\mf b (a.num :: D) c
 | D,.alt a c d=>(Js P w0 cJ D a/\mf b (a.num :: D) c)/\mf b D d
 | D,.gw a c d=>(Js P w0 cJ D a/\mf b (a.num :: D) c)/\mf b D d
 | _,.wide _=>False
variable{P w0 cJ}
def mf.alt{a D:C_ Nat}{s:Step}{r m:e2}(b:Js P w0 cJ D s)(c:mf P w0 cJ a (s.num :: D) r)(d:mf P w0 cJ a D m):mf P w0 cJ a D (.alt s r m):=⟨⟨b,c⟩,d⟩
def mf.gw{a D:C_ Nat}{s:Step}{r m:e2}(b:Js P w0 cJ D s)(c:mf P w0 cJ a (s.num :: D) r)(d:mf P w0 cJ a D m):mf P w0 cJ a D (.gw s r m):=⟨⟨b,c⟩,d⟩
def mf.take{a D:C_ Nat}{s:Step}{r:e2}(b:RunT P w0 cJ D s)(c:mf P w0 cJ a (s.num :: D) r):mf P w0 cJ a D (.take s r):=⟨b,c⟩
def mf.nil{a D:C_ Nat}:mf P w0 cJ a D .nil:=trivial
def mf.done{a D:C_ Nat}(h:∀b∈a,b∈D):mf P w0 cJ a D .done:=h
variable(P w0 cJ)
theorem EI{r:C_ Nat}{K:Fr->A_->Prop}(g:∀D a b,(∀h∈r,h∈D)->cJ D a b->K a b):∀(s:e2) (D:C_ Nat) (a:Fr) (b:A_),mf P w0 cJ r D s->cJ D a b->n2 P w0 s a b K
 | .done,D,a,b,c,d=>g D a b c d
 | .nil,_,_,_,_,_=>trivial
 | .take ⟨h,t,n⟩ f,D,a,b,c,d=>by
  obtain⟨⟨k,l⟩,m⟩:=c;cases k;exact nd.mono (λi j=>EI g f _ _ b m j) (l a b d)
 | .alt ⟨h,t,n⟩ f p,D,a,b,c,d=>by
  obtain⟨⟨⟨k,l⟩,m⟩,q⟩:=c;cases k;refine⟨?_,EI g p D a b q d⟩;show lj P n a b λi e=>Ext w0 e/\n2 P w0 f (put a h i) e K;exact lj.mono (λi e j=>⟨j.1,EI g f _ _ e m j.2⟩) (l a b d)
 | .gw ⟨h,t,n⟩ f p,D,a,b,c,d=>by
  obtain⟨⟨⟨k,l⟩,m⟩,q⟩:=c;cases k;refine⟨?_,EI g p D a b q d⟩;show lk P n a b λi e=>n2 P w0 f (put a h i) e K;refine lk.of ?_;exact lj.mono (λi e j=>EI g f _ _ e m j.2) (l a b d)
 | .wide _,_,_,_,c,_=>c.elim
end
def AF5{P:D_}{w:A_}{S:Fr}{Q:fI->Fr->A_->Prop}{t:e2}{h}(l:C_ Step)(c:e2)(i:strip t=(l,c))
  (j:∀a,Ext w a->sC P l S a (λd => ∃b e,mf P a b e [] c/\b [] d a/\∀D f g,(∀k∈e,k∈D)->b D f g->Q .normal f g) ⟨⟩):e5 P (.p5 t) Q S w h:=by
 unfold e5 sC at *;show dN P (.p5 t) _ S w;intro a m;refine ET t S ?_;have n:=j a m;rw[i];refine Cf l S a _ _ (λd _ p=>?_) n;obtain⟨b,e,q,r,s⟩:=p;exact EI P a b s c [] d a q r
end ba
namespace ba
open Go Go.RowKit
def _y{P:D_}{w1 w:A_}{S:Fr}{t:e2}{K:Fr->A_->Prop}{a}(h:∃C:A_->Prop,C w/\eN P C t S w K):lI P w1 (.wide t) S w K a:=by
 unfold lI;exact h
section
variable{P:Program}{C:World->Prop}{S:Fr}{w:World}{K:Fr->World->Prop}
def eN.ku{k d x:Nat}{r:e2}{a:Addr}(b:S x = .pointer (some a))(h:eN P C r (cC S d (.pointer (some (a.add k)))) w K):eN P C (.take ⟨some d,none,.p (.ku k (.tmp x))⟩ r) S w K:=⟨a,b,h⟩
def eN.cp{d x:Nat}{r:e2}{a:Addr}{v:B_}(b:S x = .pointer (some a))(c:∀w,C w->w.cell? a=some v)(h:eN P C r (cC S d v) w K):eN P C (.take ⟨some d,none,.r (.cp (.tmp x))⟩ r) S w K :=
 ⟨v,λw e=>⟨a,v,b,c w e,rfl⟩,h⟩
def eN.C3{s:Step}{r:e2}(h:ng P C s S w λS w=>eN P C r S w K):eN P C (.alt s r .nil) S w K:=⟨h,trivial⟩
def eN.ia{s:Step}{r:e2}(h:mm P s S w λS w=>eN P C r S w K):eN P C (.gw s r .nil) S w K:=⟨h,trivial⟩
end
theorem ng.e{P:D_}{C:A_->Prop}{i:tJ}{d:Nat}{S:Fr}{w:A_}{k:Fr->A_->Prop}(h:oR P i S w λb a=>C a/\k (put S (some d) b) a):ng P C ⟨some d,none,.e i⟩ S w k:=h
theorem mm.e{P:D_}{i:tJ}{d:Nat}{S:Fr}{w:A_}{k:Fr->A_->Prop}(h:oR P i S w λa b=>k (put S (some d) a) b):mm P ⟨some d,none,.e i⟩ S w k:=h
def akv{P:D_}{a e:F_}{sz b:Nat}{s x:B_}{w:A_}{K:B_->A_->Prop}(h:∀c,lJ P a e sz b s x w K c):Au P a e sz b s x w K:=by
 have:=h ⟨⟩
 unfold lJ at this;exact this
def VY{x v:B_}{w:A_}{K:A_->Prop}(h:∀a,vo x v w K a):AJ x v w K:=by
 have:=h ⟨⟩
 unfold vo at this;exact this
abbrev cA(s:H_ Addr×Nat×Nat):B_:=.slice s.1 s.2.1 s.2.2
def fL{β:Type}(f:Nat->β)(i:Nat)(v:β):Nat->β:=λa=>if a=i then v else f a
def OC{β:Type}(f:Nat->β)(i:Nat)(v:β):fL f i v i=v:=by simp[fL]
def Ii{β:Type}(f:Nat->β){i j:Nat}(v:β)(h:j≠i):fL f i v j=f j:=by simp[fL,h]
structure jH{α:Type}(enc:α->List Value)(e:TypeId)(sz base:Nat)(w:World)(n:Nat)(vs:Nat->Option Addr×Nat×Nat)(xs:Nat->List α):Prop where
 own:∀i,i<n->aT enc e sz base w (cA (vs i)) (xs i)
 apart:∀i j k,i<n->j<n->i≠j->(cA (vs i)).ownBlock=some k->(cA (vs j)).ownBlock≠some k
section
variable{α:Type}{enc:α->List Value}{e:TypeId}{sz base n:Nat}{w w':World}{vs:Nat->Option Addr×Nat×Nat}{xs:Nat->List α}
def jH.mod{A:Nat->Prop}(h:jH enc e sz base w n vs xs)(m:Mod A w w')(d:∀a b,a<n->(cA (vs a)).ownBlock=some b->¬A b):jH enc e sz base w' n vs xs :=
 ⟨λa c=>(h.own a c).mod m (d a · c),h.apart⟩
theorem jH.ext(h:jH enc e sz base w n vs xs)(m:Ext w w'):jH enc e sz base w' n vs xs:=h.mod (A:=λ_=>False) m.mod λ_ _ _ _ a=>a
def jH.not(h:jH enc e sz base w n vs xs){k:Nat}{c:Array B_}{t:F_}(d:w.heap[k]? = some (.cells c t))(f:t≠e):∀b,b<n->(cA (vs b)).ownBlock≠some k:=λb g i=>by
 obtain⟨j,a⟩:=(h.own b g).b0 k i;rw[d] at a;injection a with a;injection a with _ a;exact f a
def jH.lt(h:jH enc e sz base w n vs xs):∀b a,b<n->(cA (vs b)).ownBlock=some a->base<=a/\a<w.heap.size:=λb a c d=>(h.own b c).lt a d
def jH.app{P:D_}{t:B_->A_->Prop}{G:F_}{b:Nat}{a:Addr}{c:Nat}{y:α}(i:Nat)(q:i<n)(h:jH enc e sz base w n vs xs)(H:∀I,(enc I).length=sz)(J:fy w a (enc y))(K:∀y,∀L∈enc y,L.oneCell'=true)
  (M:((xs i).length+1)*b<=140737488355328)(N:(xs i).length+1<=maxLen)(O:base<=w.heap.size)
  (g:∀p w',jH enc e sz base w' n (fL vs i p) (fL xs i (xs i++[y]))->w.grownBy w' (cA (vs i)).ownBlock->p.2.1=(xs i).length+1->t (cA p) w'):Au P G e sz b (cA (vs i)) (.slice (some a) 1 c) w t:=by
 refine akv λV=>_I (ys:=[y]) (h.own i q) H (by simpa using J) rfl K M N O λp w' u v Q=>?_;obtain⟨x,z,rfl,_⟩:=u.form;refine g (x,(xs i++[y]).length,z) w' ⟨λk m=>?_,λk r d m A s f=>?_⟩ v Ah
 .by_cases j:k=i
  .subst j;rw[OC,OC];exact u
  .rw[Ii _ _ j,Ii _ _ j];exact(h.own k m).mod (A:=λd=>(cA (vs i)).ownBlock=some d) (Mod.grown v λd g=>g) λd g a=>h.apart k i d m q j g a
 .have key:∀l,l<n->l≠i->∀d,(cA (vs l)).ownBlock=some d->(Value.slice x (xs i++[y]).length z).ownBlock≠some d:=λl B S d g f=>by
   rcases Q with e | e
   .rw[e] at f;exact h.apart l i d B q S g f
   .rw[e] at f;injection f with f;have:=(h.lt l d B g).2;omega
  by_cases j:k=i
  .subst j;rw[OC] at f;rw[Ii _ _ (Ne.symm s)];exact λU=>key r A (Ne.symm s) d U f
  .rw[Ii _ _ j] at f;by_cases C:r=i
   .subst C;rw[OC];exact key k m j d f
   .rw[Ii _ _ C];exact h.apart k r d m A s f
end
end ba
namespace ba
open Go
def wG:H_ TypeInfo->Nat | some a=>a.size | none=>0
def QC:H_ TypeInfo->Nat | some a=>a.bytes | none=>0
def aju:H_ B_->B_ | some a=>a | none=>undef
def IX:H_ TypeInfo->B_ | some a=>aju a.zero | none=>undef
def QT:B_->C_ B_ | .agg cs=>cs.toList | v=>[v]
def Mp:H_ TypeDesc->Bool | some (.struct _)=>true | some (.array _ _)=>true | _=>false
def w2{α:Type}(d:α):C_ α->Nat->α
 | [],_=>d
 | a :: _,0=>a
 | _ :: b,c+1=>w2 d b c
def af5:Field:={ name := "",type:=0,offset:=0,embedded:=false,tag := "",pkgPath := "",byteOffset:=0 }
def KQ:H_ TypeDesc->C_ Field | some (.struct a)=>a.toList | _=>[]
def Oo(d:H_ TypeDesc)(f:Nat):Nat:=(w2 af5 (KQ d) f).offset
def RF(d:H_ TypeDesc)(f:Nat):F_:=(w2 af5 (KQ d) f).type
def r5:H_ TypeDesc->F_ | some (.slice a)=>a | _=>0
def aaj(P:D_)(l:C_ G_)(c:C_ F_):Callee->ll
 | .value (.func d)=>.c (.fn d l)
 | .value (.tmp a)=>.c (.val (.tmp a) l)
 | .invoke a e=>.c (.inv a e l)
 | .builtin .append=>(match l,c with | [f,a],b :: _=>.e (.app b (r5 (P.underlying b)) (wG P.types[r5 (P.underlying b)]?) (QC P.types[r5 (P.underlying b)]?) f a) | _,_=>.p (.px (.tmp 0)))
 | _=>(match l with | [a]=>.p (.Ef a) | _=>.p (.px (.tmp 0)))
def U3(P:D_):C_ Field->C_ (Nat×Nat)
 | []=>[]
 | a :: b=>(a.offset,wG P.types[a.type]?) :: U3 P b
def Qn:C_ B_->C_ B_->C_ B_
 | [],a=>a
 | b :: c,a=>b :: Qn c a
def VD:Nat->C_ B_->C_ B_
 | 0,_=>[]
 | b+1,a=>Qn a (VD b a)
def TW(P:D_):Op->ll
 | .move b=>.p (.px b)
 | .assign b=>.p (.px b)
 | .pick d e f=>.p (.pick d e f)
 | .binOp op a b l _=>.p (.bin op a b l)
 | .unOp op _ b=>.p (.un op b)
 | .extract b g=>.p (.ext b g)
 | .nilCheck b=>.p (.sx b)
 | .makeFunc (.func c) e f=>.p (.z1 c e.toList f.toList)
 | .fieldAddr m b c=>.p (.ku (Oo (P.underlying m) c) b)
 | .indexAddr a b g=>.p (.pn (wG P.types[r5 (P.underlying a)]?) b g)
 | .slice a b h n p=>.p (.kB (wG P.types[r5 (P.underlying a)]?) b h n p)
 | .field a b c=>bif Mp (P.underlying (RF (P.underlying a) c)) then .p (.Gg (Oo (P.underlying a) c) (wG P.types[RF (P.underlying a) c]?) b) else .p (.r7 (Oo (P.underlying a) c) b)
 | .build a i=>.p (.hW (QT (IX P.types[a]?)) (U3 P (KQ (P.underlying a))) i.toList)
 | .buildSlice a j i=>.e (.hk (r5 (P.underlying a)) j (wG P.types[r5 (P.underlying a)]?) (VD j (QT (IX P.types[r5 (P.underlying a)]?))) i.toList)
 | .makeSlice a h d=>.e (.z4 (r5 (P.underlying a)) (wG P.types[r5 (P.underlying a)]?) (QC P.types[r5 (P.underlying a)]?) (IX P.types[r5 (P.underlying a)]?) h d)
 | .makeInterface a b=>.p (.Em a b)
 | .load a b=>bif Mp (P.underlying a) then .r (.lb (wG P.types[a]?) b) else .r (.cp b)
 | .store a b k=>bif Mp (P.underlying a) then .e (.mF (wG P.types[a]?) b k) else .e (.st b k)
 | .box a b=>.e (.box a b)
 | .alloc a=>.e (.new a (IX P.types[a]?))
 | .call d=>aaj P d.args.toList d.argTypes.toList d.callee
 | _=>.p (.px (.tmp 0))
def F3:C_ Oper->C_ (H_ Nat)
 | []=>[]
 | a :: b=>a.dst :: F3 b
def ab1(b:Bool):H_ Nat->H_ (Nat×Bool)
 | none=>none
 | some a=>some (a,b)
def RG(ds:C_ (H_ Nat)):H_ (Nat×Bool)->H_ (Nat×Bool)
 | none=>none
 | some (a,b)=>ab1 b (w2 none ds a)
def OM(P:D_)(ds:C_ (H_ Nat)):C_ Oper->C_ Step
 | []=>[]
 | a :: b=>⟨a.dst,RG ds a.guard,TW P a.op⟩ :: OM P ds b
inductive AI where
 | d
 | n
 | t (k:Nat) (r:AI)
 | q (k n:Nat) (r:AI)
 | a (k:Nat) (r m:AI)
 | f (k:Nat) (r m:AI)
 | w (r:AI)
def H4:Oper:={ dst:=none,op:=.move (.tmp 0),type:=0,pos := "",after:=#[],guard:=none }
def mF(P:D_)(ds:C_ (H_ Nat))(a:Oper):Step:=⟨a.dst,RG ds a.guard,TW P a.op⟩
def Wb(P:D_)(ds:C_ (H_ Nat))(b:C_ Oper):Nat->Nat->e2->e2
 | _,0,a=>a
 | c,d+1,a=>.take (mF P ds (w2 H4 b c)) (Wb P ds b (c+1) d a)
def yo(P:D_)(ds:C_ (H_ Nat))(a:C_ Oper):AI->e2
 | .d=>.done
 | .n=>.nil
 | .t c b=>.take (mF P ds (w2 H4 a c)) (yo P ds a b)
 | .q c e b=>Wb P ds a c e (yo P ds a b)
 | .a c b d=>.alt (mF P ds (w2 H4 a c)) (yo P ds a b) (yo P ds a d)
 | .f c b d=>.gw (mF P ds (w2 H4 a c)) (yo P ds a b) (yo P ds a d)
 | .w b=>.wide (yo P ds a b)
inductive Jr where
 | c (x:fg)
 | s (x:AI)
 | w
def Um(a:Nat):C_ (Nat×Jr)->H_ Jr
 | []=>none
 | (b,c) :: d=>if b=a then some c else Um a d
def ahs(P:D_)(a:C_ Oper):H_ Jr->fg
 | some (.c b)=>b
 | some (.s b)=>.p5 (yo P (F3 a) a b)
 | some .w=>.r4 (OM P (F3 a) a)
 | none=>.cN (OM P (F3 a) a)
def bh(P:D_)(b:C_ (Nat×Jr)):Code->fg
 | .region id ops _=>ahs P ops.toList (Um id b)
 | .seq c a=>.seq (bh P b c) (bh P b a)
 | .cond d c a=>.cond d (bh P b c) (bh P b a)
 | .block id a=>.b0 id (bh P b a)
 | .loop a=>.loop (bh P b a)
 | .exit id=>.exit id
 | .ret=>.ret
 | .scope a=>bh P b a
 | _=>.skip
def bm(a:Func):Code:=match a.body with | some b=>b | none=>.skip
theorem akM{α:Type}(a b:α):(bif true then a else b)=a:=rfl
theorem akL{α:Type}(a b:α):(bif false then a else b)=b:=rfl
section
variable{P:Program}{w:World}
def AF6{f:E_}{a:me}{c:fg}(b:P.follows .mixedOrders=true)(d:k2 P f=some a)(e:a.code=c){args:C_ B_}{R:B_->A_->Prop}(g:args.length<=a.n)(h:e5 P c (uk a.res R ⟨⟩) (jo args 0) w ⟨⟩):a2 P f args.toArray w R:=by
 subst e;exact _Q b d g h
def _q{f:E_}{a:me}{c:fg}(d:P.follows .mixedOrders=true)(g:k2 P f=some a)(e:a.code=c){args:C_ B_}{R:B_->A_->Prop}{b:C_ PanicEntry->A_->Prop}(i:args.length<=a.n)(h:e5 P c (Dl a.res R b ⟨⟩) (jo args 0) w ⟨⟩):rX P f args.toArray w R b:=by
 subst e;exact AB5 d g i h
end
end ba
namespace Go.Proofs.R
open Go ba Go.Proofs
abbrev T.ac:F_:=0
abbrev T.a:F_:=3
abbrev T.oo:F_:=4
abbrev T.C0:F_:=5
abbrev T.l:F_:=9
abbrev T.vr:F_:=20
abbrev T.sV:F_:=22
abbrev T.tU:F_:=23
abbrev T.sW:F_:=24
abbrev T.am:F_:=25
abbrev T.ZN:F_:=26
abbrev T.e:F_:=28
abbrev T.x:F_:=31
abbrev T.d:F_:=34
abbrev T.b:F_:=36
abbrev T.u:F_:=38
abbrev T.n:F_:=49
abbrev T.g:F_:=51
abbrev T.ZO:F_:=55
abbrev T.sT:F_:=56
abbrev T.ap:F_:=59
abbrev T.v:F_:=67
abbrev T.Qq:F_:=70
abbrev T.af:F_:=72
abbrev T.nJ:F_:=73
abbrev T.oZ:F_:=74
abbrev T.q:F_:=76
abbrev T.sU:F_:=78
abbrev T.as:F_:=82
abbrev T.tW:F_:=84
abbrev T.h:F_:=87
abbrev T.c:F_:=97
abbrev T.i:F_:=99
abbrev T.qm:F_:=102
abbrev T.j:F_:=125
abbrev T.r:F_:=127
abbrev T.y:F_:=129
abbrev T.uQ:F_:=141
abbrev T.s:F_:=154
abbrev T.w4:F_:=159
abbrev T.vu:F_:=162
abbrev T.t:F_:=175
abbrev T.j4:F_:=181
abbrev T.g4:F_:=182
abbrev T.fF:F_:=183
abbrev T.z:F_:=185
abbrev T.p:F_:=189
abbrev T.qn:F_:=197
abbrev T.w:F_:=207
abbrev T.k:F_:=211
abbrev T.q7:F_:=221
abbrev T.f:F_:=230
abbrev T.C6:F_:=271
abbrev T.kZ:F_:=272
abbrev T.r0:F_:=275
abbrev T.nK:F_:=279
abbrev T.vv:F_:=286
abbrev T.tY:F_:=305
abbrev T.y1:F_:=308
abbrev T.fi:F_:=313
abbrev T.c3:F_:=329
abbrev T.cS:F_:=330
abbrev T.eQ:F_:=331
abbrev T.fK:F_:=332
abbrev T.vq:F_:=333
abbrev F.HY:E_:=6
abbrev F.HX:E_:=7
abbrev F.N6:E_:=10
abbrev F.Ej:E_:=11
abbrev F.af:E_:=12
abbrev F.N7:E_:=15
abbrev F.HR:E_:=16
abbrev F.i:E_:=17
abbrev F.c:E_:=19
abbrev F.j:E_:=20
abbrev F.f:E_:=22
abbrev F.NH:E_:=24
abbrev F.NT:E_:=25
abbrev F.NV:E_:=26
abbrev F.MO:E_:=27
abbrev F.HT:E_:=28
abbrev F.JJ:E_:=29
abbrev F.Nq:E_:=32
abbrev F.Ei:E_:=33
abbrev F.NF:E_:=34
abbrev F.uS:E_:=35
abbrev F.bW:E_:=36
abbrev F.ag:E_:=37
abbrev F.Nn:E_:=39
abbrev F.cL:E_:=40
abbrev F.et:E_:=41
abbrev F.k0:E_:=44
abbrev F.mP:E_:=45
abbrev F.NX:E_:=46
abbrev F.jl:E_:=48
abbrev F.Ns:E_:=50
abbrev F.NG:E_:=51
abbrev F.NB:E_:=52
abbrev F.NU:E_:=53
abbrev F.HS:E_:=54
abbrev F.NY:E_:=55
abbrev F.HN:E_:=56
abbrev F.N5:E_:=57
abbrev F.gr:E_:=58
abbrev F.oZ:E_:=59
abbrev F.ud:E_:=60
abbrev F.J:E_:=61
abbrev F.as:E_:=62
abbrev F.ci:E_:=63
abbrev F.Nv:E_:=67
abbrev F.Nx:E_:=68
abbrev F.Nt:E_:=69
abbrev F.Ny:E_:=70
abbrev F.NS:E_:=71
abbrev F.M9:E_:=72
abbrev F.qp:E_:=73
abbrev F.xb:E_:=74
abbrev F.hc:E_:=75
abbrev F.cs:E_:=76
abbrev F.k:E_:=77
abbrev F.w4:E_:=78
abbrev F.Nz:E_:=79
abbrev F.Np:E_:=81
abbrev F.ei:E_:=82
abbrev F.q:E_:=83
abbrev F.J7:E_:=84
abbrev F.dy:E_:=85
abbrev F.dO:E_:=86
abbrev F.uh:E_:=87
abbrev F.bG:E_:=89
abbrev F.bg:E_:=90
abbrev F.bj:E_:=91
abbrev F.bA:E_:=92
abbrev F.bO:E_:=95
abbrev F.NK:E_:=97
abbrev F.NL:E_:=98
abbrev F.NC:E_:=99
abbrev F.NA:E_:=100
abbrev F.NR:E_:=101
abbrev F.N3:E_:=102
abbrev F.Nh:E_:=103
abbrev F.NW:E_:=104
abbrev F.Ng:E_:=105
abbrev F.N1:E_:=106
abbrev F.N0:E_:=107
abbrev F.MP:E_:=108
abbrev F.NI:E_:=109
abbrev F.MU:E_:=110
abbrev F.Kb:E_:=111
abbrev F.AZ:E_:=112
abbrev F.dl:E_:=113
abbrev F.Nb:E_:=115
abbrev F.Nc:E_:=116
abbrev F.Nw:E_:=117
abbrev F.Nu:E_:=118
abbrev F.Na:E_:=119
abbrev F.Nm:E_:=120
abbrev F.No:E_:=121
abbrev F.Nr:E_:=122
abbrev F.MQ:E_:=123
abbrev F.MV:E_:=124
abbrev F.HP:E_:=125
abbrev F.kZ:E_:=127
abbrev F.nK:E_:=128
abbrev F.tY:E_:=129
abbrev F.Kc:E_:=130
abbrev F.Kd:E_:=131
abbrev F.Ke:E_:=132
abbrev F.y1:E_:=133
abbrev F.fi:E_:=134
abbrev F.M8:E_:=135
abbrev F.ND:E_:=136
abbrev F.d2:E_:=138
abbrev F.d3:E_:=139
abbrev F.d4:E_:=140
abbrev F.aw:E_:=141
abbrev F.d5:E_:=142
abbrev F.NZ:E_:=143
abbrev F.N4:E_:=144
abbrev F.NJ:E_:=145
abbrev F.MW:E_:=146
abbrev F.M7:E_:=147
abbrev F.M1:E_:=148
abbrev F.M0:E_:=149
abbrev F.Ki:E_:=150
abbrev F.Kj:E_:=151
abbrev F.Kk:E_:=152
abbrev F.Kl:E_:=153
abbrev F.Km:E_:=154
abbrev F.Nd:E_:=156
abbrev F.HQ:E_:=157
abbrev F.Nf:E_:=158
abbrev F.MR:E_:=159
abbrev F.M3:E_:=160
abbrev F.M4:E_:=161
abbrev F.M6:E_:=162
abbrev F.Kr:E_:=163
abbrev F.a:E_:=164
abbrev F.Ks:E_:=165
abbrev F.g:E_:=166
abbrev F.eq:E_:=167
abbrev F.s5:E_:=168
abbrev F.es:E_:=169
abbrev F.qs:E_:=170
abbrev F.Kx:E_:=171
abbrev F.br:E_:=172
abbrev F.r:E_:=173
abbrev F.cS:E_:=174
abbrev F.aH:E_:=175
abbrev F.s:E_:=176
abbrev F.Ky:E_:=177
abbrev F.t:E_:=178
abbrev F.eQ:E_:=179
abbrev F.fK:E_:=180
abbrev F.ex:E_:=182
abbrev F.vq:E_:=183
abbrev F.NO:E_:=184
abbrev F.N2:E_:=185
abbrev F.NN:E_:=186
abbrev F.MZ:E_:=187
abbrev F.MX:E_:=188
abbrev F.ML:E_:=189
abbrev F.MJ:E_:=190
abbrev F.MK:E_:=191
abbrev F.cz:E_:=192
abbrev F.dW:E_:=193
abbrev F.fc:E_:=194
abbrev F.oo:E_:=195
abbrev F.ks:E_:=196
abbrev F.ku:E_:=197
abbrev F.l:E_:=198
abbrev F.zo:E_:=199
abbrev F.Nj:E_:=200
abbrev F.Ni:E_:=201
abbrev F.Eh:E_:=202
abbrev F.BZ:E_:=203
abbrev F.MS:E_:=204
abbrev F.MY:E_:=205
abbrev F.HO:E_:=206
abbrev F.MT:E_:=207
abbrev F.sT:E_:=208
abbrev F.sU:E_:=209
abbrev F.g4:E_:=210
abbrev F.v:E_:=211
abbrev F.w:E_:=212
abbrev F.KA:E_:=213
abbrev F.KB:E_:=214
abbrev F.fF:E_:=215
abbrev F.vv:E_:=216
abbrev F.KI:E_:=217
abbrev F.xj:E_:=218
abbrev F.KJ:E_:=219
abbrev F.KK:E_:=220
abbrev F.hm:E_:=221
abbrev F.C6:E_:=222
abbrev F.fn:E_:=223
abbrev F.be:E_:=224
abbrev F.FI:E_:=225
abbrev F.x:E_:=226
abbrev F.KL:E_:=227
abbrev F.KM:E_:=228
abbrev F.KO:E_:=229
abbrev F.mW:E_:=230
abbrev F.fV:E_:=231
abbrev F.y:E_:=232
abbrev F.KR:E_:=233
abbrev F.KS:E_:=234
abbrev F.KT:E_:=235
abbrev F.KU:E_:=238
abbrev F.NM:E_:=239
abbrev F.NP:E_:=240
abbrev F.NQ:E_:=241
abbrev F.MM:E_:=242
abbrev F.f1:E_:=243
abbrev F.f2:E_:=244
abbrev F.f3:E_:=245
abbrev F.f4:E_:=246
abbrev F.f5:E_:=247
abbrev F.f6:E_:=248
abbrev F.Nk:E_:=249
abbrev F.Nl:E_:=250
abbrev F.M5:E_:=251
abbrev F.az:E_:=252
abbrev F.FJ:E_:=253
abbrev F.KV:E_:=254
abbrev F.KW:E_:=255
abbrev F.gc:E_:=256
abbrev F.KX:E_:=257
abbrev F.he:E_:=258
abbrev F.ar:E_:=259
abbrev F.au:E_:=260
abbrev F.cc:E_:=261
abbrev F.ge:E_:=262
abbrev F.hJ:E_:=263
abbrev F.KY:E_:=264
abbrev F.KZ:E_:=265
abbrev F.z:E_:=266
abbrev F.K0:E_:=267
abbrev F.K1:E_:=268
abbrev F.Gk:E_:=269
abbrev F.MN:E_:=270
abbrev F.K2:E_:=271
abbrev F.vG:E_:=272
abbrev F.go:E_:=273
abbrev F.ab:E_:=274
abbrev F.K4:E_:=275
abbrev F.K5:E_:=276
abbrev F.FK:E_:=277
abbrev F.bi:E_:=278
abbrev F.K6:E_:=279
abbrev F.av:E_:=280
abbrev F.q7:E_:=281
abbrev F.gs:E_:=282
abbrev F.r0:E_:=283
abbrev F.ac:E_:=284
abbrev F.sV:E_:=285
abbrev F.d:E_:=286
abbrev F.tU:E_:=287
abbrev F.sW:E_:=288
abbrev F.nJ:E_:=289
abbrev F.qm:E_:=290
abbrev F.j4:E_:=291
abbrev F.qn:E_:=292
abbrev F.gt:E_:=293
abbrev F.FL:E_:=294
abbrev F.K7:E_:=295
abbrev F.K8:E_:=296
abbrev F.K9:E_:=297
abbrev F.La:E_:=298
abbrev F.Lb:E_:=299
abbrev F.FM:E_:=300
abbrev F.FN:E_:=301
abbrev F.h:E_:=302
abbrev F.Lc:E_:=303
abbrev F.s6:E_:=304
abbrev F.aS:E_:=305
abbrev F.a8:E_:=306
abbrev F.bB:E_:=307
abbrev F.FO:E_:=325
abbrev F.bN:E_:=326
abbrev F.FP:E_:=327
abbrev F.FR:E_:=328
abbrev F.FT:E_:=329
abbrev F.c1:E_:=330
abbrev F.fo:E_:=331
abbrev F.ix:E_:=332
abbrev F.mX:E_:=333
abbrev F.o7:E_:=334
abbrev F.a1:E_:=335
abbrev F.tW:E_:=336
abbrev F.FU:E_:=337
abbrev F.FV:E_:=338
abbrev F.ak:E_:=339
abbrev G.atI:Nat:=0
def _root_.Cl{A:Prop}(h:A:=by kernel_rfl):A:=h
def kv:Tryz.prog.follows .mixedOrders=true:=Cl
def vh{f:E_}{a:me}{args:C_ B_}{R:B_->A_->Prop}{w:A_}(b:k2 Tryz.prog f=some a)(h:e5 Tryz.prog a.code (uk a.res R ⟨⟩) (jo args 0) w ⟨⟩)(c:args.length<=a.n:=by exact Nat.le_of_ble_eq_true rfl):a2 Tryz.prog f args.toArray w R:=_Q kv b c h
def CZ{c d:fg}(h:∀a:fg->Prop,a d->a c:=by
 intro a b
 conv=>arg 1;whnf
 try simp only[bh,ahs,OM,TW,aaj,RG,ab1,F3,Um,mF,yo,Wb,H4,wG,QC,IX,aju,QT,Mp,w2,KQ,Oo,RF,r5,U3,Qn,VD,akM,akL,Tryz.underlying3,Tryz.underlying4,Tryz.underlying9,Tryz.underlying22,Tryz.underlying23,Tryz.underlying24,Tryz.underlying25,Tryz.underlying26,Tryz.underlying28,Tryz.underlying31,Tryz.underlying34,Tryz.underlying36,Tryz.underlying38,Tryz.underlying46,Tryz.underlying49,Tryz.underlying51,Tryz.underlying56,Tryz.underlying59,Tryz.underlying61,Tryz.underlying67,Tryz.underlying70,Tryz.underlying72,Tryz.underlying73,Tryz.underlying74,Tryz.underlying76,Tryz.underlying78,Tryz.underlying81,Tryz.underlying82,Tryz.underlying84,Tryz.underlying87,Tryz.underlying89,Tryz.underlying90,Tryz.underlying92,Tryz.underlying97,Tryz.underlying99,Tryz.underlying125,Tryz.underlying127,Tryz.underlying129,Tryz.underlying141,Tryz.underlying154,Tryz.underlying159,Tryz.underlying162,Tryz.underlying169,Tryz.underlying175,Tryz.underlying181,Tryz.underlying185,Tryz.underlying189,Tryz.underlying197,Tryz.underlying207,Tryz.underlying211,Tryz.underlying221,Tryz.underlying228,Tryz.underlying230,Tryz.underlying239,Tryz.underlying245,Tryz.underlying246,Tryz.underlying271,Tryz.underlying272,Tryz.underlying273,Tryz.underlying275,Tryz.underlying279,Tryz.underlying286,Tryz.underlying305,Tryz.underlying308,Tryz.underlying310,Tryz.underlying313,Tryz.underlying326,Tryz.underlying329,Tryz.underlying330,Tryz.underlying331,Tryz.underlying332,Tryz.underlying333,Tryz.type0,Tryz.type3,Tryz.type4,Tryz.type9,Tryz.type22,Tryz.type23,Tryz.type24,Tryz.type25,Tryz.type26,Tryz.type28,Tryz.type31,Tryz.type34,Tryz.type36,Tryz.type38,Tryz.type49,Tryz.type51,Tryz.type56,Tryz.type59,Tryz.type61,Tryz.type67,Tryz.type70,Tryz.type72,Tryz.type73,Tryz.type74,Tryz.type76,Tryz.type78,Tryz.type81,Tryz.type82,Tryz.type84,Tryz.type87,Tryz.type89,Tryz.type90,Tryz.type92,Tryz.type97,Tryz.type99,Tryz.type125,Tryz.type127,Tryz.type129,Tryz.type141,Tryz.type154,Tryz.type159,Tryz.type162,Tryz.type175,Tryz.type181,Tryz.type185,Tryz.type189,Tryz.type197,Tryz.type207,Tryz.type211,Tryz.type221,Tryz.type230,Tryz.type239,Tryz.type245,Tryz.type246,Tryz.type271,Tryz.type272,Tryz.type273,Tryz.type275,Tryz.type279,Tryz.type286,Tryz.type305,Tryz.type308,Tryz.type313,Tryz.type326,Tryz.type329,Tryz.type330,Tryz.type331,Tryz.type332,Tryz.type333,Tryz.t0,Tryz.t3,Tryz.t4,Tryz.t9,Tryz.t22,Tryz.t23,Tryz.t24,Tryz.t25,Tryz.t26,Tryz.t28,Tryz.t31,Tryz.t34,Tryz.t36,Tryz.t38,Tryz.t49,Tryz.t51,Tryz.t56,Tryz.t59,Tryz.t61,Tryz.t67,Tryz.t70,Tryz.t72,Tryz.t73,Tryz.t74,Tryz.t76,Tryz.t78,Tryz.t81,Tryz.t82,Tryz.t84,Tryz.t87,Tryz.t89,Tryz.t90,Tryz.t92,Tryz.t97,Tryz.t99,Tryz.t125,Tryz.t127,Tryz.t129,Tryz.t141,Tryz.t154,Tryz.t159,Tryz.t162,Tryz.t175,Tryz.t181,Tryz.t185,Tryz.t189,Tryz.t197,Tryz.t207,Tryz.t211,Tryz.t221,Tryz.t230,Tryz.t239,Tryz.t245,Tryz.t246,Tryz.t271,Tryz.t272,Tryz.t273,Tryz.t275,Tryz.t279,Tryz.t286,Tryz.t305,Tryz.t308,Tryz.t313,Tryz.t326,Tryz.t329,Tryz.t330,Tryz.t331,Tryz.t332,Tryz.t333,Nat.reduceAdd,Nat.reduceEqDiff,reduceIte]
 try dsimp only[aN,bP,hV,ck,na,c6,fv,hE,cO,aM,dm,fs,dD,gQ,ys,gd,dg,hy,yB,gR,mc,qb,n9,b2,ir,m9,sK,E2,As,qa,n8,n7,E3,At,nC,List.map_cons,List.map_nil]
 exact b):c=d:=h (· = d) rfl
def bn{f:E_}{n:Nat}{r:C_ nG}{c d:fg}{args:C_ B_}{R:B_->A_->Prop}{w:A_}(a:k2 Tryz.prog f=some ⟨n,r,c⟩)(h:e5 Tryz.prog d (uk r R ⟨⟩) (jo args 0) w ⟨⟩)(e:c=d:=by exact CZ)(b:args.length<=n:=by exact Nat.le_of_ble_eq_true rfl):a2 Tryz.prog f args.toArray w R:=_Q kv (a.trans (congrArg (λc=>some (⟨n,r,c⟩:me)) e)) b h
abbrev bc(f:E_)(c:me):Prop:=k2 Tryz.prog f=some c
def bd{f:E_}{c:me}(h:k2 Tryz.prog f=some c:=by kernel_rfl):bc f c:=h
noncomputable abbrev zA_:=λa b=>bh Tryz.prog a (bm b)
def E.HY:bc F.HY ⟨139,[.tmp 6],zA_ [(10,.s (.q 0 11 (.a 11 (.f 12 .d .n) .n))),(14,.s (.q 0 11 (.f 11 (.f 12 (.q 13 2 .d) .n) .n))),(20,.s (.q 0 9 (.f 9 (.f 10 (.f 11 (.t 12 .d) .n) .n) .n))),(21,.s (.q 0 2 (.q 4 2 (.a 2 (.t 3 (.q 6 5 (.q 12 3 (.a 11 (.f 15 (.f 16 (.q 17 2 (.f 19 (.q 20 2 .d) .n)) .n) .n) .n)))) .n))))] Tryz.f6⟩:=bd
def E.HX:bc F.HX ⟨81,[.tmp 6],zA_ [(4,.s (.q 0 3 (.a 3 (.f 4 (.q 5 5 .d) .n) .n)))] Tryz.f7⟩:=bd
def E.N6:bc F.N6 ⟨81,[.tmp 2],zA_ [] Tryz.f10⟩:=bd
def E.Ej:bc F.Ej ⟨55,[.tmp 0],zA_ [(2,.c (.ye [(fv 12 (.fn F.uS []),[]),(c6 13 (.hk T.a 2 1 [dg,dg] [(0,(bP 1)),(1,(bP 0))]),[]),(fv 14 (.fn F.f [(aN 12),(aN 13)]),[0,1,0]),(c6 15 (.hk T.a 2 1 [dg,dg] [(0,(bP 0)),(1,(bP 1))]),[]),(fv 16 (.fn F.c [(aN 14),(aN 15)]),[2,3,2]),(aM 17 16,[4,4]),(cO 17 true (fv 18 (.fn F.uS [])),[5,5]),(cO 17 true (c6 19 (.hk T.a 2 1 [dg,dg] [(0,(bP 0)),(1,(bP 1))])),[5]),(cO 17 true (fv 20 (.fn F.f [(aN 18),(aN 19)])),[6,7,6,5]),(cO 17 true (c6 21 (.hk T.a 2 1 [dg,dg] [(0,(bP 0)),(1,(bP 1))])),[5]),(cO 17 true (fv 22 (.fn F.c [(aN 20),(aN 21)])),[8,9,8,5]),(qb 23 17 22,[5,10]),(aM 24 23,[11,10]),(cO 24 true (fv 25 (.fn F.uS [])),[12,12]),(cO 24 true (fv 26 (.fn F.af [(aN 25)])),[13,13,12]),(cO 24 true (gd 27 26),[14,12]),(cO 24 true (mc .eql T.a 28 27 2),[15,12]),(qb 29 24 28,[12,16]),(aM 30 29,[17,14]),(cO 30 true (fv 31 (.fn F.uS [])),[18,18]),(cO 30 true (c6 32 (.hk T.a 2 1 [dg,dg] [(0,(bP 1)),(1,(bP 0))])),[18]),(cO 30 true (c6 33 (.hk T.b 1 1 [hy] [(0,(aN 32))])),[20,18]),(cO 30 true (c6 34 (.hk T.a 2 1 [dg,dg] [(0,(bP 1)),(1,(bP 0))])),[18]),(cO 30 true (fv 35 (.fn F.j [(aN 31),(aN 33),(aN 34)])),[19,21,22,19,18]),(cO 30 true (c6 36 (.hk T.a 2 1 [dg,dg] [(0,(bP 0)),(1,(bP 1))])),[18]),(cO 30 true (fv 37 (.fn F.c [(aN 35),(aN 36)])),[23,24,23,18]),(qb 38 30 37,[18,25]),(aM 39 38,[26,25]),(cO 39 true (fv 40 (.fn F.uS [])),[27,27]),(cO 39 true (c6 41 (.hk T.a 2 1 [dg,dg] [(0,(bP 1)),(1,(bP 0))])),[27]),(cO 39 true (c6 42 (.hk T.b 1 1 [hy] [(0,(aN 41))])),[29,27]),(cO 39 true (fv 43 (.fn F.i [(aN 40),(aN 42),(bP 1)])),[28,30,28,27]),(cO 39 true (mc .eql T.a 44 43 3),[31,27]),(qb 45 39 44,[27,32]),(aM 46 45,[33,31]),(cO 46 true (aM 47 2),[34]),(cO 46 true (mc .eql T.sT 48 47 0),[35,34]),(qb 49 46 48,[34,36]),(aM 50 49,[37,34]),(cO 50 true (fv 51 (.fn F.uS [])),[38,38]),(cO 50 true (na 52 (.lb 2 (aN 1))),[38]),(cO 50 true (fv 53 (.fn F.Ei [(aN 51),(aN 52)])),[39,40,39,38]),(qb 54 50 53,[38,41]),(aM 0 54,[42,41,0,1,2,3,4,5,6,7,8,9,10,11,12,13,14,15,16,17,18,19,20,21,22,23,24,25,26,27,28,29,30,31,32,33,34,35,36,37,38,39,40,41,42])]))] Tryz.f11⟩:=bd
def E.af:bc F.af ⟨46,[.tmp 2],zA_ [] Tryz.f12⟩:=bd
def E.N7:bc F.N7 ⟨19,[.tmp 2],zA_ [] Tryz.f15⟩:=bd
def E.HR:bc F.HR ⟨37,[.tmp 2],zA_ [(7,.w)] Tryz.f16⟩:=bd
theorem E.i:bc F.i ⟨26,[.tmp 6],zA_ [] Tryz.f17⟩:=bd
theorem E.j:bc F.j ⟨32,[.tmp 6],zA_ [] Tryz.f20⟩:=bd
theorem E.f:bc F.f ⟨23,[.tmp 4],zA_ [] Tryz.f22⟩:=bd
def E.NH:bc F.NH ⟨14,[.tmp 4],zA_ [(1,.s (.t 0 (.a 1 (.q 2 3 (.t 6 (.a 5 (.f 7 (.q 8 2 .d) .n) .n))) .n)))] Tryz.f24⟩:=bd
def E.NT:bc F.NT ⟨23,[.tmp 4],zA_ [] Tryz.f25⟩:=bd
def E.NV:bc F.NV ⟨29,[.tmp 6,.tmp 7],zA_ [] Tryz.f26⟩:=bd
def E.MO:bc F.MO ⟨39,[.tmp 4],zA_ [] Tryz.f27⟩:=bd
def E.HT:bc F.HT ⟨21,[.tmp 4,.tmp 5],zA_ [] Tryz.f28⟩:=bd
def E.JJ:bc F.JJ ⟨111,[.jm 2 4,.tmp 5],zA_ [(6,.s (.q 0 3 (.q 5 2 (.a 3 (.a 4 (.f 7 (.q 8 5 .d) .n) .n) .n)))),(12,.s (.q 0 2 (.q 3 2 (.a 2 (.f 5 (.q 6 3 (.a 9 (.t 10 (.f 11 .d .n)) .n)) (.a 9 (.f 5 (.q 6 3 (.t 10 (.f 11 .d .n))) .n) .n)) (.a 9 (.a 2 (.f 5 (.q 6 3 (.t 10 (.f 11 .d .n))) .n) .n) .n))))),(17,.s (.q 0 3 (.q 4 3 (.f 3 (.f 7 (.t 8 (.f 9 (.t 10 .d) .n)) .n) .n))))] Tryz.f29⟩:=bd
def E.Nq:bc F.Nq ⟨63,[.jm 4 2],zA_ [] Tryz.f32⟩:=bd
def E.Ei:bc F.Ei ⟨62,[.tmp 4],zA_ [] Tryz.f33⟩:=bd
def E.NF:bc F.NF ⟨99,[.tmp 2],zA_ [(8,.w),(23,.w)] Tryz.f34⟩:=bd
def E.uS:bc F.uS ⟨9,[.jm 5 0],zA_ [] Tryz.f35⟩:=bd
theorem E.bW:bc F.bW ⟨95,[.tmp 2,.tmp 3],zA_ [(4,.s (.q 0 2 (.t 3 (.q 5 4 (.a 2 (.a 4 (.a 9 (.t 10 (.f 11 (.t 12 .d) .n)) .n) .n) .n))))),(10,.s (.q 0 16 (.f 16 .d .n))),(16,.s (.q 0 12 (.f 12 .d .n)))] Tryz.f36⟩:=bd
def E.Nn:bc F.Nn ⟨43,[.tmp 2],zA_ [(8,.w)] Tryz.f39⟩:=bd
theorem E.cL:bc F.cL ⟨11,[.tmp 4],zA_ [] Tryz.f40⟩:=bd
theorem E.et:bc F.et ⟨37,[.tmp 6],zA_ [(4,.w)] Tryz.f41⟩:=bd
def E.k0:bc F.k0 ⟨15,[.tmp 4],zA_ [] Tryz.f44⟩:=bd
def E.mP:bc F.mP ⟨44,[.tmp 6],zA_ [] Tryz.f45⟩:=bd
def E.NX:bc F.NX ⟨11,[.tmp 4],zA_ [] Tryz.f46⟩:=bd
def E.jl:bc F.jl ⟨27,[.tmp 4],zA_ [] Tryz.f48⟩:=bd
def E.Ns:bc F.Ns ⟨7,[.tmp 2],zA_ [] Tryz.f50⟩:=bd
def E.NG:bc F.NG ⟨45,[.tmp 6],zA_ [(7,.w)] Tryz.f51⟩:=bd
def E.NB:bc F.NB ⟨9,[.jm 6 2],zA_ [] Tryz.f52⟩:=bd
def E.NU:bc F.NU ⟨13,[.jm 13 2,.tmp 3],zA_ [(3,.s (.q 0 2 (.a 2 (.f 3 (.f 4 (.t 5 .d) .n) .n) .n)))] Tryz.f53⟩:=bd
def E.HS:bc F.HS ⟨72,[.tmp 4],zA_ [(8,.s (.q 0 2 (.q 3 3 (.a 2 (.f 6 (.t 7 .d) .n) .n)))),(10,.s (.q 0 8 (.a 8 (.f 9 (.t 10 (.f 11 (.f 12 (.t 13 .d) .n) .n)) .n) .n)))] Tryz.f54⟩:=bd
def E.NY:bc F.NY ⟨42,[.tmp 6,.tmp 7],zA_ [(5,.w)] Tryz.f55⟩:=bd
def E.HN:bc F.HN ⟨17,[.tmp 2],zA_ [] Tryz.f56⟩:=bd
def E.N5:bc F.N5 ⟨46,[.tmp 6],zA_ [(6,.w),(8,.c (.cN [aM 40 8,aM 41 9,ck 42 (.AW .u64 (aN 41)),ck 43 (.bin .shl T.ZO (.const (.int .u64 1)) (aN 42)),gR .or T.ZO 44 40 43,aM 8 44]))] Tryz.f57⟩:=bd
def E.gr:bc F.gr ⟨30,[.tmp 6,.tmp 7],zA_ [] Tryz.f58⟩:=bd
def E.oZ:bc F.oZ ⟨94,[.tmp 2],zA_ [(11,.s (.q 0 14 (.f 14 .d .n))),(20,.s (.q 0 15 (.f 15 .d .n)))] Tryz.f59⟩:=bd
def E.ud:bc F.ud ⟨34,[.tmp 6,.tmp 7],zA_ [] Tryz.f60⟩:=bd
def E.as:bc F.as ⟨7,[.tmp 3],zA_ [] Tryz.f62⟩:=bd
def E.Nv:bc F.Nv ⟨93,[.jm 4 2],zA_ [(7,.w),(10,.s (.q 0 2 (.q 3 6 (.a 2 (.f 9 .d .n) .n)))),(15,.w),(18,.s (.q 0 2 (.q 3 6 (.a 2 (.f 9 .d .n) .n))))] Tryz.f67⟩:=bd
def E.Nx:bc F.Nx ⟨66,[.jm 4 4],zA_ [(4,.s (.q 0 3 (.a 3 (.f 4 (.q 5 7 .d) .n) .n))),(7,.s (.q 0 2 (.q 3 2 (.a 2 (.f 5 .d .n) .n)))),(12,.s (.t 0 (.q 2 6 (.a 1 (.f 8 .d .n) .n))))] Tryz.f68⟩:=bd
def E.Nt:bc F.Nt ⟨90,[.tmp 2,.tmp 3,.tmp 4],zA_ [(5,.w),(9,.c (.cN [aM 36 7,mc .add T.a 37 36 1,fs 38 2 1,dD 39 38,aM 40 9,gQ 41 6 39 40,fs 42 2 41,dD 43 42,ck 44 (.yd (aN 43) (bP 0)),ck 45 (.z0 (aN 44) (bP 4)),gR .add T.a 46 37 45,aM 7 46])),(13,.w)] Tryz.f69⟩:=bd
def E.Ny:bc F.Ny ⟨45,[.tmp 4],zA_ [(6,.s (.q 0 2 (.q 3 2 (.a 2 (.f 5 .d .n) .n))))] Tryz.f70⟩:=bd
def E.NS:bc F.NS ⟨51,[.tmp 6,.tmp 7],zA_ [(8,.s (.q 0 6 (.f 6 (.q 7 5 .d) .n)))] Tryz.f71⟩:=bd
def E.M9:bc F.M9 ⟨12,[.tmp 4],zA_ [] Tryz.f72⟩:=bd
def E.xb:bc F.xb ⟨15,[.jm 6 2],zA_ [] Tryz.f74⟩:=bd
def E.hc:bc F.hc ⟨29,[.tmp 2],zA_ [] Tryz.f75⟩:=bd
theorem E.cs:bc F.cs ⟨6,[.tmp 2],zA_ [] Tryz.f76⟩:=bd
def E.w4:bc F.w4 ⟨26,[],zA_ [(3,.c (.cN [aM 13 0,ck 14 (.sx (aN 13)),fs 15 6 14,dD 16 15,aM 17 1,aM 18 8,gR .add T.a 19 17 18,aM 20 1,aM 21 8,aM 22 3,ck 23 (.hW [dg,dg,dg] [(0,1),(1,1),(2,1)] [(0,(aN 20)),(1,(aN 21)),(2,(aN 22))]),gQ 24 3 16 19,hE (.mF 3 (aN 24) (aN 23))]))] Tryz.f78⟩:=bd
def E.Nz:bc F.Nz ⟨177,[.tmp 2],zA_ [(5,.w),(7,.w),(15,.c (.r4 [fs 83 3 9,dD 84 83,ck 85 (.z0 (bP 0) (aN 84)),fs 86 4 9,dD 87 86,ck 88 (.yd (bP 0) (aN 87)),aM 10 85,aM 11 88])),(17,.w),(26,.s (.q 0 9 (.a 9 (.f 10 .d .n) .n))),(31,.w)] Tryz.f79⟩:=bd
def E.Np:bc F.Np ⟨32,[.tmp 4],zA_ [] Tryz.f81⟩:=bd
theorem E.q:bc F.q ⟨7,[.tmp 3],zA_ [] Tryz.f83⟩:=bd
def E.uh:bc F.uh ⟨40,[.tmp 6],zA_ [(2,.w),(5,.w)] Tryz.f87⟩:=bd
theorem E.bG:bc F.bG ⟨14,[.tmp 2],zA_ [(3,.s (.t 0 (.q 2 2 (.a 1 (.a 4 (.t 5 (.f 6 (.t 7 .d) .n)) .n) .n))))] Tryz.f89⟩:=bd
theorem E.bg:bc F.bg ⟨61,[.tmp 4],zA_ [] Tryz.f90⟩:=bd
theorem E.bj:bc F.bj ⟨30,[.tmp 6],zA_ [] Tryz.f91⟩:=bd
theorem E.bA:bc F.bA ⟨66,[.tmp 6],zA_ [(1,.c (.r4 [aM 11 0,ck 12 (.sx (aN 11)),fs 13 6 12,dD 14 13,aM 15 2,gQ 16 3 14 15,ck 17 (.qI 3 1 (aN 16) (bP 0)),dD 18 17,aM 19 0,ck 20 (.sx (aN 19)),fs 21 6 20,dD 22 21,aM 23 2,gQ 24 3 22 23,ck 25 (.qI 3 1 (aN 24) (bP 1)),dD 26 25,aM 27 0,ck 28 (.sx (aN 27)),fs 29 6 28,dD 30 29,aM 31 2,gQ 32 3 30 31,ck 33 (.qI 3 1 (aN 32) (bP 2)),dD 34 33,aM 7 18,aM 8 26,aM 9 34])),(6,.w)] Tryz.f92⟩:=bd
theorem E.bO:bc F.bO ⟨11,[.tmp 4],zA_ [] Tryz.f95⟩:=bd
def E.NK:bc F.NK ⟨82,[.tmp 6],zA_ [(2,.w)] Tryz.f97⟩:=bd
def E.NL:bc F.NL ⟨34,[.tmp 4],zA_ [(4,.w)] Tryz.f98⟩:=bd
def E.NC:bc F.NC ⟨7,[.tmp 2],zA_ [] Tryz.f99⟩:=bd
def E.NA:bc F.NA ⟨99,[.jm 6 2],zA_ [(12,.s (.q 0 7 (.a 7 (.f 8 (.t 9 (.f 10 .d .n)) .n) .n))),(13,.s (.q 0 7 (.a 7 (.f 8 (.t 9 (.f 10 .d .n)) .n) .n)))] Tryz.f100⟩:=bd
def E.NR:bc F.NR ⟨12,[.jm 13 4],zA_ [(1,.s (.q 0 3 (.t 4 (.a 3 (.a 5 (.t 6 (.f 7 .d .n)) .n) .n))))] Tryz.f101⟩:=bd
def E.N3:bc F.N3 ⟨96,[.tmp 6,.tmp 7],zA_ [(3,.w),(6,.s (.q 0 9 (.a 9 (.f 10 (.q 11 5 .d) .n) .n))),(13,.s (.q 0 9 (.f 9 (.q 10 5 .d) .n))),(17,.s (.q 0 10 (.f 10 (.q 11 2 .d) .n)))] Tryz.f102⟩:=bd
def E.Nh:bc F.Nh ⟨31,[.tmp 4],zA_ [] Tryz.f103⟩:=bd
def E.NW:bc F.NW ⟨28,[.jm 6 4],zA_ [(2,.s (.q 0 17 (.f 17 .d .n)))] Tryz.f104⟩:=bd
def E.Ng:bc F.Ng ⟨40,[.tmp 2,.tmp 3],zA_ [(5,.w)] Tryz.f105⟩:=bd
def E.N1:bc F.N1 ⟨30,[.tmp 8],zA_ [(2,.s (.q 1 3 (.t 5 (.q 7 6 (.f 0 (.f 4 (.f 6 (.f 13 (.t 14 .d) .n) .n) .n) .n)))))] Tryz.f106⟩:=bd
def E.N0:bc F.N0 ⟨27,[.tmp 6],zA_ [] Tryz.f107⟩:=bd
end Go.Proofs.R