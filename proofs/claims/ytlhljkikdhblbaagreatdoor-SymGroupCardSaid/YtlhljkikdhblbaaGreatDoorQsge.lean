/- Parts. -/
import Derived.Test.YtlhljkikdhblbaaGreatDoorQsgc
import Derived.Laws.StructEq
import Derived.Laws.Cover3
import Derived.Maps.AppendAt
import Derived.Test.YtlhljkikdhblbaaGreatDoorChecked
set_option linter.all false
set_option maxRecDepth 100000
namespace a8
open Go Go.RowKit
section
variable{P:Program}{cI:Value->World->Prop}{α:Type}{enc:α->List Value}{e:TypeId}{sz base wZ:Nat}{w:World}{s x:Value}{xs ys:List α}
def AA0{a:F_}{b:Nat}{t}(c:aR enc e sz base w s xs)(h:aR enc e sz wZ w x ys)(j:∀x,(enc x).length=sz)(k:∀l,∀d∈enc l,d.oneCell'=true)(m:(xs.length+ys.length)*b<=140737488355328)
  (n:xs.length+ys.length<=maxLen)(p:base<=w.heap.size)(f:∀i g,aR enc e sz base g i (xs++ys)->w.grownBy g s.ownBlock->cI i g):lQ P a e sz b s x w cI t:=by
 rcases h.2 with ⟨rfl,q⟩ | ⟨r,cap,cur,rfl,B,C,G,H,I,J⟩
 .have:ys=[]:=AG1 q
  subst this;rw[AG8] at f;refine _i λ⟨u,v,K,y,L,M,N,O,Q⟩=>?_;exact⟨a,s,w,run_append_owned_none w base a a e v sz u y s _ _ c,f s w c ⟨rfl,rfl,rfl,Fy _,λ_ _ _=>rfl⟩⟩
 .exact _m c j (λz d A=>World.ownsRow.cells h (g:=r) rfl z d A) rfl k m n p f
def AC0{R:A_->Addr->α->Prop}[nM R enc]{i:F_}{b:Nat}{a:Addr}{m c:Nat}{t}(j:aR enc e sz base w s xs)(f:a4 sz R w (.slice (some a) m c) ys)(g:∀x,(enc x).length=sz)(k:∀l,∀n∈enc l,n.oneCell'=true)
  (p:(xs.length+ys.length)*b<=140737488355328)(q:xs.length+ys.length<=maxLen)(r:base<=w.heap.size)(u:∀h d,aR enc e sz base d h (xs++ys)->w.grownBy d s.ownBlock->cI h d):lQ P i e sz b s (.slice (some a) m c) w cI t :=
 _m j g (a4.flat (enc:=enc) g (λa x v=>nM.Jy _ a x v) f) f.len.1 k p q r u
def aR.empty{b:Nat}(a:base<=b)(h:w.heap[b]? = some (.cells #[] e)):aR enc e sz base w (.slice (some ⟨b,0,none⟩) 0 0) ([]:C_ α):=auZ a h
def aR.low{v:B_}(a:wZ<=base)(h:aR enc e sz base w v xs):aR enc e sz wZ w v xs:=au1 a h
end
end a8
namespace a8
open Go
def aO(n:Nat):G_:=.tmp n
def bQ(n:Int):G_:=.const (.int .i64 n)
def h3(b:Bool):G_:=.const (.bool b)
def cl(d:Nat)(i:yM):Step:=⟨some d,none,.p i⟩
def na(d:Nat)(i:wR):Step:=⟨some d,none,.r i⟩
def c6(d:Nat)(i:tO):Step:=⟨some d,none,.e i⟩
def fr(d:Nat)(i:r0):Step:=⟨some d,none,.c i⟩
def hH(i:tO):Step:=⟨none,none,.e i⟩
def cK(j:Nat)(b:Bool)(s:Step):Step:=⟨s.dst,some (j,b),s.i⟩
def aL(d n:Nat):Step:=⟨some d,none,.p (.ps (.tmp n))⟩
def dn(d:Nat)(x:G_):Step:=⟨some d,none,.p (.ps x)⟩
def fp(d k n:Nat):Step:=⟨some d,none,.p (.mr k (.tmp n))⟩
def dD(d n:Nat):Step:=⟨some d,none,.r (.ck (.tmp n))⟩
def gO(d k a i:Nat):Step:=⟨some d,none,.p (.ph k (.tmp a) (.tmp i))⟩
def ys(a v:Nat):Step:=⟨none,none,.e (.st (.tmp a) (.tmp v))⟩
def gg(d n:Nat):Step:=⟨some d,none,.p (.D6 (.tmp n))⟩
def dk:B_:=.int .i64 0
def hA:B_:=.slice none 0 0
def yy:B_:=.string ⟨#[]⟩
def gX(op:BinOp)(t:F_)(d a b:Nat):Step:=⟨some d,none,.p (.bin op t (.tmp a) (.tmp b))⟩
def mh(op:BinOp)(t:F_)(d a:Nat)(n:Int):Step:=⟨some d,none,.p (.bin op t (.tmp a) (.const (.int .i64 n)))⟩
def qd(d a b:Nat):Step:=⟨some d,none,.p (.pick (.tmp a) (.tmp b) (.const (.bool false)))⟩
def om(d a b:Nat):Step:=⟨some d,none,.p (.pick (.tmp a) (.const (.bool true)) (.tmp b))⟩
def b2(a:C_ Step)(b:fg):fg:=.seq (.cN a) b
def iA(n:Nat)(a b:fg):fg:=.cond (.tmp n) a b
def m9(d k n:Nat):Step:=⟨some d,none,.r (.lk k (.tmp n))⟩
def sV(k a v:Nat):Step:=⟨none,none,.e (.mJ k (.tmp a) (.tmp v))⟩
def EX(d n:Nat):Step:=⟨some d,none,.p (.sK (.tmp n))⟩
def Ap(d n i:Nat):Step:=⟨some d,none,.p (.ext (.tmp n) i)⟩
def qc(d:Nat)(f:E_)(l:C_ Nat):Step:=⟨some d,none,.c (.fn f (l.map .tmp))⟩
def oj(n m:Nat)(b:fg):fg:=.seq (.cond (.tmp n) .skip (.exit m)) b
def EY(n:Nat)(s:Step):Step:=cK n true s
def Aq(n:Nat)(s:Step):Step:=cK n false s
def nL(s:Step)(k:e5):e5:=.take s k
def oi(t:F_)(a b:Nat):fg:=.cN [⟨some a,none,.p (.bin .add t (.tmp b) (.const (.int .i64 1)))⟩,⟨some b,none,.p (.ps (.tmp a))⟩]
def ow{A B:Prop}(k:B)(h:B->A:=by
 intro a
 try dsimp only[aO,bQ,h3,cl,na,c6,fr,hH,cK,aL,dn,fp,dD,gO,ys,gg,dk,hA,yy,gX,mh,qd,om,b2,iA,m9,sV,EX,Ap,qc,oj,oi,EY,Aq,nL,List.map_cons,List.map_nil]
 exact a):A:=h k
end a8
namespace a8
open Go Go.RowKit
structure yH(p:Prop):Prop where out:p
theorem aN{A B:Prop}(k:B)(h:yH B->A:=by
 intro a
 (repeat' first
 | assumption
 | exact Ext.refl _
 | refine Ext.trans ?_ CW
 | refine Q_ AW ?_
 | refine _H CW ?_ rfl ?_
 | refine _C CW ?_ rfl ?_
 | refine _L CW ?_ AW rfl ?_
 | refine _S CW ?_ AW rfl ?_
 | refine _T CW ?_ AW rfl ?_
 | refine _U AW ?_
 | refine _M (by first | assumption | omega) ?_
 | refine _N (by first | assumption | omega) ?_
 | refine _F CW ?_
 | refine _G CW ?_
 | simp -dsimp only[c8,cA,Nat.reduceAdd,Nat.reduceEqDiff,reduceIte,reduceCtorEq,dq])
 exact a.out):A:=h ⟨k⟩
theorem eG{F A B:Prop}(f:F)(k:B)(h:F->yH B->A:=by
 intro f a
 (repeat' first
 | assumption
 | exact Ext.refl _
 | refine Ext.trans ?_ CW
 | refine Q_ AW ?_
 | refine _H CW ?_ rfl ?_
 | refine _C CW ?_ rfl ?_
 | refine _L CW ?_ AW rfl ?_
 | refine _S CW ?_ AW rfl ?_
 | refine _T CW ?_ AW rfl ?_
 | refine _U AW ?_
 | refine _M (by first | assumption | omega) ?_
 | refine _N (by first | assumption | omega) ?_
 | refine _F CW ?_
 | refine _G CW ?_
 | simp -dsimp only[c8,cA,Nat.reduceAdd,Nat.reduceEqDiff,reduceIte,reduceCtorEq,dq,f])
 exact a.out):A:=h f ⟨k⟩
theorem r9{A B:Prop}(k:B)(h:yH B->A:=by
 intro a
 (repeat' first
 | assumption
 | exact Ext.refl _
 | refine Ext.trans ?_ CW
 | refine Q_ AW ?_
 | refine _H CW ?_ rfl ?_
 | refine _C CW ?_ rfl ?_
 | refine _L CW ?_ AW rfl ?_
 | refine _S CW ?_ AW rfl ?_
 | refine _T CW ?_ AW rfl ?_
 | refine _U AW ?_
 | refine _M (by first | assumption | omega) ?_
 | refine _N (by first | assumption | omega) ?_
 | refine _F CW ?_
 | refine _G CW ?_
 | simp -dsimp only[c8,Nat.reduceAdd,Nat.reduceEqDiff,reduceIte,reduceCtorEq,dq])
 exact a.out):A:=h ⟨k⟩
def cg{F A B:Prop}(f:F)(k:B)(h:F->yH B->A:=by
 intro f a;simp -dsimp only[c8,cA,Nat.reduceAdd,Nat.reduceEqDiff,reduceIte,reduceCtorEq,dq,f];exact a.out):A:=h f ⟨k⟩
def yj:C_ (Nat×B_)->Fr->Fr
 | [],a=>a
 | b :: c,a=>cz (yj c a) b.1 b.2
theorem yl(S:Fr):yj [] S=S:=eq_of_heq (HEq.refl _)
theorem yk(t:Nat)(v:B_)(r:C_ (Nat×B_))(S:Fr):yj ((t,v) :: r) S=cz (yj r S) t v:=eq_of_heq (HEq.refl _)
def Has(S:Fr):C_ (Nat×B_)->Prop
 | []=>True
 | a :: b=>S a.1=a.2/\Has S b
theorem xp(S:Fr):Has S []=True:=propext Iff.rfl
theorem xo(S:Fr)(t:Nat)(v:B_)(r:C_ (Nat×B_)):Has S ((t,v) :: r)=(S t=v/\Has S r):=propext Iff.rfl
theorem Oz{S:Fr}:∀a,Has S a->yj a S=S
 | [],_=>rfl
 | b :: c,d=>by
  show cz (yj c S) b.1 b.2=S;rw[Oz c d.2];exact kr S _ _ d.1
def xY(S:Fr):C_ Nat->Fr->Fr
 | [],a=>a
 | b :: c,a=>cz (xY S c a) b (S b)
theorem x0(S a:Fr):xY S [] a=a:=eq_of_heq (HEq.refl _)
theorem xZ(S a:Fr)(t:Nat)(r:C_ Nat):xY S (t :: r) a=cz (xY S r a) t (S t):=eq_of_heq (HEq.refl _)
theorem Mb{S a:Fr}:∀c:C_ Nat,(∀b∈c,a b=S b)->xY S c a=a
 | [],_=>rfl
 | b :: d,e=>by
  show cz (xY S d a) b (S b)=a;rw[Mb d λf g=>e f (by simp[g])];exact kr a _ _ (e b Ah)
def aV{p:Prop}(h:p:=by first | trivial | rfl | exact⟨rfl,trivial⟩ | (simp -dsimp only[c8,yl,yk,x0,xZ,xp,xo,Nat.reduceAdd,Nat.reduceEqDiff,reduceIte,and_self];done) | (simp -dsimp only[c8,yl,yk,x0,xZ,xp,xo,Nat.reduceAdd,Nat.reduceEqDiff,reduceIte,and_self];exact⟨rfl,trivial⟩)):p:=h
def UC{ds b:C_ Nat}(h:(b.all λa => !ds.contains a)=true):∀a∈b,ds.contains a=false:=λa c=>by
 have:=List.all_eq_true.1 h a c
 simpa using this
theorem atC{p:Nat->Prop}:∀b,p b->∃d,p d/\∀a,p a->d<=a:=λb=>by
 induction b using Nat.strongRecOn with
 | _ b e =>
  intro f;by_cases hm:∃a,a<b/\p a
  .obtain⟨a,c,g⟩:=hm;exact e a c g
  .exact⟨b,f,λa c=>Nat.le_of_not_lt λh=>hm ⟨a,h,c⟩⟩
noncomputable def least(p:Nat->Prop):Nat:=open Classical in if c:∃a,p a/\∀b,p b->a<=b then c.choose else 0
def ae7{p:Nat->Prop}(h:∃a,p a):p (least p)/\∀b,p b->least p<=b:=by
 obtain⟨a,d⟩:=h;have c:=atC a d;unfold least;rw[dif_pos c];exact c.choose_spec
section
variable{P:Program}{Q:fG->Fr->World->Prop}{S:Fr}{w:World}
def K_{β:Type}{b:fg}{t}(i h:Nat)(j:C_ Nat)(d:β->C_ (Nat×B_))(k:β)(e:Nat->β->A_->Prop)(p:S i = .I 0)(q:Has S (d k))(r:e 0 k w)
  (s:∀(a:Nat) c f g,a<=h->e a c g ->
   fa P b (j4 (λl u=>a<h/\l i = .I ((a:Int)+1)/\∃m,Has l (d m)/\e (a+1) m u) Q ⟨⟩) (yj (d c) (cz (xY S j f) i (.I a))) g ⟨⟩)
  (v:(j.all λt => !b.gr.contains t)=true:=by rfl):CI P b Q S w t:=by
 refine _k i h (λa S w => ∃c,Has S (d c)/\e a c w) p ⟨k,q,r⟩ ?_;rintro a f g x y z ⟨c,A,B⟩;have n:=s a c f g y B;rw[Mb j λt C=>x t (UC v t C),kr f i _ z,Oz _ A] at n;exact n
def S_{β:Type}{a b:fg}{t}(e:C_ Nat)(g:β->C_ (Nat×B_))(h:β->A_->Prop)(j:fa P a (j4 (λk l => ∃c,Has k (g c)/\h c l) Q ⟨⟩) S w ⟨⟩)
  (m:∀c f d,h c d->fa P b Q (yj (g c) (xY S e f)) d ⟨⟩)(n:(e.all λt => !a.gr.contains t)=true:=by rfl):fa P (.seq a b) Q S w t:=by
 refine _x _ j ?_;rintro f d p ⟨c,q,r⟩;have i:=m c f d r;rw[Mb e λt s=>p t (UC n t s),Oz _ q] at i;exact i
theorem _V{β:Type}{b:fg}{t}(k:C_ Nat)(e:β->C_ (Nat×B_))(l:β)(f:β->A_->Prop)(d:β->Nat)(s:Has S (e l))(u:f l w)
  (v:∀a h g,f a g ->
   fa P b (j4 (λm n => ∃p,Has m (e p)/\f p n/\d p<d a) Q ⟨⟩) (yj (e a) (xY S k h)) g ⟨⟩)
  (x:(k.all λt => !b.gr.contains t)=true:=by rfl):CI P b Q S w t:=by
 refine Z_ (λS w => ∃a,Has S (e a)/\f a w) (λS w=>least λi => ∃a,Has S (e a)/\f a w/\d a=i) ⟨l,s,u⟩ ?_;rintro h g y ⟨a,z,A⟩;obtain⟨⟨B,C,G,H⟩,K⟩:=ae7 (p:=λi => ∃a,Has h (e a)/\f a g/\d a=i) ⟨d a,a,z,A,rfl⟩;have c:=v B h g G;rw[Mb k λt I=>y t (UC x t I),Oz _ C] at c;unfold fa j4 at *;refine rW b _ _ h g (λJ m n _ c=>?_) c
 match J,c with
 | .normal,⟨j,q,r,L⟩ =>
  refine⟨⟨j,q,r⟩,?_⟩;have M:=(ae7 (p:=λi => ∃a,Has m (e a)/\f a n/\d a=i) ⟨d j,j,q,r,rfl⟩).2 (d j) ⟨j,q,r,rfl⟩;show least _<least _;rw[<-H];omega
 | .exit _,c=>exact c
 | .ret,c=>exact c
 | .ib _,c=>exact c
end
end a8
namespace a8
open Go Go.RowKit o
section
variable{P:Program}{a9:Value->Prop}{w w0:World}
def _3{a:Addr}{cs:C_ B_}{j:Nat}{v:B_}{t}(h:fx w0 a cs)(b:Ext w0 w)(c:cs[j]? = some v)(d:a9 v):tR (.pointer (some (a.add j))) w a9 t:=L_ (b.cell (h j v c)) d
def _4{a:Addr}{cs:C_ B_}{n:Nat}{t}(h:fx w0 a cs)(b:Ext w0 w)(c:cs.length=n)(d:a9 (.agg cs.toArray)):yK n (.pointer (some a)) w a9 t:=Y_ (h.ext b) c d
end
theorem ad{A B:Prop}(k:B)(h:yH B->A:=by
 intro a
 (repeat' first
 | assumption
 | exact Ext.refl _
 | refine Ext.trans ?_ CW
 | simp -dsimp only[c8,cA,Nat.reduceAdd,Nat.reduceEqDiff,reduceIte,reduceCtorEq,dq,yl,yk,x0,xZ,xp,xo,List.cons_append,List.nil_append]
 | refine Q_ AW ?_
 | refine _H CW ?_ rfl ?_
 | refine _C CW ?_ rfl ?_
 | refine _U AW ?_
 | refine _M (by first | assumption | omega) ?_
 | refine _N (by first | assumption | omega) ?_
 | refine _F CW ?_
 | refine _G CW ?_
 | refine _L CW ?_ AW rfl ?_
 | refine _S CW ?_ AW rfl ?_
 | refine _T CW ?_ AW rfl ?_
 | refine _3 CW ?_ rfl ?_
 | refine _4 CW ?_ rfl ?_
 | refine R_ CW ?_ rfl ?_
 | refine _O (λ_=>by (simp -dsimp only[c8,Nat.reduceAdd,Nat.reduceEqDiff,reduceIte,reduceCtorEq,dq]);rfl) rfl rfl (by first | assumption | (simp[Value.oneCell',o.c7.enc,o.Ref.enc,o.Node.enc,o.Scalar.enc,o.Var.enc,o.ed.enc,o.Act.enc,o.et.enc,o.ee.enc,o.nh.enc];done)) ?_
 | refine O_ ?_
 | refine X_ CW rfl rfl (by first | assumption | (simp[Value.oneCell',o.c7.enc,o.Ref.enc,o.Node.enc,o.Scalar.enc,o.Var.enc,o.ed.enc,o.Act.enc,o.et.enc,o.ee.enc,o.nh.enc];done)) ?_
 | refine _B CW (Nat.le_of_ble_eq_true rfl) rfl ?_
 | refine _j CW (Nat.le_of_ble_eq_true rfl) rfl ?_
 | refine _E (by (simp only[gu,lay,o8,dy,bS,Value.cells,Nat.reduceAdd,Nat.reduceEqDiff,reduceIte,List.range,List.range.loop,List.map_cons,List.map_nil]);rfl) ?_
 | refine V_ (by (simp only[gu,lay,o8,dy,bS,Value.cells,Nat.reduceAdd,Nat.reduceEqDiff,reduceIte]);rfl) ?_)
 exact a.out):A:=h ⟨k⟩
theorem eC{A B:Prop}(k:B)(h:yH B->A:=by
 intro a
 (repeat' first
 | assumption
 | exact Ext.refl _
 | refine Ext.trans ?_ CW
 | simp -dsimp only[c8,Nat.reduceAdd,Nat.reduceEqDiff,reduceIte,reduceCtorEq,dq,yl,yk,x0,xZ,xp,xo,List.cons_append,List.nil_append]
 | refine Q_ AW ?_
 | refine _H CW ?_ rfl ?_
 | refine _C CW ?_ rfl ?_
 | refine _U AW ?_
 | refine _M (by first | assumption | omega) ?_
 | refine _N (by first | assumption | omega) ?_
 | refine _F CW ?_
 | refine _G CW ?_
 | refine _L CW ?_ AW rfl ?_
 | refine _S CW ?_ AW rfl ?_
 | refine _T CW ?_ AW rfl ?_
 | refine _3 CW ?_ rfl ?_
 | refine _4 CW ?_ rfl ?_
 | refine R_ CW ?_ rfl ?_
 | refine _O (λ_=>by (simp -dsimp only[c8,Nat.reduceAdd,Nat.reduceEqDiff,reduceIte,reduceCtorEq,dq]);rfl) rfl rfl (by first | assumption | (simp[Value.oneCell',o.c7.enc,o.Ref.enc,o.Node.enc,o.Scalar.enc,o.Var.enc,o.ed.enc,o.Act.enc,o.et.enc,o.ee.enc,o.nh.enc];done)) ?_
 | refine O_ ?_
 | refine X_ CW rfl rfl (by first | assumption | (simp[Value.oneCell',o.c7.enc,o.Ref.enc,o.Node.enc,o.Scalar.enc,o.Var.enc,o.ed.enc,o.Act.enc,o.et.enc,o.ee.enc,o.nh.enc];done)) ?_
 | refine _B CW (Nat.le_of_ble_eq_true rfl) rfl ?_
 | refine _j CW (Nat.le_of_ble_eq_true rfl) rfl ?_
 | refine _E (by (simp only[gu,lay,o8,dy,bS,Value.cells,Nat.reduceAdd,Nat.reduceEqDiff,reduceIte,List.range,List.range.loop,List.map_cons,List.map_nil]);rfl) ?_
 | refine V_ (by (simp only[gu,lay,o8,dy,bS,Value.cells,Nat.reduceAdd,Nat.reduceEqDiff,reduceIte]);rfl) ?_)
 exact a.out):A:=h ⟨k⟩
end a8
namespace a8
open Go Go.RowKit
def gF(A:Nat->Prop)(p:A_->Prop)(w:A_):Prop := ∀a,Mod A w a->p a
def gF.here{A:Nat->Prop}{p:A_->Prop}{w:A_}(h:gF A p w):p w:=h w (Mod.refl A w)
theorem Mod.comp{A A' B:Nat->Prop}{a b c:A_}(h:Mod A a b)(k:Mod A' b c)(i:∀d,d<a.heap.size->A d->B d)(j:∀d,d<a.heap.size->A' d->B d):Mod B a c :=
 ⟨k.os.trans h.os,k.tape.trans h.tape,k.output.trans h.output,T6 h.size k.size,λd e g=>(k.block d (AI8 e h.size) λf=>g (j d e f)).trans (h.block d e λf=>g (i d e f))⟩
def gF.move{A A' B:Nat->Prop}{p:A_->Prop}{w w':A_}(h:gF B p w)(m:Mod A w w')(b:∀a,a<w.heap.size->A a->B a)(c:∀a,a<w.heap.size->A' a->B a):gF A' p w' :=
 λd e=>h d (m.comp e b c)
def gF.mono{A B:Nat->Prop}{p:A_->Prop}{w:A_}(h:gF B p w)(b:∀a,a<w.heap.size->A a->B a):gF A p w:=h.move (Mod.refl A w) b b
theorem gF.ext{B:Nat->Prop}{p:A_->Prop}{w w':A_}(h:gF B p w)(e:Ext w w')(b:∀a,w.heap.size<=a->¬B a):gF B p w' :=
 h.move (A:=λ_=>False) e.mod (λ_ _ h=>h.elim) (λ_ _ h=>h)
def gF.imp{A:Nat->Prop}{p q:A_->Prop}{w:A_}(h:gF A p w)(b:∀w,p w->q w):gF A q w:=λa c=>b a (h a c)
def gF.and{A:Nat->Prop}{p q:A_->Prop}{w:A_}(h:gF A p w)(k:gF A q w):gF A (λw=>p w/\q w) w:=λa b=>⟨h a b,k a b⟩
theorem gF.of{A:Nat->Prop}{p:A_->Prop}{w:A_}(h:∀a,p a):gF A p w:=λa _=>h a
abbrev ei(w:A_)(p:A_->Prop)(w':A_):Prop:=gF (λa=>a<w.heap.size) p w'
theorem ei.ext{w w1 a:A_}{p:A_->Prop}(h:ei w p w1)(b:Ext w1 a)(c:w.heap.size<=w1.heap.size):ei w p a :=
 gF.ext h b λd e f=>AW
def ei.low{w w0 w1:A_}{p:A_->Prop}(h:ei w p w1)(a:w0.heap.size<=w.heap.size):ei w0 p w1:=h.mono λb _ c=>AW
def ei.wr{w w1 a:A_}{p:A_->Prop}{b:Nat}(h:ei w p w1)(d:dY b w1 a)(g:b<w.heap.size):ei w p a :=
 gF.move h (A:=λe=>e=b) (d.mod rfl) (λf _ c=>AW) (λf _ c=>c)
def ei.grown{w w1 c:A_}{p:A_->Prop}{row:H_ Nat}(h:ei w p w1)(e:w1.grownBy c row)(f:∀a,row=some a->a<w.heap.size):ei w p c :=
 gF.move h (A:=λa=>row=some a) (Mod.grown e λa g=>g) (λd _ b=>f d b) (λd _ b=>b)
def ei.and{w w1:A_}{p q:A_->Prop}(h:ei w p w1)(k:ei w q w1):ei w (λw=>p w/\q w) w1:=gF.and h k
def ei.imp{w w1:A_}{p q:A_->Prop}(h:ei w p w1)(a:∀w,p w->q w):ei w q w1:=gF.imp h a
class Rel{α:Type}(R:World->Addr->α->Prop)(C:outParam (World->List Value->α->Prop))(sz:outParam Nat):Prop where
 out:∀{w a x},R w a x->∃cs,fx w a cs/\C w cs x
 kC:∀{w a cs x},fx w a cs->C w cs x->R w a x
 len:∀{w cs x},C w cs x->cs.length=sz
 one:∀{w cs x},C w cs x->∀u∈cs,u.oneCell'=true
 ext:∀{w w' cs x},Ext w w'->C w cs x->C w' cs x
abbrev hp(sz:Nat):={a:C_ B_ // a.length=sz/\∀b∈a,b.oneCell'=true}
def iO{sz:Nat}(c:hp sz):C_ B_:=c.1
def hs{sz:Nat}(c:hp sz):(iO c).length=sz:=c.2.1
def rp{sz:Nat}(c:hp sz):∀a∈iO c,a.oneCell'=true:=c.2.2
abbrev ng(e:F_)(sz base:Nat)(w:A_)(v:B_)(a:C_ (hp sz)):Prop:=aR iO e sz base w v a
theorem a4.cells{α:Type}{R:A_->Addr->α->Prop}{C:A_->C_ B_->α->Prop}{sz:Nat}[Rel R C sz]{w:A_}{v:B_}{xs:C_ α}(h:a4 sz R w v xs) :
  ∃c:C_ (hp sz),c.length=xs.length/\a4 sz (Flat iO) w v c/\∀a (i:a<c.length) (e:a<xs.length),C w c[a].1 xs[a]:=by
 obtain⟨j,n,rfl,i,e,k,p⟩:=h.ex;obtain⟨c,f,l⟩:=afd xs.length (λa (m:hp sz)=>(∀d,j=some d->fx w (d.add (a*sz)) m.1)/\∀(h:a<xs.length),C w m.1 xs[a]) λa g=>by
  obtain⟨d,rfl⟩:=Option.isSome_iff_exists.1 (k (by intro b;subst b;simp at g));obtain⟨q,bg,bj⟩:=Rel.out (p d rfl a g);exact⟨⟨q,Rel.len (R:=R) bj,Rel.one (R:=R) bj⟩,λt b=>by injection b with b;subst b;exact bg,λ_=>bj⟩
 refine⟨c,f,⟨j,n,by rw[f],AW,e,λr=>k (by intro b;subst b;simp at f;exact r f),λd s a g=>(l a g).1 d s⟩,λa i e=>(l a i).2 e⟩
def a4.B4{α:Type}{R:A_->Addr->α->Prop}{C:A_->C_ B_->α->Prop}{sz:Nat}[Rel R C sz]{w:A_}{v:B_}{xs:C_ α}{b:C_ (hp sz)}(c:b.length=xs.length)(h:a4 sz (Flat iO) w v b)
  (e:∀a (f:a<b.length) (d:a<xs.length),C w b[a].1 xs[a]):a4 sz R w v xs:=by
 obtain⟨g,i,rfl,f,d,j,k⟩:=h.ex;refine⟨g,i,by rw[c],AW,d,λl=>j (by intro m;subst m;simp at c;exact l (AG1 c.symm)),λn p a q=>Rel.kC (k n p a AW) (e a AW q)⟩
def _J{P:D_}{j:B_->A_->Prop}{α:Type}{enc:α->C_ B_}{e:F_}{sz base:Nat}{w:A_}{xs:C_ α}{g:F_}{b:Nat}{s:B_}{a:Addr}{m c:Nat}{ys:C_ α}{t}(k:aR enc e sz base w s xs)(l:∀n,(enc n).length=sz)(p:fx w a (ys.flatMap enc))(q:m=ys.length)
  (r:∀h,∀i∈enc h,i.oneCell'=true)(u:(xs.length+ys.length)*b<=140737488355328)(v:xs.length+ys.length<=maxLen)(x:base<=w.heap.size)
  (y:∀d f,aR enc e sz base f d (xs++ys)->w.grownBy f s.ownBlock->(d.ownBlock=s.ownBlock\/d.ownBlock=some w.heap.size)->j d f):lQ P g e sz b s (.slice (some a) m c) w j t:=by
 subst q;refine _i λ⟨z,A,B,C,G,H,I,J,K⟩=>?_;obtain⟨d,f,L,M,N,_,O⟩:=run_append_own_at (P:=P) w base g g e A B sz b z C G H I J K s _ _ k a _ c _ (mW l ys) p (λi Q=>by obtain⟨h,_,S⟩:=List.mem_flatMap.1 Q;exact r h i S) v u x;refine⟨g,d,f,L,y d f ?_ N O⟩;unfold aR;rw[Jv,AJ6];exact M
def qm(v:B_)(base k:Nat):Prop:=v.ownBlock=some k\/k<base
structure eo{α:Type}(C:World->List Value->α->Prop)(e:TypeId)(sz base:Nat)(w:World)(v:Value)(xs:List α):Prop where
 ex:∃bL:List (hp sz),bL.length=xs.length/\ng e sz base w v bL/\∀i (I:i<bL.length) (U:i<xs.length),gF (qm v base) (λw=>C w bL[i].1 xs[i]) w
section
variable{α:Type}{C:World->List Value->α->Prop}{e:TypeId}{sz base:Nat}{w w':World}{v:Value}{xs:List α}
def eo.nil(C:A_->C_ B_->α->Prop)(e:F_)(sz base:Nat)(w:A_):eo C e sz base w (.slice none 0 0) []:=⟨[],rfl,aR.nil _ _ _ _ _,λb a=>by cases a⟩
def eo.form(h:eo C e sz base w v xs):∃b a,v = .slice b xs.length a/\xs.length<=a/\a<=maxLen:=by
 obtain⟨i,c,d,_⟩:=h.ex;obtain⟨b,a,f,j,g⟩:=d.form;exact⟨b,a,by rw[f,c],AW,g⟩
def eo.lt(h:eo C e sz base w v xs):∀a,v.ownBlock=some a->base<=a/\a<w.heap.size:=by
 obtain⟨c,d,b,_⟩:=h.ex;exact b.lt
def aR.mod{enc:α->C_ B_}{A:Nat->Prop}(h:aR enc e sz base w v xs)(m:Mod A w w')(c:∀a,v.ownBlock=some a->¬A a):aR enc e sz base w' v xs:=by
 refine⟨h.1,?_⟩;rcases h.2 with d | ⟨b,cap,cur,rfl,f,g,rest⟩
 .exact .inl d
 .exact .inr ⟨b,cap,cur,rfl,f,m.obj (c b rfl) g,rest⟩
def aR.b0{enc:α->C_ B_}(h:aR enc e sz base w v xs):∀a,v.ownBlock=some a->∃b,w.heap[a]? = some (.cells b e):=λa c=>by
 rcases h.2 with ⟨rfl,_⟩ | ⟨f,cap,b,rfl,g,d,rest⟩
 .cases c
 .simp only[Value.ownBlock,Option.some.injEq] at c;subst c;exact⟨b,d⟩
def eo.mod{A:Nat->Prop}(h:eo C e sz base w v xs)(m:Mod A w w')(d:∀a,a<w.heap.size->A a->a<base):eo C e sz base w' v xs:=by
 obtain⟨g,i,f,j⟩:=h.ex;refine⟨g,i,f.mod m λa k b=>?_,λc l n=>(j c l n).move m (λc p b=>.inr (d c p b)) λ_ _ b=>b⟩
 have:=f.lt a k
 have:=d a this.2 b
 omega
theorem eo.ext(h:eo C e sz base w v xs)(m:Ext w w'):eo C e sz base w' v xs:=h.mod (A:=λ_=>False) m.mod λ_ _ h=>h.elim
def eo.wr{b:Nat}(h:eo C e sz base w v xs)(m:dY b w w')(c:b<base):eo C e sz base w' v xs:=h.mod (A:=λa=>a=b) (m.mod rfl) λa _ e=>AW
def eo.new{R:A_->Addr->α->Prop}[Rel R C sz](h:eo C e sz base w v xs):gF (λa=>a<base) (λw=>a4 sz R w v xs) w:=λw' b=>by
 have c:=h.mod b λa _ d=>d;obtain⟨m,f,g,i⟩:=c.ex;exact a4.B4 f (g.iw hs) λj k l=>(i j k l).here
def eo.iw{R:A_->Addr->α->Prop}[Rel R C sz](h:eo C e sz base w v xs):a4 sz R w v xs:=(h.new (R:=R)).here
def eo.under(h:eo C e sz base w v xs)(c:base<=w.heap.size):∀a,qm v base a->a<w.heap.size:=λa b=>by
 rcases b with b | b
 .exact(h.lt a b).2
 .omega
def ei.own{p:A_->Prop}{w1:A_}(a:ei w p w1)(h:eo C e sz base w v xs)(b:base<=w.heap.size):gF (qm v base) p w1:=a.mono λc _ d=>h.under b c d
theorem eo.box{t:F_}{k:Nat}{c:Array B_}(b:eo C e sz base w v xs)(f:w.grownBy w' v.ownBlock)(a:w.heap[k]? = some (.cells c t))(g:t≠e):w'.heap[k]? = some (.cells c t):=by
 obtain⟨i,_,b,_⟩:=b.ex;rw[f.block k (ca a) λd=>?_]
 .exact a
 rcases b.2 with ⟨rfl,_⟩ | ⟨j,cap,bj,rfl,_,h,_⟩
 .cases d
 .simp only[Value.ownBlock,Option.some.injEq] at d;subst d;rw[h] at a;injection a with a
  injection a with _ a
  exact g a.symm
def eo.hN{w0:A_}(a:eo C e sz base w v xs)(b:Ext w0 w)(c:w.grownBy w' v.ownBlock)(d:w0.heap.size<=base):Ext w0 w':=b.grown c λf g=>T6 d (a.lt f g).1
def _A{P:D_}{p:B_->A_->Prop}{y:F_}{b:Nat}{a:Addr}{c:Nat}{cs:C_ B_}{x:α}{t}(z:eo C e sz base w v xs)(A:fx w a cs)(B:gF (qm v base) (λw=>C w cs x) w)
  (q:cs.length=sz)(h:∀G∈cs,G.oneCell'=true)(H:(xs.length+1)*b<=140737488355328)(I:xs.length+1<=maxLen)(J:base<=w.heap.size)
  (i:∀g w',eo C e sz base w' g (xs++[x])->w.grownBy w' v.ownBlock->p g w'):lQ P y e sz b v (.slice (some a) 1 c) w p t:=by
 obtain⟨j,m,K,L⟩:=z.ex;refine _J (enc:=iO) (ys:=[(⟨cs,q,h⟩:hp sz)]) K hs (by simpa[iO] using A) rfl rp (by rw[m];exact H) (by rw[m];exact I) J λg w' M r N=>i g w' ⟨j++[⟨cs,q,h⟩],by simp[m],M,λd h O=>?_⟩ r;have Q:Mod (λf=>v.ownBlock=some f) w w':=Mod.grown r λf i=>i;have S:∀f,f<w.heap.size->g.ownBlock=some f->qm v base f:=λf i k=>by
  rcases N with e | e
  .exact .inl (e ▸ k)
  .rw[e] at k;injection k with k;omega
 have s:∀{n:A_->Prop},gF (qm v base) n w->gF (qm g base) n w':=λ{n} U=>U.move Q (λd _ a=>.inl a) λd l a=>by
  rcases a with a | a
  .exact S d l a
  .exact .inr a
 rw[Jv] at h O;by_cases l:d<j.length
 .have u:d<xs.length:=AW
  have:=s (L d l u)
  simpa[List.getElem_append,l,u] using this
 .have V:d=j.length:=by simp at h;omega
  subst V;have W:¬j.length<xs.length:=AW
  have:=s B
  simpa[List.getElem_append,W] using this
end
section
variable{α:Type}{enc:α->List Value}{e:TypeId}{sz base:Nat}{w w':World}{v:Value}{xs:List α}
theorem aR.box{t:F_}{k:Nat}{c:Array B_}(d:aR enc e sz base w v xs)(f:w.grownBy w' v.ownBlock)(b:w.heap[k]? = some (.cells c t))(g:t≠e):w'.heap[k]? = some (.cells c t):=by
 rw[f.block k (ca b) λh=>?_]
 .exact b
 .obtain⟨cur,a⟩:=d.b0 k h.symm;rw[b] at a;injection a with a;injection a with _ a;exact g a
def aR.hN{w0:A_}(a:aR enc e sz base w v xs)(b:Ext w0 w)(c:w.grownBy w' v.ownBlock)(d:w0.heap.size<=base):Ext w0 w':=b.grown c λf g=>T6 d (a.lt f g).1
def T_{P:D_}{c:B_->A_->Prop}{i:F_}{d b:Nat}{y:α}{cs:C_ B_}{t}(j:aR enc e sz base w v xs)(k:w.heap[b]? = some (.cells cs.toArray e))(l:cs=enc y)(m:∀n,(enc n).length=sz)(p:∀y,∀q∈enc y,q.oneCell'=true)
  (r:(xs.length+1)*d<=140737488355328)(s:xs.length+1<=maxLen)(u:base<=w.heap.size)
  (x:∀a f g w',aR enc e sz base w' (.slice a f g) (xs++[y])->w.grownBy w' v.ownBlock->c (.slice a f g) w'):lQ P i e sz d v (.slice (some ⟨b,0,none⟩) 1 1) w c t:=by
 refine _J (ys:=[y]) j m (by subst l;simpa using gP k) rfl p r s u λA w' h z _=>?_;obtain⟨a,B,rfl,_⟩:=h.form;exact x _ _ _ _ h z
end
def Vn{α:Type}{l:C_ α}{k b:Nat}(a:k<l.length)(d:l.length*b<=140737488351232)(e:l.length<=9223372036854775807):((l.take k).length+1)*b<=140737488355328/\(l.take k).length+1<=maxLen:=by
 have c:(l.take k).length=k:=by rw[NU];omega
 rw[c]
 have:=AJ0 b (show k+1<=l.length from a)
 exact⟨AW,by unfold maxLen;omega⟩
def eo.snoc{α:Type}{C:A_->C_ B_->α->Prop}{e:F_}{sz base:Nat}{w:A_}{v:B_}{l:C_ α}{k:Nat}(a:k<l.length)(h:eo C e sz base w v (l.take k++[l[k]])):eo C e sz base w v (l.take (k+1)):=by
 rw[NZ a];exact h
def eo.done{α:Type}{C:A_->C_ B_->α->Prop}{e:F_}{sz base:Nat}{w:A_}{v:B_}{l:C_ α}{k:Nat}(a:l.length<=k)(h:eo C e sz base w v (l.take k)):eo C e sz base w v l:=by
 rwa[Im a] at h
end a8
namespace a8
open Go Go.RowKit
inductive kv where
 | i
 | b
 | s
deriving DecidableEq
def kv.of:TypeDesc->H_ kv
 | .int .i64=>some .i
 | .bool=>some .b
 | .string=>some .s
 | _=>none
def kv.auw{a:TypeDesc}(h:kv.of a=some .i):a = .int .i64:=by unfold kv.of at h;split at h<;>simp_all
def kv.auv{a:TypeDesc}(h:kv.of a=some .b):a = .bool:=by unfold kv.of at h;split at h<;>simp_all
def kv.auy{a:TypeDesc}(h:kv.of a=some .s):a = .string:=by unfold kv.of at h;split at h<;>simp_all
def kv.ok:kv->B_->Prop
 | .i,a => ∃b,a = .int .i64 b
 | .b,a => ∃b,a = .bool b
 | .s,a => ∃b,a = .string b
def tf:C_ kv->C_ B_->Prop
 | [],[]=>True
 | a :: b,c :: d=>a.ok c/\tf b d
 | _,_=>False
theorem QI:∀{b:C_ kv} {c:C_ B_},tf b c->c.length=b.length
 | [],[],_=>rfl
 | _ :: _,_ :: _,a=>by simp[QI a.2]
 | [],_ :: _,a=>a.elim
 | _ :: _,[],a=>a.elim
def Dm(P:D_):C_ Field->C_ kv->Nat->Bool
 | [],[],_=>true
 | f :: fV,k :: mD,n=>f.name != "_" && f.offset == n&&((P.underlying f.type).bind kv.of == some k)&&Dm P fV mD (n+1)
 | _,_,_=>false
def J9(P:D_)(t:F_)(sig:C_ kv):Bool :=
 match P.underlying t with
 | some (.struct a) => !P.stoodInHeld t && !P.eqGuardType P.depth t&&Dm P a.toList sig 0
 | _=>false
def drop_cons{α:Type}{l:C_ α}{n:Nat}{x:α}{r:C_ α}(h:l.drop n=x :: r):l[n]? = some x/\l.drop (n+1)=r:=by
 have a:l[n]? = some x:=by
  have:=congrArg (·[0]?) h
  simpa using this
 refine⟨a,?_⟩
 have:=congrArg (List.drop 1) h
 simpa[List.drop_drop] using this
theorem aba{P:D_}(w:A_)(d:Nat)(xs ys:Array B_):∀(m:C_ Field) (h:C_ kv) (a:Nat),Dm P m h a=true->tf h (xs.toList.drop a)->tf h (ys.toList.drop a) ->
  ∃n:Bool,(Op.eqFields (d+1) xs ys m).run P w = .ok n w/\(n=true↔xs.toList.drop a=ys.toList.drop a)
 | [],[],a,_,c,e=>by
  refine⟨true,by simp[Op.eqFields],?_⟩;have v:=QI c;have p:=QI e;rw[AG1 v,AG1 p];simp
 | [],_ :: _,_,g,_,_=>by simp[Dm] at g
 | _ :: _,[],_,g,_,_=>by simp[Dm] at g
 | f :: m,G :: h,a,g,c,e=>by
  simp only[Dm,Bool.and_eq_true,bne_iff_ne,ne_eq,beq_iff_eq] at g;obtain⟨⟨⟨v,p⟩,H⟩,I⟩:=g;obtain⟨J,q,r⟩:=Option.bind_eq_some_iff.1 H;cases x:xs.toList.drop a with
  | nil=>rw[x] at c;exact c.elim
  | cons t rx =>
   cases y:ys.toList.drop a with
   | nil=>rw[y] at e;exact e.elim
   | cons u X =>
    rw[x] at c;rw[y] at e;obtain⟨K,z⟩:=drop_cons x;obtain⟨L,A⟩:=drop_cons y;obtain⟨n,M,B⟩:=aba w d xs ys m h (a+1) I (by rw[z];exact c.2) (by rw[A];exact e.2);have C:tZ P f.type=some false:=by
     unfold tZ;rw[q];cases J<;>simp[kv.of] at r<;>rfl
    have N:xs[a]? = some t:=by rw[<-Array.getElem?_toList];exact K
    have O:ys[a]? = some u:=by rw[<-Array.getElem?_toList];exact L
    have Q:(part f.type xs f.offset).run P w = .ok t w:=by simp[part,Ce C,p,N]
    have S:(part f.type ys f.offset).run P w = .ok u w:=by simp[part,Ce C,p,O]
    have U:∃j:Bool,(Op.equalIn (d+1) f.type t u).run P w = .ok j w/\(j=true↔t=u):=by
     cases G with
     | i =>
      obtain⟨k,rfl⟩:=c.1;obtain⟨b,rfl⟩:=e.1;have l:=kv.auw r;subst l;exact⟨_,run_equalIn_int w d f.type .i64 .i64 k b q,Ah⟩
     | b =>
      obtain⟨k,rfl⟩:=c.1;obtain⟨b,rfl⟩:=e.1;have l:=kv.auv r;subst l;exact⟨_,run_equalIn_bool' w d f.type k b q,Ah⟩
     | s =>
      obtain⟨k,rfl⟩:=c.1;obtain⟨b,rfl⟩:=e.1;have l:=kv.auy r;subst l;exact⟨_,run_equalIn_string w d f.type k b q,by rw[<-beq_toListBytes];simp⟩
    obtain⟨j,V,W⟩:=U;refine⟨j&&n,?_,?_⟩
    .simp only[Op.eqFields,v,ne_eq,not_false_eq_true,if_true,Sem.run_bind,Q,S,V,Result.andThen_ok];cases j
     .simp
     .simpa using M
    .rw[z,A] at B;simp only[Bool.and_eq_true,W,B,List.cons.injEq]
theorem aha{P:D_}{t:F_}{sig:C_ kv}(h:J9 P t sig=true)(w:A_){xs ys:C_ B_}(l:tf sig xs)(m:tf sig ys)(x y:G_) :
  ∃a:Bool,(a=true↔xs=ys)/\∀w,(do eqGuard .eql t x y (.agg xs.toArray) (.agg ys.toArray);binOp .eql t (.agg xs.toArray) (.agg ys.toArray):Sem B_).run P w = .ok (.bool a) w /\
   (do eqGuard .neq t x y (.agg xs.toArray) (.agg ys.toArray);binOp .neq t (.agg xs.toArray) (.agg ys.toArray):Sem B_).run P w = .ok (.bool (!a)) w:=by
 unfold J9 at h;cases hu:P.underlying t with
 | none=>rw[hu] at h;cases h
 | some n =>
  cases n<;>simp[hu] at h;rename_i e;obtain⟨⟨p,f⟩,q⟩:=h;have g:P.fieldsOf t=e:=by simp[Program.fieldsOf,hu]
  have i:∀w,∃a:Bool,(Op.equalIn 10000 t (.agg xs.toArray) (.agg ys.toArray)).run P w = .ok a w/\(a=true↔xs=ys):=λw=>by
   obtain⟨a,r,c⟩:=aba (P:=P) w 9998 xs.toArray ys.toArray e.toList sig 0 q (by simpa using l) (by simpa using m);refine⟨a,?_,by simpa using c⟩;rw[run_equalIn_struct w 9999 t _ _ (by rw[g];exact hu) p,g];exact r
  obtain⟨a,_,c⟩:=i w;refine⟨a,c,λd=>?_⟩;obtain⟨s,j,k⟩:=i d
  have:s=a:=by
   rcases Bool.eq_false_or_eq_true a with b | b
   .rw[b];exact k.2 (c.1 b)
   .rw[b];exact Bool.eq_false_iff.2 λh=>by rw[c.2 (k.1 h)] at b;cases b
  subst this;refine⟨?_,?_⟩
  .simp only[Sem.run_bind,run_eqGuard_agg d .eql t x y _ _ f,Result.andThen_ok,run_eql_struct,j]
  .simp only[Sem.run_bind,run_eqGuard_agg d .neq t x y _ _ f,Result.andThen_ok,run_neq_struct,j]
section
variable{P:Program}{a9:Value->Prop}{dx dL:Operand}
def AA1{t:F_}{sig:C_ kv}{xs ys:C_ B_}{b}(h:J9 P t sig=true)(c:tf sig xs)(d:tf sig ys)(e:∀a:Bool,(a=true↔xs=ys)->a9 (.bool a)):h4 P .eql t dx dL (.agg xs.toArray) (.agg ys.toArray) a9 b:=by
 obtain⟨a,f,g⟩:=aha h default c d dx dL;exact _Q (λi=>(g i).1) (e a f)
def AC1{t:F_}{sig:C_ kv}{xs ys:C_ B_}{b}(h:J9 P t sig=true)(c:tf sig xs)(d:tf sig ys)(e:∀a:Bool,(a=true↔xs≠ys)->a9 (.bool a)):h4 P .neq t dx dL (.agg xs.toArray) (.agg ys.toArray) a9 b:=by
 obtain⟨a,f,g⟩:=aha h default c d dx dL;exact _Q (λi=>(g i).2) (e (!a) (by rw[ne_eq,<-f];cases a<;>simp))
def AA2{t e:F_}{a:H_ Addr}{l c:Nat}{b}(h:P.underlying t=some (.slice e))(d:a9 (.bool a.isNone)):h4 P .eql t dx dL (.slice a l c) (.slice none 0 0) a9 b :=
 _Q (v:=.bool a.isNone) (λf=>by simp[eqGuard_at_slice,binOp,run_equal_slice_nil f t e a l c h]) d
end
end a8
namespace a8
open Go Go.RowKit
section
variable{P:Program}{w0 w:World}{S:Fr}{K:Fr->World->Prop}
def strip:e5->C_ Step×e5
 | .take b a=>(b :: (strip a).1,(strip a).2)
 | t=>([],t)
theorem EL:∀(c:e5) (S:Fr),u5 P (strip c).1 S w0 (λe=>oc P w0 (strip c).2 e w K)->oc P w0 c S w K
 | .take ⟨f,none,g⟩ b,S,a=>by
  show nj P g S w0 λd=>oc P w0 b (put S f d) w K;have j:nj P g S w0 λd=>u5 P (strip b).1 (put S f d) w0 (λe=>oc P w0 (strip b).2 e w K):=a;exact nj.mono (λd h=>EL b _ h) j
 | .take ⟨f,some (p,q),g⟩ b,S,a=>by
  rcases a with ⟨c,k,l,m⟩ | ⟨hu,n⟩
  .exact .inl ⟨c,k,λi=>nj.mono (λd h=>EL b _ h) (l i),λi=>EL b _ (m i)⟩
  .exact .inr ⟨hu,EL b _ n⟩
 | .done,S,a=>a
 | .nil,S,a=>a
 | .alt _ _ _,S,a=>a
 | .gv _ _ _,S,a=>a
 | .wide _,S,a=>a
def ahT{b n:Nat}{c cs:Array B_}{e:F_}{f:A_->Prop}(a:w.heap[b]? = some (.cells c e))(k:c.size=n)(g:cs.size=n)(h:∀i∈cs.toList,i.oneCell'=true)
  (j:∀d,dY b w d->d.heap[b]? = some (.cells cs e)->f d):CP n (.pointer (some ⟨b,0,none⟩)) (.agg cs) w f :=
 VG g (λl m=>⟨⟨_,gD a (Array.getElem?_eq_getElem AW)⟩,by rw[add_eq];simp[World.frozen?,a]⟩) h (j _ (dY.k0 cs.toList w ⟨b,0,none⟩ 0) (ahy a AW))
structure vt where
 d:Nat
 ty:TypeId
 z:Array Value
 n:Nat
 x:Nat
def vt.new(v:vt):Step:=⟨some v.d,none,.e (.new v.ty (.agg v.z))⟩
def vt.st(v:vt):Step:=⟨none,none,.e (.mJ v.n (.tmp v.d) (.tmp v.x))⟩
theorem ajM(v:vt)(k:Fr->A_->Prop):Fx P w0 v.st S w k=CP v.n (S v.d) (S v.x) w (λa=>Ext w0 a/\k S a):=rfl
theorem anv(v:vt)(k:Fr->A_->Prop):mu P v.st S w k=CP v.n (S v.d) (S v.x) w (λa=>k S a):=rfl
def ail(a b:vt):e5 :=
 .alt a.new (.alt b.new (.alt a.st (.gv b.st .done .nil) .nil) .nil) (.alt b.new (.alt a.new (.alt a.st (.gv b.st .done .nil) .nil) .nil) .nil)
def ayr(S:Fr){a b:Nat}(h:a≠b)(x y:B_):cz (cz S a x) b y=cz (cz S b y) a x:=by
 funext c;unfold cz;split<;>split<;>simp_all
def ayk(a b:vt){g h:C_ B_}(q:(a.d != b.d&&a.x != a.d&&a.x != b.d&&b.x != a.d&&b.x != b.d)=true)(y:a.z.size=a.n)(z:b.z.size=b.n)(A:S a.x = .agg g.toArray)(B:S b.x = .agg h.toArray)(C:g.length=a.n)(G:h.length=b.n)
  (H:∀k∈g,k.oneCell'=true)(I:∀k∈h,k.oneCell'=true)
  (J:∀j c d,Ext w0 j->w0.heap.size<=c->w0.heap.size<=d->c≠d->j.heap[c]? = some (.cells g.toArray a.ty)->j.heap[d]? = some (.cells h.toArray b.ty) ->
   K (cz (cz S a.d (.pointer (some ⟨c,0,none⟩))) b.d (.pointer (some ⟨d,0,none⟩))) j):oc P w0 (ail a b) S w0 K:=by
 simp only[Bool.and_eq_true,bne_iff_ne,ne_eq] at q;obtain⟨⟨⟨⟨r,L⟩,M⟩,N⟩,O⟩:=q;have s:∀(l:Fr) (i:A_) (c d:Nat),l=cz (cz S a.d (.pointer (some ⟨c,0,none⟩))) b.d (.pointer (some ⟨d,0,none⟩))->Ext w0 i->w0.heap.size<=c->w0.heap.size<=d->c≠d ->
   i.heap[c]? = some (.cells a.z a.ty)->i.heap[d]? = some (.cells b.z b.ty)->oc P w0 (.alt a.st (.gv b.st .done .nil) .nil) l i K:=by
  rintro l i c d rfl t m u n Q U;refine⟨?_,trivial⟩;have V:cz (cz S a.d (.pointer (some ⟨c,0,none⟩))) b.d (.pointer (some ⟨d,0,none⟩)) a.d = .pointer (some ⟨c,0,none⟩):=by simp[cz,r]
  have W:cz (cz S a.d (.pointer (some ⟨c,0,none⟩))) b.d (.pointer (some ⟨d,0,none⟩)) a.x = .agg g.toArray:=by simp[cz,L,M,A]
  have X:cz (cz S a.d (.pointer (some ⟨c,0,none⟩))) b.d (.pointer (some ⟨d,0,none⟩)) b.d = .pointer (some ⟨d,0,none⟩):=by simp[cz]
  have Y:cz (cz S a.d (.pointer (some ⟨c,0,none⟩))) b.d (.pointer (some ⟨d,0,none⟩)) b.x = .agg h.toArray:=by simp[cz,N,O,B]
  rw[ajM,V,W];refine ahT Q y (by simpa using C) (by simpa using H) λaf p Z=>⟨p.ext t m,?_⟩;refine⟨?_,trivial⟩;rw[anv,X,Y];refine ahT (p.obj U (Ne.symm n)) z (by simpa using G) (by simpa using I) λab v ae=>?_;exact J ab c d (v.ext (p.ext t m) u) m u n (v.obj Z n) ae
 have w:∀(e f:Obj),((w0.alloc e).alloc f).heap[w0.heap.size]? = some e:=λe f=>((Ext.refl (w0.alloc e)).alloc f).obj (heap_alloc_new w0 e);have x:∀(e f:Obj),((w0.alloc e).alloc f).heap[w0.heap.size+1]? = some f:=λe f=>by
  have:=heap_alloc_new (w0.alloc e) f
  rwa[World.size_alloc] at this
 refine⟨⟨(Ext.refl _).alloc _,⟨((Ext.refl _).alloc _).alloc _,?_⟩,trivial⟩,⟨(Ext.refl _).alloc _,⟨((Ext.refl _).alloc _).alloc _,?_⟩,trivial⟩,trivial⟩
 .refine s _ _ w0.heap.size (w0.heap.size+1) ?_ (((Ext.refl _).alloc _).alloc _) (Fy _) AW AW (w _ _) (x _ _);show cz (cz S a.d _) b.d (.pointer (some ⟨(w0.alloc _).heap.size,0,none⟩))=_;rw[World.size_alloc]
 .refine s _ _ (w0.heap.size+1) w0.heap.size ?_ (((Ext.refl _).alloc _).alloc _) AW (Fy _) AW (x _ _) (w _ _);show cz (cz S b.d _) a.d (.pointer (some ⟨(w0.alloc _).heap.size,0,none⟩))=_;rw[World.size_alloc,ayr S (Ne.symm r)]
def AF4{Q:fG->Fr->A_->Prop}{t:e5}{v:fg}{x}(l:C_ Step)(b:Nat)(p:F_)(q:Array B_)(k g c:Nat)(r:F_)(s:Array B_)(m h:Nat)(y:strip t=(l,ail ⟨b,p,q,k,g⟩ ⟨c,r,s,m,h⟩))(z:(b != c&&g != b&&g != c&&h != b&&h != c)=true)(A:q.size=k)(B:s.size=m)
  (C:∀a,Ext w a->sN P l S a (λn => ∃i j:C_ B_,n g = .agg i.toArray/\n h = .agg j.toArray/\i.length=k/\j.length=m/\(∀u∈i,u.oneCell'=true)/\(∀u∈j,u.oneCell'=true) /\
   ∀d e f,Ext a d->a.heap.size<=e->a.heap.size<=f->e≠f->d.heap[e]? = some (.cells i.toArray p)->d.heap[f]? = some (.cells j.toArray r) ->
    fa P v Q (cz (cz n b (.pointer (some ⟨e,0,none⟩))) c (.pointer (some ⟨f,0,none⟩))) d ⟨⟩) ⟨⟩):fa P (.seq (.p7 t) v) Q S w x:=by
 unfold fa sN at *;show dI P (.p7 t) _ S w;intro a G;refine EL t S ?_;have H:=C a G;rw[y];refine Ca l S a _ _ (λn _ I=>?_) H;obtain⟨i,j,J,K,L,M,N,O,U⟩:=I;exact ayk ⟨b,p,q,k,g⟩ ⟨c,r,s,m,h⟩ z A B J K L M N O λd e f V W X Y Z ab=>U d e f V W X Y Z ab
def gY(w0 w w':A_)(p:A_->Prop):Prop := ∀a,Ext w0 a->w'.heap.size<=a.heap.size->(∀b,w.heap.size<=b->b<w'.heap.size->a.heap[b]? = w'.heap[b]?)->p a
structure azu(w0:World)(a b:vt)(S:Fr)(B7 B8:List Value->World->Prop)(mr zi oP ll:Bool)(aH:Fr)(w:World)(py qb:List Value)(pn a2 gR ak x9 ya:Nat):Prop where
 ext:Ext w0 w
 pJ:∀t,t≠a.d->t≠b.d->t≠a.x->t≠b.x->aH t=S t
 cX:mr=true->aH a.x = .agg py.toArray/\py.length=a.n/\(∀u∈py,u.oneCell'=true)/\a2<=w.heap.size/\∀bx,Ext w0 bx->w.heap.size<=bx.heap.size->(∀k,pn<=k->k<a2->bx.heap[k]? = w.heap[k]?)->B7 py bx
 bf:zi=true->aH b.x = .agg qb.toArray/\qb.length=b.n/\(∀u∈qb,u.oneCell'=true)/\ak<=w.heap.size/\∀bx,Ext w0 bx->w.heap.size<=bx.heap.size->(∀k,gR<=k->k<ak->bx.heap[k]? = w.heap[k]?)->B8 qb bx
 cP:oP=true->aH a.d = .pointer (some ⟨x9,0,none⟩)/\w0.heap.size<=x9/\x9<w.heap.size/\w.heap[x9]? = some (.cells a.z a.ty)
 bV:ll=true->aH b.d = .pointer (some ⟨ya,0,none⟩)/\w0.heap.size<=ya/\ya<w.heap.size/\w.heap[ya]? = some (.cells b.z b.ty)
 rf:mr=true->oP=true->x9<pn\/a2<=x9
 sa:mr=true->ll=true->ya<pn\/a2<=ya
 g1:zi=true->oP=true->x9<gR\/ak<=x9
 fz:zi=true->ll=true->ya<gR\/ak<=ya
 u1:oP=true->ll=true->x9≠ya
structure azr(a b:vt):Prop where
 d12:a.d≠b.d
 d13:a.d≠a.x
 d14:a.d≠b.x
 d23:b.d≠a.x
 d24:b.d≠b.x
 d34:a.x≠b.x
end
end a8
namespace a8
open Go Go.RowKit
def Step.num(s:Step):Nat:=match s.dst with | some a=>a | none=>100000
section
variable(P:Program)(w0:World)(cE:List Nat->Fr->World->Prop)
def Je(D:C_ Nat)(s:Step):Prop:=s.g=none/\∀a b,cE D a b->lq P s.i a b λd c=>Ext w0 c/\cE (s.num :: D) (put a s.dst d) c
def RunT(D:C_ Nat)(s:Step):Prop:=s.g=none/\∀a b,cE D a b->nj P s.i a w0 λc=>cE (s.num :: D) (put a s.dst c) b
def mj(b:C_ Nat):C_ Nat->e5->Prop
 | D,.done => ∀e∈b,e∈D
 | _,.nil=>True
 | D,.take a c=>RunT P w0 cE D a/\mj b (a.num :: D) c
 | D,.alt a c d=>(Je P w0 cE D a/\mj b (a.num :: D) c)/\mj b D d
 | D,.gv a c d=>(Je P w0 cE D a/\mj b (a.num :: D) c)/\mj b D d
 | _,.wide _=>False
variable{P w0 cE}
def mj.alt{a D:C_ Nat}{s:Step}{r m:e5}(b:Je P w0 cE D s)(c:mj P w0 cE a (s.num :: D) r)(d:mj P w0 cE a D m):mj P w0 cE a D (.alt s r m):=⟨⟨b,c⟩,d⟩
def mj.gv{a D:C_ Nat}{s:Step}{r m:e5}(b:Je P w0 cE D s)(c:mj P w0 cE a (s.num :: D) r)(d:mj P w0 cE a D m):mj P w0 cE a D (.gv s r m):=⟨⟨b,c⟩,d⟩
def mj.take{a D:C_ Nat}{s:Step}{r:e5}(b:RunT P w0 cE D s)(c:mj P w0 cE a (s.num :: D) r):mj P w0 cE a D (.take s r):=⟨b,c⟩
def mj.nil{a D:C_ Nat}:mj P w0 cE a D .nil:=trivial
def mj.done{a D:C_ Nat}(h:∀b∈a,b∈D):mj P w0 cE a D .done:=h
variable(P w0 cE)
theorem ED{r:C_ Nat}{K:Fr->A_->Prop}(g:∀D a b,(∀h∈r,h∈D)->cE D a b->K a b):∀(s:e5) (D:C_ Nat) (a:Fr) (b:A_),mj P w0 cE r D s->cE D a b->oc P w0 s a b K
 | .done,D,a,b,c,d=>g D a b c d
 | .nil,_,_,_,_,_=>trivial
 | .take ⟨h,t,n⟩ f,D,a,b,c,d=>by
  obtain⟨⟨k,l⟩,m⟩:=c;cases k;exact nj.mono (λi j=>ED g f _ _ b m j) (l a b d)
 | .alt ⟨h,t,n⟩ f p,D,a,b,c,d=>by
  obtain⟨⟨⟨k,l⟩,m⟩,q⟩:=c;cases k;refine⟨?_,ED g p D a b q d⟩;show lq P n a b λi e=>Ext w0 e/\oc P w0 f (put a h i) e K;exact lq.mono (λi e j=>⟨j.1,ED g f _ _ e m j.2⟩) (l a b d)
 | .gv ⟨h,t,n⟩ f p,D,a,b,c,d=>by
  obtain⟨⟨⟨k,l⟩,m⟩,q⟩:=c;cases k;refine⟨?_,ED g p D a b q d⟩;show lr P n a b λi e=>oc P w0 f (put a h i) e K;refine lr.of ?_;exact lq.mono (λi e j=>ED g f _ _ e m j.2) (l a b d)
 | .wide _,_,_,_,c,_=>c.elim
end
def AF5{P:D_}{w:A_}{S:Fr}{Q:fG->Fr->A_->Prop}{t:e5}{h}(l:C_ Step)(c:e5)(i:strip t=(l,c))
  (j:∀a,Ext w a->sN P l S a (λd => ∃b e,mj P a b e [] c/\b [] d a/\∀D f g,(∀k∈e,k∈D)->b D f g->Q .normal f g) ⟨⟩):fa P (.p7 t) Q S w h:=by
 unfold fa sN at *;show dI P (.p7 t) _ S w;intro a m;refine EL t S ?_;have n:=j a m;rw[i];refine Ca l S a _ _ (λd _ p=>?_) n;obtain⟨b,e,q,r,s⟩:=p;exact ED P a b s c [] d a q r
end a8
namespace a8
open Go Go.RowKit
def _y{P:D_}{w1 w:A_}{S:Fr}{t:e5}{K:Fr->A_->Prop}{a}(h:∃C:A_->Prop,C w/\eL P C t S w K):lO P w1 (.wide t) S w K a:=by
 unfold lO;exact h
section
variable{P:Program}{C:World->Prop}{S:Fr}{w:World}{K:Fr->World->Prop}
def eL.mr{k d x:Nat}{r:e5}{a:Addr}(b:S x = .pointer (some a))(h:eL P C r (cz S d (.pointer (some (a.add k)))) w K):eL P C (.take ⟨some d,none,.p (.mr k (.tmp x))⟩ r) S w K:=⟨a,b,h⟩
def eL.ck{d x:Nat}{r:e5}{a:Addr}{v:B_}(b:S x = .pointer (some a))(c:∀w,C w->w.cell? a=some v)(h:eL P C r (cz S d v) w K):eL P C (.take ⟨some d,none,.r (.ck (.tmp x))⟩ r) S w K :=
 ⟨v,λw e=>⟨a,v,b,c w e,rfl⟩,h⟩
def eL.CU{s:Step}{r:e5}(h:nr P C s S w λS w=>eL P C r S w K):eL P C (.alt s r .nil) S w K:=⟨h,trivial⟩
def eL.ig{s:Step}{r:e5}(h:mu P s S w λS w=>eL P C r S w K):eL P C (.gv s r .nil) S w K:=⟨h,trivial⟩
end
theorem nr.e{P:D_}{C:A_->Prop}{i:tO}{d:Nat}{S:Fr}{w:A_}{k:Fr->A_->Prop}(h:oW P i S w λb a=>C a/\k (put S (some d) b) a):nr P C ⟨some d,none,.e i⟩ S w k:=h
theorem mu.e{P:D_}{i:tO}{d:Nat}{S:Fr}{w:A_}{k:Fr->A_->Prop}(h:oW P i S w λa b=>k (put S (some d) a) b):mu P ⟨some d,none,.e i⟩ S w k:=h
def ajS{P:D_}{a e:F_}{sz b:Nat}{s x:B_}{w:A_}{K:B_->A_->Prop}(h:∀c,lQ P a e sz b s x w K c):Ar P a e sz b s x w K:=by
 have:=h ⟨⟩
 unfold lQ at this;exact this
def VI{x v:B_}{w:A_}{K:A_->Prop}(h:∀a,vr x v w K a):AF x v w K:=by
 have:=h ⟨⟩
 unfold vr at this;exact this
abbrev cy(s:H_ Addr×Nat×Nat):B_:=.slice s.1 s.2.1 s.2.2
def fK{β:Type}(f:Nat->β)(i:Nat)(v:β):Nat->β:=λa=>if a=i then v else f a
def Oe{β:Type}(f:Nat->β)(i:Nat)(v:β):fK f i v i=v:=by simp[fK]
def H4{β:Type}(f:Nat->β){i j:Nat}(v:β)(h:j≠i):fK f i v j=f j:=by simp[fK,h]
structure jN{α:Type}(enc:α->List Value)(e:TypeId)(sz base:Nat)(w:World)(n:Nat)(vs:Nat->Option Addr×Nat×Nat)(xs:Nat->List α):Prop where
 own:∀i,i<n->aR enc e sz base w (cy (vs i)) (xs i)
 apart:∀i j k,i<n->j<n->i≠j->(cy (vs i)).ownBlock=some k->(cy (vs j)).ownBlock≠some k
section
variable{α:Type}{enc:α->List Value}{e:TypeId}{sz base n:Nat}{w w':World}{vs:Nat->Option Addr×Nat×Nat}{xs:Nat->List α}
def jN.mod{A:Nat->Prop}(h:jN enc e sz base w n vs xs)(m:Mod A w w')(d:∀a b,a<n->(cy (vs a)).ownBlock=some b->¬A b):jN enc e sz base w' n vs xs :=
 ⟨λa c=>(h.own a c).mod m (d a · c),h.apart⟩
theorem jN.ext(h:jN enc e sz base w n vs xs)(m:Ext w w'):jN enc e sz base w' n vs xs:=h.mod (A:=λ_=>False) m.mod λ_ _ _ _ a=>a
def jN.not(h:jN enc e sz base w n vs xs){k:Nat}{c:Array B_}{t:F_}(d:w.heap[k]? = some (.cells c t))(f:t≠e):∀b,b<n->(cy (vs b)).ownBlock≠some k:=λb g i=>by
 obtain⟨j,a⟩:=(h.own b g).b0 k i;rw[d] at a;injection a with a;injection a with _ a;exact f a
def jN.lt(h:jN enc e sz base w n vs xs):∀b a,b<n->(cy (vs b)).ownBlock=some a->base<=a/\a<w.heap.size:=λb a c d=>(h.own b c).lt a d
def jN.app{P:D_}{t:B_->A_->Prop}{G:F_}{b:Nat}{a:Addr}{c:Nat}{y:α}(i:Nat)(q:i<n)(h:jN enc e sz base w n vs xs)(H:∀I,(enc I).length=sz)(J:fx w a (enc y))(K:∀y,∀L∈enc y,L.oneCell'=true)
  (M:((xs i).length+1)*b<=140737488355328)(N:(xs i).length+1<=maxLen)(O:base<=w.heap.size)
  (g:∀p w',jN enc e sz base w' n (fK vs i p) (fK xs i (xs i++[y]))->w.grownBy w' (cy (vs i)).ownBlock->p.2.1=(xs i).length+1->t (cy p) w'):Ar P G e sz b (cy (vs i)) (.slice (some a) 1 c) w t:=by
 refine ajS λV=>_J (ys:=[y]) (h.own i q) H (by simpa using J) rfl K M N O λp w' u v Q=>?_;obtain⟨x,z,rfl,_⟩:=u.form;refine g (x,(xs i++[y]).length,z) w' ⟨λk m=>?_,λk r d m A s f=>?_⟩ v Ah
 .by_cases j:k=i
  .subst j;rw[Oe,Oe];exact u
  .rw[H4 _ _ j,H4 _ _ j];exact(h.own k m).mod (A:=λd=>(cy (vs i)).ownBlock=some d) (Mod.grown v λd g=>g) λd g a=>h.apart k i d m q j g a
 .have key:∀l,l<n->l≠i->∀d,(cy (vs l)).ownBlock=some d->(Value.slice x (xs i++[y]).length z).ownBlock≠some d:=λl B S d g f=>by
   rcases Q with e | e
   .rw[e] at f;exact h.apart l i d B q S g f
   .rw[e] at f;injection f with f;have:=(h.lt l d B g).2;omega
  by_cases j:k=i
  .subst j;rw[Oe] at f;rw[H4 _ _ (Ne.symm s)];exact λU=>key r A (Ne.symm s) d U f
  .rw[H4 _ _ j] at f;by_cases C:r=i
   .subst C;rw[Oe];exact key k m j d f
   .rw[H4 _ _ C];exact h.apart k r d m A s f
end
end a8
namespace a8
open Go
def wD:H_ TypeInfo->Nat | some a=>a.size | none=>0
def Ql:H_ TypeInfo->Nat | some a=>a.bytes | none=>0
def aiX:H_ B_->B_ | some a=>a | none=>undef
def IK:H_ TypeInfo->B_ | some a=>aiX a.zero | none=>undef
def QC:B_->C_ B_ | .agg cs=>cs.toList | v=>[v]
def L9:H_ TypeDesc->Bool | some (.struct _)=>true | some (.array _ _)=>true | _=>false
def wX{α:Type}(d:α):C_ α->Nat->α
 | [],_=>d
 | a :: _,0=>a
 | _ :: b,c+1=>wX d b c
def afB:Field:={ name := "",type:=0,offset:=0,embedded:=false,tag := "",pkgPath := "",byteOffset:=0 }
def Ku:H_ TypeDesc->C_ Field | some (.struct a)=>a.toList | _=>[]
def N4(d:H_ TypeDesc)(f:Nat):Nat:=(wX afB (Ku d) f).offset
def Ro(d:H_ TypeDesc)(f:Nat):F_:=(wX afB (Ku d) f).type
def sk:H_ TypeDesc->F_ | some (.slice a)=>a | _=>0
def Z2(P:D_)(l:C_ G_)(c:C_ F_):Callee->lu
 | .value (.func d)=>.c (.fn d l)
 | .value (.tmp a)=>.c (.val (.tmp a) l)
 | .invoke a e=>.c (.inv a e l)
 | .builtin .append=>(match l,c with | [f,a],b :: _=>.e (.app b (sk (P.underlying b)) (wD P.types[sk (P.underlying b)]?) (Ql P.types[sk (P.underlying b)]?) f a) | _,_=>.p (.ps (.tmp 0)))
 | _=>(match l with | [a]=>.p (.D6 a) | _=>.p (.ps (.tmp 0)))
def UT(P:D_):C_ Field->C_ (Nat×Nat)
 | []=>[]
 | a :: b=>(a.offset,wD P.types[a.type]?) :: UT P b
def P5:C_ B_->C_ B_->C_ B_
 | [],a=>a
 | b :: c,a=>b :: P5 c a
def Vo:Nat->C_ B_->C_ B_
 | 0,_=>[]
 | b+1,a=>P5 a (Vo b a)
def TM(P:D_):Op->lu
 | .move b=>.p (.ps b)
 | .assign b=>.p (.ps b)
 | .pick d e f=>.p (.pick d e f)
 | .binOp op a b l _=>.p (.bin op a b l)
 | .unOp op _ b=>.p (.un op b)
 | .extract b g=>.p (.ext b g)
 | .nilCheck b=>.p (.sK b)
 | .makeFunc (.func c) e f=>.p (.z1 c e.toList f.toList)
 | .fieldAddr m b c=>.p (.mr (N4 (P.underlying m) c) b)
 | .indexAddr a b g=>.p (.ph (wD P.types[sk (P.underlying a)]?) b g)
 | .slice a b h n p=>.p (.kG (wD P.types[sk (P.underlying a)]?) b h n p)
 | .field a b c=>bif L9 (P.underlying (Ro (P.underlying a) c)) then .p (.Gd (N4 (P.underlying a) c) (wD P.types[Ro (P.underlying a) c]?) b) else .p (.sm (N4 (P.underlying a) c) b)
 | .build a i=>.p (.hL (QC (IK P.types[a]?)) (UT P (Ku (P.underlying a))) i.toList)
 | .buildSlice a j i=>.e (.hj (sk (P.underlying a)) j (wD P.types[sk (P.underlying a)]?) (Vo j (QC (IK P.types[sk (P.underlying a)]?))) i.toList)
 | .makeSlice a h d=>.e (.z4 (sk (P.underlying a)) (wD P.types[sk (P.underlying a)]?) (Ql P.types[sk (P.underlying a)]?) (IK P.types[sk (P.underlying a)]?) h d)
 | .makeInterface a b=>.p (.Ee a b)
 | .load a b=>bif L9 (P.underlying a) then .r (.lk (wD P.types[a]?) b) else .r (.ck b)
 | .store a b k=>bif L9 (P.underlying a) then .e (.mJ (wD P.types[a]?) b k) else .e (.st b k)
 | .box a b=>.e (.box a b)
 | .alloc a=>.e (.new a (IK P.types[a]?))
 | .call d=>Z2 P d.args.toList d.argTypes.toList d.callee
 | _=>.p (.ps (.tmp 0))
def FZ:C_ Oper->C_ (H_ Nat)
 | []=>[]
 | a :: b=>a.dst :: FZ b
def abM(b:Bool):H_ Nat->H_ (Nat×Bool)
 | none=>none
 | some a=>some (a,b)
def Rp(ds:C_ (H_ Nat)):H_ (Nat×Bool)->H_ (Nat×Bool)
 | none=>none
 | some (a,b)=>abM b (wX none ds a)
def Oo(P:D_)(ds:C_ (H_ Nat)):C_ Oper->C_ Step
 | []=>[]
 | a :: b=>⟨a.dst,Rp ds a.guard,TM P a.op⟩ :: Oo P ds b
inductive AE where
 | d
 | n
 | t (k:Nat) (r:AE)
 | q (k n:Nat) (r:AE)
 | a (k:Nat) (r m:AE)
 | f (k:Nat) (r m:AE)
 | w (r:AE)
def HT:Oper:={ dst:=none,op:=.move (.tmp 0),type:=0,pos := "",after:=#[],guard:=none }
def mJ(P:D_)(ds:C_ (H_ Nat))(a:Oper):Step:=⟨a.dst,Rp ds a.guard,TM P a.op⟩
def VU(P:D_)(ds:C_ (H_ Nat))(b:C_ Oper):Nat->Nat->e5->e5
 | _,0,a=>a
 | c,d+1,a=>.take (mJ P ds (wX HT b c)) (VU P ds b (c+1) d a)
def yi(P:D_)(ds:C_ (H_ Nat))(a:C_ Oper):AE->e5
 | .d=>.done
 | .n=>.nil
 | .t c b=>.take (mJ P ds (wX HT a c)) (yi P ds a b)
 | .q c e b=>VU P ds a c e (yi P ds a b)
 | .a c b d=>.alt (mJ P ds (wX HT a c)) (yi P ds a b) (yi P ds a d)
 | .f c b d=>.gv (mJ P ds (wX HT a c)) (yi P ds a b) (yi P ds a d)
 | .w b=>.wide (yi P ds a b)
inductive Jd where
 | c (x:fg)
 | s (x:AE)
 | w
def Ub(a:Nat):C_ (Nat×Jd)->H_ Jd
 | []=>none
 | (b,c) :: d=>if b=a then some c else Ub a d
def agS(P:D_)(a:C_ Oper):H_ Jd->fg
 | some (.c b)=>b
 | some (.s b)=>.p7 (yi P (FZ a) a b)
 | some .w=>.si (Oo P (FZ a) a)
 | none=>.cN (Oo P (FZ a) a)
def bh(P:D_)(b:C_ (Nat×Jd)):Code->fg
 | .region id ops _=>agS P ops.toList (Ub id b)
 | .seq c a=>.seq (bh P b c) (bh P b a)
 | .cond d c a=>.cond d (bh P b c) (bh P b a)
 | .block id a=>.b0 id (bh P b a)
 | .loop a=>.loop (bh P b a)
 | .exit id=>.exit id
 | .ret=>.ret
 | .scope a=>bh P b a
 | _=>.skip
def bl(a:Func):Code:=match a.body with | some b=>b | none=>.skip
theorem aka{α:Type}(a b:α):(bif true then a else b)=a:=rfl
theorem aj9{α:Type}(a b:α):(bif false then a else b)=b:=rfl
section
variable{P:Program}{w:World}
def AF6{f:E_}{a:mi}{c:fg}(b:P.follows .mixedOrders=true)(d:k7 P f=some a)(e:a.code=c){args:C_ B_}{R:B_->A_->Prop}(g:args.length<=a.n)(h:fa P c (um a.res R ⟨⟩) (js args 0) w ⟨⟩):a3 P f args.toArray w R:=by
 subst e;exact _R b d g h
def _q{f:E_}{a:mi}{c:fg}(d:P.follows .mixedOrders=true)(g:k7 P f=some a)(e:a.code=c){args:C_ B_}{R:B_->A_->Prop}{b:C_ PanicEntry->A_->Prop}(i:args.length<=a.n)(h:fa P c (Df a.res R b ⟨⟩) (js args 0) w ⟨⟩):r6 P f args.toArray w R b:=by
 subst e;exact AB7 d g i h
end
end a8
namespace Go.Proofs.R
open Go a8 Go.Proofs
abbrev T.ac:F_:=0
abbrev T.a:F_:=3
abbrev T.Ft:F_:=4
abbrev T.ox:F_:=5
abbrev T.m:F_:=9
abbrev T.nq:F_:=20
abbrev T.s7:F_:=22
abbrev T.tY:F_:=23
abbrev T.s8:F_:=24
abbrev T.am:F_:=25
abbrev T.Zx:F_:=26
abbrev T.h:F_:=28
abbrev T.x:F_:=31
abbrev T.k:F_:=34
abbrev T.b:F_:=36
abbrev T.u:F_:=38
abbrev T.n:F_:=49
abbrev T.g:F_:=51
abbrev T.s4:F_:=56
abbrev T.Zy:F_:=59
abbrev T.v:F_:=67
abbrev T.ap:F_:=70
abbrev T.af:F_:=72
abbrev T.oy:F_:=73
abbrev T.wW:F_:=74
abbrev T.q:F_:=76
abbrev T.s5:F_:=78
abbrev T.o3:F_:=82
abbrev T.ua:F_:=84
abbrev T.e:F_:=87
abbrev T.c:F_:=97
abbrev T.f:F_:=99
abbrev T.pE:F_:=102
abbrev T.i:F_:=125
abbrev T.r:F_:=127
abbrev T.y:F_:=129
abbrev T.tB:F_:=141
abbrev T.s:F_:=154
abbrev T.as:F_:=159
abbrev T.ta:F_:=162
abbrev T.t:F_:=175
abbrev T.j9:F_:=181
abbrev T.s6:F_:=182
abbrev T.g1:F_:=183
abbrev T.z:F_:=185
abbrev T.p:F_:=189
abbrev T.qp:F_:=197
abbrev T.w:F_:=207
abbrev T.j:F_:=211
abbrev T.rf:F_:=221
abbrev T.d:F_:=230
abbrev T.w2:F_:=271
abbrev T.ns:F_:=272
abbrev T.sa:F_:=275
abbrev T.qq:F_:=279
abbrev T.fz:F_:=286
abbrev T.pF:F_:=305
abbrev T.yW:F_:=308
abbrev T.ZI:F_:=313
abbrev T.fi:F_:=329
abbrev T.cX:F_:=330
abbrev T.cP:F_:=331
abbrev T.eJ:F_:=332
abbrev T.fM:F_:=333
abbrev F.HN:E_:=3
abbrev F.NP:E_:=10
abbrev F.HO:E_:=11
abbrev F.n:E_:=12
abbrev F.NL:E_:=13
abbrev F.NQ:E_:=14
abbrev F.HK:E_:=16
abbrev F.af:E_:=17
abbrev F.d:E_:=19
abbrev F.p:E_:=20
abbrev F.h:E_:=22
abbrev F.b4:E_:=29
abbrev F.Na:E_:=32
abbrev F.Eb:E_:=33
abbrev F.Nn:E_:=34
abbrev F.uU:E_:=35
abbrev F.dK:E_:=36
abbrev F.mX:E_:=37
abbrev F.NM:E_:=38
abbrev F.M7:E_:=39
abbrev F.g8:E_:=40
abbrev F.bf:E_:=41
abbrev F.bV:E_:=44
abbrev F.bX:E_:=45
abbrev F.NC:E_:=46
abbrev F.ep:E_:=48
abbrev F.Nc:E_:=50
abbrev F.No:E_:=51
abbrev F.Ea:E_:=53
abbrev F.NB:E_:=54
abbrev F.ND:E_:=55
abbrev F.eK:E_:=58
abbrev F.ap:E_:=59
abbrev F.se:E_:=60
abbrev F.aw:E_:=61
abbrev F.wW:E_:=62
abbrev F.gH:E_:=63
abbrev F.Ng:E_:=67
abbrev F.Ni:E_:=68
abbrev F.Nd:E_:=69
abbrev F.Nj:E_:=70
abbrev F.Nz:E_:=71
abbrev F.MT:E_:=72
abbrev F.AT:E_:=73
abbrev F.mS:E_:=74
abbrev F.vy:E_:=75
abbrev F.C8:E_:=76
abbrev F.j:E_:=77
abbrev F.o3:E_:=78
abbrev F.Nk:E_:=79
abbrev F.NN:E_:=80
abbrev F.M9:E_:=81
abbrev F.w8:E_:=82
abbrev F.r:E_:=83
abbrev F.gb:E_:=84
abbrev F.cs:E_:=85
abbrev F.hM:E_:=86
abbrev F.qu:E_:=87
abbrev F.ev:E_:=89
abbrev F.JP:E_:=90
abbrev F.dx:E_:=91
abbrev F.dL:E_:=92
abbrev F.ui:E_:=95
abbrev F.Nr:E_:=97
abbrev F.Ns:E_:=98
abbrev F.Nl:E_:=100
abbrev F.Ny:E_:=101
abbrev F.NJ:E_:=102
abbrev F.M0:E_:=103
abbrev F.NA:E_:=104
abbrev F.MZ:E_:=105
abbrev F.NH:E_:=106
abbrev F.NG:E_:=107
abbrev F.Np:E_:=109
abbrev F.MF:E_:=110
abbrev F.JS:E_:=111
abbrev F.JT:E_:=112
abbrev F.JU:E_:=113
abbrev F.MV:E_:=115
abbrev F.MW:E_:=116
abbrev F.Nh:E_:=117
abbrev F.Nf:E_:=118
abbrev F.MU:E_:=119
abbrev F.M6:E_:=120
abbrev F.M8:E_:=121
abbrev F.Nb:E_:=122
abbrev F.MB:E_:=123
abbrev F.MG:E_:=124
abbrev F.HI:E_:=125
abbrev F.ta:E_:=127
abbrev F.ns:E_:=128
abbrev F.qq:E_:=129
abbrev F.JW:E_:=130
abbrev F.JX:E_:=131
abbrev F.ds:E_:=132
abbrev F.pF:E_:=133
abbrev F.yW:E_:=134
abbrev F.MS:E_:=135
abbrev F.Nm:E_:=136
abbrev F.NO:E_:=137
abbrev F.F0:E_:=138
abbrev F.JY:E_:=139
abbrev F.JZ:E_:=140
abbrev F.cj:E_:=141
abbrev F.J0:E_:=142
abbrev F.NF:E_:=143
abbrev F.NK:E_:=144
abbrev F.Nq:E_:=145
abbrev F.MH:E_:=146
abbrev F.MR:E_:=147
abbrev F.MM:E_:=148
abbrev F.ML:E_:=149
abbrev F.d7:E_:=150
abbrev F.d8:E_:=151
abbrev F.d9:E_:=152
abbrev F.kz:E_:=153
abbrev F.ze:E_:=154
abbrev F.MX:E_:=156
abbrev F.HJ:E_:=157
abbrev F.MY:E_:=158
abbrev F.MC:E_:=159
abbrev F.MN:E_:=160
abbrev F.MO:E_:=161
abbrev F.MQ:E_:=162
abbrev F.xd:E_:=163
abbrev F.a:E_:=164
abbrev F.De:E_:=165
abbrev F.f:E_:=166
abbrev F.rn:E_:=167
abbrev F.el:E_:=168
abbrev F.em:E_:=169
abbrev F.tg:E_:=170
abbrev F.J6:E_:=171
abbrev F.J7:E_:=172
abbrev F.s:E_:=173
abbrev F.fi:E_:=174
abbrev F.n1:E_:=175
abbrev F.t:E_:=176
abbrev F.eq:E_:=177
abbrev F.u:E_:=178
abbrev F.cX:E_:=179
abbrev F.cP:E_:=180
abbrev F.D8:E_:=181
abbrev F.th:E_:=182
abbrev F.eJ:E_:=183
abbrev F.Nv:E_:=184
abbrev F.NI:E_:=185
abbrev F.Nu:E_:=186
abbrev F.MK:E_:=187
abbrev F.MI:E_:=188
abbrev F.Mw:E_:=189
abbrev F.Mu:E_:=190
abbrev F.Mv:E_:=191
abbrev F.dV:E_:=192
abbrev F.a5:E_:=193
abbrev F.az:E_:=194
abbrev F.fM:E_:=195
abbrev F.a6:E_:=196
abbrev F.bt:E_:=197
abbrev F.l:E_:=198
abbrev F.bJ:E_:=199
abbrev F.M3:E_:=200
abbrev F.M1:E_:=201
abbrev F.D9:E_:=202
abbrev F.BV:E_:=203
abbrev F.MD:E_:=204
abbrev F.MJ:E_:=205
abbrev F.HH:E_:=206
abbrev F.ME:E_:=207
abbrev F.ox:E_:=208
abbrev F.s4:E_:=209
abbrev F.s5:E_:=210
abbrev F.w:E_:=211
abbrev F.x:E_:=212
abbrev F.zi:E_:=213
abbrev F.A0:E_:=214
abbrev F.s6:E_:=215
abbrev F.g1:E_:=216
abbrev F.fd:E_:=217
abbrev F.Kc:E_:=218
abbrev F.Kd:E_:=219
abbrev F.Ke:E_:=220
abbrev F.ab:E_:=221
abbrev F.fz:E_:=222
abbrev F.Kf:E_:=223
abbrev F.w2:E_:=224
abbrev F.FF:E_:=225
abbrev F.y:E_:=226
abbrev F.Kg:E_:=227
abbrev F.Kn:E_:=228
abbrev F.xh:E_:=229
abbrev F.Ko:E_:=230
abbrev F.Kp:E_:=231
abbrev F.z:E_:=232
abbrev F.fn:E_:=233
abbrev F.Kq:E_:=234
abbrev F.Kr:E_:=235
abbrev F.MA:E_:=236
abbrev F.Mz:E_:=237
abbrev F.fV:E_:=238
abbrev F.Nt:E_:=239
abbrev F.Nw:E_:=240
abbrev F.Nx:E_:=241
abbrev F.Mx:E_:=242
abbrev F.Kv:E_:=243
abbrev F.Kw:E_:=244
abbrev F.Kx:E_:=245
abbrev F.f0:E_:=246
abbrev F.f1:E_:=247
abbrev F.f2:E_:=248
abbrev F.M4:E_:=249
abbrev F.M5:E_:=250
abbrev F.MP:E_:=251
abbrev F.au:E_:=252
abbrev F.be:E_:=253
abbrev F.f6:E_:=254
abbrev F.f7:E_:=255
abbrev F.f8:E_:=256
abbrev F.f9:E_:=257
abbrev F.a2:E_:=258
abbrev F.ak:E_:=259
abbrev F.ag:E_:=260
abbrev F.aG:E_:=261
abbrev F.zj:E_:=262
abbrev F.zk:E_:=263
abbrev F.gc:E_:=264
abbrev F.Ky:E_:=265
abbrev F.rf:E_:=266
abbrev F.ge:E_:=267
abbrev F.hO:E_:=268
abbrev F.Kz:E_:=269
abbrev F.My:E_:=270
abbrev F.KA:E_:=271
abbrev F.KB:E_:=272
abbrev F.Gh:E_:=273
abbrev F.he:E_:=274
abbrev F.KC:E_:=275
abbrev F.KD:E_:=276
abbrev F.FH:E_:=277
abbrev F.FI:E_:=278
abbrev F.vH:E_:=279
abbrev F.aq:E_:=280
abbrev F.sa:E_:=281
abbrev F.go:E_:=282
abbrev F.ac:E_:=283
abbrev F.s7:E_:=284
abbrev F.tY:E_:=285
abbrev F.c:E_:=286
abbrev F.s8:E_:=287
abbrev F.oy:E_:=288
abbrev F.pE:E_:=289
abbrev F.j9:E_:=290
abbrev F.qp:E_:=291
abbrev F.ua:E_:=292
abbrev F.KF:E_:=293
abbrev F.FJ:E_:=294
abbrev F.KG:E_:=295
abbrev F.KH:E_:=296
abbrev F.gs:E_:=297
abbrev F.gt:E_:=298
abbrev F.KI:E_:=299
abbrev F.bi:E_:=300
abbrev F.FK:E_:=301
abbrev F.g:E_:=302
abbrev F.KJ:E_:=303
abbrev F.KK:E_:=304
abbrev F.KL:E_:=305
abbrev F.KM:E_:=306
abbrev F.KN:E_:=307
abbrev F.FL:E_:=325
abbrev F.vG:E_:=326
abbrev F.FM:E_:=327
abbrev F.FN:E_:=328
abbrev F.FO:E_:=329
abbrev F.aU:E_:=330
abbrev F.a7:E_:=331
abbrev F.bE:E_:=332
abbrev F.bP:E_:=333
abbrev F.c2:E_:=334
abbrev F.fk:E_:=335
abbrev F.nq:E_:=336
abbrev F.FQ:E_:=337
abbrev F.FR:E_:=338
abbrev F.iD:E_:=339
abbrev G.atf:Nat:=0
def _root_.Cg{A:Prop}(h:A:=by kernel_rfl):A:=h
def kB:Tryz.prog.follows .mixedOrders=true:=Cg
def vl{f:E_}{a:mi}{args:C_ B_}{R:B_->A_->Prop}{w:A_}(b:k7 Tryz.prog f=some a)(h:fa Tryz.prog a.code (um a.res R ⟨⟩) (js args 0) w ⟨⟩)(c:args.length<=a.n:=by exact Nat.le_of_ble_eq_true rfl):a3 Tryz.prog f args.toArray w R:=_R kB b c h
def CS{c d:fg}(h:∀a:fg->Prop,a d->a c:=by
 intro a b
 conv=>arg 1;whnf
 try simp only[bh,agS,Oo,TM,Z2,Rp,abM,FZ,Ub,mJ,yi,VU,HT,wD,Ql,IK,aiX,QC,L9,wX,Ku,N4,Ro,sk,UT,P5,Vo,aka,aj9,Tryz.underlying3,Tryz.underlying4,Tryz.underlying9,Tryz.underlying22,Tryz.underlying23,Tryz.underlying24,Tryz.underlying25,Tryz.underlying26,Tryz.underlying28,Tryz.underlying31,Tryz.underlying34,Tryz.underlying36,Tryz.underlying38,Tryz.underlying46,Tryz.underlying49,Tryz.underlying51,Tryz.underlying56,Tryz.underlying59,Tryz.underlying61,Tryz.underlying67,Tryz.underlying70,Tryz.underlying72,Tryz.underlying73,Tryz.underlying74,Tryz.underlying76,Tryz.underlying78,Tryz.underlying81,Tryz.underlying82,Tryz.underlying84,Tryz.underlying87,Tryz.underlying89,Tryz.underlying90,Tryz.underlying92,Tryz.underlying97,Tryz.underlying99,Tryz.underlying125,Tryz.underlying127,Tryz.underlying129,Tryz.underlying141,Tryz.underlying154,Tryz.underlying159,Tryz.underlying162,Tryz.underlying169,Tryz.underlying175,Tryz.underlying181,Tryz.underlying185,Tryz.underlying189,Tryz.underlying197,Tryz.underlying207,Tryz.underlying211,Tryz.underlying221,Tryz.underlying228,Tryz.underlying230,Tryz.underlying239,Tryz.underlying245,Tryz.underlying246,Tryz.underlying271,Tryz.underlying272,Tryz.underlying273,Tryz.underlying275,Tryz.underlying279,Tryz.underlying286,Tryz.underlying305,Tryz.underlying308,Tryz.underlying310,Tryz.underlying313,Tryz.underlying326,Tryz.underlying329,Tryz.underlying330,Tryz.underlying331,Tryz.underlying332,Tryz.underlying333,Tryz.type0,Tryz.type3,Tryz.type4,Tryz.type9,Tryz.type22,Tryz.type23,Tryz.type24,Tryz.type25,Tryz.type26,Tryz.type28,Tryz.type31,Tryz.type34,Tryz.type36,Tryz.type38,Tryz.type49,Tryz.type51,Tryz.type56,Tryz.type59,Tryz.type61,Tryz.type67,Tryz.type70,Tryz.type72,Tryz.type73,Tryz.type74,Tryz.type76,Tryz.type78,Tryz.type81,Tryz.type82,Tryz.type84,Tryz.type87,Tryz.type89,Tryz.type90,Tryz.type92,Tryz.type97,Tryz.type99,Tryz.type125,Tryz.type127,Tryz.type129,Tryz.type141,Tryz.type154,Tryz.type159,Tryz.type162,Tryz.type175,Tryz.type181,Tryz.type185,Tryz.type189,Tryz.type197,Tryz.type207,Tryz.type211,Tryz.type221,Tryz.type230,Tryz.type239,Tryz.type245,Tryz.type246,Tryz.type271,Tryz.type272,Tryz.type273,Tryz.type275,Tryz.type279,Tryz.type286,Tryz.type305,Tryz.type308,Tryz.type313,Tryz.type326,Tryz.type329,Tryz.type330,Tryz.type331,Tryz.type332,Tryz.type333,Tryz.t0,Tryz.t3,Tryz.t4,Tryz.t9,Tryz.t22,Tryz.t23,Tryz.t24,Tryz.t25,Tryz.t26,Tryz.t28,Tryz.t31,Tryz.t34,Tryz.t36,Tryz.t38,Tryz.t49,Tryz.t51,Tryz.t56,Tryz.t59,Tryz.t61,Tryz.t67,Tryz.t70,Tryz.t72,Tryz.t73,Tryz.t74,Tryz.t76,Tryz.t78,Tryz.t81,Tryz.t82,Tryz.t84,Tryz.t87,Tryz.t89,Tryz.t90,Tryz.t92,Tryz.t97,Tryz.t99,Tryz.t125,Tryz.t127,Tryz.t129,Tryz.t141,Tryz.t154,Tryz.t159,Tryz.t162,Tryz.t175,Tryz.t181,Tryz.t185,Tryz.t189,Tryz.t197,Tryz.t207,Tryz.t211,Tryz.t221,Tryz.t230,Tryz.t239,Tryz.t245,Tryz.t246,Tryz.t271,Tryz.t272,Tryz.t273,Tryz.t275,Tryz.t279,Tryz.t286,Tryz.t305,Tryz.t308,Tryz.t313,Tryz.t326,Tryz.t329,Tryz.t330,Tryz.t331,Tryz.t332,Tryz.t333,Nat.reduceAdd,Nat.reduceEqDiff,reduceIte]
 try dsimp only[aO,bQ,h3,cl,na,c6,fr,hH,cK,aL,dn,fp,dD,gO,ys,gg,dk,hA,yy,gX,mh,qd,om,b2,iA,m9,sV,EX,Ap,qc,oj,oi,EY,Aq,nL,List.map_cons,List.map_nil]
 exact b):c=d:=h (· = d) rfl
def bm{f:E_}{n:Nat}{r:C_ nP}{c d:fg}{args:C_ B_}{R:B_->A_->Prop}{w:A_}(a:k7 Tryz.prog f=some ⟨n,r,c⟩)(h:fa Tryz.prog d (um r R ⟨⟩) (js args 0) w ⟨⟩)(e:c=d:=by exact CS)(b:args.length<=n:=by exact Nat.le_of_ble_eq_true rfl):a3 Tryz.prog f args.toArray w R:=_R kB (a.trans (congrArg (λc=>some (⟨n,r,c⟩:mi)) e)) b h
abbrev bc(f:E_)(c:mi):Prop:=k7 Tryz.prog f=some c
def bd{f:E_}{c:mi}(h:k7 Tryz.prog f=some c:=by kernel_rfl):bc f c:=h
noncomputable abbrev zA_:=λa b=>bh Tryz.prog a (bl b)
def E.HN:bc F.HN ⟨36,[.tmp 2],zA_ [(3,.s (.t 0 (.t 2 (.a 1 (.f 3 (.q 4 2 .d) .n) .n)))),(9,.w)] Tryz.f3⟩:=bd
def E.NP:bc F.NP ⟨81,[.tmp 2],zA_ [] Tryz.f10⟩:=bd
def E.HO:bc F.HO ⟨55,[.tmp 0],zA_ [(2,.c (.x7 [(fr 12 (.fn F.uU []),[]),(c6 13 (.hj T.a 2 1 [dk,dk] [(0,(bQ 1)),(1,(bQ 0))]),[]),(fr 14 (.fn F.h [(aO 12),(aO 13)]),[0,1,0]),(c6 15 (.hj T.a 2 1 [dk,dk] [(0,(bQ 0)),(1,(bQ 1))]),[]),(fr 16 (.fn F.d [(aO 14),(aO 15)]),[2,3,2]),(aL 17 16,[4,4]),(cK 17 true (fr 18 (.fn F.uU [])),[5,5]),(cK 17 true (c6 19 (.hj T.a 2 1 [dk,dk] [(0,(bQ 0)),(1,(bQ 1))])),[5]),(cK 17 true (fr 20 (.fn F.h [(aO 18),(aO 19)])),[6,7,6,5]),(cK 17 true (c6 21 (.hj T.a 2 1 [dk,dk] [(0,(bQ 0)),(1,(bQ 1))])),[5]),(cK 17 true (fr 22 (.fn F.d [(aO 20),(aO 21)])),[8,9,8,5]),(qd 23 17 22,[5,10]),(aL 24 23,[11,10]),(cK 24 true (fr 25 (.fn F.uU [])),[12,12]),(cK 24 true (fr 26 (.fn F.n [(aO 25)])),[13,13,12]),(cK 24 true (gg 27 26),[14,12]),(cK 24 true (mh .eql T.a 28 27 2),[15,12]),(qd 29 24 28,[12,16]),(aL 30 29,[17,14]),(cK 30 true (fr 31 (.fn F.uU [])),[18,18]),(cK 30 true (c6 32 (.hj T.a 2 1 [dk,dk] [(0,(bQ 1)),(1,(bQ 0))])),[18]),(cK 30 true (c6 33 (.hj T.b 1 1 [hA] [(0,(aO 32))])),[20,18]),(cK 30 true (c6 34 (.hj T.a 2 1 [dk,dk] [(0,(bQ 1)),(1,(bQ 0))])),[18]),(cK 30 true (fr 35 (.fn F.p [(aO 31),(aO 33),(aO 34)])),[19,21,22,19,18]),(cK 30 true (c6 36 (.hj T.a 2 1 [dk,dk] [(0,(bQ 0)),(1,(bQ 1))])),[18]),(cK 30 true (fr 37 (.fn F.d [(aO 35),(aO 36)])),[23,24,23,18]),(qd 38 30 37,[18,25]),(aL 39 38,[26,25]),(cK 39 true (fr 40 (.fn F.uU [])),[27,27]),(cK 39 true (c6 41 (.hj T.a 2 1 [dk,dk] [(0,(bQ 1)),(1,(bQ 0))])),[27]),(cK 39 true (c6 42 (.hj T.b 1 1 [hA] [(0,(aO 41))])),[29,27]),(cK 39 true (fr 43 (.fn F.af [(aO 40),(aO 42),(bQ 1)])),[28,30,28,27]),(cK 39 true (mh .eql T.a 44 43 3),[31,27]),(qd 45 39 44,[27,32]),(aL 46 45,[33,31]),(cK 46 true (aL 47 2),[34]),(cK 46 true (mh .eql T.s4 48 47 0),[35,34]),(qd 49 46 48,[34,36]),(aL 50 49,[37,34]),(cK 50 true (fr 51 (.fn F.uU [])),[38,38]),(cK 50 true (na 52 (.lk 2 (aO 1))),[38]),(cK 50 true (fr 53 (.fn F.Eb [(aO 51),(aO 52)])),[39,40,39,38]),(qd 54 50 53,[38,41]),(aL 0 54,[42,41,0,1,2,3,4,5,6,7,8,9,10,11,12,13,14,15,16,17,18,19,20,21,22,23,24,25,26,27,28,29,30,31,32,33,34,35,36,37,38,39,40,41,42])]))] Tryz.f11⟩:=bd
theorem E.n:bc F.n ⟨46,[.tmp 2],zA_ [] Tryz.f12⟩:=bd
def E.NL:bc F.NL ⟨14,[.tmp 2],zA_ [] Tryz.f13⟩:=bd
def E.NQ:bc F.NQ ⟨27,[.tmp 4],zA_ [(6,.w)] Tryz.f14⟩:=bd
def E.HK:bc F.HK ⟨37,[.tmp 2],zA_ [(7,.w)] Tryz.f16⟩:=bd
def E.af:bc F.af ⟨26,[.tmp 6],zA_ [] Tryz.f17⟩:=bd
theorem E.p:bc F.p ⟨32,[.tmp 6],zA_ [] Tryz.f20⟩:=bd
theorem E.h:bc F.h ⟨23,[.tmp 4],zA_ [] Tryz.f22⟩:=bd
def E.b4:bc F.b4 ⟨111,[.jq 2 4,.tmp 5],zA_ [(6,.s (.q 0 3 (.q 5 2 (.a 3 (.a 4 (.f 7 (.q 8 5 .d) .n) .n) .n)))),(12,.s (.q 0 2 (.q 3 2 (.a 2 (.f 5 (.q 6 3 (.a 9 (.t 10 (.f 11 .d .n)) .n)) (.a 9 (.f 5 (.q 6 3 (.t 10 (.f 11 .d .n))) .n) .n)) (.a 9 (.a 2 (.f 5 (.q 6 3 (.t 10 (.f 11 .d .n))) .n) .n) .n))))),(17,.s (.q 0 3 (.q 4 3 (.f 3 (.f 7 (.t 8 (.f 9 (.t 10 .d) .n)) .n) .n))))] Tryz.f29⟩:=bd
def E.Na:bc F.Na ⟨63,[.jq 4 2],zA_ [] Tryz.f32⟩:=bd
def E.Eb:bc F.Eb ⟨62,[.tmp 4],zA_ [] Tryz.f33⟩:=bd
def E.Nn:bc F.Nn ⟨99,[.tmp 2],zA_ [(8,.w),(23,.w)] Tryz.f34⟩:=bd
def E.uU:bc F.uU ⟨9,[.jq 5 0],zA_ [] Tryz.f35⟩:=bd
def E.dK:bc F.dK ⟨95,[.tmp 2,.tmp 3],zA_ [(4,.s (.q 0 2 (.t 3 (.q 5 4 (.a 2 (.a 4 (.a 9 (.t 10 (.f 11 (.t 12 .d) .n)) .n) .n) .n))))),(10,.s (.q 0 16 (.f 16 .d .n))),(16,.s (.q 0 12 (.f 12 .d .n)))] Tryz.f36⟩:=bd
def E.NM:bc F.NM ⟨20,[.jq 15 2,.tmp 3],zA_ [(4,.s (.q 0 2 (.t 3 (.a 2 (.a 4 (.t 5 (.f 6 (.t 7 .d) .n)) .n) .n))))] Tryz.f38⟩:=bd
def E.M7:bc F.M7 ⟨43,[.tmp 2],zA_ [(8,.w)] Tryz.f39⟩:=bd
def E.g8:bc F.g8 ⟨11,[.tmp 4],zA_ [] Tryz.f40⟩:=bd
theorem E.bf:bc F.bf ⟨37,[.tmp 6],zA_ [(4,.w)] Tryz.f41⟩:=bd
theorem E.bV:bc F.bV ⟨15,[.tmp 4],zA_ [] Tryz.f44⟩:=bd
theorem E.bX:bc F.bX ⟨44,[.tmp 6],zA_ [] Tryz.f45⟩:=bd
def E.NC:bc F.NC ⟨11,[.tmp 4],zA_ [] Tryz.f46⟩:=bd
theorem E.ep:bc F.ep ⟨27,[.tmp 4],zA_ [] Tryz.f48⟩:=bd
def E.Nc:bc F.Nc ⟨7,[.tmp 2],zA_ [] Tryz.f50⟩:=bd
def E.No:bc F.No ⟨45,[.tmp 6],zA_ [(7,.w)] Tryz.f51⟩:=bd
def E.Ea:bc F.Ea ⟨13,[.jq 13 2,.tmp 3],zA_ [(3,.s (.q 0 2 (.a 2 (.f 3 (.f 4 (.t 5 .d) .n) .n) .n)))] Tryz.f53⟩:=bd
def E.NB:bc F.NB ⟨72,[.tmp 4],zA_ [(8,.s (.q 0 2 (.q 3 3 (.a 2 (.f 6 (.t 7 .d) .n) .n)))),(10,.s (.q 0 8 (.a 8 (.f 9 (.t 10 (.f 11 (.f 12 (.t 13 .d) .n) .n)) .n) .n)))] Tryz.f54⟩:=bd
def E.ND:bc F.ND ⟨42,[.tmp 6,.tmp 7],zA_ [(5,.w)] Tryz.f55⟩:=bd
def E.eK:bc F.eK ⟨30,[.tmp 6,.tmp 7],zA_ [] Tryz.f58⟩:=bd
def E.ap:bc F.ap ⟨94,[.tmp 2],zA_ [(11,.s (.q 0 14 (.f 14 .d .n))),(20,.s (.q 0 15 (.f 15 .d .n)))] Tryz.f59⟩:=bd
def E.se:bc F.se ⟨34,[.tmp 6,.tmp 7],zA_ [] Tryz.f60⟩:=bd
def E.wW:bc F.wW ⟨7,[.tmp 3],zA_ [] Tryz.f62⟩:=bd
def E.Ng:bc F.Ng ⟨93,[.jq 4 2],zA_ [(7,.w),(10,.s (.q 0 2 (.q 3 6 (.a 2 (.f 9 .d .n) .n)))),(15,.w),(18,.s (.q 0 2 (.q 3 6 (.a 2 (.f 9 .d .n) .n))))] Tryz.f67⟩:=bd
def E.Ni:bc F.Ni ⟨66,[.jq 4 4],zA_ [(4,.s (.q 0 3 (.a 3 (.f 4 (.q 5 7 .d) .n) .n))),(7,.s (.q 0 2 (.q 3 2 (.a 2 (.f 5 .d .n) .n)))),(12,.s (.t 0 (.q 2 6 (.a 1 (.f 8 .d .n) .n))))] Tryz.f68⟩:=bd
def E.Nd:bc F.Nd ⟨90,[.tmp 2,.tmp 3,.tmp 4],zA_ [(5,.w),(9,.c (.cN [aL 36 7,mh .add T.a 37 36 1,fp 38 2 1,dD 39 38,aL 40 9,gO 41 6 39 40,fp 42 2 41,dD 43 42,cl 44 (.x5 (aO 43) (bQ 0)),cl 45 (.z0 (aO 44) (bQ 4)),gX .add T.a 46 37 45,aL 7 46])),(13,.w)] Tryz.f69⟩:=bd
def E.Nj:bc F.Nj ⟨45,[.tmp 4],zA_ [(6,.s (.q 0 2 (.q 3 2 (.a 2 (.f 5 .d .n) .n))))] Tryz.f70⟩:=bd
def E.Nz:bc F.Nz ⟨51,[.tmp 6,.tmp 7],zA_ [(8,.s (.q 0 6 (.f 6 (.q 7 5 .d) .n)))] Tryz.f71⟩:=bd
def E.MT:bc F.MT ⟨12,[.tmp 4],zA_ [] Tryz.f72⟩:=bd
def E.mS:bc F.mS ⟨15,[.jq 6 2],zA_ [] Tryz.f74⟩:=bd
def E.vy:bc F.vy ⟨29,[.tmp 2],zA_ [] Tryz.f75⟩:=bd
def E.C8:bc F.C8 ⟨6,[.tmp 2],zA_ [] Tryz.f76⟩:=bd
def E.o3:bc F.o3 ⟨26,[],zA_ [(3,.c (.cN [aL 13 0,cl 14 (.sK (aO 13)),fp 15 6 14,dD 16 15,aL 17 1,aL 18 8,gX .add T.a 19 17 18,aL 20 1,aL 21 8,aL 22 3,cl 23 (.hL [dk,dk,dk] [(0,1),(1,1),(2,1)] [(0,(aO 20)),(1,(aO 21)),(2,(aO 22))]),gO 24 3 16 19,hH (.mJ 3 (aO 24) (aO 23))]))] Tryz.f78⟩:=bd
def E.Nk:bc F.Nk ⟨177,[.tmp 2],zA_ [(5,.w),(7,.w),(15,.c (.si [fp 83 3 9,dD 84 83,cl 85 (.z0 (bQ 0) (aO 84)),fp 86 4 9,dD 87 86,cl 88 (.x5 (bQ 0) (aO 87)),aL 10 85,aL 11 88])),(17,.w),(26,.s (.q 0 9 (.a 9 (.f 10 .d .n) .n))),(31,.w)] Tryz.f79⟩:=bd
def E.NN:bc F.NN ⟨53,[.tmp 2],zA_ [(13,.s (.t 0 (.q 2 4 (.q 7 4 (.a 1 (.a 6 (.a 11 (.f 12 (.f 13 (.f 14 (.t 15 .d) .n) .n) .n) .n) (.a 11 (.a 6 (.f 12 (.f 13 (.f 14 (.t 15 .d) .n) .n) .n) .n) .n)) (.a 11 (.a 1 (.a 6 (.f 12 (.f 13 (.f 14 (.t 15 .d) .n) .n) .n) .n) .n) .n))))))] Tryz.f80⟩:=bd
def E.M9:bc F.M9 ⟨32,[.tmp 4],zA_ [] Tryz.f81⟩:=bd
theorem E.r:bc F.r ⟨7,[.tmp 3],zA_ [] Tryz.f83⟩:=bd
def E.qu:bc F.qu ⟨40,[.tmp 6],zA_ [(2,.w),(5,.w)] Tryz.f87⟩:=bd
def E.ev:bc F.ev ⟨14,[.tmp 2],zA_ [(3,.s (.t 0 (.q 2 2 (.a 1 (.a 4 (.t 5 (.f 6 (.t 7 .d) .n)) .n) .n))))] Tryz.f89⟩:=bd
def E.JP:bc F.JP ⟨61,[.tmp 4],zA_ [] Tryz.f90⟩:=bd
def E.dx:bc F.dx ⟨30,[.tmp 6],zA_ [] Tryz.f91⟩:=bd
def E.dL:bc F.dL ⟨66,[.tmp 6],zA_ [(1,.c (.si [aL 11 0,cl 12 (.sK (aO 11)),fp 13 6 12,dD 14 13,aL 15 2,gO 16 3 14 15,cl 17 (.qL 3 1 (aO 16) (bQ 0)),dD 18 17,aL 19 0,cl 20 (.sK (aO 19)),fp 21 6 20,dD 22 21,aL 23 2,gO 24 3 22 23,cl 25 (.qL 3 1 (aO 24) (bQ 1)),dD 26 25,aL 27 0,cl 28 (.sK (aO 27)),fp 29 6 28,dD 30 29,aL 31 2,gO 32 3 30 31,cl 33 (.qL 3 1 (aO 32) (bQ 2)),dD 34 33,aL 7 18,aL 8 26,aL 9 34])),(6,.w)] Tryz.f92⟩:=bd
def E.ui:bc F.ui ⟨11,[.tmp 4],zA_ [] Tryz.f95⟩:=bd
def E.Nr:bc F.Nr ⟨82,[.tmp 6],zA_ [(2,.w)] Tryz.f97⟩:=bd
def E.Ns:bc F.Ns ⟨34,[.tmp 4],zA_ [(4,.w)] Tryz.f98⟩:=bd
def E.Nl:bc F.Nl ⟨99,[.jq 6 2],zA_ [(12,.s (.q 0 7 (.a 7 (.f 8 (.t 9 (.f 10 .d .n)) .n) .n))),(13,.s (.q 0 7 (.a 7 (.f 8 (.t 9 (.f 10 .d .n)) .n) .n)))] Tryz.f100⟩:=bd
def E.Ny:bc F.Ny ⟨12,[.jq 13 4],zA_ [(1,.s (.q 0 3 (.t 4 (.a 3 (.a 5 (.t 6 (.f 7 .d .n)) .n) .n))))] Tryz.f101⟩:=bd
def E.NJ:bc F.NJ ⟨96,[.tmp 6,.tmp 7],zA_ [(3,.w),(6,.s (.q 0 9 (.a 9 (.f 10 (.q 11 5 .d) .n) .n))),(13,.s (.q 0 9 (.f 9 (.q 10 5 .d) .n))),(17,.s (.q 0 10 (.f 10 (.q 11 2 .d) .n)))] Tryz.f102⟩:=bd
def E.M0:bc F.M0 ⟨31,[.tmp 4],zA_ [] Tryz.f103⟩:=bd
def E.NA:bc F.NA ⟨28,[.jq 6 4],zA_ [(2,.s (.q 0 17 (.f 17 .d .n)))] Tryz.f104⟩:=bd
def E.MZ:bc F.MZ ⟨40,[.tmp 2,.tmp 3],zA_ [(5,.w)] Tryz.f105⟩:=bd
def E.NH:bc F.NH ⟨30,[.tmp 8],zA_ [(2,.s (.q 1 3 (.t 5 (.q 7 6 (.f 0 (.f 4 (.f 6 (.f 13 (.t 14 .d) .n) .n) .n) .n)))))] Tryz.f106⟩:=bd
def E.NG:bc F.NG ⟨27,[.tmp 6],zA_ [] Tryz.f107⟩:=bd
def E.Np:bc F.Np ⟨129,[.jq 5 8],zA_ [(6,.w),(7,.s (.q 0 2 (.q 3 14 (.a 2 (.a 17 (.a 18 (.f 19 (.t 20 (.f 21 .d .n)) .n) .n) .n) .n)))),(11,.s (.q 0 10 (.a 10 (.f 11 (.t 12 (.f 13 .d .n)) .n) .n))),(15,.s (.q 0 6 (.a 6 (.a 7 (.f 8 (.t 9 (.f 10 .d .n)) .n) .n) .n))),(18,.w),(19,.s (.q 0 8 (.f 8 (.t 9 (.f 10 .d .n)) .n)))] Tryz.f109⟩:=bd
def E.MF:bc F.MF ⟨107,[.tmp 4,.tmp 5],zA_ [(18,.w),(20,.w),(22,.w)] Tryz.f110⟩:=bd
def E.JS:bc F.JS ⟨38,[.tmp 6,.tmp 7],zA_ [] Tryz.f111⟩:=bd
def E.JT:bc F.JT ⟨18,[.tmp 4],zA_ [] Tryz.f112⟩:=bd
def E.JU:bc F.JU ⟨39,[.jq 2 6,.tmp 7],zA_ [(3,.s (.q 0 3 (.q 5 2 (.a 3 (.a 4 (.f 7 (.t 8 (.f 9 .d .n)) .n) .n) .n)))),(4,.s (.q 0 9 (.f 9 (.q 10 5 .d) .n)))] Tryz.f113⟩:=bd
def E.MV:bc F.MV ⟨55,[.tmp 2,.tmp 3],zA_ [(11,.w)] Tryz.f115⟩:=bd
def E.MW:bc F.MW ⟨56,[.tmp 6,.tmp 7],zA_ [(11,.w)] Tryz.f116⟩:=bd
def E.Nh:bc F.Nh ⟨18,[.tmp 4],zA_ [] Tryz.f117⟩:=bd
def E.Nf:bc F.Nf ⟨151,[.tmp 6],zA_ [] Tryz.f118⟩:=bd
def E.MU:bc F.MU ⟨96,[.tmp 4,.tmp 5],zA_ [(11,.w),(15,.w)] Tryz.f119⟩:=bd
def E.M6:bc F.M6 ⟨148,[.tmp 4,.tmp 5,.tmp 6],zA_ [(20,.w),(26,.w),(32,.w)] Tryz.f120⟩:=bd
def E.M8:bc F.M8 ⟨42,[.jq 6 4],zA_ [] Tryz.f121⟩:=bd
def E.Nb:bc F.Nb ⟨13,[.tmp 4],zA_ [] Tryz.f122⟩:=bd
def E.MB:bc F.MB ⟨41,[.tmp 2],zA_ [(1,.c (.cN [aL 5 0,cl 6 (.bin .eql T.m (aO 5) (.const yy)),aL 7 6,cK 7 false (aL 8 0),cK 7 false (cl 9 (.qN (aO 8))),cK 7 false (mh .gtr T.a 10 9 16),om 11 7 10,aL 12 11,cK 12 false (aL 13 0),cK 12 false (cl 14 (.bin .eql T.m (aO 13) (.const (.string ⟨#[115,101,108,102]⟩)))),om 15 12 14,aL 16 15,cK 16 false (aL 17 0),cK 16 false (cl 18 (.bin .eql T.m (aO 17) (.const (.string ⟨#[110,111,110,101]⟩)))),om 19 16 18,aL 20 19,cK 20 false (aL 21 0),cK 20 false (cl 22 (.bin .eql T.m (aO 21) (.const (.string ⟨#[108,101,110]⟩)))),om 23 20 22,aL 24 23,cK 24 false (aL 25 0),cK 24 false (cl 26 (.bin .eql T.m (aO 25) (.const (.string ⟨#[97,116]⟩)))),om 27 24 26])),(4,.c (.cN [aL 33 4,mh .eql T.a 34 33 1,aL 35 34,cK 35 true (aL 36 3),cK 35 true (aL 37 0),cK 35 true (cl 38 (.qN (aO 37))),cK 35 true (gX .eql T.a 39 36 38),qd 40 35 39,aL 2 40]))] Tryz.f123⟩:=bd
def E.MG:bc F.MG ⟨107,[.tmp 4,.tmp 5],zA_ [(18,.w),(20,.w),(22,.w)] Tryz.f124⟩:=bd
def E.HI:bc F.HI ⟨37,[.tmp 4],zA_ [] Tryz.f125⟩:=bd
noncomputable def C.ta:mi:=⟨88,[],zA_ [(2,.c (.fS [aL 18 5,aL 19 4] (some 20) F.a [(aO 18),(bQ 1),(aO 19),(bQ 0)])),(6,.c (.cN [aL 28 1,fp 29 0 7,dD 30 29,hH (.lM .string (aO 28) (aO 30) (h3 true))])),(13,.c (.fS [aL 51 5,aL 52 8] (some 53) F.a [(aO 51),(bQ 2),(aO 52),(bQ 0)])),(14,.c (.fS [aL 54 1,fp 55 0 9,dD 56 55,aL 57 8] (some 58) F.f [(aO 54),(aO 56),(bQ 2),(aO 57)])),(21,.c (.fS [aL 79 5,aL 80 10] (some 81) F.a [(aO 79),(bQ 3),(aO 80),(bQ 0)])),(22,.c (.fS [aL 82 1,fp 83 0 11,dD 84 83,aL 85 10] (some 86) F.f [(aO 82),(aO 84),(bQ 3),(aO 85)]))] Tryz.f127⟩
theorem E.ta:k7 Tryz.prog F.ta=some C.ta:=Cg
noncomputable def C.ns:mi:=⟨105,[],zA_ [(1,.c (.cN [c6 18 .z2,aL 4 18])),(2,.c (.cN [aL 19 1,c6 20 (.raw (.range T.g1 (aO 19)) T.ac)])),(3,.c (.cN [c6 21 (.raw (.next (aO 20) false) T.ac),cl 22 (.ext (aO 21) 0)])),(4,.c (.cN [c6 23 (.raw (.entry (aO 20)) T.ac),cl 24 (.ext (aO 23) 0),aL 5 24])),(5,.c (.cN [aL 25 4,aL 26 5,hH (.lM .string (aO 25) (aO 26) (h3 true))])),(9,.c (.cN [aL 34 4,fp 35 0 7,dD 36 35,hH (.lM .string (aO 34) (aO 36) (h3 true))])),(15,.c (.fS [aL 48 8] (some 49) F.a [(bQ 11),(bQ 4),(aO 48),(bQ 0)])),(16,.s (.q 0 3 (.a 3 (.f 4 (.q 5 7 .d) .n) .n))),(17,.c (.fS [aL 59 12,aL 60 8,aL 61 10,cl 62 (.bin .mul T.a (bQ 16) (aO 61)),aL 63 11,gX .add T.a 64 62 63] (some 65) F.a [(aO 59),(bQ 4),(aO 60),(aO 64)])),(18,.c (.fS [aL 66 1,fp 67 0 9,dD 68 67,aL 69 8] (some 70) F.f [(aO 66),(aO 68),(bQ 4),(aO 69)])),(22,.c (.cN [aL 79 4,fp 80 0 14,dD 81 80,na 82 (.qO .string (.bool false) false (aO 79) (aO 81))])),(23,.c (.fS [aL 83 8,aL 84 13,cl 85 (.bin .add T.a (bQ 16) (aO 84))] (some 86) F.a [(bQ 7),(bQ 4),(aO 83),(aO 85)])),(28,.c (.fS [fp 101 3 2,dD 102 101,gg 103 102] (some 104) F.a [(bQ 11),(bQ 4),(aO 103),(bQ 0)]))] Tryz.f128⟩
theorem E.ns:k7 Tryz.prog F.ns=some C.ns:=Cg
noncomputable def C.qq:mi:=⟨51,[],zA_ [(6,.c (.fS [aL 22 5] (some 23) F.a [(bQ 11),(bQ 5),(aO 22),(bQ 0)])),(8,.c (.fS [aL 29 5] (some 30) F.a [(bQ 6),(bQ 5),(aO 29),(bQ 0)])),(9,.c (.fS [aL 31 1,fp 32 0 6,dD 33 32,aL 34 5] (some 35) F.f [(aO 31),(aO 33),(bQ 5),(aO 34)])),(11,.c (.fS [aL 43 8,aL 44 5] (some 45) F.a [(aO 43),(bQ 5),(aO 44),(bQ 0)])),(13,.c (.fS [aL 48 5] (some 49) F.a [(bQ 9),(bQ 5),(aO 48),(bQ 0)]))] Tryz.f129⟩
theorem E.qq:k7 Tryz.prog F.qq=some C.qq:=Cg
def E.JW:bc F.JW ⟨7,[.tmp 2],zA_ [] Tryz.f130⟩:=bd
def E.JX:bc F.JX ⟨142,[.jq 6 2,.tmp 3],zA_ [(12,.s (.w (.q 0 5 (.a 5 (.a 6 (.f 7 (.t 8 (.f 9 .d .n)) .n) .n) .n)))),(18,.c (.cN [fp 65 1 11,dD 66 65,fp 67 3 11,dD 68 67,cl 69 (.z0 (aO 68) (bQ 0)),fp 70 4 11,dD 71 70,cl 72 (.x5 (aO 71) (bQ 0)),cl 73 (.hL [yy,dk,dk,dk,dk,dk] [(0,1),(1,1),(2,1),(3,1),(4,1),(5,1)] [(1,(aO 66)),(3,(aO 69)),(4,(aO 72))]),fp 74 0 1,dD 75 74,fr 76 (.fn F.fi [(aO 73),(aO 75)]),c6 13 (.new T.d (.agg #[dk,dk,dk])),hH (.mJ 3 (aO 13) (aO 76))])),(23,.s (.w (.q 0 5 (.a 5 (.a 6 (.f 7 (.t 8 (.f 9 .d .n)) .n) .n) .n)))),(35,.s (.w (.q 0 5 (.a 5 (.a 6 (.f 7 (.t 8 (.f 9 .d .n)) .n) .n) .n)))),(37,.s (.f 0 (.f 1 (.f 2 (.t 3 .d) .n) (.f 2 (.f 1 (.t 3 .d) .n) .n)) (.f 1 (.f 0 (.f 2 (.t 3 .d) .n) .n) .n)))] Tryz.f131⟩:=bd
def E.pF:bc F.pF ⟨4,[.tmp 2],zA_ [] Tryz.f133⟩:=bd
def E.yW:bc F.yW ⟨4,[.tmp 2],zA_ [] Tryz.f134⟩:=bd
def E.MS:bc F.MS ⟨17,[.tmp 4,.tmp 5],zA_ [(2,.w)] Tryz.f135⟩:=bd
def E.Nm:bc F.Nm ⟨7,[.tmp 2],zA_ [] Tryz.f136⟩:=bd
def E.NO:bc F.NO ⟨18,[.tmp 2],zA_ [] Tryz.f137⟩:=bd
def E.JZ:bc F.JZ ⟨106,[.tmp 6],zA_ [(2,.w),(3,.w),(4,.w)] Tryz.f140⟩:=bd
def E.NF:bc F.NF ⟨201,[.tmp 8,.tmp 9],zA_ [(5,.s (.q 0 6 (.q 7 11 (.a 6 (.f 18 (.q 19 4 .d) .n) .n)))),(12,.s (.q 0 10 (.f 10 (.q 11 4 .d) .n))),(17,.s (.q 0 13 (.f 13 (.q 14 4 .d) .n))),(19,.s (.q 0 13 (.f 13 (.q 14 4 .d) .n))),(21,.w),(23,.w)] Tryz.f143⟩:=bd
def E.NK:bc F.NK ⟨16,[.tmp 6],zA_ [] Tryz.f144⟩:=bd
def E.Nq:bc F.Nq ⟨50,[.tmp 8],zA_ [] Tryz.f145⟩:=bd
def E.MH:bc F.MH ⟨26,[.tmp 2],zA_ [] Tryz.f146⟩:=bd
def E.MR:bc F.MR ⟨100,[.tmp 4,.tmp 5],zA_ [(21,.w)] Tryz.f147⟩:=bd
def E.MM:bc F.MM ⟨61,[.tmp 6,.tmp 7],zA_ [] Tryz.f148⟩:=bd
def E.ML:bc F.ML ⟨80,[.tmp 6,.tmp 7],zA_ [] Tryz.f149⟩:=bd
def E.d7:bc F.d7 ⟨18,[.tmp 4],zA_ [] Tryz.f150⟩:=bd
def E.d8:bc F.d8 ⟨38,[.tmp 4,.tmp 5],zA_ [] Tryz.f151⟩:=bd
def E.d9:bc F.d9 ⟨19,[.tmp 2],zA_ [] Tryz.f152⟩:=bd
theorem E.kz:bc F.kz ⟨23,[.tmp 4],zA_ [] Tryz.f153⟩:=bd
theorem E.ze:bc F.ze ⟨53,[.tmp 8,.tmp 9],zA_ [(2,.s (.q 0 5 (.a 5 (.q 6 10 (.q 17 2 (.a 16 (.f 19 (.q 20 2 .d) .n) .n))) .n)))] Tryz.f154⟩:=bd
end Go.Proofs.R