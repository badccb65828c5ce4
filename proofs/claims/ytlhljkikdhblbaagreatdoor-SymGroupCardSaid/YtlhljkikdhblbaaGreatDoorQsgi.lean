/- Parts. -/
import Derived.Test.YtlhljkikdhblbaaGreatDoorQsgh
set_option linter.all false
set_option maxRecDepth 8000
set_option maxHeartbeats 4000000
namespace a8
open Go Go.RowKit
theorem aR.map{α β:Type}{enc:β->C_ B_}{g:α->β}{e:F_}{sz base:Nat}{w:A_}{v:B_}{xs:C_ α}(h:aR (λa=>enc (g a)) e sz base w v xs):aR enc e sz base w v (xs.map g):=by
 unfold aR at *;rw[AG7,List.flatMap_map];exact h
def aR.kF{α:Type}{enc:α->C_ B_}{e:F_}{sz base:Nat}{w:A_}{v:B_}{xs:C_ α}(a:∀b,(enc b).length=sz)(h:aR enc e sz base w v xs):a4 sz (Flat enc) w v xs:=aR.iw a h
def aR.new{α:Type}{enc:α->C_ B_}{e:F_}{sz:Nat}{w w':A_}{v:B_}{xs:C_ α}(a:∀b,(enc b).length=sz)(h:aR enc e sz w.heap.size w' v xs):ei w (λw=>a4 sz (Flat enc) w v xs) w':=λg c =>
 aR.iw a (aR.mod h c λd f i=>by have:=(h.lt d f).1;omega)
end a8
namespace Go.Proofs.R
open Go Go.RowKit a8
abbrev q6(w:A_)(v:B_)(l:C_ o.c7):Prop:=a4 2 (Flat o.c7.enc) w v l
abbrev Fp(w:A_)(v:B_)(l:C_ o.Ref):Prop:=a4 2 (Flat o.Ref.enc) w v l
def aeH(cs:C_ B_)(m:o.Model)(w:A_)(h:o.eu w cs m) :
  EG F.pF #[.agg cs.toArray] w λc a=>(∃b,c = .func (.func F.t) #[] #[.pointer (some ⟨b,0,none⟩)]/\a.heap[b]? = some (.cells cs.toArray T.h))/\Ext w a:=by
 obtain⟨g,i,j,bg,k,bj,l,n,p,q,rfl,_⟩:=h.form;refine bm E.pF ?_;refine ad ?_;intro r d s e f;refine ad ?_;exact⟨⟨d,rfl,f⟩,e⟩
def L6(cs:C_ B_)(m:o.Model)(w:A_)(h:o.eu w cs m)(j:m.cS) :
  EG F.C8 #[.agg cs.toArray] w λa b=>aR o.c7.enc T.c 2 w.heap.size b a (o.insts m)/\Ext w b:=by
 obtain⟨s,t,u,bg,v,bj,x,y,z,A,rfl,_⟩:=h.form;have k:=j.procs;have B:=o.tz m;unfold o.eO at k;refine bm E.C8 ?_;refine ad ?_;intro l C G f H;refine ad ?_;refine J_ (aeH _ m l (h.ext f)) ?_;rintro _ c ⟨⟨I,rfl,n⟩,p⟩;have dm:Ext w c:=f.trans p;refine ad ?_;refine J_ (f:=F.ds) (R:=λa b=>aR o.c7.enc T.c 2 c.heap.size b a (o.insts m)/\Ext c b) ?_ ?_
 .refine vl E.ds ?_;refine ow ?_;refine ad ?_;refine J_ (ajU (α:=o.yU m) (enc:=λg=>g.1.enc) kB yD.n1 rfl (λ_=>rfl) (λg J i=>by simp[o.c7.enc] at i;rcases i with rfl | rfl<;>rfl) Ae Cg
   (aeA n h dm) (Ext.refl _) dm.size Ae Ae Ae AW (by unfold maxLen;omega)) ?_
  rintro a q ⟨⟨K,r,d⟩,e⟩;refine ad ?_;exact⟨by rw[<-r];exact d.map,e⟩
 .rintro a q ⟨d,e⟩;refine ad ?_;exact⟨d.low dm.size,dm.trans e⟩
structure nk(w1:World)(bX cQ ep:Nat)(s:Int×o.c7×List o.Ref)(W:World):Prop where
 mod:Mod (λk=>k∈[bX,cQ,ep]) w1 W
 ex:∃aS n c,W.heap[bX]? = some (.cells #[.slice aS n c] T.u)/\aR o.Ref.enc T.f 2 w1.heap.size W (.slice aS n c) s.2.2
 aK:W.heap[cQ]? = some (.cells #[.int .i64 s.1] T.a)
 bk:W.heap[ep]? = some (.cells s.2.1.enc.toArray T.c)
def nk.move{w1:A_}{f g i:Nat}{s:Int×o.c7×C_ o.Ref}{d j:A_}{A:Nat->Prop}(h:nk w1 f g i s d)(m:Mod A d j)(c:∀a e p q,d.heap[a]? = some (.cells e p q)->¬A a)(r:∀a,A a->w1.heap.size<=a):nk w1 f g i s j:=by
 obtain⟨t,u,e,k,l⟩:=h.ex;refine⟨h.mod.comp m (λ_ _ b=>b) λa n b=>absurd (r a b) AW,⟨t,u,e,m.obj (c _ _ _ _ k) k,l.mod m λa n b=>?_⟩,m.obj (c _ _ _ _ h.aK) h.aK,m.obj (c _ _ _ _ h.bk) h.bk⟩;obtain⟨w,v⟩:=l.b0 a n;exact c _ _ _ _ v b
theorem nk.ext{w1:A_}{a b c:Nat}{s:Int×o.c7×C_ o.Ref}{d f:A_}(h:nk w1 a b c s d)(e:Ext d f):nk w1 a b c s f:=h.move (A:=λ_=>False) e.mod (λ_ _ _ _ _ h=>h) λ_ h=>h.elim
def oz{b:A_}{k:Nat}{c e:Array B_}{t d:F_}{f g:Nat×Nat}(h:b.heap[k]? = some (.cells c t f))(a:b.heap[k]? = some (.cells e d g)):t=d:=by
 rw[h] at a;injection a with a;injection a
def nk.mc{w1:A_}{e a f:Nat}{s:Int×o.c7×C_ o.Ref}{i g:A_}{n:Int}(h:nk w1 e a f s i)(d:dY a i g)(l:g.heap[a]? = some (.cells #[.I n] T.a))(m:e≠a)(p:f≠a):nk w1 e a f (n,s.2) g:=by
 obtain⟨q,b,r,t,j⟩:=h.ex;refine⟨h.mod.comp (A':=λb=>b=a) (d.mod rfl) (λ_ _ c=>c) λb k c=>by simp[c],⟨q,b,r,d.obj t m,j.mod (d.mod (A:=λb=>b=a) rfl) λb k c=>?_⟩,l,d.obj h.bk p⟩;subst c;obtain⟨v,u⟩:=j.b0 b k;exact absurd (oz u h.aK) Ae
def nk.iY{w1:A_}{e f a:Nat}{s:Int×o.c7×C_ o.Ref}{i g:A_}{x:o.c7}(h:nk w1 e f a s i)(d:dY a i g)(l:g.heap[a]? = some (.cells x.enc.toArray T.c))(m:e≠a)(n:a≠f):nk w1 e f a (s.1,x,s.2.2) g:=by
 obtain⟨p,b,q,r,j⟩:=h.ex;refine⟨h.mod.comp (A':=λb=>b=a) (d.mod rfl) (λ_ _ c=>c) λb k c=>by simp[c],⟨p,b,q,d.obj r m,j.mod (d.mod (A:=λb=>b=a) rfl) λb k c=>?_⟩,d.obj h.aK (Ne.symm n),l⟩;subst c;obtain⟨u,t⟩:=j.b0 b k;exact absurd (oz t h.bk) Ae
def nk.app{w1:A_}{a e f:Nat}{s:Int×o.c7×C_ o.Ref}{d g j:A_}{p q:H_ Addr}{n c r t:Nat}{l:C_ o.Ref}(h:nk w1 a e f s d)(A:d.heap[a]? = some (.cells #[.slice p n c] T.u))
  (w:aR o.Ref.enc T.f 2 w1.heap.size d (.slice p n c) s.2.2)(x:aR o.Ref.enc T.f 2 w1.heap.size g (.slice q r t) l)(y:d.grownBy g (Value.slice p n c).ownBlock)(k:dY a g j)
  (B:j.heap[a]? = some (.cells #[.slice q r t] T.u))(C:a≠e)(G:a≠f):nk w1 a e f (s.1,s.2.1,l) j/\e4 w1.heap.size [a,e,f] [T.f] d j:=by
 have H:e4 w1.heap.size [a,e,f] [T.f] d g:=e4.grown w y Ah;have u:∀{b:Nat} {c:Array B_} {m:F_},d.heap[b]? = some (.cells c m)->m≠T.f->g.heap[b]? = some (.cells c m):=λ{b c m} i I=>by
  rw[y.block b (ca i) λJ=>?_]
  .exact i
  .obtain⟨K,v⟩:=w.b0 b J.symm;exact I (oz i v)
 have z:=H.trans (k.w7 Ah);refine⟨⟨e4.from h.mod z,⟨q,r,t,B,x.mod (k.mod (A:=λb=>b=a) rfl) λb i L=>?_⟩,k.obj (u h.aK Ae) (Ne.symm C),k.obj (u h.bk Ae) (Ne.symm G)⟩,z⟩;subst L;obtain⟨K,v⟩:=x.b0 b i;exact absurd (oz v (u A Ae)) Ae
def agL(cs:C_ B_)(m:o.Model)(w:A_)(h:o.eu w cs m)(af:o.Av m) :
  EG F.cs #[.agg cs.toArray] w λbk B=>aR o.Ref.enc T.f 2 w.heap.size B bk (o.refs m)/\Ext w B:=by
 obtain⟨bZ,b0,b1,bg,b3,bj,b4,b5,b6,b8,rfl,b9,C,az,n,cb,cc,ch,cj,ck,cm⟩:=h.form;have cp:=o.tz m;have cq:=af.procs;refine gl.start kB yD.cs (args:=[_]) (Nat.le_of_ble_eq_true rfl) ?_;dsimp only[D.cs,aO,bQ,h3,cl,na,c6,fr,hH,cK,aL,dn,fp,dD,gO,ys,gg,dk,hA,yy,gX,mh,qd,om,b2,iA,m9,sV,EX,Ap,qc,oj,oi,EY,Aq,nL,List.map_cons,List.map_nil];refine gl.h1 ?_;refine ad ?_;intro bn P cr Q ag;refine ad ?_;refine gl.h1 ?_;refine ad ?_;intro aA b ct G ah;refine ad ?_;refine gl.h1 ?_;refine ad ?_;intro cu g cv u H;refine ad ?_;intro cw e cx S aB;have U:e≠g:=by have:=ca H;omega
 replace H:=S.obj H;refine ad ?_;intro bo V W;have bp:=V.obj aB U;refine ad ?_;intro X Y Z;replace Z:X.heap[e]? = some (.cells (⟨-1,0⟩:o.c7).enc.toArray T.c):=Z;have cB:=ca ag;have cC:=ca ah;have cD:=ca H;have ai:Ext bn X:=Y.ext (V.ext ((G.trans u).trans S) (by have:=G.size;omega)) (by have:=G.size;have:=u.size;omega);have aC:Ext aA bo:=V.ext (u.trans S) AW;have aD:Ext aA X:=Y.ext aC (by have:=u.size;omega);have aE:=aD.obj ah;have br:=ai.obj ag;replace W:=Y.obj W (Ne.symm U);have aF:b≠g:=AW
 have aG:b≠e:=by have:=u.size;omega
 have cF:=G.size;have cI:=u.size;clear bp aB H V Y aC aD ah ag G u S;refine gl.va (gl.h1 ?_);refine ad ?_;refine J_ (aeH _ m X (h.ext (Q.trans ai))) ?_;rintro _ f ⟨⟨cJ,rfl,bt⟩,I⟩;have s:∀{B},Ext f B->Ext w B:=λp=>((Q.trans ai).trans I).trans p;have aj:=I.obj aE;have ak:=I.obj br;have al:=I.obj W;have an:=I.obj Z;have cL:=ca aj;have cM:=ca al;have cN:=ca an;simp -dsimp only[c8,cA,Nat.reduceAdd,Nat.reduceEqDiff,reduceIte,reduceCtorEq,dq];refine gl.b0 (gl.sP (w0:=f) (enc:=λd:o.yU m=>aeu d.1) (by simp[dy,bS]) Cg (aeA bt h (s (Ext.refl _))) (Ext.refl _) (qj.ok _ (s (Ext.refl _)).size)
  (λpre J=>nk f b g e ((pre.map Subtype.val).foldl (o.nH m) (-1,⟨-1,0⟩,[])) J) ?_ ⟨Mod.refl _ _,⟨none,0,0,aj,aR.nil _ _ _ _ _⟩,al,an⟩ ?_ ?_)
 .rintro pre J v row k bu K;refine k.move (A:=λa=>row=some a) (Mod.grown bu λa p=>p) (λa L aH aI i c=>?_) λa c=>(K a c).1;obtain⟨cO,C,az⟩:=(K a c).2;rw[i] at C;injection C with C;subst C;cases az
 .rintro pre d J k cP;have aJ:=o.abw af (pre.map Subtype.val) (-1,⟨-1,0⟩,[]);simp only[List.length_map,List.length_nil] at aJ;have ao:((pre++[d]).map Subtype.val).foldl (o.nH m) (-1,⟨-1,0⟩,[])=o.nH m ((pre.map Subtype.val).foldl (o.nH m) (-1,⟨-1,0⟩,[])) d.1:=by
   rw[AF8,AL3];rfl
  generalize (pre.map Subtype.val).foldl (o.nH m) (-1,⟨-1,0⟩,[])=j at k aJ ao;have bw:=o.Ux af d.1;have aK:=d.2;refine eC ?_;intro g0 bx cQ aq x;refine eC ?_;refine⟨aq.keeps _,aq.ia (T6 (s (Ext.refl _)).size k.mod.size),λeT ar=>?_⟩;obtain⟨cS,cT,aM,aP⟩:=ar.mod;replace x:=ar.cells x;have q:nk f b g e j eT:=(k.ext aq).move aP (λa L aH aI i c=>by subst c;exact aM _ _ _ i) λa c=>AW
  have bz:f.heap.size<=eT.heap.size:=q.mod.size;have cU:eT.heap[P]? = f.heap[P]? := q.mod.block P (ca ak) (by simp;omega);have aQ:bx∉[b,g,e]:=by have:=k.mod.size;simp;omega
  clear k ar aP aM al an aj W aE Z;generalize M:(if d.1≠j.2.1 then j.1+1 else j.1)=at' at ao;refine eC ?_;refine S_ [1,3,4,5,6] (λ_=>[]) (λ(_:Unit) v=>nk f b g e (at',j.2) v/\e4 f.heap.size [b,g,e] [T.f] eT v) ?_ ?_
  .have cW:=q.aK;have aS:=q.bk;refine ad ?_;refine AC1 (sig:=o.ahB) Cg (o.aav _) (o.aav _) λcX K=>?_;refine ad ?_;refine N_ (λab=>?_) (λab=>?_)
   .have bA:d.1≠j.2.1:=λp=>K.1 ab (by rw[p]);rw[if_pos bA] at M;subst M;refine ad ?_;intro jd aT bB;refine ad ?_;exact⟨(),trivial,q.mc aT bB aF U,aT.w7 Ah⟩
   .have heq:d.1=j.2.1:=o.asf _ _ (Classical.byContradiction λbC=>by rw[K.2 bC] at ab;cases ab);rw[if_neg (by simp[heq])] at M;subst M;refine ad ?_;exact⟨(),trivial,q,(Ext.refl eT).w7⟩
  rintro _ bE jd ⟨au,aU⟩;replace x:=e4.obj aU x aQ Ae;have av:=au.mod.block P (ca ak) (by simp;omega);rw[ak] at av;have aS:=au.bk;have aW:∀N∈[b,g,e],w.heap.size<=N:=λN r=>by
   have:=Q.size
   simp at r;rcases r with rfl | rfl | rfl<;>omega
  refine eC ?_;simp -dsimp only[cA];refine eC ?_;intro o2 ae bF;have aX:=au.iY ae bF aG U;have bG:=e4.trans aU (ae.w7 Ah);have cY:=ae.obj av AW;replace x:=ae.obj x (by simp at aQ;omega);have cZ:Ext w o2:=aX.mod.ext (s (Ext.refl _)) λa i c=>by have:=aW a c;omega
  clear av aS;obtain⟨y,aY⟩:=T7 aK.aQ;have a0:y<m.procs.length:=by have:=aK.ab;omega
  obtain⟨c,rfl⟩:=n.addr;obtain⟨c1,c2,dI,c3,bH,bI⟩:=n.at y a0;obtain⟨_,_,rfl,_⟩:=bH.form;obtain⟨_,_,rfl,c4⟩:=bI.form;have a2:o.p4 m d.1=m.procs[y].cL.length:=by
   unfold o.p4;rw[aY,o.ir AW AW];simp
  rw[a2] at bw;refine ad ?_;refine M_ y aY a0 ?_;refine ad ?_;refine K_ 26 m.procs[y].cL.length [1,3,4,5,6,25] (λ_=>[]) () (λz _ v=>nk f b g e (at',d.1,j.2.2++o.refsOf at' z) v/\e4 f.heap.size [b,g,e] [T.f] eT v) aV aV ⟨by simpa[o.refsOf] using aX,bG⟩ ?_;rintro z _ bE j8 c5 ⟨O,aw⟩;refine ad ?_;apply I_<;>intro c9
  .obtain⟨a5,a6,L,A,t⟩:=O.ex;have db:=O.aK;have dc:=O.mod.size;refine ad ?_;intro dd de df l bJ;refine ad ?_;have dg:(j.2.2++o.refsOf at' z).length+1<=5000:=by
    simp only[List.length_append,o.refsOf,List.length_map,List.length_range];omega
   refine _J (ys:=[(⟨at',(z:Int)⟩:o.Ref)]) (t.ext l) (λ_=>rfl) (by simpa[o.Ref.enc] using gP bJ) rfl (by intro dh di a7;simp[o.Ref.enc] at a7;rcases a7 with rfl | rfl<;>rfl)
    (by simp only[List.length_cons,List.length_nil];omega) (by simp only[List.length_cons,List.length_nil];unfold maxLen;omega) (by have:=l.size;omega) λdj bK a9 ba _=>?_
   obtain⟨dr,dt,rfl,_⟩:=a9.form;have du:bK.heap[b]? = some (.cells #[.slice a5 a6 L] T.u):=by
    rw[ba.block b (ca (l.obj A)) λp=>?_]
    .exact l.obj A
    .obtain⟨bL,n⟩:=(t.ext l).b0 b p.symm;exact absurd (oz n (l.obj A)) Ae
   refine ad ?_;intro dv bM bN;obtain⟨bO,bP⟩:=(O.ext l).app (l.obj A) (t.ext l) a9 ba bM bN aF aG;refine ad ?_;exact⟨AW,aZ,(),trivial,by rw[o.agK,<-VA];exact bO,e4.trans aw (e4.trans l.w7 bP)⟩
  .have bR:z=m.procs[y].cL.length:=AW
   refine ad ?_;refine⟨e4.keeps aw (λN r=>?_),e4.ia aw (T6 (s (Ext.refl _)).size bz) (s (Ext.refl _)).size (λN r=>⟨aW N r,λL aH aI i ax=>?_⟩) Ae,?_⟩
   .simp at r;rcases r with rfl | rfl | rfl<;>omega
   .simp at r;rcases r with rfl | rfl | rfl
    .obtain⟨_,_,_,p,_⟩:=q.ex
     have:=oz i p;subst this;revert ax;decide
    .have:=oz i q.aK;subst this;revert ax;decide
    .have:=oz i q.bk;subst this;revert ax;decide
   .show nk f b g e _ j8;rw[ao]
    have:o.nH m j d.1=(at',d.1,j.2.2++o.refsOf at' z):=by unfold o.nH;rw[M,a2,bR]
    rw[this];exact O
 .rintro D xs J bV bW k bb;obtain⟨a5,a6,L,A,t⟩:=k.ex;have bX:=o.awE m;rw[bW] at t;rw[bX] at t;simp -dsimp only[c8,cA,Nat.reduceAdd,Nat.reduceEqDiff,reduceIte,reduceCtorEq,dq];refine _C A (Ext.refl _) rfl ?_;simp -dsimp only[c8,cA,Nat.reduceAdd,Nat.reduceEqDiff,reduceIte,reduceCtorEq,dq];refine gl.ret bb ?_;simp -dsimp only[c8,cA,Nat.reduceAdd,Nat.reduceEqDiff,reduceIte,reduceCtorEq,dq];have bf:w.heap.size<=f.heap.size:=(s (Ext.refl _)).size;have bY:Ext w J:=k.mod.ext (s (Ext.refl _)) λa i c=>by
   have:=Q.size
   simp at c;rcases c with rfl | rfl | rfl<;>omega
  refine⟨(t.mod (A:=λa=>a=D) ((dY.fZ _ _ _).mod rfl) λa i c=>?_).low bf,bY.fZ (T6 bf bV) _⟩;subst c;obtain⟨bL,n⟩:=t.b0 a i;rw[bb] at n;injection n with n;cases n
end Go.Proofs.R
namespace o
def aev:∀(a:c7),∀b∈a.enc,b.oneCell'=true:=by intro a b c;simp[c7.enc] at c;rcases c with rfl | rfl<;>rfl
def awA:∀(a:Ref),∀b∈a.enc,b.oneCell'=true:=by intro a b c;simp[Ref.enc] at c;rcases c with rfl | rfl<;>rfl
end o
namespace Go.Proofs.R
open Go Go.RowKit a8 o
def Ev(cs:C_ B_)(m:o.Model)(w:A_)(h:eu w cs m)(U:m.cS) :
  EG F.M7 #[.agg cs.toArray] w λr c=>aR c7.enc T.c 2 w.heap.size c r (o.insts m)/\Ext w c:=by
 obtain⟨an,ao,aq,bg,ar,bj,au,av,aw,ax,rfl,az,aA,aB,I,aC,aD,aE,aF,aG,aH⟩:=h.form;have V:=U.procs;have aI:=tz m;unfold eO at V;refine bm E.M7 ?_;refine ad ?_;intro W e aJ X J;refine ad ?_;refine K_ 4 m.procs.length [1] (λa:ef×C_ c7=>[(3,.slice a.1.1 a.1.2.1 a.1.2.2)]) ((none,0,0),[]) (λb a c=>(Ext w c/\c.heap[e]? = W.heap[e]?)/\aR c7.enc T.c 2 w.heap.size c (.slice a.1.1 a.1.2.1 a.1.2.2) a.2/\a.2++kD m (m.procs.drop b) b=o.insts m) aV aV ⟨⟨X,rfl⟩,aR.nil _ _ _ _ _,by simp[o.insts]⟩ ?_;rw[J];clear J;rintro b ⟨r,k⟩ K Y aK ⟨⟨l,n⟩,s,f⟩;refine ad ?_;apply I_<;>intro aM
 .have t:b<m.procs.length:=AW
  obtain⟨aP,rfl⟩:=I.addr;obtain⟨aQ,aS,dI,aT,Z,ab⟩:=I.at b t;obtain⟨_,_,rfl,_⟩:=Z.form;obtain⟨_,_,rfl,_⟩:=ab.form;rw[aew t] at f;have p:=congrArg List.length f;simp only[List.length_append] at p;have aU:=F3 m m.procs[b];refine eC ?_;simp -dsimp only[cA];refine eC ?_;refine S_ [1,4] (λa:ef=>[(3,.slice a.1 a.2.1 a.2.2)]) (λa c=>(Ext w c/\c.heap[e]? = Y.heap[e]?)/\aR c7.enc T.c 2 w.heap.size c (.slice a.1 a.2.1 a.2.2) (k++jE b m.procs[b])) ?_ ?_
  .refine ad ?_;apply I_<;>intro u
   .have v:jE b m.procs[b]=[⟨(b:Int),0⟩]:=by unfold jE;rw[if_pos u]
    rw[v] at p ⊢;simp only[List.length_cons,List.length_nil] at p;refine ad ?_;intro L aW aX g i;have j:=s.ext g;have x:=g.obj n;refine ad ?_;refine T_ (y:=⟨(b:Int),0⟩) j i rfl (λ_=>rfl) aev (by simp only;omega) (by unfold maxLen;simp only;omega) (l.trans g).size λy z A ae B M=>?_;refine ad ?_;exact⟨(y,z,A),aV,⟨j.hN (l.trans g) M (Fy _),by rw[n];exact j.box M x Ae⟩,B⟩
   .have v:jE b m.procs[b]=[]:=by unfold jE;rw[if_neg u]
    refine ad ?_;exact⟨r,aV,⟨l,aZ⟩,by rw[v,AG8];exact s⟩
  rintro af K L ⟨⟨g,i⟩,j⟩;rw[n] at i;clear n;refine ad ?_;refine _V [1,4] (λa:ef×Nat=>[(3,.slice a.1.1 a.1.2.1 a.1.2.2),(5,.I ((a.2:Int)+1))]) (af,0) (λa c=>(a.2<=o.elems m m.procs[b]/\Ext w c/\c.heap[e]? = L.heap[e]?)/\aR c7.enc T.c 2 w.heap.size c (.slice a.1.1 a.1.2.1 a.1.2.2) (k++jE b m.procs[b]++km b a.2)) (λa=>4 - a.2) aV ⟨⟨AG2 _,g,rfl⟩,by simpa[km] using j⟩ ?_;rw[i];clear i;rintro⟨v4,d⟩ K ae ⟨⟨ag,C,ah⟩,B⟩;refine ad ?_;refine P_ _ (λc ai=>awp _ m m.procs[b] _ _ c (h.ext (C.trans ai))) ?_;refine ad ?_;intro aY q;have N:=q.obj ah;have O:=B.ext q;refine ad ?_;apply I_<;>intro u
  .have a0:d<o.elems m m.procs[b]:=AW
   refine ad ?_;intro a2 a5 a6 G aj;have H:=O.ext G;have x:=G.obj N;have P:=(C.trans q).trans G;refine ad ?_;have Q:(k++jE b m.procs[b]++km b d).length+1<=(o.insts m).length:=by
    simp only[List.length_append,km,List.length_map,List.length_range] at p ⊢;omega
   refine T_ (y:=⟨(b:Int),(d:Int)+1⟩) H aj rfl (λ_=>rfl) aev (T6 (AJ0 16 Q) AW) (T6 Q (by unfold maxLen;omega)) P.size λy z A a7 ak S=>?_;refine ad ?_;exact⟨((y,z,A),d+1),aV,⟨⟨by show d+1<=_;omega,H.hN P S (Fy _),H.box S x Ae⟩,by rw[afS,<-VA];exact ak⟩,by show 4 - (d+1)<4 - d;omega⟩
  .have al:d=o.elems m m.procs[b]:=by simp only at ag;omega
   refine ad ?_;exact⟨t,aZ,(v4,k++(jE b m.procs[b]++km b d)),aV,⟨C.trans q,N⟩,by rw[<-VA];exact O,by rw[al,<-f];simp⟩
 .rw[VB AW] at f;refine ad ?_;refine⟨?_,l⟩;simp only[kD,List.append_nil] at f;rw[<-f];exact s
def awt(cs:C_ B_)(m:o.Model)(w:A_)(h:eu w cs m)(J:m.cS)(aj:(o.refs m).length*16<=140737488351232) :
  EG F.HK #[.agg cs.toArray] w λi c=>aR o.Ref.enc T.f 2 w.heap.size c i (o.refs m)/\Ext w c:=by
 obtain⟨ak,al,an,bg,ao,bj,aq,ar,au,av,rfl,aw,ax,az,q,aA,aB,aC,aD,aE,aF⟩:=h.form;refine bm E.HK ?_;refine ad ?_;intro K aG aH r L;refine ad ?_;refine J_ (Ev _ m K (h.ext r) J) ?_;rintro M g ⟨N,s⟩;have t:=s.obj L;have u:q6 g M (o.insts m):=aR.kF (enc:=c7.enc) (λ_=>rfl) N;obtain⟨aI,aJ,rfl,aK⟩:=u.form;have j:=r.trans s;refine ad ?_;refine K_ 5 (o.insts m).length [1,3] (λa:ef×C_ o.Ref=>[(4,.slice a.1.1 a.1.2.1 a.1.2.2)]) ((none,0,0),[]) (λb a c=>(Ext g c/\aR o.Ref.enc T.f 2 g.heap.size c (.slice a.1.1 a.1.2.1 a.1.2.2) a.2)/\a.2++mI m ((o.insts m).drop b) b=o.refs m) aV aV ⟨⟨Ext.refl _,aR.nil _ _ _ _ _⟩,by simp[o.refs]⟩ ?_;rintro b ⟨i,k⟩ O aM aP ⟨⟨l,v⟩,f⟩;have P:=l.obj t;refine ad ?_;apply I_<;>intro aQ
 .have x:b<(o.insts m).length:=AW
  have y:=qM (o.insts m)[b] (ID _);obtain⟨d,z⟩:=T7 y.aQ;have A:d<m.procs.length:=by have:=y.ab;omega
  obtain⟨aS,rfl⟩:=q.addr;obtain⟨aT,rfl⟩:=u.addr;obtain⟨aU,aW,dI,Q,S,U⟩:=q.at d A;obtain⟨_,_,rfl,_⟩:=S.form;obtain⟨_,_,rfl,aX⟩:=U.form;have V:p4 m (o.insts m)[b]=m.procs[d].cL.length:=by
   unfold p4;rw[z,ir AW AW];simp
  rw[awC x,V] at f;have B:=congrArg List.length f;simp only[List.length_append] at B;refine ad ?_;refine K_ 6 m.procs[d].cL.length [1,3,5] (λa:ef=>[(4,.slice a.1 a.2.1 a.2.2)]) i (λe a c=>Ext g c/\aR o.Ref.enc T.f 2 g.heap.size c (.slice a.1 a.2.1 a.2.2) (k++o.refsOf b e)) aV aV ⟨l,by simpa[o.refsOf] using v⟩ ?_;clear P;rintro e W O aY a0 ⟨n,X⟩;have a2:=n.obj t;have a5:=Q.ext j;refine ad ?_;refine M_ d z A ?_;refine ad ?_;intro a6 p;have C:=X.ext p;refine ad ?_;apply I_<;>intro a7
  .have Y:e<m.procs[d].cL.length:=AW
   refine ad ?_;intro a9 ba bb G Z;have H:=C.ext G;have I:=(n.trans p).trans G;refine ad ?_;have bf:(k++o.refsOf b e).length+1<=(o.refs m).length:=by
    simp only[List.length_append,o.refsOf,List.length_map,List.length_range] at B ⊢;omega
   refine T_ (y:=⟨(b:Int),(e:Int)⟩) H Z rfl (λ_=>rfl) awA AW (by unfold maxLen;omega) I.size λab ae af bk ag ah=>?_;refine ad ?_;exact⟨Y,aZ,(ab,ae,af),aV,H.hN I ah (Fy _),by rw[agK,<-VA];exact ag⟩
  .have ai:e=m.procs[d].cL.length:=AW
   refine ad ?_;exact⟨x,aZ,(W,k++o.refsOf b e),aV,⟨n.trans p,C⟩,by rw[ai,<-f];simp⟩
 .rw[VB AW] at f;refine ad ?_;refine⟨?_,j.trans l⟩;simp only[mI,List.append_nil] at f;rw[<-f];exact v.low j.size
def awu(cs:C_ B_)(m:o.Model)(w:A_)(h:eu w cs m)(b:m.cS)(c:Av m) :
  EG F.HK #[.agg cs.toArray] w λd a=>aR o.Ref.enc T.f 2 w.heap.size a d (o.refs m)/\Ext w a :=
 awt cs m w h b (by have:=Vg c;omega)
end Go.Proofs.R
namespace a8
open Go
def da(n:Int):C_ B_:=[.int .i64 n]
def je:∀(a:Int),∀b∈da a,b.oneCell'=true:=by intro a b c;simp[da] at c;subst c;rfl
instance aBf:nM (Flat da) (λn=>[Value.int .i64 n]):=⟨λ_ _ _ h=>h⟩
end a8
namespace Go.Proofs.R
open Go Go.RowKit a8 o
abbrev nW:Int->C_ B_:=λa=>[Value.int .i64 a]
abbrev vo(base:Nat)(w:A_)(v:B_)(xs:C_ Int):Prop:=aR nW T.a 1 base w v xs
structure r2(base b:Nat)(w:World)(m:Value)(st:List Int):Prop where
 ex:∃Cm,w.heap[b]? = some (.cells #[Cm,m] T.sa)/\vo base w Cm st
 lt:b<base
 le:base<=w.heap.size
theorem r2.ext{base b:Nat}{w w':A_}{m:B_}{st:C_ Int}(h:r2 base b w m st)(a:Ext w w'):r2 base b w' m st :=
 let ⟨c,d,e⟩:=h.ex
 ⟨⟨c,a.obj d,e.ext a⟩,h.lt,T6 h.le a.size⟩
theorem Gg(st:C_ Int)(h:0<st.length):st.getLastD 0=st[st.length - 1]:=by
 rw[List.getLastD_eq_getLast?,List.getLast?_eq_getElem?,List.getElem?_eq_getElem AW];rfl
def ah9(base b:Nat)(w:A_)(m:B_)(st:C_ Int)(h:r2 base b w m st)(a:0<st.length) :
  EG F.Kz #[.pointer (some ⟨b,0,none⟩)] w λd e=>d = .I (st.getLastD 0)/\Ext w e:=by
 obtain⟨i,j,c⟩:=h.ex;obtain⟨k,l,rfl,n,f⟩:=c.form;have g:nO w _ st:=aR.iw (enc:=nW) (sz:=1) (λ_=>rfl) c;obtain⟨p,rfl⟩:=g.addr a;unfold maxLen at f;refine bm E.Kz ?_;refine aN ?_;refine M_ (st.length - 1) AW AW ?_;refine aN ?_;intro q r;refine aN ?_;rw[Gg _ a];exact cf
def asF(x:o.Node)(cs:C_ B_)(s:o.Scope)(base b:Nat)(w:A_)(m:B_)(st:C_ Int)(J:x.ok)(h:gn w cs s)(K:r2 base b w m st)(L:x.op=3->0<st.length) :
  EG F.xh #[.pointer (some ⟨b,0,none⟩),.agg x.enc.toArray,.agg cs.toArray] w λM j=>M = .tuple #[.I (hf x s (st.getLastD 0)).1,.I (hf x s (st.getLastD 0)).2]/\Ext w j:=by
 obtain⟨ab,ae,N,bg,af,bj,ag,ah,O,P,rfl,ai,Q,aj,ak,S,al,an,ao,aq,ar⟩:=h.form;refine bm E.xh ?_;simp -dsimp only[cA];refine r9 ?_;refine O_ λau v av U y=>?_;refine r9 ?_;refine O_ λn V aw z A=>?_;have l:=U.trans z;have W:n.heap[v]? = some (.cells #[.I x.op,.I x.n] T.j):=z.obj y;clear y;refine r9 ?_;simp -dsimp only[cA];refine r9 ?_;refine _x (λp j=>p 0 = .pointer (some ⟨b,0,none⟩)/\p 4 = .pointer (some ⟨v,0,none⟩)/\p 5 = .pointer (some ⟨V,0,none⟩)/\j=n/\(x.op=2\/x.op=3\/x.op=4) /\
  p 8=if x.op=4 then .slice O s.locals.length P else .slice N s.vars.length bg) ?_ ?_
 .refine aN ?_;apply I_<;>intro e
  .refine aN ?_;refine J_ (P4 x.n 0 n) ?_;rintro _ q ⟨rfl,r⟩;have k:hf x s (st.getLastD 0)=if o.within x.n then (0,0) else (0,10):=by rw[hf,if_pos e]
   have X:(o.tell (· + ·) x.n 0).2=o.within x.n:=by
    unfold o.tell
    have:o.within 0=true:=rfl
    simp only[Int.add_zero,this,Bool.and_true,Bool.and_self];split<;>simp_all
   rw[k,X];refine aN ?_;refine N_ (λf=>?_) (λf=>?_)
   all_goals
    refine aN ?_;rw[f];exact cf
  refine aN ?_;apply I_<;>intro g
  .refine aN ?_;refine⟨trivial,trivial,trivial,trivial,.inr (.inr g),by rw[if_pos g]⟩
  refine aN ?_;apply I_<;>intro f
  .refine aN ?_;refine⟨trivial,trivial,trivial,trivial,.inl f,by rw[if_neg g]⟩
  refine aN ?_;apply I_<;>intro t
  .refine aN ?_;refine⟨trivial,trivial,trivial,trivial,.inr (.inl t),by rw[if_neg g]⟩
  refine aN ?_;refine R_ (c:=[_,_]) W (Ext.refl _) rfl ?_;refine aN ?_;refine R_ (c:=[_,_,_,_,_,_]) A (Ext.refl _) rfl ?_;refine aN ?_;refine J_ (asG x _ s n J (h.ext l)) ?_;rintro _ q ⟨rfl,r⟩;refine aN ?_;have k:hf x s (st.getLastD 0)=kU x s:=by rw[hf,if_neg e,if_neg AW]
  rw[k];exact cf
 .rintro B j ax ⟨a,c,d,rfl,Y,C⟩;have k:hf x s (st.getLastD 0)=(let i:=fQ (if x.op=4 then s.locals else s.vars) x.n s;if i.2.2=false then (0,8) else if (x.op=3/\(i.2.1=0\/st.getLastD 0≠i.2.1))\/(x.op≠3/\i.2.1≠0) then (0,9) else (i.1,0)):=by
   rw[hf,if_neg AW,if_pos Y]
  rw[k];clear k;have u:jO j (B 8) (if x.op=4 then s.locals else s.vars):=by
   rw[C];split
   .exact S.ext l
   .exact Q.ext l
  generalize (if x.op=4 then s.locals else s.vars)=G at u ⊢;obtain⟨H,I⟩:∃H,B 8=H:=⟨_,rfl⟩;rw[I] at u;clear C;refine eG (i_ a (i_ c (i_ d I))) ?_;refine R_ (c:=[_,_,_,_,_,_]) A (Ext.refl _) rfl ?_;refine eG (i_ a (i_ c d)) ?_;refine J_ (ayy _ G x.n _ s j u (h.ext l)) ?_;rintro _ q ⟨rfl,r⟩;generalize fQ G x.n s=i;obtain⟨az,aA,aB⟩:=i;refine eG (i_ a (i_ c d)) ?_;refine N_ (λe=>?_) (λe=>?_);rotate_left
  .refine aN ?_;simp only[e,if_true];exact cf
  have Z:=(K.ext l).ext r;refine eG (i_ a (i_ c d)) ?_;apply I_<;>intro f
  .refine eG (i_ a (i_ c d)) ?_;apply I_<;>intro t
   .refine eG (i_ a (i_ c d)) ?_;simp only[e,Bool.true_eq_false,if_false];rw[if_pos (.inl ⟨f,.inl t⟩)];exact cf
   refine eG (i_ a (i_ c d)) ?_;refine J_ (ah9 base b q m st Z (L f)) ?_;rintro _ aC ⟨rfl,aD⟩;refine eG (i_ a (i_ c d)) ?_;apply I_<;>intro g
   .refine eG (i_ a (i_ c d)) ?_;simp only[e,Bool.true_eq_false,if_false];rw[if_neg AW];exact cf
   .refine aN ?_;simp only[e,Bool.true_eq_false,if_false];rw[if_pos (.inl ⟨f,.inr g⟩)];exact cf
  .refine eG (i_ a (i_ c d)) ?_;apply I_<;>intro g
   all_goals
    refine aN ?_;simp only[e,Bool.true_eq_false,if_false]
   .rw[if_neg AW];exact cf
   .rw[if_pos (.inr ⟨f,g⟩)];exact cf
def AA3{P:D_}{x:B_}{args:C_ B_}{w:A_}{b:B_->Prop}{t}(v:B_)(h:∀a,Ext w a->yA P x args a (λd e=>d=v/\Ext a e) ⟨⟩)(f:b v):Jc P x args w b t:=by
 unfold Jc;refine⟨v,λa c=>?_,f⟩
 have:=h a c
 unfold yA at this;obtain⟨g,first,i,j,k,l⟩:=this;exact⟨g,first,i,j,k,l.mono λ_ _ ⟨m,n⟩=>⟨m,c.trans n⟩⟩
theorem yC.ext{w w':A_}{v:B_}{g:Int->Int->Int×Bool}(a:Ext w w')(h:yC w v g):yC w' v g:=by
 rcases h with h | ⟨b,c,d,e,f,i⟩
 .exact .inl h
 .exact .inr ⟨b,c,d,e,a.obj f,i⟩
def OL(f:o.Node->C_ Int->Int×Int)(d:pA->C_ Int->Int×Int)(e:o.Node->C_ Int->Int×Int):Prop :=
 ∀b a,f b a=match gS b.op with | some c=>d c (a.drop (a.length - c.parts.toNat)) | none=>e b a
def UD{x:Int}{a:pA}(h:gS x=some a):1<=a.parts/\a.parts<=2:=by
 unfold gS at h
 repeat' split at h
 all_goals first | (cases h;exact⟨Ae,Ae⟩) | cases h
def axV(f:o.Node->C_ Int->Int×Int)(Q:pA->C_ Int->Int×Int)(S:o.Node->C_ Int->Int×Int)(aH:OL f Q S)
  (x:o.Node)(base b:Nat)(w:A_)(m ar au:B_)(st:C_ Int)(l:r2 base b w m st)(av:r3 w m)(bk:st.length<=24)
  (aI:0<=ej x.op->ej x.op<=st.length->gS x.op=none->∀c C U,Ext w c->(∀s,Ext c s->C (.tuple #[.I (S x st).1,.I (S x st).2]) s)->CB Tryz.prog ar [.agg x.enc.toArray] c C U)
  (aJ:∀d V aw c C U,Ext w c->gS x.op=some d->Fj c d V->d.parts<=st.length->nO c aw (st.drop (st.length - d.parts.toNat)) ->
   (∀s,Ext c s->C (.tuple #[.I (Q d (st.drop (st.length - d.parts.toNat))).1,.I (Q d (st.drop (st.length - d.parts.toNat))).2]) s)->yA Tryz.prog au [V,aw] c C U) :
  EG F.Ky #[.pointer (some ⟨b,0,none⟩),.agg x.enc.toArray,ar,au] w λaK c =>
   aK = .I (o.stepG f x st).1/\Mod (λn=>n=b\/base<=n) w c/\((o.stepG f x st).1=0->r2 base b c m (o.stepG f x st).2):=by
 obtain⟨bn,aM,W⟩:=l.ex;obtain⟨t,u,rfl,bo,v⟩:=W.form;have aP:nO w _ st:=aR.iw (enc:=nW) (sz:=1) (λ_=>rfl) W;unfold maxLen at v;refine bm E.Ky ?_;simp -dsimp only[cA];refine r9 ?_;refine O_ λbp br bt X ax=>?_;refine r9 ?_;simp -dsimp only[cA];refine r9 ?_;refine P_ _ (λc k=>au9 x.op m c (av.ext (X.trans k))) ?_;refine r9 ?_;intro bu Y;have p:=X.trans Y;refine r9 ?_;simp -dsimp only[cA];generalize M:ej x.op=q;have bw : -1<=q/\q<=2:=by rw[<-M];unfold ej; (repeat' split)<;>omega
 refine aN ?_;apply I_<;>intro Z
 .refine aN ?_;have ab:o.stepG f x st=(3,st):=by unfold o.stepG;rw[M,if_pos Z]
  rw[ab];exact⟨rfl,p.mod,λi=>by cases i⟩
 refine aN ?_;apply I_<;>intro az
 .refine aN ?_;have ab:o.stepG f x st=(4,st):=by unfold o.stepG;rw[M,if_neg Z,if_pos az]
  rw[ab];exact⟨rfl,p.mod,λi=>by cases i⟩
 refine r9 ?_;simp -dsimp only[cA];refine r9 ?_;simp -dsimp only[cA];refine r9 ?_;have aA:o.stepG f x st=if (f x st).2≠0 then ((f x st).2,st) else if (st.take (st.length - q.toNat)++[(f x st).1]).length > 12 then (12,st) else (0,st.take (st.length - q.toNat)++[(f x st).1]):=by
  unfold o.stepG;rw[M,if_neg Z,if_neg az]
 rw[aA];clear aA;have y:=aH x st;generalize bx:f x st=j at y ⊢;refine _x (λN c=>N 0 = .pointer (some ⟨b,0,none⟩)/\N 9 = .I q/\N 10 = .I j.1/\N 11 = .I j.2/\Ext w c) ?_ ?_
 .refine aN ?_;intro G g;obtain⟨bz,bA,aQ,aS,O⟩:=(av.ext (p.trans g)).look x.op;refine aN ?_;refine _t aQ aS ?_;cases z:gS x.op with
  | none =>
   simp only[z] at O y;subst O;simp only[po,Option.map_none,Option.getD_none,Option.isSome_none,if_true];refine aN ?_;refine O_ λae aT af e H=>?_;refine⟨e,?_⟩;refine aN ?_;refine X_ (cs:=#[.I 0,.I 0,.I 0,.nilFunc]) H rfl rfl (by simp[Value.oneCell']) λA I P=>?_;have h:Ext G A:=I.ext e af;clear H I e;refine aN ?_;refine R_ (c:=[_,_]) (Y.obj ax) (fU) rfl ?_;refine aN ?_;refine aI AW AW z _ _ _ ((p.trans g).trans h) λag ah=>?_;refine aN ?_;rw[y];exact⟨trivial,trivial,rfl,rfl,((p.trans g).trans h).trans ah⟩
  | some d =>
   simp only[z] at O y;obtain⟨bB,V,rfl,r,rfl,ai⟩:=O;obtain⟨bC,bE⟩:=UD z;have bF:=(B5 z).1;simp only[po,Option.map_some,Option.getD_some,Option.isSome_some,if_true];refine aN ?_;refine O_ λae aT af e H=>?_;refine⟨e,?_⟩;refine aN ?_;refine X_ (cs:=#[.I d.parts,.I d.iZ,.I d.makes,r]) H rfl rfl (by rcases ai with ⟨f,rfl,_⟩ | ⟨bG,f,a,rfl,_⟩<;>simp[Value.oneCell']) λA I P=>?_;have h:Ext G A:=I.ext e af;clear H I e;have aj:=(p.trans g).trans h;have bH:Fj G d (.agg #[.I d.parts,.I d.iZ,.I d.makes,r]):=⟨r,rfl,ai⟩;obtain⟨a,rfl⟩:=T7 (show 0<=q by omega);have ak:d.parts.toNat=a:=AW
   refine aN ?_;refine R_ (c:=[_,_,_,_]) P (Ext.refl _) rfl ?_;refine aN ?_;refine _9 (st.length - a) (by refine a1 ?_;rw[Int.ofNat_sub AW]) ⟨AW,AW⟩ ?_;have aU:=aP.tail (st.length - a) AW;rw[ak] at y;refine aN ?_;refine AA3 _ (λc k=>aJ d _ _ c _ _ (aj.trans k) z ⟨r,rfl,ai.ext (h.trans k)⟩ AW (by rw[ak];exact aU.ext Flat.ext (aj.trans k)) λs aW=>⟨rfl,aW⟩) ?_;refine aN ?_;intro ag ah;refine aN ?_;rw[y,ak];exact⟨trivial,trivial,rfl,rfl,aj.trans ah⟩
 .clear ax X Y p;rintro bI G bJ ⟨J,K,L,B,g⟩;simp -dsimp only[cA];refine eG (i_ J (i_ K (i_ L B))) ?_;apply I_<;>intro al;rotate_left
  .refine eG B ?_;rw[if_pos al];exact⟨rfl,g.mod,λi=>absurd i al⟩
  obtain⟨a,rfl⟩:=T7 (show 0<=q by omega);have aX:¬j.2≠0:=by simpa using al
  rw[if_neg aX];have v:(st.take (st.length - a)++[j.1]).length=st.length - a+1:=by simp[List.length_take]
  have bK:=l.ext g;have aY:vo base G (.slice t st.length u) st:=W.ext g;refine r9 ?_;simp -dsimp only[cA];refine eG (i_ J (i_ K (i_ L B))) ?_;intro ae e;have a0:vo base ae (.slice t st.length u) st:=aY.ext e;refine eG (i_ J (i_ K (i_ L B))) ?_;refine _l (st.length - a) (by refine a1 ?_;rw[Int.ofNat_sub AW]) AW ?_;refine eG (i_ J (i_ K (i_ L B))) ?_;refine _E (cs:=[j.1].flatMap nW) (by simp[List.range,List.range.loop,gu,lay,dy,bS,Value.cells,nW]) λA bL bM h P=>?_;refine⟨h,?_⟩;refine aN ?_;have an:vo base A (.slice t (st.length - a) u) (st.take (st.length - a)):=aR.head (enc:=nW) (sz:=1) (xs:=st) (λ_=>rfl) (aR.ext h a0) (st.length - a) (Nat.sub_le _ _);have aB:(st.take (st.length - a)).length=st.length - a:=by simp[List.length_take]
  have a2:((st.take (st.length - a)).length+[j.1].length)*8<=140737488355328:=by rw[aB];simp only[List.length_cons,List.length_nil];omega
  have a5:(st.take (st.length - a)).length+[j.1].length<=maxLen:=by rw[aB];simp only[List.length_cons,List.length_nil,maxLen];omega
  have a6:∀aC,∀r∈nW aC,r.oneCell'=true:=λaC r i=>by simp[nW] at i;subst i;rfl
  refine _m (xs:=st.take (st.length - a)) (ys:=[j.1]) an (λ_=>rfl) (gP P) rfl a6 a2 a5 (by have:=l.le;have:=g.size;have:=e.size;have:=h.size;omega) λa7 ag ao aD=>?_;have aE:A.heap[b]? = some (.cells #[.slice t st.length u,m] T.sa):=h.obj (e.obj (g.obj aM));have a9:ag.heap[b]? = some (.cells #[.slice t st.length u,m] T.sa):=by
   refine(aD.block b (ca aE) λk=>?_).trans aE
   have:=(an.lt b k.symm).1
   have:=l.lt
   omega
  refine aN ?_;refine _B a9 Ah (by obtain⟨t,u,k,_⟩:=ao.form;rw[k];rfl) λaF aG ba=>?_;have aq:Mod (λn=>n=b\/base<=n) w aF :=
   (((g.trans e).trans h).mod.trans (Mod.grown aD λn bb=>.inr (an.lt n bb).1)).trans (aG.mod (.inl rfl))
  have bf:r2 base b aF m (st.take (st.length - a)++[j.1]) :=
   ⟨⟨a7,ba,ao.wr aG l.lt⟩,l.lt,T6 l.le aq.size⟩
  obtain⟨bN,bO,rfl,bP,_⟩:=ao.form;rw[v];have bR:((st.take (st.length - a)++[j.1]).length:Int)=st.length - a+1:=by rw[v];omega
  refine eG (i_ J (i_ K (i_ L B))) ?_;apply I_<;>intro bV
  .refine aN ?_;simp only[Int.toNat_natCast,v];rw[if_pos AW];exact⟨rfl,aq,λi=>by cases i⟩
  .refine aN ?_;simp only[Int.toNat_natCast,v];rw[if_neg AW];exact⟨rfl,aq,λ_=>bf⟩
def ahf(f:o.Node->C_ Int->Int×Int)(L:pA->C_ Int->Int×Int)(M:o.Node->C_ Int->Int×Int)(aF:OL f L M)(I:Int->Prop)
  (b:Nat)(w0 w:A_)(aG:Ext w0 w)(a9:w0.heap.size<=b)(ao X Y:B_)(e:C_ o.Node)(Z:fH w0 ao e)(aq:w.heap[b]? = some (.cells #[.slice none 0 0,.map none] T.sa))
  (aH:∀g a,g.ok->(∀l∈a,I l)->0<=ej g.op->ej g.op<=a.length->(f g a).2=0->I (f g a).1)
  (aI:∀g a aJ v i,g.ok->Mod (λd=>d=b) w i->r2 aJ b i v a->(∀l∈a,I l)->0<=ej g.op->ej g.op<=a.length->gS g.op=none->∀N r A,Ext i N ->
   (∀J,Ext N J->r (.tuple #[.I (M g a).1,.I (M g a).2]) J)->CB Tryz.prog X [.agg g.enc.toArray] N r A)
  (aK:∀s O P Q i r A,Mod (λd=>d=b) w i->Fj i s O->(∃g,gS g=some s)->s.parts=Q.length->nO i P Q ->
   (∀J,Ext i J->r (.tuple #[.I (L s Q).1,.I (L s Q).2]) J)->yA Tryz.prog Y [O,P] i r A) :
  EG F.Kg #[.pointer (some ⟨b,0,none⟩),ao,X,Y] w λaM i =>
   aM = .tuple #[.I (ma f e).1,.I (ma f e).2]/\Mod (λd=>d=b) w i:=by
 obtain⟨ba,bb,rfl,bf⟩:=Z.form;refine bm E.Kg ?_;refine aN ?_;apply I_<;>intro bk
 .refine aN ?_;rw[ma,if_pos AW];exact⟨rfl,Mod.refl _ _⟩
 refine aN ?_;apply I_<;>intro bn
 .refine aN ?_;rw[ma,if_neg AW,if_pos AW];exact⟨rfl,Mod.refl _ _⟩
 refine aN ?_;refine J_ (auR w) ?_;rintro v N ⟨ar,ab⟩;refine aN ?_;refine _B (ab.obj aq) Ae (by obtain⟨bo,_,_,_,e,_⟩:=ar;rw[e];rfl) λB au av=>?_;have ae:B.heap[b]? = some (.cells #[.slice none 0 0,v] T.sa):=av;clear av;have aP:r3 B v:=ar.mod (A:=λd=>d=b) (au.mod rfl) λd s c h x=>by
  subst x;rw[ab.obj aq] at c;injection c with c
  rcases h with ⟨es,aQ,h⟩ | ⟨cs,h⟩
  .rw[h] at c;cases c
  .rw[h] at c;injection c with _ c
   cases c
 have aw:Mod (λd=>d=b) w B:=ab.mod.trans (au.mod rfl);have aS:b<B.heap.size:=ca ae;refine aN ?_;refine _k 27 e.length (λd aT i=>Mod (λd=>d=b) B i/\∃a,e7 f (e.take d) []=(0,a)/\r2 B.heap.size b i v a/\(0<d->1<=a.length)/\a.length<=12/\∀l∈a,I l)
  (by simp -dsimp only[c8,cA,Nat.reduceAdd,Nat.reduceEqDiff,reduceIte,reduceCtorEq,dq]) ⟨Mod.refl _ _,[],by simp[e7],⟨⟨_,ae,aR.nil _ _ _ _ _⟩,aS,Fy _⟩,Ah,Ah,Ah⟩ ?_
 rintro d aT S C x t ⟨af,a,U,ag,aU,bp,ah⟩;have k:=C 0 rfl;have c:=C 1 rfl;have h:=C 2 rfl;have m:=C 3 rfl;have n:=C 25 rfl;have p:=C 26 rfl;simp only[bS,Nat.reduceAdd,Nat.reduceEqDiff,reduceIte,kK,oE] at k c h m n p;clear C;have V:Mod (λd=>d=b) w S:=aw.trans af;refine eG (i_ k (i_ c (i_ h (i_ m (i_ n (i_ p t)))))) ?_;apply I_<;>intro br
 .have G:d<e.length:=AW
  have bt:Ext w0 S:=V.ext aG λbu bw e=>AW
  obtain⟨aW,rfl⟩:=Z.addr;have ax:=(Z.at d G).ok;have az:=λk=>Vq (f:=f) (e:=e) AW G U k;have aA:=EB G U;have aX:r3 S v:=aP.mod (A:=λd=>d=b) af λd s c h x=>by
   subst x;rw[ae] at c;injection c with c
   rcases h with ⟨es,aQ,h⟩ | ⟨cs,h⟩
   .rw[h] at c;cases c
   .rw[h] at c;injection c with _ c
    cases c
  refine eG (i_ k (i_ c (i_ h (i_ m (i_ n (i_ p t)))))) ?_;generalize bx:e[d]=g at *;refine _O (vs:=g.enc) (λ_=>by simp -dsimp only[c8,cA,Nat.reduceAdd,Nat.reduceEqDiff,reduceIte,reduceCtorEq,dq]) rfl rfl (by simp[o.Node.enc,Value.oneCell']) λai bz bA K aY=>?_;refine eG (i_ k (i_ c (i_ h (i_ m (i_ n (i_ p t)))))) ?_;refine R_ (c:=g.enc) aY (Ext.refl _) rfl ?_;refine eG (i_ k (i_ c (i_ h (i_ m (i_ n (i_ p t)))))) ?_;have aj:Mod (λd=>d=b) w ai:=V.trans K.mod;refine J_ (axV f L M aF g B.heap.size b ai v X Y a (ag.ext K) (aX.ext K) AW
   (λq y z i r A ak x=>aI g a _ v ai ax aj (ag.ext K) ah q y z i r A ak x)
   (λs O P i r A ak q y z W x=>aK s O P _ i r A (aj.trans ak.mod) y ⟨_,q⟩ (by have:=UD q;simp[List.length_drop];omega) W x)) ?_
  rintro _ a0 ⟨rfl,aB,aC⟩;have a2:Mod (λd=>d=b) w a0:=aj.then aB λa5 al u=>by
   rcases u with u | u
   .exact u
   .have:=aw.size;omega
  refine eG (i_ k (i_ c (i_ h (i_ m (i_ n (i_ p t)))))) ?_;apply I_<;>intro j;rotate_left
  .refine eG (i_ k (i_ c (i_ h (i_ m (i_ n (i_ p t)))))) ?_;rw[az j];exact⟨aZ,a2⟩
  have an:=axU j;have a6:∀l∈(o.stepG f g a).2,I l:=by
   have a7:=aH g a ax ah;clear az aA an aC;unfold o.stepG at j ⊢;by_cases q:ej g.op<0
   .rw[if_pos q] at j;cases j
   by_cases y:(a.length:Int)<ej g.op
   .rw[if_neg q,if_pos y] at j;cases j
   by_cases z:(f g a).2≠0
   .rw[if_neg q,if_neg y,if_pos z] at j;exact absurd j z
   by_cases W:(a.take (a.length - (ej g.op).toNat)++[(f g a).1]).length > 12
   .rw[if_neg q,if_neg y,if_neg z,if_pos W] at j;cases j
   rw[if_neg q,if_neg y,if_neg z,if_neg W];intro l H;rcases List.mem_append.1 H with H | H
   .exact ah l (AK6 H)
   .simp at H;subst H;exact a7 AW AW (by simpa using z)
  refine eG (i_ k (i_ c (i_ h (i_ m (i_ n (i_ p t)))))) ?_;refine⟨G,aZ,?_,(o.stepG f g a).2,?_,aC j,λ_=>an.1,an.2,a6⟩
  .refine(af.trans K.mod).then aB λa5 al u=>?_;rcases u with u | u
   .exact u
   .omega
  .rw[aA];exact Prod.ext j rfl
 .have G:d=e.length:=AW
  subst G;rw[AG9] at U;obtain⟨bB,bC,aD⟩:=ag.ex;obtain⟨bE,bF,rfl,bG,bH⟩:=aD.form;have al:nO S _ a:=aR.iw (enc:=nW) (sz:=1) (λ_=>rfl) aD;have c:=aU AW;obtain⟨aW,rfl⟩:=al.addr c;have aE:ma f e=if a.length > 1 then (0,5) else (a.headD 0,0):=by
   rw[ma,if_neg AW,if_neg AW,U,if_neg Ah]
  rw[aE];clear aE;refine eG (i_ k (i_ c (i_ h (i_ m (i_ n (i_ p t)))))) ?_;apply I_<;>intro j
  .refine aN ?_;rw[if_pos AW];exact⟨rfl,V⟩
  .refine eG (i_ k (i_ c (i_ h (i_ m (i_ n (i_ p t)))))) ?_;refine M_ 0 rfl AW ?_;refine aN ?_;rw[if_neg AW]
   have:a.headD 0=a[0]:=by
    cases a with
    | nil=>simp at c
    | cons l a=>rfl
   rw[this];exact⟨aZ,V⟩
theorem asP(b:pA)(x r:B_)(l:C_ Int)(w:A_)(i:nO w r l) :
  EG F.Ko #[.agg #[.I b.parts,.I b.iZ,.I b.makes,x],r] w λy j=>y = .tuple #[.I (nG b l).1,.I (nG b l).2]/\Ext w j:=by
 obtain⟨I,z,rfl,J⟩:=i.form;refine bm E.Ko ?_;refine aN ?_;refine O_ λA K L s M=>?_;refine aN ?_;refine _k 10 l.length (λa B j=>j=A/\(l.take a).all (λa=>(decide (b.iZ = -1)||decide (a=b.iZ))&&decide (a=l.headD 0))=true) (by simp -dsimp only[c8,cA,Nat.reduceAdd,Nat.reduceEqDiff,reduceIte,reduceCtorEq,dq]) ⟨rfl,Ah⟩ ?_;rintro a B C c N k ⟨rfl,d⟩;have e:=c 1 rfl;have f:=c 2 rfl;have g:=c 8 rfl;have h:=c 9 rfl;simp only[bS,Nat.reduceAdd,Nat.reduceEqDiff,reduceIte,kK,oE] at e f g h;clear c;refine eG (i_ e (i_ f (i_ g (i_ h k)))) ?_;apply I_<;>intro O;rotate_left
 .rw[Im AW] at d;refine eG (i_ e (i_ f (i_ g (i_ h k)))) ?_;rw[nG,if_pos d];exact cf
 have t:a<l.length:=AW
 obtain⟨G,rfl⟩:=i.addr;have u:l.take (a+1)=l.take a++[l[a]]:=NZ t;have m:=AJ7 (xs:=l.take (a+1)) (ys:=l.drop (a+1)) (f:=λa=>(decide (b.iZ = -1)||decide (a=b.iZ))&&decide (a=l.headD 0));rw[AH7,u,AJ7] at m;have n:l.headD 0=l[0]:=by
  cases l with
  | nil=>simp at t
  | cons P l=>rfl
 have v:((decide (b.iZ = -1)||decide (l[a]=b.iZ))&&decide (l[a]=l.headD 0))=false->nG b l=(0,9):=by
  intro p;rw[nG,if_neg (by rw[m];simp only[List.all_cons,List.all_nil,p];simp)]
 have q:((decide (b.iZ = -1)||decide (l[a]=b.iZ))&&decide (l[a]=l.headD 0))=true->(l.take (a+1)).all (λa=>(decide (b.iZ = -1)||decide (a=b.iZ))&&decide (a=l.headD 0))=true:=by
  intro p;rw[u,AJ7,d];simp only[List.all_cons,List.all_nil,p];rfl
 rw[n] at v;clear m;have Q:0<l.length:=AW
 have S:nO C (.slice (some G) l.length z) l:=i.ext s;have U:=q;rw[n] at q d
 (repeat' first
 | (refine I_ (λ_=>?_) (λ_=>?_)<;>try (exfalso;omega))
 | (refine N_ (λ_=>?_) (λ_=>?_))
 | assumption
 | exact Ext.refl _
 | refine Ext.trans ?_ CW
 | refine Q_ AW ?_
 | refine _H CW ?_ rfl ?_
 | refine _C CW ?_ rfl ?_
 | refine _L CW ?_ AW rfl ?_
 | refine _S CW ?_ AW rfl ?_
 | refine _T CW ?_ AW rfl ?_
 | refine _U AW ?_
 | refine _M (by first | assumption | omega) ?_
 | refine _N (by first | assumption | omega) ?_
 | refine _F CW ?_
 | refine _G CW ?_
 | simp -dsimp only[c8,cA,Nat.reduceAdd,Nat.reduceEqDiff,reduceIte,reduceCtorEq,dq,e,f,g,h,k])
 all_goals first
  | (have H:=v (by simp;omega);rw[H];refine⟨aZ,s⟩)
  | (refine⟨AW,aZ,trivial,?_⟩;rw[n];exact q (by simp;omega))
def asz(x:o.Node)(cs:C_ B_)(s:o.Scope)(base b c d:Nat)(w:A_)(m:B_)(st:C_ Int)(f:F_)(g:x.ok)(h:gn w cs s)(i:r2 base b w m st)(j:x.op=3->0<st.length)
  (t:w.heap[c]? = some (.cells #[.pointer (some ⟨b,0,none⟩)] f))(k:w.heap[d]? = some (.cells cs.toArray T.t)) :
  EG F.Kn #[.agg x.enc.toArray,.pointer (some ⟨c,0,none⟩),.pointer (some ⟨d,0,none⟩)] w λl n =>
   l = .tuple #[.I (hf x s (st.getLastD 0)).1,.I (hf x s (st.getLastD 0)).2]/\Ext w n:=by
 obtain⟨u,v,y,z,A,rfl,_⟩:=h.ex;refine bm E.Kn ?_;refine aN ?_;refine O_ λe p B a q=>?_;have r:e.heap[p]? = some (.cells x.enc.toArray T.j):=q;refine aN ?_;refine R_ (c:=x.enc) r (Ext.refl _) rfl ?_;refine aN ?_;refine R_ k a rfl ?_;refine aN ?_;refine J_ (asF x _ s base b e m st g (h.ext a) (i.ext a) j) ?_;rintro _ C ⟨rfl,G⟩;refine aN ?_;exact cf
def am6(s:o.Scope):OL (gC s) nG λa b=>hf a s (b.getLastD 0):=λ_ _=>rfl
def aeO(g:B_)(e:C_ o.Node)(cs:C_ B_)(s:o.Scope)(w:A_)(G:fH w g e)(h:gn w cs s) :
  EG F.J7 #[g,.agg cs.toArray] w λi b=>i = .tuple #[.I (o.kind e s).1,.I (o.kind e s).2]/\Ext w b:=by
 obtain⟨ag,ah,ai,aj,ak,rfl,_⟩:=h.ex;refine bm E.J7 ?_;refine aN ?_;refine O_ λal t an u v=>?_;refine aN ?_;refine V_ (cs:=[.slice none 0 0,.map none]) (by simp[gu]) ?_;refine aN ?_;refine O_ λH j ao x y=>?_;refine aN ?_;refine O_ λaq k I z A=>?_;refine aN ?_;refine _j A Ae rfl λc B C=>?_;have J:c.heap[k]? = some (.cells #[.pointer (some ⟨j,0,none⟩)] T.ns):=C;have l:Ext H c:=B.ext z I;have ar:=ca y;have au:=ca v;have m:Ext w c:=(u.trans x).trans l;clear C B z A;have K:=l.obj y;have L:=l.obj (x.obj v);have av:=u.size;refine aN ?_;refine J_ (ahf (gC s) nG (λd n=>hf d s (n.getLastD 0)) (am6 s) (λ_=>True) j w c m AW g _ _ e G K (λ_ _ _ _ _ _ _=>trivial) ?_ ?_) ?_
 .intro d n base M b N hm O _ aw ax az P Q S f a;refine W_ (first:=[]) (cap:=[.pointer (some ⟨k,0,none⟩),.pointer (some ⟨t,0,none⟩)]) Cg
   (asz d _ s base j k t P M n _ N (h.ext ((hm.ext m (by intro U a e;omega)).trans f)) (O.ext f) ?_ (f.obj (hm.obj AW J)) (f.obj (hm.obj AW L))) λi p ⟨q,r⟩=>by subst q;exact a p r
  intro V
  have:ej d.op=1:=by rw[V];rfl
  omega
 .rintro W aA X Y b Q S hm ⟨Z,rfl,aB⟩ _ aC ab a;exact _u (first:=[]) (cap:=[]) Cg (asP W Z X Y b ab) λi p ⟨q,r⟩=>by subst q;exact a p r
 rintro _ ae ⟨rfl,af⟩;have aD:Ext w ae:=af.ext m (by intro U a e;omega);refine aN ?_;exact cf
end Go.Proofs.R
namespace o
open Go Go.RowKit a8
def W6(v:B_):H_ (Var×Int)->Prop
 | some a=>v = .tuple #[.agg a.1.enc.toArray,.int .i64 a.2,.bool true]
 | none => ∃(b:Var) (c:Int),v = .tuple #[.agg b.enc.toArray,.int .i64 c,.bool false]
end o
namespace Go.Proofs.R
open Go Go.RowKit a8 o
def aaA(a b:Int)(cs:C_ B_)(s:o.Scope)(w:A_)(h:gn w cs s) :
  EG F.KI #[.I a,.I b,.agg cs.toArray] w λc d=>c = .tuple #[.I (ln a b s).1,.bool (ln a b s).2]/\Ext w d:=by
 obtain⟨e,f,g,bg,i,bj,j,k,l,m,rfl,n,p,q,r,t,u,v,x,y,z⟩:=h.form;refine bm E.KI ?_;refine ad ?_;intro A b B C G;refine ad ?_
 (repeat' (refine aN ?_;first | (refine I_ (λ_=>?_) (λ_=>?_)<;>try (exfalso;omega)) | refine N_ (λ_=>?_) (λ_=>?_)))<;>try refine aN ?_
 all_goals
  refine⟨?_,fU⟩;unfold ln
  (repeat' split)<;>first | rfl | (exfalso;omega)
def aaG(v:B_)(l:C_ o.Var)(n:Int)(cs:C_ B_)(s:o.Scope)(w:A_)(g:jO w v l)(h:gn w cs s) :
  EG F.FH #[v,.I n,.agg cs.toArray] w λv d=>W6 v (o.declared l n s)/\Ext w d:=by
 obtain⟨u,x,y,z,A,rfl,_⟩:=h.ex;obtain⟨B,C,rfl,G⟩:=g.form;refine bm E.FH ?_;refine ad ?_;intro H I J a K;refine ad ?_;intro L M N m i;have b:=a.trans m;refine ad ?_;apply I_<;>intro p
 .refine ad ?_;intro j e q;refine ad ?_;rw[o.declared,hz (.inl p)];exact⟨⟨(⟨⟨#[]⟩,0,0,0,0,0⟩:o.Var),0,rfl⟩,e.ext b (by have:=a.size;omega)⟩
 refine ad ?_;apply I_<;>intro O
 .refine ad ?_;intro j e q;refine ad ?_;rw[o.declared,hz (.inr AW)];exact⟨⟨(⟨⟨#[]⟩,0,0,0,0,0⟩:o.Var),0,rfl⟩,e.ext b (by have:=a.size;omega)⟩
 obtain⟨f,rfl⟩:=T7 (show 0<=n by omega);have P:f<l.length:=AW
 rw[o.declared,ir AW AW];simp only[Int.toNat_natCast];obtain⟨Q,rfl⟩:=g.addr;refine ad ?_;refine P_ _ (λd r=>aaA _ _ _ s d (h.ext (b.trans r))) ?_;refine ad ?_;intro j k;have i:=k.obj i;refine ad ?_;intro S t U;refine ad ?_;refine⟨?_,t.ext (b.trans k) (by have:=a.size;omega)⟩;by_cases c:(ln l[f].scalar l[f].over s).2=true
 .rw[if_pos c,c];rfl
 .rw[if_neg c,Bool.eq_false_iff.2 c];exact⟨_,_,rfl⟩
def alf(n:Int)(cs:C_ B_)(s:o.Scope)(w:A_)(h:gn w cs s) :
  EG F.FI #[.I n,.agg cs.toArray] w λd b=>d = .tuple #[.I ((o.channel n s).getD 0),.bool (o.channel n s).isSome]/\Ext w b:=by
 obtain⟨j,k,l,bg,m,bj,p,q,r,t,rfl,u,v,e,x,y,z,A,B,C,G⟩:=h.form;refine bm E.FI ?_;refine ad ?_;intro H I J f K;refine ad ?_;apply I_<;>intro g
 .refine ad ?_;rw[o.channel,hz (.inl g)];exact cf
 refine ad ?_;apply I_<;>intro L
 .refine ad ?_;rw[o.channel,hz (.inr AW)];exact cf
 obtain⟨c,rfl⟩:=T7 (show 0<=n by omega);have M:c<s.ay.length:=AW
 rw[o.channel,ir AW AW];simp only[Int.toNat_natCast];obtain⟨N,rfl⟩:=e.addr;refine ad ?_;refine P_ _ (λb i=>aaA _ _ _ s b (h.ext (f.trans i))) ?_;refine ad ?_;intro O P;refine ad ?_;refine⟨?_,fU⟩;by_cases a:(ln s.ay[c].scalar 0 s).2=true
 .rw[if_pos a,a];rfl
 .rw[if_neg a,Bool.eq_false_iff.2 a];rw[ax5 (Bool.eq_false_iff.2 a)];rfl
def Qa(a:B_)(e:C_ o.Node)(k:Int)(cs:C_ B_)(s:o.Scope)(w:A_)(f:fH w a e)(h:gn w cs s) :
  EG F.f7 #[a,.I k,.agg cs.toArray] w λg i=>g = .I (o.asked e k s)/\Ext w i:=by
 obtain⟨l,m,n,p,q,rfl,_⟩:=h.ex;refine bm E.f7 ?_;refine ad ?_;intro j r t b u;refine ad ?_;refine J_ (aeO a e _ s j (f.ext b) (h.ext b)) ?_;rintro _ v ⟨rfl,x⟩;refine ad ?_;rw[o.asked];apply I_<;>intro c
 .rw[if_neg (by simpa using c)];refine ad ?_;apply I_<;>intro d
  .refine ad ?_;rw[if_neg (by simpa using d)];exact cf
  refine ad ?_;rw[if_pos d];exact cf
 refine ad ?_;rw[if_pos c];exact cf
def VQ(a:o.Act)(c d:B_)(w:A_):EG F.f8 #[.agg (a.enc c d).toArray] w λe f=>e = .bool (h2 a)/\Ext w f:=by
 refine bm E.f8 ?_;refine ad ?_;intro g h i j k;refine ad ?_;rw[h2];apply I_<;>intro b
 .refine ad ?_;refine⟨?_,fU⟩;congr 1;simp[b]
 refine ad ?_;refine⟨?_,fU⟩;congr 1;simp[b]
theorem awk(a:o.Act)(i j:B_)(k:Int)(cs:C_ B_)(s:o.Scope)(w:A_)(h:gn w cs s) :
  EG F.vH #[.agg (a.enc i j).toArray,.I k,.agg cs.toArray] w λl m=>l = .I (Eu a k s)/\Ext w m:=by
 obtain⟨C,G,H,I,n,rfl,J,K,L,M,p,_⟩:=h.ex;refine bm E.vH ?_;refine ad ?_;intro N O P q Q;refine ad ?_;intro r S U t V;have c:=q.trans t;refine ad ?_;refine J_ (aaG n s.locals a.loc _ s r (p.ext c) (h.ext c)) ?_;rintro d W ⟨b,X⟩;rw[Eu];cases e:o.declared s.locals a.loc s with
 | none =>
  rw[e] at b;obtain⟨u,v,rfl⟩:=b;refine ad ?_;intro x y z A B;refine ad ?_;exact cf
 | some d =>
  obtain⟨u,v⟩:=d;rw[e] at b;subst b;refine ad ?_;intro x y z A B;refine ad ?_;apply I_<;>intro f
  .refine ad ?_;apply I_<;>intro g
   .refine ad ?_;simp only[f,g,ne_eq,not_true_eq_false,or_self,if_false];exact cf
   refine ad ?_;simp only[g,ne_eq,not_false_eq_true,or_true,if_true];exact cf
  refine ad ?_;simp only[f,ne_eq,not_false_eq_true,true_or,if_true];exact cf
end Go.Proofs.R
namespace o
open Go Go.RowKit a8
def P3{s:Scope}{l:C_ Act}{k:Nat}{t:Bool}(h:k<l.length) :
  mm s (l.drop k) k t=if h2 l[k]&&t then (2+(k:Int),7) else if lx l[k] s≠0 then (2+(k:Int),lx l[k] s) else mm s (l.drop (k+1)) (k+1) (t||h2 l[k]):=by
 rw[AF9 h];rfl
end o
namespace Go.Proofs.R
open Go Go.RowKit a8 o
def PY(k:Int)(a:o.Act)(e b:B_)(cs:C_ B_)(s:o.Scope)(w:A_)(c d:Nat)(j:w.heap[c]? = some (.cells (a.enc e b).toArray T.w))(l:w.heap[d]? = some (.cells cs.toArray T.t))
  (f:fH w b a.value)(h:gn w cs s) :
  EG F.KD #[.I k,.pointer (some ⟨c,0,none⟩),.pointer (some ⟨d,0,none⟩)] w λg i=>g = .I (o.asked a.value k s)/\Ext w i:=by
 obtain⟨m,n,p,q,r,rfl,_⟩:=h.ex;refine bm E.KD ?_;refine ad ?_;refine J_ (Qa b a.value k _ s w f h) ?_;rintro _ t ⟨rfl,u⟩;refine ad ?_;exact cf
def ajy(a:o.Act)(n q:B_)(cs:C_ B_)(s:o.Scope)(w:A_)(ah:fH w n a.index)(H:fH w q a.value)(h:gn w cs s) :
  EG F.f9 #[.agg (a.enc n q).toArray,.agg cs.toArray] w λv g=>v = .I (lx a s)/\Ext w g:=by
 obtain⟨X,I,Y,Z,J,rfl,az,ai,aA,aB,aj,aC⟩:=h.ex;refine bm E.f9 ?_;refine ad ?_;intro aD K aE ak b;refine ad ?_;intro r L aF ab c;have k:=ak.trans ab;have b:=ab.obj b;by_cases e:a.kind=1\/a.kind=2\/a.kind=3
 .rw[lx,if_pos e];generalize al:(if a.kind=3 then s.locals else s.vars)=C;have ae:∀M G,M=(if a.kind=3 then J else I)->EG F.FH #[M,.I G,.agg #[X,I,Y,Z,J,.I s.self]] r λv g=>W6 v (o.declared C G s)/\Ext r g:=by
   rintro M G rfl;refine aaG _ C G _ s r ?_ (h.ext k);rw[<-al];split
   .exact aj.ext k
   .exact ai.ext k
  by_cases t:a.kind=2
  .refine ad ?_;refine J_ (ae _ _ (by simp[t])) ?_;rintro x y ⟨i,d⟩;have b:=d.obj b;have c:=d.obj c;have l:=k.trans d;cases m:o.declared C a.to s with
   | none =>
    rw[m] at i;obtain⟨z,A,rfl⟩:=i;refine ad ?_;intro B N O j P;refine ad ?_;exact cf
   | some x =>
    obtain⟨z,A⟩:=x;rw[m] at i;subst i;have an:=alU m;simp only at an;refine ad ?_;intro B N O j P;have b:=j.obj b;have c:=j.obj c;have u:=l.trans j;refine ad ?_;refine _8 Cg ?_;refine ad ?_;by_cases f:z.over=0
    .refine _F (by simp[t,f]) ?_;refine ad ?_;exact⟨by simp[t,f],fU⟩
    refine _G (by simp[t,f]) ?_;refine ad ?_;refine J_ (Qa n a.index _ _ s B (ah.ext u) (h.ext u)) ?_;rintro _ ao ⟨rfl,Q⟩;have b:=Q.obj b;have c:=Q.obj c;have af:=u.trans Q;refine ad ?_;refine I_ (λS=>?_) (λS=>?_)
    .refine ad ?_;refine W_ (first:=[]) (cap:=[_,_]) Cg (PY A a n q _ s ao K L b c (H.ext af) (h.ext af)) ?_;rintro _ U ⟨rfl,V⟩;refine ad ?_;exact⟨by simp[t,f,S],fU⟩
    .refine ad ?_;exact⟨by simp[t,f,S],fU⟩
  have aq:a.kind=1\/a.kind=3:=AW
  clear e;rcases aq with e | e
  all_goals
   refine ad ?_;refine J_ (ae _ _ (by simp[e])) ?_;rintro x y ⟨i,d⟩;have b:=d.obj b;have c:=d.obj c;have l:=k.trans d;cases m:o.declared C a.to s with
   | none =>
    rw[m] at i;obtain⟨z,A,rfl⟩:=i;refine ad ?_;intro B N O j P;refine ad ?_;exact cf
   | some x =>
    obtain⟨z,A⟩:=x;rw[m] at i;subst i;refine ad ?_;intro B N O j P;have b:=j.obj b;have c:=j.obj c;have u:=l.trans j;refine ad ?_;refine _8 Cg ?_;refine ad ?_;by_cases f:z.over=0
    .refine _G (by simp[e,f]) ?_;refine ad ?_;refine W_ (first:=[]) (cap:=[_,_]) Cg (PY A a n q _ s B K L b c (H.ext u) (h.ext u)) ?_;rintro _ U ⟨rfl,V⟩;refine ad ?_;exact⟨by simp[e,f],fU⟩
    .refine _F (by simp[e,f]) ?_;refine ad ?_;exact⟨by simp[e,f],fU⟩
 by_cases p:a.kind=4\/a.kind=5
 .rw[lx,if_neg e,if_pos p];have ar:a.kind≠3:=AW
  have au:a.kind≠1:=AW
  have av:a.kind≠2:=AW
  have ag:∀(g:A_),Ext r g->EG F.FI #[.I a.to,.agg #[X,I,Y,Z,J,.I s.self]] g λv aw=>v = .tuple #[.I ((o.channel a.to s).getD 0),.bool (o.channel a.to s).isSome]/\Ext g aw :=
   λg ax=>alf a.to _ s g (h.ext (k.trans ax))
  rcases p with p | p
  .refine ad ?_;refine J_ (ag r (Ext.refl _)) ?_;rintro _ y ⟨rfl,d⟩;have b:=d.obj b;have c:=d.obj c;have l:=k.trans d;cases m:o.channel a.to s with
   | none =>
    simp only[Option.isSome_none,Option.getD_none];refine ad ?_;exact cf
   | some W =>
    simp only[Option.isSome_some,Option.getD_some];refine ad ?_;refine W_ (first:=[]) (cap:=[_,_]) Cg (PY W a n q _ s y K L b c (H.ext l) (h.ext l)) ?_;rintro _ U ⟨rfl,V⟩;refine ad ?_;exact⟨by simp[p],fU⟩
  .refine ad ?_;refine J_ (ag r (Ext.refl _)) ?_;rintro _ y ⟨rfl,d⟩;have b:=d.obj b;have c:=d.obj c;have l:=k.trans d;cases m:o.channel a.to s with
   | none =>
    simp only[Option.isSome_none,Option.getD_none];refine ad ?_;exact cf
   | some W =>
    simp only[Option.isSome_some,Option.getD_some];refine ad ?_;refine J_ (awk a n q W _ s y (h.ext l)) ?_;rintro _ U ⟨rfl,V⟩;refine ad ?_;exact⟨by simp[p],fU⟩
 rw[lx,if_neg e,if_neg p];have ar:a.kind≠3:=AW
 have au:a.kind≠1:=AW
 have av:a.kind≠2:=AW
 have aG:a.kind≠4:=AW
 have aH:a.kind≠5:=AW
 refine ad ?_;exact cf
end Go.Proofs.R
namespace o
open Go
def apU{c:et}{n:Int}(h:head c n=0):isName c.name=true/\0<=c.from_/\c.from_<n/\0<=c.to/\c.to<n/\c.b6.length<=6:=by
 unfold head at h;by_cases a:isName c.name=false
 .rw[if_pos a] at h;cases h
 rw[if_neg a] at h;by_cases b:c.from_<0\/n<=c.from_\/c.to<0\/n<=c.to
 .rw[if_pos b] at h;cases h
 rw[if_neg b] at h;by_cases d:c.b6.length > 6
 .rw[if_pos d] at h;cases h
 exact⟨by simpa using a,AW,AW,AW,AW,AW⟩
end o
namespace o
open Go Go.RowKit a8
def aap{l:C_ Act}{k:Nat}(h:k<l.length):comm (l.drop k)=if h2 l[k] then (l[k].kind,l[k].to) else comm (l.drop (k+1)):=by
 rw[AF9 h];rfl
end o
namespace Go.Proofs.R
open Go Go.RowKit a8 o
def ac0(n:Int)(p:ee)(c d:B_)(w:A_)(b:Nat)(g:w.heap[b]? = some (.cells (p.enc c d).toArray T.af)) :
  EG F.KC #[.I n,.pointer (some ⟨b,0,none⟩)] w λe f=>e = .bool (decide (n<0\/p.cb<=n))/\f=w:=by
 refine bm E.KC ?_;refine ad ?_;apply I_<;>intro a
 .refine ad ?_;exact⟨by simp[a],aZ⟩
 refine ad ?_;exact⟨by simp[a],aZ⟩
def apV(c:et)(l h:B_)(p:ee)(e f:B_)(w:A_)(m:gZ w)(n:kq c.name)(q:oq w h c.b6) :
  EG F.f6 #[.agg (c.enc l h).toArray,.agg (p.enc e f).toArray] w λr s=>r = .I (o.head c p.cb)/\Ext w s:=by
 obtain⟨x,y,rfl,z⟩:=q.form;refine bm E.f6 ?_;refine ad ?_;intro A B C t b;refine ad ?_;intro u i G j d;have k:=t.trans j;have b:=j.obj b;refine ad ?_;refine J_ (NY c.name u (m.ext k) n) ?_;rintro _ v ⟨rfl,g⟩;have b:=g.obj b;have d:=g.obj d;have H:=k.trans g;rw[o.head];refine ad ?_;refine N_ (λa=>?_) (λa=>?_);rotate_left
 .refine ad ?_;exact⟨by simp[a],fU⟩
 refine ad ?_;refine W_ (first:=[]) (cap:=[_]) Cg (ac0 c.from_ p e f v i d) ?_;rintro _ _ ⟨rfl,rfl⟩;refine ad ?_;apply I_<;>intro I
 .refine ad ?_;refine⟨?_,fU⟩;rw[if_neg (by simp[a]),if_pos AW]
 refine ad ?_;refine W_ (first:=[]) (cap:=[_]) Cg (ac0 c.to p e f _ i d) ?_;rintro _ _ ⟨rfl,rfl⟩;refine ad ?_;apply I_<;>intro J
 .refine ad ?_;refine⟨?_,fU⟩;rw[if_neg (by simp[a]),if_pos AW]
 refine ad ?_;apply I_<;>intro K
 .refine ad ?_;refine⟨?_,fU⟩;rw[if_neg (by simp[a]),if_neg AW,if_pos AW]
 .refine ad ?_;refine⟨?_,fU⟩;rw[if_neg (by simp[a]),if_neg AW,if_neg AW]
def aaq(c:et)(i h:B_)(w:A_)(d:oq w h c.b6) :
  EG F.f0 #[.agg (c.enc i h).toArray] w λj e=>j = .tuple #[.I (o.comm c.b6).1,.I (o.comm c.b6).2]/\Ext w e:=by
 obtain⟨r,s,rfl,t⟩:=d.form;refine bm E.f0 ?_;refine ad ?_;intro u v x k y;refine ad ?_;refine K_ 9 c.b6.length [7,8] (λ_=>[]) () (λa _ e=>Ext w e/\o.comm c.b6=o.comm (c.b6.drop a)) aV aV ⟨k,Ah⟩ ?_;rintro a _ z A B ⟨l,b⟩;refine ad ?_;apply I_<;>intro C
 .have f:a<c.b6.length:=AW
  obtain⟨G,rfl⟩:=d.addr;obtain⟨H,I,m,n,p⟩:=d.at a f;obtain⟨_,_,rfl,_⟩:=n.form;obtain⟨_,_,rfl,_⟩:=p.form;rw[aap f] at b;refine ad ?_
  try (refine Y_ (m.ext l) rfl ?_;refine ad ?_)
  intro q J K L M;refine ad ?_;refine J_ (VQ c.b6[a] _ _ q) ?_;rintro _ N ⟨rfl,O⟩;refine ad ?_;refine N_ (λg=>?_) (λg=>?_)
  .refine ad ?_;intro P Q;refine ad ?_;rw[b,if_pos g];exact cf
  refine ad ?_;rw[if_neg (by simp[g])] at b;exact⟨f,aZ,(),by trivial,fU,b⟩
 .refine ad ?_;rw[b,VB AW];exact cf
def alr(c:et)(I J:B_)(p:ee)(K L:B_)(cs:C_ B_)(s:o.Scope)(w:A_)(Y:gZ w)(Z:kq c.name)(M:fH w I c.guard)(m:oq w J c.b6)
  (ab:jO w K p.vars)(ae:sX w L p.cL)(h:gn w cs s) :
  EG F.Ke #[.agg (c.enc I J).toArray,.agg (p.enc K L).toArray,.agg cs.toArray] w λaf e =>
   af = .tuple #[.I (jP c p.cb s).1,.I (jP c p.cb s).2]/\Ext w e:=by
 obtain⟨ar,au,av,bg,aw,bj,ax,az,aA,aB,rfl,_⟩:=h.form;obtain⟨aC,aD,rfl,aE⟩:=m.form;obtain⟨aF,aG,rfl,aH⟩:=M.form;obtain⟨_,_,rfl,_⟩:=ab.form;obtain⟨_,_,rfl,_⟩:=ae.form;refine bm E.Ke ?_;refine ad ?_;intro aI aJ aK ag i;refine ad ?_;intro aM aP aQ N O;refine ad ?_;intro ah aS aT t d;have u:=(ag.trans N).trans t;have i:=(N.trans t).obj i;have O:=t.obj O;refine ad ?_;refine J_ (apV c _ _ p _ _ ah (Y.ext u) Z (m.ext u)) ?_;rintro _ P ⟨rfl,v⟩;have i:=v.obj i;have d:=v.obj d;have x:=u.trans v;rw[jP];refine ad ?_;apply I_<;>intro n;rotate_left
 .refine ad ?_;exact⟨by simp[n],fU⟩
 rw[if_neg (by simpa using n)];have aU:=(apU n).2.2.2.2.2;refine eC ?_;refine S_ [3,4,5] (λ_=>[]) (λ(_:Unit) e=>Ext P e/\¬(c.guard.length > 0/\o.asked c.guard 1 s≠0)) ?_ ?_
 .refine ad ?_;apply I_<;>intro f
  .refine ad ?_;refine J_ (Qa _ c.guard 1 _ s P (M.ext x) (h.ext x)) ?_;rintro _ Q ⟨rfl,q⟩;refine ad ?_;apply I_<;>intro a
   .refine ad ?_;exact⟨(),trivial,fU,λS=>S.2 a⟩
   .refine ad ?_;rw[if_pos ⟨AW,a⟩];exact cf
  .refine ad ?_;exact⟨(),trivial,fU,λS=>f AW⟩
 rintro _ y Q ⟨q,ai⟩;have i:=q.obj i;have d:=q.obj d;have aj:=x.trans q;rw[if_neg ai];refine ad ?_;refine K_ 34 c.b6.length [3,4,5,32,33] (λj=>[(10,.bool j)]) false (λb j e=>Ext Q e/\mm s c.b6 0 false=mm s (c.b6.drop b) b j) aV aV ⟨Ext.refl _,Ah⟩ ?_;rintro b j y aW aX ⟨z,g⟩;have ak:=aj.trans z;refine ad ?_;apply I_<;>intro n
 .have A:b<c.b6.length:=AW
  obtain⟨aY,rfl⟩:=m.addr;obtain⟨a0,a2,a5,U,V⟩:=m.at b A;obtain⟨_,_,rfl,_⟩:=U.form;obtain⟨_,_,rfl,_⟩:=V.form;rw[P3 A] at g;refine ad ?_;intro a6 a7 al an a9;refine eC ?_;intro W ao r;have B:=ao.ext an al;have aq:=ak.trans B;have d:=(z.trans B).obj d;refine eC ?_;refine S_ [3,5,10,11,12,32,33,34] (λ_=>[]) (λ(_:Unit) e=>Ext W e/\¬(h2 c.b6[b]&&j)=true) ?_ ?_
  .refine ad ?_;refine J_ (VQ c.b6[b] _ _ W) ?_;rintro _ C ⟨rfl,k⟩;refine ad ?_;refine N_ (λf=>?_) (λf=>?_)
   .refine ad ?_;refine N_ (λa=>?_) (λa=>?_)
    .refine ad ?_;rw[g,if_pos (by simp[f,a])];exact cf
    .refine ad ?_;exact⟨(),trivial,fU,by simp[a]⟩
   .refine ad ?_;exact⟨(),trivial,fU,by simp[f]⟩
  rintro _ y C ⟨k,f⟩;rw[if_neg f] at g;have r:=k.obj r;have d:=k.obj d;refine eC ?_;refine S_ [3,5,11,12,32,33,34] (λG=>[(10,.bool G)]) (λG e=>Ext C e/\G=(j||h2 c.b6[b])) ?_ ?_
  .refine ad ?_;refine N_ (λa=>?_) (λa=>?_)
   .refine ad ?_;exact⟨true,aV,fU,by simp[a]⟩
   .refine ad ?_;refine J_ (VQ c.b6[b] _ _ C) ?_;rintro _ X ⟨rfl,l⟩;refine ad ?_;exact⟨h2 c.b6[b],aV,fU,by simp[a]⟩
  rintro _ y X ⟨l,rfl⟩;have r:=l.obj r;have d:=l.obj d;have H:=(aq.trans k).trans l;have ba:=((z.trans B).trans k).trans l;refine ad ?_;refine J_ (ajy c.b6[b] _ _ _ s X (U.ext H) (V.ext H) (h.ext H)) ?_;rintro _ bb ⟨rfl,bf⟩;refine ad ?_;apply I_<;>intro a
  .refine ad ?_;rw[if_neg (by simpa using a)] at g;exact⟨A,aZ,_,aV,fU,g⟩
  .refine ad ?_;rw[g,if_pos a];exact cf
 .refine ad ?_;rw[g,VB AW];exact cf
def aiA(c:et)(b d dI:B_)(l:C_ ed)(w:A_)(e:oq w d c.b6)(f:ot w dI l) :
  EG F.bt #[.agg (c.enc b d).toArray,dI] w λh i=>h = .I (o.ways c l)/\Ext w i:=by
 obtain⟨n,p,rfl,q⟩:=f.form;obtain⟨r,s,rfl,t⟩:=e.form;refine bm E.bt ?_;refine ad ?_;intro j u v k x;refine ad ?_;refine J_ (aaq c b _ j (e.ext k)) ?_;rintro _ y ⟨rfl,z⟩;rw[o.ways];refine ad ?_;apply I_<;>intro g;rotate_left
 .refine ad ?_;exact⟨by simp[g],fU⟩
 rw[if_pos g];refine ad ?_;apply I_<;>intro A;rotate_left
 .refine ad ?_;rw[hz (.inl AW)];exact cf
 refine ad ?_;apply I_<;>intro B;rotate_left
 .refine ad ?_;rw[hz (.inr AW)];exact cf
 rw[ir AW AW];obtain⟨C,rfl⟩:=f.addr;have m:(o.comm c.b6).2.toNat<l.length:=AW
 refine ad ?_;refine M_ (o.comm c.b6).2.toNat AW m ?_;refine ad ?_;refine N_ (λa=>?_) (λa=>?_)
 .refine ad ?_;exact⟨by simp[a],fU⟩
 .refine ad ?_;exact⟨by simp[a],fU⟩
end Go.Proofs.R
namespace o
def afg{s:Scope}{l:C_ Var}{k:Nat}(h:k<l.length):rO s (l.drop k) k=if l[k].over≠0 then ((k:Int),9) else if s.vars.any (λa=>decide (a.name=l[k].name)) then ((k:Int),7) else rO s (l.drop (k+1)) (k+1):=by
 rw[AF9 h];rfl
def aan{a:Scope}{b:Int}{c l:C_ et}{k:Nat}(h:k<l.length):mT a b c (l.drop k) k=if (jP l[k] b a).2≠0 then (2+(k:Int),(jP l[k] b a).1,(jP l[k] b a).2)
  else if (c.take k).any (λd=>decide (d.name=l[k].name)) then (2+(k:Int),0,7) else mT a b c (l.drop (k+1)) (k+1):=by
 rw[AF9 h];rfl
end o
namespace Go.Proofs.R
open Go Go.RowKit a8 o
def ayS(p:ee)(i j:H_ Addr)(k l m:Nat)(cs:C_ B_)(s:o.Scope)(w:A_)(n:gZ w)(q:kq p.name)(h:gn w cs s) :
  EG F.fd #[.agg (p.enc (.slice i k l) (.slice j p.cL.length m)).toArray,.agg cs.toArray] w λr b=>r = .I (o.whole p s)/\Ext w b:=by
 obtain⟨y,z,A,bg,B,bj,C,G,H,I,rfl,J,K,L,M,N,O,P,Q,S,U⟩:=h.form;refine bm E.fd ?_;refine ad ?_;intro V W X t c;refine ad ?_;intro e Y Z f g;have dm:∀{b},Ext e b->Ext w b:=λu=>(t.trans f).trans u;have c:=f.obj c;refine ad ?_;refine J_ (NY p.name e (n.ext (dm (Ext.refl _))) q) ?_;rintro _ ab ⟨rfl,a⟩;have c:=a.obj c;have g:=a.obj g;rw[o.whole];refine ad ?_;refine N_ (λd=>?_) (λd=>?_);rotate_left
 .refine ad ?_;exact⟨by rw[if_pos d],dm a⟩
 rw[if_neg (by simp[d])];refine ad ?_;apply I_<;>intro v
 .refine ad ?_;exact⟨by rw[if_pos (.inl v)],dm a⟩
 refine ad ?_;apply I_<;>intro ae
 .refine ad ?_;exact⟨by rw[if_pos (.inr AW)],dm a⟩
 rw[if_neg AW];refine ad ?_;apply I_<;>intro x
 .refine ad ?_;exact⟨by rw[if_pos (.inl x)],dm a⟩
 refine ad ?_;apply I_<;>intro af
 .refine ad ?_;exact⟨by rw[if_pos (.inr AW)],dm a⟩
 rw[if_neg AW];refine ad ?_;apply I_<;>intro ag
 .refine ad ?_;exact⟨by rw[if_pos AW],dm a⟩
 refine ad ?_;exact⟨by rw[if_neg AW],dm a⟩
def atp(x v:o.Var)(b:Nat)(w:A_)(d:w.heap[b]? = some (.cells v.enc.toArray T.i)) :
  EG F.be #[.agg x.enc.toArray,.pointer (some ⟨b,0,none⟩)] w λa c=>a = .bool (decide (x.name=v.name))/\Ext w c:=by
 refine bm E.be ?_;refine ad ?_;intro e f g h i;refine ad ?_;exact cf
def alq(x c:et)(a d e f:H_ Addr)(g h i j bg bj k l:Nat)(b:Nat)(w:A_)(p:w.heap[b]? = some (.cells (c.enc (.slice e i k) (.slice f j l)).toArray T.q)) :
  EG F.fz #[.agg (x.enc (.slice a g bg) (.slice d h bj)).toArray,.pointer (some ⟨b,0,none⟩)] w λm n=>m = .bool (decide (x.name=c.name))/\Ext w n:=by
 refine bm E.fz ?_;refine ad ?_;intro q r s t u;refine ad ?_;exact cf
def atq(p:ee)(l z:H_ Addr)(m A B:Nat)(cs:C_ B_)(s:o.Scope)(w:A_)(C:gZ w)(c:jO w (.slice l p.vars.length m) p.vars)(h:gn w cs s) :
  EG F.Kc #[.agg (p.enc (.slice l p.vars.length m) (.slice z A B)).toArray,.agg cs.toArray] w λG a=>G = .tuple #[.I (mG p s).1,.I (mG p s).2]/\Ext w a:=by
 obtain⟨S,U,V,bg,W,bj,X,Y,Z,ab,rfl,H,I,ae,af,ag,ah,ai,aj,ak,al⟩:=h.form;have an:p.vars.length<=9223372036854775807:=by have:=(a4.len c).2;unfold maxLen at this;omega
 refine bm E.Kc ?_;refine ad ?_;intro ao aq ar J g;refine ad ?_;intro n au av q r;have dm:∀{a},Ext n a->Ext w a:=λd=>(J.trans q).trans d;have g:=q.obj g;refine ad ?_;refine J_ (aiw _ _ p.vars s.scalars 4 n (C.ext (dm (Ext.refl _))) (c.ext (dm (Ext.refl _))) (H.ext (dm (Ext.refl _)))) ?_;rintro _ t ⟨rfl,i⟩;have g:=i.obj g;have r:=i.obj r;rw[mG];refine ad ?_;apply I_<;>intro u;rotate_left
 .refine ad ?_;exact⟨by rw[if_pos u],dm i⟩
 rw[if_neg (by simpa using u)];have g7:∀{a},Ext t a->Ext w a:=λd=>dm (i.trans d);refine ad ?_;refine K_ 25 p.vars.length [3,23,24] (λ_=>[]) () (λe _ a=>Ext t a/\rO s p.vars 0=rO s (p.vars.drop e) e) aV aV ⟨Ext.refl _,Ah⟩ ?_;rintro e _ aw ax az ⟨f,b⟩;refine ad ?_;apply I_<;>intro aA
 .have v:e<p.vars.length:=AW
  obtain⟨aB,rfl⟩:=c.addr;replace c:=c.ext (g7 (Ext.refl _));rw[afg v] at b;refine ad ?_;intro aC K L M aD;refine ad ?_;intro N O P;have j:=O.ext M L;refine ad ?_;apply I_<;>intro x;rotate_left
  .refine ad ?_;exact⟨by rw[b,if_pos x],g7 (f.trans j)⟩
  rw[if_neg (by simpa using x)] at b;refine ad ?_;refine J_ (aax kB E.au E.he _ s.vars N (I.ext (g7 (f.trans j))) F.be Cg [] [_] (λQ=>decide (Q.name=p.vars[e].name)) ?_) ?_
  .rintro aE aF aG a d ⟨rfl,_⟩;exact atp _ _ K a (d.obj P)
  rintro _ aH ⟨rfl,y⟩;refine ad ?_;refine N_ (λk=>?_) (λk=>?_)
  .refine ad ?_;exact⟨by rw[b,if_pos k],g7 ((f.trans j).trans y)⟩
  .refine ad ?_;exact⟨v,aZ,(),trivial,(f.trans j).trans y,by rw[b,if_neg (by simp[k])]⟩
 .refine ad ?_;exact⟨by rw[b,VB AW];rfl,g7 f⟩
def avd(p:ee)(y cs:C_ B_)(s:o.Scope)(w:A_)(n:gZ w)(W:yN w y p)(h:gn w cs s)(z:s.cS)(q:p.cS) :
  EG F.el #[.agg y.toArray,.agg cs.toArray] w λX a=>X = .tuple #[.I (iH p s).1,.I (iH p s).2.1,.I (iH p s).2.2]/\Ext w a:=by
 obtain⟨Y,Z,ab,bg,ae,bj,af,ag,aE,aF,rfl,ah,ai,aj,ak,aG,aH,aI,aJ,aK,aM⟩:=h.form;obtain⟨al,aP,aQ,rfl,i,e⟩:=W;obtain⟨an,ao,rfl,aS⟩:=i.form;obtain⟨aT,aU,rfl,aW⟩:=e.form;have aX:p.cL.length<=140737488351232:=by have:=q.cL;unfold eO at this;omega
 refine bm E.el ?_;refine ad ?_;intro aY a0 a2 aq c;refine ad ?_;intro A a5 a6 B j;have dm:∀{a},Ext A a->Ext w a:=λb=>(aq.trans B).trans b;replace c:=B.obj c;refine ad ?_;refine J_ (ayS p _ _ _ _ _ _ s A (n.ext (dm (Ext.refl _))) al (h.ext (dm (Ext.refl _)))) ?_;rintro _ C ⟨rfl,r⟩;replace c:=r.obj c;replace j:=r.obj j;have g7:∀{a},Ext C a->Ext w a:=λb=>dm (r.trans b);rw[iH];refine ad ?_;apply I_<;>intro G;rotate_left
 .refine ad ?_;exact⟨by rw[if_pos G],g7 (Ext.refl _)⟩
 rw[if_neg (by simpa using G)];refine ad ?_;refine J_ (atq p _ _ _ _ _ _ s C (n.ext (g7 (Ext.refl _))) (i.ext (g7 (Ext.refl _))) (h.ext (g7 (Ext.refl _)))) ?_;rintro _ H ⟨rfl,t⟩;replace c:=t.obj c;replace j:=t.obj j;have dO:∀{a},Ext H a->Ext w a:=λb=>g7 (t.trans b);refine ad ?_;apply I_<;>intro I;rotate_left
 .refine ad ?_;exact⟨by rw[if_pos I],dO (Ext.refl _)⟩
 rw[if_neg (by simpa using I)];refine ad ?_;refine J_ (aet p _ _ _ _ _ _ _ _ _ _ _ _ _ _ _ _ _ _ _ _ _ _ H) ?_;rintro _ ar ⟨rfl,J⟩;replace c:=J.obj c;have hg:∀{a},Ext ar a->Ext w a:=λb=>dO (J.trans b);refine ad ?_;intro K a7 a9 L k;replace c:=L.obj c;have ks:∀{a},Ext K a->Ext w a:=λb=>hg (L.trans b);have au:∀a,Ext w a->gn a [.slice Y s.scalars.length Z,.slice ab s.vars.length bg,.slice ae s.ay.length bj,.slice af s.procs.length ag,.slice an p.vars.length ao,.I p.over] (o.inner p s):=λa b =>
  ⟨(z.inner q).sQ.1,_,_,_,_,_,rfl,ah.ext b,ai.ext b,aj.ext b,ak.ext b,i.ext b,(z.inner q).sQ.2⟩
 refine ad ?_;refine K_ 37 p.cL.length [2,10,35,36] (λ_=>[]) () (λd _ a=>Ext K a/\mT (o.inner p s) p.cb p.cL p.cL 0=mT (o.inner p s) p.cb p.cL (p.cL.drop d) d) aV aV ⟨Ext.refl _,Ah⟩ ?_;rintro d _ ba bb bf ⟨g,f⟩;replace c:=g.obj c;replace k:=g.obj k;refine ad ?_;apply I_<;>intro bk
 .have u:d<p.cL.length:=AW
  obtain⟨bn,rfl⟩:=e.addr;obtain⟨av,bo,bp,M,N,O⟩:=e.at d u;obtain⟨br,bt,rfl,bu⟩:=N.form;obtain⟨bw,bx,rfl,bz⟩:=O.form;rw[aan u] at f;replace M:=M.ext (ks (Ext.refl _));refine ad ?_;intro bA aw ax P az;refine ad ?_;intro Q aA v;have l:=aA.ext P ax;replace c:=l.obj c;replace k:=l.obj k;have jc:∀{a},Ext Q a->Ext w a:=λb=>ks ((g.trans l).trans b);clear az P;refine ad ?_;refine J_ (alr p.cL[d] _ _ p _ _ _ (o.inner p s) Q (n.ext (jc (Ext.refl _))) av (N.ext (jc (Ext.refl _))) (O.ext (jc (Ext.refl _))) (i.ext (jc (Ext.refl _))) (e.ext (jc (Ext.refl _))) (au _ (jc (Ext.refl _)))) ?_;rintro _ S ⟨rfl,m⟩;replace c:=m.obj c;replace v:=m.obj v;have fT:∀{a},Ext S a->Ext w a:=λb=>jc (m.trans b);refine ad ?_;apply I_<;>intro U;rotate_left
  .refine ad ?_;exact⟨by rw[f,if_pos U],fT (Ext.refl _)⟩
  rw[if_neg (by simpa using U)] at f;have bB:=(a4.len e).2.1;refine ad ?_;refine _l (k:=.i64) d (by rfl) AW ?_;refine ad ?_;refine J_ (aax kB E.ab E.a2 _ (p.cL.take d) S ((e.head d AW).ext Az.ext (fT (Ext.refl _))) F.fz Cg [] [_] (λaB=>decide (aB.name=p.cL[d].name)) ?_) ?_
  .rintro bC bE bF a b ⟨_,bG,bH,rfl,aC,aD⟩;obtain⟨_,_,rfl,_⟩:=aC.form;obtain⟨_,_,rfl,_⟩:=aD.form;exact alq _ _ _ _ _ _ _ _ _ _ _ _ _ _ aw a (b.obj v)
  rintro _ bI ⟨rfl,V⟩;refine ad ?_;refine N_ (λx=>?_) (λx=>?_)
  .refine ad ?_;exact⟨by rw[f,if_pos x],fT V⟩
  .refine ad ?_;exact⟨u,aZ,(),trivial,((g.trans l).trans m).trans V,by rw[f,if_neg (by simp[x])]⟩
 .refine ad ?_;exact⟨by rw[f,VB AW];rfl,ks g⟩
end Go.Proofs.R
namespace a8
open Go Go.RowKit
def a4.Qh{α:Type}{R:A_->Addr->α->Prop}{C:A_->C_ B_->α->Prop}{sz:Nat}[Rel R C sz]{w:A_}{b n:Nat}{e:F_}{cells:C_ B_}{xs:C_ α}(a:C_ (hp sz))(d:w.heap[b]? = some (.cells cells.toArray e))(f:cells=a.flatMap iO)
  (g:a.length=xs.length)(j:n=xs.length)(k:xs.length<=maxLen)(h:∀c (l:c<a.length) (m:c<xs.length),C w a[c].1 xs[c]):a4 sz R w (.slice (some ⟨b,0,none⟩) n n) xs:=by
 subst f;exact a4.B4 g (a4.b0 (enc:=iO) hs d AW AW λ_ _ _ i=>i) h
end a8
namespace o
open Go
def BK{n:Int}(h : -1000<=n/\n<=1000):eA n:=by unfold eA;omega
theorem EN(a b:Int)(s:Scope):(ln a b s).2=((h9 a s).2&&(h9 b s).2)/\((ln a b s).2=true->(ln a b s).1=(if a=0 then 0 else 1+a)):=by
 unfold ln h9;constructor
 ·(repeat' split)<;>first | rfl | (exfalso;omega)
 .intro c
  (repeat' split)<;>first | rfl | (exfalso;omega) | simp_all
theorem aaF{l:C_ Var}{n:Int}{s:Scope}(h:(fQ l n s).2.2=false):declared l n s=none:=by
 unfold declared;unfold fQ at h;cases a:nth l n with
 | none=>rfl
 | some b =>
  rw[a] at h;simp only at h ⊢;rw[if_neg];rw[(EN _ _ _).1,h];simp
def aaH{l:C_ Var}{n:Int}{s:Scope}{x:Var}(h:(fQ l n s).2.2=true)(b:nth l n=some x):declared l n s=some (x,if x.scalar=0 then 0 else 1+x.scalar)/\0<=x.scalar/\x.scalar<=s.scalars.length/\0<=x.over/\x.over<=s.scalars.length:=by
 unfold fQ at h;rw[b] at h;simp only at h;have a:(ln x.scalar x.over s).2=true:=by rw[(EN _ _ _).1];exact h
 refine⟨?_,?_⟩
 .unfold declared;rw[b];simp only;rw[if_pos a,(EN _ _ _).2 a]
 .unfold ln at a;split at a
  .cases a
  .omega
theorem ale{n:Int}{s:Scope}(h:¬(kT n s).2=0):channel n s=none:=by
 unfold channel;unfold kT at h;cases b:nth s.ay n with
 | none=>rfl
 | some c =>
  rw[b] at h;simp only at h ⊢;rw[if_neg];intro a;rw[(EN _ _ _).1] at a;simp only[Bool.and_eq_true] at a;rw[if_pos a.1] at h;exact h rfl
def alg{n:Int}{s:Scope}{c:ed}(h:(kT n s).2=0)(b:nth s.ay n=some c):channel n s=some (if c.scalar=0 then 0 else 1+c.scalar)/\0<=c.scalar/\c.scalar<=s.scalars.length:=by
 unfold kT at h;rw[b] at h;simp only at h;have d:(h9 c.scalar s).2=true:=by
  cases e:(h9 c.scalar s).2 with
  | true=>rfl
  | false=>rw[e] at h;simp at h
 have a:(ln c.scalar 0 s).2=true:=by rw[(EN _ _ _).1,d];simp[h9]
 refine⟨?_,?_⟩
 .unfold channel;rw[b];simp only;rw[if_pos a,(EN _ _ _).2 a]
 .unfold ln at a;split at a
  .cases a
  .omega
def mF(l:C_ Var)(n:Int)(s:Scope):Int×Int:=match declared l n s with | none=>(0,8) | some (a,b)=>if a.over≠0 then (0,9) else (b,0)
def BO(a:Act)(s:Scope):Int:=match declared s.vars a.to s with | none=>8 | some (b,c)=>if b.over=0 then 9 else if asked a.index (1+b.over) s≠0 then asked a.index (1+b.over) s else asked a.value c s
def mH(a:Act)(s:Scope)(comm:Bool):Int :=
 if a.kind<1\/5<a.kind then 3
 else if a.kind=2 then BO a s
 else if a.kind=1\/a.kind=3 then (if (mF (if a.kind=3 then s.locals else s.vars) a.to s).2≠0 then (mF (if a.kind=3 then s.locals else s.vars) a.to s).2 else asked a.value (mF (if a.kind=3 then s.locals else s.vars) a.to s).1 s)
 else if comm=true then 7
 else match channel a.to s with
  | none=>8
  | some b=>if a.kind=4 then asked a.value b s else if (mF s.locals a.loc s).2≠0 then (mF s.locals a.loc s).2 else if (mF s.locals a.loc s).1≠b then 9 else 0
def av8(a:Act)(s:Scope)(comm:Bool):mH a s comm=if h2 a&&comm then 7 else lx a s:=by
 by_cases g:a.kind<1\/5<a.kind
 .have c:h2 a=false:=by unfold h2;rw[decide_eq_false_iff_not];omega
  unfold mH lx;rw[if_pos g,c,if_neg (by omega:¬(a.kind=1\/a.kind=2\/a.kind=3)),if_neg (by omega:¬(a.kind=4\/a.kind=5))];simp
 by_cases d:a.kind=2
 .have c:h2 a=false:=by unfold h2;rw[decide_eq_false_iff_not];omega
  unfold mH lx;rw[if_neg g,if_pos d,c,if_pos (by omega:a.kind=1\/a.kind=2\/a.kind=3)];simp only[Bool.false_and,Bool.false_eq_true,if_false];rw[if_neg (by omega:¬a.kind=3)];unfold BO;cases h:declared s.vars a.to s with
  | none=>rfl
  | some e =>
   obtain⟨f,i⟩:=e;simp only[d,true_and];by_cases b:f.over=0
   .simp[b]
   .simp[b]
 by_cases j:a.kind=1\/a.kind=3
 .have c:h2 a=false:=by unfold h2;rw[decide_eq_false_iff_not];omega
  unfold mH lx;rw[if_neg g,if_neg d,if_pos j,c,if_pos (by omega:a.kind=1\/a.kind=2\/a.kind=3)];simp only[Bool.false_and,Bool.false_eq_true,if_false];unfold mF;cases h:declared (if a.kind=3 then s.locals else s.vars) a.to s with
  | none=>simp
  | some e =>
   obtain⟨f,i⟩:=e;simp only[d,false_and,if_false];by_cases b:f.over=0
   .simp[b]
   .simp[b]
 .have l:a.kind=4\/a.kind=5:=AW
  have c:h2 a=true:=by unfold h2;rw[decide_eq_true_eq];omega
  unfold mH lx;rw[if_neg g,if_neg d,if_neg j,c,if_neg (by omega:¬(a.kind=1\/a.kind=2\/a.kind=3)),if_pos l];simp only[Bool.true_and];cases comm with
  | true=>simp
  | false =>
   simp only[Bool.false_eq_true,if_false];cases m:channel a.to s with
   | none=>rfl
   | some i =>
    simp only;by_cases k:a.kind=4
    .rw[if_pos k,if_neg (by omega:¬a.kind=5)]
    .rw[if_neg k,if_pos (by omega:a.kind=5)];unfold mF Eu;cases h:declared s.locals a.loc s with
     | none=>simp
     | some e =>
      obtain⟨f,n⟩:=e;simp only;by_cases b:f.over=0
      .simp[b]
      .simp[b]
end o
namespace Go.Proofs.R
open Go Go.RowKit a8 o
def ah4(op:Int)(w:A_):EG F.MH #[.I op] w λb c=>b = .I (ej op)/\c=w:=by
 have d:∀a:Int,(if op=3 then (1:Int) else if 1<=op/\op<=8 then 0 else if op=9\/op=10 then 1 else if 11<=op/\op<=19 then 2 else -1)=a->ej op=a:=λ_ e=>e;refine bm E.MH ?_
 (repeat' (refine aN ?_;first | (refine I_ (λ_=>?_) (λ_=>?_)<;>try (exfalso;omega)) | refine N_ (λ_=>?_) (λ_=>?_)))<;>try refine aN ?_
 all_goals
  refine⟨?_,aZ⟩;congr 1;refine(d _ ?_).symm
  (repeat' split)<;>first | rfl | (exfalso;omega)
def N0{x:Int}(h:ej x=0):1<=x/\x<=8/\x≠3/\gS x=none:=by
 have a:1<=x/\x<=8/\x≠3:=by unfold ej at h; (repeat' split at h)<;>omega
 exact⟨a.1,a.2.1,a.2.2,afM (by simp[BN];omega)⟩
def afD{x:Int}(h:ej x=1):x=3\/x=9\/x=10:=by unfold ej at h; (repeat' split at h)<;>omega
def N1{x:Int}(h:ej x=2):11<=x/\x<=19:=by unfold ej at h; (repeat' split at h)<;>omega
theorem afN{x:Int}(h:9<=x/\x<=19):∃a,gS x=some a/\a.parts=ej x:=by
 cases b:gS x with
 | some a=>exact⟨a,rfl,(B5 b).1⟩
 | none =>
  exfalso;unfold gS at b
  (repeat' split at b)
  all_goals first | (cases b;done) | omega
theorem QN{st:C_ Int}(h:1<=st.length):st.drop (st.length - 1)=[st[st.length - 1]]:=by
 rw[AF9 AW,VB AW]
theorem aaK{st:C_ Int}(h:2<=st.length):st.drop (st.length - 2)=[st[st.length - 2],st[st.length - 1]]:=by
 rw[AF9 AW];have a:st.length - 2+1=st.length - 1:=AW
 congr 1;rw[a];exact QN AW
def J5:∀a,∀b∈nW a,b.oneCell'=true:=λa b c=>by simp[nW] at c;subst c;rfl
end Go.Proofs.R