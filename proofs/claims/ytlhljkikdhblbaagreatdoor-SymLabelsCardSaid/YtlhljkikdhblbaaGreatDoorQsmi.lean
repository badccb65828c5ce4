/- Parts. -/
import Derived.Test.YtlhljkikdhblbaaGreatDoorQsmh
set_option linter.all false
set_option maxRecDepth 8000
set_option maxHeartbeats 4000000
namespace ba
open Go Go.RowKit
theorem aT.map{α β:Type}{enc:β->C_ B_}{g:α->β}{e:F_}{sz base:Nat}{w:A_}{v:B_}{xs:C_ α}(h:aT (λa=>enc (g a)) e sz base w v xs):aT enc e sz base w v (xs.map g):=by
 unfold aT at *;rw[AG8,List.flatMap_map];exact h
def aT.lF{α:Type}{enc:α->C_ B_}{e:F_}{sz base:Nat}{w:A_}{v:B_}{xs:C_ α}(a:∀b,(enc b).length=sz)(h:aT enc e sz base w v xs):a6 sz (Flat enc) w v xs:=aT.im a h
def aT.new{α:Type}{enc:α->C_ B_}{e:F_}{sz:Nat}{w w':A_}{v:B_}{xs:C_ α}(a:∀b,(enc b).length=sz)(h:aT enc e sz w.heap.size w' v xs):ec w (λw=>a6 sz (Flat enc) w v xs) w':=λg c =>
 aT.im a (aT.mod h c λd f i=>by have:=(h.lt d f).1;omega)
end ba
namespace Go.Proofs.R
open Go Go.RowKit ba
abbrev rS(w:A_)(v:B_)(l:C_ o.c9):Prop:=a6 2 (Flat o.c9.enc) w v l
abbrev Jq(w:A_)(v:B_)(l:C_ o.Ref):Prop:=a6 2 (Flat o.Ref.enc) w v l
def ae8(cs:C_ B_)(m:o.Model)(w:A_)(h:o.dU w cs m) :
  EL F.y1 #[.agg cs.toArray] w λc a=>(∃b,c = .func (.func F.s) #[] #[.pointer (some ⟨b,0,none⟩)]/\a.heap[b]? = some (.cells cs.toArray T.e))/\Ext w a:=by
 obtain⟨g,i,j,bg,k,bj,l,n,p,q,rfl,_⟩:=h.form;refine bn E.y1 ?_;refine ad ?_;intro r d s e f;refine ad ?_;exact⟨⟨d,rfl,f⟩,e⟩
def Mm(cs:C_ B_)(m:o.Model)(w:A_)(h:o.dU w cs m)(j:m.cB) :
  EL F.cs #[.agg cs.toArray] w λa b=>aT o.c9.enc T.c 2 w.heap.size b a (o.insts m)/\Ext w b:=by
 obtain⟨s,t,u,bg,v,bj,x,y,z,A,rfl,_⟩:=h.form;have k:=j.procs;have B:=o.ts m;unfold o.eO at k;refine bn E.cs ?_;refine ad ?_;intro l C G f H;refine ad ?_;refine J_ (ae8 _ m l (h.ext f)) ?_;rintro _ c ⟨⟨I,rfl,n⟩,p⟩;have dh:Ext w c:=f.trans p;refine ad ?_;refine J_ (f:=F.Ke) (R:=λa b=>aT o.c9.enc T.c 2 c.heap.size b a (o.insts m)/\Ext c b) ?_ ?_
 .refine vh E.Ke ?_;refine om ?_;refine ad ?_;refine J_ (akx (α:=o.yW m) (enc:=λg=>g.1.enc) kv yG.aH rfl (λ_=>rfl) (λg J i=>by simp[o.c9.enc] at i;rcases i with rfl | rfl<;>rfl) Ae Cl
   (ae0 n h dh) (Ext.refl _) dh.size Ae Ae Ae AY (by unfold maxLen;omega)) ?_
  rintro a q ⟨⟨K,r,d⟩,e⟩;refine ad ?_;exact⟨by rw[<-r];exact d.map,e⟩
 .rintro a q ⟨d,e⟩;refine ad ?_;exact⟨d.low dh.size,dh.trans e⟩
structure nf(w1:World)(bX cL et:Nat)(s:Int×o.c9×List o.Ref)(W:World):Prop where
 mod:Mod (λk=>k∈[bX,cL,et]) w1 W
 ex:∃aR n c,W.heap[bX]? = some (.cells #[.slice aR n c] T.u)/\aT o.Ref.enc T.i 2 w1.heap.size W (.slice aR n c) s.2.2
 aL:W.heap[cL]? = some (.cells #[.int .i64 s.1] T.a)
 bl:W.heap[et]? = some (.cells s.2.1.enc.toArray T.c)
def nf.move{w1:A_}{f g i:Nat}{s:Int×o.c9×C_ o.Ref}{d j:A_}{A:Nat->Prop}(h:nf w1 f g i s d)(m:Mod A d j)(c:∀a e p q,d.heap[a]? = some (.cells e p q)->¬A a)(r:∀a,A a->w1.heap.size<=a):nf w1 f g i s j:=by
 obtain⟨t,u,e,k,l⟩:=h.ex;refine⟨h.mod.comp m (λ_ _ b=>b) λa n b=>absurd (r a b) AY,⟨t,u,e,m.obj (c _ _ _ _ k) k,l.mod m λa n b=>?_⟩,m.obj (c _ _ _ _ h.aL) h.aL,m.obj (c _ _ _ _ h.bl) h.bl⟩;obtain⟨w,v⟩:=l.b0 a n;exact c _ _ _ _ v b
theorem nf.ext{w1:A_}{a b c:Nat}{s:Int×o.c9×C_ o.Ref}{d f:A_}(h:nf w1 a b c s d)(e:Ext d f):nf w1 a b c s f:=h.move (A:=λ_=>False) e.mod (λ_ _ _ _ _ h=>h) λ_ h=>h.elim
def oq{b:A_}{k:Nat}{c e:Array B_}{t d:F_}{f g:Nat×Nat}(h:b.heap[k]? = some (.cells c t f))(a:b.heap[k]? = some (.cells e d g)):t=d:=by
 rw[h] at a;injection a with a;injection a
def nf.l9{w1:A_}{e a f:Nat}{s:Int×o.c9×C_ o.Ref}{i g:A_}{n:Int}(h:nf w1 e a f s i)(d:dX a i g)(l:g.heap[a]? = some (.cells #[.I n] T.a))(m:e≠a)(p:f≠a):nf w1 e a f (n,s.2) g:=by
 obtain⟨q,b,r,t,j⟩:=h.ex;refine⟨h.mod.comp (A':=λb=>b=a) (d.mod rfl) (λ_ _ c=>c) λb k c=>by simp[c],⟨q,b,r,d.obj t m,j.mod (d.mod (A:=λb=>b=a) rfl) λb k c=>?_⟩,l,d.obj h.bl p⟩;subst c;obtain⟨v,u⟩:=j.b0 b k;exact absurd (oq u h.aL) Ae
def nf.iT{w1:A_}{e f a:Nat}{s:Int×o.c9×C_ o.Ref}{i g:A_}{x:o.c9}(h:nf w1 e f a s i)(d:dX a i g)(l:g.heap[a]? = some (.cells x.enc.toArray T.c))(m:e≠a)(n:a≠f):nf w1 e f a (s.1,x,s.2.2) g:=by
 obtain⟨p,b,q,r,j⟩:=h.ex;refine⟨h.mod.comp (A':=λb=>b=a) (d.mod rfl) (λ_ _ c=>c) λb k c=>by simp[c],⟨p,b,q,d.obj r m,j.mod (d.mod (A:=λb=>b=a) rfl) λb k c=>?_⟩,d.obj h.aL (Ne.symm n),l⟩;subst c;obtain⟨u,t⟩:=j.b0 b k;exact absurd (oq t h.bl) Ae
def nf.app{w1:A_}{a e f:Nat}{s:Int×o.c9×C_ o.Ref}{d g j:A_}{p q:H_ Addr}{n c r t:Nat}{l:C_ o.Ref}(h:nf w1 a e f s d)(A:d.heap[a]? = some (.cells #[.slice p n c] T.u))
  (w:aT o.Ref.enc T.i 2 w1.heap.size d (.slice p n c) s.2.2)(x:aT o.Ref.enc T.i 2 w1.heap.size g (.slice q r t) l)(y:d.grownBy g (Value.slice p n c).ownBlock)(k:dX a g j)
  (B:j.heap[a]? = some (.cells #[.slice q r t] T.u))(C:a≠e)(G:a≠f):nf w1 a e f (s.1,s.2.1,l) j/\e1 w1.heap.size [a,e,f] [T.i] d j:=by
 have H:e1 w1.heap.size [a,e,f] [T.i] d g:=e1.grown w y Ah;have u:∀{b:Nat} {c:Array B_} {m:F_},d.heap[b]? = some (.cells c m)->m≠T.i->g.heap[b]? = some (.cells c m):=λ{b c m} i I=>by
  rw[y.block b (cf i) λJ=>?_]
  .exact i
  .obtain⟨K,v⟩:=w.b0 b J.symm;exact I (oq i v)
 have z:=H.trans (k.xa Ah);refine⟨⟨e1.from h.mod z,⟨q,r,t,B,x.mod (k.mod (A:=λb=>b=a) rfl) λb i L=>?_⟩,k.obj (u h.aL Ae) (Ne.symm C),k.obj (u h.bl Ae) (Ne.symm G)⟩,z⟩;subst L;obtain⟨K,v⟩:=x.b0 b i;exact absurd (oq v (u A Ae)) Ae
def ahn(cs:C_ B_)(m:o.Model)(w:A_)(h:o.dU w cs m)(af:o.Ay m) :
  EL F.dy #[.agg cs.toArray] w λbk B=>aT o.Ref.enc T.i 2 w.heap.size B bk (o.refs m)/\Ext w B:=by
 obtain⟨b0,b1,b3,bg,b4,bj,b5,b6,b8,b9,rfl,ca,C,ay,n,cb,cc,ch,cj,cm,cp⟩:=h.form;have cq:=o.ts m;have cr:=af.procs;refine gm.start kv yG.dy (args:=[_]) (Nat.le_of_ble_eq_true rfl) ?_;dsimp only[D.dy,aN,bP,hV,ck,na,c6,fv,hE,cO,aM,dm,fs,dD,gQ,ys,gd,dg,hy,yB,gR,mc,qb,n9,b2,ir,m9,sK,E2,As,qa,n8,n7,E3,At,nC,List.map_cons,List.map_nil];refine gm.hT ?_;refine ad ?_;intro bl P ct Q ag;refine ad ?_;refine gm.hT ?_;refine ad ?_;intro az b cu G ah;refine ad ?_;refine gm.hT ?_;refine ad ?_;intro cv g cw u H;refine ad ?_;intro cx e cy S aB;have U:e≠g:=by have:=cf H;omega
 replace H:=S.obj H;refine ad ?_;intro bo V W;have bp:=V.obj aB U;refine ad ?_;intro X Y Z;replace Z:X.heap[e]? = some (.cells (⟨-1,0⟩:o.c9).enc.toArray T.c):=Z;have cz:=cf ag;have cB:=cf ah;have cE:=cf H;have ai:Ext bl X:=Y.ext (V.ext ((G.trans u).trans S) (by have:=G.size;omega)) (by have:=G.size;have:=u.size;omega);have aC:Ext az bo:=V.ext (u.trans S) AY;have aD:Ext az X:=Y.ext aC (by have:=u.size;omega);have aE:=aD.obj ah;have bq:=ai.obj ag;replace W:=Y.obj W (Ne.symm U);have aF:b≠g:=AY
 have aG:b≠e:=by have:=u.size;omega
 have cF:=G.size;have cG:=u.size;clear bp aB H V Y aC aD ah ag G u S;refine gm.u9 (gm.hT ?_);refine ad ?_;refine J_ (ae8 _ m X (h.ext (Q.trans ai))) ?_;rintro _ f ⟨⟨cI,rfl,bt⟩,I⟩;have s:∀{B},Ext f B->Ext w B:=λp=>((Q.trans ai).trans I).trans p;have aj:=I.obj aE;have ak:=I.obj bq;have al:=I.obj W;have an:=I.obj Z;have cK:=cf aj;have cL:=cf al;have cM:=cf an;simp -dsimp only[c7,cD,Nat.reduceAdd,Nat.reduceEqDiff,reduceIte,reduceCtorEq,dt];refine gm.b0 (gm.sE (w0:=f) (enc:=λd:o.yW m=>aeT d.1) (by simp[dE,bR]) Cl (ae0 bt h (s (Ext.refl _))) (Ext.refl _) (qh.ok _ (s (Ext.refl _)).size)
  (λpre J=>nf f b g e ((pre.map Subtype.val).foldl (o.nx m) (-1,⟨-1,0⟩,[])) J) ?_ ⟨Mod.refl _ _,⟨none,0,0,aj,aT.nil _ _ _ _ _⟩,al,an⟩ ?_ ?_)
 .rintro pre J v row k bu K;refine k.move (A:=λa=>row=some a) (Mod.grown bu λa p=>p) (λa L aH aI i c=>?_) λa c=>(K a c).1;obtain⟨cN,C,ay⟩:=(K a c).2;rw[i] at C;injection C with C;subst C;cases ay
 .rintro pre d J k cP;have aJ:=o.abM af (pre.map Subtype.val) (-1,⟨-1,0⟩,[]);simp only[List.length_map,List.length_nil] at aJ;have ao:((pre++[d]).map Subtype.val).foldl (o.nx m) (-1,⟨-1,0⟩,[])=o.nx m ((pre.map Subtype.val).foldl (o.nx m) (-1,⟨-1,0⟩,[])) d.1:=by
   rw[AF9,List.foldl_append];rfl
  generalize (pre.map Subtype.val).foldl (o.nx m) (-1,⟨-1,0⟩,[])=j at k aJ ao;have bw:=o.UI af d.1;have aK:=d.2;refine eA ?_;intro g3 bx cQ aq x;refine eA ?_;refine⟨aq.keeps _,aq.h1 (Ug (s (Ext.refl _)).size k.mod.size),λeT ar=>?_⟩;obtain⟨cS,cU,aL,aP⟩:=ar.mod;replace x:=ar.cells x;have q:nf f b g e j eT:=(k.ext aq).move aP (λa L aH aI i c=>by subst c;exact aL _ _ _ i) λa c=>AY
  have bz:f.heap.size<=eT.heap.size:=q.mod.size;have cV:eT.heap[P]? = f.heap[P]? := q.mod.block P (cf ak) (by simp;omega);have aQ:bx∉[b,g,e]:=by have:=k.mod.size;simp;omega
  clear k ar aP aL al an aj W aE Z;generalize M:(if d.1≠j.2.1 then j.1+1 else j.1)=at' at ao;refine eA ?_;refine R_ [1,3,4,5,6] (λ_=>[]) (λ(_:Unit) v=>nf f b g e (at',j.2) v/\e1 f.heap.size [b,g,e] [T.i] eT v) ?_ ?_
  .have cW:=q.aL;have aR:=q.bl;refine ad ?_;refine AB9 (sig:=o.ah5) Cl (o.aaO _) (o.aaO _) λcX K=>?_;refine ad ?_;refine N_ (λab=>?_) (λab=>?_)
   .have bA:d.1≠j.2.1:=λp=>K.1 ab (by rw[p]);rw[if_pos bA] at M;subst M;refine ad ?_;intro iX aS bB;refine ad ?_;exact⟨(),trivial,q.l9 aS bB aF U,aS.xa Ah⟩
   .have heq:d.1=j.2.1:=o.asH _ _ (Classical.byContradiction λbC=>by rw[K.2 bC] at ab;cases ab);rw[if_neg (by simp[heq])] at M;subst M;refine ad ?_;exact⟨(),trivial,q,(Ext.refl eT).xa⟩
  rintro _ bD iX ⟨au,aU⟩;replace x:=e1.obj aU x aQ Ae;have av:=au.mod.block P (cf ak) (by simp;omega);rw[ak] at av;have aR:=au.bl;have aX:∀N∈[b,g,e],w.heap.size<=N:=λN r=>by
   have:=Q.size
   simp at r;rcases r with rfl | rfl | rfl<;>omega
  refine eA ?_;simp -dsimp only[cD];refine eA ?_;intro oY ae bE;have aY:=au.iT ae bE aG U;have bG:=e1.trans aU (ae.xa Ah);have cY:=ae.obj av AY;replace x:=ae.obj x (by simp at aQ;omega);have c0:Ext w oY:=aY.mod.ext (s (Ext.refl _)) λa i c=>by have:=aX a c;omega
  clear av aR;obtain⟨y,aZ⟩:=Uh aK.aQ;have a0:y<m.procs.length:=by have:=aK.ab;omega
  obtain⟨c,rfl⟩:=n.addr;obtain⟨c1,c2,dN,c3,bH,bI⟩:=n.at y a0;obtain⟨_,_,rfl,_⟩:=bH.form;obtain⟨_,_,rfl,c4⟩:=bI.form;have a1:o.p2 m d.1=m.procs[y].cP.length:=by
   unfold o.p2;rw[aZ,o.ik AY AY];simp
  rw[a1] at bw;refine ad ?_;refine M_ y aZ a0 ?_;refine ad ?_;refine K_ 26 m.procs[y].cP.length [1,3,4,5,6,25] (λ_=>[]) () (λz _ v=>nf f b g e (at',d.1,j.2.2++o.refsOf at' z) v/\e1 f.heap.size [b,g,e] [T.i] eT v) aW aW ⟨by simpa[o.refsOf] using aY,bG⟩ ?_;rintro z _ bD j3 c5 ⟨O,aw⟩;refine ad ?_;apply I_<;>intro c8
  .obtain⟨a3,a5,L,A,t⟩:=O.ex;have db:=O.aL;have dc:=O.mod.size;refine ad ?_;intro dd de df l bJ;refine ad ?_;have di:(j.2.2++o.refsOf at' z).length+1<=5000:=by
    simp only[List.length_append,o.refsOf,List.length_map,List.length_range];omega
   refine _I (ys:=[(⟨at',(z:Int)⟩:o.Ref)]) (t.ext l) (λ_=>rfl) (by simpa[o.Ref.enc] using g5 bJ) rfl (by intro dj dk a7;simp[o.Ref.enc] at a7;rcases a7 with rfl | rfl<;>rfl)
    (by simp only[List.length_cons,List.length_nil];omega) (by simp only[List.length_cons,List.length_nil];unfold maxLen;omega) (by have:=l.size;omega) λdp bK a8 a9 _=>?_
   obtain⟨dq,dr,rfl,_⟩:=a8.form;have du:bK.heap[b]? = some (.cells #[.slice a3 a5 L] T.u):=by
    rw[a9.block b (cf (l.obj A)) λp=>?_]
    .exact l.obj A
    .obtain⟨bL,n⟩:=(t.ext l).b0 b p.symm;exact absurd (oq n (l.obj A)) Ae
   refine ad ?_;intro dv bM bN;obtain⟨bO,bQ⟩:=(O.ext l).app (l.obj A) (t.ext l) a8 a9 bM bN aF aG;refine ad ?_;exact⟨AY,aV,(),trivial,by rw[o.ahm,<-Vh];exact bO,e1.trans aw (e1.trans l.xa bQ)⟩
  .have bU:z=m.procs[y].cP.length:=AY
   refine ad ?_;refine⟨e1.keeps aw (λN r=>?_),e1.h1 aw (Ug (s (Ext.refl _)).size bz) (s (Ext.refl _)).size (λN r=>⟨aX N r,λL aH aI i ax=>?_⟩) Ae,?_⟩
   .simp at r;rcases r with rfl | rfl | rfl<;>omega
   .simp at r;rcases r with rfl | rfl | rfl
    .obtain⟨_,_,_,p,_⟩:=q.ex
     have:=oq i p;subst this;revert ax;decide
    .have:=oq i q.aL;subst this;revert ax;decide
    .have:=oq i q.bl;subst this;revert ax;decide
   .show nf f b g e _ j3;rw[ao]
    have:o.nx m j d.1=(at',d.1,j.2.2++o.refsOf at' z):=by unfold o.nx;rw[M,a1,bU]
    rw[this];exact O
 .rintro D xs J bV bW k bb;obtain⟨a3,a5,L,A,t⟩:=k.ex;have bX:=o.aw6 m;rw[bW] at t;rw[bX] at t;simp -dsimp only[c7,cD,Nat.reduceAdd,Nat.reduceEqDiff,reduceIte,reduceCtorEq,dt];refine _C A (Ext.refl _) rfl ?_;simp -dsimp only[c7,cD,Nat.reduceAdd,Nat.reduceEqDiff,reduceIte,reduceCtorEq,dt];refine gm.ret bb ?_;simp -dsimp only[c7,cD,Nat.reduceAdd,Nat.reduceEqDiff,reduceIte,reduceCtorEq,dt];have bf:w.heap.size<=f.heap.size:=(s (Ext.refl _)).size;have bY:Ext w J:=k.mod.ext (s (Ext.refl _)) λa i c=>by
   have:=Q.size
   simp at c;rcases c with rfl | rfl | rfl<;>omega
  refine⟨(t.mod (A:=λa=>a=D) ((dX.fZ _ _ _).mod rfl) λa i c=>?_).low bf,bY.fZ (Ug bf bV) _⟩;subst c;obtain⟨bL,n⟩:=t.b0 a i;rw[bb] at n;injection n with n;cases n
end Go.Proofs.R
namespace o
def aeU:∀(a:c9),∀b∈a.enc,b.oneCell'=true:=by intro a b c;simp[c9.enc] at c;rcases c with rfl | rfl<;>rfl
def aw2:∀(a:Ref),∀b∈a.enc,b.oneCell'=true:=by intro a b c;simp[Ref.enc] at c;rcases c with rfl | rfl<;>rfl
end o
namespace Go.Proofs.R
open Go Go.RowKit ba o
def EA(cs:C_ B_)(m:o.Model)(w:A_)(h:dU w cs m)(U:m.cB) :
  EL F.Nn #[.agg cs.toArray] w λr c=>aT c9.enc T.c 2 w.heap.size c r (o.insts m)/\Ext w c:=by
 obtain⟨an,ao,aq,bg,ar,bj,au,av,aw,ax,rfl,ay,az,aB,I,aC,aD,aE,aF,aG,aH⟩:=h.form;have V:=U.procs;have aI:=ts m;unfold eO at V;refine bn E.Nn ?_;refine ad ?_;intro W e aJ X J;refine ad ?_;refine K_ 4 m.procs.length [1] (λa:ez×C_ c9=>[(3,.slice a.1.1 a.1.2.1 a.1.2.2)]) ((none,0,0),[]) (λb a c=>(Ext w c/\c.heap[e]? = W.heap[e]?)/\aT c9.enc T.c 2 w.heap.size c (.slice a.1.1 a.1.2.1 a.1.2.2) a.2/\a.2++ky m (m.procs.drop b) b=o.insts m) aW aW ⟨⟨X,rfl⟩,aT.nil _ _ _ _ _,by simp[o.insts]⟩ ?_;rw[J];clear J;rintro b ⟨r,k⟩ K Y aK ⟨⟨l,n⟩,s,f⟩;refine ad ?_;apply I_<;>intro aL
 .have t:b<m.procs.length:=AY
  obtain⟨aP,rfl⟩:=I.addr;obtain⟨aQ,aR,dN,aS,Z,ab⟩:=I.at b t;obtain⟨_,_,rfl,_⟩:=Z.form;obtain⟨_,_,rfl,_⟩:=ab.form;rw[aeV t] at f;have p:=congrArg List.length f;simp only[List.length_append] at p;have aU:=F6 m m.procs[b];refine eA ?_;simp -dsimp only[cD];refine eA ?_;refine R_ [1,4] (λa:ez=>[(3,.slice a.1 a.2.1 a.2.2)]) (λa c=>(Ext w c/\c.heap[e]? = Y.heap[e]?)/\aT c9.enc T.c 2 w.heap.size c (.slice a.1 a.2.1 a.2.2) (k++jw b m.procs[b])) ?_ ?_
  .refine ad ?_;apply I_<;>intro u
   .have v:jw b m.procs[b]=[⟨(b:Int),0⟩]:=by unfold jw;rw[if_pos u]
    rw[v] at p ⊢;simp only[List.length_cons,List.length_nil] at p;refine ad ?_;intro L aX aY g i;have j:=s.ext g;have x:=g.obj n;refine ad ?_;refine T_ (y:=⟨(b:Int),0⟩) j i rfl (λ_=>rfl) aeU (by simp only;omega) (by unfold maxLen;simp only;omega) (l.trans g).size λy z A ae B M=>?_;refine ad ?_;exact⟨(y,z,A),aW,⟨j.h9 (l.trans g) M (EM _),by rw[n];exact j.box M x Ae⟩,B⟩
   .have v:jw b m.procs[b]=[]:=by unfold jw;rw[if_neg u]
    refine ad ?_;exact⟨r,aW,⟨l,aV⟩,by rw[v,AG5];exact s⟩
  rintro af K L ⟨⟨g,i⟩,j⟩;rw[n] at i;clear n;refine ad ?_;refine _W [1,4] (λa:ez×Nat=>[(3,.slice a.1.1 a.1.2.1 a.1.2.2),(5,.I ((a.2:Int)+1))]) (af,0) (λa c=>(a.2<=o.elems m m.procs[b]/\Ext w c/\c.heap[e]? = L.heap[e]?)/\aT c9.enc T.c 2 w.heap.size c (.slice a.1.1 a.1.2.1 a.1.2.2) (k++jw b m.procs[b]++ki b a.2)) (λa=>4 - a.2) aW ⟨⟨AG6 _,g,rfl⟩,by simpa[ki] using j⟩ ?_;rw[i];clear i;rintro⟨v4,d⟩ K ae ⟨⟨ag,C,ah⟩,B⟩;refine ad ?_;refine P_ _ (λc ai=>awR _ m m.procs[b] _ _ c (h.ext (C.trans ai))) ?_;refine ad ?_;intro aZ q;have N:=q.obj ah;have O:=B.ext q;refine ad ?_;apply I_<;>intro u
  .have a0:d<o.elems m m.procs[b]:=AY
   refine ad ?_;intro a1 a3 a5 G aj;have H:=O.ext G;have x:=G.obj N;have P:=(C.trans q).trans G;refine ad ?_;have Q:(k++jw b m.procs[b]++ki b d).length+1<=(o.insts m).length:=by
    simp only[List.length_append,ki,List.length_map,List.length_range] at p ⊢;omega
   refine T_ (y:=⟨(b:Int),(d:Int)+1⟩) H aj rfl (λ_=>rfl) aeU (Ug (AJ2 16 Q) AY) (Ug Q (by unfold maxLen;omega)) P.size λy z A a7 ak S=>?_;refine ad ?_;exact⟨((y,z,A),d+1),aW,⟨⟨by show d+1<=_;omega,H.h9 P S (EM _),H.box S x Ae⟩,by rw[agq,<-Vh];exact ak⟩,by show 4 - (d+1)<4 - d;omega⟩
  .have al:d=o.elems m m.procs[b]:=by simp only at ag;omega
   refine ad ?_;exact⟨t,aV,(v4,k++(jw b m.procs[b]++ki b d)),aW,⟨C.trans q,N⟩,by rw[<-Vh];exact O,by rw[al,<-f];simp⟩
 .rw[VQ AY] at f;refine ad ?_;refine⟨?_,l⟩;simp only[ky,List.append_nil] at f;rw[<-f];exact s
def awW(cs:C_ B_)(m:o.Model)(w:A_)(h:dU w cs m)(J:m.cB)(aj:(o.refs m).length*16<=140737488351232) :
  EL F.HR #[.agg cs.toArray] w λi c=>aT o.Ref.enc T.i 2 w.heap.size c i (o.refs m)/\Ext w c:=by
 obtain⟨ak,al,an,bg,ao,bj,aq,ar,au,av,rfl,aw,ax,ay,q,az,aB,aC,aD,aE,aF⟩:=h.form;refine bn E.HR ?_;refine ad ?_;intro K aG aH r L;refine ad ?_;refine J_ (EA _ m K (h.ext r) J) ?_;rintro M g ⟨N,s⟩;have t:=s.obj L;have u:rS g M (o.insts m):=aT.lF (enc:=c9.enc) (λ_=>rfl) N;obtain⟨aI,aJ,rfl,aK⟩:=u.form;have j:=r.trans s;refine ad ?_;refine K_ 5 (o.insts m).length [1,3] (λa:ez×C_ o.Ref=>[(4,.slice a.1.1 a.1.2.1 a.1.2.2)]) ((none,0,0),[]) (λb a c=>(Ext g c/\aT o.Ref.enc T.i 2 g.heap.size c (.slice a.1.1 a.1.2.1 a.1.2.2) a.2)/\a.2++mE m ((o.insts m).drop b) b=o.refs m) aW aW ⟨⟨Ext.refl _,aT.nil _ _ _ _ _⟩,by simp[o.refs]⟩ ?_;rintro b ⟨i,k⟩ O aL aP ⟨⟨l,v⟩,f⟩;have P:=l.obj t;refine ad ?_;apply I_<;>intro aQ
 .have x:b<(o.insts m).length:=AY
  have y:=qJ (o.insts m)[b] (FA _);obtain⟨d,z⟩:=Uh y.aQ;have A:d<m.procs.length:=by have:=y.ab;omega
  obtain⟨aR,rfl⟩:=q.addr;obtain⟨aS,rfl⟩:=u.addr;obtain⟨aU,aX,dN,Q,S,U⟩:=q.at d A;obtain⟨_,_,rfl,_⟩:=S.form;obtain⟨_,_,rfl,aY⟩:=U.form;have V:p2 m (o.insts m)[b]=m.procs[d].cP.length:=by
   unfold p2;rw[z,ik AY AY];simp
  rw[aw4 x,V] at f;have B:=congrArg List.length f;simp only[List.length_append] at B;refine ad ?_;refine K_ 6 m.procs[d].cP.length [1,3,5] (λa:ez=>[(4,.slice a.1 a.2.1 a.2.2)]) i (λe a c=>Ext g c/\aT o.Ref.enc T.i 2 g.heap.size c (.slice a.1 a.2.1 a.2.2) (k++o.refsOf b e)) aW aW ⟨l,by simpa[o.refsOf] using v⟩ ?_;clear P;rintro e W O aZ a0 ⟨n,X⟩;have a1:=n.obj t;have a3:=Q.ext j;refine ad ?_;refine M_ d z A ?_;refine ad ?_;intro a5 p;have C:=X.ext p;refine ad ?_;apply I_<;>intro a7
  .have Y:e<m.procs[d].cP.length:=AY
   refine ad ?_;intro a8 a9 bb G Z;have H:=C.ext G;have I:=(n.trans p).trans G;refine ad ?_;have bf:(k++o.refsOf b e).length+1<=(o.refs m).length:=by
    simp only[List.length_append,o.refsOf,List.length_map,List.length_range] at B ⊢;omega
   refine T_ (y:=⟨(b:Int),(e:Int)⟩) H Z rfl (λ_=>rfl) aw2 AY (by unfold maxLen;omega) I.size λab ae af bk ag ah=>?_;refine ad ?_;exact⟨Y,aV,(ab,ae,af),aW,H.h9 I ah (EM _),by rw[ahm,<-Vh];exact ag⟩
  .have ai:e=m.procs[d].cP.length:=AY
   refine ad ?_;exact⟨x,aV,(W,k++o.refsOf b e),aW,⟨n.trans p,C⟩,by rw[ai,<-f];simp⟩
 .rw[VQ AY] at f;refine ad ?_;refine⟨?_,j.trans l⟩;simp only[mE,List.append_nil] at f;rw[<-f];exact v.low j.size
def awX(cs:C_ B_)(m:o.Model)(w:A_)(h:dU w cs m)(b:m.cB)(c:Ay m) :
  EL F.HR #[.agg cs.toArray] w λd a=>aT o.Ref.enc T.i 2 w.heap.size a d (o.refs m)/\Ext w a :=
 awW cs m w h b (by have:=Vu c;omega)
end Go.Proofs.R
namespace ba
open Go
def da(n:Int):C_ B_:=[.int .i64 n]
def j8:∀(a:Int),∀b∈da a,b.oneCell'=true:=by intro a b c;simp[da] at c;subst c;rfl
instance aBQ:nD (Flat da) (λn=>[Value.int .i64 n]):=⟨λ_ _ _ h=>h⟩
end ba
namespace Go.Proofs.R
open Go Go.RowKit ba o
abbrev nO:Int->C_ B_:=λa=>[Value.int .i64 a]
abbrev vk(base:Nat)(w:A_)(v:B_)(xs:C_ Int):Prop:=aT nO T.a 1 base w v xs
structure rT(base b:Nat)(w:World)(m:Value)(st:List Int):Prop where
 ex:∃Cp,w.heap[b]? = some (.cells #[Cp,m] T.r0)/\vk base w Cp st
 lt:b<base
 le:base<=w.heap.size
theorem rT.ext{base b:Nat}{w w':A_}{m:B_}{st:C_ Int}(h:rT base b w m st)(a:Ext w w'):rT base b w' m st :=
 let ⟨c,d,e⟩:=h.ex
 ⟨⟨c,a.obj d,e.ext a⟩,h.lt,Ug h.le a.size⟩
theorem Gj(st:C_ Int)(h:0<st.length):st.getLastD 0=st[st.length - 1]:=by
 rw[List.getLastD_eq_getLast?,List.getLast?_eq_getElem?,List.getElem?_eq_getElem AY];rfl
def aiG(base b:Nat)(w:A_)(m:B_)(st:C_ Int)(h:rT base b w m st)(a:0<st.length) :
  EL F.Gk #[.pointer (some ⟨b,0,none⟩)] w λd e=>d = .I (st.getLastD 0)/\Ext w e:=by
 obtain⟨i,j,c⟩:=h.ex;obtain⟨k,l,rfl,n,f⟩:=c.form;have g:nF w _ st:=aT.im (enc:=nO) (sz:=1) (λ_=>rfl) c;obtain⟨p,rfl⟩:=g.addr a;unfold maxLen at f;refine bn E.Gk ?_;refine aO ?_;refine M_ (st.length - 1) AY AY ?_;refine aO ?_;intro q r;refine aO ?_;rw[Gj _ a];exact cd
def as5(x:o.Node)(cs:C_ B_)(s:o.Scope)(base b:Nat)(w:A_)(m:B_)(st:C_ Int)(J:x.ok)(h:gn w cs s)(K:rT base b w m st)(L:x.op=3->0<st.length) :
  EL F.KO #[.pointer (some ⟨b,0,none⟩),.agg x.enc.toArray,.agg cs.toArray] w λM j=>M = .tuple #[.I (hh x s (st.getLastD 0)).1,.I (hh x s (st.getLastD 0)).2]/\Ext w j:=by
 obtain⟨ab,ae,N,bg,af,bj,ag,ah,O,P,rfl,ai,Q,aj,ak,S,al,an,ao,aq,ar⟩:=h.form;refine bn E.KO ?_;simp -dsimp only[cD];refine rZ ?_;refine O_ λau v av U y=>?_;refine rZ ?_;refine O_ λn V aw z A=>?_;have l:=U.trans z;have W:n.heap[v]? = some (.cells #[.I x.op,.I x.n] T.k):=z.obj y;clear y;refine rZ ?_;simp -dsimp only[cD];refine rZ ?_;refine _x (λp j=>p 0 = .pointer (some ⟨b,0,none⟩)/\p 4 = .pointer (some ⟨v,0,none⟩)/\p 5 = .pointer (some ⟨V,0,none⟩)/\j=n/\(x.op=2\/x.op=3\/x.op=4) /\
  p 8=if x.op=4 then .slice O s.locals.length P else .slice N s.vars.length bg) ?_ ?_
 .refine aO ?_;apply I_<;>intro e
  .refine aO ?_;refine J_ (Qm x.n 0 n) ?_;rintro _ q ⟨rfl,r⟩;have k:hh x s (st.getLastD 0)=if o.within x.n then (0,0) else (0,10):=by rw[hh,if_pos e]
   have X:(o.tell (· + ·) x.n 0).2=o.within x.n:=by
    unfold o.tell
    have:o.within 0=true:=rfl
    simp only[Int.add_zero,this,Bool.and_true,Bool.and_self];split<;>simp_all
   rw[k,X];refine aO ?_;refine N_ (λf=>?_) (λf=>?_)
   all_goals
    refine aO ?_;rw[f];exact cd
  refine aO ?_;apply I_<;>intro g
  .refine aO ?_;refine⟨trivial,trivial,trivial,trivial,.inr (.inr g),by rw[if_pos g]⟩
  refine aO ?_;apply I_<;>intro f
  .refine aO ?_;refine⟨trivial,trivial,trivial,trivial,.inl f,by rw[if_neg g]⟩
  refine aO ?_;apply I_<;>intro t
  .refine aO ?_;refine⟨trivial,trivial,trivial,trivial,.inr (.inl t),by rw[if_neg g]⟩
  refine aO ?_;refine S_ (c:=[_,_]) W (Ext.refl _) rfl ?_;refine aO ?_;refine S_ (c:=[_,_,_,_,_,_]) A (Ext.refl _) rfl ?_;refine aO ?_;refine J_ (as6 x _ s n J (h.ext l)) ?_;rintro _ q ⟨rfl,r⟩;refine aO ?_;have k:hh x s (st.getLastD 0)=kP x s:=by rw[hh,if_neg e,if_neg AY]
  rw[k];exact cd
 .rintro B j ax ⟨a,c,d,rfl,Y,C⟩;have k:hh x s (st.getLastD 0)=(let i:=fQ (if x.op=4 then s.locals else s.vars) x.n s;if i.2.2=false then (0,8) else if (x.op=3/\(i.2.1=0\/st.getLastD 0≠i.2.1))\/(x.op≠3/\i.2.1≠0) then (0,9) else (i.1,0)):=by
   rw[hh,if_neg AY,if_pos Y]
  rw[k];clear k;have u:j1 j (B 8) (if x.op=4 then s.locals else s.vars):=by
   rw[C];split
   .exact S.ext l
   .exact Q.ext l
  generalize (if x.op=4 then s.locals else s.vars)=G at u ⊢;obtain⟨H,I⟩:∃H,B 8=H:=⟨_,rfl⟩;rw[I] at u;clear C;refine eJ (i_ a (i_ c (i_ d I))) ?_;refine S_ (c:=[_,_,_,_,_,_]) A (Ext.refl _) rfl ?_;refine eJ (i_ a (i_ c d)) ?_;refine J_ (ay1 _ G x.n _ s j u (h.ext l)) ?_;rintro _ q ⟨rfl,r⟩;generalize fQ G x.n s=i;obtain⟨ay,az,aB⟩:=i;refine eJ (i_ a (i_ c d)) ?_;refine N_ (λe=>?_) (λe=>?_);rotate_left
  .refine aO ?_;simp only[e,if_true];exact cd
  have Z:=(K.ext l).ext r;refine eJ (i_ a (i_ c d)) ?_;apply I_<;>intro f
  .refine eJ (i_ a (i_ c d)) ?_;apply I_<;>intro t
   .refine eJ (i_ a (i_ c d)) ?_;simp only[e,Bool.true_eq_false,if_false];rw[if_pos (.inl ⟨f,.inl t⟩)];exact cd
   refine eJ (i_ a (i_ c d)) ?_;refine J_ (aiG base b q m st Z (L f)) ?_;rintro _ aC ⟨rfl,aD⟩;refine eJ (i_ a (i_ c d)) ?_;apply I_<;>intro g
   .refine eJ (i_ a (i_ c d)) ?_;simp only[e,Bool.true_eq_false,if_false];rw[if_neg AY];exact cd
   .refine aO ?_;simp only[e,Bool.true_eq_false,if_false];rw[if_pos (.inl ⟨f,.inr g⟩)];exact cd
  .refine eJ (i_ a (i_ c d)) ?_;apply I_<;>intro g
   all_goals
    refine aO ?_;simp only[e,Bool.true_eq_false,if_false]
   .rw[if_neg AY];exact cd
   .rw[if_pos (.inr ⟨f,g⟩)];exact cd
def AA3{P:D_}{x:B_}{args:C_ B_}{w:A_}{b:B_->Prop}{t}(v:B_)(h:∀a,Ext w a->yD P x args a (λd e=>d=v/\Ext a e) ⟨⟩)(f:b v):Jp P x args w b t:=by
 unfold Jp;refine⟨v,λa c=>?_,f⟩
 have:=h a c
 unfold yD at this;obtain⟨g,first,i,j,k,l⟩:=this;exact⟨g,first,i,j,k,l.mono λ_ _ ⟨m,n⟩=>⟨m,c.trans n⟩⟩
theorem yF.ext{w w':A_}{v:B_}{g:Int->Int->Int×Bool}(a:Ext w w')(h:yF w v g):yF w' v g:=by
 rcases h with h | ⟨b,c,d,e,f,i⟩
 .exact .inl h
 .exact .inr ⟨b,c,d,e,a.obj f,i⟩
def O5(f:o.Node->C_ Int->Int×Int)(d:pF->C_ Int->Int×Int)(e:o.Node->C_ Int->Int×Int):Prop :=
 ∀b a,f b a=match gY b.op with | some c=>d c (a.drop (a.length - c.parts.toNat)) | none=>e b a
def UO{x:Int}{a:pF}(h:gY x=some a):1<=a.parts/\a.parts<=2:=by
 unfold gY at h
 repeat' split at h
 all_goals first | (cases h;exact⟨Ae,Ae⟩) | cases h
def ayh(f:o.Node->C_ Int->Int×Int)(Q:pF->C_ Int->Int×Int)(S:o.Node->C_ Int->Int×Int)(aH:O5 f Q S)
  (x:o.Node)(base b:Nat)(w:A_)(m ar au:B_)(st:C_ Int)(l:rT base b w m st)(av:rU w m)(bk:st.length<=24)
  (aI:0<=en x.op->en x.op<=st.length->gY x.op=none->∀c C U,Ext w c->(∀s,Ext c s->C (.tuple #[.I (S x st).1,.I (S x st).2]) s)->CJ Tryz.prog ar [.agg x.enc.toArray] c C U)
  (aJ:∀d V aw c C U,Ext w c->gY x.op=some d->Fm c d V->d.parts<=st.length->nF c aw (st.drop (st.length - d.parts.toNat)) ->
   (∀s,Ext c s->C (.tuple #[.I (Q d (st.drop (st.length - d.parts.toNat))).1,.I (Q d (st.drop (st.length - d.parts.toNat))).2]) s)->yD Tryz.prog au [V,aw] c C U) :
  EL F.KZ #[.pointer (some ⟨b,0,none⟩),.agg x.enc.toArray,ar,au] w λaK c =>
   aK = .I (o.stepG f x st).1/\Mod (λn=>n=b\/base<=n) w c/\((o.stepG f x st).1=0->rT base b c m (o.stepG f x st).2):=by
 obtain⟨bl,aL,W⟩:=l.ex;obtain⟨t,u,rfl,bo,v⟩:=W.form;have aP:nF w _ st:=aT.im (enc:=nO) (sz:=1) (λ_=>rfl) W;unfold maxLen at v;refine bn E.KZ ?_;simp -dsimp only[cD];refine rZ ?_;refine O_ λbp bq bt X ax=>?_;refine rZ ?_;simp -dsimp only[cD];refine rZ ?_;refine P_ _ (λc k=>avA x.op m c (av.ext (X.trans k))) ?_;refine rZ ?_;intro bu Y;have p:=X.trans Y;refine rZ ?_;simp -dsimp only[cD];generalize M:en x.op=q;have bw : -1<=q/\q<=2:=by rw[<-M];unfold en; (repeat' split)<;>omega
 refine aO ?_;apply I_<;>intro Z
 .refine aO ?_;have ab:o.stepG f x st=(3,st):=by unfold o.stepG;rw[M,if_pos Z]
  rw[ab];exact⟨rfl,p.mod,λi=>by cases i⟩
 refine aO ?_;apply I_<;>intro ay
 .refine aO ?_;have ab:o.stepG f x st=(4,st):=by unfold o.stepG;rw[M,if_neg Z,if_pos ay]
  rw[ab];exact⟨rfl,p.mod,λi=>by cases i⟩
 refine rZ ?_;simp -dsimp only[cD];refine rZ ?_;simp -dsimp only[cD];refine rZ ?_;have az:o.stepG f x st=if (f x st).2≠0 then ((f x st).2,st) else if (st.take (st.length - q.toNat)++[(f x st).1]).length > 12 then (12,st) else (0,st.take (st.length - q.toNat)++[(f x st).1]):=by
  unfold o.stepG;rw[M,if_neg Z,if_neg ay]
 rw[az];clear az;have y:=aH x st;generalize bx:f x st=j at y ⊢;refine _x (λN c=>N 0 = .pointer (some ⟨b,0,none⟩)/\N 9 = .I q/\N 10 = .I j.1/\N 11 = .I j.2/\Ext w c) ?_ ?_
 .refine aO ?_;intro G g;obtain⟨bz,bA,aQ,aR,O⟩:=(av.ext (p.trans g)).look x.op;refine aO ?_;refine _t aQ aR ?_;cases z:gY x.op with
  | none =>
   simp only[z] at O y;subst O;simp only[pt,Option.map_none,Option.getD_none,Option.isSome_none,if_true];refine aO ?_;refine O_ λae aS af e H=>?_;refine⟨e,?_⟩;refine aO ?_;refine X_ (cs:=#[.I 0,.I 0,.I 0,.nilFunc]) H rfl rfl (by simp[Value.oneCell']) λA I P=>?_;have h:Ext G A:=I.ext e af;clear H I e;refine aO ?_;refine S_ (c:=[_,_]) (Y.obj ax) (fT) rfl ?_;refine aO ?_;refine aI AY AY z _ _ _ ((p.trans g).trans h) λag ah=>?_;refine aO ?_;rw[y];exact⟨trivial,trivial,rfl,rfl,((p.trans g).trans h).trans ah⟩
  | some d =>
   simp only[z] at O y;obtain⟨bB,V,rfl,r,rfl,ai⟩:=O;obtain⟨bC,bD⟩:=UO z;have bE:=(Ca z).1;simp only[pt,Option.map_some,Option.getD_some,Option.isSome_some,if_true];refine aO ?_;refine O_ λae aS af e H=>?_;refine⟨e,?_⟩;refine aO ?_;refine X_ (cs:=#[.I d.parts,.I d.iU,.I d.makes,r]) H rfl rfl (by rcases ai with ⟨f,rfl,_⟩ | ⟨bG,f,a,rfl,_⟩<;>simp[Value.oneCell']) λA I P=>?_;have h:Ext G A:=I.ext e af;clear H I e;have aj:=(p.trans g).trans h;have bH:Fm G d (.agg #[.I d.parts,.I d.iU,.I d.makes,r]):=⟨r,rfl,ai⟩;obtain⟨a,rfl⟩:=Uh (show 0<=q by omega);have ak:d.parts.toNat=a:=AY
   refine aO ?_;refine S_ (c:=[_,_,_,_]) P (Ext.refl _) rfl ?_;refine aO ?_;refine _9 (st.length - a) (by refine a4 ?_;rw[Int.ofNat_sub AY]) ⟨AY,AY⟩ ?_;have aU:=aP.tail (st.length - a) AY;rw[ak] at y;refine aO ?_;refine AA3 _ (λc k=>aJ d _ _ c _ _ (aj.trans k) z ⟨r,rfl,ai.ext (h.trans k)⟩ AY (by rw[ak];exact aU.ext Flat.ext (aj.trans k)) λs aX=>⟨rfl,aX⟩) ?_;refine aO ?_;intro ag ah;refine aO ?_;rw[y,ak];exact⟨trivial,trivial,rfl,rfl,aj.trans ah⟩
 .clear ax X Y p;rintro bI G bJ ⟨J,K,L,B,g⟩;simp -dsimp only[cD];refine eJ (i_ J (i_ K (i_ L B))) ?_;apply I_<;>intro al;rotate_left
  .refine eJ B ?_;rw[if_pos al];exact⟨rfl,g.mod,λi=>absurd i al⟩
  obtain⟨a,rfl⟩:=Uh (show 0<=q by omega);have aY:¬j.2≠0:=by simpa using al
  rw[if_neg aY];have v:(st.take (st.length - a)++[j.1]).length=st.length - a+1:=by simp[List.length_take]
  have bK:=l.ext g;have aZ:vk base G (.slice t st.length u) st:=W.ext g;refine rZ ?_;simp -dsimp only[cD];refine eJ (i_ J (i_ K (i_ L B))) ?_;intro ae e;have a0:vk base ae (.slice t st.length u) st:=aZ.ext e;refine eJ (i_ J (i_ K (i_ L B))) ?_;refine _k (st.length - a) (by refine a4 ?_;rw[Int.ofNat_sub AY]) AY ?_;refine eJ (i_ J (i_ K (i_ L B))) ?_;refine _D (cs:=[j.1].flatMap nO) (by simp[List.range,List.range.loop,gv,lay,dE,bR,Value.cells,nO]) λA bL bM h P=>?_;refine⟨h,?_⟩;refine aO ?_;have an:vk base A (.slice t (st.length - a) u) (st.take (st.length - a)):=aT.head (enc:=nO) (sz:=1) (xs:=st) (λ_=>rfl) (aT.ext h a0) (st.length - a) (Nat.sub_le _ _);have aB:(st.take (st.length - a)).length=st.length - a:=by simp[List.length_take]
  have a1:((st.take (st.length - a)).length+[j.1].length)*8<=140737488355328:=by rw[aB];simp only[List.length_cons,List.length_nil];omega
  have a3:(st.take (st.length - a)).length+[j.1].length<=maxLen:=by rw[aB];simp only[List.length_cons,List.length_nil,maxLen];omega
  have a5:∀aC,∀r∈nO aC,r.oneCell'=true:=λaC r i=>by simp[nO] at i;subst i;rfl
  refine _l (xs:=st.take (st.length - a)) (ys:=[j.1]) an (λ_=>rfl) (g5 P) rfl a5 a1 a3 (by have:=l.le;have:=g.size;have:=e.size;have:=h.size;omega) λa7 ag ao aD=>?_;have aE:A.heap[b]? = some (.cells #[.slice t st.length u,m] T.r0):=h.obj (e.obj (g.obj aL));have a8:ag.heap[b]? = some (.cells #[.slice t st.length u,m] T.r0):=by
   refine(aD.block b (cf aE) λk=>?_).trans aE
   have:=(an.lt b k.symm).1
   have:=l.lt
   omega
  refine aO ?_;refine _B a8 Ah (by obtain⟨t,u,k,_⟩:=ao.form;rw[k];rfl) λaF aG a9=>?_;have aq:Mod (λn=>n=b\/base<=n) w aF :=
   (((g.trans e).trans h).mod.trans (Mod.grown aD λn bb=>.inr (an.lt n bb).1)).trans (aG.mod (.inl rfl))
  have bf:rT base b aF m (st.take (st.length - a)++[j.1]) :=
   ⟨⟨a7,a9,ao.wr aG l.lt⟩,l.lt,Ug l.le aq.size⟩
  obtain⟨bN,bO,rfl,bQ,_⟩:=ao.form;rw[v];have bU:((st.take (st.length - a)++[j.1]).length:Int)=st.length - a+1:=by rw[v];omega
  refine eJ (i_ J (i_ K (i_ L B))) ?_;apply I_<;>intro bV
  .refine aO ?_;simp only[Int.toNat_natCast,v];rw[if_pos AY];exact⟨rfl,aq,λi=>by cases i⟩
  .refine aO ?_;simp only[Int.toNat_natCast,v];rw[if_neg AY];exact⟨rfl,aq,λ_=>bf⟩
def ahO(f:o.Node->C_ Int->Int×Int)(L:pF->C_ Int->Int×Int)(M:o.Node->C_ Int->Int×Int)(aF:O5 f L M)(I:Int->Prop)
  (b:Nat)(w0 w:A_)(aG:Ext w0 w)(a8:w0.heap.size<=b)(ao X Y:B_)(e:C_ o.Node)(Z:fJ w0 ao e)(aq:w.heap[b]? = some (.cells #[.slice none 0 0,.map none] T.r0))
  (aH:∀g a,g.ok->(∀l∈a,I l)->0<=en g.op->en g.op<=a.length->(f g a).2=0->I (f g a).1)
  (aI:∀g a aJ v i,g.ok->Mod (λd=>d=b) w i->rT aJ b i v a->(∀l∈a,I l)->0<=en g.op->en g.op<=a.length->gY g.op=none->∀N r A,Ext i N ->
   (∀J,Ext N J->r (.tuple #[.I (M g a).1,.I (M g a).2]) J)->CJ Tryz.prog X [.agg g.enc.toArray] N r A)
  (aK:∀s O P Q i r A,Mod (λd=>d=b) w i->Fm i s O->(∃g,gY g=some s)->s.parts=Q.length->nF i P Q ->
   (∀J,Ext i J->r (.tuple #[.I (L s Q).1,.I (L s Q).2]) J)->yD Tryz.prog Y [O,P] i r A) :
  EL F.KL #[.pointer (some ⟨b,0,none⟩),ao,X,Y] w λaL i =>
   aL = .tuple #[.I (l7 f e).1,.I (l7 f e).2]/\Mod (λd=>d=b) w i:=by
 obtain⟨a9,bb,rfl,bf⟩:=Z.form;refine bn E.KL ?_;refine aO ?_;apply I_<;>intro bk
 .refine aO ?_;rw[l7,if_pos AY];exact⟨rfl,Mod.refl _ _⟩
 refine aO ?_;apply I_<;>intro bl
 .refine aO ?_;rw[l7,if_neg AY,if_pos AY];exact⟨rfl,Mod.refl _ _⟩
 refine aO ?_;refine J_ (avh w) ?_;rintro v N ⟨ar,ab⟩;refine aO ?_;refine _B (ab.obj aq) Ae (by obtain⟨bo,_,_,_,e,_⟩:=ar;rw[e];rfl) λB au av=>?_;have ae:B.heap[b]? = some (.cells #[.slice none 0 0,v] T.r0):=av;clear av;have aP:rU B v:=ar.mod (A:=λd=>d=b) (au.mod rfl) λd s c h x=>by
  subst x;rw[ab.obj aq] at c;injection c with c
  rcases h with ⟨es,aQ,h⟩ | ⟨cs,h⟩
  .rw[h] at c;cases c
  .rw[h] at c;injection c with _ c
   cases c
 have aw:Mod (λd=>d=b) w B:=ab.mod.trans (au.mod rfl);have aR:b<B.heap.size:=cf ae;refine aO ?_;refine _j 27 e.length (λd aS i=>Mod (λd=>d=b) B i/\∃a,e3 f (e.take d) []=(0,a)/\rT B.heap.size b i v a/\(0<d->1<=a.length)/\a.length<=12/\∀l∈a,I l)
  (by simp -dsimp only[c7,cD,Nat.reduceAdd,Nat.reduceEqDiff,reduceIte,reduceCtorEq,dt]) ⟨Mod.refl _ _,[],by simp[e3],⟨⟨_,ae,aT.nil _ _ _ _ _⟩,aR,EM _⟩,Ah,Ah,Ah⟩ ?_
 rintro d aS S C x t ⟨af,a,U,ag,aU,bp,ah⟩;have k:=C 0 rfl;have c:=C 1 rfl;have h:=C 2 rfl;have m:=C 3 rfl;have n:=C 25 rfl;have p:=C 26 rfl;simp only[bR,Nat.reduceAdd,Nat.reduceEqDiff,reduceIte,kF,ox] at k c h m n p;clear C;have V:Mod (λd=>d=b) w S:=aw.trans af;refine eJ (i_ k (i_ c (i_ h (i_ m (i_ n (i_ p t)))))) ?_;apply I_<;>intro bq
 .have G:d<e.length:=AY
  have bt:Ext w0 S:=V.ext aG λbu bw e=>AY
  obtain⟨aX,rfl⟩:=Z.addr;have ax:=(Z.at d G).ok;have ay:=λk=>VG (f:=f) (e:=e) AY G U k;have az:=EG G U;have aY:rU S v:=aP.mod (A:=λd=>d=b) af λd s c h x=>by
   subst x;rw[ae] at c;injection c with c
   rcases h with ⟨es,aQ,h⟩ | ⟨cs,h⟩
   .rw[h] at c;cases c
   .rw[h] at c;injection c with _ c
    cases c
  refine eJ (i_ k (i_ c (i_ h (i_ m (i_ n (i_ p t)))))) ?_;generalize bx:e[d]=g at *;refine _O (vs:=g.enc) (λ_=>by simp -dsimp only[c7,cD,Nat.reduceAdd,Nat.reduceEqDiff,reduceIte,reduceCtorEq,dt]) rfl rfl (by simp[o.Node.enc,Value.oneCell']) λai bz bA K aZ=>?_;refine eJ (i_ k (i_ c (i_ h (i_ m (i_ n (i_ p t)))))) ?_;refine S_ (c:=g.enc) aZ (Ext.refl _) rfl ?_;refine eJ (i_ k (i_ c (i_ h (i_ m (i_ n (i_ p t)))))) ?_;have aj:Mod (λd=>d=b) w ai:=V.trans K.mod;refine J_ (ayh f L M aF g B.heap.size b ai v X Y a (ag.ext K) (aY.ext K) AY
   (λq y z i r A ak x=>aI g a _ v ai ax aj (ag.ext K) ah q y z i r A ak x)
   (λs O P i r A ak q y z W x=>aK s O P _ i r A (aj.trans ak.mod) y ⟨_,q⟩ (by have:=UO q;simp[List.length_drop];omega) W x)) ?_
  rintro _ a0 ⟨rfl,aB,aC⟩;have a1:Mod (λd=>d=b) w a0:=aj.then aB λa3 al u=>by
   rcases u with u | u
   .exact u
   .have:=aw.size;omega
  refine eJ (i_ k (i_ c (i_ h (i_ m (i_ n (i_ p t)))))) ?_;apply I_<;>intro j;rotate_left
  .refine eJ (i_ k (i_ c (i_ h (i_ m (i_ n (i_ p t)))))) ?_;rw[ay j];exact⟨aV,a1⟩
  have an:=ayg j;have a5:∀l∈(o.stepG f g a).2,I l:=by
   have a7:=aH g a ax ah;clear ay az an aC;unfold o.stepG at j ⊢;by_cases q:en g.op<0
   .rw[if_pos q] at j;cases j
   by_cases y:(a.length:Int)<en g.op
   .rw[if_neg q,if_pos y] at j;cases j
   by_cases z:(f g a).2≠0
   .rw[if_neg q,if_neg y,if_pos z] at j;exact absurd j z
   by_cases W:(a.take (a.length - (en g.op).toNat)++[(f g a).1]).length > 12
   .rw[if_neg q,if_neg y,if_neg z,if_pos W] at j;cases j
   rw[if_neg q,if_neg y,if_neg z,if_neg W];intro l H;rcases List.mem_append.1 H with H | H
   .exact ah l (AJ8 H)
   .simp at H;subst H;exact a7 AY AY (by simpa using z)
  refine eJ (i_ k (i_ c (i_ h (i_ m (i_ n (i_ p t)))))) ?_;refine⟨G,aV,?_,(o.stepG f g a).2,?_,aC j,λ_=>an.1,an.2,a5⟩
  .refine(af.trans K.mod).then aB λa3 al u=>?_;rcases u with u | u
   .exact u
   .omega
  .rw[az];exact Prod.ext j rfl
 .have G:d=e.length:=AY
  subst G;rw[AG9] at U;obtain⟨bB,bC,aD⟩:=ag.ex;obtain⟨bD,bE,rfl,bG,bH⟩:=aD.form;have al:nF S _ a:=aT.im (enc:=nO) (sz:=1) (λ_=>rfl) aD;have c:=aU AY;obtain⟨aX,rfl⟩:=al.addr c;have aE:l7 f e=if a.length > 1 then (0,5) else (a.headD 0,0):=by
   rw[l7,if_neg AY,if_neg AY,U,if_neg Ah]
  rw[aE];clear aE;refine eJ (i_ k (i_ c (i_ h (i_ m (i_ n (i_ p t)))))) ?_;apply I_<;>intro j
  .refine aO ?_;rw[if_pos AY];exact⟨rfl,V⟩
  .refine eJ (i_ k (i_ c (i_ h (i_ m (i_ n (i_ p t)))))) ?_;refine M_ 0 rfl AY ?_;refine aO ?_;rw[if_neg AY]
   have:a.headD 0=a[0]:=by
    cases a with
    | nil=>simp at c
    | cons l a=>rfl
   rw[this];exact⟨aV,V⟩
theorem atf(b:pF)(x r:B_)(l:C_ Int)(w:A_)(i:nF w r l) :
  EL F.mW #[.agg #[.I b.parts,.I b.iU,.I b.makes,x],r] w λy j=>y = .tuple #[.I (nv b l).1,.I (nv b l).2]/\Ext w j:=by
 obtain⟨I,z,rfl,J⟩:=i.form;refine bn E.mW ?_;refine aO ?_;refine O_ λA K L s M=>?_;refine aO ?_;refine _j 10 l.length (λa B j=>j=A/\(l.take a).all (λa=>(decide (b.iU = -1)||decide (a=b.iU))&&decide (a=l.headD 0))=true) (by simp -dsimp only[c7,cD,Nat.reduceAdd,Nat.reduceEqDiff,reduceIte,reduceCtorEq,dt]) ⟨rfl,Ah⟩ ?_;rintro a B C c N k ⟨rfl,d⟩;have e:=c 1 rfl;have f:=c 2 rfl;have g:=c 8 rfl;have h:=c 9 rfl;simp only[bR,Nat.reduceAdd,Nat.reduceEqDiff,reduceIte,kF,ox] at e f g h;clear c;refine eJ (i_ e (i_ f (i_ g (i_ h k)))) ?_;apply I_<;>intro O;rotate_left
 .rw[IA AY] at d;refine eJ (i_ e (i_ f (i_ g (i_ h k)))) ?_;rw[nv,if_pos d];exact cd
 have t:a<l.length:=AY
 obtain⟨G,rfl⟩:=i.addr;have u:l.take (a+1)=l.take a++[l[a]]:=Oi t;have m:=AJ7 (xs:=l.take (a+1)) (ys:=l.drop (a+1)) (f:=λa=>(decide (b.iU = -1)||decide (a=b.iU))&&decide (a=l.headD 0));rw[AH6,u,AJ7] at m;have n:l.headD 0=l[0]:=by
  cases l with
  | nil=>simp at t
  | cons P l=>rfl
 have v:((decide (b.iU = -1)||decide (l[a]=b.iU))&&decide (l[a]=l.headD 0))=false->nv b l=(0,9):=by
  intro p;rw[nv,if_neg (by rw[m];simp only[List.all_cons,List.all_nil,p];simp)]
 have q:((decide (b.iU = -1)||decide (l[a]=b.iU))&&decide (l[a]=l.headD 0))=true->(l.take (a+1)).all (λa=>(decide (b.iU = -1)||decide (a=b.iU))&&decide (a=l.headD 0))=true:=by
  intro p;rw[u,AJ7,d];simp only[List.all_cons,List.all_nil,p];rfl
 rw[n] at v;clear m;have Q:0<l.length:=AY
 have S:nF C (.slice (some G) l.length z) l:=i.ext s;have U:=q;rw[n] at q d
 (repeat' first
 | (refine I_ (λ_=>?_) (λ_=>?_)<;>try (exfalso;omega))
 | (refine N_ (λ_=>?_) (λ_=>?_))
 | assumption
 | exact Ext.refl _
 | refine Ext.trans ?_ Aq
 | refine Q_ AY ?_
 | refine _G Aq ?_ rfl ?_
 | refine _C Aq ?_ rfl ?_
 | refine _L Aq ?_ AY rfl ?_
 | refine _R Aq ?_ AY rfl ?_
 | refine _S Aq ?_ AY rfl ?_
 | refine _T AY ?_
 | refine _M (by first | assumption | omega) ?_
 | refine _N (by first | assumption | omega) ?_
 | refine _E Aq ?_
 | refine _F Aq ?_
 | simp -dsimp only[c7,cD,Nat.reduceAdd,Nat.reduceEqDiff,reduceIte,reduceCtorEq,dt,e,f,g,h,k])
 all_goals first
  | (have H:=v (by simp;omega);rw[H];refine⟨aV,s⟩)
  | (refine⟨AY,aV,trivial,?_⟩;rw[n];exact q (by simp;omega))
def asZ(x:o.Node)(cs:C_ B_)(s:o.Scope)(base b c d:Nat)(w:A_)(m:B_)(st:C_ Int)(f:F_)(g:x.ok)(h:gn w cs s)(i:rT base b w m st)(j:x.op=3->0<st.length)
  (t:w.heap[c]? = some (.cells #[.pointer (some ⟨b,0,none⟩)] f))(k:w.heap[d]? = some (.cells cs.toArray T.t)) :
  EL F.KM #[.agg x.enc.toArray,.pointer (some ⟨c,0,none⟩),.pointer (some ⟨d,0,none⟩)] w λl n =>
   l = .tuple #[.I (hh x s (st.getLastD 0)).1,.I (hh x s (st.getLastD 0)).2]/\Ext w n:=by
 obtain⟨u,v,y,z,A,rfl,_⟩:=h.ex;refine bn E.KM ?_;refine aO ?_;refine O_ λe p B a q=>?_;have r:e.heap[p]? = some (.cells x.enc.toArray T.k):=q;refine aO ?_;refine S_ (c:=x.enc) r (Ext.refl _) rfl ?_;refine aO ?_;refine S_ k a rfl ?_;refine aO ?_;refine J_ (as5 x _ s base b e m st g (h.ext a) (i.ext a) j) ?_;rintro _ C ⟨rfl,G⟩;refine aO ?_;exact cd
def anI(s:o.Scope):O5 (gG s) nv λa b=>hh a s (b.getLastD 0):=λ_ _=>rfl
def aff(g:B_)(e:C_ o.Node)(cs:C_ B_)(s:o.Scope)(w:A_)(G:fJ w g e)(h:gn w cs s) :
  EL F.br #[g,.agg cs.toArray] w λi b=>i = .tuple #[.I (o.kind e s).1,.I (o.kind e s).2]/\Ext w b:=by
 obtain⟨ag,ah,ai,aj,ak,rfl,_⟩:=h.ex;refine bn E.br ?_;refine aO ?_;refine O_ λal t an u v=>?_;refine aO ?_;refine V_ (cs:=[.slice none 0 0,.map none]) (by simp[gv]) ?_;refine aO ?_;refine O_ λH j ao x y=>?_;refine aO ?_;refine O_ λaq k I z A=>?_;refine aO ?_;refine _i A Ae rfl λc B C=>?_;have J:c.heap[k]? = some (.cells #[.pointer (some ⟨j,0,none⟩)] T.kZ):=C;have l:Ext H c:=B.ext z I;have ar:=cf y;have au:=cf v;have m:Ext w c:=(u.trans x).trans l;clear C B z A;have K:=l.obj y;have L:=l.obj (x.obj v);have av:=u.size;refine aO ?_;refine J_ (ahO (gG s) nv (λd n=>hh d s (n.getLastD 0)) (anI s) (λ_=>True) j w c m AY g _ _ e G K (λ_ _ _ _ _ _ _=>trivial) ?_ ?_) ?_
 .intro d n base M b N hm O _ aw ax ay P Q S f a;refine W_ (first:=[]) (cap:=[.pointer (some ⟨k,0,none⟩),.pointer (some ⟨t,0,none⟩)]) Cl
   (asZ d _ s base j k t P M n _ N (h.ext ((hm.ext m (by intro U a e;omega)).trans f)) (O.ext f) ?_ (f.obj (hm.obj AY J)) (f.obj (hm.obj AY L))) λi p ⟨q,r⟩=>by subst q;exact a p r
  intro V
  have:en d.op=1:=by rw[V];rfl
  omega
 .rintro W az X Y b Q S hm ⟨Z,rfl,aB⟩ _ aC ab a;exact _u (first:=[]) (cap:=[]) Cl (atf W Z X Y b ab) λi p ⟨q,r⟩=>by subst q;exact a p r
 rintro _ ae ⟨rfl,af⟩;have aD:Ext w ae:=af.ext m (by intro U a e;omega);refine aO ?_;exact cd
end Go.Proofs.R
namespace o
open Go Go.RowKit ba
def Xm(v:B_):H_ (Var×Int)->Prop
 | some a=>v = .tuple #[.agg a.1.enc.toArray,.int .i64 a.2,.bool true]
 | none => ∃(b:Var) (c:Int),v = .tuple #[.agg b.enc.toArray,.int .i64 c,.bool false]
end o
namespace Go.Proofs.R
open Go Go.RowKit ba o
def aaS(a b:Int)(cs:C_ B_)(s:o.Scope)(w:A_)(h:gn w cs s) :
  EL F.Lb #[.I a,.I b,.agg cs.toArray] w λc d=>c = .tuple #[.I (lf a b s).1,.bool (lf a b s).2]/\Ext w d:=by
 obtain⟨e,f,g,bg,i,bj,j,k,l,m,rfl,n,p,q,r,t,u,v,x,y,z⟩:=h.form;refine bn E.Lb ?_;refine ad ?_;intro A b B C G;refine ad ?_
 (repeat' (refine aO ?_;first | (refine I_ (λ_=>?_) (λ_=>?_)<;>try (exfalso;omega)) | refine N_ (λ_=>?_) (λ_=>?_)))<;>try refine aO ?_
 all_goals
  refine⟨?_,fT⟩;unfold lf
  (repeat' split)<;>first | rfl | (exfalso;omega)
def aaY(v:B_)(l:C_ o.Var)(n:Int)(cs:C_ B_)(s:o.Scope)(w:A_)(g:j1 w v l)(h:gn w cs s) :
  EL F.FK #[v,.I n,.agg cs.toArray] w λv d=>Xm v (o.declared l n s)/\Ext w d:=by
 obtain⟨u,x,y,z,A,rfl,_⟩:=h.ex;obtain⟨B,C,rfl,G⟩:=g.form;refine bn E.FK ?_;refine ad ?_;intro H I J a K;refine ad ?_;intro L M N m i;have b:=a.trans m;refine ad ?_;apply I_<;>intro p
 .refine ad ?_;intro j e q;refine ad ?_;rw[o.declared,hv (.inl p)];exact⟨⟨(⟨⟨#[]⟩,0,0,0,0,0⟩:o.Var),0,rfl⟩,e.ext b (by have:=a.size;omega)⟩
 refine ad ?_;apply I_<;>intro O
 .refine ad ?_;intro j e q;refine ad ?_;rw[o.declared,hv (.inr AY)];exact⟨⟨(⟨⟨#[]⟩,0,0,0,0,0⟩:o.Var),0,rfl⟩,e.ext b (by have:=a.size;omega)⟩
 obtain⟨f,rfl⟩:=Uh (show 0<=n by omega);have P:f<l.length:=AY
 rw[o.declared,ik AY AY];simp only[Int.toNat_natCast];obtain⟨Q,rfl⟩:=g.addr;refine ad ?_;refine P_ _ (λd r=>aaS _ _ _ s d (h.ext (b.trans r))) ?_;refine ad ?_;intro j k;have i:=k.obj i;refine ad ?_;intro S t U;refine ad ?_;refine⟨?_,t.ext (b.trans k) (by have:=a.size;omega)⟩;by_cases c:(lf l[f].scalar l[f].over s).2=true
 .rw[if_pos c,c];rfl
 .rw[if_neg c,Bool.eq_false_iff.2 c];exact⟨_,_,rfl⟩
def alP(n:Int)(cs:C_ B_)(s:o.Scope)(w:A_)(h:gn w cs s) :
  EL F.bi #[.I n,.agg cs.toArray] w λd b=>d = .tuple #[.I ((o.channel n s).getD 0),.bool (o.channel n s).isSome]/\Ext w b:=by
 obtain⟨j,k,l,bg,m,bj,p,q,r,t,rfl,u,v,e,x,y,z,A,B,C,G⟩:=h.form;refine bn E.bi ?_;refine ad ?_;intro H I J f K;refine ad ?_;apply I_<;>intro g
 .refine ad ?_;rw[o.channel,hv (.inl g)];exact cd
 refine ad ?_;apply I_<;>intro L
 .refine ad ?_;rw[o.channel,hv (.inr AY)];exact cd
 obtain⟨c,rfl⟩:=Uh (show 0<=n by omega);have M:c<s.aA.length:=AY
 rw[o.channel,ik AY AY];simp only[Int.toNat_natCast];obtain⟨N,rfl⟩:=e.addr;refine ad ?_;refine P_ _ (λb i=>aaS _ _ _ s b (h.ext (f.trans i))) ?_;refine ad ?_;intro O P;refine ad ?_;refine⟨?_,fT⟩;by_cases a:(lf s.aA[c].scalar 0 s).2=true
 .rw[if_pos a,a];rfl
 .rw[if_neg a,Bool.eq_false_iff.2 a];rw[ayt (Bool.eq_false_iff.2 a)];rfl
def Qt(a:B_)(e:C_ o.Node)(k:Int)(cs:C_ B_)(s:o.Scope)(w:A_)(f:fJ w a e)(h:gn w cs s) :
  EL F.KW #[a,.I k,.agg cs.toArray] w λg i=>g = .I (o.asked e k s)/\Ext w i:=by
 obtain⟨l,m,n,p,q,rfl,_⟩:=h.ex;refine bn E.KW ?_;refine ad ?_;intro j r t b u;refine ad ?_;refine J_ (aff a e _ s j (f.ext b) (h.ext b)) ?_;rintro _ v ⟨rfl,x⟩;refine ad ?_;rw[o.asked];apply I_<;>intro c
 .rw[if_neg (by simpa using c)];refine ad ?_;apply I_<;>intro d
  .refine ad ?_;rw[if_neg (by simpa using d)];exact cd
  refine ad ?_;rw[if_pos d];exact cd
 refine ad ?_;rw[if_pos c];exact cd
def V7(a:o.Act)(c d:B_)(w:A_):EL F.gc #[.agg (a.enc c d).toArray] w λe f=>e = .bool (hU a)/\Ext w f:=by
 refine bn E.gc ?_;refine ad ?_;intro g h i j k;refine ad ?_;rw[hU];apply I_<;>intro b
 .refine ad ?_;refine⟨?_,fT⟩;congr 1;simp[b]
 refine ad ?_;refine⟨?_,fT⟩;congr 1;simp[b]
theorem awM(a:o.Act)(i j:B_)(k:Int)(cs:C_ B_)(s:o.Scope)(w:A_)(h:gn w cs s) :
  EL F.K6 #[.agg (a.enc i j).toArray,.I k,.agg cs.toArray] w λl m=>l = .I (Ez a k s)/\Ext w m:=by
 obtain⟨C,G,H,I,n,rfl,J,K,L,M,p,_⟩:=h.ex;refine bn E.K6 ?_;refine ad ?_;intro N O P q Q;refine ad ?_;intro r S U t V;have c:=q.trans t;refine ad ?_;refine J_ (aaY n s.locals a.loc _ s r (p.ext c) (h.ext c)) ?_;rintro d W ⟨b,X⟩;rw[Ez];cases e:o.declared s.locals a.loc s with
 | none =>
  rw[e] at b;obtain⟨u,v,rfl⟩:=b;refine ad ?_;intro x y z A B;refine ad ?_;exact cd
 | some d =>
  obtain⟨u,v⟩:=d;rw[e] at b;subst b;refine ad ?_;intro x y z A B;refine ad ?_;apply I_<;>intro f
  .refine ad ?_;apply I_<;>intro g
   .refine ad ?_;simp only[f,g,ne_eq,not_true_eq_false,or_self,if_false];exact cd
   refine ad ?_;simp only[g,ne_eq,not_false_eq_true,or_true,if_true];exact cd
  refine ad ?_;simp only[f,ne_eq,not_false_eq_true,true_or,if_true];exact cd
end Go.Proofs.R
namespace o
open Go Go.RowKit ba
def Ql{s:Scope}{l:C_ Act}{k:Nat}{t:Bool}(h:k<l.length) :
  mi s (l.drop k) k t=if hU l[k]&&t then (2+(k:Int),7) else if lo l[k] s≠0 then (2+(k:Int),lo l[k] s) else mi s (l.drop (k+1)) (k+1) (t||hU l[k]):=by
 rw[AG0 h];rfl
end o
namespace Go.Proofs.R
open Go Go.RowKit ba o
def Qg(k:Int)(a:o.Act)(e b:B_)(cs:C_ B_)(s:o.Scope)(w:A_)(c d:Nat)(j:w.heap[c]? = some (.cells (a.enc e b).toArray T.w))(l:w.heap[d]? = some (.cells cs.toArray T.t))
  (f:fJ w b a.value)(h:gn w cs s) :
  EL F.K5 #[.I k,.pointer (some ⟨c,0,none⟩),.pointer (some ⟨d,0,none⟩)] w λg i=>g = .I (o.asked a.value k s)/\Ext w i:=by
 obtain⟨m,n,p,q,r,rfl,_⟩:=h.ex;refine bn E.K5 ?_;refine ad ?_;refine J_ (Qt b a.value k _ s w f h) ?_;rintro _ t ⟨rfl,u⟩;refine ad ?_;exact cd
def aka(a:o.Act)(n q:B_)(cs:C_ B_)(s:o.Scope)(w:A_)(ah:fJ w n a.index)(H:fJ w q a.value)(h:gn w cs s) :
  EL F.KX #[.agg (a.enc n q).toArray,.agg cs.toArray] w λv g=>v = .I (lo a s)/\Ext w g:=by
 obtain⟨X,I,Y,Z,J,rfl,ay,ai,az,aB,aj,aC⟩:=h.ex;refine bn E.KX ?_;refine ad ?_;intro aD K aE ak b;refine ad ?_;intro r L aF ab c;have k:=ak.trans ab;have b:=ab.obj b;by_cases e:a.kind=1\/a.kind=2\/a.kind=3
 .rw[lo,if_pos e];generalize al:(if a.kind=3 then s.locals else s.vars)=C;have ae:∀M G,M=(if a.kind=3 then J else I)->EL F.FK #[M,.I G,.agg #[X,I,Y,Z,J,.I s.self]] r λv g=>Xm v (o.declared C G s)/\Ext r g:=by
   rintro M G rfl;refine aaY _ C G _ s r ?_ (h.ext k);rw[<-al];split
   .exact aj.ext k
   .exact ai.ext k
  by_cases t:a.kind=2
  .refine ad ?_;refine J_ (ae _ _ (by simp[t])) ?_;rintro x y ⟨i,d⟩;have b:=d.obj b;have c:=d.obj c;have l:=k.trans d;cases m:o.declared C a.to s with
   | none =>
    rw[m] at i;obtain⟨z,A,rfl⟩:=i;refine ad ?_;intro B N O j P;refine ad ?_;exact cd
   | some x =>
    obtain⟨z,A⟩:=x;rw[m] at i;subst i;have an:=ams m;simp only at an;refine ad ?_;intro B N O j P;have b:=j.obj b;have c:=j.obj c;have u:=l.trans j;refine ad ?_;refine _8 Cl ?_;refine ad ?_;by_cases f:z.over=0
    .refine _E (by simp[t,f]) ?_;refine ad ?_;exact⟨by simp[t,f],fT⟩
    refine _F (by simp[t,f]) ?_;refine ad ?_;refine J_ (Qt n a.index _ _ s B (ah.ext u) (h.ext u)) ?_;rintro _ ao ⟨rfl,Q⟩;have b:=Q.obj b;have c:=Q.obj c;have af:=u.trans Q;refine ad ?_;refine I_ (λS=>?_) (λS=>?_)
    .refine ad ?_;refine W_ (first:=[]) (cap:=[_,_]) Cl (Qg A a n q _ s ao K L b c (H.ext af) (h.ext af)) ?_;rintro _ U ⟨rfl,V⟩;refine ad ?_;exact⟨by simp[t,f,S],fT⟩
    .refine ad ?_;exact⟨by simp[t,f,S],fT⟩
  have aq:a.kind=1\/a.kind=3:=AY
  clear e;rcases aq with e | e
  all_goals
   refine ad ?_;refine J_ (ae _ _ (by simp[e])) ?_;rintro x y ⟨i,d⟩;have b:=d.obj b;have c:=d.obj c;have l:=k.trans d;cases m:o.declared C a.to s with
   | none =>
    rw[m] at i;obtain⟨z,A,rfl⟩:=i;refine ad ?_;intro B N O j P;refine ad ?_;exact cd
   | some x =>
    obtain⟨z,A⟩:=x;rw[m] at i;subst i;refine ad ?_;intro B N O j P;have b:=j.obj b;have c:=j.obj c;have u:=l.trans j;refine ad ?_;refine _8 Cl ?_;refine ad ?_;by_cases f:z.over=0
    .refine _F (by simp[e,f]) ?_;refine ad ?_;refine W_ (first:=[]) (cap:=[_,_]) Cl (Qg A a n q _ s B K L b c (H.ext u) (h.ext u)) ?_;rintro _ U ⟨rfl,V⟩;refine ad ?_;exact⟨by simp[e,f],fT⟩
    .refine _E (by simp[e,f]) ?_;refine ad ?_;exact⟨by simp[e,f],fT⟩
 by_cases p:a.kind=4\/a.kind=5
 .rw[lo,if_neg e,if_pos p];have ar:a.kind≠3:=AY
  have au:a.kind≠1:=AY
  have av:a.kind≠2:=AY
  have ag:∀(g:A_),Ext r g->EL F.bi #[.I a.to,.agg #[X,I,Y,Z,J,.I s.self]] g λv aw=>v = .tuple #[.I ((o.channel a.to s).getD 0),.bool (o.channel a.to s).isSome]/\Ext g aw :=
   λg ax=>alP a.to _ s g (h.ext (k.trans ax))
  rcases p with p | p
  .refine ad ?_;refine J_ (ag r (Ext.refl _)) ?_;rintro _ y ⟨rfl,d⟩;have b:=d.obj b;have c:=d.obj c;have l:=k.trans d;cases m:o.channel a.to s with
   | none =>
    simp only[Option.isSome_none,Option.getD_none];refine ad ?_;exact cd
   | some W =>
    simp only[Option.isSome_some,Option.getD_some];refine ad ?_;refine W_ (first:=[]) (cap:=[_,_]) Cl (Qg W a n q _ s y K L b c (H.ext l) (h.ext l)) ?_;rintro _ U ⟨rfl,V⟩;refine ad ?_;exact⟨by simp[p],fT⟩
  .refine ad ?_;refine J_ (ag r (Ext.refl _)) ?_;rintro _ y ⟨rfl,d⟩;have b:=d.obj b;have c:=d.obj c;have l:=k.trans d;cases m:o.channel a.to s with
   | none =>
    simp only[Option.isSome_none,Option.getD_none];refine ad ?_;exact cd
   | some W =>
    simp only[Option.isSome_some,Option.getD_some];refine ad ?_;refine J_ (awM a n q W _ s y (h.ext l)) ?_;rintro _ U ⟨rfl,V⟩;refine ad ?_;exact⟨by simp[p],fT⟩
 rw[lo,if_neg e,if_neg p];have ar:a.kind≠3:=AY
 have au:a.kind≠1:=AY
 have av:a.kind≠2:=AY
 have aG:a.kind≠4:=AY
 have aH:a.kind≠5:=AY
 refine ad ?_;exact cd
end Go.Proofs.R
namespace o
open Go
def aqu{c:ew}{n:Int}(h:head c n=0):isName c.name=true/\0<=c.from_/\c.from_<n/\0<=c.to/\c.to<n/\c.b6.length<=6:=by
 unfold head at h;by_cases a:isName c.name=false
 .rw[if_pos a] at h;cases h
 rw[if_neg a] at h;by_cases b:c.from_<0\/n<=c.from_\/c.to<0\/n<=c.to
 .rw[if_pos b] at h;cases h
 rw[if_neg b] at h;by_cases d:c.b6.length > 6
 .rw[if_pos d] at h;cases h
 exact⟨by simpa using a,AY,AY,AY,AY,AY⟩
end o
namespace o
open Go Go.RowKit ba
def aaI{l:C_ Act}{k:Nat}(h:k<l.length):comm (l.drop k)=if hU l[k] then (l[k].kind,l[k].to) else comm (l.drop (k+1)):=by
 rw[AG0 h];rfl
end o
namespace Go.Proofs.R
open Go Go.RowKit ba o
def ado(n:Int)(p:ed)(c d:B_)(w:A_)(b:Nat)(g:w.heap[b]? = some (.cells (p.enc c d).toArray T.af)) :
  EL F.K4 #[.I n,.pointer (some ⟨b,0,none⟩)] w λe f=>e = .bool (decide (n<0\/p.cb<=n))/\f=w:=by
 refine bn E.K4 ?_;refine ad ?_;apply I_<;>intro a
 .refine ad ?_;exact⟨by simp[a],aV⟩
 refine ad ?_;exact⟨by simp[a],aV⟩
def aqv(c:ew)(l h:B_)(p:ed)(e f:B_)(w:A_)(m:gi w)(n:kl c.name)(q:ob w h c.b6) :
  EL F.KV #[.agg (c.enc l h).toArray,.agg (p.enc e f).toArray] w λr s=>r = .I (o.head c p.cb)/\Ext w s:=by
 obtain⟨x,y,rfl,z⟩:=q.form;refine bn E.KV ?_;refine ad ?_;intro A B C t b;refine ad ?_;intro u i G j d;have k:=t.trans j;have b:=j.obj b;refine ad ?_;refine J_ (Oh c.name u (m.ext k) n) ?_;rintro _ v ⟨rfl,g⟩;have b:=g.obj b;have d:=g.obj d;have H:=k.trans g;rw[o.head];refine ad ?_;refine N_ (λa=>?_) (λa=>?_);rotate_left
 .refine ad ?_;exact⟨by simp[a],fT⟩
 refine ad ?_;refine W_ (first:=[]) (cap:=[_]) Cl (ado c.from_ p e f v i d) ?_;rintro _ _ ⟨rfl,rfl⟩;refine ad ?_;apply I_<;>intro I
 .refine ad ?_;refine⟨?_,fT⟩;rw[if_neg (by simp[a]),if_pos AY]
 refine ad ?_;refine W_ (first:=[]) (cap:=[_]) Cl (ado c.to p e f _ i d) ?_;rintro _ _ ⟨rfl,rfl⟩;refine ad ?_;apply I_<;>intro J
 .refine ad ?_;refine⟨?_,fT⟩;rw[if_neg (by simp[a]),if_pos AY]
 refine ad ?_;apply I_<;>intro K
 .refine ad ?_;refine⟨?_,fT⟩;rw[if_neg (by simp[a]),if_neg AY,if_pos AY]
 .refine ad ?_;refine⟨?_,fT⟩;rw[if_neg (by simp[a]),if_neg AY,if_neg AY]
def aaJ(c:ew)(i h:B_)(w:A_)(d:ob w h c.b6) :
  EL F.f4 #[.agg (c.enc i h).toArray] w λj e=>j = .tuple #[.I (o.comm c.b6).1,.I (o.comm c.b6).2]/\Ext w e:=by
 obtain⟨r,s,rfl,t⟩:=d.form;refine bn E.f4 ?_;refine ad ?_;intro u v x k y;refine ad ?_;refine K_ 9 c.b6.length [7,8] (λ_=>[]) () (λa _ e=>Ext w e/\o.comm c.b6=o.comm (c.b6.drop a)) aW aW ⟨k,Ah⟩ ?_;rintro a _ z A B ⟨l,b⟩;refine ad ?_;apply I_<;>intro C
 .have f:a<c.b6.length:=AY
  obtain⟨G,rfl⟩:=d.addr;obtain⟨H,I,m,n,p⟩:=d.at a f;obtain⟨_,_,rfl,_⟩:=n.form;obtain⟨_,_,rfl,_⟩:=p.form;rw[aaI f] at b;refine ad ?_
  try (refine Y_ (m.ext l) rfl ?_;refine ad ?_)
  intro q J K L M;refine ad ?_;refine J_ (V7 c.b6[a] _ _ q) ?_;rintro _ N ⟨rfl,O⟩;refine ad ?_;refine N_ (λg=>?_) (λg=>?_)
  .refine ad ?_;intro P Q;refine ad ?_;rw[b,if_pos g];exact cd
  refine ad ?_;rw[if_neg (by simp[g])] at b;exact⟨f,aV,(),by trivial,fT,b⟩
 .refine ad ?_;rw[b,VQ AY];exact cd
def al1(c:ew)(I J:B_)(p:ed)(K L:B_)(cs:C_ B_)(s:o.Scope)(w:A_)(Y:gi w)(Z:kl c.name)(M:fJ w I c.guard)(m:ob w J c.b6)
  (ab:j1 w K p.vars)(ae:sM w L p.cP)(h:gn w cs s) :
  EL F.KK #[.agg (c.enc I J).toArray,.agg (p.enc K L).toArray,.agg cs.toArray] w λaf e =>
   af = .tuple #[.I (jJ c p.cb s).1,.I (jJ c p.cb s).2]/\Ext w e:=by
 obtain⟨ar,au,av,bg,aw,bj,ax,ay,az,aB,rfl,_⟩:=h.form;obtain⟨aC,aD,rfl,aE⟩:=m.form;obtain⟨aF,aG,rfl,aH⟩:=M.form;obtain⟨_,_,rfl,_⟩:=ab.form;obtain⟨_,_,rfl,_⟩:=ae.form;refine bn E.KK ?_;refine ad ?_;intro aI aJ aK ag i;refine ad ?_;intro aL aP aQ N O;refine ad ?_;intro ah aR aS t d;have u:=(ag.trans N).trans t;have i:=(N.trans t).obj i;have O:=t.obj O;refine ad ?_;refine J_ (aqv c _ _ p _ _ ah (Y.ext u) Z (m.ext u)) ?_;rintro _ P ⟨rfl,v⟩;have i:=v.obj i;have d:=v.obj d;have x:=u.trans v;rw[jJ];refine ad ?_;apply I_<;>intro n;rotate_left
 .refine ad ?_;exact⟨by simp[n],fT⟩
 rw[if_neg (by simpa using n)];have aU:=(aqu n).2.2.2.2.2;refine eA ?_;refine R_ [3,4,5] (λ_=>[]) (λ(_:Unit) e=>Ext P e/\¬(c.guard.length > 0/\o.asked c.guard 1 s≠0)) ?_ ?_
 .refine ad ?_;apply I_<;>intro f
  .refine ad ?_;refine J_ (Qt _ c.guard 1 _ s P (M.ext x) (h.ext x)) ?_;rintro _ Q ⟨rfl,q⟩;refine ad ?_;apply I_<;>intro a
   .refine ad ?_;exact⟨(),trivial,fT,λS=>S.2 a⟩
   .refine ad ?_;rw[if_pos ⟨AY,a⟩];exact cd
  .refine ad ?_;exact⟨(),trivial,fT,λS=>f AY⟩
 rintro _ y Q ⟨q,ai⟩;have i:=q.obj i;have d:=q.obj d;have aj:=x.trans q;rw[if_neg ai];refine ad ?_;refine K_ 34 c.b6.length [3,4,5,32,33] (λj=>[(10,.bool j)]) false (λb j e=>Ext Q e/\mi s c.b6 0 false=mi s (c.b6.drop b) b j) aW aW ⟨Ext.refl _,Ah⟩ ?_;rintro b j y aX aY ⟨z,g⟩;have ak:=aj.trans z;refine ad ?_;apply I_<;>intro n
 .have A:b<c.b6.length:=AY
  obtain⟨aZ,rfl⟩:=m.addr;obtain⟨a0,a1,a3,U,V⟩:=m.at b A;obtain⟨_,_,rfl,_⟩:=U.form;obtain⟨_,_,rfl,_⟩:=V.form;rw[Ql A] at g;refine ad ?_;intro a5 a7 al an a8;refine eA ?_;intro W ao r;have B:=ao.ext an al;have aq:=ak.trans B;have d:=(z.trans B).obj d;refine eA ?_;refine R_ [3,5,10,11,12,32,33,34] (λ_=>[]) (λ(_:Unit) e=>Ext W e/\¬(hU c.b6[b]&&j)=true) ?_ ?_
  .refine ad ?_;refine J_ (V7 c.b6[b] _ _ W) ?_;rintro _ C ⟨rfl,k⟩;refine ad ?_;refine N_ (λf=>?_) (λf=>?_)
   .refine ad ?_;refine N_ (λa=>?_) (λa=>?_)
    .refine ad ?_;rw[g,if_pos (by simp[f,a])];exact cd
    .refine ad ?_;exact⟨(),trivial,fT,by simp[a]⟩
   .refine ad ?_;exact⟨(),trivial,fT,by simp[f]⟩
  rintro _ y C ⟨k,f⟩;rw[if_neg f] at g;have r:=k.obj r;have d:=k.obj d;refine eA ?_;refine R_ [3,5,11,12,32,33,34] (λG=>[(10,.bool G)]) (λG e=>Ext C e/\G=(j||hU c.b6[b])) ?_ ?_
  .refine ad ?_;refine N_ (λa=>?_) (λa=>?_)
   .refine ad ?_;exact⟨true,aW,fT,by simp[a]⟩
   .refine ad ?_;refine J_ (V7 c.b6[b] _ _ C) ?_;rintro _ X ⟨rfl,l⟩;refine ad ?_;exact⟨hU c.b6[b],aW,fT,by simp[a]⟩
  rintro _ y X ⟨l,rfl⟩;have r:=l.obj r;have d:=l.obj d;have H:=(aq.trans k).trans l;have a9:=((z.trans B).trans k).trans l;refine ad ?_;refine J_ (aka c.b6[b] _ _ _ s X (U.ext H) (V.ext H) (h.ext H)) ?_;rintro _ bb ⟨rfl,bf⟩;refine ad ?_;apply I_<;>intro a
  .refine ad ?_;rw[if_neg (by simpa using a)] at g;exact⟨A,aV,_,aW,fT,g⟩
  .refine ad ?_;rw[g,if_pos a];exact cd
 .refine ad ?_;rw[g,VQ AY];exact cd
def ai6(c:ew)(b d dN:B_)(l:C_ eb)(w:A_)(e:ob w d c.b6)(f:oc w dN l) :
  EL F.ku #[.agg (c.enc b d).toArray,dN] w λh i=>h = .I (o.ways c l)/\Ext w i:=by
 obtain⟨n,p,rfl,q⟩:=f.form;obtain⟨r,s,rfl,t⟩:=e.form;refine bn E.ku ?_;refine ad ?_;intro j u v k x;refine ad ?_;refine J_ (aaJ c b _ j (e.ext k)) ?_;rintro _ y ⟨rfl,z⟩;rw[o.ways];refine ad ?_;apply I_<;>intro g;rotate_left
 .refine ad ?_;exact⟨by simp[g],fT⟩
 rw[if_pos g];refine ad ?_;apply I_<;>intro A;rotate_left
 .refine ad ?_;rw[hv (.inl AY)];exact cd
 refine ad ?_;apply I_<;>intro B;rotate_left
 .refine ad ?_;rw[hv (.inr AY)];exact cd
 rw[ik AY AY];obtain⟨C,rfl⟩:=f.addr;have m:(o.comm c.b6).2.toNat<l.length:=AY
 refine ad ?_;refine M_ (o.comm c.b6).2.toNat AY m ?_;refine ad ?_;refine N_ (λa=>?_) (λa=>?_)
 .refine ad ?_;exact⟨by simp[a],fT⟩
 .refine ad ?_;exact⟨by simp[a],fT⟩
end Go.Proofs.R
namespace o
def afJ{s:Scope}{l:C_ Var}{k:Nat}(h:k<l.length):rE s (l.drop k) k=if l[k].over≠0 then ((k:Int),9) else if s.vars.any (λa=>decide (a.name=l[k].name)) then ((k:Int),7) else rE s (l.drop (k+1)) (k+1):=by
 rw[AG0 h];rfl
def aaG{a:Scope}{b:Int}{c l:C_ ew}{k:Nat}(h:k<l.length):mR a b c (l.drop k) k=if (jJ l[k] b a).2≠0 then (2+(k:Int),(jJ l[k] b a).1,(jJ l[k] b a).2)
  else if (c.take k).any (λd=>decide (d.name=l[k].name)) then (2+(k:Int),0,7) else mR a b c (l.drop (k+1)) (k+1):=by
 rw[AG0 h];rfl
end o
namespace Go.Proofs.R
open Go Go.RowKit ba o
def azj(p:ed)(i j:H_ Addr)(k l m:Nat)(cs:C_ B_)(s:o.Scope)(w:A_)(n:gi w)(q:kl p.name)(h:gn w cs s) :
  EL F.KI #[.agg (p.enc (.slice i k l) (.slice j p.cP.length m)).toArray,.agg cs.toArray] w λr b=>r = .I (o.whole p s)/\Ext w b:=by
 obtain⟨y,z,A,bg,B,bj,C,G,H,I,rfl,J,K,L,M,N,O,P,Q,S,U⟩:=h.form;refine bn E.KI ?_;refine ad ?_;intro V W X t c;refine ad ?_;intro e Y Z f g;have dh:∀{b},Ext e b->Ext w b:=λu=>(t.trans f).trans u;have c:=f.obj c;refine ad ?_;refine J_ (Oh p.name e (n.ext (dh (Ext.refl _))) q) ?_;rintro _ ab ⟨rfl,a⟩;have c:=a.obj c;have g:=a.obj g;rw[o.whole];refine ad ?_;refine N_ (λd=>?_) (λd=>?_);rotate_left
 .refine ad ?_;exact⟨by rw[if_pos d],dh a⟩
 rw[if_neg (by simp[d])];refine ad ?_;apply I_<;>intro v
 .refine ad ?_;exact⟨by rw[if_pos (.inl v)],dh a⟩
 refine ad ?_;apply I_<;>intro ae
 .refine ad ?_;exact⟨by rw[if_pos (.inr AY)],dh a⟩
 rw[if_neg AY];refine ad ?_;apply I_<;>intro x
 .refine ad ?_;exact⟨by rw[if_pos (.inl x)],dh a⟩
 refine ad ?_;apply I_<;>intro af
 .refine ad ?_;exact⟨by rw[if_pos (.inr AY)],dh a⟩
 rw[if_neg AY];refine ad ?_;apply I_<;>intro ag
 .refine ad ?_;exact⟨by rw[if_pos AY],dh a⟩
 refine ad ?_;exact⟨by rw[if_neg AY],dh a⟩
def atS(x v:o.Var)(b:Nat)(w:A_)(d:w.heap[b]? = some (.cells v.enc.toArray T.j)) :
  EL F.FJ #[.agg x.enc.toArray,.pointer (some ⟨b,0,none⟩)] w λa c=>a = .bool (decide (x.name=v.name))/\Ext w c:=by
 refine bn E.FJ ?_;refine ad ?_;intro e f g h i;refine ad ?_;exact cd
def alZ(x c:ew)(a d e f:H_ Addr)(g h i j bg bj k l:Nat)(b:Nat)(w:A_)(p:w.heap[b]? = some (.cells (c.enc (.slice e i k) (.slice f j l)).toArray T.q)) :
  EL F.C6 #[.agg (x.enc (.slice a g bg) (.slice d h bj)).toArray,.pointer (some ⟨b,0,none⟩)] w λm n=>m = .bool (decide (x.name=c.name))/\Ext w n:=by
 refine bn E.C6 ?_;refine ad ?_;intro q r s t u;refine ad ?_;exact cd
def atT(p:ed)(l z:H_ Addr)(m A B:Nat)(cs:C_ B_)(s:o.Scope)(w:A_)(C:gi w)(c:j1 w (.slice l p.vars.length m) p.vars)(h:gn w cs s) :
  EL F.xj #[.agg (p.enc (.slice l p.vars.length m) (.slice z A B)).toArray,.agg cs.toArray] w λG a=>G = .tuple #[.I (mB p s).1,.I (mB p s).2]/\Ext w a:=by
 obtain⟨S,U,V,bg,W,bj,X,Y,Z,ab,rfl,H,I,ae,af,ag,ah,ai,aj,ak,al⟩:=h.form;have an:p.vars.length<=9223372036854775807:=by have:=(a6.len c).2;unfold maxLen at this;omega
 refine bn E.xj ?_;refine ad ?_;intro ao aq ar J g;refine ad ?_;intro n au av q r;have dh:∀{a},Ext n a->Ext w a:=λd=>(J.trans q).trans d;have g:=q.obj g;refine ad ?_;refine J_ (ai3 _ _ p.vars s.scalars 4 n (C.ext (dh (Ext.refl _))) (c.ext (dh (Ext.refl _))) (H.ext (dh (Ext.refl _)))) ?_;rintro _ t ⟨rfl,i⟩;have g:=i.obj g;have r:=i.obj r;rw[mB];refine ad ?_;apply I_<;>intro u;rotate_left
 .refine ad ?_;exact⟨by rw[if_pos u],dh i⟩
 rw[if_neg (by simpa using u)];have hb:∀{a},Ext t a->Ext w a:=λd=>dh (i.trans d);refine ad ?_;refine K_ 25 p.vars.length [3,23,24] (λ_=>[]) () (λe _ a=>Ext t a/\rE s p.vars 0=rE s (p.vars.drop e) e) aW aW ⟨Ext.refl _,Ah⟩ ?_;rintro e _ aw ax ay ⟨f,b⟩;refine ad ?_;apply I_<;>intro az
 .have v:e<p.vars.length:=AY
  obtain⟨aB,rfl⟩:=c.addr;replace c:=c.ext (hb (Ext.refl _));rw[afJ v] at b;refine ad ?_;intro aC K L M aD;refine ad ?_;intro N O P;have j:=O.ext M L;refine ad ?_;apply I_<;>intro x;rotate_left
  .refine ad ?_;exact⟨by rw[b,if_pos x],hb (f.trans j)⟩
  rw[if_neg (by simpa using x)] at b;refine ad ?_;refine J_ (aaQ kv E.az E.ab _ s.vars N (I.ext (hb (f.trans j))) F.FJ Cl [] [_] (λQ=>decide (Q.name=p.vars[e].name)) ?_) ?_
  .rintro aE aF aG a d ⟨rfl,_⟩;exact atS _ _ K a (d.obj P)
  rintro _ aH ⟨rfl,y⟩;refine ad ?_;refine N_ (λk=>?_) (λk=>?_)
  .refine ad ?_;exact⟨by rw[b,if_pos k],hb ((f.trans j).trans y)⟩
  .refine ad ?_;exact⟨v,aV,(),trivial,(f.trans j).trans y,by rw[b,if_neg (by simp[k])]⟩
 .refine ad ?_;exact⟨by rw[b,VQ AY];rfl,hb f⟩
def avE(p:ed)(y cs:C_ B_)(s:o.Scope)(w:A_)(n:gi w)(W:yP w y p)(h:gn w cs s)(z:s.cB)(q:p.cB) :
  EL F.s5 #[.agg y.toArray,.agg cs.toArray] w λX a=>X = .tuple #[.I (iB p s).1,.I (iB p s).2.1,.I (iB p s).2.2]/\Ext w a:=by
 obtain⟨Y,Z,ab,bg,ae,bj,af,ag,aE,aF,rfl,ah,ai,aj,ak,aG,aH,aI,aJ,aK,aL⟩:=h.form;obtain⟨al,aP,aQ,rfl,i,e⟩:=W;obtain⟨an,ao,rfl,aR⟩:=i.form;obtain⟨aS,aU,rfl,aX⟩:=e.form;have aY:p.cP.length<=140737488351232:=by have:=q.cP;unfold eO at this;omega
 refine bn E.s5 ?_;refine ad ?_;intro aZ a0 a1 aq c;refine ad ?_;intro A a3 a5 B j;have dh:∀{a},Ext A a->Ext w a:=λb=>(aq.trans B).trans b;replace c:=B.obj c;refine ad ?_;refine J_ (azj p _ _ _ _ _ _ s A (n.ext (dh (Ext.refl _))) al (h.ext (dh (Ext.refl _)))) ?_;rintro _ C ⟨rfl,r⟩;replace c:=r.obj c;replace j:=r.obj j;have hb:∀{a},Ext C a->Ext w a:=λb=>dh (r.trans b);rw[iB];refine ad ?_;apply I_<;>intro G;rotate_left
 .refine ad ?_;exact⟨by rw[if_pos G],hb (Ext.refl _)⟩
 rw[if_neg (by simpa using G)];refine ad ?_;refine J_ (atT p _ _ _ _ _ _ s C (n.ext (hb (Ext.refl _))) (i.ext (hb (Ext.refl _))) (h.ext (hb (Ext.refl _)))) ?_;rintro _ H ⟨rfl,t⟩;replace c:=t.obj c;replace j:=t.obj j;have dT:∀{a},Ext H a->Ext w a:=λb=>hb (t.trans b);refine ad ?_;apply I_<;>intro I;rotate_left
 .refine ad ?_;exact⟨by rw[if_pos I],dT (Ext.refl _)⟩
 rw[if_neg (by simpa using I)];refine ad ?_;refine J_ (aeS p _ _ _ _ _ _ _ _ _ _ _ _ _ _ _ _ _ _ _ _ _ _ H) ?_;rintro _ ar ⟨rfl,J⟩;replace c:=J.obj c;have hA:∀{a},Ext ar a->Ext w a:=λb=>dT (J.trans b);refine ad ?_;intro K a7 a8 L k;replace c:=L.obj c;have ko:∀{a},Ext K a->Ext w a:=λb=>hA (L.trans b);have au:∀a,Ext w a->gn a [.slice Y s.scalars.length Z,.slice ab s.vars.length bg,.slice ae s.aA.length bj,.slice af s.procs.length ag,.slice an p.vars.length ao,.I p.over] (o.inner p s):=λa b =>
  ⟨(z.inner q).sF.1,_,_,_,_,_,rfl,ah.ext b,ai.ext b,aj.ext b,ak.ext b,i.ext b,(z.inner q).sF.2⟩
 refine ad ?_;refine K_ 37 p.cP.length [2,10,35,36] (λ_=>[]) () (λd _ a=>Ext K a/\mR (o.inner p s) p.cb p.cP p.cP 0=mR (o.inner p s) p.cb p.cP (p.cP.drop d) d) aW aW ⟨Ext.refl _,Ah⟩ ?_;rintro d _ a9 bb bf ⟨g,f⟩;replace c:=g.obj c;replace k:=g.obj k;refine ad ?_;apply I_<;>intro bk
 .have u:d<p.cP.length:=AY
  obtain⟨bl,rfl⟩:=e.addr;obtain⟨av,bo,bp,M,N,O⟩:=e.at d u;obtain⟨bq,bt,rfl,bu⟩:=N.form;obtain⟨bw,bx,rfl,bz⟩:=O.form;rw[aaG u] at f;replace M:=M.ext (ko (Ext.refl _));refine ad ?_;intro bA aw ax P ay;refine ad ?_;intro Q az v;have l:=az.ext P ax;replace c:=l.obj c;replace k:=l.obj k;have iV:∀{a},Ext Q a->Ext w a:=λb=>ko ((g.trans l).trans b);clear ay P;refine ad ?_;refine J_ (al1 p.cP[d] _ _ p _ _ _ (o.inner p s) Q (n.ext (iV (Ext.refl _))) av (N.ext (iV (Ext.refl _))) (O.ext (iV (Ext.refl _))) (i.ext (iV (Ext.refl _))) (e.ext (iV (Ext.refl _))) (au _ (iV (Ext.refl _)))) ?_;rintro _ S ⟨rfl,m⟩;replace c:=m.obj c;replace v:=m.obj v;have iW:∀{a},Ext S a->Ext w a:=λb=>iV (m.trans b);refine ad ?_;apply I_<;>intro U;rotate_left
  .refine ad ?_;exact⟨by rw[f,if_pos U],iW (Ext.refl _)⟩
  rw[if_neg (by simpa using U)] at f;have bB:=(a6.len e).2.1;refine ad ?_;refine _k (k:=.i64) d (by rfl) AY ?_;refine ad ?_;refine J_ (aaQ kv E.hm E.he _ (p.cP.take d) S ((e.head d AY).ext AE.ext (iW (Ext.refl _))) F.C6 Cl [] [_] (λaB=>decide (aB.name=p.cP[d].name)) ?_) ?_
  .rintro bC bD bE a b ⟨_,bG,bH,rfl,aC,aD⟩;obtain⟨_,_,rfl,_⟩:=aC.form;obtain⟨_,_,rfl,_⟩:=aD.form;exact alZ _ _ _ _ _ _ _ _ _ _ _ _ _ _ aw a (b.obj v)
  rintro _ bI ⟨rfl,V⟩;refine ad ?_;refine N_ (λx=>?_) (λx=>?_)
  .refine ad ?_;exact⟨by rw[f,if_pos x],iW V⟩
  .refine ad ?_;exact⟨u,aV,(),trivial,((g.trans l).trans m).trans V,by rw[f,if_neg (by simp[x])]⟩
 .refine ad ?_;exact⟨by rw[f,VQ AY];rfl,ko g⟩
end Go.Proofs.R
namespace ba
open Go Go.RowKit
def a6.Qy{α:Type}{R:A_->Addr->α->Prop}{C:A_->C_ B_->α->Prop}{sz:Nat}[Rel R C sz]{w:A_}{b n:Nat}{e:F_}{cells:C_ B_}{xs:C_ α}(a:C_ (hz sz))(d:w.heap[b]? = some (.cells cells.toArray e))(f:cells=a.flatMap kE)
  (g:a.length=xs.length)(j:n=xs.length)(k:xs.length<=maxLen)(h:∀c (l:c<a.length) (m:c<xs.length),C w a[c].1 xs[c]):a6 sz R w (.slice (some ⟨b,0,none⟩) n n) xs:=by
 subst f;exact a6.B9 g (a6.b0 (enc:=kE) iZ d AY AY λ_ _ _ i=>i) h
end ba
namespace o
open Go
def BO{n:Int}(h : -1000<=n/\n<=1000):ev n:=by unfold ev;omega
theorem EV(a b:Int)(s:Scope):(lf a b s).2=((h0 a s).2&&(h0 b s).2)/\((lf a b s).2=true->(lf a b s).1=(if a=0 then 0 else 1+a)):=by
 unfold lf h0;constructor
 ·(repeat' split)<;>first | rfl | (exfalso;omega)
 .intro c
  (repeat' split)<;>first | rfl | (exfalso;omega) | simp_all
theorem aaX{l:C_ Var}{n:Int}{s:Scope}(h:(fQ l n s).2.2=false):declared l n s=none:=by
 unfold declared;unfold fQ at h;cases a:nth l n with
 | none=>rfl
 | some b =>
  rw[a] at h;simp only at h ⊢;rw[if_neg];rw[(EV _ _ _).1,h];simp
def aaZ{l:C_ Var}{n:Int}{s:Scope}{x:Var}(h:(fQ l n s).2.2=true)(b:nth l n=some x):declared l n s=some (x,if x.scalar=0 then 0 else 1+x.scalar)/\0<=x.scalar/\x.scalar<=s.scalars.length/\0<=x.over/\x.over<=s.scalars.length:=by
 unfold fQ at h;rw[b] at h;simp only at h;have a:(lf x.scalar x.over s).2=true:=by rw[(EV _ _ _).1];exact h
 refine⟨?_,?_⟩
 .unfold declared;rw[b];simp only;rw[if_pos a,(EV _ _ _).2 a]
 .unfold lf at a;split at a
  .cases a
  .omega
theorem alO{n:Int}{s:Scope}(h:¬(kO n s).2=0):channel n s=none:=by
 unfold channel;unfold kO at h;cases b:nth s.aA n with
 | none=>rfl
 | some c =>
  rw[b] at h;simp only at h ⊢;rw[if_neg];intro a;rw[(EV _ _ _).1] at a;simp only[Bool.and_eq_true] at a;rw[if_pos a.1] at h;exact h rfl
def alQ{n:Int}{s:Scope}{c:eb}(h:(kO n s).2=0)(b:nth s.aA n=some c):channel n s=some (if c.scalar=0 then 0 else 1+c.scalar)/\0<=c.scalar/\c.scalar<=s.scalars.length:=by
 unfold kO at h;rw[b] at h;simp only at h;have d:(h0 c.scalar s).2=true:=by
  cases e:(h0 c.scalar s).2 with
  | true=>rfl
  | false=>rw[e] at h;simp at h
 have a:(lf c.scalar 0 s).2=true:=by rw[(EV _ _ _).1,d];simp[h0]
 refine⟨?_,?_⟩
 .unfold channel;rw[b];simp only;rw[if_pos a,(EV _ _ _).2 a]
 .unfold lf at a;split at a
  .cases a
  .omega
def mA(l:C_ Var)(n:Int)(s:Scope):Int×Int:=match declared l n s with | none=>(0,8) | some (a,b)=>if a.over≠0 then (0,9) else (b,0)
def BS(a:Act)(s:Scope):Int:=match declared s.vars a.to s with | none=>8 | some (b,c)=>if b.over=0 then 9 else if asked a.index (1+b.over) s≠0 then asked a.index (1+b.over) s else asked a.value c s
def mD(a:Act)(s:Scope)(comm:Bool):Int :=
 if a.kind<1\/5<a.kind then 3
 else if a.kind=2 then BS a s
 else if a.kind=1\/a.kind=3 then (if (mA (if a.kind=3 then s.locals else s.vars) a.to s).2≠0 then (mA (if a.kind=3 then s.locals else s.vars) a.to s).2 else asked a.value (mA (if a.kind=3 then s.locals else s.vars) a.to s).1 s)
 else if comm=true then 7
 else match channel a.to s with
  | none=>8
  | some b=>if a.kind=4 then asked a.value b s else if (mA s.locals a.loc s).2≠0 then (mA s.locals a.loc s).2 else if (mA s.locals a.loc s).1≠b then 9 else 0
def awA(a:Act)(s:Scope)(comm:Bool):mD a s comm=if hU a&&comm then 7 else lo a s:=by
 by_cases g:a.kind<1\/5<a.kind
 .have c:hU a=false:=by unfold hU;rw[decide_eq_false_iff_not];omega
  unfold mD lo;rw[if_pos g,c,if_neg (by omega:¬(a.kind=1\/a.kind=2\/a.kind=3)),if_neg (by omega:¬(a.kind=4\/a.kind=5))];simp
 by_cases d:a.kind=2
 .have c:hU a=false:=by unfold hU;rw[decide_eq_false_iff_not];omega
  unfold mD lo;rw[if_neg g,if_pos d,c,if_pos (by omega:a.kind=1\/a.kind=2\/a.kind=3)];simp only[Bool.false_and,Bool.false_eq_true,if_false];rw[if_neg (by omega:¬a.kind=3)];unfold BS;cases h:declared s.vars a.to s with
  | none=>rfl
  | some e =>
   obtain⟨f,i⟩:=e;simp only[d,true_and];by_cases b:f.over=0
   .simp[b]
   .simp[b]
 by_cases j:a.kind=1\/a.kind=3
 .have c:hU a=false:=by unfold hU;rw[decide_eq_false_iff_not];omega
  unfold mD lo;rw[if_neg g,if_neg d,if_pos j,c,if_pos (by omega:a.kind=1\/a.kind=2\/a.kind=3)];simp only[Bool.false_and,Bool.false_eq_true,if_false];unfold mA;cases h:declared (if a.kind=3 then s.locals else s.vars) a.to s with
  | none=>simp
  | some e =>
   obtain⟨f,i⟩:=e;simp only[d,false_and,if_false];by_cases b:f.over=0
   .simp[b]
   .simp[b]
 .have l:a.kind=4\/a.kind=5:=AY
  have c:hU a=true:=by unfold hU;rw[decide_eq_true_eq];omega
  unfold mD lo;rw[if_neg g,if_neg d,if_neg j,c,if_neg (by omega:¬(a.kind=1\/a.kind=2\/a.kind=3)),if_pos l];simp only[Bool.true_and];cases comm with
  | true=>simp
  | false =>
   simp only[Bool.false_eq_true,if_false];cases m:channel a.to s with
   | none=>rfl
   | some i =>
    simp only;by_cases k:a.kind=4
    .rw[if_pos k,if_neg (by omega:¬a.kind=5)]
    .rw[if_neg k,if_pos (by omega:a.kind=5)];unfold mA Ez;cases h:declared s.locals a.loc s with
     | none=>simp
     | some e =>
      obtain⟨f,n⟩:=e;simp only;by_cases b:f.over=0
      .simp[b]
      .simp[b]
end o
namespace Go.Proofs.R
open Go Go.RowKit ba o
def aiy(op:Int)(w:A_):EL F.MW #[.I op] w λb c=>b = .I (en op)/\c=w:=by
 have d:∀a:Int,(if op=3 then (1:Int) else if 1<=op/\op<=8 then 0 else if op=9\/op=10 then 1 else if 11<=op/\op<=19 then 2 else -1)=a->en op=a:=λ_ e=>e;refine bn E.MW ?_
 (repeat' (refine aO ?_;first | (refine I_ (λ_=>?_) (λ_=>?_)<;>try (exfalso;omega)) | refine N_ (λ_=>?_) (λ_=>?_)))<;>try refine aO ?_
 all_goals
  refine⟨?_,aV⟩;congr 1;refine(d _ ?_).symm
  (repeat' split)<;>first | rfl | (exfalso;omega)
def Oj{x:Int}(h:en x=0):1<=x/\x<=8/\x≠3/\gY x=none:=by
 have a:1<=x/\x<=8/\x≠3:=by unfold en at h; (repeat' split at h)<;>omega
 exact⟨a.1,a.2.1,a.2.2,agi (by simp[BR];omega)⟩
def af7{x:Int}(h:en x=1):x=3\/x=9\/x=10:=by unfold en at h; (repeat' split at h)<;>omega
def Ok{x:Int}(h:en x=2):11<=x/\x<=19:=by unfold en at h; (repeat' split at h)<;>omega
theorem agj{x:Int}(h:9<=x/\x<=19):∃a,gY x=some a/\a.parts=en x:=by
 cases b:gY x with
 | some a=>exact⟨a,rfl,(Ca b).1⟩
 | none =>
  exfalso;unfold gY at b
  (repeat' split at b)
  all_goals first | (cases b;done) | omega
theorem Q4{st:C_ Int}(h:1<=st.length):st.drop (st.length - 1)=[st[st.length - 1]]:=by
 rw[AG0 AY,VQ AY]
theorem aa1{st:C_ Int}(h:2<=st.length):st.drop (st.length - 2)=[st[st.length - 2],st[st.length - 1]]:=by
 rw[AG0 AY];have a:st.length - 2+1=st.length - 1:=AY
 congr 1;rw[a];exact Q4 AY
def Kp:∀a,∀b∈nO a,b.oneCell'=true:=λa b c=>by simp[nO] at c;subst c;rfl
end Go.Proofs.R