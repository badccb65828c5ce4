/- Parts. -/
import Derived.Test.YtlhljkikdhblbaaGreatDoorQsgl
set_option linter.all false
set_option maxRecDepth 4000
set_option maxHeartbeats 3200000
namespace Go.Proofs.R
open Go Go.RowKit a8 o
def awc(cs ys:C_ B_)(v:B_)(m:o.Model)(s:C_ Int)(p:Nat)(w:A_)(h:eu w cs m)(X:m.cS)(y:gm m)(Y:nf w ys (o.layout m))(z:cH w v s)(G:o.Fits m s)(H:p<m.procs.length) :
  EG F.Nq #[.agg cs.toArray,.agg ys.toArray,v,.I p] w λZ I=>aR da T.a 1 w.heap.size I Z (ka m s p m.procs[p].cb (o.insts m).length)/\Ext w I:=by
 have ab:=h;obtain⟨aI,aJ,aK,bg,aM,bj,aP,aQ,aS,aT,rfl,aU,aW,aX,J,aY,a0,a2,a5,a6,a7⟩:=h.form;obtain⟨a9,ba,bb,bf,bk,bn,bo,bp,br,bt,rfl,bu,bw,K,bx,bz,bA,bB,bC,bE⟩:=Y.form;obtain⟨bF,bG,rfl,bH⟩:=z.form;have ae:=G.len;have bI:cG m<=64:=iq y;have bJ:(o.insts m).length<=30:=by have:=tz m;have:=y.procs;omega
 have af:=y.proc _ (ID H);have bK:=af.cb;obtain⟨bL,bM,bN⟩:=uR m;obtain⟨L,rfl⟩:=J.addr;obtain⟨bO,bP,dI,r,bR,bV⟩:=J.at p H;refine bm E.Nq ?_;refine aa ?_;intro bW bX bY ag j;refine aa ?_;intro ah A bZ M e;replace j:=M.obj j;have k:=ag.trans M;replace r:=r.ext k;unfold ee.enc at r;refine aa ?_;refine _Z m.procs[p].cb.toNat AW AW ?_;intro ai f aj t b;rw[<-ZH m s p] at b;replace j:=t.obj j;replace e:=t.obj e;have ak:=k.trans t;have b0:=k.size;clear r;refine aa ?_;refine J_ (Ev _ m ai (ab.ext ak) X) ?_;rintro b1 g ⟨N,B⟩;obtain⟨al,an,rfl,_⟩:=N.form;replace e:=B.obj e;replace b:=B.obj b;have ao:f≠A:=by
  intro u;subst u;rw[e] at b;injection b with b;injection b with _ b;revert b;decide
 have aq:∀{c},Mod (λa=>a=f) g c->eF [T.a] g c:=λh=>eF.mod h λa b3 b4 i L=>by
  subst L;rw[b] at i;injection i with i;injection i with _ i;rw[<-i];simp
 have ar:∀{c:A_},Mod (λa=>a=f) g c->q6 c (.slice al (o.insts m).length an) (o.insts m):=λa=>aR.kF (enc:=c7.enc) (λ_=>rfl) (N.ia (aq a) Ae);have O:∀{c},Mod (λa=>a=f) g c->c.heap[A]? = g.heap[A]? := λh=>h.block _ (ca e) (Ne.symm ao);have au:∀{c},Mod (λa=>a=f) g c->Ext ah c:=λh=>h.ext (t.trans B) λP b5 u=>AW
 rw[e] at O;clear j e;refine aa ?_;refine K_ 11 (o.insts m).length [2,3,5,9,10] (λ_:Unit=>[]) () (λa _ c=>Mod (λP=>P=f) g c/\c.heap[f]? = some (.cells (fB (ka m s p m.procs[p].cb a)).toArray T.a)) aV aV ⟨Mod.refl _ _,b⟩ ?_;clear b;rintro a _ b6 av b8 ⟨l,b⟩;have e:=O l;have aw:=ar l;have C:=k.trans (au l);refine aa ?_;apply I_<;>intro b9
 .have n:a<(o.insts m).length:=AW
  obtain⟨cb,rfl⟩:=aw.addr;have ax:=qM _ (ID n);obtain⟨d,az,aA,aB⟩:=uO ax;have Q:(o.insts m)[a]?.map (·.proc)=some (d:Int):=by rw[List.getElem?_eq_getElem n,AI3,aA]
  obtain⟨q,S,cc⟩:=G.loc n az aB;obtain⟨ch,U⟩:=List.getElem?_eq_some_iff.1 S;obtain⟨cj,aC⟩:=qK n;obtain⟨ck,rfl⟩:=z.addr;obtain⟨cm,rfl⟩:=K.addr;have cp:=z.ext Flat.ext C;have cq:=K.ext Flat.ext C;refine aa ?_;apply I_<;>intro cr
  .have aD:d=p:=AW
   subst aD;have x:q<m.procs[d].cb.toNat:=AW
   have V:=wY m s d m.procs[d].cb a;have aE:=FA (m:=m) (s:=s) (p:=d) (k:=a) x;have ct:=Qb m s d q a;refine aa ?_;refine M_ (b7 m a) (by rw[aC]) (by rw[ae];omega) ?_;refine aa ?_;have cu:cH av (.slice (some ⟨f,0,none⟩) m.procs[d].cb.toNat m.procs[d].cb.toNat) (ka m s d m.procs[d].cb a):=UF b V.symm (by rw[V];unfold maxLen;omega);have cv:q<(ka m s d m.procs[d].cb a).length:=AW
   obtain⟨_,aF⟩:=List.getElem?_eq_some_iff.1 aE;refine M_ q U x ?_;refine aa ?_;rw[aF];refine aa ?_;refine M_ q U x ?_;refine aa ?_;refine _B b (by rw[AK7,xW];omega) rfl λcw aG W=>?_;rw[L7 (AH5 _),<-ZG Q S x] at W;refine aa ?_;exact⟨AW,aZ,(),trivial,l.trans (aG.mod rfl),W⟩
  .refine aa ?_;refine⟨n,aZ,(),trivial,l,?_⟩;rw[ZF (by rw[Q];intro u;have:=Option.some.inj u;omega)];exact b
 .have aH:(o.insts m).length=a:=AW
  refine aa ?_;exact⟨by rw[aH];exact aR.low k.size (aR.y0 _ b aj (zS _) (λ_=>rfl) (wY _ _ _ _ _).symm (by rw[wY];unfold maxLen;omega)),C⟩
end Go.Proofs.R
namespace a8
open Go Go.RowKit
section
variable{P:Program}{cI:Value->World->Prop}{e:TypeId}{sz base:Nat}{w:World}{s x:Value}{xs ys:List (hp sz)}
theorem AA9{g:F_}{b:Nat}{t}(d:ng e sz base w s xs)(l:a4 sz (Flat iO) w x ys)(m:(xs.length+ys.length)*b<=140737488355328)(n:xs.length+ys.length<=maxLen)(p:base<=w.heap.size)
  (f:∀c a,ng e sz base a c (xs++ys)->w.grownBy a s.ownBlock->cI c a):lQ P g e sz b s x w cI t:=by
 obtain⟨q,h,rfl,r,u,i,v⟩:=l.ex;cases q with
 | some y=>exact _J d hs (a4.flat hs (λ_ _ z=>z) ⟨some y,h,rfl,r,u,i,v⟩) rfl rp m n p λc a A B _=>f c a A B
 | none =>
  have:ys=[]:=Classical.byContradiction λC=>by have:=i C;cases this
  subst this;rw[AG8] at f;refine _i λ⟨j,H,I,k,J,K,L,M,N⟩=>?_;refine⟨g,s,w,?_,f s w d ⟨rfl,rfl,rfl,Fy _,λ_ _ _=>rfl⟩⟩;rcases d.2 with ⟨rfl,O⟩ | ⟨Q,h,cur,rfl,_,_,G,_⟩
  .simp[Builtin.append_,run_underlying j,Go.sizeOf,typeInfo,k,Builtin.lenOf,Builtin.firstCells]
  .simp[Builtin.append_,run_underlying j,Go.sizeOf,typeInfo,k,Builtin.lenOf,Builtin.firstCells,G,storeCells]
end
end a8
namespace a8
open Go Go.RowKit
structure azo{α:Type}(C:World->List Value->α->Prop)(e:TypeId)(sz base:Nat)(v:Value)(w0 ws:World)(xs:List α)(k:Nat)(x:List (hp sz))(W:World):Prop where
 m:Mod (λi=>v.ownBlock=some i) ws W
 b0:∀i,v.ownBlock=some i->base<=i/\i<ws.heap.size/\∃cur,ws.heap[i]? = some (.cells cur e)
 len:x.length=xs.length
 own:ng e sz base W v x
 new:∀i (I:i<x.length) (U:i<xs.length),i<k->gF (λj=>j<ws.heap.size) (λw=>C w x[i].1 xs[i]) W
 iu:∀i (I:i<x.length) (U:i<xs.length),k<=i->C w0 x[i].1 xs[i]
def AD8{α:Type}{P:D_}{k:B_->A_->Prop}{R:A_->Addr->α->Prop}{C:A_->C_ B_->α->Prop}{e:F_}{sz:Nat}[Rel R C sz]{w0 w d:A_}{x:B_}{xs:C_ α}{y:F_}{b c:Nat}{t}
  (z:a4 sz R w0 x xs)(A:Ext w0 w)(B:w.heap.size<=c)(i:Ext w d)(G:d.heap[c]? = some (.cells #[] e))(l:∀{w a:A_} {cs x},C w cs x->C a cs x)(H:xs.length*b<=140737488355328)
  (I:∀g h a,ei w (λw=>a4 sz R w (.slice g xs.length h) xs) a->Ext w a->Mod (λf=>f=c) d a->k (.slice g xs.length h) a):lQ P y e sz b (.slice (some ⟨c,0,none⟩) 0 0) x d k t:=by
 obtain⟨J,m,n,K⟩:=z.cells;have p:ng e sz w.heap.size d (.slice (some ⟨c,0,none⟩) 0 0) []:=aR.empty B G;have L:J.length<=maxLen:=by obtain⟨_,_,_,q,r,_⟩:=n.ex;omega
 refine AA9 p (a4.ext Flat.ext (A.trans i) n) (by rw[AJ2,ZB,m];exact H) (by rw[AJ2,ZB];exact L) i.size λM a s u=>?_;rw[AH2] at s;have v:ei w (λw=>a4 sz R w M xs) a:=ei.clone (R:=R) m s l λf q r=>l (K f q r);obtain⟨g,h,rfl,_⟩:=v.here.form;exact I g h a v (aR.hN p i u (Fy _)) (Mod.grown (A:=λf=>f=c) u λN j=>by injection j with j;exact j.symm)
end a8
namespace Go.Proofs.R
open Go Go.RowKit a8
def ql(w:A_)(cs:C_ B_)(l:C_ Int):Prop := ∃a,cs=[a]/\cH w a l
instance aBu:Rel oY ql 1 where
 out h:=by
  obtain⟨v,I,U⟩:=h;exact⟨[v],λj u au=>by cases j with | zero=>simp at au;subst au;rw[add_zero];exact I | succ j=>simp at au,v,rfl,U⟩
 kC h k:=by
  obtain⟨v,rfl,k⟩:=k
  have:=h 0 v rfl
  rw[add_zero] at this;exact⟨v,this,k⟩
 len h:=by obtain⟨v,rfl,_⟩:=h;rfl
 one h:=by obtain⟨v,rfl,h⟩:=h;simpa using h.one
 ext e h:=let ⟨v,I,U⟩:=h; ⟨v,I,U.ext Flat.ext e⟩
def ajb(_:A_)(cs:C_ B_)(x:Int):Prop:=cs=da x
instance aBt:Rel (Flat da) ajb 1 where
 out h:=⟨_,h,rfl⟩
 kC h k:=by cases k;exact h
 len h:=by cases h;rfl
 one h:=by cases h;exact je _
 ext _ h:=h
def _root_.a8.Mod.own{A:Nat->Prop}{a b c:A_}{v:B_}(h:Mod A a b)(e:b.grownBy c v.ownBlock)(f:∀d,v.ownBlock=some d->a.heap.size<=d):Mod A a c :=
 h.comp (Mod.grown (A:=λd=>v.ownBlock=some d) e λd g=>g) (λ_ _ a=>a) λi k j=>by have:=f i j;omega
structure Pm(w:World)(cs:List Value)(x:o.Env):Prop where
 ex:∃v0 v1 v2 eB,cs=[v0,v1,v2,eB,.int .i64 x.self]/\hB w v0 x.vars/\cH w v1 x.lens/\cH w v2 x.locals/\hB w eB x.at_
end Go.Proofs.R
namespace o
open Go
theorem OF(m:Model)(s:C_ Int)(inst:Int):(cd m s inst).vars.length=m.vars.length:=by simp[cd]
def Cj{m:Model}{s:C_ Int}{inst:Int}{k:Nat}(h:k<m.vars.length):(cd m s inst).vars[k]? = some ((s.drop (dU m k)).take (cells m.vars[k] m.scalars).toNat):=by
 have a:(bU m)[k]!.length=(cells m.vars[k] m.scalars).toNat:=by
  have b:k<(bU m).length:=by simpa[bU] using h
  rw[getElem!_pos (bU m) k b];simp[bU,vd]
 simp only[cd,List.getElem?_map,List.getElem?_range h,Option.map_some,a]
def OE(m:Model)(s:C_ Int)(inst:Int):(cd m s inst).lens.length=m.ay.length:=by simp[cd]
def ahR{m:Model}{s:C_ Int}{inst:Int}{k:Nat}(h:k<m.ay.length)(a:bT m k<s.length):(cd m s inst).lens[k]? = some s[bT m k]:=by
 simp only[cd,List.getElem?_map,List.getElem?_range h,Option.map_some];rw[getElem!_pos s (bT m k) a]
def axH{m:Model}{s:C_ Int}{inst:Int}(h:inst<0):(cd m s inst).locals=[]/\(cd m s inst).self=0:=by
 simp only[cd,OD,hz (.inl h),and_self]
def ym{m:Model}(s:C_ Int){q n:Nat}(h:q<(insts m).length)(a:n=(kj m (insts m)[q]).length - 1):(cd m s q).locals=(s.drop (b7 m q+1)).take n/\(cd m s q).self=(insts m)[q].elem:=by
 simp only[cd,OD,ir (show(0:Int)<=q by omega) (show(q:Int)<(insts m).length by omega),Int.toNat_natCast,a,and_self]
def VF(m:Model)(s:C_ Int)(inst:Int):(cd m s inst).at_.length=m.procs.length:=by simp[cd]
def ahQ{m:Model}{s:C_ Int}{inst:Int}{k:Nat}(h:k<m.procs.length):(cd m s inst).at_[k]? = some (ka m s k m.procs[k].cb (insts m).length):=by
 simp only[cd,List.getElem?_map,List.getElem?_range h,Option.map_some,List.getElem?_eq_getElem h,Option.getD_some]
end o
namespace Go.Proofs.R
open Go Go.RowKit a8 o
def ag5(cs ys:C_ B_)(v:B_)(m:o.Model)(s:C_ Int)(inst:Int)(w:A_)(h:eu w cs m)(a7:m.cS)(ai:gm m)(a9:nf w ys (o.layout m))(Y:cH w v s)(ba:o.Fits m s)(aj : -1<=inst)(aQ:inst<(o.insts m).length) :
  EG F.Np #[.agg cs.toArray,.agg ys.toArray,v,.I inst] w λbZ az=>(∃bb,bZ = .agg bb.toArray/\ei w (λw=>Pm w bb (cd m s inst)) az)/\Ext w az:=by
 have bf:=h;have b0:=a9;have b1:=Y;obtain⟨cW,cX,cY,bg,cZ,bj,c1,c2,c3,c4,rfl,b3,aj,aQ,bk,c5,c9,db,dc,dd,de⟩:=h.form;obtain⟨df,dg,dh,di,dj,dr,dt,du,dv,dw,rfl,bn,bo,bp,dx,dz⟩:=a9.form;obtain⟨dB,dC,rfl,dF⟩:=Y.form;have dG:=ba.len;have dJ:cG m<=64:=iq ai;have dK:=ai.g2;have dL:(o.insts m).length<=30:=by have:=tz m;have:=ai.procs;omega
 refine bm E.Np ?_;refine aa ?_;intro dN b4 dP br f;refine aa ?_;intro dQ b5 dR aS g;replace f:=aS.obj f;refine aa ?_;intro b6 B dS aT r;replace f:=aT.obj f;replace g:=aT.obj g;have bt:=(br.trans aS).trans aT;refine aa ?_;refine J_ (Ev _ m b6 (bf.ext bt) a7) ?_;rintro dT S ⟨ak,aA⟩;obtain⟨dV,dW,rfl,_⟩:=ak.form;have aU:q6 S _ _:=aR.kF (enc:=c7.enc) (λ_=>rfl) ak;replace f:=aA.obj f;replace g:=aA.obj g;replace r:=aA.obj r;have al:=bt.trans aA;refine aa ?_;intro U j dX bu e;have aB:∀{d},Ext S d->d.heap[b4]? = _:=λc=>c.obj f;have aC:∀{d},Ext S d->d.heap[b5]? = _:=λc=>c.obj g;have b8:=ca e;have an:∀{d},Mod (λa=>a=j) U d->Ext S d:=λh=>h.ext bu λa bw c=>AW
 refine K_ 11 m.vars.length [2,3,4,5,8,9,10] (λ_:ef=>[]) (none,0,0) (λb v d=>(Mod (λa=>a=j) U d/\d.heap[j]? = some (.cells #[.slice v.1 v.2.1 v.2.2,.slice none 0 0,.slice none 0 0,.slice none 0 0,.I 0] T.s))/\eo ql T.b 1 U.heap.size d (.slice v.1 v.2.1 v.2.2) (((cd m s inst).vars).take b)) aV aV ⟨⟨Mod.refl _ _,e⟩,by simpa using eo.nil _ _ _ _ _⟩ ?_;clear e;rintro b v bx Z K ⟨⟨V,e⟩,ao⟩;have f:=aB (an V);have g:=aC (an V);have ks:=al.trans (an V);refine aa ?_;apply I_<;>intro bz
 .have p:b<m.vars.length:=AW
  obtain⟨b9,rfl⟩:=aj.addr;have cb:=sg m.vars[b] m.scalars;have bA:=qZ p;have cc:=nu m;obtain⟨ak,aq⟩:=Al p;have ch:=((aj.at b p).cells).ext ks;refine aa ?_;refine P_ _ (λaz c=>Ol m.vars[b] _ m.scalars az (b3.ext (ks.trans c))) ?_;refine aa ?_;intro L ab;replace f:=ab.obj f;replace g:=ab.obj g;replace e:=ab.obj e;have M:=ao.ext ab;have hh:=ks.trans ab;have C:Mod (λa=>a=j) U L:=V.trans ab.mod;have ar:=Y.ext Flat.ext hh;have bB:=bn.ext Flat.ext hh;obtain⟨dZ,rfl⟩:=bn.addr;clear ch;refine aa ?_;intro G l;replace f:=l.obj f;replace g:=l.obj g;replace e:=l.obj e;have t:=M.ext l;have jc:=hh.trans l;have q:Mod (λa=>a=j) U G:=C.trans l.mod;have bC:=ar.ext Flat.ext l;have ea:=bB.ext Flat.ext l;clear ar bB ao M;refine aa ?_;refine _Y (k:=.i64) (k':=.i64) (dU m b) (dU m b+(o.cells m.vars[b] m.scalars).toNat) bC (by simp[dy,bS,aq]) (by simp[dy,bS,aq];omega) AW AW λcj aW ae=>?_;refine aa ?_;intro A ck bE i af;refine⟨i,?_⟩;rw[show dU m b+(o.cells m.vars[b] m.scalars).toNat - dU m b=(o.cells m.vars[b] m.scalars).toNat from AW] at ae ⊢;have au:=Cj (s:=s) (inst:=inst) p;refine AD8 ae (Ext.refl _) bE i af (λh=>h) (by simp;omega) λag H ah y k _=>?_;refine⟨k,?_⟩;refine aa ?_;intro aD cm cp u N;refine⟨k.trans u,?_⟩;have eb:=q.size;have eg:=k.size;have bF:=u.size;have I:=t.ext (k.trans u);have cq:(((cd m s inst).vars).take b).length<=12:=by rw[NU,OF];omega
  refine _A (x:=(s.drop (dU m b)).take (o.cells m.vars[b] m.scalars).toNat) (cs:=[.slice ag ((s.drop (dU m b)).take (o.cells m.vars[b] m.scalars).toNat).length H]) I (gP N)
   (((ei.own y t AW).imp λw h=>⟨_,rfl,h⟩).ext u λa bw K=>by have:=t.under AW a K;omega) rfl (by simp[Value.oneCell']) AW (by unfold maxLen;omega) AW λaX aY av aw=>?_
  have cr:=I.box aw ((k.trans u).obj e) Ae;have O:=((q.trans k.mod).trans u.mod).own aw λn x=>(I.lt n x).1;obtain⟨a0,a2,rfl,_⟩:=av.form;clear e y I t N af ae;refine aa ?_;intro bG z aE;refine aa ?_;refine⟨p,aZ,(a0,_,a2),trivial,⟨O.trans (z.mod rfl),aE⟩,?_⟩;rw[AJ8,au];exact av.wr z b8
 have eh:m.vars.length=b:=AW
 rw[Im (by rw[OF];omega)] at ao;have bH:=ao.new (R:=oY);obtain⟨aF,aG,H⟩:=v;have ek:=ca e;have en:=V.size;have ep:=an V;have aH:∀{d},Mod (λa=>a=j) Z d->Ext S d:=λh=>an (V.trans h);clear f g ao;refine aa ?_;refine K_ 13 m.ay.length [2,3,4,5,8,9,10] (λ_:ef=>[]) (none,0,0) (λb v d=>(Mod (λa=>a=j) Z d/\d.heap[j]? = some (.cells #[.slice aF aG H,.slice v.1 v.2.1 v.2.2,.slice none 0 0,.slice none 0 0,.I 0] T.s))/\aR da T.a 1 Z.heap.size d (.slice v.1 v.2.1 v.2.2) (((cd m s inst).lens).take b)) aV aV ⟨⟨Mod.refl _ _,e⟩,by simpa using aR.nil _ _ _ _ _⟩ ?_;clear e;rintro b v bx L K ⟨⟨C,e⟩,M⟩;have f:=aB (aH C);have g:=aC (aH C);have hh:=al.trans (aH C);refine aa ?_;apply I_<;>intro bz
 .have p:b<m.ay.length:=AW
  have bA:=ud p;have cc:=nu m;obtain⟨ak,ct⟩:=AP p;obtain⟨er,rfl⟩:=bo.addr;obtain⟨ev,rfl⟩:=Y.addr;have ar:=Y.ext Flat.ext hh;have bI:=bo.ext Flat.ext hh;refine aa ?_;intro G l;replace g:=l.obj g;replace e:=l.obj e;have t:=M.ext l;have q:Mod (λa=>a=j) Z G:=C.trans l.mod;have bC:=ar.ext Flat.ext l;have ew:=bI.ext Flat.ext l;clear ar bI M f;refine aa ?_;refine M_ (bT m b) (by rw[ct]) AW ?_;refine aa ?_;intro A ck bE i af;refine⟨i,?_⟩;have cu:bT m b<s.length:=AW
  have au:=ahR (inst:=inst) p cu;have ey:(((cd m s inst).lens).take b).length<=12:=by rw[NU,OE];omega
  have J:=t.ext i;have ez:=q.size;have cv:=i.size;refine T_ (y:=s[bT m b]) J af rfl (λ_=>rfl) je AW (by unfold maxLen;omega) AW λag cw aW ah ax aI=>?_;have eB:=J.box aI (i.obj e) Ae;have cx:=(q.trans i.mod).own aI λn x=>(J.lt n x).1;clear e J t af;refine aa ?_;intro aD W N;refine aa ?_;refine⟨p,aZ,(ag,cw,aW),trivial,⟨cx.trans (W.mod rfl),N⟩,?_⟩;rw[AJ8,au];exact ax.mod (W.mod (A:=λa=>a=j) rfl) λn x c=>by have:=(ax.lt n x).1;omega
 have eD:m.ay.length=b:=AW
 rw[Im (by rw[OE];omega)] at M;have bJ:gF (λa=>a<U.heap.size) (λw=>hB w (.slice aF aG H) (cd m s inst).vars) L:=bH.move C (λa _ c=>AW) λa _ c=>c;have bK:ei Z (λw=>cH w (.slice v.1 v.2.1 v.2.2) (cd m s inst).lens) L:=aR.new (λ_=>rfl) M;clear bH;obtain⟨bL,bM,bN⟩:=v;have cB:=ca e;have eE:=C.size;have aJ:∀{d},Mod (λa=>a=j) L d->Ext S d:=λh=>aH (C.trans h);clear f g M;refine aa ?_;refine K_ 14 m.procs.length [2,3,4,5,8,9,10] (λ_:ef=>[]) (none,0,0) (λb v d=>(Mod (λa=>a=j) L d/\d.heap[j]? = some (.cells #[.slice aF aG H,.slice bL bM bN,.slice none 0 0,.slice v.1 v.2.1 v.2.2,.I 0] T.s))/\eo ql T.b 1 L.heap.size d (.slice v.1 v.2.1 v.2.2) (((cd m s inst).at_).take b)) aV aV ⟨⟨Mod.refl _ _,e⟩,by simpa using eo.nil _ _ _ _ _⟩ ?_;clear e;rintro b v bx G K ⟨⟨q,e⟩,t⟩;have f:=aB (aJ q);have g:=aC (aJ q);have jc:=al.trans (aJ q);refine aa ?_;apply I_<;>intro bz
 .have p:b<m.procs.length:=AW
  refine aa ?_;intro A i;replace f:=i.obj f;replace g:=i.obj g;replace e:=i.obj e;have J:=t.ext i;have fT:=jc.trans i;have bO:Mod (λa=>a=j) L A:=q.trans i.mod;clear t;refine aa ?_;refine J_ (awc _ _ _ m s b A (bf.ext fT) a7 ai (b0.ext fT) (b1.ext Flat.ext fT) ba p) ?_;rintro _ ah ⟨y,k⟩;obtain⟨ag,H,rfl,_⟩:=y.form;replace y:ei A (λw=>cH w (.slice ag (ka m s b m.procs[b].cb (o.insts m).length).length H) (ka m s b m.procs[b].cb (o.insts m).length)) ah:=aR.new (enc:=da) (sz:=1) (λ_=>rfl) y;refine⟨k,?_⟩;have au:=ahQ (s:=s) (inst:=inst) p;refine aa ?_;intro aD cm cp u N;refine⟨k.trans u,?_⟩;have eH:=bO.size;have cC:=k.size;have bF:=u.size;have I:=J.ext (k.trans u);have cq:(((cd m s inst).at_).take b).length<=12:=by rw[NU,VF];have:=ai.procs;omega
  refine _A (x:=ka m s b m.procs[b].cb (o.insts m).length) (cs:=[.slice ag (ka m s b m.procs[b].cb (o.insts m).length).length H]) I (gP N)
   (((ei.own y J AW).imp λw h=>⟨_,rfl,h⟩).ext u λa bw K=>by have:=J.under AW a K;omega) rfl (by simp[Value.oneCell']) AW (by unfold maxLen;omega) AW λaX aY av aw=>?_
  have cr:=I.box aw ((k.trans u).obj e) Ae;have O:=((bO.trans k.mod).trans u.mod).own aw λn x=>(I.lt n x).1;obtain⟨a0,a2,rfl,_⟩:=av.form;clear e y I J N;refine aa ?_;intro bG z aE;refine aa ?_;refine⟨p,aZ,(a0,_,a2),trivial,⟨O.trans (z.mod rfl),aE⟩,?_⟩;rw[AJ8,au];exact av.wr z cB
 have eI:m.procs.length=b:=AW
 rw[Im (by rw[VF];omega)] at t;have bP:gF (λa=>a<U.heap.size) (λw=>hB w (.slice aF aG H) (cd m s inst).vars) G:=bJ.move q (λa _ c=>AW) λa _ c=>c;have bR:ei Z (λw=>cH w (.slice bL bM bN) (cd m s inst).lens) G:=bK.move q (λa _ c=>AW) λa _ c=>c;have bV:=t.new (R:=oY);clear bJ bK;obtain⟨eJ,eK,eM⟩:=v;have eQ:=ca e;have eR:=q.size;have X:∀{d},Mod (λa=>a=j) G d->Ext S d:=λh=>aJ (q.trans h);clear t;have jc:=al.trans (X (Mod.refl _ _));have eS:=ca r;have eU:=bu.size;have eV:=(br.trans aS).size;replace r:=(X (Mod.refl _ _)).obj r;refine aa ?_;apply I_<;>intro eW;rotate_left
 .refine aa ?_;intro A aK af;refine aa ?_;obtain⟨a5,a6⟩:=axH (m:=m) (s:=s) (inst:=inst) AW;refine⟨⟨_,rfl,λd P=>⟨_,_,_,_,by rw[a6],?_,?_,?_,?_⟩⟩,aK.ext jc AW⟩
  .exact(bP.move (A':=λa=>a<w.heap.size) (aK.mod (A:=λa=>a=B) rfl) (λa _ c=>AW) λa _ c=>AW) d P
  .exact(bR.move (A':=λa=>a<w.heap.size) (aK.mod (A:=λa=>a=B) rfl) (λa _ c=>AW) λa _ c=>AW) d P
  .rw[a5];exact a4.nil
  .exact(bV.move (A':=λa=>a<w.heap.size) (aK.mod (A:=λa=>a=B) rfl) (λa _ c=>AW) λa _ c=>AW) d P
 .obtain⟨n,rfl⟩:=T7 (show 0<=inst by omega);have x:n<(o.insts m).length:=AW
  have bA:=Hx x;obtain⟨ak,aq⟩:=qK x;obtain⟨eX,rfl⟩:=bp.addr;have cD:=bp.ext Flat.ext jc;have f:=aB (X (Mod.refl _ _));have g:=aC (X (Mod.refl _ _));obtain⟨eY,rfl⟩:=aU.addr;have cF:=aU.ext Flat.ext (X (Mod.refl _ _));have cI:=qM _ (ID x);obtain⟨Q,ae,cJ,cL⟩:=uO cI;have eZ:(kj m (o.insts m)[n]).length=1+m.procs[Q].vars.length:=by rw[cL,pt]
  obtain⟨b9,rfl⟩:=bk.addr;obtain⟨e0,e1,dI,aM,cM,cN⟩:=bk.at Q ae;obtain⟨e2,e3,rfl,e6⟩:=cM.form;obtain⟨e8,e9,rfl,fc⟩:=cN.form;replace aM:=aM.ext jc;unfold ee.enc at aM;refine aa ?_;refine M_ Q cJ ae ?_;refine aa ?_;intro ff cO A cP;have i:=cO.trans cP;replace f:=i.obj f;replace g:=i.obj g;replace e:=i.obj e;replace r:=i.obj r;have fT:=jc.trans i;have cQ:=Y.ext Flat.ext fT;have cv:=i.size;clear aM cF cD;refine aa ?_;refine _Y (k:=.i64) (k':=.i64) (b7 m n+1) (b7 m n+1+m.procs[Q].vars.length) cQ (by simp[dy,bS,aq]) (by simp[dy,bS,aq]) AW AW λcj aW bW=>?_;rw[show b7 m n+1+m.procs[Q].vars.length - (b7 m n+1)=m.procs[Q].vars.length from AW] at bW ⊢;obtain⟨cS,bX,cT,cU⟩:=bW.cells;have cb:cS.length<=64:=by rw[bX,NU,AG5];omega
  refine aa ?_;refine AA9 (sz:=1) (base:=A.heap.size) (aR.nil _ _ _ _ _) cT (by rw[AJ2];omega) (by rw[AJ2];unfold maxLen;omega) (Fy _) λaX ah ax aI=>?_;rw[AH2] at ax;have y:ei A (λw=>cH w aX ((s.drop (b7 m n+1)).take m.procs[Q].vars.length)) ah:=ei.clone (R:=Flat da) bX ax (λh=>h) λa aj aQ=>cU a aj aQ;have k:Ext A ah:=(Ext.refl _).grown aI λb K=>by simp[Value.ownBlock] at K
  replace g:=k.obj g;replace e:=k.obj e;replace r:=k.obj r;have cC:=k.size;obtain⟨fh,fi,rfl,_⟩:=y.here.form;clear f;refine aa ?_;intro aD W N;have bY:Mod (λa=>a=j) G aD:=(i.mod.trans k.mod).trans (W.mod rfl);have fk:=aU.ext Flat.ext (X bY);replace r:=W.obj r AW;refine aa ?_;intro aY aP fo;have O:Mod (λa=>a=j) G aY:=bY.trans (aP.mod rfl);replace r:=aP.obj r AW;refine aa ?_;intro bG z aE;refine aa ?_;obtain⟨a5,a6⟩:=ym s x (n:=m.procs[Q].vars.length) AW;have bF:=W.size;have fq:=aP.size;refine⟨⟨_,rfl,λd P=>⟨_,_,_,_,by rw[a6];rfl,?_,?_,?_,?_⟩⟩,z.ext (al.trans (X O)) AW⟩
  .exact(bP.move (A':=λa=>a<w.heap.size) (O.comp (B:=λa=>a=j\/a=B) (z.mod (A:=λa=>a=B) rfl) (λa _ c=>.inl c) λa _ c=>.inr c) (λa _ c=>AW) λa _ c=>AW) d P
  .exact(bR.move (A':=λa=>a<w.heap.size) (O.comp (B:=λa=>a=j\/a=B) (z.mod (A:=λa=>a=B) rfl) (λa _ c=>.inl c) λa _ c=>.inr c) (λa _ c=>AW) λa _ c=>AW) d P
  .rw[a5];exact((((y.wr W AW).wr aP AW).wr z AW).mono λa _ c=>AW) d P
  .exact(bV.move (A':=λa=>a<w.heap.size) (O.comp (B:=λa=>a=j\/a=B) (z.mod (A:=λa=>a=B) rfl) (λa _ c=>.inl c) λa _ c=>.inr c) (λa _ c=>AW) λa _ c=>AW) d P
end Go.Proofs.R
namespace o
open Go
def ahG{s t:C_ Int}{a n:Nat}(h:∀b,b<n->s[a+b]? = t[a+b]?):(s.drop a).take n=(t.drop a).take n:=by
 apply List.ext_getElem?;intro c;rw[List.getElem?_take,List.getElem?_take];split
 .rw[List.getElem?_drop,List.getElem?_drop];exact h c ‹_›
 .rfl
def iV(l:C_ Int):Bool:=match l with
 | []=>false
 | a :: b=>decide (0<=a/\a<=b.length)&&(b.drop a.toNat).all (λc=>decide (c=0))
def iG(l:C_ Int):C_ Int:=if iV l then (l.drop 1).take (l.headD 0).toNat else []
def p5(k:Nat)(l:C_ Int):C_ Int:=(l.length:Int) :: (List.range (k - 1)).map λa=>l.getD a 0
def l8(l:C_ Int)(v:Int):H_ (C_ Int):=if iV l=true/\l.headD 0≠(l.length:Int) - 1 then some (p5 l.length (iG l++[v])) else none
def od(l:C_ Int):H_ (C_ Int×Int):=match iG l with
 | []=>none
 | a :: b=>some (p5 l.length b,a)
def UP{k:Nat}(h:1<=k)(l:C_ Int):(p5 k l).length=k:=by simp[p5];omega
theorem aeE{l:C_ Int}(h:iV l=true):1<=l.length:=by
 cases l with
 | nil=>cases h
 | cons a b=>simp
def H5{l r:C_ Int}{v:Int}(h:l8 l v=some r):r.length=l.length:=by
 unfold l8 at h;split at h
 .rename_i a;injection h with h
  rw[<-h,UP (aeE a.1)]
 .cases h
def Iw{l r:C_ Int}{v:Int}(h:od l=some (r,v)):r.length=l.length:=by
 unfold od at h;split at h
 .cases h
 .rename_i d e a;injection h with h
  injection h with b f
  have:iV l=true:=Classical.byContradiction λc=>by
   unfold iG at a;rw[if_neg c] at a;cases a
  rw[<-b,UP (aeE this)]
def chanOf(m:Model)(s:C_ Int)(c:Nat):C_ Int:=(s.drop (bT m c)).take (1+gq m c)
def hY(s:C_ Int)(a:Nat)(l:C_ Int):C_ Int:=s.take a++l++s.drop (a+l.length)
def AK(m:Model)(c:Nat):Int×Int:=match (bD m)[c]? with
 | some a=>(a.aQ,a.ab)
 | none=>(0,-1)
def putAt(m:Model)(s:C_ Int)(c:Nat)(n:Int):H_ (C_ Int):=if n<(AK m c).1\/(AK m c).2<n then none else some (s.set c n)
def uf(m:Model)(c:Nat):ec:=match m.ay[c]? with
 | some a=>dM a.scalar a.aQ a.ab m.scalars
 | none=>dM 0 0 0 m.scalars
def u9(m:Model)(s:C_ Int)(c:Nat)(n:Int):H_ (C_ Int) :=
 if n<(uf m c).aQ\/(uf m c).ab<n then none else (l8 (chanOf m s c) n).map (hY s (bT m c))
def yb(m:Model)(s:C_ Int)(q:Nat)(a:Act):H_ (C_ Int):=match od (chanOf m s a.to.toNat) with
 | none=>none
 | some (rest,b)=>putAt m (hY s (bT m a.to.toNat) rest) (b7 m q+1+a.loc.toNat) b
def wi(m:Model)(s:C_ Int)(a:Act)(k:Int×Int)(n:Int):H_ (C_ Int) :=
 if k.2≠0\/k.1<1\/(zY m a.to.toNat:Int)<k.1 then none else putAt m s (dU m a.to.toNat+k.1.toNat - 1) n
def hq(m:Model)(s:C_ Int)(q:Nat)(a:Act):H_ (C_ Int) :=
 if a.kind=5 then yb m s q a
 else if (eval a.value (cd m s q)).2≠0 then none
 else if a.kind=1 then putAt m s (dU m a.to.toNat) (eval a.value (cd m s q)).1
 else if a.kind=2 then wi m s a (eval a.index (cd m s q)) (eval a.value (cd m s q)).1
 else if a.kind=3 then putAt m s (b7 m q+1+a.to.toNat) (eval a.value (cd m s q)).1
 else u9 m s a.to.toNat (eval a.value (cd m s q)).1
def jo(m:Model)(q:Nat):C_ Act->C_ Int->H_ (C_ Int)
 | [],a=>some a
 | b :: c,a=>match hq m a q b with
  | none=>none
  | some d=>jo m q c d
def hr(m:Model)(s:C_ Int)(q:Nat)(c:et):H_ (C_ Int) :=
 if s[b7 m q]? ≠ some c.from_ then none
 else if 0<c.guard.length/\((eval c.guard (cd m s q)).2≠0\/(eval c.guard (cd m s q)).1=0) then none
 else (jo m q c.b6 s).map λa=>a.set (b7 m q) c.to
theorem Zk(m:Model)(q:Nat)(a:Act):∀(c:C_ Act) (b:C_ Int),jo m q (c++[a]) b=match jo m q c b with | none=>none | some d=>hq m d q a
 | [],b=>by
  simp only[List.nil_append,jo];cases hq m b q a<;>rfl
 | e :: c,b=>by
  simp only[List.cons_append,jo];cases hq m b q e with
  | none=>rfl
  | some d=>exact Zk m q a c d
def BM{s:C_ Int}{a:Nat}{l:C_ Int}(h:a+l.length<=s.length):(hY s a l).length=s.length:=by
 simp[hY];omega
def xV{s:C_ Int}{a:Nat}{l:C_ Int}(h:a+l.length<=s.length)(x:Nat):(hY s a l)[x]? = if a<=x/\x<a+l.length then l[x - a]? else s[x]? := by
 unfold hY;have b:(s.take a).length=a:=by simp;omega
 by_cases c:x<a
 .rw[if_neg AW,List.getElem?_append_left (by rw[Jv];omega),List.getElem?_append_left AW,List.getElem?_take,if_pos c]
 .by_cases d:x<a+l.length
  .rw[if_pos ⟨AW,d⟩,List.getElem?_append_left (by rw[Jv];omega),List.getElem?_append_right AW,b]
  .rw[if_neg AW,List.getElem?_append_right (by rw[Jv];omega),List.getElem?_drop,Jv,b];congr 1;omega
def pI{m:Model}{s:C_ Int}{c:Nat}(h:bT m c+(1+gq m c)<=s.length):(chanOf m s c).length=1+gq m c:=by
 simp[chanOf];omega
def Ep{m:Model}{s t:C_ Int}{c:Nat}{n:Int}(h:putAt m s c n=some t):t=s.set c n:=by
 unfold putAt at h;split at h
 .cases h
 .injection h with h
  exact h.symm
def e4(s t:C_ Int)(l:C_ Int):Prop:=t.length=s.length/\∀a:Nat,t[a]? ≠ s[a]? -> (a:Int)∈l
def e4.refl(s l:C_ Int):e4 s s l:=⟨rfl,λ_ a=>absurd rfl a⟩
def e4.trans{s t b l:C_ Int}(h:e4 s t l)(k:e4 t b l):e4 s b l:=⟨k.1.trans h.1,λa d=>by
 by_cases c:b[a]? = t[a]?
 .exact h.2 a (by rw[<-c];exact d)
 .exact k.2 a c⟩
def e4.mono{s t l r:C_ Int}(h:e4 s t l)(a:∀b∈l,b∈r):e4 s t r:=⟨h.1,λc d=>a _ (h.2 c d)⟩
def e4.set(s:C_ Int)(a:Nat)(n:Int):e4 s (s.set a n) (oa a 1):=⟨ZA ..,λc b=>by
 rw[Vm,AH0];apply Classical.byContradiction;intro d;exact b (List.getElem?_set_ne AW)⟩
def e4.D3{s l:C_ Int}{a:Nat}(h:a+l.length<=s.length):e4 s (hY s a l) (oa a l.length):=⟨BM h,λd b=>by
 rw[xV h] at b;apply Classical.byContradiction;intro c;rw[ag1] at c;exact b (if_neg AW)⟩
def axt{m:Model}{s t:C_ Int}{c:Nat}{n:Int}(d:bT m c+(1+gq m c)<=s.length)(h:u9 m s c n=some t):e4 s t (C7 m c):=by
 unfold u9 at h;split at h
 .cases h
 .cases a:l8 (chanOf m s c) n with
  | none=>rw[a] at h;cases h
  | some e =>
   rw[a] at h;have b:=H5 a;rw[pI d] at b;have f:hY s (bT m c) e=t:=by injection h
   rw[<-f];unfold C7;rw[<-b];exact e4.D3 AW
theorem awm{m:Model}{s t:C_ Int}{q:Nat}{a:Act}(f:bT m a.to.toNat+(1+gq m a.to.toNat)<=s.length)(h:yb m s q a=some t):e4 s t (C7 m a.to.toNat++oa (b7 m q+1+a.loc.toNat) 1):=by
 unfold yb at h;cases b:od (chanOf m s a.to.toNat) with
 | none=>rw[b] at h;cases h
 | some g =>
  obtain⟨d,k⟩:=g;rw[b] at h;have e:=Iw b;rw[pI f] at e;have i:=Ep h;rw[i];refine e4.trans (t:=hY s (bT m a.to.toNat) d) ?_ ((e4.set _ _ _).mono λj c=>AI7 _ c)
  have:=e4.D3 (s:=s) (a:=bT m a.to.toNat) (l:=d) AW
  rw[e] at this;exact this.mono λj c=>AI4 _ c
def axs{m:Model}{s:C_ Int}{q:Nat}{a:Act}(h:Ow a=true):eval a.index (cd m s q)=((cd m s q).self,0):=by
 unfold Ow at h;split at h
 .rename_i b d;rw[d];have c:b.op=5:=by simpa using h
  have e:ej b.op=0:=by rw[c];decide
  have f:gk (cd m s q) b []=((cd m s q).self,0):=by
   unfold gk;rw[c];simp[gS,fm,c]
  unfold eval ma e7;simp only[List.length_singleton,stepG,e,f];simp[e7]
 .cases h
def ajw{m:Model}{s t:C_ Int}{q:Nat}{a:Act}(d:q<(insts m).length)(e:(a.kind=4\/a.kind=5)->bT m a.to.toNat+(1+gq m a.to.toNat)<=s.length)(l:1<=a.kind/\a.kind<=5)(h:hq m s q a=some t):e4 s t (Jl m q a):=by
 unfold hq at h;unfold Jl;by_cases b:a.kind=5
 .rw[if_pos b] at h;rw[if_neg AW,if_neg AW,if_neg AW,if_neg AW,if_pos b];exact awm (e (.inr b)) h
 rw[if_neg b] at h;by_cases he:(eval a.value (cd m s q)).2≠0
 .rw[if_pos he] at h;cases h
 rw[if_neg he] at h;by_cases f:a.kind=1
 .rw[if_pos f] at h ⊢;rw[Ep h];exact e4.set _ _ _
 rw[if_neg f] at h ⊢;by_cases g:a.kind=2
 .rw[if_pos g] at h ⊢;unfold wi at h;split at h
  .cases h
  .rename_i n;rw[Ep h];refine(e4.set _ _ _).mono λp i=>?_;rw[Vm,AH0] at i;subst i;unfold TS;by_cases c:Ow a=true
   .rw[if_pos c,Vm,AH0,amj d];have k:(cd m s q).self=(insts m)[q].elem:=(ym s d rfl).2
    have:=axs (m:=m) (s:=s) (q:=q) (a:=a) c
    rw[this];simp only[k]
   .rw[if_neg c,ag1];omega
 rw[if_neg g] at h ⊢;by_cases j:a.kind=3
 .rw[if_pos j] at h ⊢;rw[Ep h];exact e4.set _ _ _
 rw[if_neg j] at h ⊢;rw[if_pos AW];exact axt (e AW) h
def mn{m:Model}{c:Nat}(h:c<m.ay.length):bT m c+(1+gq m c)<=cG m:=by
 have:=ud h
 rw[o4 h]
 have:=nu m
 omega
theorem Zp{m:Model}{i:Scope}{q:Nat}(j:q<(insts m).length)(k:i.ay=m.ay):∀(c:C_ Act) (b d:C_ Int),(∀e∈c,q3 i e)->b.length=cG m->jo m q c b=some d->e4 b d (c.flatMap (Jl m q))
 | [],b,d,_,_,a=>by
  injection a with a
  rw[<-a];exact e4.refl _ _
 | e :: c,b,d,f,l,a=>by
  simp only[jo] at a;cases g:hq m b q e with
  | none=>rw[g] at a;cases a
  | some p =>
   rw[g] at a;have n:=ajw j (λr=>by rw[l];exact mn (by have:=((f e (AG3 ..)).chan r).2;rwa[k] at this)) (f e (AG3 ..)).kind g;have s:=Zp j k c p d (λt u=>f t (AG6 _ u)) (n.1.trans l) a;rw[AJ5];exact(n.mono λv h=>AI4 _ h).trans (s.mono λv h=>AI7 _ h)
def Jm{a:Scope}{c:et}(h:E6 a c):∀b∈c.b6,q3 a b:=λb d=>by
 obtain⟨e,f,rfl⟩:=List.mem_iff_getElem.1 d;exact h.act e f
theorem alA{m:Model}{d:Scope}{q:Nat}{c:et}{s t:C_ Int}(f:q<(insts m).length)(g:d.ay=m.ay)(i:E6 d c)(j:s.length=cG m)(h:hr m s q c=some t):e4 s t (Wa m q c c.b6.length):=by
 unfold hr at h;split at h
 .cases h
 split at h
 .cases h
 cases a:jo m q c.b6 s with
 | none=>rw[a] at h;cases h
 | some e =>
  rw[a] at h;have k:e.set (b7 m q) c.to=t:=by injection h
  rw[<-k];unfold Wa;rw[AG9];exact((Zp f g _ s e (Jm i) j a).mono λl b=>AI7 _ b).trans ((e4.set _ _ _).mono λl b=>AI4 _ b)
theorem Cp:∀(c:C_ (C_ ec)) (a:Nat),a<total c->∃b d,∃(f:b<c.length) (_:d<c[b].length),a=total (c.take b)+d
 | [],a,e=>by simp[total] at e
 | g :: h,a,e=>by
  rw[Aj] at e;by_cases i:a<g.length
  .exact⟨0,a,Ah,by simpa using i,by simp[total]⟩
  .obtain⟨b,d,f,j,k⟩:=Cp h (a - g.length) AW;exact⟨b+1,d,by simpa using f,by simpa using j,by rw[List.take_succ_cons,Aj];omega⟩
def Ga{m:Model}(n:gm m):Fits m (dp m):=by
 refine⟨Re m,λr p=>?_,λd p s=>?_⟩
 .have J:=(n.chan _ (ID p)).cap;have K:=ud p;have t:∀a,a<1+m.ay[r].cap.toNat->(lU m r m.ay[r] (dp m))[a]? = some 0:=λa c=>by
   unfold lU;rw[List.getElem?_take,if_pos c,List.getElem?_drop];exact Kl (by unfold bT;omega) AW
  exact⟨0,t 0 AW,Int.le_refl _,AW,λa c=>⟨0,t (a+1) AW,λp=>AW,λ_=>rfl⟩⟩
 .have hlen:=zX m;by_cases u:d<total (bU m)
  .obtain⟨b,a,f,c,g⟩:=Cp _ _ u;have i:b<m.vars.length:=by simpa[bU] using f
   have bq:(bU m)[b]=q0 m.scalars m.vars[b]:=by simp[bU]
   have e:=T5 (m:=m) u;rw[g,w6 1 (bU m) 0 b a f c,<-g] at e;obtain⟨_,j⟩:=List.getElem?_eq_some_iff.1 e;have z:a<(cells m.vars[b] m.scalars).toNat:=by rw[bq,vd] at c;exact c
   have h:=Rg (m:=m) i (j:=a) AW;rw[show dU m b+a=d from g.symm] at h;obtain⟨_,k⟩:=List.getElem?_eq_some_iff.1 h;have A:(bU m)[b][a]=dM m.vars[b].scalar m.vars[b].aQ m.vars[b].ab m.scalars:=by simp only[bq];simp[q0]
   have l:=n.var _ (ID i);rw[j,k];simp only[A,w3];exact⟨l.aQ,l.ab⟩
  by_cases v:d<total (bU m)+total (cn m)
  .have h:=Kl (m:=m) (c:=d) AW v;obtain⟨_,k⟩:=List.getElem?_eq_some_iff.1 h;obtain⟨b,a,f,c,g⟩:=Cp (cn m) (d - total (bU m)) AW;have e:=Mm (m:=m) AW v;rw[g,w6 2 (cn m) 0 b a f c] at e;obtain⟨_,j⟩:=List.getElem?_eq_some_iff.1 e;have B:=(akP n s).chan (by rw[j]);rw[k];exact B
  .obtain⟨b,a,f,c,g⟩:=Cp (dH m) (d - (total (bU m)+total (cn m))) (by rw[hlen] at s;omega);have i:b<(insts m).length:=by simpa[dH] using f
   have e:=Mn (m:=m) (c:=d) AW;rw[g,w6 3 (dH m) 0 b a f c] at e;obtain⟨_,j⟩:=List.getElem?_eq_some_iff.1 e;obtain⟨q,C,G,H⟩:=uO (qM _ (ID i));have w:(dH m)[b]=kX m.scalars m.procs[q]:=by simp[dH,H]
   have x:=n.proc _ (ID C);have y:pj m (insts m)[b]=0 :: m.procs[q].vars.map (·.init):=by
    unfold pj;rw[G,ir AW AW];simp
   have z:a<1+m.procs[q].vars.length:=by rw[w,pt] at c;exact c
   have h:=Gb (m:=m) i (j:=a) (by rw[y];simp;omega);rw[show b7 m b+a=d from by unfold b7;omega] at h;obtain⟨_,k⟩:=List.getElem?_eq_some_iff.1 h;rw[j,k];simp only[y,w];cases a with
   | zero=>have:=x.cb;simp[kX];omega
   | succ a =>
    have I:a<m.procs[q].vars.length:=AW
    have l:=x.var _ (ID I);simp only[kX,List.getElem_cons_succ,List.getElem_map,w3];exact⟨l.aQ,l.ab⟩
theorem aeY{s w:Int}:∀{d:C_ ec} {e:Nat} {b:Cell},b∈fv s w d e->∃c∈d,b.aQ=c.aQ/\b.ab=c.ab
 | [],_,_,a=>by cases a
 | c :: d,e,b,a=>by
  rcases List.mem_cons.1 a with rfl | a
  .exact⟨c,Ah,rfl,rfl⟩
  .obtain⟨f,g,h⟩:=aeY a;exact⟨f,by simp[g],h⟩
theorem JF{s:Int}:∀{g:C_ (C_ ec)} {h:Nat} {b:Cell},b∈cellsOf s g h->∃d∈g,∃c∈d,b.aQ=c.aQ/\b.ab=c.ab
 | [],_,_,a=>by cases a
 | d :: j,h,b,a=>by
  rcases List.mem_append.1 a with a | a
  .obtain⟨c,e,f⟩:=aeY a;exact⟨d,Ah,c,e,f⟩
  .obtain⟨i,e,f⟩:=JF a;exact⟨i,by simp[e],f⟩
def wL(a b:Int):Prop := -1048576<=a/\a<=b/\b<=1048576
def Qf{a b c:Int}{s:C_ Scalar}(h:a=0->wL b c):wL (dM a b c s).aQ (dM a b c s).ab:=by
 unfold dM;by_cases d:a=0
 .rw[if_pos d];exact h d
 .rw[if_neg d]
  have:=size_le a s
  unfold wL;simp only;omega
def afw{a b:Int}(h:narrow a b=true):wL a b:=by have:=Uu h;unfold wL;omega
def akM{m:Model}(h:gm m):∀j∈bD m,wL j.aQ j.ab:=λj b=>by
 unfold bD at b;rcases List.mem_append.1 b with b | b
 .rcases List.mem_append.1 b with b | b
  .obtain⟨n,e,p,a,c,d⟩:=JF b;obtain⟨k,l,rfl⟩:=List.mem_map.1 e;rw[(List.mem_replicate.1 a).2] at c d;rw[c,d];exact Qf λf=>afw ((h.var k l).HS f)
  .obtain⟨n,e,p,a,c,d⟩:=JF b;obtain⟨r,s,rfl⟩:=List.mem_map.1 e;rw[c,d];have g:=h.chan r s;have u:=g.cap;rcases List.mem_cons.1 a with rfl | a
   .unfold wL;simp only;omega
   .rw[(List.mem_replicate.1 a).2];exact Qf λf=>by
     have:=Uu (g.HS f)
     unfold wL;omega
 .obtain⟨n,e,p,a,c,d⟩:=JF b;obtain⟨v,w,rfl⟩:=List.mem_map.1 e;rw[c,d];unfold kj at a;split at a
  .rename_i q i;have t:q∈m.procs:=by
    unfold nth at i;split at i
    .exact List.mem_of_getElem? i
    .cases i
   have g:=h.proc q t;rcases List.mem_cons.1 a with rfl | a
   .have:=g.cb;unfold wL;simp only;omega
   .obtain⟨k,l,rfl⟩:=List.mem_map.1 a;exact Qf λf=>afw ((g.var k l).HS f)
  .cases a
def ZX{m:Model}{i:Nat}(h:i<m.ay.length):bT m (i+1)=bT m i+(1+gq m i):=by rw[ZY h,o4 h]
theorem Qp{m:Model}:∀(a i:Nat),i+a<=m.ay.length->bT m i<=bT m (i+a)
 | 0,_,_=>Fy _
 | a+1,i,b=>by
  have:=Qp (m:=m) a i AW
  have:=ZX (m:=m) (i:=i+a) AW
  rw[<-AH6];omega
def ZW{m:Model}{i j:Nat}(b:i<j)(c:j<m.ay.length):bT m i+(1+gq m i)<=bT m j:=by
 have d:=ZX (m:=m) (i:=i) AW;have a:=Qp (m:=m) (j - (i+1)) (i+1) AW;rw[show i+1+(j - (i+1))=j from AW] at a;omega
def akv(m:Model)(i:Nat)(h:i<=m.ay.length):total (bU m)<=bT m i:=by
 have:=Qp (m:=m) i 0 AW
 rw[ZB,ZZ] at this;exact this
def asY{m:Model}{i j:Nat}(b:i<m.ay.length)(c:j<(iM m.scalars m.ay[i]).length):∃l:bT m i+j<(bD m).length,(bD m)[bT m i+j].aQ=(iM m.scalars m.ay[i])[j].aQ/\(bD m)[bT m i+j].ab=(iM m.scalars m.ay[i])[j].ab:=by
 have f:i<(cn m).length:=by simpa[cn] using b
 have a:(cn m)[i]=iM m.scalars m.ay[i]:=by simp[cn]
 have g:j<(cn m)[i].length:=by rw[a];exact c
 have h:=w6 2 (cn m) 0 i j f g;have n:=ud b;rw[o7] at c;have d:=Mm (m:=m) (c:=bT m i+j) (by unfold bT;omega) AW;rw[show bT m i+j - total (bU m)=total ((cn m).take i)+j from by unfold bT;omega,h] at d;obtain⟨k,e⟩:=List.getElem?_eq_some_iff.1 d;refine⟨k,?_,?_⟩
 .rw[e];simp only[a]
 .rw[e];simp only[a]
def abt{m:Model}{s:C_ Int}{c:Nat}{n:Int}(b:Fits m s)(j:c<total (bU m)\/total (bU m)+total (cn m)<=c)(g:∀k:c<(bD m).length,(bD m)[c].aQ<=n/\n<=(bD m)[c].ab):Fits m (s.set c n):=by
 refine⟨by rw[ZA];exact b.len,λa d=>?_,λh e f=>?_⟩
 .have l:=ud d;have p:=akv m a AW
  have:lU m a m.ay[a] (s.set c n)=lU m a m.ay[a] s:=ahG λq r=>List.getElem?_set_ne AW
  rw[this];exact b.queue a d
 .rw[List.getElem_set];split
  .rename_i i;subst i;exact g f
  .exact b.cell h (by rw[ZA] at e;exact e) f
theorem avQ{s:C_ Scalar}{c:ed}{l:C_ Int}(u:1<=c.cap)(h:mO s c l){j:Nat}(g:j<(iM s c).length):∃a,l[j]? = some a/\(iM s c)[j].aQ<=a/\a<=(iM s c)[j].ab:=by
 obtain⟨d,i,k,m,n⟩:=h;cases j with
 | zero=>exact⟨d,i,k,m⟩
 | succ b =>
  rw[o7] at g;obtain⟨a,p,e,q⟩:=n b AW;refine⟨a,p,?_⟩;have r:(iM s c)[b+1]'(by rw[o7];omega)=kc s c:=by simp[iM]
  rw[r];unfold kc;unfold dM at e ⊢;by_cases t:(b:Int)<d
  .have:=e t
   split at this<;>rename_i f
   .rw[if_pos f];simp only at this ⊢;omega
   .rw[if_neg f];exact this
  .have:=q AW
   subst this;split
   .simp only;omega
   .simp only
    have:=size_le c.scalar s
    omega
def Rj{m:Model}{s l:C_ Int}{i:Nat}(e:Fits m s)(f:i<m.ay.length)(u:1<=m.ay[i].cap)(C:l.length=1+gq m i)(p:mO m.scalars m.ay[i] l):Fits m (hY s (bT m i) l):=by
 have G:=mn f;have d:bT m i+l.length<=s.length:=by rw[e.len];omega
 have H:=o4 f;refine⟨by rw[BM d];exact e.len,λa g=>?_,λb h v=>?_⟩
 .by_cases j:a=i
  .subst j
   have:lU m a m.ay[a] (hY s (bT m a) l)=l:=by
    apply List.ext_getElem?;intro k;unfold lU;rw[List.getElem?_take,List.getElem?_drop];split
    .rw[xV d,if_pos ⟨AW,AW⟩,show bT m a+k - bT m a=k from AW]
    .rw[List.getElem?_eq_none AW]
   rw[this];exact p
  .have I:=o4 g
   have:lU m a m.ay[a] (hY s (bT m i) l)=lU m a m.ay[a] s:=ahG λk J=>by
    rw[xV d,if_neg];rcases Nat.lt_or_gt_of_ne j with n | n
    .have:=ZW n f;omega
    .have:=ZW n g;omega
   rw[this];exact e.queue a g
 .have q:b<s.length:=by rw[BM d] at h;exact h
  have c:=xV d b;rw[List.getElem?_eq_getElem h] at c;by_cases r:bT m i<=b/\b<bT m i+l.length
  .rw[if_pos r] at c;have t:b - bT m i<(iM m.scalars m.ay[i]).length:=by rw[o7];omega
   obtain⟨K,w,x,y⟩:=avQ u p t;obtain⟨L,z,A⟩:=asY f t;rw[w] at c;have j:b=bT m i+(b - bT m i):=AW
   have B:(bD m)[b]=(bD m)[bT m i+(b - bT m i)]:=by congr 1
   injection c with c
   rw[c,B,z,A];exact⟨x,y⟩
  .rw[if_neg r,List.getElem?_eq_getElem q] at c;injection c with c
   rw[c];exact e.cell b q v
def afY{n:Nat}{l:C_ Int}{k:Nat}(a:k+1<n):(p5 n l)[k+1]? = some (l.getD k 0):=by
 unfold p5;rw[List.getElem?_cons_succ,List.getElem?_map,List.getElem?_range AW];rfl
def afZ{s:C_ Scalar}{c:ed}{l:C_ Int}(i:1<=c.cap)(e:(l.length:Int)<=c.cap)(f:∀b∈l,(dM c.scalar c.aQ c.ab s).aQ<=b/\b<=(dM c.scalar c.aQ c.ab s).ab):mO s c (p5 (1+c.cap.toNat) l):=by
 refine⟨l.length,rfl,AW,e,λa j=>⟨l.getD a 0,afY AW,λg=>?_,λg=>?_⟩⟩
 .have d:a<l.length:=AW
  have h:l.getD a 0=l[a]:=by simp[d]
  rw[h];exact f _ (ID d)
 .simp[List.getD,List.getElem?_eq_none (show l.length<=a by omega)]
def agn{s:C_ Scalar}{c:ed}{l:C_ Int}(i:l.length=1+c.cap.toNat)(t:1<=c.cap)(h:mO s c l):iV l=true/\((iG l).length:Int)<=c.cap/\l.headD 0=(iG l).length/\∀e∈iG l,(dM c.scalar c.aQ c.ab s).aQ<=e/\e<=(dM c.scalar c.aQ c.ab s).ab:=by
 obtain⟨u,j,n,v,k⟩:=h;obtain⟨b,d,rfl⟩:∃b d,l=b :: d:=by
  cases l with
  | nil=>simp at i;omega
  | cons b d=>exact⟨b,d,rfl⟩
 simp only[List.getElem?_cons_zero,Option.some.injEq] at j;subst j;simp only[List.length_cons] at i;have m:iV (b :: d)=true:=by
  simp only[iV,Bool.and_eq_true,decide_eq_true_eq,List.all_eq_true];refine⟨⟨n,AW⟩,λe a=>?_⟩;obtain⟨f,g,rfl⟩:=List.mem_iff_getElem.1 a;rw[AG5] at g;rw[AK3];obtain⟨e,a,_,p⟩:=k (b.toNat+f) AW;rw[List.getElem?_cons_succ,List.getElem?_eq_getElem AW] at a;injection a with a
  rw[a];exact p AW
 have q:iG (b :: d)=d.take b.toNat:=by
  unfold iG;rw[if_pos m];rfl
 rw[q];refine⟨m,by rw[NU];omega,by rw[NU];simp;omega,λe a=>?_⟩;obtain⟨f,g,rfl⟩:=List.mem_iff_getElem.1 a;rw[NU] at g;rw[AL2];obtain⟨e,a,r,_⟩:=k f AW;rw[List.getElem?_cons_succ,List.getElem?_eq_getElem AW] at a;injection a with a
 rw[a];exact r AW
def avF{s:C_ Scalar}{c:ed}{l r:C_ Int}{v:Int}(d:l.length=1+c.cap.toNat)(e:1<=c.cap)(h:mO s c l)(f:(dM c.scalar c.aQ c.ab s).aQ<=v/\v<=(dM c.scalar c.aQ c.ab s).ab)(a:l8 l v=some r):mO s c r:=by
 obtain⟨m,n,g,i⟩:=agn d e h;unfold l8 at a;split at a
 .rename_i j;injection a with a
  subst a;rw[d];refine afZ e ?_ λk b=>?_
  .have:=j.2
   rw[g,d] at this;rw[Jv,List.length_singleton];omega
  .rcases List.mem_append.1 b with b | b
   .exact i k b
   .rw[AH0] at b;subst b;exact f
 .cases a
def ax2{s:C_ Scalar}{c:ed}{l r:C_ Int}{v:Int}(b:l.length=1+c.cap.toNat)(d:1<=c.cap)(h:mO s c l)(a:od l=some (r,v)):mO s c r:=by
 obtain⟨m,e,n,f⟩:=agn b d h;unfold od at a;split at a
 .cases a
 .rename_i p q g;injection a with a
  injection a with i t
  subst i;rw[b];rw[g] at e f;exact afZ d (by simp only[List.length_cons] at e;omega) λj k=>f j (AG6 _ k)
def Oc{m:Model}{s t:C_ Int}{c:Nat}{n:Int}(a:Fits m s)(b:c<total (bU m)\/total (bU m)+total (cn m)<=c)(h:putAt m s c n=some t):Fits m t:=by
 have d:=Ep h;subst d;refine abt a b λe=>?_;unfold putAt AK at h;rw[List.getElem?_eq_getElem e] at h;simp only at h;split at h
 .cases h
 .omega
def Uc{m:Model}{q:Nat}(j:Nat):total (bU m)+total (cn m)<=b7 m q+j:=by unfold b7;omega
def P0{m:Model}(v:gm m){s t:C_ Int}{q p:Nat}{a:Act}(z:hI m q p)(e:q3 (inner (m.procs[p]'(z.aC)) (fw m)) a)(c:Fits m s)(h:hq m s q a=some t):Fits m t:=by
 have O:=e.kind;unfold hq at h;by_cases n:a.kind=5
 .rw[if_pos n] at h;have b:a.to.toNat<m.ay.length:=(e.chan (.inr n)).2;have f:=(v.chan _ (ID b)).cap.1;have g:(chanOf m s a.to.toNat).length=1+m.ay[a.to.toNat].cap.toNat:=by rw[pI (by rw[c.len];exact mn b),o4 b]
  unfold yb at h;cases d:od (chanOf m s a.to.toNat) with
  | none=>rw[d] at h;cases h
  | some A =>
   obtain⟨w,P⟩:=A;rw[d] at h;have i:=c.queue _ b;have r:chanOf m s a.to.toNat=lU m a.to.toNat m.ay[a.to.toNat] s:=by unfold chanOf lU;rw[o4 b]
   rw[<-r] at i;have k:=Iw d;have j:=Rj c b f (by rw[k,g,o4 b]) (ax2 g f i d);exact Oc j (.inr (by rw[AH6];exact Uc _)) h
 rw[if_neg n] at h;by_cases he:(eval a.value (cd m s q)).2≠0
 .rw[if_pos he] at h;cases h
 rw[if_neg he] at h;by_cases j:a.kind=1
 .rw[if_pos j] at h;obtain⟨_,B,C,G⟩:=e.set j;obtain⟨l,H⟩:=List.getElem?_eq_some_iff.1 C;have I:a.to.toNat<m.vars.length:=l;have x:=qZ I
  have:cells m.vars[a.to.toNat] m.scalars=1:=by
   have J:m.vars[a.to.toNat]=B:=H;rw[J];unfold cells;rw[if_pos G]
  exact Oc c (.inl (by rw[this] at x;omega)) h
 rw[if_neg j] at h;by_cases u:a.kind=2
 .rw[if_pos u] at h;have l:a.to.toNat<m.vars.length:=(e.item u).2.1;have x:=qZ l;have k:=BU l;unfold wi at h;split at h
  .cases h
  .rename_i K;exact Oc c (.inl AW) h
 rw[if_neg u] at h;by_cases y:a.kind=3
 .rw[if_pos y] at h;exact Oc c (.inr (by rw[AH6];exact Uc _)) h
 rw[if_neg y] at h;have L:a.kind=4:=AW
 have b:a.to.toNat<m.ay.length:=(e.chan (.inl L)).2;have f:=(v.chan _ (ID b)).cap.1;have g:(chanOf m s a.to.toNat).length=1+m.ay[a.to.toNat].cap.toNat:=by rw[pI (by rw[c.len];exact mn b),o4 b]
 have M:uf m a.to.toNat=dM m.ay[a.to.toNat].scalar m.ay[a.to.toNat].aQ m.ay[a.to.toNat].ab m.scalars:=by unfold uf;rw[List.getElem?_eq_getElem b]
 unfold u9 at h;rw[M] at h;split at h
 .cases h
 .rename_i K;cases d:l8 (chanOf m s a.to.toNat) (eval a.value (cd m s q)).1 with
  | none=>rw[d] at h;cases h
  | some w =>
   rw[d] at h;have r:hY s (bT m a.to.toNat) w=t:=by injection h
   rw[<-r];have i:=c.queue _ b;have N:chanOf m s a.to.toNat=lU m a.to.toNat m.ay[a.to.toNat] s:=by unfold chanOf lU;rw[o4 b]
   rw[<-N] at i;have k:=H5 d;exact Rj c b f (by rw[k,g,o4 b]) (avF g f i AW d)
theorem Zq{m:Model}(i:gm m){q p:Nat}(f:hI m q p):∀(d:C_ Act) (b c:C_ Int),(∀e∈d,q3 (inner (m.procs[p]'(f.aC)) (fw m)) e)->Fits m b->jo m q d b=some c->Fits m c
 | [],b,c,_,g,a=>by injection a with a;rw[<-a];exact g
 | e :: d,b,c,j,g,a=>by
  simp only[jo] at a;cases h:hq m b q e with
  | none=>rw[h] at a;cases a
  | some k =>
   rw[h] at a;exact Zq i f d k c (λl n=>j l (AG6 _ n)) (P0 i f (j e (AG3 ..)) g h) a
theorem TO{m:Model}:∀(g:C_ ee) (d:Nat) (a:c7),a∈kD m g d↔∃c,∃t:c<g.length,a.proc=((d+c:Nat):Int)/\((g[c].over=0/\a.elem=0)\/(1<=a.elem/\a.elem<=elems m g[c]))
 | [],d,a=>by simp[kD]
 | h :: n,d,a=>by
  simp only[kD,List.mem_append,TO n (d+1) a];have p:a∈jE d h↔a.proc=d/\h.over=0/\a.elem=0:=by
   unfold jE;split<;>rename_i l
   .rw[AH0];constructor
    .rintro rfl;exact⟨rfl,l,rfl⟩
    .rintro⟨f,_,i⟩;cases a;simp only at f i;rw[f,i]
   .simp[l]
  have q:a∈km d (elems m h)↔a.proc=d/\1<=a.elem/\a.elem<=elems m h:=by
   unfold km;rw[List.mem_map];constructor
   .rintro⟨u,r,rfl⟩
    have:=List.mem_range.1 r
    exact⟨rfl,by simp only;omega,by simp only;omega⟩
   .rintro⟨f,i,s⟩;refine⟨(a.elem - 1).toNat,List.mem_range.2 AW,?_⟩;cases a;simp only at f i s ⊢;rw[f];congr 1;omega
  rw[p,q];constructor
  .rintro((⟨e,b,j⟩ | ⟨e,b,j⟩) | ⟨c,k,e,b⟩)
   .exact⟨0,Ah,by simpa using e,.inl ⟨b,j⟩⟩
   .exact⟨0,Ah,by simpa using e,.inr ⟨b,j⟩⟩
   .exact⟨c+1,by simpa using k,by rw[e];congr 1;omega,by simpa using b⟩
  .rintro⟨c,k,e,b⟩;cases c with
   | zero =>
    rcases b with b | b
    .exact .inl (.inl ⟨by simpa using e,by simpa using b⟩)
    .exact .inl (.inr ⟨by simpa using e,by simpa using b⟩)
   | succ c=>exact .inr ⟨c,by simpa using k,by rw[e];congr 1;omega,by simpa using b⟩
def aa5(m:Model)(p:ee):((elems m p:Nat):Int)=size p.over m.scalars:=by
 unfold elems size nth;by_cases b:0<=p.over - 1
 .rw[if_pos b];cases m.scalars[(p.over - 1).toNat]? with
  | none=>rfl
  | some a =>
   simp only;by_cases c:a.size<1\/4<a.size
   .rw[if_pos c,if_neg AW];rfl
   .rw[if_neg c,if_pos AW];omega
 .rw[if_neg b];simp only;cases m.scalars[(p.over - 1).toNat]? with
  | none=>rfl
  | some a=>simp only;rw[if_neg AW];rfl
def hI.F2{m:Model}{q p:Nat}(h:hI m q p):((m.procs[p]'h.aC).over=0/\((insts m)[q]'h.av).elem=0)\/(1<=((insts m)[q]'h.av).elem/\((insts m)[q]'h.av).elem<=size (m.procs[p]'h.aC).over m.scalars):=by
 obtain⟨b,c,d,a⟩:=(TO m.procs 0 ((insts m)[q]'h.av)).1 (ID h.av)
 have:b=p:=by
  have:=h.eq
  omega
 subst this;rw[aa5] at a;exact a
def asc{m:Model}{p:Nat}{e:Int}(d:p<m.procs.length)(h:(m.procs[p].over=0/\e=0)\/(1<=e/\e<=size m.procs[p].over m.scalars)):∃a,∃b:hI m a p,((insts m)[a]'b.av).elem=e:=by
 have f:(⟨(p:Int),e⟩:c7)∈insts m:=(TO m.procs 0 _).2 ⟨p,d,Ah,by rw[aa5];exact h⟩;obtain⟨a,g,c⟩:=List.mem_iff_getElem.1 f;obtain⟨i,b⟩:=wh g
 have:i=p:=by
  have:=b.eq
  rw[c] at this;simp only at this;omega
 subst this;exact⟨a,b,by rw[c]⟩
def L4{m:Model}{q r:Nat}(b:q<(insts m).length)(c:r<(insts m).length)(h:(insts m)[q]=(insts m)[r]):q=r:=by
 have a:=(L5 (m:=m) m.procs 0).1;rw[AJ9] at a;rcases AK8 q r with I | I | I
 .have:((insts m)[q]).key<((insts m)[r]).key:=a q r b c I
  rw[h] at this;exact absurd this (AK4 _)
 .exact I
 .have:((insts m)[r]).key<((insts m)[q]).key:=a r q c b I
  rw[h] at this;exact absurd this (AK4 _)
structure jK(m:Model)(f:Int->Int->Int)(q q' p:Nat):Prop where
 a:hI m q p
 b:hI m q' p
 elem:((insts m)[q']'b.av).elem=f (m.procs[p]'a.aC).over ((insts m)[q]'a.av).elem
theorem jK.symm{m:Model}{f b:Int->Int->Int}(a:eN m.scalars f b){q q' p:Nat}(h:jK m f q q' p):jK m b q' q p:=⟨h.b,h.a,by rw[h.elem,a.l]⟩
def D2{m:Model}{f b:Int->Int->Int}(e:eN m.scalars f b){q p:Nat}(h:hI m q p):∃a,jK m f q a p:=by
 obtain⟨a,g,i⟩:=asc (e:=f (m.procs[p]'h.aC).over ((insts m)[q]'h.av).elem) h.aC (by
  rcases h.F2 with ⟨c,d⟩ | ⟨c,d⟩
  .exact .inl ⟨c,by rw[d];exact e.out _ _ (.inl AW)⟩
  .exact .inr (e.kC _ _ c d))
 exact⟨a,h,g,i⟩
theorem jK.one{m:Model}{f:Int->Int->Int}{q q' p r a:Nat}(h:jK m f q q' p)(k:jK m f q r a):q'=r/\p=a:=by
 have g:p=a:=by
  have l:=h.a.eq;have n:=k.a.eq;omega
 subst g;refine⟨L4 h.b.av k.b.av ?_,rfl⟩;have b:=h.elem;have c:=k.elem;have d:=h.b.eq;have e:=k.b.eq;generalize (insts m)[q']'h.b.av=i at *;generalize (insts m)[r]'k.b.av=j at *;cases i;cases j;simp only at b c d e;rw[b,c,d,e]
def jK.trans{m:Model}{f b:Int->Int->Int}{q q' c p d:Nat}(h:jK m f q q' p)(k:jK m b q' c d):jK m (λa e=>b a (f a e)) q c p:=by
 have g:d=p:=by
  have a:=h.b.eq;have i:=k.a.eq;omega
 subst g;exact⟨h.a,k.b,by rw[k.elem,h.elem]⟩
inductive gE (m:Model) (f:Int->Int->Int):Nat->Nat->Prop
 | var {i j j':Nat} (h:i<m.vars.length) (au:(j:Int)<cells m.vars[i] m.scalars) (aq:f m.vars[i].over (j+1)=j'+1):gE m f (dU m i+j) (dU m i+j')
 | chan {i j:Nat} (h:i<m.ay.length) (au:j<1+m.ay[i].cap.toNat):gE m f (bT m i+j) (bT m i+j)
 | inst {q q' p j:Nat} (h:jK m f q q' p) (au:j<1+(m.procs[p]'h.a.aC).vars.length):gE m f (b7 m q+j) (b7 m q'+j)
def sF{m:Model}{i j:Nat}(a:i<m.vars.length)(h:(j:Int)<cells m.vars[i] m.scalars) :
  (bD m)[dU m i+j]? = some ⟨1,i,j,(dM m.vars[i].scalar m.vars[i].aQ m.vars[i].ab m.scalars).aQ,(dM m.vars[i].scalar m.vars[i].aQ m.vars[i].ab m.scalars).ab,(dM m.vars[i].scalar m.vars[i].aQ m.vars[i].ab m.scalars).kind⟩:=by
 have c:i<(bU m).length:=by simpa[bU] using a
 have b:(bU m)[i]=q0 m.scalars m.vars[i]:=by simp[bU]
 have d:j<(bU m)[i].length:=by rw[b,vd];omega
 have e:=w6 1 (bU m) 0 i j c d;have k:=qZ a;have f:=T5 (m:=m) (c:=dU m i+j) AW;rw[f];unfold dU;rw[e];have g:(bU m)[i][j]=dM m.vars[i].scalar m.vars[i].aQ m.vars[i].ab m.scalars:=by simp only[b];simp[q0]
 rw[g,ZB]
def uQ{m:Model}{i j:Nat}(b:i<m.ay.length)(a:j<1+m.ay[i].cap.toNat) :
  (bD m)[bT m i+j]? = some ⟨2,i,j,((iM m.scalars m.ay[i])[j]'(by rw[o7];exact a)).aQ,((iM m.scalars m.ay[i])[j]'(by rw[o7];exact a)).ab,((iM m.scalars m.ay[i])[j]'(by rw[o7];exact a)).kind⟩:=by
 have d:i<(cn m).length:=by simpa[cn] using b
 have c:(cn m)[i]=iM m.scalars m.ay[i]:=by simp[cn]
 have e:j<(cn m)[i].length:=by rw[c,o7];exact a
 have f:=w6 2 (cn m) 0 i j d e;have g:=ud b;rw[Mm (m:=m) (c:=bT m i+j) (by unfold bT;omega) AW,show bT m i+j - total (bU m)=total ((cn m).take i)+j from by unfold bT;omega,f];simp only[c,Nat.zero_add]
def p0{m:Model}{q p j:Nat}(h:hI m q p)(a:j<1+(m.procs[p]'h.aC).vars.length) :
  (bD m)[b7 m q+j]? = some ⟨3,q,j,((kX m.scalars (m.procs[p]'h.aC))[j]'(by rw[pt];exact a)).aQ,((kX m.scalars (m.procs[p]'h.aC))[j]'(by rw[pt];exact a)).ab,((kX m.scalars (m.procs[p]'h.aC))[j]'(by rw[pt];exact a)).kind⟩:=by
 have c:q<(dH m).length:=by simpa[dH] using h.av
 have b:(dH m)[q]=kX m.scalars (m.procs[p]'h.aC):=by simp[dH,h.CX]
 have d:j<(dH m)[q].length:=by rw[b,pt];exact a
 have e:=w6 3 (dH m) 0 q j c d;rw[Mn (m:=m) (c:=b7 m q+j) (by unfold b7;omega),show b7 m q+j - (total (bU m)+total (cn m))=total ((dH m).take q)+j from by unfold b7;omega,e];simp only[b,Nat.zero_add]
theorem Z8{v:Var}{s:C_ Scalar}:cells v s=if v.over=0 then 1 else size v.over s:=rfl
def OY{m:Model}{f b:Int->Int->Int}(d:eN m.scalars f b){i:Nat}(h:i<m.vars.length){e:Int}(g:1<=e)(a:e<=cells m.vars[i] m.scalars):1<=f m.vars[i].over e/\f m.vars[i].over e<=cells m.vars[i] m.scalars:=by
 unfold cells at a ⊢;by_cases c:m.vars[i].over=0
 .rw[if_pos c] at a ⊢
  have:size m.vars[i].over m.scalars=0:=by
   rw[c];unfold size;split
   .rw[if_neg AW]
   .rfl
  rw[d.out _ _ (.inr AW)];omega
 .rw[if_neg c] at a ⊢;exact d.kC _ _ g a
theorem gE.symm{m:Model}{f b:Int->Int->Int}(d:eN m.scalars f b){c e:Nat}(h:gE m f c e):gE m b e c:=by
 cases h with
 | @var j g k h a i =>
  have l:=OY d h (e:=(g:Int)+1) AW AW;exact .var h AW (by rw[<-i,d.l])
 | chan h a=>exact .chan h a
 | inst h a=>exact .inst (h.symm d) a
theorem JA{m:Model}{f:Int->Int->Int}{c v d w:Nat}(h:gE m f c v)(k:gE m f d w)(e:c=d):v=w:=by
 have i:∀{s t:Cell},(bD m)[c]? = some s->(bD m)[d]? = some t->s=t:=λ{s t} q a=>by
  rw[e,a] at q;injection q with q
  exact q.symm
 cases h with
 | @var x r B h j C =>
  have g:=sF h j;cases k with
  | @var i2 u G a b y =>
   have:=i g (sF a b)
   injection this with _ l n
   have l:x=i2:=AW
   have n:r=u:=AW
   subst l n;omega
  | chan a b=>have:=i g (uQ a b);injection this with p;omega
  | inst a b=>have:=i g (p0 a.a b);injection this with p;omega
 | @chan x r h j =>
  have g:=uQ h j;cases k with
  | var a b y=>have:=i g (sF a b);injection this with p;omega
  | chan a b=>exact e
  | inst a b=>have:=i g (p0 a.a b);injection this with p;omega
 | @inst z H I r h j =>
  have g:=p0 h.a j;cases k with
  | var a b y=>have:=i g (sF a b);injection this with p;omega
  | chan a b=>have:=i g (uQ a b);injection this with p;omega
  | @inst A J K u a b =>
   have:=i g (p0 a.a b)
   injection this with _ l n
   have l:z=A:=AW
   have n:r=u:=AW
   subst l n;rw[(h.one a).1]
def JB{m:Model}{f b:Int->Int->Int}(a:eN m.scalars f b){c e d g:Nat}(h:gE m f c e)(k:gE m f d g):c=d↔e=g:=⟨JA h k,JA (h.symm a) (k.symm a)⟩
def C4{m:Model}(t:gm m){f b:Int->Int->Int}(j:eN m.scalars f b){c:Nat}(k:c<cG m):∃l,gE m f c l:=by
 have u:=zX m;unfold cG at k;by_cases n:c<total (bU m)
 .obtain⟨a,d,hw,e,h⟩:=Cp _ _ n;have g:a<m.vars.length:=by simpa[bU] using hw
  have bq:(bU m)[a]=q0 m.scalars m.vars[a]:=by simp[bU]
  rw[bq,vd] at e;have v:=OY j g (e:=(d:Int)+1) AW AW;refine⟨dU m a+(f m.vars[a].over (d+1) - 1).toNat,?_⟩;rw[show c=dU m a+d from h];exact .var g AW AW
 by_cases w:c<total (bU m)+total (cn m)
 .obtain⟨a,d,hw,e,h⟩:=Cp (cn m) (c - total (bU m)) AW;have g:a<m.ay.length:=by simpa[cn] using hw
  have bq:(cn m)[a]=iM m.scalars m.ay[a]:=by simp[cn]
  rw[bq,o7] at e;refine⟨c,?_⟩;rw[show c=bT m a+d from by unfold bT;omega];exact .chan g e
 .obtain⟨a,d,hw,e,h⟩:=Cp (dH m) (c - (total (bU m)+total (cn m))) AW;have g:a<(insts m).length:=by simpa[dH] using hw
  obtain⟨p,i⟩:=wh g;have q:(dH m)[a]=kX m.scalars (m.procs[p]'i.aC):=by simp[dH,i.CX]
  rw[q,pt] at e;obtain⟨r,s⟩:=D2 j i;refine⟨b7 m r+d,?_⟩;rw[show c=b7 m a+d from by unfold b7;omega];exact .inst s e
def pZ(m:Model)(c:Nat):Int:=match (bD m)[c]? with | some a=>a.kind | none=>0
def wj{m:Model}{c:Nat}{x:Cell}(h:(bD m)[c]? = some x):pZ m c=x.kind:=by unfold pZ;rw[h]
theorem gE.lay{m:Model}{f b:Int->Int->Int}(i:eN m.scalars f b){c l:Nat}(h:gE m f c l):∃a j,(bD m)[c]? = some a/\(bD m)[l]? = some j/\j.aQ=a.aQ/\j.ab=a.ab/\j.kind=a.kind /\
  ∀d,(a.aQ<=fl f a.kind d↔a.aQ<=d)/\(fl f a.kind d<=a.ab↔d<=a.ab):=by
 cases h with
 | @var k e p h g q =>
  have r:=OY i h (e:=(e:Int)+1) AW AW;exact⟨_,_,sF h g,sF h AW,rfl,rfl,rfl,λd=>Ib i _ _ _ d⟩
 | @chan k e h g =>
  refine⟨_,_,uQ h g,uQ h g,rfl,rfl,rfl,λd=>?_⟩;cases e with
  | zero=>exact⟨Iff.rfl,Iff.rfl⟩
  | succ e =>
   have n:(iM m.scalars m.ay[k])[e+1]'(by rw[o7];exact g)=kc m.scalars m.ay[k]:=by simp[iM]
   rw[n];exact Ib i _ _ _ d
 | @inst s t u e h g =>
  refine⟨_,_,p0 h.a g,p0 h.b g,rfl,rfl,rfl,λd=>?_⟩;cases e with
  | zero=>exact⟨Iff.rfl,Iff.rfl⟩
  | succ e =>
   simp only[kX,List.getElem_cons_succ,List.getElem_map];exact Ib i _ _ _ d
theorem gE.kind{m:Model}{f b:Int->Int->Int}(d:eN m.scalars f b){c a:Nat}(h:gE m f c a):pZ m a=pZ m c:=by
 obtain⟨j,k,e,g,_,_,i,_⟩:=h.lay d;rw[wj e,wj g,i]
def gE.lt{m:Model}{f b:Int->Int->Int}(d:eN m.scalars f b){c a:Nat}(h:gE m f c a):c<cG m/\a<cG m:=by
 obtain⟨i,j,e,g,_⟩:=h.lay d;exact⟨(List.getElem?_eq_some_iff.1 e).1,(List.getElem?_eq_some_iff.1 g).1⟩
def FG(a b c:Int)(s:C_ Scalar):(dM a b c s).kind=kindOf a:=by unfold dM kindOf;split<;>rfl
def Me{m:Model}{i j:Nat}(a:i<m.vars.length)(b:(j:Int)<cells m.vars[i] m.scalars):pZ m (dU m i+j)=kindOf m.vars[i].scalar:=by rw[wj (sF a b)];exact FG _ _ _ _
def TU{m:Model}{i:Nat}(a:i<m.ay.length):pZ m (bT m i)=0:=by
 have:=wj (uQ (m:=m) (i:=i) (j:=0) a AW)
 exact this
def aeM{m:Model}{i j:Nat}(a:i<m.ay.length)(c:j<m.ay[i].cap.toNat):pZ m (bT m i+(j+1))=kindOf m.ay[i].scalar:=by
 rw[wj (uQ (m:=m) (i:=i) (j:=j+1) a AW)];have b:(iM m.scalars m.ay[i])[j+1]'(by rw[o7];omega)=kc m.scalars m.ay[i]:=by simp[iM]
 simp only[b];exact FG _ _ _ _
def aeN{m:Model}{q p:Nat}(h:hI m q p):pZ m (b7 m q)=0:=wj (p0 (m:=m) (q:=q) (j:=0) h AW)
def TV{m:Model}{q p j:Nat}(h:hI m q p)(a:j<(m.procs[p]'h.aC).vars.length):pZ m (b7 m q+(j+1))=kindOf ((m.procs[p]'h.aC).vars[j]).scalar:=by
 rw[wj (p0 (m:=m) (q:=q) (j:=j+1) h AW)];simp only[kX,List.getElem_cons_succ,List.getElem_map];exact FG _ _ _ _
structure fL(m:Model)(f:Int->Int->Int)(s t:List Int):Prop where
 ls:s.length=cG m
 lt:t.length=cG m
 cell:∀c c5,gE m f c c5->t[c5]? = s[c]?.map (fl f (pZ m c))
theorem fL.symm{m:Model}{f b:Int->Int->Int}(a:eN m.scalars f b){s t:C_ Int}(h:fL m f s t):fL m b t s:=⟨h.lt,h.ls,λg d c=>by
 have e:=c.symm a.symm;rw[h.cell _ _ e,Option.map_map,c.kind a.symm];cases s[d]? with
 | none=>rfl
 | some i=>simp only[Option.map_some,Function.comp_apply,awH a]⟩
def fL.eq{m:Model}(e:gm m){f b:Int->Int->Int}(a:eN m.scalars f b){s t c:C_ Int}(h:fL m f s t)(k:fL m f s c):t=c:=by
 apply List.ext_getElem?;intro g;by_cases i:g<cG m
 .obtain⟨l,j⟩:=C4 e a.symm i;have d:=j.symm a.symm;rw[h.cell _ _ d,k.cell _ _ d]
 .rw[List.getElem?_eq_none (by rw[h.lt];omega),List.getElem?_eq_none (by rw[k.lt];omega)]
theorem gE.split{m:Model}{f b i q:Int->Int->Int}(k:eN m.scalars f b)(r:eN m.scalars i q){c d:Nat}(h:gE m (λl s=>i l (f l s)) c d):∃n,gE m f c n/\gE m i n d:=by
 cases h with
 | @var g e u h a t =>
  have v:=OY k h (e:=(e:Int)+1) AW AW;refine⟨dU m g+(f m.vars[g].over (e+1) - 1).toNat,.var h a AW,.var h AW ?_⟩;rw[show(((f m.vars[g].over (e+1) - 1).toNat:Nat):Int)+1=f m.vars[g].over (e+1) from AW];exact t
 | chan h a=>exact⟨_,.chan h a,.chan h a⟩
 | @inst w x y e h a =>
  obtain⟨z,j⟩:=D2 k h.a;obtain⟨A,p⟩:=D2 r j.b
  have:=(h.one (j.trans p)).1
  subst this;exact⟨_,.inst j a,.inst p a⟩
def fL.trans{m:Model}{f b a g:Int->Int->Int}(c:eN m.scalars f b)(i:eN m.scalars a g){s t d:C_ Int}(h:fL m f s t)(k:fL m a t d):fL m (λk j=>a k (f k j)) s d:=⟨h.ls,k.lt,λp q l=>by
 obtain⟨r,e,n⟩:=l.split c i;rw[k.cell _ _ n,h.cell _ _ e,Option.map_map,e.kind c];congr 1;funext u;simp only[Function.comp_apply];unfold fl;split<;>rfl⟩
def fL.set{m:Model}{f b:Int->Int->Int}(d:eN m.scalars f b){s t:C_ Int}(h:fL m f s t){c j:Nat}(e:gE m f c j)(n:Int):fL m f (s.set c n) (t.set j (fl f (pZ m c) n)):=⟨by rw[ZA];exact h.ls,by rw[ZA];exact h.lt,λk q g=>by
 obtain⟨l,p⟩:=e.lt d;rw[List.getElem?_set,List.getElem?_set];by_cases a:c=k
 .have i:=(JB d e g).1 a;subst a i;rw[if_pos rfl,if_pos rfl,if_pos (by rw[h.lt];exact p),if_pos (by rw[h.ls];exact l)];rfl
 .rw[if_neg a,if_neg (λi=>a ((JB d e g).2 i))];exact h.cell _ _ g⟩
def ZN{m:Model}{c:Nat}{x:Cell}(h:(bD m)[c]? = some x):AK m c=(x.aQ,x.ab):=by unfold AK;rw[h]
def Od{m:Model}{f b:Int->Int->Int}(d:eN m.scalars f b){s t e:C_ Int}(h:fL m f s t){c g:Nat}(i:gE m f c g){n:Int}(a:putAt m s c n=some e):∃j,putAt m t g (fl f (pZ m c) n)=some j/\fL m f e j:=by
 obtain⟨v,w,k,l,p,q,_,r⟩:=i.lay d;have u:=Ep a;unfold putAt at a;rw[ZN k] at a;simp only at a;split at a
 .cases a
 .rename_i x
  have:=r n
  rw[u];refine⟨_,?_,h.set d i n⟩;unfold putAt;rw[ZN l,wj k];simp only;rw[p,q,if_neg AW]
def nI(f:Int->Int->Int)(k:Int):C_ Int->C_ Int
 | []=>[]
 | a :: b=>a :: b.map (fl f k)
def Ic(f:Int->Int->Int)(k:Int)(l:C_ Int):(nI f k l).length=l.length:=by cases l<;>simp[nI]
def Vi(f:Int->Int->Int)(k:Int)(l:C_ Int):(nI f k l)[0]? = l[0]? := by cases l<;>rfl
def Vh(f:Int->Int->Int)(k:Int)(l:C_ Int)(j:Nat):(nI f k l)[j+1]? = l[j+1]?.map (fl f k):=by cases l<;>simp[nI]
theorem agP{s:C_ Scalar}{f b:Int->Int->Int}(c:eN s f b)(k:Int)(l:C_ Int):iV (nI f k l)=iV l:=by
 cases l with
 | nil=>rfl
 | cons g h =>
  have e:∀a,(fl f k a=0)=(a=0):=λa=>propext ⟨λd=>agO c (d.trans (Cb c k).symm),λd=>by rw[d];exact Cb c k⟩;simp only[nI,iV,List.length_map,<-List.map_drop,List.all_map];congr 2;funext a;simp only[Function.comp_apply,e]
def agQ{s:C_ Scalar}{f b:Int->Int->Int}(a:eN s f b)(k:Int)(l:C_ Int):iG (nI f k l)=(iG l).map (fl f k):=by
 unfold iG;rw[agP a];split
 .cases l with
  | nil=>simp[nI]
  | cons c d=>simp[nI,List.map_take]
 .rfl
theorem agR{s:C_ Scalar}{f b:Int->Int->Int}(a:eN s f b)(k:Int)(n:Nat)(l:C_ Int):p5 n (l.map (fl f k))=nI f k (p5 n l):=by
 unfold p5;simp only[nI,List.length_map,List.map_map];congr 1;apply AJ1;intro c _;simp only[Function.comp_apply,List.getD,List.getElem?_map];cases l[c]? with
 | none=>simp[Cb a]
 | some d=>rfl
def awI{s:C_ Scalar}{f b:Int->Int->Int}(a:eN s f b)(k:Int)(l:C_ Int)(v:Int):l8 (nI f k l) (fl f k v)=(l8 l v).map (nI f k):=by
 have c:(nI f k l).headD 0=l.headD 0:=by cases l<;>rfl
 unfold l8;rw[agP a,c,Ic,agQ a];split
 .rw[AI3,<-agR a,AF8];rfl
 .rfl
theorem awJ{s:C_ Scalar}{f b:Int->Int->Int}(a:eN s f b)(k:Int)(l:C_ Int):od (nI f k l)=(od l).map λc=>(nI f k c.1,fl f k c.2):=by
 unfold od;rw[agQ a,Ic];cases iG l with
 | nil=>rfl
 | cons d e=>simp only[List.map_cons,Option.map_some,agR a]
def fL.chan{m:Model}{f b:Int->Int->Int}(k:eN m.scalars f b){s t:C_ Int}(h:fL m f s t){i:Nat}(c:i<m.ay.length):chanOf m t i=nI f (kindOf m.ay[i].scalar) (chanOf m s i):=by
 have l:=mn c;have n:=o4 c;apply List.ext_getElem?;intro a;have d:∀g:C_ Int,(chanOf m g i)[a]? = if a<1+gq m i then g[bT m i+a]? else none:=λg=>by
  unfold chanOf;rw[List.getElem?_take,List.getElem?_drop]
 by_cases e:a<1+gq m i
 .have j:=h.cell _ _ (gE.chan (f:=f) (j:=a) c AW);cases a with
  | zero =>
   rw[Vi,d,d,if_pos e,if_pos e,j,AH1,TU c];cases s[bT m i]? with
   | none=>rfl
   | some p=>rfl
  | succ a=>rw[Vh,d,d,if_pos e,if_pos e,j,aeM c AW]
 .rw[List.getElem?_eq_none (by rw[pI (by rw[h.lt];omega)];omega),List.getElem?_eq_none (by rw[Ic,pI (by rw[h.ls];omega)];omega)]
def fL.D3{m:Model}{f b:Int->Int->Int}(w:eN m.scalars f b){s t:C_ Int}(h:fL m f s t){i:Nat}(g:i<m.ay.length){l:C_ Int}(y:l.length=1+gq m i):fL m f (hY s (bT m i) l) (hY t (bT m i) (nI f (kindOf m.ay[i].scalar) l)):=by
 have z:=mn g;have A:=o4 g;have k:bT m i+l.length<=s.length:=by rw[h.ls];omega
 have n:bT m i+(nI f (kindOf m.ay[i].scalar) l).length<=t.length:=by rw[Ic,h.lt];omega
 refine⟨by rw[BM k];exact h.ls,by rw[BM n];exact h.lt,λc p j=>?_⟩;rw[xV k,xV n,Ic];have q:∀a,bT m i<=a->a<bT m i+l.length->gE m f a a:=λa r u=>by
  have:=gE.chan (f:=f) (j:=a - bT m i) g AW
  rwa[show bT m i+(a - bT m i)=a from AW] at this
 by_cases d:bT m i<=c/\c<bT m i+l.length
 .have v:c=p:=JA (q c d.1 d.2) j rfl;subst v;rw[if_pos d,if_pos d];obtain⟨e,x⟩:∃e,c=bT m i+e:=⟨c - bT m i,AW⟩;subst x;rw[show bT m i+e - bT m i=e from AW];cases e with
  | zero =>
   rw[Vi,AH1,TU g];cases l[0]? with
   | none=>rfl
   | some a=>rfl
  | succ e=>rw[Vh,aeM g AW]
 .rw[if_neg d,if_neg]
  .exact h.cell _ _ j
  .rintro⟨r,u⟩;have v:=(JB w j (q p r u)).2 rfl;exact d ⟨AW,AW⟩
def fL.fits{m:Model}(v:gm m){f b:Int->Int->Int}(c:eN m.scalars f b){s t:C_ Int}(h:fL m f s t)(r:Fits m s):Fits m t:=by
 refine⟨h.lt,λa i=>?_,λw j U=>?_⟩
 .have u:=r.queue a i;have x:∀k,lU m a m.ay[a] k=chanOf m k a:=λk=>by unfold lU chanOf;rw[o4 i]
  rw[x] at u ⊢;rw[h.chan c i];obtain⟨y,z,l,d,A⟩:=u;refine⟨y,by rw[Vi];exact z,l,d,λB C=>?_⟩;obtain⟨g,G,H,I⟩:=A B C
  have:=Ib c m.ay[a].scalar m.ay[a].aQ m.ay[a].ab g
  rw[FG] at this;refine⟨fl f (kindOf m.ay[a].scalar) g,by rw[Vh,G];rfl,λn=>?_,λn=>?_⟩
  .have:=H n;omega
  .rw[I n];exact Cb c _
 .obtain⟨e,J⟩:=C4 v c.symm (by rw[h.lt] at j;exact j);have p:=J.symm c.symm;obtain⟨g,K,q,L,M,N,V,O⟩:=p.lay c;have jU:e<s.length:=by rw[h.ls];exact(p.lt c).1
  have P:e<(bD m).length:=(List.getElem?_eq_some_iff.1 q).1;have l:=r.cell e jU P;have d:=h.cell _ _ p;rw[List.getElem?_eq_getElem jU,List.getElem?_eq_getElem j,wj q] at d;have Q:(bD m)[e]=g:=(List.getElem?_eq_some_iff.1 q).2;have S:(bD m)[w]=K:=(List.getElem?_eq_some_iff.1 L).2;injection d with d
  rw[d,S,M,N];rw[Q] at l
  have:=O s[e]
  omega
def ahD(s:C_ Scalar):size 0 s=0:=by
 unfold size;split
 .rw[if_neg AW]
 .rfl
theorem eN.none{s:C_ Scalar}{f b:Int->Int->Int}(h:eN s f b)(e:Int):f 0 e=e:=h.out 0 e (by rw[ahD];omega)
def asg{m:Model}{f b:Int->Int->Int}(e:eN m.scalars f b):∃k:Nat->Nat,(∀a,a<(insts m).length->∃c,jK m f a (k a) c)/\((List.range (insts m).length).map k).Perm (List.range (insts m).length):=by
 have g:∀a,∃h,a<(insts m).length->∃c,jK m f a h c:=λa=>by
  by_cases d:a<(insts m).length
  .obtain⟨c,i⟩:=wh d;obtain⟨h,j⟩:=D2 e i;exact⟨h,λ_=>⟨c,j⟩⟩
  .exact⟨a,λj=>absurd j d⟩
 refine⟨λa=>Classical.choose (g a),λa=>Classical.choose_spec (g a),?_⟩;refine N7 _ _ AL4 Ah λp l=>?_;obtain⟨c,i⟩:=wh (List.mem_range.1 l);obtain⟨a,d⟩:=D2 e.symm i;obtain⟨q,n⟩:=Classical.choose_spec (g a) d.b.av;exact List.mem_map.2 ⟨a,List.mem_range.2 d.b.av,(n.one (d.symm e.symm)).1⟩
theorem fL.loc{m:Model}{f:Int->Int->Int}{s t:C_ Int}(h:fL m f s t){q q' p:Nat}(a:jK m f q q' p):t[b7 m q']? = s[b7 m q]? := by
 have:=h.cell _ _ (gE.inst (j:=0) a AW)
 rw[AH1,AH1,aeN a.a] at this;rw[this];cases s[b7 m q]? with
 | none=>rfl
 | some b=>rfl
def alO{m:Model}{f b:Int->Int->Int}(d:eN m.scalars f b){s t:C_ Int}(h:fL m f s t)(p l:Int):s9 m t p l (insts m).length=s9 m s p l (insts m).length:=by
 obtain⟨e,g,i⟩:=asg d;unfold s9;rw[<-(i.filter _).length_eq,List.filter_map,AG7];congr 1;refine List.filter_congr λc j=>?_;obtain⟨n,a⟩:=g c (List.mem_range.1 j);have k:(insts m)[e c]?.map (·.proc)=(insts m)[c]?.map (·.proc):=by
  rw[List.getElem?_eq_getElem a.a.av,List.getElem?_eq_getElem a.b.av,AI3,AI3,a.a.eq,a.b.eq]
 simp only[Function.comp_apply,k,h.loc a]
def awZ{m:Model}{f b:Int->Int->Int}(a:eN m.scalars f b){s t:C_ Int}(h:fL m f s t)(p:Nat)(n:Int):ka m t p n (insts m).length=ka m s p n (insts m).length:=by
 unfold ka;exact AJ1 λc _=>by rw[alO a h]
def Af(s:C_ Int)(a n j:Nat):((s.drop a).take n)[j]? = if j<n then s[a+j]? else none:=by rw[List.getElem?_take,List.getElem?_drop]
def ayD{m:Model}{f b:Int->Int->Int}(g:eN m.scalars f b){s t:C_ Int}(h:fL m f s t)(inst j:Int)(i:Nat)(x:Var)(k:m.vars[i]? = some x)(c:x.over=0) :
  ∃d e,(cd m s inst).vars[i]? = some d/\(cd m t j).vars[i]? = some e/\e[0]? = d[0]?.map (fl f (kindOf x.scalar)):=by
 obtain⟨a,rfl⟩:=List.getElem?_eq_some_iff.1 k;refine⟨_,_,Cj a,Cj a,?_⟩;have n:cells m.vars[i] m.scalars=1:=by unfold cells;rw[if_pos c]
 have l:=h.cell _ _ (gE.var (j:=0) (j':=0) a AW (by rw[c,g.none]));rw[Af,Af,if_pos AW,if_pos AW,l,Me a AW]
def ayC{m:Model}{f b:Int->Int->Int}(e:eN m.scalars f b){s t:C_ Int}(h:fL m f s t)(inst l:Int)(i:Nat)(x:Var)(n:m.vars[i]? = some x)(p:x.over≠0) :
  ∃g j,(cd m s inst).vars[i]? = some g/\(cd m t l).vars[i]? = some j/\∀a:Int,nth j (f x.over a - 1)=(nth g (a - 1)).map (fl f (kindOf x.scalar)):=by
 obtain⟨c,rfl⟩:=List.getElem?_eq_some_iff.1 n;refine⟨_,_,Cj c,Cj c,λa=>?_⟩;have r:cells m.vars[i] m.scalars=size m.vars[i].over m.scalars:=by unfold cells;rw[if_neg p]
 unfold nth;by_cases he:1<=a/\a<=size m.vars[i].over m.scalars
 .have k:=e.kC m.vars[i].over a he.1 he.2;have q:=h.cell _ _ (gE.var (j:=(a - 1).toNat) (j':=(f m.vars[i].over a - 1).toNat) c AW (by rw[show(((a - 1).toNat:Nat):Int)+1=a from AW];omega));rw[if_pos AW,if_pos AW,Af,Af,if_pos AW,if_pos AW,q,Me c AW]
 .have k:=e.out m.vars[i].over a AW;rw[k];by_cases d:0<=a - 1
  .rw[if_pos d,if_pos d,Af,Af,if_neg AW,if_neg AW];rfl
  .rw[if_neg d,if_neg d];rfl
theorem atc{m:Model}{f:Int->Int->Int}{s t:C_ Int}(h:fL m f s t)(inst c:Int):(cd m t c).lens=(cd m s inst).lens:=by
 simp only[cd];refine AJ1 λd a=>?_;have a:=List.mem_range.1 a;have b:=h.cell _ _ (gE.chan (f:=f) (j:=0) a AW);rw[AH1,TU a] at b;rw[List.getElem!_eq_getElem?_getD,List.getElem!_eq_getElem?_getD,b];cases s[bT m d]? with
 | none=>rfl
 | some e=>rfl
def aj0{m:Model}{f b:Int->Int->Int}(a:eN m.scalars f b){s t:C_ Int}(h:fL m f s t)(inst c:Int):(cd m t c).at_=(cd m s inst).at_:=by
 simp only[cd];exact AJ1 λd _=>awZ a h _ _
def aa7{m:Model}{f b:Int->Int->Int}(d:eN m.scalars f b){s t:C_ Int}(h:fL m f s t){q q' p:Nat}(a:jK m f q q' p):E9 (inner (m.procs[p]'a.a.aC) (fw m)) f (cd m s q) (cd m t q'):=by
 refine⟨ayD d h _ _,ayC d h _ _,λc j e=>?_,atc h _ _,aj0 d h _ _,?_⟩
 .have e:(m.procs[p]'a.a.aC).vars[c]? = some j:=e;obtain⟨g,rfl⟩:=List.getElem?_eq_some_iff.1 e;have k:(kj m ((insts m)[q]'a.a.av)).length - 1=(m.procs[p]'a.a.aC).vars.length:=by rw[a.a.CX,pt];omega
  have l:(kj m ((insts m)[q']'a.b.av)).length - 1=(m.procs[p]'a.a.aC).vars.length:=by rw[a.b.CX,pt];omega
  rw[(ym s a.a.av rfl).1,(ym t a.b.av rfl).1,k,l,Af,Af,if_pos g,if_pos g];have n:=h.cell _ _ (gE.inst (j:=c+1) a AW);rw[show b7 m q'+1+c=b7 m q'+(c+1) from AW,show b7 m q+1+c=b7 m q+(c+1) from AW,n,TV a.a g]
 .rw[(ym s a.a.av rfl).2,(ym t a.b.av rfl).2,a.elem];have r:(inner (m.procs[p]'a.a.aC) (fw m)).self=(m.procs[p]'a.a.aC).over:=rfl;rw[r];rcases a.a.F2 with ⟨i,u⟩ | ⟨i,u⟩
  .rw[i,d.none];rfl
  .have v:0<(m.procs[p]'a.a.aC).over:=by
    apply Classical.byContradiction;intro y
    have:size (m.procs[p]'a.a.aC).over m.scalars=0:=by
     unfold size;split
     .rw[if_neg AW]
     .rfl
    omega
   obtain⟨w,x⟩:=aeP v;unfold fl;rw[if_pos x,w]
def ZD{e:C_ Node}{k:Int}{s:Scope}(h:asked e k s=0):(kind e s).2=0/\(kind e s).1=k:=by
 unfold asked at h;by_cases a:(kind e s).2≠0
 .rw[if_pos a] at h;exact absurd h a
 rw[if_neg a] at h;by_cases b:(kind e s).1≠k
 .rw[if_pos b] at h;cases h
 .exact⟨by simpa using a,by simpa using b⟩
def ah5{a b:Int}{s:Scope}(h:(ln a b s).2=true):(ln a b s).1=kindOf a:=by
 unfold ln at h ⊢;unfold kindOf;by_cases c:a<0\/(s.scalars.length:Int)<a\/b<0\/(s.scalars.length:Int)<b
 .rw[if_pos c] at h;cases h
 .rw[if_neg c] at h ⊢;split
  .rfl
  .simp only;omega
theorem aaE{l:C_ Var}{n:Int}{s:Scope}{v:Var}{k:Int}(h:declared l n s=some (v,k)):0<=n/\l[n.toNat]? = some v/\k=kindOf v.scalar:=by
 obtain⟨b,c,_⟩:=QL h;refine⟨b,c,?_⟩;unfold declared at h;cases a:nth l n with
 | none=>rw[a] at h;cases h
 | some g =>
  rw[a] at h;simp only at h;split at h
  .rename_i d;injection h with h
   injection h with e f
   subst e;rw[<-f,ah5 d]
  .cases h
theorem aag{n:Int}{s:Scope}{k:Int}(h:channel n s=some k):0<=n/\∃a,s.ay[n.toNat]? = some a/\k=kindOf a.scalar:=by
 unfold channel at h;cases b:nth s.ay n with
 | none=>rw[b] at h;cases h
 | some a =>
  rw[b] at h;simp only at h;split at h
  .rename_i c;injection h with h
   exact⟨(UE b).1,a,(UE b).2,by rw[<-h,ah5 c]⟩
  .cases h
def ak4{m:Model}{i:Nat}(a:i<m.ay.length):uf m i=dM m.ay[i].scalar m.ay[i].aQ m.ay[i].ab m.scalars:=by unfold uf;rw[List.getElem?_eq_getElem a]
def ajz{m:Model}{f b:Int->Int->Int}(j:eN m.scalars f b){s t P:C_ Int}{q q' p:Nat}{a:Act}(g:jK m f q q' p)(c:lx a (inner (m.procs[p]'g.a.aC) (fw m))=0)(h:fL m f s t)(d:hq m s q a=some P):∃Q,hq m t q' a=some Q/\fL m f P Q:=by
 have X:=aa7 j h g;have J:∀{n:C_ Node} {r:Int},asked n r (inner (m.procs[p]'g.a.aC) (fw m))=0->eval n (cd m t q')=(fl f r (eval n (cd m s q)).1,(eval n (cd m s q)).2):=λ{n r} u=>by
  obtain⟨C,y⟩:=ZD u;rw[abe j X C,y]
 unfold lx at c;unfold hq at d ⊢;by_cases G:a.kind=5
 .rw[if_neg AW,if_pos AW] at c;rw[if_pos G] at d ⊢;cases e:channel a.to (inner (m.procs[p]'g.a.aC) (fw m)) with
  | none=>rw[e] at c;cases c
  | some r =>
   rw[e] at c;simp only at c;rw[if_pos G] at c;obtain⟨Y,K,bg,bj⟩:=aag e;have bg:m.ay[a.to.toNat]? = some K:=bg;obtain⟨k,rfl⟩:=List.getElem?_eq_some_iff.1 bg;unfold Eu at c;cases v:declared (inner (m.procs[p]'g.a.aC) (fw m)).locals a.loc (inner (m.procs[p]'g.a.aC) (fw m)) with
   | none=>rw[v] at c;cases c
   | some L =>
    obtain⟨l,Z⟩:=L;rw[v] at c;simp only at c;split at c
    .cases c
    rename_i w;obtain⟨ab,i,B⟩:=aaE v;have i:(m.procs[p]'g.a.aC).vars[a.loc.toNat]? = some l:=i;obtain⟨M,rfl⟩:=List.getElem?_eq_some_iff.1 i;have ae:Z=r:=Classical.byContradiction λn=>w (.inr n);unfold yb at d ⊢;rw[h.chan j k,awJ j];cases x:od (chanOf m s a.to.toNat) with
    | none=>rw[x] at d;cases d
    | some af =>
     obtain⟨N,al⟩:=af;rw[x] at d;simp only[Option.map_some] at d ⊢;have ag:=mn k;have O:N.length=1+gq m a.to.toNat:=by rw[Iw x,pI (by rw[h.ls];omega)]
     have z:=h.D3 j k O;have e:=gE.inst (j:=a.loc.toNat+1) g AW;rw[show b7 m q+(a.loc.toNat+1)=b7 m q+1+a.loc.toNat from AW,show b7 m q'+(a.loc.toNat+1)=b7 m q'+1+a.loc.toNat from AW] at e;have u:=TV g.a M;rw[show b7 m q+(a.loc.toNat+1)=b7 m q+1+a.loc.toNat from AW,<-B,ae,bj] at u
     have:=Od j z e d
     rw[u] at this;exact this
 rw[if_neg G] at d ⊢;by_cases he:(eval a.value (cd m s q)).2≠0
 .rw[if_pos he] at d;cases d
 rw[if_neg he] at d;have an:(eval a.value (cd m s q)).2=0:=by simpa using he
 by_cases S:a.kind=1\/a.kind=2\/a.kind=3
 .rw[if_pos S] at c;cases v:declared (if a.kind=3 then (inner (m.procs[p]'g.a.aC) (fw m)).locals else (inner (m.procs[p]'g.a.aC) (fw m)).vars) a.to (inner (m.procs[p]'g.a.aC) (fw m)) with
  | none=>rw[v] at c;cases c
  | some L =>
   obtain⟨l,r⟩:=L;rw[v] at c;simp only at c;by_cases A:(l.over≠0)≠(a.kind=2)
   .rw[if_pos A] at c;cases c
   rw[if_neg A] at c;have A:(l.over≠0)=(a.kind=2):=Classical.byContradiction λq=>A q;by_cases H:a.kind=2/\asked a.index (1+l.over) (inner (m.procs[p]'g.a.aC) (fw m))≠0
   .rw[if_pos H] at c;exact absurd c H.2
   rw[if_neg H] at c;obtain⟨ab,i,B⟩:=aaE v;rw[J c];simp only;rw[if_neg he];by_cases C:a.kind=1
   .rw[if_pos C] at d ⊢;rw[if_neg AW] at i;have i:m.vars[a.to.toNat]? = some l:=i;obtain⟨k,rfl⟩:=List.getElem?_eq_some_iff.1 i;have I:m.vars[a.to.toNat].over=0:=Classical.byContradiction λw=>by
     have:a.kind=2:=A ▸ w
     omega
    have ah:cells m.vars[a.to.toNat] m.scalars=1:=by unfold cells;rw[if_pos I]
    have e:=gE.var (f:=f) (j:=0) (j':=0) k AW (by rw[I,j.none])
    have:=Od j h e d
    rw[Me k AW,<-B] at this;exact this
   rw[if_neg C] at d ⊢;by_cases y:a.kind=2
   .rw[if_pos y] at d ⊢;rw[if_neg AW] at i;have i:m.vars[a.to.toNat]? = some l:=i;obtain⟨k,rfl⟩:=List.getElem?_eq_some_iff.1 i;have I:m.vars[a.to.toNat].over≠0:=A.symm ▸ y;have ai:asked a.index (1+m.vars[a.to.toNat].over) (inner (m.procs[p]'g.a.aC) (fw m))=0:=Classical.byContradiction λw=>H ⟨y,w⟩;have ah:cells m.vars[a.to.toNat] m.scalars=size m.vars[a.to.toNat].over m.scalars:=by unfold cells;rw[if_neg I]
    rw[J ai];unfold wi at d ⊢;simp only;split at d
    .cases d
    rename_i w;have ao:=BU k;have aq:0<m.vars[a.to.toNat].over:=by
     apply Classical.byContradiction;intro ar
     have:size m.vars[a.to.toNat].over m.scalars=0:=by
      unfold size;split
      .rw[if_neg AW]
      .rfl
     omega
    have aj:fl f (1+m.vars[a.to.toNat].over) (eval a.index (cd m s q)).1=f m.vars[a.to.toNat].over (eval a.index (cd m s q)).1:=by
     unfold fl;rw[if_pos AW,show 1+m.vars[a.to.toNat].over - 1=m.vars[a.to.toNat].over from AW]
    rw[aj];have z:=j.kC m.vars[a.to.toNat].over (eval a.index (cd m s q)).1 AW AW;rw[if_neg AW];have e:=gE.var (f:=f) (j:=(eval a.index (cd m s q)).1.toNat - 1) (j':=(f m.vars[a.to.toNat].over (eval a.index (cd m s q)).1).toNat - 1) k AW (by
     rw[show(((eval a.index (cd m s q)).1.toNat - 1:Nat):Int)+1=(eval a.index (cd m s q)).1 from AW];omega)
    have U:=Me (m:=m) (j:=(eval a.index (cd m s q)).1.toNat - 1) k AW;rw[show dU m a.to.toNat+((eval a.index (cd m s q)).1.toNat - 1)=dU m a.to.toNat+(eval a.index (cd m s q)).1.toNat - 1 from AW] at e U;rw[show dU m a.to.toNat+((f m.vars[a.to.toNat].over (eval a.index (cd m s q)).1).toNat - 1)=dU m a.to.toNat+(f m.vars[a.to.toNat].over (eval a.index (cd m s q)).1).toNat - 1 from AW] at e
    have:=Od j h e d
    rw[U,<-B] at this;exact this
   rw[if_neg y] at d ⊢;have V:a.kind=3:=AW
   rw[if_pos V] at d ⊢;rw[if_pos V] at i;have i:(m.procs[p]'g.a.aC).vars[a.to.toNat]? = some l:=i;obtain⟨M,rfl⟩:=List.getElem?_eq_some_iff.1 i;have e:=gE.inst (j:=a.to.toNat+1) g AW;have u:=TV g.a M;rw[show b7 m q+(a.to.toNat+1)=b7 m q+1+a.to.toNat from AW] at e u;rw[show b7 m q'+(a.to.toNat+1)=b7 m q'+1+a.to.toNat from AW] at e
   have:=Od j h e d
   rw[u,<-B] at this;exact this
 .rw[if_neg S] at c;by_cases W:a.kind=4\/a.kind=5
  .rw[if_pos W] at c;cases e:channel a.to (inner (m.procs[p]'g.a.aC) (fw m)) with
   | none=>rw[e] at c;cases c
   | some r =>
    rw[e] at c;simp only at c;rw[if_neg G] at c;obtain⟨Y,K,bg,bj⟩:=aag e;have bg:m.ay[a.to.toNat]? = some K:=bg;obtain⟨k,rfl⟩:=List.getElem?_eq_some_iff.1 bg;rw[J c];simp only;rw[if_neg he];rw[if_neg AW,if_neg AW,if_neg AW] at d ⊢;unfold u9 at d ⊢;have ak:=Ib j m.ay[a.to.toNat].scalar m.ay[a.to.toNat].aQ m.ay[a.to.toNat].ab (eval a.value (cd m s q)).1;rw[FG,<-bj] at ak;rw[ak4 k] at d ⊢;split at d
    .cases d
    rename_i w;rw[if_neg AW,h.chan j k,<-bj,awI j];cases x:l8 (chanOf m s a.to.toNat) (eval a.value (cd m s q)).1 with
    | none=>rw[x] at d;cases d
    | some N =>
     rw[x] at d;simp only[Option.map_some] at d ⊢;have ag:=mn k;have O:N.length=1+gq m a.to.toNat:=by rw[H5 x,pI (by rw[h.ls];omega)]
     have z:=h.D3 j k O;rw[<-bj] at z;injection d with d
     rw[d] at z;exact⟨_,rfl,z⟩
  .rw[if_neg W] at c;cases c
theorem Zr{m:Model}{f b:Int->Int->Int}(l:eN m.scalars f b){q q' p:Nat}(i:jK m f q q' p):∀(c:C_ Act) (d e g:C_ Int),(∀h∈c,lx h (inner (m.procs[p]'i.a.aC) (fw m))=0)->fL m f d e->jo m q c d=some g->∃n,jo m q' c e=some n/\fL m f g n
 | [],d,e,g,_,j,a=>by
  injection a with a
  subst a;exact⟨e,rfl,j⟩
 | h :: c,d,e,g,r,j,a=>by
  simp only[jo] at a ⊢;cases k:hq m d q h with
  | none=>rw[k] at a;cases a
  | some s =>
   rw[k] at a;obtain⟨t,u,v⟩:=ajz l i (r h (AG3 ..)) j k;rw[u];exact Zr l i c s t g (λw x=>r w (AG6 _ x)) v a
theorem Zl{s:Scope}:∀(f:C_ Act) (g:Nat) (d:Bool),(mm s f g d).2=0->∀b∈f,lx b s=0
 | [],_,_,_,b,a=>by cases a
 | h :: j,g,d,a,b,e=>by
  unfold mm at a;by_cases i:(h2 h&&d)=true
  .rw[if_pos i] at a;cases a
  rw[if_neg i] at a;by_cases c:lx h s≠0
  .rw[if_pos c] at a;exact absurd a c
  rw[if_neg c] at a;rcases List.mem_cons.1 e with rfl | e
  .simpa using c
  .exact Zl j _ _ a b e
structure IS(s:Scope)(c:et):Prop where
 guard:0<c.guard.length->asked c.guard 1 s=0
 b6:∀a∈c.b6,lx a s=0
def alz{m:Model}(h:(check m).bN=0){p k:Nat}(d:p<m.procs.length)(e:k<m.procs[p].cL.length):IS (inner m.procs[p] (fw m)) m.procs[p].cL[k]:=by
 obtain⟨f,_,_⟩:=N9 (QB h);obtain⟨_,g,_,_⟩:=Dg d (f p d);obtain⟨_,_,i⟩:=U0 g;have j:h0 m (p:Int)=inner m.procs[p] (fw m):=by
  unfold h0;rw[ir AW AW];rfl
 have a:=(JI _ _ i k e).1;rw[j] at a;have a:(jP m.procs[p].cL[k] m.procs[p].cb (inner m.procs[p] (fw m))).2=0:=a;unfold jP at a;by_cases c:head m.procs[p].cL[k] m.procs[p].cb≠0
 .rw[if_pos c] at a;exact absurd a c
 rw[if_neg c] at a;by_cases b:m.procs[p].cL[k].guard.length > 0/\asked m.procs[p].cL[k].guard 1 (inner m.procs[p] (fw m))≠0
 .rw[if_pos b] at a;exact absurd a b.2
 rw[if_neg b] at a;exact⟨λl=>Classical.byContradiction λn=>b ⟨l,n⟩,Zl _ _ _ a⟩
theorem aam{m:Model}{f b:Int->Int->Int}(e:eN m.scalars f b){s t i:C_ Int}{q q' p:Nat}{c:et}(d:jK m f q q' p)(j:IS (inner (m.procs[p]'d.a.aC) (fw m)) c)(h:fL m f s t)(a:hr m s q c=some i):∃k,hr m t q' c=some k/\fL m f i k:=by
 unfold hr at a ⊢;rw[h.loc d];split at a
 .cases a
 rename_i n;rw[if_neg n];split at a
 .cases a
 rename_i r;have u:¬(0<c.guard.length/\((eval c.guard (cd m t q')).2≠0\/(eval c.guard (cd m t q')).1=0)):=by
  by_cases l:0<c.guard.length
  .obtain⟨v,w⟩:=ZD (j.guard l);rw[abe e (aa7 e h d) v,w,Ac _ _ Ae];exact r
  .exact λx=>l x.1
 rw[if_neg u];cases g:jo m q c.b6 s with
 | none=>rw[g] at a;cases a
 | some A =>
  rw[g] at a;obtain⟨B,y,z⟩:=Zr e d _ _ _ _ j.b6 h g;rw[y];simp only[Option.map_some,Option.some.injEq] at a ⊢
  have:=z.set e (gE.inst (j:=0) d AW) c.to
  rw[AH1,AH1,aeN d.a,Ac _ _ Ae,a] at this;exact⟨_,rfl,this⟩
theorem alE{m:Model}{f b:Int->Int->Int}(a:eN m.scalars f b){s t:C_ Int}{q q' p:Nat}{c:et}(d:jK m f q q' p)(g:IS (inner (m.procs[p]'d.a.aC) (fw m)) c)(h:fL m f s t)(i:hr m s q c=none):hr m t q' c=none:=by
 cases j:hr m t q' c with
 | none=>rfl
 | some k =>
  obtain⟨l,e,_⟩:=aam a.symm (d.symm a) g (h.symm a) j;rw[i] at e;cases e
end o