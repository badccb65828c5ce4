/- Parts. -/
import Derived.Test.YtlhljkikdhblbaaGreatDoorQsml
set_option linter.all false
set_option maxRecDepth 4000
set_option maxHeartbeats 3200000
namespace Go.Proofs.R
open Go Go.RowKit ba o
def awE(cs ys:C_ B_)(v:B_)(m:o.Model)(s:C_ Int)(p:Nat)(w:A_)(h:dU w cs m)(X:m.cB)(y:gh m)(Y:lM w ys (o.layout m))(z:cl w v s)(G:o.Fits m s)(H:p<m.procs.length) :
  EL F.NJ #[.agg cs.toArray,.agg ys.toArray,v,.I p] w λZ I=>aT da T.a 1 w.heap.size I Z (jI m s p m.procs[p].cb (o.insts m).length)/\Ext w I:=by
 have ab:=h;obtain⟨aI,aJ,aK,bg,aL,bj,aP,aQ,aR,aS,rfl,aU,aX,aY,J,aZ,a0,a1,a3,a5,a7⟩:=h.form;obtain⟨a8,a9,bb,bf,bk,bl,bo,bp,bq,bt,rfl,bu,bw,K,bx,bz,bA,bB,bC,bD⟩:=Y.form;obtain⟨bE,bG,rfl,bH⟩:=z.form;have ae:=G.len;have bI:cH m<=64:=ij y;have bJ:(o.insts m).length<=30:=by have:=ts m;have:=y.procs;omega
 have af:=y.proc _ (FA H);have bK:=af.cb;obtain⟨bL,bM,bN⟩:=uO m;obtain⟨L,rfl⟩:=J.addr;obtain⟨bO,bQ,dN,r,bU,bV⟩:=J.at p H;refine bn E.NJ ?_;refine aa ?_;intro bW bX bY ag j;refine aa ?_;intro ah A b0 M e;replace j:=M.obj j;have k:=ag.trans M;replace r:=r.ext k;unfold ed.enc at r;refine aa ?_;refine _Y m.procs[p].cb.toNat AY AY ?_;intro ai f aj t b;rw[<-ZX m s p] at b;replace j:=t.obj j;replace e:=t.obj e;have ak:=k.trans t;have b1:=k.size;clear r;refine aa ?_;refine J_ (EA _ m ai (ab.ext ak) X) ?_;rintro b3 g ⟨N,B⟩;obtain⟨al,an,rfl,_⟩:=N.form;replace e:=B.obj e;replace b:=B.obj b;have ao:f≠A:=by
  intro u;subst u;rw[e] at b;injection b with b;injection b with _ b;revert b;decide
 have aq:∀{c},Mod (λa=>a=f) g c->eI [T.a] g c:=λh=>eI.mod h λa b4 b5 i L=>by
  subst L;rw[b] at i;injection i with i;injection i with _ i;rw[<-i];simp
 have ar:∀{c:A_},Mod (λa=>a=f) g c->rS c (.slice al (o.insts m).length an) (o.insts m):=λa=>aT.lF (enc:=c9.enc) (λ_=>rfl) (N.h1 (aq a) Ae);have O:∀{c},Mod (λa=>a=f) g c->c.heap[A]? = g.heap[A]? := λh=>h.block _ (cf e) (Ne.symm ao);have au:∀{c},Mod (λa=>a=f) g c->Ext ah c:=λh=>h.ext (t.trans B) λP b6 u=>AY
 rw[e] at O;clear j e;refine aa ?_;refine K_ 11 (o.insts m).length [2,3,5,9,10] (λ_:Unit=>[]) () (λa _ c=>Mod (λP=>P=f) g c/\c.heap[f]? = some (.cells (fG (jI m s p m.procs[p].cb a)).toArray T.a)) aW aW ⟨Mod.refl _ _,b⟩ ?_;clear b;rintro a _ b8 av b9 ⟨l,b⟩;have e:=O l;have aw:=ar l;have C:=k.trans (au l);refine aa ?_;apply I_<;>intro ca
 .have n:a<(o.insts m).length:=AY
  obtain⟨cb,rfl⟩:=aw.addr;have ax:=qJ _ (FA n);obtain⟨d,ay,az,aB⟩:=uL ax;have Q:(o.insts m)[a]?.map (·.proc)=some (d:Int):=by rw[List.getElem?_eq_getElem n,AI5,az]
  obtain⟨q,S,cc⟩:=G.loc n ay aB;obtain⟨ch,U⟩:=List.getElem?_eq_some_iff.1 S;obtain⟨cj,aC⟩:=qH n;obtain⟨cm,rfl⟩:=z.addr;obtain⟨cp,rfl⟩:=K.addr;have cq:=z.ext Flat.ext C;have cr:=K.ext Flat.ext C;refine aa ?_;apply I_<;>intro ct
  .have aD:d=p:=AY
   subst aD;have x:q<m.procs[d].cb.toNat:=AY
   have V:=w3 m s d m.procs[d].cb a;have aE:=FC (m:=m) (s:=s) (p:=d) (k:=a) x;have cu:=JE m s d q a;refine aa ?_;refine M_ (b7 m a) (by rw[aC]) (by rw[ae];omega) ?_;refine aa ?_;have cv:cl av (.slice (some ⟨f,0,none⟩) m.procs[d].cb.toNat m.procs[d].cb.toNat) (jI m s d m.procs[d].cb a):=UR b V.symm (by rw[V];unfold maxLen;omega);have cw:q<(jI m s d m.procs[d].cb a).length:=AY
   obtain⟨_,aF⟩:=List.getElem?_eq_some_iff.1 aE;refine M_ q U x ?_;refine aa ?_;rw[aF];refine aa ?_;refine M_ q U x ?_;refine aa ?_;refine _B b (by rw[AK5,x4];omega) rfl λcx aG W=>?_;rw[Mn (AH2 _),<-ZW Q S x] at W;refine aa ?_;exact⟨AY,aV,(),trivial,l.trans (aG.mod rfl),W⟩
  .refine aa ?_;refine⟨n,aV,(),trivial,l,?_⟩;rw[ZV (by rw[Q];intro u;have:=Option.some.inj u;omega)];exact b
 .have aH:(o.insts m).length=a:=AY
  refine aa ?_;exact⟨by rw[aH];exact aT.low k.size (aT.y5 _ b aj (zS _) (λ_=>rfl) (w3 _ _ _ _ _).symm (by rw[w3];unfold maxLen;omega)),C⟩
end Go.Proofs.R
namespace ba
open Go Go.RowKit
section
variable{P:Program}{cK:Value->World->Prop}{e:TypeId}{sz base:Nat}{w:World}{s x:Value}{xs ys:List (hz sz)}
theorem AA9{g:F_}{b:Nat}{t}(d:og e sz base w s xs)(l:a6 sz (Flat kE) w x ys)(m:(xs.length+ys.length)*b<=140737488355328)(n:xs.length+ys.length<=maxLen)(p:base<=w.heap.size)
  (f:∀c a,og e sz base a c (xs++ys)->w.grownBy a s.ownBlock->cK c a):lJ P g e sz b s x w cK t:=by
 obtain⟨q,h,rfl,r,u,i,v⟩:=l.ex;cases q with
 | some y=>exact _I d iZ (a6.flat iZ (λ_ _ z=>z) ⟨some y,h,rfl,r,u,i,v⟩) rfl vD m n p λc a A B _=>f c a A B
 | none =>
  have:ys=[]:=Classical.byContradiction λC=>by have:=i C;cases this
  subst this;rw[AG5] at f;refine _h λ⟨j,H,I,k,J,K,L,M,N⟩=>?_;refine⟨g,s,w,?_,f s w d ⟨rfl,rfl,rfl,EM _,λ_ _ _=>rfl⟩⟩;rcases d.2 with ⟨rfl,O⟩ | ⟨Q,h,cur,rfl,_,_,G,_⟩
  .simp[Builtin.append_,run_underlying j,Go.sizeOf,typeInfo,k,Builtin.lenOf,Builtin.firstCells]
  .simp[Builtin.append_,run_underlying j,Go.sizeOf,typeInfo,k,Builtin.lenOf,Builtin.firstCells,G,storeCells]
end
end ba
namespace ba
open Go Go.RowKit
structure azO{α:Type}(C:World->List Value->α->Prop)(e:TypeId)(sz base:Nat)(v:Value)(w0 ws:World)(xs:List α)(k:Nat)(x:List (hz sz))(W:World):Prop where
 m:Mod (λi=>v.ownBlock=some i) ws W
 b0:∀i,v.ownBlock=some i->base<=i/\i<ws.heap.size/\∃cur,ws.heap[i]? = some (.cells cur e)
 len:x.length=xs.length
 own:og e sz base W v x
 new:∀i (I:i<x.length) (U:i<xs.length),i<k->gJ (λj=>j<ws.heap.size) (λw=>C w x[i].1 xs[i]) W
 il:∀i (I:i<x.length) (U:i<xs.length),k<=i->C w0 x[i].1 xs[i]
def AD6{α:Type}{P:D_}{k:B_->A_->Prop}{R:A_->Addr->α->Prop}{C:A_->C_ B_->α->Prop}{e:F_}{sz:Nat}[Rel R C sz]{w0 w d:A_}{x:B_}{xs:C_ α}{y:F_}{b c:Nat}{t}
  (z:a6 sz R w0 x xs)(A:Ext w0 w)(B:w.heap.size<=c)(i:Ext w d)(G:d.heap[c]? = some (.cells #[] e))(l:∀{w a:A_} {cs x},C w cs x->C a cs x)(H:xs.length*b<=140737488355328)
  (I:∀g h a,ec w (λw=>a6 sz R w (.slice g xs.length h) xs) a->Ext w a->Mod (λf=>f=c) d a->k (.slice g xs.length h) a):lJ P y e sz b (.slice (some ⟨c,0,none⟩) 0 0) x d k t:=by
 obtain⟨J,m,n,K⟩:=z.cells;have p:og e sz w.heap.size d (.slice (some ⟨c,0,none⟩) 0 0) []:=aT.empty B G;have L:J.length<=maxLen:=by obtain⟨_,_,_,q,r,_⟩:=n.ex;omega
 refine AA9 p (a6.ext Flat.ext (A.trans i) n) (by rw[AJ3,ZQ,m];exact H) (by rw[AJ3,ZQ];exact L) i.size λM a s u=>?_;rw[AH9] at s;have v:ec w (λw=>a6 sz R w M xs) a:=ec.clone (R:=R) m s l λf q r=>l (K f q r);obtain⟨g,h,rfl,_⟩:=v.here.form;exact I g h a v (aT.h9 p i u (EM _)) (Mod.grown (A:=λf=>f=c) u λN j=>by injection j with j;exact j.symm)
end ba
namespace Go.Proofs.R
open Go Go.RowKit ba
def q3(w:A_)(cs:C_ B_)(l:C_ Int):Prop := ∃a,cs=[a]/\cl w a l
instance aB5:Rel oT q3 1 where
 out h:=by
  obtain⟨v,I,U⟩:=h;exact⟨[v],λj u av=>by cases j with | zero=>simp at av;subst av;rw[add_zero];exact I | succ j=>simp at av,v,rfl,U⟩
 kx h k:=by
  obtain⟨v,rfl,k⟩:=k
  have:=h 0 v rfl
  rw[add_zero] at this;exact⟨v,this,k⟩
 len h:=by obtain⟨v,rfl,_⟩:=h;rfl
 one h:=by obtain⟨v,rfl,h⟩:=h;simpa using h.one
 ext e h:=let ⟨v,I,U⟩:=h; ⟨v,I,U.ext Flat.ext e⟩
def ajJ(_:A_)(cs:C_ B_)(x:Int):Prop:=cs=da x
instance aB4:Rel (Flat da) ajJ 1 where
 out h:=⟨_,h,rfl⟩
 kx h k:=by cases k;exact h
 len h:=by cases h;rfl
 one h:=by cases h;exact j8 _
 ext _ h:=h
def _root_.ba.Mod.own{A:Nat->Prop}{a b c:A_}{v:B_}(h:Mod A a b)(e:b.grownBy c v.ownBlock)(f:∀d,v.ownBlock=some d->a.heap.size<=d):Mod A a c :=
 h.comp (Mod.grown (A:=λd=>v.ownBlock=some d) e λd g=>g) (λ_ _ a=>a) λi k j=>by have:=f i j;omega
structure PE(w:World)(cs:List Value)(x:o.Env):Prop where
 ex:∃v0 v1 v2 eC,cs=[v0,v1,v2,eC,.int .i64 x.self]/\gS w v0 x.vars/\cl w v1 x.lens/\cl w v2 x.locals/\gS w eC x.at_
end Go.Proofs.R
namespace o
open Go
theorem OZ(m:Model)(s:C_ Int)(inst:Int):(bZ m s inst).vars.length=m.vars.length:=by simp[bZ]
def Cm{m:Model}{s:C_ Int}{inst:Int}{k:Nat}(h:k<m.vars.length):(bZ m s inst).vars[k]? = some ((s.drop (dS m k)).take (cells m.vars[k] m.scalars).toNat):=by
 have a:(bT m)[k]!.length=(cells m.vars[k] m.scalars).toNat:=by
  have b:k<(bT m).length:=by simpa[bT] using h
  rw[getElem!_pos (bT m) k b];simp[bT,vb]
 simp only[bZ,List.getElem?_map,List.getElem?_range h,Option.map_some,a]
def OY(m:Model)(s:C_ Int)(inst:Int):(bZ m s inst).lens.length=m.aA.length:=by simp[bZ]
def aim{m:Model}{s:C_ Int}{inst:Int}{k:Nat}(h:k<m.aA.length)(a:bS m k<s.length):(bZ m s inst).lens[k]? = some s[bS m k]:=by
 simp only[bZ,List.getElem?_map,List.getElem?_range h,Option.map_some];rw[getElem!_pos s (bS m k) a]
def VV{m:Model}{s:C_ Int}{inst:Int}(h:inst<0):(bZ m s inst).locals=[]/\(bZ m s inst).self=0:=by
 simp only[bZ,EO,hv (.inl h),and_self]
def yt{m:Model}(s:C_ Int){q n:Nat}(h:q<(insts m).length)(a:n=(kf m (insts m)[q]).length - 1):(bZ m s q).locals=(s.drop (b7 m q+1)).take n/\(bZ m s q).self=(insts m)[q].elem:=by
 simp only[bZ,EO,ik (show(0:Int)<=q by omega) (show(q:Int)<(insts m).length by omega),Int.toNat_natCast,a,and_self]
def VU(m:Model)(s:C_ Int)(inst:Int):(bZ m s inst).at_.length=m.procs.length:=by simp[bZ]
def ail{m:Model}{s:C_ Int}{inst:Int}{k:Nat}(h:k<m.procs.length):(bZ m s inst).at_[k]? = some (jI m s k m.procs[k].cb (insts m).length):=by
 simp only[bZ,List.getElem?_map,List.getElem?_range h,Option.map_some,List.getElem?_eq_getElem h,Option.getD_some]
end o
namespace Go.Proofs.R
open Go Go.RowKit ba o
def VF(cs ys:C_ B_)(v:B_)(m:o.Model)(s:C_ Int)(inst:Int)(w:A_)(h:dU w cs m)(a7:m.cB)(ai:gh m)(a8:lM w ys (o.layout m))(Y:cl w v s)(a9:o.Fits m s)(aj : -1<=inst)(aQ:inst<(o.insts m).length) :
  EL F.NI #[.agg cs.toArray,.agg ys.toArray,v,.I inst] w λb0 ay=>(∃bb,b0 = .agg bb.toArray/\ec w (λw=>PE w bb (bZ m s inst)) ay)/\Ext w ay:=by
 have bf:=h;have b1:=a8;have b3:=Y;obtain⟨cW,cX,cY,bg,c0,bj,c1,c2,c3,c4,rfl,b4,aj,aQ,bk,c5,c8,db,dc,dd,de⟩:=h.form;obtain⟨df,di,dj,dk,dp,dq,dr,du,dv,dw,rfl,bl,bo,bp,dx,dy⟩:=a8.form;obtain⟨dz,dA,rfl,dB⟩:=Y.form;have dC:=a9.len;have dF:cH m<=64:=ij ai;have dG:=ai.gT;have dI:(o.insts m).length<=30:=by have:=ts m;have:=ai.procs;omega
 refine bn E.NI ?_;refine aa ?_;intro dK b5 dL bq f;refine aa ?_;intro dM b6 dO aR g;replace f:=aR.obj f;refine aa ?_;intro b8 B dP aS r;replace f:=aS.obj f;replace g:=aS.obj g;have bt:=(bq.trans aR).trans aS;refine aa ?_;refine J_ (EA _ m b8 (bf.ext bt) a7) ?_;rintro dQ S ⟨ak,az⟩;obtain⟨dR,dV,rfl,_⟩:=ak.form;have aU:rS S _ _:=aT.lF (enc:=c9.enc) (λ_=>rfl) ak;replace f:=az.obj f;replace g:=az.obj g;replace r:=az.obj r;have al:=bt.trans az;refine aa ?_;intro U j dW bu e;have aB:∀{d},Ext S d->d.heap[b5]? = _:=λc=>c.obj f;have aC:∀{d},Ext S d->d.heap[b6]? = _:=λc=>c.obj g;have b9:=cf e;have an:∀{d},Mod (λa=>a=j) U d->Ext S d:=λh=>h.ext bu λa bw c=>AY
 refine K_ 11 m.vars.length [2,3,4,5,8,9,10] (λ_:ez=>[]) (none,0,0) (λb v d=>(Mod (λa=>a=j) U d/\d.heap[j]? = some (.cells #[.slice v.1 v.2.1 v.2.2,.slice none 0 0,.slice none 0 0,.slice none 0 0,.I 0] T.s))/\ey q3 T.b 1 U.heap.size d (.slice v.1 v.2.1 v.2.2) (((bZ m s inst).vars).take b)) aW aW ⟨⟨Mod.refl _ _,e⟩,by simpa using ey.nil _ _ _ _ _⟩ ?_;clear e;rintro b v bx Z K ⟨⟨V,e⟩,ao⟩;have f:=aB (an V);have g:=aC (an V);have ko:=al.trans (an V);refine aa ?_;apply I_<;>intro bz
 .have p:b<m.vars.length:=AY
  obtain⟨ca,rfl⟩:=aj.addr;have cb:=r3 m.vars[b] m.scalars;have bA:=qV p;have cc:=ni m;obtain⟨ak,aq⟩:=An p;have ch:=((aj.at b p).cells).ext ko;refine aa ?_;refine P_ _ (λay c=>OI m.vars[b] _ m.scalars ay (b4.ext (ko.trans c))) ?_;refine aa ?_;intro L ab;replace f:=ab.obj f;replace g:=ab.obj g;replace e:=ab.obj e;have M:=ao.ext ab;have h7:=ko.trans ab;have C:Mod (λa=>a=j) U L:=V.trans ab.mod;have ar:=Y.ext Flat.ext h7;have bB:=bl.ext Flat.ext h7;obtain⟨dY,rfl⟩:=bl.addr;clear ch;refine aa ?_;intro G l;replace f:=l.obj f;replace g:=l.obj g;replace e:=l.obj e;have t:=M.ext l;have iV:=h7.trans l;have q:Mod (λa=>a=j) U G:=C.trans l.mod;have bC:=ar.ext Flat.ext l;have dZ:=bB.ext Flat.ext l;clear ar bB ao M;refine aa ?_;refine _X (k:=.i64) (k':=.i64) (dS m b) (dS m b+(o.cells m.vars[b] m.scalars).toNat) bC (by simp[dE,bR,aq]) (by simp[dE,bR,aq];omega) AY AY λcj aX ae=>?_;refine aa ?_;intro A cm bD i af;refine⟨i,?_⟩;rw[show dS m b+(o.cells m.vars[b] m.scalars).toNat - dS m b=(o.cells m.vars[b] m.scalars).toNat from AY] at ae ⊢;have au:=Cm (s:=s) (inst:=inst) p;refine AD6 ae (Ext.refl _) bD i af (λh=>h) (by simp;omega) λag H ah y k _=>?_;refine⟨k,?_⟩;refine aa ?_;intro aD cp cq u N;refine⟨k.trans u,?_⟩;have ee:=q.size;have ef:=k.size;have bE:=u.size;have I:=t.ext (k.trans u);have cr:(((bZ m s inst).vars).take b).length<=12:=by rw[IP,OZ];omega
  refine _A (x:=(s.drop (dS m b)).take (o.cells m.vars[b] m.scalars).toNat) (cs:=[.slice ag ((s.drop (dS m b)).take (o.cells m.vars[b] m.scalars).toNat).length H]) I (g5 N)
   (((ec.own y t AY).imp λw h=>⟨_,rfl,h⟩).ext u λa bw K=>by have:=t.under AY a K;omega) rfl (by simp[Value.oneCell']) AY (by unfold maxLen;omega) AY λaY aZ av aw=>?_
  have ct:=I.box aw ((k.trans u).obj e) Ae;have O:=((q.trans k.mod).trans u.mod).own aw λn x=>(I.lt n x).1;obtain⟨a0,a1,rfl,_⟩:=av.form;clear e y I t N af ae;refine aa ?_;intro bG z aE;refine aa ?_;refine⟨p,aV,(a0,_,a1),trivial,⟨O.trans (z.mod rfl),aE⟩,?_⟩;rw[AJ9,au];exact av.wr z b9
 have eg:m.vars.length=b:=AY
 rw[IA (by rw[OZ];omega)] at ao;have bH:=ao.new (R:=oT);obtain⟨aF,aG,H⟩:=v;have eh:=cf e;have ei:=V.size;have ej:=an V;have aH:∀{d},Mod (λa=>a=j) Z d->Ext S d:=λh=>an (V.trans h);clear f g ao;refine aa ?_;refine K_ 13 m.aA.length [2,3,4,5,8,9,10] (λ_:ez=>[]) (none,0,0) (λb v d=>(Mod (λa=>a=j) Z d/\d.heap[j]? = some (.cells #[.slice aF aG H,.slice v.1 v.2.1 v.2.2,.slice none 0 0,.slice none 0 0,.I 0] T.s))/\aT da T.a 1 Z.heap.size d (.slice v.1 v.2.1 v.2.2) (((bZ m s inst).lens).take b)) aW aW ⟨⟨Mod.refl _ _,e⟩,by simpa using aT.nil _ _ _ _ _⟩ ?_;clear e;rintro b v bx L K ⟨⟨C,e⟩,M⟩;have f:=aB (aH C);have g:=aC (aH C);have h7:=al.trans (aH C);refine aa ?_;apply I_<;>intro bz
 .have p:b<m.aA.length:=AY
  have bA:=ub p;have cc:=ni m;obtain⟨ak,cu⟩:=AS p;obtain⟨eo,rfl⟩:=bo.addr;obtain⟨er,rfl⟩:=Y.addr;have ar:=Y.ext Flat.ext h7;have bI:=bo.ext Flat.ext h7;refine aa ?_;intro G l;replace g:=l.obj g;replace e:=l.obj e;have t:=M.ext l;have q:Mod (λa=>a=j) Z G:=C.trans l.mod;have bC:=ar.ext Flat.ext l;have et:=bI.ext Flat.ext l;clear ar bI M f;refine aa ?_;refine M_ (bS m b) (by rw[cu]) AY ?_;refine aa ?_;intro A cm bD i af;refine⟨i,?_⟩;have cv:bS m b<s.length:=AY
  have au:=aim (inst:=inst) p cv;have eu:(((bZ m s inst).lens).take b).length<=12:=by rw[IP,OY];omega
  have J:=t.ext i;have eB:=q.size;have cw:=i.size;refine T_ (y:=s[bS m b]) J af rfl (λ_=>rfl) j8 AY (by unfold maxLen;omega) AY λag cx aX ah ax aI=>?_;have eC:=J.box aI (i.obj e) Ae;have cy:=(q.trans i.mod).own aI λn x=>(J.lt n x).1;clear e J t af;refine aa ?_;intro aD W N;refine aa ?_;refine⟨p,aV,(ag,cx,aX),trivial,⟨cy.trans (W.mod rfl),N⟩,?_⟩;rw[AJ9,au];exact ax.mod (W.mod (A:=λa=>a=j) rfl) λn x c=>by have:=(ax.lt n x).1;omega
 have eE:m.aA.length=b:=AY
 rw[IA (by rw[OY];omega)] at M;have bJ:gJ (λa=>a<U.heap.size) (λw=>gS w (.slice aF aG H) (bZ m s inst).vars) L:=bH.move C (λa _ c=>AY) λa _ c=>c;have bK:ec Z (λw=>cl w (.slice v.1 v.2.1 v.2.2) (bZ m s inst).lens) L:=aT.new (λ_=>rfl) M;clear bH;obtain⟨bL,bM,bN⟩:=v;have cz:=cf e;have eF:=C.size;have aJ:∀{d},Mod (λa=>a=j) L d->Ext S d:=λh=>aH (C.trans h);clear f g M;refine aa ?_;refine K_ 14 m.procs.length [2,3,4,5,8,9,10] (λ_:ez=>[]) (none,0,0) (λb v d=>(Mod (λa=>a=j) L d/\d.heap[j]? = some (.cells #[.slice aF aG H,.slice bL bM bN,.slice none 0 0,.slice v.1 v.2.1 v.2.2,.I 0] T.s))/\ey q3 T.b 1 L.heap.size d (.slice v.1 v.2.1 v.2.2) (((bZ m s inst).at_).take b)) aW aW ⟨⟨Mod.refl _ _,e⟩,by simpa using ey.nil _ _ _ _ _⟩ ?_;clear e;rintro b v bx G K ⟨⟨q,e⟩,t⟩;have f:=aB (aJ q);have g:=aC (aJ q);have iV:=al.trans (aJ q);refine aa ?_;apply I_<;>intro bz
 .have p:b<m.procs.length:=AY
  refine aa ?_;intro A i;replace f:=i.obj f;replace g:=i.obj g;replace e:=i.obj e;have J:=t.ext i;have iW:=iV.trans i;have bO:Mod (λa=>a=j) L A:=q.trans i.mod;clear t;refine aa ?_;refine J_ (awE _ _ _ m s b A (bf.ext iW) a7 ai (b1.ext iW) (b3.ext Flat.ext iW) a9 p) ?_;rintro _ ah ⟨y,k⟩;obtain⟨ag,H,rfl,_⟩:=y.form;replace y:ec A (λw=>cl w (.slice ag (jI m s b m.procs[b].cb (o.insts m).length).length H) (jI m s b m.procs[b].cb (o.insts m).length)) ah:=aT.new (enc:=da) (sz:=1) (λ_=>rfl) y;refine⟨k,?_⟩;have au:=ail (s:=s) (inst:=inst) p;refine aa ?_;intro aD cp cq u N;refine⟨k.trans u,?_⟩;have eG:=bO.size;have cB:=k.size;have bE:=u.size;have I:=J.ext (k.trans u);have cr:(((bZ m s inst).at_).take b).length<=12:=by rw[IP,VU];have:=ai.procs;omega
  refine _A (x:=jI m s b m.procs[b].cb (o.insts m).length) (cs:=[.slice ag (jI m s b m.procs[b].cb (o.insts m).length).length H]) I (g5 N)
   (((ec.own y J AY).imp λw h=>⟨_,rfl,h⟩).ext u λa bw K=>by have:=J.under AY a K;omega) rfl (by simp[Value.oneCell']) AY (by unfold maxLen;omega) AY λaY aZ av aw=>?_
  have ct:=I.box aw ((k.trans u).obj e) Ae;have O:=((bO.trans k.mod).trans u.mod).own aw λn x=>(I.lt n x).1;obtain⟨a0,a1,rfl,_⟩:=av.form;clear e y I J N;refine aa ?_;intro bG z aE;refine aa ?_;refine⟨p,aV,(a0,_,a1),trivial,⟨O.trans (z.mod rfl),aE⟩,?_⟩;rw[AJ9,au];exact av.wr z cz
 have eH:m.procs.length=b:=AY
 rw[IA (by rw[VU];omega)] at t;have bQ:gJ (λa=>a<U.heap.size) (λw=>gS w (.slice aF aG H) (bZ m s inst).vars) G:=bJ.move q (λa _ c=>AY) λa _ c=>c;have bU:ec Z (λw=>cl w (.slice bL bM bN) (bZ m s inst).lens) G:=bK.move q (λa _ c=>AY) λa _ c=>c;have bV:=t.new (R:=oT);clear bJ bK;obtain⟨eK,eL,eM⟩:=v;have eP:=cf e;have eQ:=q.size;have X:∀{d},Mod (λa=>a=j) G d->Ext S d:=λh=>aJ (q.trans h);clear t;have iV:=al.trans (X (Mod.refl _ _));have eR:=cf r;have eS:=bu.size;have eU:=(bq.trans aR).size;replace r:=(X (Mod.refl _ _)).obj r;refine aa ?_;apply I_<;>intro eV;rotate_left
 .refine aa ?_;intro A aK af;refine aa ?_;obtain⟨a3,a5⟩:=VV (m:=m) (s:=s) (inst:=inst) AY;refine⟨⟨_,rfl,λd P=>⟨_,_,_,_,by rw[a5],?_,?_,?_,?_⟩⟩,aK.ext iV AY⟩
  .exact(bQ.move (A':=λa=>a<w.heap.size) (aK.mod (A:=λa=>a=B) rfl) (λa _ c=>AY) λa _ c=>AY) d P
  .exact(bU.move (A':=λa=>a<w.heap.size) (aK.mod (A:=λa=>a=B) rfl) (λa _ c=>AY) λa _ c=>AY) d P
  .rw[a3];exact a6.nil
  .exact(bV.move (A':=λa=>a<w.heap.size) (aK.mod (A:=λa=>a=B) rfl) (λa _ c=>AY) λa _ c=>AY) d P
 .obtain⟨n,rfl⟩:=Uh (show 0<=inst by omega);have x:n<(o.insts m).length:=AY
  have bA:=HD x;obtain⟨ak,aq⟩:=qH x;obtain⟨eW,rfl⟩:=bp.addr;have cE:=bp.ext Flat.ext iV;have f:=aB (X (Mod.refl _ _));have g:=aC (X (Mod.refl _ _));obtain⟨eX,rfl⟩:=aU.addr;have cF:=aU.ext Flat.ext (X (Mod.refl _ _));have cG:=qJ _ (FA x);obtain⟨Q,ae,cI,cK⟩:=uL cG;have eY:(kf m (o.insts m)[n]).length=1+m.procs[Q].vars.length:=by rw[cK,py]
  obtain⟨ca,rfl⟩:=bk.addr;obtain⟨eZ,e0,dN,aL,cL,cM⟩:=bk.at Q ae;obtain⟨e4,e7,rfl,e8⟩:=cL.form;obtain⟨e9,fa,rfl,fc⟩:=cM.form;replace aL:=aL.ext iV;unfold ed.enc at aL;refine aa ?_;refine M_ Q cI ae ?_;refine aa ?_;intro fe cN A cP;have i:=cN.trans cP;replace f:=i.obj f;replace g:=i.obj g;replace e:=i.obj e;replace r:=i.obj r;have iW:=iV.trans i;have cQ:=Y.ext Flat.ext iW;have cw:=i.size;clear aL cF cE;refine aa ?_;refine _X (k:=.i64) (k':=.i64) (b7 m n+1) (b7 m n+1+m.procs[Q].vars.length) cQ (by simp[dE,bR,aq]) (by simp[dE,bR,aq]) AY AY λcj aX bW=>?_;rw[show b7 m n+1+m.procs[Q].vars.length - (b7 m n+1)=m.procs[Q].vars.length from AY] at bW ⊢;obtain⟨cS,bX,cU,cV⟩:=bW.cells;have cb:cS.length<=64:=by rw[bX,IP,AG7];omega
  refine aa ?_;refine AA9 (sz:=1) (base:=A.heap.size) (aT.nil _ _ _ _ _) cU (by rw[AJ3];omega) (by rw[AJ3];unfold maxLen;omega) (EM _) λaY ah ax aI=>?_;rw[AH9] at ax;have y:ec A (λw=>cl w aY ((s.drop (b7 m n+1)).take m.procs[Q].vars.length)) ah:=ec.clone (R:=Flat da) bX ax (λh=>h) λa aj aQ=>cV a aj aQ;have k:Ext A ah:=(Ext.refl _).grown aI λb K=>by simp[Value.ownBlock] at K
  replace g:=k.obj g;replace e:=k.obj e;replace r:=k.obj r;have cB:=k.size;obtain⟨ff,fh,rfl,_⟩:=y.here.form;clear f;refine aa ?_;intro aD W N;have bY:Mod (λa=>a=j) G aD:=(i.mod.trans k.mod).trans (W.mod rfl);have fi:=aU.ext Flat.ext (X bY);replace r:=W.obj r AY;refine aa ?_;intro aZ aP fj;have O:Mod (λa=>a=j) G aZ:=bY.trans (aP.mod rfl);replace r:=aP.obj r AY;refine aa ?_;intro bG z aE;refine aa ?_;obtain⟨a3,a5⟩:=yt s x (n:=m.procs[Q].vars.length) AY;have bE:=W.size;have fk:=aP.size;refine⟨⟨_,rfl,λd P=>⟨_,_,_,_,by rw[a5];rfl,?_,?_,?_,?_⟩⟩,z.ext (al.trans (X O)) AY⟩
  .exact(bQ.move (A':=λa=>a<w.heap.size) (O.comp (B:=λa=>a=j\/a=B) (z.mod (A:=λa=>a=B) rfl) (λa _ c=>.inl c) λa _ c=>.inr c) (λa _ c=>AY) λa _ c=>AY) d P
  .exact(bU.move (A':=λa=>a<w.heap.size) (O.comp (B:=λa=>a=j\/a=B) (z.mod (A:=λa=>a=B) rfl) (λa _ c=>.inl c) λa _ c=>.inr c) (λa _ c=>AY) λa _ c=>AY) d P
  .rw[a3];exact((((y.wr W AY).wr aP AY).wr z AY).mono λa _ c=>AY) d P
  .exact(bV.move (A':=λa=>a<w.heap.size) (O.comp (B:=λa=>a=j\/a=B) (z.mod (A:=λa=>a=B) rfl) (λa _ c=>.inl c) λa _ c=>.inr c) (λa _ c=>AY) λa _ c=>AY) d P
end Go.Proofs.R
namespace o
open Go
def aib{s t:C_ Int}{a n:Nat}(h:∀b,b<n->s[a+b]? = t[a+b]?):(s.drop a).take n=(t.drop a).take n:=by
 apply List.ext_getElem?;intro c;rw[List.getElem?_take,List.getElem?_take];split
 .rw[List.getElem?_drop,List.getElem?_drop];exact h c ‹_›
 .rfl
def iO(l:C_ Int):Bool:=match l with
 | []=>false
 | a :: b=>decide (0<=a/\a<=b.length)&&(b.drop a.toNat).all (λc=>decide (c=0))
def iA(l:C_ Int):C_ Int:=if iO l then (l.drop 1).take (l.headD 0).toNat else []
def p3(k:Nat)(l:C_ Int):C_ Int:=(l.length:Int) :: (List.range (k - 1)).map λa=>l.getD a 0
def l6(l:C_ Int)(v:Int):H_ (C_ Int):=if iO l=true/\l.headD 0≠(l.length:Int) - 1 then some (p3 l.length (iA l++[v])) else none
def n3(l:C_ Int):H_ (C_ Int×Int):=match iA l with
 | []=>none
 | a :: b=>some (p3 l.length b,a)
def UZ{k:Nat}(h:1<=k)(l:C_ Int):(p3 k l).length=k:=by simp[p3];omega
theorem ae5{l:C_ Int}(h:iO l=true):1<=l.length:=by
 cases l with
 | nil=>cases h
 | cons a b=>simp
def Ij{l r:C_ Int}{v:Int}(h:l6 l v=some r):r.length=l.length:=by
 unfold l6 at h;split at h
 .rename_i a;injection h with h
  rw[<-h,UZ (ae5 a.1)]
 .cases h
def IK{l r:C_ Int}{v:Int}(h:n3 l=some (r,v)):r.length=l.length:=by
 unfold n3 at h;split at h
 .cases h
 .rename_i d e a;injection h with h
  injection h with b f
  have:iO l=true:=Classical.byContradiction λc=>by
   unfold iA at a;rw[if_neg c] at a;cases a
  rw[<-b,UZ (ae5 this)]
def chanOf(m:Model)(s:C_ Int)(c:Nat):C_ Int:=(s.drop (bS m c)).take (1+gq m c)
def hQ(s:C_ Int)(a:Nat)(l:C_ Int):C_ Int:=s.take a++l++s.drop (a+l.length)
def AN(m:Model)(c:Nat):Int×Int:=match (bF m)[c]? with
 | some a=>(a.aQ,a.ab)
 | none=>(0,-1)
def putAt(m:Model)(s:C_ Int)(c:Nat)(n:Int):H_ (C_ Int):=if n<(AN m c).1\/(AN m c).2<n then none else some (s.set c n)
def ue(m:Model)(c:Nat):ea:=match m.aA[c]? with
 | some a=>dJ a.scalar a.aQ a.ab m.scalars
 | none=>dJ 0 0 0 m.scalars
def u7(m:Model)(s:C_ Int)(c:Nat)(n:Int):H_ (C_ Int) :=
 if n<(ue m c).aQ\/(ue m c).ab<n then none else (l6 (chanOf m s c) n).map (hQ s (bS m c))
def yh(m:Model)(s:C_ Int)(q:Nat)(a:Act):H_ (C_ Int):=match n3 (chanOf m s a.to.toNat) with
 | none=>none
 | some (rest,b)=>putAt m (hQ s (bS m a.to.toNat) rest) (b7 m q+1+a.loc.toNat) b
def wh(m:Model)(s:C_ Int)(a:Act)(k:Int×Int)(n:Int):H_ (C_ Int) :=
 if k.2≠0\/k.1<1\/(zY m a.to.toNat:Int)<k.1 then none else putAt m s (dS m a.to.toNat+k.1.toNat - 1) n
def hr(m:Model)(s:C_ Int)(q:Nat)(a:Act):H_ (C_ Int) :=
 if a.kind=5 then yh m s q a
 else if (eval a.value (bZ m s q)).2≠0 then none
 else if a.kind=1 then putAt m s (dS m a.to.toNat) (eval a.value (bZ m s q)).1
 else if a.kind=2 then wh m s a (eval a.index (bZ m s q)) (eval a.value (bZ m s q)).1
 else if a.kind=3 then putAt m s (b7 m q+1+a.to.toNat) (eval a.value (bZ m s q)).1
 else u7 m s a.to.toNat (eval a.value (bZ m s q)).1
def jj(m:Model)(q:Nat):C_ Act->C_ Int->H_ (C_ Int)
 | [],a=>some a
 | b :: c,a=>match hr m a q b with
  | none=>none
  | some d=>jj m q c d
def hs(m:Model)(s:C_ Int)(q:Nat)(c:ew):H_ (C_ Int) :=
 if s[b7 m q]? ≠ some c.from_ then none
 else if 0<c.guard.length/\((eval c.guard (bZ m s q)).2≠0\/(eval c.guard (bZ m s q)).1=0) then none
 else (jj m q c.b6 s).map λa=>a.set (b7 m q) c.to
theorem ZA(m:Model)(q:Nat)(a:Act):∀(c:C_ Act) (b:C_ Int),jj m q (c++[a]) b=match jj m q c b with | none=>none | some d=>hr m d q a
 | [],b=>by
  simp only[List.nil_append,jj];cases hr m b q a<;>rfl
 | e :: c,b=>by
  simp only[List.cons_append,jj];cases hr m b q e with
  | none=>rfl
  | some d=>exact ZA m q a c d
def BQ{s:C_ Int}{a:Nat}{l:C_ Int}(h:a+l.length<=s.length):(hQ s a l).length=s.length:=by
 simp[hQ];omega
def x3{s:C_ Int}{a:Nat}{l:C_ Int}(h:a+l.length<=s.length)(x:Nat):(hQ s a l)[x]? = if a<=x/\x<a+l.length then l[x - a]? else s[x]? := by
 unfold hQ;have b:(s.take a).length=a:=by simp;omega
 by_cases c:x<a
 .rw[if_neg AY,List.getElem?_append_left (by rw[JM];omega),List.getElem?_append_left AY,List.getElem?_take,if_pos c]
 .by_cases d:x<a+l.length
  .rw[if_pos ⟨AY,d⟩,List.getElem?_append_left (by rw[JM];omega),List.getElem?_append_right AY,b]
  .rw[if_neg AY,List.getElem?_append_right (by rw[JM];omega),List.getElem?_drop,JM,b];congr 1;omega
def pJ{m:Model}{s:C_ Int}{c:Nat}(h:bS m c+(1+gq m c)<=s.length):(chanOf m s c).length=1+gq m c:=by
 simp[chanOf];omega
def Ev{m:Model}{s t:C_ Int}{c:Nat}{n:Int}(h:putAt m s c n=some t):t=s.set c n:=by
 unfold putAt at h;split at h
 .cases h
 .injection h with h
  exact h.symm
def e1(s t:C_ Int)(l:C_ Int):Prop:=t.length=s.length/\∀a:Nat,t[a]? ≠ s[a]? -> (a:Int)∈l
def e1.refl(s l:C_ Int):e1 s s l:=⟨rfl,λ_ a=>absurd rfl a⟩
def e1.trans{s t b l:C_ Int}(h:e1 s t l)(k:e1 t b l):e1 s b l:=⟨k.1.trans h.1,λa d=>by
 by_cases c:b[a]? = t[a]?
 .exact h.2 a (by rw[<-c];exact d)
 .exact k.2 a c⟩
def e1.mono{s t l r:C_ Int}(h:e1 s t l)(a:∀b∈l,b∈r):e1 s t r:=⟨h.1,λc d=>a _ (h.2 c d)⟩
def e1.set(s:C_ Int)(a:Nat)(n:Int):e1 s (s.set a n) (nZ a 1):=⟨ZP ..,λc b=>by
 rw[VB,AH0];apply Classical.byContradiction;intro d;exact b (List.getElem?_set_ne AY)⟩
def e1.Eb{s l:C_ Int}{a:Nat}(h:a+l.length<=s.length):e1 s (hQ s a l) (nZ a l.length):=⟨BQ h,λd b=>by
 rw[x3 h] at b;apply Classical.byContradiction;intro c;rw[ahB] at c;exact b (if_neg AY)⟩
def axV{m:Model}{s t:C_ Int}{c:Nat}{n:Int}(d:bS m c+(1+gq m c)<=s.length)(h:u7 m s c n=some t):e1 s t (Dg m c):=by
 unfold u7 at h;split at h
 .cases h
 .cases a:l6 (chanOf m s c) n with
  | none=>rw[a] at h;cases h
  | some e =>
   rw[a] at h;have b:=Ij a;rw[pJ d] at b;have f:hQ s (bS m c) e=t:=by injection h
   rw[<-f];unfold Dg;rw[<-b];exact e1.Eb AY
theorem awO{m:Model}{s t:C_ Int}{q:Nat}{a:Act}(f:bS m a.to.toNat+(1+gq m a.to.toNat)<=s.length)(h:yh m s q a=some t):e1 s t (Dg m a.to.toNat++nZ (b7 m q+1+a.loc.toNat) 1):=by
 unfold yh at h;cases b:n3 (chanOf m s a.to.toNat) with
 | none=>rw[b] at h;cases h
 | some g =>
  obtain⟨d,k⟩:=g;rw[b] at h;have e:=IK b;rw[pJ f] at e;have i:=Ev h;rw[i];refine e1.trans (t:=hQ s (bS m a.to.toNat) d) ?_ ((e1.set _ _ _).mono λj c=>AJ0 _ c)
  have:=e1.Eb (s:=s) (a:=bS m a.to.toNat) (l:=d) AY
  rw[e] at this;exact this.mono λj c=>AI7 _ c
def axU{m:Model}{s:C_ Int}{q:Nat}{a:Act}(h:OR a=true):eval a.index (bZ m s q)=((bZ m s q).self,0):=by
 unfold OR at h;split at h
 .rename_i b d;rw[d];have c:b.op=5:=by simpa using h
  have e:en b.op=0:=by rw[c];decide
  have f:gj (bZ m s q) b []=((bZ m s q).self,0):=by
   unfold gj;rw[c];simp[gY,fq,c]
  unfold eval l7 e3;simp only[List.length_singleton,stepG,e,f];simp[e3]
 .cases h
def aj8{m:Model}{s t:C_ Int}{q:Nat}{a:Act}(d:q<(insts m).length)(e:(a.kind=4\/a.kind=5)->bS m a.to.toNat+(1+gq m a.to.toNat)<=s.length)(l:1<=a.kind/\a.kind<=5)(h:hr m s q a=some t):e1 s t (Jz m q a):=by
 unfold hr at h;unfold Jz;by_cases b:a.kind=5
 .rw[if_pos b] at h;rw[if_neg AY,if_neg AY,if_neg AY,if_neg AY,if_pos b];exact awO (e (.inr b)) h
 rw[if_neg b] at h;by_cases he:(eval a.value (bZ m s q)).2≠0
 .rw[if_pos he] at h;cases h
 rw[if_neg he] at h;by_cases f:a.kind=1
 .rw[if_pos f] at h ⊢;rw[Ev h];exact e1.set _ _ _
 rw[if_neg f] at h ⊢;by_cases g:a.kind=2
 .rw[if_pos g] at h ⊢;unfold wh at h;split at h
  .cases h
  .rename_i n;rw[Ev h];refine(e1.set _ _ _).mono λp i=>?_;rw[VB,AH0] at i;subst i;unfold T2;by_cases c:OR a=true
   .rw[if_pos c,VB,AH0,amT d];have k:(bZ m s q).self=(insts m)[q].elem:=(yt s d rfl).2
    have:=axU (m:=m) (s:=s) (q:=q) (a:=a) c
    rw[this];simp only[k]
   .rw[if_neg c,ahB];omega
 rw[if_neg g] at h ⊢;by_cases j:a.kind=3
 .rw[if_pos j] at h ⊢;rw[Ev h];exact e1.set _ _ _
 rw[if_neg j] at h ⊢;rw[if_pos AY];exact axV (e AY) h
def mj{m:Model}{c:Nat}(h:c<m.aA.length):bS m c+(1+gq m c)<=cH m:=by
 have:=ub h
 rw[o0 h]
 have:=ni m
 omega
theorem ZF{m:Model}{i:Scope}{q:Nat}(j:q<(insts m).length)(k:i.aA=m.aA):∀(c:C_ Act) (b d:C_ Int),(∀e∈c,qZ i e)->b.length=cH m->jj m q c b=some d->e1 b d (c.flatMap (Jz m q))
 | [],b,d,_,_,a=>by
  injection a with a
  rw[<-a];exact e1.refl _ _
 | e :: c,b,d,f,l,a=>by
  simp only[jj] at a;cases g:hr m b q e with
  | none=>rw[g] at a;cases a
  | some p =>
   rw[g] at a;have n:=aj8 j (λr=>by rw[l];exact mj (by have:=((f e (AG3 ..)).chan r).2;rwa[k] at this)) (f e (AG3 ..)).kind g;have s:=ZF j k c p d (λt u=>f t (AG4 _ u)) (n.1.trans l) a;rw[AK1];exact(n.mono λv h=>AI7 _ h).trans (s.mono λv h=>AJ0 _ h)
def JA{a:Scope}{c:ew}(h:Fb a c):∀b∈c.b6,qZ a b:=λb d=>by
 obtain⟨e,f,rfl⟩:=List.mem_iff_getElem.1 d;exact h.act e f
theorem al9{m:Model}{d:Scope}{q:Nat}{c:ew}{s t:C_ Int}(f:q<(insts m).length)(g:d.aA=m.aA)(i:Fb d c)(j:s.length=cH m)(h:hs m s q c=some t):e1 s t (Wr m q c c.b6.length):=by
 unfold hs at h;split at h
 .cases h
 split at h
 .cases h
 cases a:jj m q c.b6 s with
 | none=>rw[a] at h;cases h
 | some e =>
  rw[a] at h;have k:e.set (b7 m q) c.to=t:=by injection h
  rw[<-k];unfold Wr;rw[AG9];exact((ZF f g _ s e (JA i) j a).mono λl b=>AJ0 _ b).trans ((e1.set _ _ _).mono λl b=>AI7 _ b)
theorem Ct:∀(c:C_ (C_ ea)) (a:Nat),a<total c->∃b d,∃(f:b<c.length) (_:d<c[b].length),a=total (c.take b)+d
 | [],a,e=>by simp[total] at e
 | g :: h,a,e=>by
  rw[Aj] at e;by_cases i:a<g.length
  .exact⟨0,a,Ah,by simpa using i,by simp[total]⟩
  .obtain⟨b,d,f,j,k⟩:=Ct h (a - g.length) AY;exact⟨b+1,d,by simpa using f,by simpa using j,by rw[List.take_succ_cons,Aj];omega⟩
def Gd{m:Model}(n:gh m):Fits m (dn m):=by
 refine⟨Rv m,λr p=>?_,λd p s=>?_⟩
 .have J:=(n.chan _ (FA p)).cap;have K:=ub p;have t:∀a,a<1+m.aA[r].cap.toNat->(lO m r m.aA[r] (dn m))[a]? = some 0:=λa c=>by
   unfold lO;rw[List.getElem?_take,if_pos c,List.getElem?_drop];exact KG (by unfold bS;omega) AY
  exact⟨0,t 0 AY,Int.le_refl _,AY,λa c=>⟨0,t (a+1) AY,λp=>AY,λ_=>rfl⟩⟩
 .have hlen:=zX m;by_cases u:d<total (bT m)
  .obtain⟨b,a,f,c,g⟩:=Ct _ _ u;have i:b<m.vars.length:=by simpa[bT] using f
   have br:(bT m)[b]=qW m.scalars m.vars[b]:=by simp[bT]
   have e:=Uf (m:=m) u;rw[g,w9 1 (bT m) 0 b a f c,<-g] at e;obtain⟨_,j⟩:=List.getElem?_eq_some_iff.1 e;have z:a<(cells m.vars[b] m.scalars).toNat:=by rw[br,vb] at c;exact c
   have h:=Rx (m:=m) i (j:=a) AY;rw[show dS m b+a=d from g.symm] at h;obtain⟨_,k⟩:=List.getElem?_eq_some_iff.1 h;have A:(bT m)[b][a]=dJ m.vars[b].scalar m.vars[b].aQ m.vars[b].ab m.scalars:=by simp only[br];simp[qW]
   have l:=n.var _ (FA i);rw[j,k];simp only[A,w6];exact⟨l.aQ,l.ab⟩
  by_cases v:d<total (bT m)+total (cn m)
  .have h:=KG (m:=m) (c:=d) AY v;obtain⟨_,k⟩:=List.getElem?_eq_some_iff.1 h;obtain⟨b,a,f,c,g⟩:=Ct (cn m) (d - total (bT m)) AY;have e:=MC (m:=m) AY v;rw[g,w9 2 (cn m) 0 b a f c] at e;obtain⟨_,j⟩:=List.getElem?_eq_some_iff.1 e;have B:=(alq n s).chan (by rw[j]);rw[k];exact B
  .obtain⟨b,a,f,c,g⟩:=Ct (dH m) (d - (total (bT m)+total (cn m))) (by rw[hlen] at s;omega);have i:b<(insts m).length:=by simpa[dH] using f
   have e:=MD (m:=m) (c:=d) AY;rw[g,w9 3 (dH m) 0 b a f c] at e;obtain⟨_,j⟩:=List.getElem?_eq_some_iff.1 e;obtain⟨q,C,G,H⟩:=uL (qJ _ (FA i));have w:(dH m)[b]=kR m.scalars m.procs[q]:=by simp[dH,H]
   have x:=n.proc _ (FA C);have y:po m (insts m)[b]=0 :: m.procs[q].vars.map (·.init):=by
    unfold po;rw[G,ik AY AY];simp
   have z:a<1+m.procs[q].vars.length:=by rw[w,py] at c;exact c
   have h:=Ge (m:=m) i (j:=a) (by rw[y];simp;omega);rw[show b7 m b+a=d from by unfold b7;omega] at h;obtain⟨_,k⟩:=List.getElem?_eq_some_iff.1 h;rw[j,k];simp only[y,w];cases a with
   | zero=>have:=x.cb;simp[kR];omega
   | succ a =>
    have I:a<m.procs[q].vars.length:=AY
    have l:=x.var _ (FA I);simp only[kR,List.getElem_cons_succ,List.getElem_map,w6];exact⟨l.aQ,l.ab⟩
theorem afp{s w:Int}:∀{d:C_ ea} {e:Nat} {b:Cell},b∈fz s w d e->∃c∈d,b.aQ=c.aQ/\b.ab=c.ab
 | [],_,_,a=>by cases a
 | c :: d,e,b,a=>by
  rcases List.mem_cons.1 a with rfl | a
  .exact⟨c,Ah,rfl,rfl⟩
  .obtain⟨f,g,h⟩:=afp a;exact⟨f,by simp[g],h⟩
theorem JX{s:Int}:∀{g:C_ (C_ ea)} {h:Nat} {b:Cell},b∈cellsOf s g h->∃d∈g,∃c∈d,b.aQ=c.aQ/\b.ab=c.ab
 | [],_,_,a=>by cases a
 | d :: j,h,b,a=>by
  rcases List.mem_append.1 a with a | a
  .obtain⟨c,e,f⟩:=afp a;exact⟨d,Ah,c,e,f⟩
  .obtain⟨i,e,f⟩:=JX a;exact⟨i,by simp[e],f⟩
def wO(a b:Int):Prop := -1048576<=a/\a<=b/\b<=1048576
def Qw{a b c:Int}{s:C_ Scalar}(h:a=0->wO b c):wO (dJ a b c s).aQ (dJ a b c s).ab:=by
 unfold dJ;by_cases d:a=0
 .rw[if_pos d];exact h d
 .rw[if_neg d]
  have:=size_le a s
  unfold wO;simp only;omega
def af1{a b:Int}(h:narrow a b=true):wO a b:=by have:=UF h;unfold wO;omega
def aln{m:Model}(h:gh m):∀j∈bF m,wO j.aQ j.ab:=λj b=>by
 unfold bF at b;rcases List.mem_append.1 b with b | b
 .rcases List.mem_append.1 b with b | b
  .obtain⟨n,e,p,a,c,d⟩:=JX b;obtain⟨k,l,rfl⟩:=List.mem_map.1 e;rw[(List.mem_replicate.1 a).2] at c d;rw[c,d];exact Qw λf=>af1 ((h.var k l).H3 f)
  .obtain⟨n,e,p,a,c,d⟩:=JX b;obtain⟨r,s,rfl⟩:=List.mem_map.1 e;rw[c,d];have g:=h.chan r s;have u:=g.cap;rcases List.mem_cons.1 a with rfl | a
   .unfold wO;simp only;omega
   .rw[(List.mem_replicate.1 a).2];exact Qw λf=>by
     have:=UF (g.H3 f)
     unfold wO;omega
 .obtain⟨n,e,p,a,c,d⟩:=JX b;obtain⟨v,w,rfl⟩:=List.mem_map.1 e;rw[c,d];unfold kf at a;split at a
  .rename_i q i;have t:q∈m.procs:=by
    unfold nth at i;split at i
    .exact List.mem_of_getElem? i
    .cases i
   have g:=h.proc q t;rcases List.mem_cons.1 a with rfl | a
   .have:=g.cb;unfold wO;simp only;omega
   .obtain⟨k,l,rfl⟩:=List.mem_map.1 a;exact Qw λf=>af1 ((g.var k l).H3 f)
  .cases a
def aae{m:Model}{i:Nat}(h:i<m.aA.length):bS m (i+1)=bS m i+(1+gq m i):=by rw[aaf h,o0 h]
theorem QF{m:Model}:∀(a i:Nat),i+a<=m.aA.length->bS m i<=bS m (i+a)
 | 0,_,_=>EM _
 | a+1,i,b=>by
  have:=QF (m:=m) a i AY
  have:=aae (m:=m) (i:=i+a) AY
  rw[<-AH4];omega
def aad{m:Model}{i j:Nat}(b:i<j)(c:j<m.aA.length):bS m i+(1+gq m i)<=bS m j:=by
 have d:=aae (m:=m) (i:=i) AY;have a:=QF (m:=m) (j - (i+1)) (i+1) AY;rw[show i+1+(j - (i+1))=j from AY] at a;omega
def ak5(m:Model)(i:Nat)(h:i<=m.aA.length):total (bT m)<=bS m i:=by
 have:=QF (m:=m) i 0 AY
 rw[ZQ,aag] at this;exact this
def att{m:Model}{i j:Nat}(b:i<m.aA.length)(c:j<(iH m.scalars m.aA[i]).length):∃l:bS m i+j<(bF m).length,(bF m)[bS m i+j].aQ=(iH m.scalars m.aA[i])[j].aQ/\(bF m)[bS m i+j].ab=(iH m.scalars m.aA[i])[j].ab:=by
 have f:i<(cn m).length:=by simpa[cn] using b
 have a:(cn m)[i]=iH m.scalars m.aA[i]:=by simp[cn]
 have g:j<(cn m)[i].length:=by rw[a];exact c
 have h:=w9 2 (cn m) 0 i j f g;have n:=ub b;rw[o3] at c;have d:=MC (m:=m) (c:=bS m i+j) (by unfold bS;omega) AY;rw[show bS m i+j - total (bT m)=total ((cn m).take i)+j from by unfold bS;omega,h] at d;obtain⟨k,e⟩:=List.getElem?_eq_some_iff.1 d;refine⟨k,?_,?_⟩
 .rw[e];simp only[a]
 .rw[e];simp only[a]
def abJ{m:Model}{s:C_ Int}{c:Nat}{n:Int}(b:Fits m s)(j:c<total (bT m)\/total (bT m)+total (cn m)<=c)(g:∀k:c<(bF m).length,(bF m)[c].aQ<=n/\n<=(bF m)[c].ab):Fits m (s.set c n):=by
 refine⟨by rw[ZP];exact b.len,λa d=>?_,λh e f=>?_⟩
 .have l:=ub d;have p:=ak5 m a AY
  have:lO m a m.aA[a] (s.set c n)=lO m a m.aA[a] s:=aib λq r=>List.getElem?_set_ne AY
  rw[this];exact b.queue a d
 .rw[List.getElem_set];split
  .rename_i i;subst i;exact g f
  .exact b.cell h (by rw[ZP] at e;exact e) f
theorem awk{s:C_ Scalar}{c:eb}{l:C_ Int}(u:1<=c.cap)(h:mM s c l){j:Nat}(g:j<(iH s c).length):∃a,l[j]? = some a/\(iH s c)[j].aQ<=a/\a<=(iH s c)[j].ab:=by
 obtain⟨d,i,k,m,n⟩:=h;cases j with
 | zero=>exact⟨d,i,k,m⟩
 | succ b =>
  rw[o3] at g;obtain⟨a,p,e,q⟩:=n b AY;refine⟨a,p,?_⟩;have r:(iH s c)[b+1]'(by rw[o3];omega)=j6 s c:=by simp[iH]
  rw[r];unfold j6;unfold dJ at e ⊢;by_cases t:(b:Int)<d
  .have:=e t
   split at this<;>rename_i f
   .rw[if_pos f];simp only at this ⊢;omega
   .rw[if_neg f];exact this
  .have:=q AY
   subst this;split
   .simp only;omega
   .simp only
    have:=size_le c.scalar s
    omega
def RA{m:Model}{s l:C_ Int}{i:Nat}(e:Fits m s)(f:i<m.aA.length)(u:1<=m.aA[i].cap)(C:l.length=1+gq m i)(p:mM m.scalars m.aA[i] l):Fits m (hQ s (bS m i) l):=by
 have G:=mj f;have d:bS m i+l.length<=s.length:=by rw[e.len];omega
 have H:=o0 f;refine⟨by rw[BQ d];exact e.len,λa g=>?_,λb h v=>?_⟩
 .by_cases j:a=i
  .subst j
   have:lO m a m.aA[a] (hQ s (bS m a) l)=l:=by
    apply List.ext_getElem?;intro k;unfold lO;rw[List.getElem?_take,List.getElem?_drop];split
    .rw[x3 d,if_pos ⟨AY,AY⟩,show bS m a+k - bS m a=k from AY]
    .rw[List.getElem?_eq_none AY]
   rw[this];exact p
  .have I:=o0 g
   have:lO m a m.aA[a] (hQ s (bS m i) l)=lO m a m.aA[a] s:=aib λk J=>by
    rw[x3 d,if_neg];rcases Nat.lt_or_gt_of_ne j with n | n
    .have:=aad n f;omega
    .have:=aad n g;omega
   rw[this];exact e.queue a g
 .have q:b<s.length:=by rw[BQ d] at h;exact h
  have c:=x3 d b;rw[List.getElem?_eq_getElem h] at c;by_cases r:bS m i<=b/\b<bS m i+l.length
  .rw[if_pos r] at c;have t:b - bS m i<(iH m.scalars m.aA[i]).length:=by rw[o3];omega
   obtain⟨K,w,x,y⟩:=awk u p t;obtain⟨L,z,A⟩:=att f t;rw[w] at c;have j:b=bS m i+(b - bS m i):=AY
   have B:(bF m)[b]=(bF m)[bS m i+(b - bS m i)]:=by congr 1
   injection c with c
   rw[c,B,z,A];exact⟨x,y⟩
  .rw[if_neg r,List.getElem?_eq_getElem q] at c;injection c with c
   rw[c];exact e.cell b q v
def agy{n:Nat}{l:C_ Int}{k:Nat}(a:k+1<n):(p3 n l)[k+1]? = some (l.getD k 0):=by
 unfold p3;rw[List.getElem?_cons_succ,List.getElem?_map,List.getElem?_range AY];rfl
def agz{s:C_ Scalar}{c:eb}{l:C_ Int}(i:1<=c.cap)(e:(l.length:Int)<=c.cap)(f:∀b∈l,(dJ c.scalar c.aQ c.ab s).aQ<=b/\b<=(dJ c.scalar c.aQ c.ab s).ab):mM s c (p3 (1+c.cap.toNat) l):=by
 refine⟨l.length,rfl,AY,e,λa j=>⟨l.getD a 0,agy AY,λg=>?_,λg=>?_⟩⟩
 .have d:a<l.length:=AY
  have h:l.getD a 0=l[a]:=by simp[d]
  rw[h];exact f _ (FA d)
 .simp[List.getD,List.getElem?_eq_none (show l.length<=a by omega)]
def agW{s:C_ Scalar}{c:eb}{l:C_ Int}(i:l.length=1+c.cap.toNat)(t:1<=c.cap)(h:mM s c l):iO l=true/\((iA l).length:Int)<=c.cap/\l.headD 0=(iA l).length/\∀e∈iA l,(dJ c.scalar c.aQ c.ab s).aQ<=e/\e<=(dJ c.scalar c.aQ c.ab s).ab:=by
 obtain⟨u,j,n,v,k⟩:=h;obtain⟨b,d,rfl⟩:∃b d,l=b :: d:=by
  cases l with
  | nil=>simp at i;omega
  | cons b d=>exact⟨b,d,rfl⟩
 simp only[List.getElem?_cons_zero,Option.some.injEq] at j;subst j;simp only[List.length_cons] at i;have m:iO (b :: d)=true:=by
  simp only[iO,Bool.and_eq_true,decide_eq_true_eq,List.all_eq_true];refine⟨⟨n,AY⟩,λe a=>?_⟩;obtain⟨f,g,rfl⟩:=List.mem_iff_getElem.1 a;rw[AG7] at g;rw[AK2];obtain⟨e,a,_,p⟩:=k (b.toNat+f) AY;rw[List.getElem?_cons_succ,List.getElem?_eq_getElem AY] at a;injection a with a
  rw[a];exact p AY
 have q:iA (b :: d)=d.take b.toNat:=by
  unfold iA;rw[if_pos m];rfl
 rw[q];refine⟨m,by rw[IP];omega,by rw[IP];simp;omega,λe a=>?_⟩;obtain⟨f,g,rfl⟩:=List.mem_iff_getElem.1 a;rw[IP] at g;rw[AL0];obtain⟨e,a,r,_⟩:=k f AY;rw[List.getElem?_cons_succ,List.getElem?_eq_getElem AY] at a;injection a with a
 rw[a];exact r AY
def av9{s:C_ Scalar}{c:eb}{l r:C_ Int}{v:Int}(d:l.length=1+c.cap.toNat)(e:1<=c.cap)(h:mM s c l)(f:(dJ c.scalar c.aQ c.ab s).aQ<=v/\v<=(dJ c.scalar c.aQ c.ab s).ab)(a:l6 l v=some r):mM s c r:=by
 obtain⟨m,n,g,i⟩:=agW d e h;unfold l6 at a;split at a
 .rename_i j;injection a with a
  subst a;rw[d];refine agz e ?_ λk b=>?_
  .have:=j.2
   rw[g,d] at this;rw[JM,List.length_singleton];omega
  .rcases List.mem_append.1 b with b | b
   .exact i k b
   .rw[AH0] at b;subst b;exact f
 .cases a
def ayq{s:C_ Scalar}{c:eb}{l r:C_ Int}{v:Int}(b:l.length=1+c.cap.toNat)(d:1<=c.cap)(h:mM s c l)(a:n3 l=some (r,v)):mM s c r:=by
 obtain⟨m,e,n,f⟩:=agW b d h;unfold n3 at a;split at a
 .cases a
 .rename_i p q g;injection a with a
  injection a with i t
  subst i;rw[b];rw[g] at e f;exact agz d (by simp only[List.length_cons] at e;omega) λj k=>f j (AG4 _ k)
def OA{m:Model}{s t:C_ Int}{c:Nat}{n:Int}(a:Fits m s)(b:c<total (bT m)\/total (bT m)+total (cn m)<=c)(h:putAt m s c n=some t):Fits m t:=by
 have d:=Ev h;subst d;refine abJ a b λe=>?_;unfold putAt AN at h;rw[List.getElem?_eq_getElem e] at h;simp only at h;split at h
 .cases h
 .omega
def Un{m:Model}{q:Nat}(j:Nat):total (bT m)+total (cn m)<=b7 m q+j:=by unfold b7;omega
def Qi{m:Model}(v:gh m){s t:C_ Int}{q p:Nat}{a:Act}(z:hF m q p)(e:qZ (inner (m.procs[p]'(z.aB)) (fm m)) a)(c:Fits m s)(h:hr m s q a=some t):Fits m t:=by
 have O:=e.kind;unfold hr at h;by_cases n:a.kind=5
 .rw[if_pos n] at h;have b:a.to.toNat<m.aA.length:=(e.chan (.inr n)).2;have f:=(v.chan _ (FA b)).cap.1;have g:(chanOf m s a.to.toNat).length=1+m.aA[a.to.toNat].cap.toNat:=by rw[pJ (by rw[c.len];exact mj b),o0 b]
  unfold yh at h;cases d:n3 (chanOf m s a.to.toNat) with
  | none=>rw[d] at h;cases h
  | some A =>
   obtain⟨w,P⟩:=A;rw[d] at h;have i:=c.queue _ b;have r:chanOf m s a.to.toNat=lO m a.to.toNat m.aA[a.to.toNat] s:=by unfold chanOf lO;rw[o0 b]
   rw[<-r] at i;have k:=IK d;have j:=RA c b f (by rw[k,g,o0 b]) (ayq g f i d);exact OA j (.inr (by rw[AH4];exact Un _)) h
 rw[if_neg n] at h;by_cases he:(eval a.value (bZ m s q)).2≠0
 .rw[if_pos he] at h;cases h
 rw[if_neg he] at h;by_cases j:a.kind=1
 .rw[if_pos j] at h;obtain⟨_,B,C,G⟩:=e.set j;obtain⟨l,H⟩:=List.getElem?_eq_some_iff.1 C;have I:a.to.toNat<m.vars.length:=l;have x:=qV I
  have:cells m.vars[a.to.toNat] m.scalars=1:=by
   have J:m.vars[a.to.toNat]=B:=H;rw[J];unfold cells;rw[if_pos G]
  exact OA c (.inl (by rw[this] at x;omega)) h
 rw[if_neg j] at h;by_cases u:a.kind=2
 .rw[if_pos u] at h;have l:a.to.toNat<m.vars.length:=(e.item u).2.1;have x:=qV l;have k:=BY l;unfold wh at h;split at h
  .cases h
  .rename_i K;exact OA c (.inl AY) h
 rw[if_neg u] at h;by_cases y:a.kind=3
 .rw[if_pos y] at h;exact OA c (.inr (by rw[AH4];exact Un _)) h
 rw[if_neg y] at h;have L:a.kind=4:=AY
 have b:a.to.toNat<m.aA.length:=(e.chan (.inl L)).2;have f:=(v.chan _ (FA b)).cap.1;have g:(chanOf m s a.to.toNat).length=1+m.aA[a.to.toNat].cap.toNat:=by rw[pJ (by rw[c.len];exact mj b),o0 b]
 have M:ue m a.to.toNat=dJ m.aA[a.to.toNat].scalar m.aA[a.to.toNat].aQ m.aA[a.to.toNat].ab m.scalars:=by unfold ue;rw[List.getElem?_eq_getElem b]
 unfold u7 at h;rw[M] at h;split at h
 .cases h
 .rename_i K;cases d:l6 (chanOf m s a.to.toNat) (eval a.value (bZ m s q)).1 with
  | none=>rw[d] at h;cases h
  | some w =>
   rw[d] at h;have r:hQ s (bS m a.to.toNat) w=t:=by injection h
   rw[<-r];have i:=c.queue _ b;have N:chanOf m s a.to.toNat=lO m a.to.toNat m.aA[a.to.toNat] s:=by unfold chanOf lO;rw[o0 b]
   rw[<-N] at i;have k:=Ij d;exact RA c b f (by rw[k,g,o0 b]) (av9 g f i AY d)
theorem ZG{m:Model}(i:gh m){q p:Nat}(f:hF m q p):∀(d:C_ Act) (b c:C_ Int),(∀e∈d,qZ (inner (m.procs[p]'(f.aB)) (fm m)) e)->Fits m b->jj m q d b=some c->Fits m c
 | [],b,c,_,g,a=>by injection a with a;rw[<-a];exact g
 | e :: d,b,c,j,g,a=>by
  simp only[jj] at a;cases h:hr m b q e with
  | none=>rw[h] at a;cases a
  | some k =>
   rw[h] at a;exact ZG i f d k c (λl n=>j l (AG4 _ n)) (Qi i f (j e (AG3 ..)) g h) a
theorem TY{m:Model}:∀(g:C_ ed) (d:Nat) (a:c9),a∈ky m g d↔∃c,∃t:c<g.length,a.proc=((d+c:Nat):Int)/\((g[c].over=0/\a.elem=0)\/(1<=a.elem/\a.elem<=elems m g[c]))
 | [],d,a=>by simp[ky]
 | h :: n,d,a=>by
  simp only[ky,List.mem_append,TY n (d+1) a];have p:a∈jw d h↔a.proc=d/\h.over=0/\a.elem=0:=by
   unfold jw;split<;>rename_i l
   .rw[AH0];constructor
    .rintro rfl;exact⟨rfl,l,rfl⟩
    .rintro⟨f,_,i⟩;cases a;simp only at f i;rw[f,i]
   .simp[l]
  have q:a∈ki d (elems m h)↔a.proc=d/\1<=a.elem/\a.elem<=elems m h:=by
   unfold ki;rw[List.mem_map];constructor
   .rintro⟨u,r,rfl⟩
    have:=List.mem_range.1 r
    exact⟨rfl,by simp only;omega,by simp only;omega⟩
   .rintro⟨f,i,s⟩;refine⟨(a.elem - 1).toNat,List.mem_range.2 AY,?_⟩;cases a;simp only at f i s ⊢;rw[f];congr 1;omega
  rw[p,q];constructor
  .rintro((⟨e,b,j⟩ | ⟨e,b,j⟩) | ⟨c,k,e,b⟩)
   .exact⟨0,Ah,by simpa using e,.inl ⟨b,j⟩⟩
   .exact⟨0,Ah,by simpa using e,.inr ⟨b,j⟩⟩
   .exact⟨c+1,by simpa using k,by rw[e];congr 1;omega,by simpa using b⟩
  .rintro⟨c,k,e,b⟩;cases c with
   | zero =>
    rcases b with b | b
    .exact .inl (.inl ⟨by simpa using e,by simpa using b⟩)
    .exact .inl (.inr ⟨by simpa using e,by simpa using b⟩)
   | succ c=>exact .inr ⟨c,by simpa using k,by rw[e];congr 1;omega,by simpa using b⟩
def abl(m:Model)(p:ed):((elems m p:Nat):Int)=size p.over m.scalars:=by
 unfold elems size nth;by_cases b:0<=p.over - 1
 .rw[if_pos b];cases m.scalars[(p.over - 1).toNat]? with
  | none=>rfl
  | some a =>
   simp only;by_cases c:a.size<1\/4<a.size
   .rw[if_pos c,if_neg AY];rfl
   .rw[if_neg c,if_pos AY];omega
 .rw[if_neg b];simp only;cases m.scalars[(p.over - 1).toNat]? with
  | none=>rfl
  | some a=>simp only;rw[if_neg AY];rfl
def hF.F5{m:Model}{q p:Nat}(h:hF m q p):((m.procs[p]'h.aB).over=0/\((insts m)[q]'h.ax).elem=0)\/(1<=((insts m)[q]'h.ax).elem/\((insts m)[q]'h.ax).elem<=size (m.procs[p]'h.aB).over m.scalars):=by
 obtain⟨b,c,d,a⟩:=(TY m.procs 0 ((insts m)[q]'h.ax)).1 (FA h.ax)
 have:b=p:=by
  have:=h.eq
  omega
 subst this;rw[abl] at a;exact a
def asE{m:Model}{p:Nat}{e:Int}(d:p<m.procs.length)(h:(m.procs[p].over=0/\e=0)\/(1<=e/\e<=size m.procs[p].over m.scalars)):∃a,∃b:hF m a p,((insts m)[a]'b.ax).elem=e:=by
 have f:(⟨(p:Int),e⟩:c9)∈insts m:=(TY m.procs 0 _).2 ⟨p,d,Ah,by rw[abl];exact h⟩;obtain⟨a,g,c⟩:=List.mem_iff_getElem.1 f;obtain⟨i,b⟩:=wg g
 have:i=p:=by
  have:=b.eq
  rw[c] at this;simp only at this;omega
 subst this;exact⟨a,b,by rw[c]⟩
def Mk{m:Model}{q r:Nat}(b:q<(insts m).length)(c:r<(insts m).length)(h:(insts m)[q]=(insts m)[r]):q=r:=by
 have a:=(Ml (m:=m) m.procs 0).1;rw[AK0] at a;rcases AK6 q r with I | I | I
 .have:((insts m)[q]).key<((insts m)[r]).key:=a q r b c I
  rw[h] at this;exact absurd this (AK3 _)
 .exact I
 .have:((insts m)[r]).key<((insts m)[q]).key:=a r q c b I
  rw[h] at this;exact absurd this (AK3 _)
structure jD(m:Model)(f:Int->Int->Int)(q q' p:Nat):Prop where
 a:hF m q p
 b:hF m q' p
 elem:((insts m)[q']'b.ax).elem=f (m.procs[p]'a.aB).over ((insts m)[q]'a.ax).elem
theorem jD.symm{m:Model}{f b:Int->Int->Int}(a:eD m.scalars f b){q q' p:Nat}(h:jD m f q q' p):jD m b q' q p:=⟨h.b,h.a,by rw[h.elem,a.l]⟩
def Ea{m:Model}{f b:Int->Int->Int}(e:eD m.scalars f b){q p:Nat}(h:hF m q p):∃a,jD m f q a p:=by
 obtain⟨a,g,i⟩:=asE (e:=f (m.procs[p]'h.aB).over ((insts m)[q]'h.ax).elem) h.aB (by
  rcases h.F5 with ⟨c,d⟩ | ⟨c,d⟩
  .exact .inl ⟨c,by rw[d];exact e.out _ _ (.inl AY)⟩
  .exact .inr (e.kx _ _ c d))
 exact⟨a,h,g,i⟩
theorem jD.one{m:Model}{f:Int->Int->Int}{q q' p r a:Nat}(h:jD m f q q' p)(k:jD m f q r a):q'=r/\p=a:=by
 have g:p=a:=by
  have l:=h.a.eq;have n:=k.a.eq;omega
 subst g;refine⟨Mk h.b.ax k.b.ax ?_,rfl⟩;have b:=h.elem;have c:=k.elem;have d:=h.b.eq;have e:=k.b.eq;generalize (insts m)[q']'h.b.ax=i at *;generalize (insts m)[r]'k.b.ax=j at *;cases i;cases j;simp only at b c d e;rw[b,c,d,e]
def jD.trans{m:Model}{f b:Int->Int->Int}{q q' c p d:Nat}(h:jD m f q q' p)(k:jD m b q' c d):jD m (λa e=>b a (f a e)) q c p:=by
 have g:d=p:=by
  have a:=h.b.eq;have i:=k.a.eq;omega
 subst g;exact⟨h.a,k.b,by rw[k.elem,h.elem]⟩
inductive gI (m:Model) (f:Int->Int->Int):Nat->Nat->Prop
 | var {i j j':Nat} (h:i<m.vars.length) (av:(j:Int)<cells m.vars[i] m.scalars) (ar:f m.vars[i].over (j+1)=j'+1):gI m f (dS m i+j) (dS m i+j')
 | chan {i j:Nat} (h:i<m.aA.length) (av:j<1+m.aA[i].cap.toNat):gI m f (bS m i+j) (bS m i+j)
 | inst {q q' p j:Nat} (h:jD m f q q' p) (av:j<1+(m.procs[p]'h.a.aB).vars.length):gI m f (b7 m q+j) (b7 m q'+j)
def sq{m:Model}{i j:Nat}(a:i<m.vars.length)(h:(j:Int)<cells m.vars[i] m.scalars) :
  (bF m)[dS m i+j]? = some ⟨1,i,j,(dJ m.vars[i].scalar m.vars[i].aQ m.vars[i].ab m.scalars).aQ,(dJ m.vars[i].scalar m.vars[i].aQ m.vars[i].ab m.scalars).ab,(dJ m.vars[i].scalar m.vars[i].aQ m.vars[i].ab m.scalars).kind⟩:=by
 have c:i<(bT m).length:=by simpa[bT] using a
 have b:(bT m)[i]=qW m.scalars m.vars[i]:=by simp[bT]
 have d:j<(bT m)[i].length:=by rw[b,vb];omega
 have e:=w9 1 (bT m) 0 i j c d;have k:=qV a;have f:=Uf (m:=m) (c:=dS m i+j) AY;rw[f];unfold dS;rw[e];have g:(bT m)[i][j]=dJ m.vars[i].scalar m.vars[i].aQ m.vars[i].ab m.scalars:=by simp only[b];simp[qW]
 rw[g,ZQ]
def uN{m:Model}{i j:Nat}(b:i<m.aA.length)(a:j<1+m.aA[i].cap.toNat) :
  (bF m)[bS m i+j]? = some ⟨2,i,j,((iH m.scalars m.aA[i])[j]'(by rw[o3];exact a)).aQ,((iH m.scalars m.aA[i])[j]'(by rw[o3];exact a)).ab,((iH m.scalars m.aA[i])[j]'(by rw[o3];exact a)).kind⟩:=by
 have d:i<(cn m).length:=by simpa[cn] using b
 have c:(cn m)[i]=iH m.scalars m.aA[i]:=by simp[cn]
 have e:j<(cn m)[i].length:=by rw[c,o3];exact a
 have f:=w9 2 (cn m) 0 i j d e;have g:=ub b;rw[MC (m:=m) (c:=bS m i+j) (by unfold bS;omega) AY,show bS m i+j - total (bT m)=total ((cn m).take i)+j from by unfold bS;omega,f];simp only[c,Nat.zero_add]
def ps{m:Model}{q p j:Nat}(h:hF m q p)(a:j<1+(m.procs[p]'h.aB).vars.length) :
  (bF m)[b7 m q+j]? = some ⟨3,q,j,((kR m.scalars (m.procs[p]'h.aB))[j]'(by rw[py];exact a)).aQ,((kR m.scalars (m.procs[p]'h.aB))[j]'(by rw[py];exact a)).ab,((kR m.scalars (m.procs[p]'h.aB))[j]'(by rw[py];exact a)).kind⟩:=by
 have c:q<(dH m).length:=by simpa[dH] using h.ax
 have b:(dH m)[q]=kR m.scalars (m.procs[p]'h.aB):=by simp[dH,h.C7]
 have d:j<(dH m)[q].length:=by rw[b,py];exact a
 have e:=w9 3 (dH m) 0 q j c d;rw[MD (m:=m) (c:=b7 m q+j) (by unfold b7;omega),show b7 m q+j - (total (bT m)+total (cn m))=total ((dH m).take q)+j from by unfold b7;omega,e];simp only[b,Nat.zero_add]
theorem aar{v:Var}{s:C_ Scalar}:cells v s=if v.over=0 then 1 else size v.over s:=rfl
def Pg{m:Model}{f b:Int->Int->Int}(d:eD m.scalars f b){i:Nat}(h:i<m.vars.length){e:Int}(g:1<=e)(a:e<=cells m.vars[i] m.scalars):1<=f m.vars[i].over e/\f m.vars[i].over e<=cells m.vars[i] m.scalars:=by
 unfold cells at a ⊢;by_cases c:m.vars[i].over=0
 .rw[if_pos c] at a ⊢
  have:size m.vars[i].over m.scalars=0:=by
   rw[c];unfold size;split
   .rw[if_neg AY]
   .rfl
  rw[d.out _ _ (.inr AY)];omega
 .rw[if_neg c] at a ⊢;exact d.kx _ _ g a
theorem gI.symm{m:Model}{f b:Int->Int->Int}(d:eD m.scalars f b){c e:Nat}(h:gI m f c e):gI m b e c:=by
 cases h with
 | @var j g k h a i =>
  have l:=Pg d h (e:=(g:Int)+1) AY AY;exact .var h AY (by rw[<-i,d.l])
 | chan h a=>exact .chan h a
 | inst h a=>exact .inst (h.symm d) a
theorem JS{m:Model}{f:Int->Int->Int}{c v d w:Nat}(h:gI m f c v)(k:gI m f d w)(e:c=d):v=w:=by
 have i:∀{s t:Cell},(bF m)[c]? = some s->(bF m)[d]? = some t->s=t:=λ{s t} q a=>by
  rw[e,a] at q;injection q with q
  exact q.symm
 cases h with
 | @var x r B h j C =>
  have g:=sq h j;cases k with
  | @var i2 u G a b y =>
   have:=i g (sq a b)
   injection this with _ l n
   have l:x=i2:=AY
   have n:r=u:=AY
   subst l n;omega
  | chan a b=>have:=i g (uN a b);injection this with p;omega
  | inst a b=>have:=i g (ps a.a b);injection this with p;omega
 | @chan x r h j =>
  have g:=uN h j;cases k with
  | var a b y=>have:=i g (sq a b);injection this with p;omega
  | chan a b=>exact e
  | inst a b=>have:=i g (ps a.a b);injection this with p;omega
 | @inst z H I r h j =>
  have g:=ps h.a j;cases k with
  | var a b y=>have:=i g (sq a b);injection this with p;omega
  | chan a b=>have:=i g (uN a b);injection this with p;omega
  | @inst A J K u a b =>
   have:=i g (ps a.a b)
   injection this with _ l n
   have l:z=A:=AY
   have n:r=u:=AY
   subst l n;rw[(h.one a).1]
def JT{m:Model}{f b:Int->Int->Int}(a:eD m.scalars f b){c e d g:Nat}(h:gI m f c e)(k:gI m f d g):c=d↔e=g:=⟨JS h k,JS (h.symm a) (k.symm a)⟩
def De{m:Model}(t:gh m){f b:Int->Int->Int}(j:eD m.scalars f b){c:Nat}(k:c<cH m):∃l,gI m f c l:=by
 have u:=zX m;unfold cH at k;by_cases n:c<total (bT m)
 .obtain⟨a,d,hw,e,h⟩:=Ct _ _ n;have g:a<m.vars.length:=by simpa[bT] using hw
  have br:(bT m)[a]=qW m.scalars m.vars[a]:=by simp[bT]
  rw[br,vb] at e;have v:=Pg j g (e:=(d:Int)+1) AY AY;refine⟨dS m a+(f m.vars[a].over (d+1) - 1).toNat,?_⟩;rw[show c=dS m a+d from h];exact .var g AY AY
 by_cases w:c<total (bT m)+total (cn m)
 .obtain⟨a,d,hw,e,h⟩:=Ct (cn m) (c - total (bT m)) AY;have g:a<m.aA.length:=by simpa[cn] using hw
  have br:(cn m)[a]=iH m.scalars m.aA[a]:=by simp[cn]
  rw[br,o3] at e;refine⟨c,?_⟩;rw[show c=bS m a+d from by unfold bS;omega];exact .chan g e
 .obtain⟨a,d,hw,e,h⟩:=Ct (dH m) (c - (total (bT m)+total (cn m))) AY;have g:a<(insts m).length:=by simpa[dH] using hw
  obtain⟨p,i⟩:=wg g;have q:(dH m)[a]=kR m.scalars (m.procs[p]'i.aB):=by simp[dH,i.C7]
  rw[q,py] at e;obtain⟨r,s⟩:=Ea j i;refine⟨b7 m r+d,?_⟩;rw[show c=b7 m a+d from by unfold b7;omega];exact .inst s e
def pY(m:Model)(c:Nat):Int:=match (bF m)[c]? with | some a=>a.kind | none=>0
def wi{m:Model}{c:Nat}{x:Cell}(h:(bF m)[c]? = some x):pY m c=x.kind:=by unfold pY;rw[h]
theorem gI.lay{m:Model}{f b:Int->Int->Int}(i:eD m.scalars f b){c l:Nat}(h:gI m f c l):∃a j,(bF m)[c]? = some a/\(bF m)[l]? = some j/\j.aQ=a.aQ/\j.ab=a.ab/\j.kind=a.kind /\
  ∀d,(a.aQ<=fp f a.kind d↔a.aQ<=d)/\(fp f a.kind d<=a.ab↔d<=a.ab):=by
 cases h with
 | @var k e p h g q =>
  have r:=Pg i h (e:=(e:Int)+1) AY AY;exact⟨_,_,sq h g,sq h AY,rfl,rfl,rfl,λd=>Ir i _ _ _ d⟩
 | @chan k e h g =>
  refine⟨_,_,uN h g,uN h g,rfl,rfl,rfl,λd=>?_⟩;cases e with
  | zero=>exact⟨Iff.rfl,Iff.rfl⟩
  | succ e =>
   have n:(iH m.scalars m.aA[k])[e+1]'(by rw[o3];exact g)=j6 m.scalars m.aA[k]:=by simp[iH]
   rw[n];exact Ir i _ _ _ d
 | @inst s t u e h g =>
  refine⟨_,_,ps h.a g,ps h.b g,rfl,rfl,rfl,λd=>?_⟩;cases e with
  | zero=>exact⟨Iff.rfl,Iff.rfl⟩
  | succ e =>
   simp only[kR,List.getElem_cons_succ,List.getElem_map];exact Ir i _ _ _ d
theorem gI.kind{m:Model}{f b:Int->Int->Int}(d:eD m.scalars f b){c a:Nat}(h:gI m f c a):pY m a=pY m c:=by
 obtain⟨j,k,e,g,_,_,i,_⟩:=h.lay d;rw[wi e,wi g,i]
def gI.lt{m:Model}{f b:Int->Int->Int}(d:eD m.scalars f b){c a:Nat}(h:gI m f c a):c<cH m/\a<cH m:=by
 obtain⟨i,j,e,g,_⟩:=h.lay d;exact⟨(List.getElem?_eq_some_iff.1 e).1,(List.getElem?_eq_some_iff.1 g).1⟩
def FH(a b c:Int)(s:C_ Scalar):(dJ a b c s).kind=kindOf a:=by unfold dJ kindOf;split<;>rfl
def Mu{m:Model}{i j:Nat}(a:i<m.vars.length)(b:(j:Int)<cells m.vars[i] m.scalars):pY m (dS m i+j)=kindOf m.vars[i].scalar:=by rw[wi (sq a b)];exact FH _ _ _ _
def T4{m:Model}{i:Nat}(a:i<m.aA.length):pY m (bS m i)=0:=by
 have:=wi (uN (m:=m) (i:=i) (j:=0) a AY)
 exact this
def afd{m:Model}{i j:Nat}(a:i<m.aA.length)(c:j<m.aA[i].cap.toNat):pY m (bS m i+(j+1))=kindOf m.aA[i].scalar:=by
 rw[wi (uN (m:=m) (i:=i) (j:=j+1) a AY)];have b:(iH m.scalars m.aA[i])[j+1]'(by rw[o3];omega)=j6 m.scalars m.aA[i]:=by simp[iH]
 simp only[b];exact FH _ _ _ _
def afe{m:Model}{q p:Nat}(h:hF m q p):pY m (b7 m q)=0:=wi (ps (m:=m) (q:=q) (j:=0) h AY)
def T5{m:Model}{q p j:Nat}(h:hF m q p)(a:j<(m.procs[p]'h.aB).vars.length):pY m (b7 m q+(j+1))=kindOf ((m.procs[p]'h.aB).vars[j]).scalar:=by
 rw[wi (ps (m:=m) (q:=q) (j:=j+1) h AY)];simp only[kR,List.getElem_cons_succ,List.getElem_map];exact FH _ _ _ _
structure fB(m:Model)(f:Int->Int->Int)(s t:List Int):Prop where
 ls:s.length=cH m
 lt:t.length=cH m
 cell:∀c di,gI m f c di->t[di]? = s[c]?.map (fp f (pY m c))
theorem fB.symm{m:Model}{f b:Int->Int->Int}(a:eD m.scalars f b){s t:C_ Int}(h:fB m f s t):fB m b t s:=⟨h.lt,h.ls,λg d c=>by
 have e:=c.symm a.symm;rw[h.cell _ _ e,Option.map_map,c.kind a.symm];cases s[d]? with
 | none=>rfl
 | some i=>simp only[Option.map_some,Function.comp_apply,axa a]⟩
def fB.eq{m:Model}(e:gh m){f b:Int->Int->Int}(a:eD m.scalars f b){s t c:C_ Int}(h:fB m f s t)(k:fB m f s c):t=c:=by
 apply List.ext_getElem?;intro g;by_cases i:g<cH m
 .obtain⟨l,j⟩:=De e a.symm i;have d:=j.symm a.symm;rw[h.cell _ _ d,k.cell _ _ d]
 .rw[List.getElem?_eq_none (by rw[h.lt];omega),List.getElem?_eq_none (by rw[k.lt];omega)]
theorem gI.split{m:Model}{f b i q:Int->Int->Int}(k:eD m.scalars f b)(r:eD m.scalars i q){c d:Nat}(h:gI m (λl s=>i l (f l s)) c d):∃n,gI m f c n/\gI m i n d:=by
 cases h with
 | @var g e u h a t =>
  have v:=Pg k h (e:=(e:Int)+1) AY AY;refine⟨dS m g+(f m.vars[g].over (e+1) - 1).toNat,.var h a AY,.var h AY ?_⟩;rw[show(((f m.vars[g].over (e+1) - 1).toNat:Nat):Int)+1=f m.vars[g].over (e+1) from AY];exact t
 | chan h a=>exact⟨_,.chan h a,.chan h a⟩
 | @inst w x y e h a =>
  obtain⟨z,j⟩:=Ea k h.a;obtain⟨A,p⟩:=Ea r j.b
  have:=(h.one (j.trans p)).1
  subst this;exact⟨_,.inst j a,.inst p a⟩
def fB.trans{m:Model}{f b a g:Int->Int->Int}(c:eD m.scalars f b)(i:eD m.scalars a g){s t d:C_ Int}(h:fB m f s t)(k:fB m a t d):fB m (λk j=>a k (f k j)) s d:=⟨h.ls,k.lt,λp q l=>by
 obtain⟨r,e,n⟩:=l.split c i;rw[k.cell _ _ n,h.cell _ _ e,Option.map_map,e.kind c];congr 1;funext u;simp only[Function.comp_apply];unfold fp;split<;>rfl⟩
def fB.set{m:Model}{f b:Int->Int->Int}(d:eD m.scalars f b){s t:C_ Int}(h:fB m f s t){c j:Nat}(e:gI m f c j)(n:Int):fB m f (s.set c n) (t.set j (fp f (pY m c) n)):=⟨by rw[ZP];exact h.ls,by rw[ZP];exact h.lt,λk q g=>by
 obtain⟨l,p⟩:=e.lt d;rw[List.getElem?_set,List.getElem?_set];by_cases a:c=k
 .have i:=(JT d e g).1 a;subst a i;rw[if_pos rfl,if_pos rfl,if_pos (by rw[h.lt];exact p),if_pos (by rw[h.ls];exact l)];rfl
 .rw[if_neg a,if_neg (λi=>a ((JT d e g).2 i))];exact h.cell _ _ g⟩
def Z4{m:Model}{c:Nat}{x:Cell}(h:(bF m)[c]? = some x):AN m c=(x.aQ,x.ab):=by unfold AN;rw[h]
def OB{m:Model}{f b:Int->Int->Int}(d:eD m.scalars f b){s t e:C_ Int}(h:fB m f s t){c g:Nat}(i:gI m f c g){n:Int}(a:putAt m s c n=some e):∃j,putAt m t g (fp f (pY m c) n)=some j/\fB m f e j:=by
 obtain⟨v,w,k,l,p,q,_,r⟩:=i.lay d;have u:=Ev a;unfold putAt at a;rw[Z4 k] at a;simp only at a;split at a
 .cases a
 .rename_i x
  have:=r n
  rw[u];refine⟨_,?_,h.set d i n⟩;unfold putAt;rw[Z4 l,wi k];simp only;rw[p,q,if_neg AY]
def ny(f:Int->Int->Int)(k:Int):C_ Int->C_ Int
 | []=>[]
 | a :: b=>a :: b.map (fp f k)
def Is(f:Int->Int->Int)(k:Int)(l:C_ Int):(ny f k l).length=l.length:=by cases l<;>simp[ny]
def Vx(f:Int->Int->Int)(k:Int)(l:C_ Int):(ny f k l)[0]? = l[0]? := by cases l<;>rfl
def Vw(f:Int->Int->Int)(k:Int)(l:C_ Int)(j:Nat):(ny f k l)[j+1]? = l[j+1]?.map (fp f k):=by cases l<;>simp[ny]
theorem ahp{s:C_ Scalar}{f b:Int->Int->Int}(c:eD s f b)(k:Int)(l:C_ Int):iO (ny f k l)=iO l:=by
 cases l with
 | nil=>rfl
 | cons g h =>
  have e:∀a,(fp f k a=0)=(a=0):=λa=>propext ⟨λd=>Vv c (d.trans (wA c k).symm),λd=>by rw[d];exact wA c k⟩;simp only[ny,iO,List.length_map,<-List.map_drop,List.all_map];congr 2;funext a;simp only[Function.comp_apply,e]
def ahq{s:C_ Scalar}{f b:Int->Int->Int}(a:eD s f b)(k:Int)(l:C_ Int):iA (ny f k l)=(iA l).map (fp f k):=by
 unfold iA;rw[ahp a];split
 .cases l with
  | nil=>simp[ny]
  | cons c d=>simp[ny,List.map_take]
 .rfl
theorem ahr{s:C_ Scalar}{f b:Int->Int->Int}(a:eD s f b)(k:Int)(n:Nat)(l:C_ Int):p3 n (l.map (fp f k))=ny f k (p3 n l):=by
 unfold p3;simp only[ny,List.length_map,List.map_map];congr 1;apply AI4;intro c _;simp only[Function.comp_apply,List.getD,List.getElem?_map];cases l[c]? with
 | none=>simp[wA a]
 | some d=>rfl
def axb{s:C_ Scalar}{f b:Int->Int->Int}(a:eD s f b)(k:Int)(l:C_ Int)(v:Int):l6 (ny f k l) (fp f k v)=(l6 l v).map (ny f k):=by
 have c:(ny f k l).headD 0=l.headD 0:=by cases l<;>rfl
 unfold l6;rw[ahp a,c,Is,ahq a];split
 .rw[AI5,<-ahr a,AF9];rfl
 .rfl
theorem axc{s:C_ Scalar}{f b:Int->Int->Int}(a:eD s f b)(k:Int)(l:C_ Int):n3 (ny f k l)=(n3 l).map λc=>(ny f k c.1,fp f k c.2):=by
 unfold n3;rw[ahq a,Is];cases iA l with
 | nil=>rfl
 | cons d e=>simp only[List.map_cons,Option.map_some,ahr a]
def fB.chan{m:Model}{f b:Int->Int->Int}(k:eD m.scalars f b){s t:C_ Int}(h:fB m f s t){i:Nat}(c:i<m.aA.length):chanOf m t i=ny f (kindOf m.aA[i].scalar) (chanOf m s i):=by
 have l:=mj c;have n:=o0 c;apply List.ext_getElem?;intro a;have d:∀g:C_ Int,(chanOf m g i)[a]? = if a<1+gq m i then g[bS m i+a]? else none:=λg=>by
  unfold chanOf;rw[List.getElem?_take,List.getElem?_drop]
 by_cases e:a<1+gq m i
 .have j:=h.cell _ _ (gI.chan (f:=f) (j:=a) c AY);cases a with
  | zero =>
   rw[Vx,d,d,if_pos e,if_pos e,j,AH1,T4 c];cases s[bS m i]? with
   | none=>rfl
   | some p=>rfl
  | succ a=>rw[Vw,d,d,if_pos e,if_pos e,j,afd c AY]
 .rw[List.getElem?_eq_none (by rw[pJ (by rw[h.lt];omega)];omega),List.getElem?_eq_none (by rw[Is,pJ (by rw[h.ls];omega)];omega)]
def fB.Eb{m:Model}{f b:Int->Int->Int}(w:eD m.scalars f b){s t:C_ Int}(h:fB m f s t){i:Nat}(g:i<m.aA.length){l:C_ Int}(y:l.length=1+gq m i):fB m f (hQ s (bS m i) l) (hQ t (bS m i) (ny f (kindOf m.aA[i].scalar) l)):=by
 have z:=mj g;have A:=o0 g;have k:bS m i+l.length<=s.length:=by rw[h.ls];omega
 have n:bS m i+(ny f (kindOf m.aA[i].scalar) l).length<=t.length:=by rw[Is,h.lt];omega
 refine⟨by rw[BQ k];exact h.ls,by rw[BQ n];exact h.lt,λc p j=>?_⟩;rw[x3 k,x3 n,Is];have q:∀a,bS m i<=a->a<bS m i+l.length->gI m f a a:=λa r u=>by
  have:=gI.chan (f:=f) (j:=a - bS m i) g AY
  rwa[show bS m i+(a - bS m i)=a from AY] at this
 by_cases d:bS m i<=c/\c<bS m i+l.length
 .have v:c=p:=JS (q c d.1 d.2) j rfl;subst v;rw[if_pos d,if_pos d];obtain⟨e,x⟩:∃e,c=bS m i+e:=⟨c - bS m i,AY⟩;subst x;rw[show bS m i+e - bS m i=e from AY];cases e with
  | zero =>
   rw[Vx,AH1,T4 g];cases l[0]? with
   | none=>rfl
   | some a=>rfl
  | succ e=>rw[Vw,afd g AY]
 .rw[if_neg d,if_neg]
  .exact h.cell _ _ j
  .rintro⟨r,u⟩;have v:=(JT w j (q p r u)).2 rfl;exact d ⟨AY,AY⟩
def fB.fits{m:Model}(v:gh m){f b:Int->Int->Int}(c:eD m.scalars f b){s t:C_ Int}(h:fB m f s t)(r:Fits m s):Fits m t:=by
 refine⟨h.lt,λa i=>?_,λw j U=>?_⟩
 .have u:=r.queue a i;have x:∀k,lO m a m.aA[a] k=chanOf m k a:=λk=>by unfold lO chanOf;rw[o0 i]
  rw[x] at u ⊢;rw[h.chan c i];obtain⟨y,z,l,d,A⟩:=u;refine⟨y,by rw[Vx];exact z,l,d,λB C=>?_⟩;obtain⟨g,G,H,I⟩:=A B C
  have:=Ir c m.aA[a].scalar m.aA[a].aQ m.aA[a].ab g
  rw[FH] at this;refine⟨fp f (kindOf m.aA[a].scalar) g,by rw[Vw,G];rfl,λn=>?_,λn=>?_⟩
  .have:=H n;omega
  .rw[I n];exact wA c _
 .obtain⟨e,J⟩:=De v c.symm (by rw[h.lt] at j;exact j);have p:=J.symm c.symm;obtain⟨g,K,q,L,M,N,V,O⟩:=p.lay c;have jP:e<s.length:=by rw[h.ls];exact(p.lt c).1
  have P:e<(bF m).length:=(List.getElem?_eq_some_iff.1 q).1;have l:=r.cell e jP P;have d:=h.cell _ _ p;rw[List.getElem?_eq_getElem jP,List.getElem?_eq_getElem j,wi q] at d;have Q:(bF m)[e]=g:=(List.getElem?_eq_some_iff.1 q).2;have S:(bF m)[w]=K:=(List.getElem?_eq_some_iff.1 L).2;injection d with d
  rw[d,S,M,N];rw[Q] at l
  have:=O s[e]
  omega
def ah7(s:C_ Scalar):size 0 s=0:=by
 unfold size;split
 .rw[if_neg AY]
 .rfl
theorem eD.none{s:C_ Scalar}{f b:Int->Int->Int}(h:eD s f b)(e:Int):f 0 e=e:=h.out 0 e (by rw[ah7];omega)
def asI{m:Model}{f b:Int->Int->Int}(e:eD m.scalars f b):∃k:Nat->Nat,(∀a,a<(insts m).length->∃c,jD m f a (k a) c)/\((List.range (insts m).length).map k).Perm (List.range (insts m).length):=by
 have g:∀a,∃h,a<(insts m).length->∃c,jD m f a h c:=λa=>by
  by_cases d:a<(insts m).length
  .obtain⟨c,i⟩:=wg d;obtain⟨h,j⟩:=Ea e i;exact⟨h,λ_=>⟨c,j⟩⟩
  .exact⟨a,λj=>absurd j d⟩
 refine⟨λa=>Classical.choose (g a),λa=>Classical.choose_spec (g a),?_⟩;refine Ov _ _ AL1 Ah λp l=>?_;obtain⟨c,i⟩:=wg (List.mem_range.1 l);obtain⟨a,d⟩:=Ea e.symm i;obtain⟨q,n⟩:=Classical.choose_spec (g a) d.b.ax;exact List.mem_map.2 ⟨a,List.mem_range.2 d.b.ax,(n.one (d.symm e.symm)).1⟩
theorem fB.loc{m:Model}{f:Int->Int->Int}{s t:C_ Int}(h:fB m f s t){q q' p:Nat}(a:jD m f q q' p):t[b7 m q']? = s[b7 m q]? := by
 have:=h.cell _ _ (gI.inst (j:=0) a AY)
 rw[AH1,AH1,afe a.a] at this;rw[this];cases s[b7 m q]? with
 | none=>rfl
 | some b=>rfl
def amn{m:Model}{f b:Int->Int->Int}(d:eD m.scalars f b){s t:C_ Int}(h:fB m f s t)(p l:Int):sX m t p l (insts m).length=sX m s p l (insts m).length:=by
 obtain⟨e,g,i⟩:=asI d;unfold sX;rw[<-(i.filter _).length_eq,List.filter_map,AG8];congr 1;refine List.filter_congr λc j=>?_;obtain⟨n,a⟩:=g c (List.mem_range.1 j);have k:(insts m)[e c]?.map (·.proc)=(insts m)[c]?.map (·.proc):=by
  rw[List.getElem?_eq_getElem a.a.ax,List.getElem?_eq_getElem a.b.ax,AI5,AI5,a.a.eq,a.b.eq]
 simp only[Function.comp_apply,k,h.loc a]
def axs{m:Model}{f b:Int->Int->Int}(a:eD m.scalars f b){s t:C_ Int}(h:fB m f s t)(p:Nat)(n:Int):jI m t p n (insts m).length=jI m s p n (insts m).length:=by
 unfold jI;exact AI4 λc _=>by rw[amn a h]
def Af(s:C_ Int)(a n j:Nat):((s.drop a).take n)[j]? = if j<n then s[a+j]? else none:=by rw[List.getElem?_take,List.getElem?_drop]
def ai2{m:Model}{f b:Int->Int->Int}(g:eD m.scalars f b){s t:C_ Int}(h:fB m f s t)(inst j:Int)(i:Nat)(x:Var)(k:m.vars[i]? = some x)(c:x.over=0) :
  ∃d e,(bZ m s inst).vars[i]? = some d/\(bZ m t j).vars[i]? = some e/\e[0]? = d[0]?.map (fp f (kindOf x.scalar)):=by
 obtain⟨a,rfl⟩:=List.getElem?_eq_some_iff.1 k;refine⟨_,_,Cm a,Cm a,?_⟩;have n:cells m.vars[i] m.scalars=1:=by unfold cells;rw[if_pos c]
 have l:=h.cell _ _ (gI.var (j:=0) (j':=0) a AY (by rw[c,g.none]));rw[Af,Af,if_pos AY,if_pos AY,l,Mu a AY]
def ai1{m:Model}{f b:Int->Int->Int}(e:eD m.scalars f b){s t:C_ Int}(h:fB m f s t)(inst l:Int)(i:Nat)(x:Var)(n:m.vars[i]? = some x)(p:x.over≠0) :
  ∃g j,(bZ m s inst).vars[i]? = some g/\(bZ m t l).vars[i]? = some j/\∀a:Int,nth j (f x.over a - 1)=(nth g (a - 1)).map (fp f (kindOf x.scalar)):=by
 obtain⟨c,rfl⟩:=List.getElem?_eq_some_iff.1 n;refine⟨_,_,Cm c,Cm c,λa=>?_⟩;have r:cells m.vars[i] m.scalars=size m.vars[i].over m.scalars:=by unfold cells;rw[if_neg p]
 unfold nth;by_cases he:1<=a/\a<=size m.vars[i].over m.scalars
 .have k:=e.kx m.vars[i].over a he.1 he.2;have q:=h.cell _ _ (gI.var (j:=(a - 1).toNat) (j':=(f m.vars[i].over a - 1).toNat) c AY (by rw[show(((a - 1).toNat:Nat):Int)+1=a from AY];omega));rw[if_pos AY,if_pos AY,Af,Af,if_pos AY,if_pos AY,q,Mu c AY]
 .have k:=e.out m.vars[i].over a AY;rw[k];by_cases d:0<=a - 1
  .rw[if_pos d,if_pos d,Af,Af,if_neg AY,if_neg AY];rfl
  .rw[if_neg d,if_neg d];rfl
theorem afA{m:Model}{f:Int->Int->Int}{s t:C_ Int}(h:fB m f s t)(inst c:Int):(bZ m t c).lens=(bZ m s inst).lens:=by
 simp only[bZ];refine AI4 λd a=>?_;have a:=List.mem_range.1 a;have b:=h.cell _ _ (gI.chan (f:=f) (j:=0) a AY);rw[AH1,T4 a] at b;rw[List.getElem!_eq_getElem?_getD,List.getElem!_eq_getElem?_getD,b];cases s[bS m d]? with
 | none=>rfl
 | some e=>rfl
def ZY{m:Model}{f b:Int->Int->Int}(a:eD m.scalars f b){s t:C_ Int}(h:fB m f s t)(inst c:Int):(bZ m t c).at_=(bZ m s inst).at_:=by
 simp only[bZ];exact AI4 λd _=>axs a h _ _
def anb{m:Model}{f b:Int->Int->Int}(a:eD m.scalars f b){s t:C_ Int}(h:fB m f s t):CO (fm m) f (bZ m s (-1)) (bZ m t (-1)) :=
 ⟨ai2 a h _ _,ai1 a h _ _,λd e c=>by simp[fm] at c,afA h _ _,ZY a h _ _,by rw[(VV Ae).2,(VV Ae).2];exact(wA a _).symm⟩
def abn{m:Model}{f b:Int->Int->Int}(d:eD m.scalars f b){s t:C_ Int}(h:fB m f s t){q q' p:Nat}(a:jD m f q q' p):CO (inner (m.procs[p]'a.a.aB) (fm m)) f (bZ m s q) (bZ m t q'):=by
 refine⟨ai2 d h _ _,ai1 d h _ _,λc j e=>?_,afA h _ _,ZY d h _ _,?_⟩
 .have e:(m.procs[p]'a.a.aB).vars[c]? = some j:=e;obtain⟨g,rfl⟩:=List.getElem?_eq_some_iff.1 e;have k:(kf m ((insts m)[q]'a.a.ax)).length - 1=(m.procs[p]'a.a.aB).vars.length:=by rw[a.a.C7,py];omega
  have l:(kf m ((insts m)[q']'a.b.ax)).length - 1=(m.procs[p]'a.a.aB).vars.length:=by rw[a.b.C7,py];omega
  rw[(yt s a.a.ax rfl).1,(yt t a.b.ax rfl).1,k,l,Af,Af,if_pos g,if_pos g];have n:=h.cell _ _ (gI.inst (j:=c+1) a AY);rw[show b7 m q'+1+c=b7 m q'+(c+1) from AY,show b7 m q+1+c=b7 m q+(c+1) from AY,n,T5 a.a g]
 .rw[(yt s a.a.ax rfl).2,(yt t a.b.ax rfl).2,a.elem];have r:(inner (m.procs[p]'a.a.aB) (fm m)).self=(m.procs[p]'a.a.aB).over:=rfl;rw[r];rcases a.a.F5 with ⟨i,u⟩ | ⟨i,u⟩
  .rw[i,d.none];rfl
  .have v:0<(m.procs[p]'a.a.aB).over:=by
    apply Classical.byContradiction;intro y
    have:size (m.procs[p]'a.a.aB).over m.scalars=0:=by
     unfold size;split
     .rw[if_neg AY]
     .rfl
    omega
   obtain⟨w,x⟩:=afg v;unfold fp;rw[if_pos x,w]
def ZT{e:C_ Node}{k:Int}{s:Scope}(h:asked e k s=0):(kind e s).2=0/\(kind e s).1=k:=by
 unfold asked at h;by_cases a:(kind e s).2≠0
 .rw[if_pos a] at h;exact absurd h a
 rw[if_neg a] at h;by_cases b:(kind e s).1≠k
 .rw[if_pos b] at h;cases h
 .exact⟨by simpa using a,by simpa using b⟩
def aiA{a b:Int}{s:Scope}(h:(lf a b s).2=true):(lf a b s).1=kindOf a:=by
 unfold lf at h ⊢;unfold kindOf;by_cases c:a<0\/(s.scalars.length:Int)<a\/b<0\/(s.scalars.length:Int)<b
 .rw[if_pos c] at h;cases h
 .rw[if_neg c] at h ⊢;split
  .rfl
  .simp only;omega
theorem aaW{l:C_ Var}{n:Int}{s:Scope}{v:Var}{k:Int}(h:declared l n s=some (v,k)):0<=n/\l[n.toNat]? = some v/\k=kindOf v.scalar:=by
 obtain⟨b,c,_⟩:=Q2 h;refine⟨b,c,?_⟩;unfold declared at h;cases a:nth l n with
 | none=>rw[a] at h;cases h
 | some g =>
  rw[a] at h;simp only at h;split at h
  .rename_i d;injection h with h
   injection h with e f
   subst e;rw[<-f,aiA d]
  .cases h
theorem aaz{n:Int}{s:Scope}{k:Int}(h:channel n s=some k):0<=n/\∃a,s.aA[n.toNat]? = some a/\k=kindOf a.scalar:=by
 unfold channel at h;cases b:nth s.aA n with
 | none=>rw[b] at h;cases h
 | some a =>
  rw[b] at h;simp only at h;split at h
  .rename_i c;injection h with h
   exact⟨(UQ b).1,a,(UQ b).2,by rw[<-h,aiA c]⟩
  .cases h
def alG{m:Model}{i:Nat}(a:i<m.aA.length):ue m i=dJ m.aA[i].scalar m.aA[i].aQ m.aA[i].ab m.scalars:=by unfold ue;rw[List.getElem?_eq_getElem a]
def akb{m:Model}{f b:Int->Int->Int}(j:eD m.scalars f b){s t P:C_ Int}{q q' p:Nat}{a:Act}(g:jD m f q q' p)(c:lo a (inner (m.procs[p]'g.a.aB) (fm m))=0)(h:fB m f s t)(d:hr m s q a=some P):∃Q,hr m t q' a=some Q/\fB m f P Q:=by
 have X:=abn j h g;have J:∀{n:C_ Node} {r:Int},asked n r (inner (m.procs[p]'g.a.aB) (fm m))=0->eval n (bZ m t q')=(fp f r (eval n (bZ m s q)).1,(eval n (bZ m s q)).2):=λ{n r} u=>by
  obtain⟨C,y⟩:=ZT u;rw[Rm j X C,y]
 unfold lo at c;unfold hr at d ⊢;by_cases G:a.kind=5
 .rw[if_neg AY,if_pos AY] at c;rw[if_pos G] at d ⊢;cases e:channel a.to (inner (m.procs[p]'g.a.aB) (fm m)) with
  | none=>rw[e] at c;cases c
  | some r =>
   rw[e] at c;simp only at c;rw[if_pos G] at c;obtain⟨Y,K,bg,bj⟩:=aaz e;have bg:m.aA[a.to.toNat]? = some K:=bg;obtain⟨k,rfl⟩:=List.getElem?_eq_some_iff.1 bg;unfold Ez at c;cases v:declared (inner (m.procs[p]'g.a.aB) (fm m)).locals a.loc (inner (m.procs[p]'g.a.aB) (fm m)) with
   | none=>rw[v] at c;cases c
   | some L =>
    obtain⟨l,Z⟩:=L;rw[v] at c;simp only at c;split at c
    .cases c
    rename_i w;obtain⟨ab,i,B⟩:=aaW v;have i:(m.procs[p]'g.a.aB).vars[a.loc.toNat]? = some l:=i;obtain⟨M,rfl⟩:=List.getElem?_eq_some_iff.1 i;have ae:Z=r:=Classical.byContradiction λn=>w (.inr n);unfold yh at d ⊢;rw[h.chan j k,axc j];cases x:n3 (chanOf m s a.to.toNat) with
    | none=>rw[x] at d;cases d
    | some af =>
     obtain⟨N,al⟩:=af;rw[x] at d;simp only[Option.map_some] at d ⊢;have ag:=mj k;have O:N.length=1+gq m a.to.toNat:=by rw[IK x,pJ (by rw[h.ls];omega)]
     have z:=h.Eb j k O;have e:=gI.inst (j:=a.loc.toNat+1) g AY;rw[show b7 m q+(a.loc.toNat+1)=b7 m q+1+a.loc.toNat from AY,show b7 m q'+(a.loc.toNat+1)=b7 m q'+1+a.loc.toNat from AY] at e;have u:=T5 g.a M;rw[show b7 m q+(a.loc.toNat+1)=b7 m q+1+a.loc.toNat from AY,<-B,ae,bj] at u
     have:=OB j z e d
     rw[u] at this;exact this
 rw[if_neg G] at d ⊢;by_cases he:(eval a.value (bZ m s q)).2≠0
 .rw[if_pos he] at d;cases d
 rw[if_neg he] at d;have an:(eval a.value (bZ m s q)).2=0:=by simpa using he
 by_cases S:a.kind=1\/a.kind=2\/a.kind=3
 .rw[if_pos S] at c;cases v:declared (if a.kind=3 then (inner (m.procs[p]'g.a.aB) (fm m)).locals else (inner (m.procs[p]'g.a.aB) (fm m)).vars) a.to (inner (m.procs[p]'g.a.aB) (fm m)) with
  | none=>rw[v] at c;cases c
  | some L =>
   obtain⟨l,r⟩:=L;rw[v] at c;simp only at c;by_cases A:(l.over≠0)≠(a.kind=2)
   .rw[if_pos A] at c;cases c
   rw[if_neg A] at c;have A:(l.over≠0)=(a.kind=2):=Classical.byContradiction λq=>A q;by_cases H:a.kind=2/\asked a.index (1+l.over) (inner (m.procs[p]'g.a.aB) (fm m))≠0
   .rw[if_pos H] at c;exact absurd c H.2
   rw[if_neg H] at c;obtain⟨ab,i,B⟩:=aaW v;rw[J c];simp only;rw[if_neg he];by_cases C:a.kind=1
   .rw[if_pos C] at d ⊢;rw[if_neg AY] at i;have i:m.vars[a.to.toNat]? = some l:=i;obtain⟨k,rfl⟩:=List.getElem?_eq_some_iff.1 i;have I:m.vars[a.to.toNat].over=0:=Classical.byContradiction λw=>by
     have:a.kind=2:=A ▸ w
     omega
    have ah:cells m.vars[a.to.toNat] m.scalars=1:=by unfold cells;rw[if_pos I]
    have e:=gI.var (f:=f) (j:=0) (j':=0) k AY (by rw[I,j.none])
    have:=OB j h e d
    rw[Mu k AY,<-B] at this;exact this
   rw[if_neg C] at d ⊢;by_cases y:a.kind=2
   .rw[if_pos y] at d ⊢;rw[if_neg AY] at i;have i:m.vars[a.to.toNat]? = some l:=i;obtain⟨k,rfl⟩:=List.getElem?_eq_some_iff.1 i;have I:m.vars[a.to.toNat].over≠0:=A.symm ▸ y;have ai:asked a.index (1+m.vars[a.to.toNat].over) (inner (m.procs[p]'g.a.aB) (fm m))=0:=Classical.byContradiction λw=>H ⟨y,w⟩;have ah:cells m.vars[a.to.toNat] m.scalars=size m.vars[a.to.toNat].over m.scalars:=by unfold cells;rw[if_neg I]
    rw[J ai];unfold wh at d ⊢;simp only;split at d
    .cases d
    rename_i w;have ao:=BY k;have aq:0<m.vars[a.to.toNat].over:=by
     apply Classical.byContradiction;intro ar
     have:size m.vars[a.to.toNat].over m.scalars=0:=by
      unfold size;split
      .rw[if_neg AY]
      .rfl
     omega
    have aj:fp f (1+m.vars[a.to.toNat].over) (eval a.index (bZ m s q)).1=f m.vars[a.to.toNat].over (eval a.index (bZ m s q)).1:=by
     unfold fp;rw[if_pos AY,show 1+m.vars[a.to.toNat].over - 1=m.vars[a.to.toNat].over from AY]
    rw[aj];have z:=j.kx m.vars[a.to.toNat].over (eval a.index (bZ m s q)).1 AY AY;rw[if_neg AY];have e:=gI.var (f:=f) (j:=(eval a.index (bZ m s q)).1.toNat - 1) (j':=(f m.vars[a.to.toNat].over (eval a.index (bZ m s q)).1).toNat - 1) k AY (by
     rw[show(((eval a.index (bZ m s q)).1.toNat - 1:Nat):Int)+1=(eval a.index (bZ m s q)).1 from AY];omega)
    have U:=Mu (m:=m) (j:=(eval a.index (bZ m s q)).1.toNat - 1) k AY;rw[show dS m a.to.toNat+((eval a.index (bZ m s q)).1.toNat - 1)=dS m a.to.toNat+(eval a.index (bZ m s q)).1.toNat - 1 from AY] at e U;rw[show dS m a.to.toNat+((f m.vars[a.to.toNat].over (eval a.index (bZ m s q)).1).toNat - 1)=dS m a.to.toNat+(f m.vars[a.to.toNat].over (eval a.index (bZ m s q)).1).toNat - 1 from AY] at e
    have:=OB j h e d
    rw[U,<-B] at this;exact this
   rw[if_neg y] at d ⊢;have V:a.kind=3:=AY
   rw[if_pos V] at d ⊢;rw[if_pos V] at i;have i:(m.procs[p]'g.a.aB).vars[a.to.toNat]? = some l:=i;obtain⟨M,rfl⟩:=List.getElem?_eq_some_iff.1 i;have e:=gI.inst (j:=a.to.toNat+1) g AY;have u:=T5 g.a M;rw[show b7 m q+(a.to.toNat+1)=b7 m q+1+a.to.toNat from AY] at e u;rw[show b7 m q'+(a.to.toNat+1)=b7 m q'+1+a.to.toNat from AY] at e
   have:=OB j h e d
   rw[u,<-B] at this;exact this
 .rw[if_neg S] at c;by_cases W:a.kind=4\/a.kind=5
  .rw[if_pos W] at c;cases e:channel a.to (inner (m.procs[p]'g.a.aB) (fm m)) with
   | none=>rw[e] at c;cases c
   | some r =>
    rw[e] at c;simp only at c;rw[if_neg G] at c;obtain⟨Y,K,bg,bj⟩:=aaz e;have bg:m.aA[a.to.toNat]? = some K:=bg;obtain⟨k,rfl⟩:=List.getElem?_eq_some_iff.1 bg;rw[J c];simp only;rw[if_neg he];rw[if_neg AY,if_neg AY,if_neg AY] at d ⊢;unfold u7 at d ⊢;have ak:=Ir j m.aA[a.to.toNat].scalar m.aA[a.to.toNat].aQ m.aA[a.to.toNat].ab (eval a.value (bZ m s q)).1;rw[FH,<-bj] at ak;rw[alG k] at d ⊢;split at d
    .cases d
    rename_i w;rw[if_neg AY,h.chan j k,<-bj,axb j];cases x:l6 (chanOf m s a.to.toNat) (eval a.value (bZ m s q)).1 with
    | none=>rw[x] at d;cases d
    | some N =>
     rw[x] at d;simp only[Option.map_some] at d ⊢;have ag:=mj k;have O:N.length=1+gq m a.to.toNat:=by rw[Ij x,pJ (by rw[h.ls];omega)]
     have z:=h.Eb j k O;rw[<-bj] at z;injection d with d
     rw[d] at z;exact⟨_,rfl,z⟩
  .rw[if_neg W] at c;cases c
theorem ZH{m:Model}{f b:Int->Int->Int}(l:eD m.scalars f b){q q' p:Nat}(i:jD m f q q' p):∀(c:C_ Act) (d e g:C_ Int),(∀h∈c,lo h (inner (m.procs[p]'i.a.aB) (fm m))=0)->fB m f d e->jj m q c d=some g->∃n,jj m q' c e=some n/\fB m f g n
 | [],d,e,g,_,j,a=>by
  injection a with a
  subst a;exact⟨e,rfl,j⟩
 | h :: c,d,e,g,r,j,a=>by
  simp only[jj] at a ⊢;cases k:hr m d q h with
  | none=>rw[k] at a;cases a
  | some s =>
   rw[k] at a;obtain⟨t,u,v⟩:=akb l i (r h (AG3 ..)) j k;rw[u];exact ZH l i c s t g (λw x=>r w (AG4 _ x)) v a
theorem ZB{s:Scope}:∀(f:C_ Act) (g:Nat) (d:Bool),(mi s f g d).2=0->∀b∈f,lo b s=0
 | [],_,_,_,b,a=>by cases a
 | h :: j,g,d,a,b,e=>by
  unfold mi at a;by_cases i:(hU h&&d)=true
  .rw[if_pos i] at a;cases a
  rw[if_neg i] at a;by_cases c:lo h s≠0
  .rw[if_pos c] at a;exact absurd a c
  rw[if_neg c] at a;rcases List.mem_cons.1 e with rfl | e
  .simpa using c
  .exact ZB j _ _ a b e
structure I3(s:Scope)(c:ew):Prop where
 guard:0<c.guard.length->asked c.guard 1 s=0
 b6:∀a∈c.b6,lo a s=0
def al8{m:Model}(h:(check m).bK=0){p k:Nat}(d:p<m.procs.length)(e:k<m.procs[p].cP.length):I3 (inner m.procs[p] (fm m)) m.procs[p].cP[k]:=by
 obtain⟨f,_,_⟩:=Ox (QR h);obtain⟨_,g,_,_⟩:=Dm d (f p d);obtain⟨_,_,i⟩:=U9 g;have j:hS m (p:Int)=inner m.procs[p] (fm m):=by
  unfold hS;rw[ik AY AY];rfl
 have a:=(J0 _ _ i k e).1;rw[j] at a;have a:(jJ m.procs[p].cP[k] m.procs[p].cb (inner m.procs[p] (fm m))).2=0:=a;unfold jJ at a;by_cases c:head m.procs[p].cP[k] m.procs[p].cb≠0
 .rw[if_pos c] at a;exact absurd a c
 rw[if_neg c] at a;by_cases b:m.procs[p].cP[k].guard.length > 0/\asked m.procs[p].cP[k].guard 1 (inner m.procs[p] (fm m))≠0
 .rw[if_pos b] at a;exact absurd a b.2
 rw[if_neg b] at a;exact⟨λl=>Classical.byContradiction λn=>b ⟨l,n⟩,ZB _ _ _ a⟩
theorem aaF{m:Model}{f b:Int->Int->Int}(e:eD m.scalars f b){s t i:C_ Int}{q q' p:Nat}{c:ew}(d:jD m f q q' p)(j:I3 (inner (m.procs[p]'d.a.aB) (fm m)) c)(h:fB m f s t)(a:hs m s q c=some i):∃k,hs m t q' c=some k/\fB m f i k:=by
 unfold hs at a ⊢;rw[h.loc d];split at a
 .cases a
 rename_i n;rw[if_neg n];split at a
 .cases a
 rename_i r;have u:¬(0<c.guard.length/\((eval c.guard (bZ m t q')).2≠0\/(eval c.guard (bZ m t q')).1=0)):=by
  by_cases l:0<c.guard.length
  .obtain⟨v,w⟩:=ZT (j.guard l);rw[Rm e (abn e h d) v,w,Ac _ _ Ae];exact r
  .exact λx=>l x.1
 rw[if_neg u];cases g:jj m q c.b6 s with
 | none=>rw[g] at a;cases a
 | some A =>
  rw[g] at a;obtain⟨B,y,z⟩:=ZH e d _ _ _ _ j.b6 h g;rw[y];simp only[Option.map_some,Option.some.injEq] at a ⊢
  have:=z.set e (gI.inst (j:=0) d AY) c.to
  rw[AH1,AH1,afe d.a,Ac _ _ Ae,a] at this;exact⟨_,rfl,this⟩
theorem amd{m:Model}{f b:Int->Int->Int}(a:eD m.scalars f b){s t:C_ Int}{q q' p:Nat}{c:ew}(d:jD m f q q' p)(g:I3 (inner (m.procs[p]'d.a.aB) (fm m)) c)(h:fB m f s t)(i:hs m s q c=none):hs m t q' c=none:=by
 cases j:hs m t q' c with
 | none=>rfl
 | some k =>
  obtain⟨l,e,_⟩:=aaF a.symm (d.symm a) g (h.symm a) j;rw[i] at e;cases e
end o