/- Parts. -/
import Derived.Test.YtlhljkikdhblbaaGreatDoorQsmp
set_option linter.all false
set_option maxRecDepth 8000
set_option maxHeartbeats 16000000
namespace Go.Proofs.R
open Go Go.RowKit ba o
structure mh(w0 w:World)(b8 dR g c q base:Nat)(m:o.Model)(s:List Int):Prop where
 il:Ext w0 w
 low:w0.heap.size<=base
 E0:ql w0 dR m
 box:w.heap[b8]? = some (.cells #[.pointer (some ⟨dR,0,none⟩),.int .i64 q,.slice (some ⟨g,0,none⟩) s.length c] T.y1)
 own:ft base w (.slice (some ⟨g,0,none⟩) s.length c) s
theorem mh.ext{w0 w w':A_}{b d g c q base:Nat}{m:o.Model}{s:C_ Int}(a:Ext w w')(h:mh w0 w b d g c q base m s):mh w0 w' b d g c q base m s :=
 ⟨h.il.trans a,h.low,h.E0,a.obj h.box,h.own.ext a⟩
def mh.FG{w0 w:A_}{a b g c q base:Nat}{m:o.Model}{s:C_ Int}(h:mh w0 w a b g c q base m s):base<=g/\g<w.heap.size:=aT.lt h.own g rfl
def mh.ne{w0 w:A_}{b d g c q base:Nat}{m:o.Model}{s:C_ Int}(h:mh w0 w b d g c q base m s):b≠g:=λe=>by
 obtain⟨i,f⟩:=aT.b0 h.own g rfl;have a:=h.box;rw[e,f] at a;injection a with a
 injection a with _ a
 revert a;decide
def mh.mod{w0 w w':A_}{a b g c q base:Nat}{m:o.Model}{s t:C_ Int}(h:mh w0 w a b g c q base m s)(d:Mod (λe=>e=g) w w')(i:ft base w' (.slice (some ⟨g,0,none⟩) s.length c) t)(f:t.length=s.length):mh w0 w' a b g c q base m t :=
 ⟨d.ext h.il λe j k=>by have:=h.low;have:=h.FG;omega,h.low,h.E0,by rw[f];exact d.obj h.ne h.box,by rw[f];exact i⟩
def mh.qN{w0 w:A_}{a b g c q base:Nat}{m:o.Model}{s:C_ Int}(h:mh w0 w a b g c q base m s):cl w (.slice (some ⟨g,0,none⟩) s.length c) s:=ha h.own
def kY(base g:Nat)(v:B_)(a:H_ (C_ Int))(b:B_)(w w':A_):Prop :=
 ((∃c,a=some c/\b = .bool true/\ft base w' v c)\/(a=none/\b = .bool false))/\Mod (λd=>d=g) w w'
def kY.before{base g:Nat}{v:B_}{a:H_ (C_ Int)}{b:B_}{w w1 w':A_}(h:kY base g v a b w1 w')(c:Ext w w1):kY base g v a b w w':=⟨h.1,c.mod.trans h.2⟩
theorem kY.none{base g:Nat}{v:B_}{a:H_ (C_ Int)}{w w':A_}(b:a=Option.none)(c:Ext w w'):kY base g v a (.bool false) w w':=⟨.inr ⟨b,rfl⟩,c.mod⟩
def kY.T1{base g:Nat}{v:B_}{c:H_ (C_ Int)}{b:B_}{w w':A_}(h:kY base g v c b w w'):∃d:Bool,b = .bool d:=by
 rcases h.1 with ⟨_,_,a,_⟩ | ⟨_,a⟩
 .exact⟨_,a⟩
 .exact⟨_,a⟩
def Du{w0:A_}(b d g c q p base:Nat)(m:o.Model)(s:C_ Int)(f:B_)(e:C_ o.Node)(w:A_)(a:mh w0 w b d g c q base m s)(h:(o.check m).bK=0)(i:o.Fits m s)(j:hF m q p)(k:fJ w f e) :
  EL F.K2 #[.pointer (some ⟨b,0,none⟩),f] w λn r=>n = .tuple #[.I (o.eval e (bZ m s q)).1,.bool (decide ((o.eval e (bZ m s q)).2=0))]/\Ext w r:=by
 obtain⟨x,y,rfl,z⟩:=k.form;refine bn E.K2 ?_;refine aa ?_;refine J_ (anR b d q p _ m s w a.box (a.E0.ext a.il) h a.qN i j) ?_;rintro _ t ⟨⟨A,rfl,u⟩,l⟩;refine aa ?_;refine J_ (anj _ e _ (bZ m s q) t (k.ext l) (Kq u (Rh (gA h) i j.ax))) ?_;rintro _ B ⟨rfl,v⟩;refine aa ?_;exact⟨aV,l.trans v⟩
def KN{w0:A_}(f p g c q base:Nat)(m:o.Model)(s:C_ Int)(k:Nat)(x n:Int)(w:A_)(h:mh w0 w f p g c q base m s)(r:gh m)(O:s.length=cH m)(t:x=k)(u:k<cH m) :
  EL F.bN #[.pointer (some ⟨f,0,none⟩),.I x,.I n] w λv y=>kY base g (.slice (some ⟨g,0,none⟩) s.length c) (o.putAt m s k n) v w y:=by
 subst t;have P:=h;obtain⟨a,Q,⟨S,i,j⟩,U,z⟩:=h;obtain⟨V,W,X,Y,Z,ab,ae,af,ag,ah,ai,aj,ak,bg,al,bj,an,ao,aq,ar,au,av,aw,ax,rfl,_,_,A,B,C,b,d,G,H,I,J,K,L⟩:=j.form;replace i:=a.obj i;replace b:=b.ext Flat.ext a;replace d:=d.ext Flat.ext a;obtain⟨l,e⟩:=Z3 u;have ay:=MH m;have az:=MF m;have aB:(bF m).length=cH m:=rfl;have aC:(o.layout m).aQ[k]' AY=(bF m)[k].aQ:=MG _ l;have aD:(o.layout m).ab[k]' AY=(bF m)[k].ab:=ME _ l;have aE:cH m<=64:=ij r;obtain⟨aF,rfl⟩:=b.addr;obtain⟨aG,rfl⟩:=d.addr;clear A B C G H I J K L j;refine bn E.bN ?_;refine aa ?_;apply I_<;>intro aH
 .refine aa ?_;exact kY.none (by unfold o.putAt;rw[e,if_pos (.inl (by simp only;omega))]) (Ext.refl _)
 refine aa ?_;apply I_<;>intro aI
 .refine aa ?_;exact kY.none (by unfold o.putAt;rw[e,if_pos (.inr (by simp only;omega))]) (Ext.refl _)
 refine aa ?_;refine _a (k:=k) z AY λaJ M N=>?_;refine aa ?_;exact⟨.inl ⟨_,by unfold o.putAt;rw[e,if_neg (by simp only;omega)],aV,N⟩,M.mod rfl⟩
def an8{w0:A_}(d f g c q p base:Nat)(m:o.Model)(s:C_ Int)(a:o.Act)(r t:B_)(w:A_)(b:mh w0 w d f g c q base m s)(u:(o.check m).bK=0)(v:o.Fits m s)(x:hF m q p)
  (M:qZ (o.inner (m.procs[p]'(x.aB)) (fm m)) a)(y:a.kind=1)(N:fJ w r a.index)(z:fJ w t a.value) :
  EL F.FO #[.agg (a.enc r t).toArray,.pointer (some ⟨d,0,none⟩)] w λA O=>kY base g (.slice (some ⟨g,0,none⟩) s.length c) (hr m s q a) A w O:=by
 obtain⟨au,av,rfl,_⟩:=N.form;obtain⟨aw,ax,rfl,_⟩:=z.form;have P:=gA u;obtain⟨ay,az,aB⟩:=uO m;have Q:hr m s q a=if (o.eval a.value (bZ m s q)).2≠0 then none else o.putAt m s (dS m a.to.toNat) (o.eval a.value (bZ m s q)).1:=by
  unfold hr;rw[if_neg AY,if_pos y]
 rw[Q];unfold o.Act.enc;refine bn E.FO ?_;refine aa ?_;intro S aC aD h e;replace b:=b.ext h;refine aa ?_;refine J_ (Du d f g c q p base m s _ a.value S b u v x (z.ext h)) ?_;rintro _ aE ⟨rfl,i⟩;replace b:=b.ext i;replace e:=i.obj e;obtain⟨j,U⟩:∃j,j=(o.eval a.value (bZ m s q)).1:=⟨_,rfl⟩;obtain⟨B,V⟩:∃B,B=(o.eval a.value (bZ m s q)).2:=⟨_,rfl⟩;rw[<-U,<-V];have W:=h.trans i;refine aa ?_;intro X k;replace b:=b.ext k;replace e:=k.obj e;have C:=W.trans k;have Y:=b;obtain⟨G,aF,⟨aG,H,I⟩,aH,aI⟩:=b;obtain⟨aJ,aK,aL,aP,aQ,aR,aS,aU,aX,aY,aZ,a0,a1,bg,a3,bj,a5,a7,a8,a9,bb,bf,bk,bl,rfl,_,_,l,Z,ab,ae,af,ag,ah,ai,aj,ak,al⟩:=I.form;replace H:=G.obj H;obtain⟨bo,an,J,ao⟩:=M.set y;have n:a.to.toNat<m.vars.length:=(List.getElem?_eq_some_iff.1 J).1;obtain⟨bp,aq⟩:=An n;have bq:=qV n;have bt:=ni m;have bu:=r3 m.vars[a.to.toNat] m.scalars;have bw:=BY n;have bx:o.cells m.vars[a.to.toNat] m.scalars=1:=by
  have ar:m.vars[a.to.toNat]=an:=(List.getElem?_eq_some_iff.1 J).2;rw[ar];unfold o.cells;rw[if_pos ao]
 obtain⟨bz,rfl⟩:=l.addr;replace l:=l.ext Flat.ext G;clear Z ab ae af ag ah ai aj ak al I;refine aa ?_;refine I_ (λK=>?_) (λK=>?_);rotate_left
 .refine aa ?_;exact kY.none (by rw[if_pos K]) C
 rw[if_neg AY];refine aa ?_;refine M_ a.to.toNat AY AY ?_;refine aa ?_;refine J_ (KN d f g c q base m s (dS m a.to.toNat) _ j X Y P v.len (by rw[aq]) AY) ?_;rintro A bA L;obtain⟨bB,rfl⟩:=L.T1;refine aa ?_;exact L.before C
def an4{w0:A_}(e h g c q p base:Nat)(m:o.Model)(s:C_ Int)(a:o.Act)(t u:B_)(w:A_)(b:mh w0 w e h g c q base m s)(v:(o.check m).bK=0)(i:o.Fits m s)(d:hF m q p)
  (L:qZ (o.inner (m.procs[p]'(d.aB)) (fm m)) a)(x:a.kind=3)(M:fJ w t a.index)(y:fJ w u a.value) :
  EL F.FR #[.agg (a.enc t u).toArray,.pointer (some ⟨e,0,none⟩)] w λz N=>kY base g (.slice (some ⟨g,0,none⟩) s.length c) (hr m s q a) z w N:=by
 obtain⟨ao,aq,rfl,_⟩:=M.form;obtain⟨ar,au,rfl,_⟩:=y.form;have A:=gA v;obtain⟨av,aw,ax⟩:=uO m;have O:hr m s q a=if (o.eval a.value (bZ m s q)).2≠0 then none else o.putAt m s (b7 m q+1+a.to.toNat) (o.eval a.value (bZ m s q)).1:=by
  unfold hr;rw[if_neg (show ¬a.kind=5 by omega),if_neg (show ¬a.kind=1 by omega),if_neg (show ¬a.kind=2 by omega),if_pos x]
 rw[O];unfold o.Act.enc;refine bn E.FR ?_;refine aa ?_;intro P ay az j f;replace b:=b.ext j;refine aa ?_;refine J_ (Du e h g c q p base m s _ a.value P b v i d (y.ext j)) ?_;rintro _ aB ⟨rfl,k⟩;replace b:=b.ext k;replace f:=k.obj f;obtain⟨l,Q⟩:∃l,l=(o.eval a.value (bZ m s q)).1:=⟨_,rfl⟩;obtain⟨B,S⟩:∃B,B=(o.eval a.value (bZ m s q)).2:=⟨_,rfl⟩;rw[<-Q,<-S];have U:=j.trans k;refine aa ?_;intro V n;replace b:=b.ext n;replace f:=n.obj f;have C:=U.trans n;have W:=b;obtain⟨G,aC,⟨aD,H,I⟩,aE,aF⟩:=b;obtain⟨aG,aH,aI,aJ,aK,aL,aP,aQ,aR,aS,aU,aX,aY,bg,aZ,bj,a0,a1,a3,a5,a7,a8,a9,bb,rfl,_,_,X,Y,r,Z,ab,ae,af,ag,ah,ai,aj⟩:=I.form;replace H:=G.obj H;have ak:=d.ax;obtain⟨bf,al⟩:=L.loc x;have bk:a.to.toNat<(m.procs[p]'(d.aB)).vars.length:=al;obtain⟨bl,an⟩:=qH ak;have bo:=d.room;have bp:cH m<=64:=ij A;have bq:=i.len;obtain⟨bt,rfl⟩:=r.addr;replace r:=r.ext Flat.ext G;clear X Y Z ab ae af ag ah ai aj I;refine aa ?_;refine I_ (λJ=>?_) (λJ=>?_);rotate_left
 .refine aa ?_;exact kY.none (by rw[if_pos J]) C
 rw[if_neg AY];refine aa ?_;refine J_ (KN e h g c q base m s (b7 m q+1+a.to.toNat) _ l V W A i.len (by rw[an];omega) AY) ?_;rintro z bu K;obtain⟨bw,rfl⟩:=K.T1;refine aa ?_;exact K.before C
def anX{w0:A_}(j r g c q p base:Nat)(m:o.Model)(s:C_ Int)(a:o.Act)(N O:B_)(w:A_)(d:mh w0 w j r g c q base m s)(A:(o.check m).bK=0)(t:o.Fits m s)(B:hF m q p)
  (al:qZ (o.inner (m.procs[p]'(B.aB)) (fm m)) a)(P:a.kind=2)(Q:fJ w N a.index)(S:fJ w O a.value) :
  EL F.FP #[.agg (a.enc N O).toArray,.pointer (some ⟨j,0,none⟩)] w λU C=>kY base g (.slice (some ⟨g,0,none⟩) s.length c) (hr m s q a) U w C:=by
 obtain⟨aK,aL,rfl,_⟩:=Q.form;obtain⟨aP,aQ,rfl,_⟩:=S.form;have V:=gA A;obtain⟨aR,aS,aU⟩:=uO m;have W:hr m s q a=if (o.eval a.value (bZ m s q)).2≠0 then none else wh m s a (o.eval a.index (bZ m s q)) (o.eval a.value (bZ m s q)).1:=by
  unfold hr;rw[if_neg (show ¬a.kind=5 by omega),if_neg (show ¬a.kind=1 by omega),if_pos P]
 rw[W];unfold o.Act.enc;refine bn E.FP ?_;refine aa ?_;intro an aX aY G e;replace d:=d.ext G;refine aa ?_;refine J_ (Du j r g c q p base m s _ a.index an d A t B (Q.ext G)) ?_;rintro _ ao ⟨rfl,H⟩;replace d:=d.ext H;replace e:=H.obj e;have X:=G.trans H;refine aa ?_;refine J_ (Du j r g c q p base m s _ a.value ao d A t B (S.ext X)) ?_;rintro _ aZ ⟨rfl,I⟩;replace d:=d.ext I;replace e:=I.obj e;have k:=X.trans I;obtain⟨l,aq⟩:∃l,l=(o.eval a.value (bZ m s q)).1:=⟨_,rfl⟩;obtain⟨u,ar⟩:∃u,u=(o.eval a.value (bZ m s q)).2:=⟨_,rfl⟩;obtain⟨f,Y⟩:∃f,f=(o.eval a.index (bZ m s q)).1:=⟨_,rfl⟩;obtain⟨J,Z⟩:∃J,J=(o.eval a.index (bZ m s q)).2:=⟨_,rfl⟩;have ab:wh m s a (o.eval a.index (bZ m s q)) l=if J≠0\/f<1\/(zY m a.to.toNat:Int)<f then none else o.putAt m s (dS m a.to.toNat+f.toNat - 1) l:=by unfold wh;rw[<-Y,<-Z]
 rw[<-aq,<-ar,ab,<-Y,<-Z];clear ab W;have au:=d;obtain⟨v,a0,⟨a1,h,ae⟩,x,a3⟩:=d;obtain⟨a5,a7,a8,a9,bb,bf,bk,bl,bo,bp,bq,bt,bu,bg,bw,bj,bx,bz,bA,bB,bC,bD,bE,bG,rfl,_,_,n,av,aw,ax,ay,y,K,az,aB,aC,aD⟩:=ae.form;replace h:=v.obj h;obtain⟨bH,aE,bI⟩:=al.item P;have z:a.to.toNat<m.vars.length:=aE;obtain⟨bJ,aF⟩:=An z;have bK:=qV z;have bL:=ni m;have bM:=BY z;have bN:=r3 m.vars[a.to.toNat] m.scalars;have bO:cH m<=64:=ij V;have bQ:=t.len;obtain⟨bU,rfl⟩:=n.addr;obtain⟨bV,rfl⟩:=K.addr;replace n:=n.ext Flat.ext v;replace y:=y.ext v;have aG:=((K.at a.to.toNat z).cells).ext v;clear av aw ax ay K az aB aC aD ae;refine aa ?_;refine I_ (λaf=>?_) (λaf=>?_);rotate_left
 .refine aa ?_;intro L b;refine kY.none ?_ (k.trans b);by_cases ag:u≠0
  .rw[if_pos ag]
  .rw[if_neg ag,if_pos (.inl af)]
 refine aa ?_;refine I_ (λah=>?_) (λah=>?_);rotate_left
 .refine aa ?_;intro L b;exact kY.none (by rw[if_pos ah]) (k.trans b)
 rw[if_neg (show ¬u≠0 by omega)];refine aa ?_;refine I_ (λai=>?_) (λai=>?_)
 .refine aa ?_;intro L b;exact kY.none (by rw[if_pos (.inr (.inl ai))]) (k.trans b)
 refine aa ?_;refine M_ a.to.toNat AY AY ?_;refine aa ?_;refine P_ (.I (o.cells m.vars[a.to.toNat] m.scalars)) (λC aH=>Df m.vars[a.to.toNat] _ m.scalars C (y.ext aH)) ?_;refine aa ?_;intro L b;refine I_ (λaI=>?_) (λaI=>?_)
 .refine aa ?_;exact kY.none (by rw[if_pos (.inr (.inr AY))]) (k.trans b)
 rw[if_neg AY];have M:=au.ext b;replace e:=b.obj e;replace h:=b.obj h;replace x:=b.obj x;have aj:=n.ext Flat.ext b;clear n y aG;refine aa ?_;intro aJ i;replace M:=M.ext i;replace e:=i.obj e;replace h:=i.obj h;replace x:=i.obj x;replace aj:=aj.ext Flat.ext i;refine aa ?_;refine M_ a.to.toNat AY AY ?_;refine aa ?_;refine J_ (KN j r g c q base m s (dS m a.to.toNat+f.toNat - 1) _ l aJ M V t.len (by rw[aF];omega) AY) ?_;rintro U bW ak;obtain⟨bX,rfl⟩:=ak.T1;refine aa ?_;exact ak.before ((k.trans b).trans i)
end Go.Proofs.R
namespace o
def QN(m:Model)(s:C_ Int)(c:Nat):(s.drop (bS m c)).take (bS m c+(1+gq m c) - bS m c)=chanOf m s c:=by
 unfold chanOf;rw[show bS m c+(1+gq m c) - bS m c=1+gq m c from AY]
end o
namespace Go.Proofs.R
open Go Go.RowKit ba o
def an6{w0:A_}(n r g c q p base:Nat)(m:o.Model)(s:C_ Int)(a:o.Act)(L M:B_)(w:A_)(b:mh w0 w n r g c q base m s)(ae:(o.check m).bK=0)(N:o.Fits m s)(j:hF m q p)
  (O:qZ (o.inner (m.procs[p]'(j.aB)) (fm m)) a)(t:a.kind=5)(af:fJ w L a.index)(ag:fJ w M a.value) :
  EL F.FV #[.agg (a.enc L M).toArray,.pointer (some ⟨n,0,none⟩)] w λk u=>kY base g (.slice (some ⟨g,0,none⟩) s.length c) (hr m s q a) k w u:=by
 obtain⟨aX,aY,rfl,_⟩:=af.form;obtain⟨aZ,a0,rfl,_⟩:=ag.form;have v:=gA ae;obtain⟨a1,a3,a5⟩:=uO m;have P:hr m s q a=yh m s q a:=by unfold hr;rw[if_pos t]
 rw[P];unfold yh;clear P;obtain⟨a7,ah⟩:=O.chan (.inr t);have x:a.to.toNat<m.aA.length:=ah;have ai:a.to=(a.to.toNat:Nat):=AY
 have aj:(o.chanOf m s a.to.toNat).length=1+gq m a.to.toNat:=pJ (by rw[N.len];exact mj x);have a8:=mj x;obtain⟨a9,ak⟩:=O.recv t;have bb:a.loc.toNat<(m.procs[p]'(j.aB)).vars.length:=ak;have bf:=j.room;have bk:=N.len;have bl:cH m<=64:=ij v;have al:=j.ax;obtain⟨bo,an⟩:=qH al;unfold o.Act.enc;rw[ai,AG2];have bp:=b.FG;refine bn E.FV ?_;refine aa ?_;intro bq bt bu Q e;replace b:=b.ext Q;have y:=b.box;refine aa ?_;refine P_ (.tuple #[.I (bS m a.to.toNat),.I (bS m a.to.toNat+(1+gq m a.to.toNat):Nat)]) (λu ao=>Rq r m a.to.toNat u (b.E0.ext (b.il.trans ao)) v x) ?_;refine aa ?_;intro aq z;replace b:=b.ext z;replace e:=z.obj e;replace y:=b.box;have ar:=Q.trans z;refine aa ?_;refine _e (k:=.i64) (k':=.i64) (bS m a.to.toNat) (bS m a.to.toNat+(1+gq m a.to.toNat)) b.qN (by simp[dE,bR]) (by simp[dE,bR]) AY AY λau bg _ A=>?_;rw[QN] at A;refine aa ?_;refine J_ (alJ _ _ aq A AY) ?_;rintro _ bw ⟨av,B⟩;replace b:=b.ext B;replace e:=B.obj e;replace y:=b.box;have S:=ar.trans B;have bx:=b.FG;rcases av with ⟨aw,rfl⟩ | ⟨ax,ay,bz,bA,U,rfl,az⟩
 .rw[aw];refine aa ?_;refine _e (k:=.i64) (k':=.i64) (bS m a.to.toNat) (bS m a.to.toNat+(1+gq m a.to.toNat)) b.qN (by simp[dE,bR]) (by simp[dE,bR]) AY AY λaB bj C _=>?_;refine aa ?_;refine _g (p:=bS m a.to.toNat) (xs:=[]) b.own a6.nil (by simp only[dE,bR];rfl) (by simp only[dE,bR];rfl) C AY Cl Cl λk V f G=>?_;refine aa ?_;intro H h;refine aa ?_;have l:Mod (λd=>d=g) w H:=((Ext.mod (A:=λd=>d=g) S).trans (f.mod rfl)).trans h.mod;exact⟨.inr ⟨rfl,aV⟩,l⟩
 .rw[U];have aC:=IK U;rw[aj] at aC;refine aa ?_;refine _e (k:=.i64) (k':=.i64) (bS m a.to.toNat) (bS m a.to.toNat+(1+gq m a.to.toNat)) b.qN (by simp[dE,bR]) (by simp[dE,bR]) AY AY λaB bj C _=>?_;refine aa ?_;refine _g (p:=bS m a.to.toNat) b.own (ha az) (by simp only[dE,bR];rfl) (by simp only[dE,bR];rfl) C AY Cl Cl λk V f G=>?_;rw[IA AY] at G;have I:(hQ s (bS m a.to.toNat) ax).length=s.length:=BQ AY;replace b:=b.mod (f.mod rfl) G I;have W:=f.obj e AY;have aD:Mod (λd=>d=g) w V:=S.mod.trans (f.mod rfl);clear y A e;refine aa ?_;intro H h;replace b:=b.ext h;replace W:=h.obj W;have aE:=b;obtain⟨X,bB,⟨bC,Y,Z⟩,aF,bD⟩:=b;obtain⟨bE,bG,bH,bI,bJ,bK,bL,bM,bN,bO,bQ,bU,au,bg,bV,bW,bX,bY,b0,b1,b3,b4,b5,b6,rfl,_,_,aG,aH,J,aI,aJ,aK,i,K,aL,aP,aQ⟩:=Z.form;replace Y:=X.obj Y;obtain⟨b8,rfl⟩:=J.addr;replace J:=J.ext Flat.ext X;rw[I] at aF;clear aG aH aI aJ aK i K aL aP aQ Z;refine aa ?_;rw[an];refine aa ?_;refine J_ (KN n r g c q base m _ (b7 m q+1+a.loc.toNat) _ ay H aE v AY AY AY) ?_;rintro k aR ⟨ab,aS⟩;rw[I] at ab;have l:Mod (λd=>d=g) w aR:=(aD.trans h.mod).trans aS;rcases ab with ⟨aU,i,rfl,K⟩ | ⟨i,rfl⟩
  .refine aa ?_;exact⟨.inl ⟨aU,i,aV,K⟩,l⟩
  .refine aa ?_;exact⟨.inr ⟨i,aV⟩,l⟩
def an7{w0:A_}(u v g c q p base:Nat)(m:o.Model)(s:C_ Int)(a:o.Act)(N O:B_)(w:A_)(b:mh w0 w u v g c q base m s)(P:(o.check m).bK=0)(x:o.Fits m s)(Q:hF m q p)
  (au:qZ (o.inner (m.procs[p]'(Q.aB)) (fm m)) a)(av:a.kind=4)(y:fJ w N a.index)(S:fJ w O a.value) :
  EL F.FT #[.agg (a.enc N O).toArray,.pointer (some ⟨u,0,none⟩)] w λz f=>kY base g (.slice (some ⟨g,0,none⟩) s.length c) (hr m s q a) z w f:=by
 obtain⟨bl,bo,rfl,_⟩:=y.form;obtain⟨bp,bq,rfl,_⟩:=S.form;have U:=gA P;obtain⟨bt,bu,bw⟩:=uO m;have V:hr m s q a=if (o.eval a.value (bZ m s q)).2≠0 then none else u7 m s a.to.toNat (o.eval a.value (bZ m s q)).1:=by
  unfold hr;rw[if_neg (show ¬a.kind=5 by omega),if_neg (show ¬a.kind=1 by omega),if_neg (show ¬a.kind=2 by omega),if_neg (show ¬a.kind=3 by omega)]
 rw[V];clear V;obtain⟨bx,aw⟩:=au.chan (.inl av);have h:a.to.toNat<m.aA.length:=aw;have ax:a.to=(a.to.toNat:Nat):=AY
 have ay:(o.chanOf m s a.to.toNat).length=1+gq m a.to.toNat:=pJ (by rw[x.len];exact mj h);have bz:=mj h;have bA:=x.len;have bB:cH m<=64:=ij U;unfold o.Act.enc;rw[ax,AG2];have bC:=b.FG;refine bn E.FT ?_;refine aa ?_;intro az bD bE A d;replace b:=b.ext A;refine aa ?_;refine J_ (Du u v g c q p base m s _ a.value az b P x Q (S.ext A)) ?_;rintro _ bG ⟨rfl,B⟩;replace b:=b.ext B;replace d:=B.obj d;have aB:=A.trans B;obtain⟨e,aC⟩:∃e,e=(o.eval a.value (bZ m s q)).1:=⟨_,rfl⟩;obtain⟨C,aD⟩:∃C,C=(o.eval a.value (bZ m s q)).2:=⟨_,rfl⟩;rw[<-aC,<-aD];refine aa ?_;intro aE G;replace b:=b.ext G;replace d:=G.obj d;have aF:=aB.trans G;obtain⟨bH,W,X⟩:=b.E0;obtain⟨bI,bJ,bK,bL,bM,bN,bO,bQ,bU,bV,bW,bX,aG,bg,bY,b0,b1,b3,b4,b5,b6,b8,b9,ca,rfl,_,_,aH,aI,aJ,aK,aL,Y,aP,H,aQ,aR,aS⟩:=X.form;obtain⟨cb,rfl⟩:=H.addr;have i:=b.il.obj W;have k:=b.box;have aU:=((H.at a.to.toNat h).cells).ext b.il;have l:=Y.ext b.il;clear aH aI aJ aK aL Y aP H aQ aR aS W X;refine aa ?_;intro cc ch aX Z ab;refine⟨Z,?_⟩;refine X_ ab rfl rfl (by simp[Value.oneCell',eb.enc]) λaY ae aZ=>?_;have j:Ext aE aY:=ae.ext Z aX;replace b:=b.ext j;replace i:=j.obj i;replace k:=b.box;replace d:=j.obj d;replace l:=l.ext j;have a0:=aF.trans j;clear ab ae aU;obtain⟨n,af⟩:∃n,n=(dJ m.aA[a.to.toNat].scalar m.aA[a.to.toNat].aQ m.aA[a.to.toNat].ab m.scalars).aQ:=⟨_,rfl⟩;obtain⟨ag,ah⟩:∃y,y=(dJ m.aA[a.to.toNat].scalar m.aA[a.to.toNat].aQ m.aA[a.to.toNat].ab m.scalars).ab:=⟨_,rfl⟩;have ai:u7 m s a.to.toNat e=if e<n\/ag<e then none else (l6 (o.chanOf m s a.to.toNat) e).map (hQ s (bS m a.to.toNat)):=by
  unfold u7 ue;rw[List.getElem?_eq_getElem h,af,ah]
 rw[ai];clear ai;refine aa ?_;refine P_ (.tuple #[.I n,.I ag]) (λf I=>by
  rw[af,ah,show dJ m.aA[a.to.toNat].scalar m.aA[a.to.toNat].aQ m.aA[a.to.toNat].ab m.scalars=_ from w6 ⟨⟨#[]⟩,m.aA[a.to.toNat].scalar,0,m.aA[a.to.toNat].aQ,m.aA[a.to.toNat].ab,0⟩ m.scalars];exact JI ⟨⟨#[]⟩,m.aA[a.to.toNat].scalar,0,m.aA[a.to.toNat].aQ,m.aA[a.to.toNat].ab,0⟩ _ m.scalars f (l.ext I)) ?_
 refine aa ?_;intro cj r;replace b:=b.ext r;replace i:=r.obj i;replace k:=b.box;replace d:=r.obj d;have t:=a0.trans r;clear aZ l;refine aa ?_;refine I_ (λaj=>?_) (λaj=>?_);rotate_left
 .refine aa ?_;exact kY.none (by rw[if_pos aj]) t
 rw[if_neg (show ¬C≠0 by omega)];refine aa ?_;refine I_ (λak=>?_) (λak=>?_)
 .refine aa ?_;exact kY.none (by rw[if_pos (.inl ak)]) t
 refine aa ?_;refine I_ (λa1=>?_) (λa1=>?_)
 .refine aa ?_;exact kY.none (by rw[if_pos (.inr AY)]) t
 rw[if_neg AY];refine aa ?_;refine P_ (.tuple #[.I (bS m a.to.toNat),.I (bS m a.to.toNat+(1+gq m a.to.toNat):Nat)]) (λf I=>Rq v m a.to.toNat f (b.E0.ext (b.il.trans I)) U h) ?_;refine aa ?_;intro a3 al;replace b:=b.ext al;replace k:=b.box;have a5:=t.trans al;clear i d;refine aa ?_;refine _e (k:=.i64) (k':=.i64) (bS m a.to.toNat) (bS m a.to.toNat+(1+gq m a.to.toNat)) b.qN (by simp[dE,bR]) (by simp[dE,bR]) AY AY λaG bg _ an=>?_;rw[QN] at an;refine aa ?_;refine J_ (alI _ _ e a3 an AY) ?_;rintro _ cm ⟨a7,ao⟩;replace b:=b.ext ao;replace k:=b.box;have aq:=a5.trans ao;rcases a7 with ⟨a8,rfl⟩ | ⟨cp,cq,cr,ar,rfl,a9⟩
 .rw[a8];refine aa ?_;refine _e (k:=.i64) (k':=.i64) (bS m a.to.toNat) (bS m a.to.toNat+(1+gq m a.to.toNat)) b.qN (by simp[dE,bR]) (by simp[dE,bR]) AY AY λbb bj J _=>?_;refine aa ?_;refine _g (p:=bS m a.to.toNat) (xs:=[]) b.own a6.nil (by simp only[dE,bR];rfl) (by simp only[dE,bR];rfl) J AY Cl Cl λz bf K L=>?_;refine aa ?_;exact⟨.inr ⟨rfl,aV⟩,(Ext.mod (A:=λM=>M=g) aq).trans (K.mod rfl)⟩
 .rw[ar];have bk:=Ij ar;rw[ay] at bk;refine aa ?_;refine _e (k:=.i64) (k':=.i64) (bS m a.to.toNat) (bS m a.to.toNat+(1+gq m a.to.toNat)) b.qN (by simp[dE,bR]) (by simp[dE,bR]) AY AY λbb bj J _=>?_;refine aa ?_;refine _g (p:=bS m a.to.toNat) b.own (ha a9) (by simp only[dE,bR];rfl) (by simp only[dE,bR];rfl) J AY Cl Cl λz bf K L=>?_;rw[IA AY] at L;refine aa ?_;exact⟨.inl ⟨_,rfl,aV,L⟩,(Ext.mod (A:=λM=>M=g) aq).trans (K.mod rfl)⟩
end Go.Proofs.R
namespace ba
open Go Go.RowKit
def _s{P:D_}{b:F_}{v:B_}{m:String}{f:E_}{r:B_}{args:C_ B_}{w:A_}{R:B_->A_->Prop}{c:B_->A_->Prop}{t}(d:okF P f=true)(e:∀a,(method (P.types.size+Made.depth) b v m).run P a = .ok (f,r) a)
  (h:a2 P f (r :: args).toArray w R)(g:∀v a,R v a->c v a):CH P (.iface b v) m args w c t:=by unfold CH;exact ak7 d e h g
def aT.auX{α:Type}{enc:α->C_ B_}{e:F_}{sz base:Nat}{w:A_}{v:B_}{a:C_ (hz sz)}{xs:C_ α}(h:og e sz base w v a)(c:a.length=xs.length)(g:∀b (d:b<a.length) (f:b<xs.length),a[b].1=enc xs[b]):aT enc e sz base w v xs:=by
 have i:a.map kE=xs.map enc:=List.ext_getElem (by simp[c]) λb d f=>by
  rw[AK8,AK8];exact g b (by simpa using d) (by simpa using f)
 have:a.flatMap kE=xs.flatMap enc:=by rw[List.flatMap_def,List.flatMap_def,i]
 unfold aT at *;rw[<-this,<-c];exact h
end ba
namespace Go.Proofs.R
open Go Go.RowKit ba o
def HE(v:B_)(xs:C_ Int)(w:A_)(h:cl w v xs)(c:eO xs.length 8) :
  EL F.ag #[v] w λb a=>ft w.heap.size a b xs/\Ext w a :=
 (aaC kv E.ag Cl v xs w h (by unfold eO at c;omega)).mono λb a ⟨⟨k,d,e,f⟩,he⟩=>⟨aT.auX e d λg i j=>f g i j,he⟩
def rb(k:Int):F_:=if k=1 then T.c3 else if k=2 then T.cS else if k=3 then T.eQ else if k=4 then T.fK else T.vq
def I6(w:A_)(cs:C_ B_)(x:o.Act):Prop := ∃a b,cs=[.iface (rb x.kind) (.agg (x.enc a b).toArray)]/\fJ w a x.index/\fJ w b x.value
def anQ{w0:A_}(v:B_)(xs:C_ o.Act)(w:A_)(h:ob w0 v xs)(B:Ext w0 w)(C:∀c∈xs,1<=c.kind/\c.kind<=5)(Y:xs.length<=100000) :
  EL F.vG #[v] w λG q=>(∃b:C_ (hz 1),b.length=xs.length/\og T.fi 1 w.heap.size q G b/\∀a (f:a<b.length) (g:a<xs.length),I6 w0 b[a].1 xs[a])/\Ext w q:=by
 obtain⟨Z,ab,rfl,ae⟩:=h.form;refine bn E.vG ?_;refine aa ?_;refine K_ 8 xs.length [6,7] (λv:ez=>[(3,.slice v.1 v.2.1 v.2.2)]) (none,0,0) (λd v r=>Ext w r/\∃b:C_ (hz 1),b.length=d/\og T.fi 1 w.heap.size r (.slice v.1 v.2.1 v.2.2) b/\∀a (f:a<b.length) (g:a<xs.length),I6 w0 b[a].1 xs[a]) aW aW ⟨Ext.refl _,[],rfl,aT.nil _ _ _ _ _,λa h=>absurd h (Od _)⟩ ?_;rintro d af ag ah ai ⟨k,b,s,t,u⟩;refine aa ?_;apply I_<;>intro aj;rotate_left
 .have ak:xs.length=d:=AY
  refine aa ?_;exact⟨⟨b,AY,t,u⟩,k⟩
 have l:d<xs.length:=AY
 obtain⟨al,rfl⟩:=h.addr;obtain⟨an,ao,e,m,n⟩:=h.at d l;obtain⟨H,I⟩:=C _ (FA l);obtain⟨c,i⟩:∃c,c=xs[d]:=⟨_,rfl⟩;rw[<-i] at e m n H I;obtain⟨J,K,rfl,_⟩:=m.form;obtain⟨L,M,rfl,_⟩:=n.form;replace e:=e.ext (B.trans k);unfold o.Act.enc at e;refine aa ?_;intro aq ar au x av;have z:=t.ext x;have A:=k.trans x;clear e;have N:∀(y:hz 1),I6 w0 y.1 xs[d]->∀a (f:a<(b++[y]).length) (g:a<xs.length),I6 w0 ((b++[y])[a]).1 xs[a]:=λy O a f g=>by
  by_cases j:a<b.length
  .rw[AJ4 j];exact u a j g
  .have P:a=b.length:=by simp at f;omega
   subst P;subst s;rw[AJ5 (EM _)];simpa using O
 have aw:=A.size;refine aa ?_;apply I_<;>intro ax;rotate_left;refine aa ?_;apply I_<;>intro ay;rotate_left;refine aa ?_;apply I_<;>intro az;rotate_left;refine aa ?_;apply I_<;>intro aB;rotate_left
 all_goals
  refine aa ?_;intro aC aD aE p Q;refine aa ?_;refine T_ (enc:=kE) (y:=(⟨[.iface _ (.agg (c.enc (.slice J c.index.length K) (.slice L c.value.length M)).toArray)],rfl,by simp[Value.oneCell']⟩:hz 1)) (z.ext p) Q rfl iZ vD AY (by unfold maxLen;omega) (by have:=p.size;omega) λS U V aF W X=>?_;refine aa ?_;exact⟨l,aV,(S,U,V),⟨rfl,trivial⟩,(A.trans p).grown X λa j=>(z.lt a j).1,_,by simp[s],W,N _ ⟨_,_,by rw[<-i];unfold rb; (repeat' split)<;>first | rfl | omega,by rw[<-i];exact m,by rw[<-i];exact n⟩⟩
end Go.Proofs.R
namespace ba
open Go Go.RowKit
def aeR(a:F_):me:=⟨19,[.tmp 4],
 (.seq (.cN [dm 4 (bP 0)])
 (.seq (.seq (.cN [aM 6 0,gd 7 6,dm 8 (bP 0)])
 (.b0 0 (.loop (.seq (.cN [ck 9 (.bin .lss a (aN 8) (aN 7))])
 (.seq (.cond (aN 9) .skip
 (.exit 0))
 (.seq (.b0 1 (.seq (.cN [aM 10 8,aM 5 10])
 (.seq (.cN [aM 11 1,aM 12 0,aM 13 5,gQ 14 1 12 13,dD 15 14,fv 16 (.val (aN 11) [(aN 15)])])
 (.cond (aN 16) (.seq (.cN [aM 17 5,aM 4 17])
 .ret)
 .skip))))
 (.cN [ck 18 (.bin .add a (aN 8) (bP 1)),aM 8 18])))))))
 (.seq (.cN [dm 4 (bP (-1))])
 .ret)))⟩
section
variable{α:Type}{P:Program}{f:FuncId}{m6:TypeId}
def TV{R:A_->Addr->α->Prop}{C:A_->C_ B_->α->Prop}[Rel R C 1](r:P.follows .mixedOrders=true)(s:k2 P f=some (aeR m6))
  (v:B_)(xs:C_ α)(w:A_)(h:a6 1 R w v xs)(g:E_)(t:okF P g=true)(first cap:C_ B_)(p:α->Bool)
  (u:∀(j:Nat) (G:j<xs.length) (a:B_) (b:A_),Ext w b->C b [a] xs[j]->a2 P g (first++[a]++cap).toArray b λv x=>v = .bool (p xs[j])/\Ext b x) :
  a2 P f #[v,.func (.func g) first.toArray cap.toArray] w λy b=>y = .I (hd p xs 0)/\Ext w b:=by
 obtain⟨H,bg,rfl,I⟩:=h.form;refine _Q r s (args:=[_,_]) (Nat.le_of_ble_eq_true rfl) ?_;dsimp only[aeR,aN,bP,hV,ck,na,c6,fv,hE,cO,aM,dm,fs,dD,gQ,ys,gd];refine ad ?_;refine K_ 8 xs.length [0,1,7] (λ_=>[]) () (λc _ b=>Ext w b/\hd p xs 0=hd p (xs.drop c) c) aW aW ⟨Ext.refl _,Ah⟩ ?_;rintro c _ J z K ⟨d,e⟩;refine ad ?_;apply I_<;>intro L
 .have i:c<xs.length:=AY
  obtain⟨M,rfl⟩:=h.addr;obtain⟨l,A,m⟩:=Rel.out (h.at c i);have B:=Rel.len (R:=R) m;obtain⟨a,rfl⟩:∃a,l=[a]:=by
   match l,B with
   | [a],_=>exact⟨a,rfl⟩
  have n:=A 0 a rfl;rw[add_zero] at n;rw[Dq i] at e;refine ad ?_;refine L_ (d.cell n) ?_;refine ad ?_;refine W_ t (u c i a z d (Rel.ext (R:=R) d m)) ?_;rintro _ N ⟨rfl,q⟩;refine ad ?_;refine N_ (λk=>?_) (λk=>?_)
  .refine ad ?_;exact⟨by rw[e,if_pos k],d.trans q⟩
  .refine ad ?_;exact⟨i,aV,(),trivial,d.trans q,by rw[e,if_neg (by simp[k])]⟩
 .refine ad ?_;exact⟨by rw[e,VQ AY];rfl,d⟩
end
end ba
namespace o
open Go
theorem Rw{α:Type}{p:α->Bool}:∀(a:C_ α) (e:Nat),(∃f∈a,p f=true)->∃b,∃h:b<a.length,ba.hd p a e=((e+b:Nat):Int)/\a.find? p=some a[b]
 | [],_,⟨f,c,_⟩=>by cases c
 | i :: j,e,h=>by
  cases d:p i with
  | true=>exact⟨0,Ah,by simp[ba.hd,d],by simp[d]⟩
  | false =>
   obtain⟨b,k,l,m⟩:=Rw j (e+1) (by
    obtain⟨f,c,g⟩:=h;rcases List.mem_cons.1 c with rfl | c
    .rw[d] at g;cases g
    .exact⟨f,c,g⟩)
   exact⟨b+1,by simpa using k,by simp only[ba.hd,d,Bool.false_eq_true,if_false];rw[l];congr 1;omega,by simp only[List.find?_cons,d,List.getElem_cons_succ];exact m⟩
end o
namespace Go.Proofs.R
open Go Go.RowKit ba o
attribute [local irreducible] ep bF o.insts o.refs jA fH
def af0(x:Int)(w:A_):EL F.KU #[.I x] w λa b=>a = .bool false/\Ext w b:=by
 refine bn E.KU ?_;refine aa ?_;exact⟨Ah,Ext.refl _⟩
def ame(x y:Int)(w:A_):EL F.vq #[.I x,.I y] w λc d=>(∃a:Int,c = .I a/\(a<0↔x<y)/\(a=0↔x=y))/\Ext w d:=by
 refine bn E.vq ?_;refine aa ?_;refine J_ (af0 x w) ?_;rintro _ e ⟨rfl,f⟩;refine aa ?_;refine J_ (af0 y e) ?_;rintro _ h ⟨rfl,g⟩;have b:=f.trans g;refine aa ?_;apply I_<;>intro i
 .refine aa ?_;exact⟨⟨_,aV,AY,AY⟩,b⟩
 refine aa ?_;apply I_<;>intro j
 .refine aa ?_;exact⟨⟨_,aV,AY,AY⟩,b⟩
 refine aa ?_;exact⟨⟨_,aV,AY,AY⟩,b⟩
def amj(l m:B_)(a b:C_ Int)(w:A_)(n:cl w l a)(p:cl w m b)(H:a.length=b.length) :
  EL F.d5 #[l,m] w λt h=>(∃e:Int,t = .I e/\(e<0↔kg a b=true))/\Ext w h:=by
 obtain⟨I,bg,rfl,_⟩:=n.form;obtain⟨J,bj,rfl,_⟩:=p.form;refine vh E.d5 ?_;refine om ?_;refine aa ?_;refine K_ 11 a.length [0,1,9,10] (λ_:Unit=>[]) () (λc _ h=>kg (a.drop c) (b.drop c)=kg a b/\Ext w h) aW aW ⟨rfl,Ext.refl _⟩ ?_;rintro c - K u L ⟨d,f⟩;have v:=n.ext Flat.ext f;have x:=p.ext Flat.ext f;refine aa ?_;refine I_ (λy=>?_) (λy=>?_);rotate_left
 .refine aa ?_;refine⟨⟨_,aV,?_⟩,f⟩;rw[<-d,VQ AY,VQ AY];simp[kg]
 have g:c<a.length:=AY
 have i:c<b.length:=AY
 have z:=a6.addr v (AL4 (AG6 _) g);obtain⟨M,rfl⟩:=z;have A:=a6.addr x (AL4 (AG6 _) i);obtain⟨N,rfl⟩:=A;rw[AG0 g,AG0 i] at d;have B:∀(j k:Int) q r,kg (j :: q) (k :: r)=if j=k then kg q r else decide (j<k):=λ_ _ _ _=>rfl
 rw[B] at d;refine aa ?_;refine J_ (ame (a[c]'g) (b[c]'i) u) ?_;rintro _ O ⟨⟨e,rfl,C,P⟩,G⟩;have s:=f.trans G;refine aa ?_;apply I_<;>intro Q
 .rw[if_pos AY] at d;refine aa ?_;exact⟨g,aV,(),trivial,d,s⟩
 .rw[if_neg AY] at d;refine aa ?_;exact⟨⟨e,aV,by rw[<-d];simpa using C⟩,s⟩
def atB(f g:B_)(a b:C_ Int)(w:A_)(d:cl w f a)(e:cl w g b)(k:a.length=b.length) :
  EL F.bO #[f,g] w λl h=>cl h l (pZ a b)/\Ext w h:=by
 obtain⟨n,bg,rfl,_⟩:=d.form;obtain⟨p,bj,rfl,_⟩:=e.form;refine bn E.bO ?_;refine aa ?_;refine J_ (amj _ _ b a w e d k.symm) ?_;rintro _ q ⟨⟨r,rfl,i⟩,c⟩;unfold pZ;refine aa ?_;apply I_<;>intro j
 .rw[if_pos (i.1 j)];refine aa ?_;exact⟨e.ext Flat.ext c,c⟩
 .rw[if_neg (λm=>j (i.2 m))];refine aa ?_;exact⟨d.ext Flat.ext c,c⟩
def Ou(b:Nat)(vs:B_)(m:o.Model)(s:C_ Int)(w:A_)(h:nH w b m)(n:(o.check m).bK=0)(p:cl w vs s)(t:o.Fits m s) :
  EL F.jl #[.pointer (some ⟨b,0,none⟩),vs] w λi u=>cl u i (fb m s)/\Ext w u:=by
 have H:=h;obtain⟨ao,I,v⟩:=h;obtain⟨aq,ar,au,av,aw,ax,ay,az,aB,aC,aD,aE,aF,aG,aH,aI,aJ,aK,aL,aP,rfl,_,_,_,_,_,x⟩:=v.ex;clear v;have J:=jX n;have K:=gA n;have aQ:cH m<=64:=ij K;have L:=t.len;have y:=x.form;obtain⟨_,_,_,y⟩:=y;have M:=λ{N:Nat} (O:N<(ep m.scalars).length)=>(uT J).1 (FA O);have z:∀a,(p0 s (((ep m.scalars).take a).map λc=>hj m c s)).length=cH m:=λa=>by
  rcases List.mem_cons.1 (UA (((ep m.scalars).take a).map λc=>hj m c s) s).1 with h | h
  .rw[h,L]
  .obtain⟨c,_,P⟩:=List.mem_map.1 h;rw[<-P,C2]
 obtain⟨Q,S,rfl,aR⟩:=p.form;refine bn E.jl ?_;refine aa ?_;refine K_ 14 (ep m.scalars).length [0,1,12,13] (λd:ez=>[(5,.slice d.1 d.2.1 d.2.2)]) (Q,s.length,S) (λa d A=>cl A (.slice d.1 d.2.1 d.2.2) (p0 s (((ep m.scalars).take a).map λc=>hj m c s))/\Ext w A) aW aW ⟨by simpa[p0] using p,Ext.refl _⟩ ?_;rintro a ⟨aS,aU,aX⟩ aY j aZ ⟨k,e⟩;dsimp only at k;have q:wT j _ _:=a6.ext A5 e x;refine aa ?_;apply I_<;>intro a0;rotate_left
 .have U:p0 s (((ep m.scalars).take a).map λc=>hj m c s)=fb m s:=by
   rw[IA AY];rfl
  have V:=z a;rw[U] at k V;refine aa ?_;refine J_ (HE _ _ j k (by unfold eO;omega)) ?_;rintro i B ⟨r,l⟩;have f:=ha r;obtain⟨W,X,rfl,_⟩:=f.form;refine aa ?_;exact⟨f,e.trans l⟩
 have g:a<(ep m.scalars).length:=AY
 have Y:=M g;have Z:=a6.addr q AY;obtain⟨ab,rfl⟩:=Z;have ae:wS j (ab.add (a*1)) ((ep m.scalars)[a]'g):=a6.at q a g;obtain⟨a1,af,C⟩:=ae;have ag:=C.form;obtain⟨a3,a5,rfl,_⟩:=ag;have a7:=e.obj I;clear q;refine aa ?_;refine L_ af ?_;refine aa ?_;refine J_ (U0 b _ _ m _ s j (H.ext e) n Y C (p.ext Flat.ext e) t) ?_;rintro i B ⟨r,l⟩;have f:=ha r;have ah:=f.form;obtain⟨W,X,rfl,_⟩:=ah;refine aa ?_;refine J_ (atB _ _ _ _ B (k.ext Flat.ext l) f (by rw[z,C2])) ?_;rintro i a8 ⟨G,ai⟩;have aj:=G.form;obtain⟨ak,al,rfl,_⟩:=aj;refine aa ?_;refine⟨g,aV,(ak,_,al),aW,?_,(e.trans l).trans ai⟩;have an:p0 s (((ep m.scalars).take (a+1)).map λc=>hj m c s)=pZ (p0 s (((ep m.scalars).take a).map λc=>hj m c s)) (hj m (ep m.scalars)[a] s):=by
  rw[Oi g,AF9];unfold p0;rw[List.foldl_append];rfl
 rw[an];exact G
theorem ane(k l:B_)(a b:C_ (C_ Int))(w:A_)(m:gS w k a)(n:gS w l b) :
  EL F.J7 #[k,l,.func (.func F.c) #[] #[]] w λu f=>u = .bool (decide (a=b))/\Ext w f:=by
 obtain⟨K,bg,rfl,L⟩:=m.form;obtain⟨M,bj,rfl,N⟩:=n.form;refine vh E.J7 ?_;refine om ?_;refine aa ?_;refine I_ (λp=>?_) (λp=>?_);rotate_left
 .refine aa ?_;exact⟨by rw[decide_eq_false (λg=>p (by rw[g]))],Ext.refl _⟩
 have O:a.length=b.length:=AY
 refine aa ?_;refine K_ 17 a.length [0,1,2,15,16] (λ_:Unit=>[]) () (λc _ f=>Ext w f/\a.take c=b.take c) aW aW ⟨Ext.refl _,Ah⟩ ?_;rintro c - P h Q ⟨d,i⟩;have q:=iR d m;have r:=iR d n;refine aa ?_;apply I_<;>intro S;rotate_left
 .refine aa ?_;exact⟨by rw[IA AY,IA AY] at i;rw[decide_eq_true i],d⟩
 have e:c<a.length:=AY
 have j:c<b.length:=AY
 have v:=a6.addr q AY;obtain⟨x,rfl⟩:=v;have y:=a6.addr r AY;obtain⟨z,rfl⟩:=y;have A:oT h (x.add (c*1)) (a[c]'e):=a6.at q c e;have B:oT h (z.add (c*1)) (b[c]'j):=a6.at r c j;obtain⟨U,C,G⟩:=A;obtain⟨V,H,I⟩:=B;refine aa ?_;refine L_ C ?_;refine aa ?_;refine L_ H ?_;refine aa ?_;refine W_ Cl (BX _ _ _ _ h G I) ?_;rintro _ W ⟨⟨J,rfl,s⟩,t⟩;cases J with
 | true =>
  refine aa ?_;exact⟨e,aV,(),trivial,d.trans t,(aix e j).2 ⟨i,s.1 rfl⟩⟩
 | false =>
  refine aa ?_;refine⟨?_,d.trans t⟩;rw[decide_eq_false];intro g;subst g
  have:=s.2 rfl
  cases this
def apt(a b:B_)(g h:C_ (C_ Int))(c:Nat)(w:A_)(k:w.heap[c]? = some (.cells #[b] T.d))(d:gS w b g)(e:gS w a h) :
  EL F.q #[a,.pointer (some ⟨c,0,none⟩)] w λf i=>f = .bool (decide (g=h))/\Ext w i:=by
 refine bn E.q ?_;refine aa ?_;refine J_ (ane _ _ g h w d e) ?_;rintro _ l ⟨rfl,j⟩;refine aa ?_;exact⟨aV,j⟩
def amk(v b:B_)(g:C_ (C_ Int))(Q:C_ (C_ (C_ Int)))(a:Nat)(w:A_)(i:w.heap[a]? = some (.cells #[b] T.d))(j:gS w b g)(e:wT w v Q) :
  EL F.ei #[v,.func (.func F.q) #[] #[.pointer (some ⟨a,0,none⟩)]] w λk c=>(∃f:Bool,k = .bool f/\(f=true↔g∈Q))/\Ext w c:=by
 obtain⟨q,bg,rfl,r⟩:=e.form;refine vh E.ei ?_;refine om ?_;refine aa ?_;refine J_ (TV (R:=wS) kv E.d2 _ Q w e F.q Cl [] [.pointer (some ⟨a,0,none⟩)] (λl=>decide (g=l)) (λs t u c h m=>by
  obtain⟨x,d,n⟩:=m;injection d with d
  subst d;exact apt _ b g _ a c (h.obj i) (iR h j) n)) ?_
 rintro _ y ⟨rfl,p⟩;refine aa ?_;refine⟨⟨_,aV,?_⟩,p⟩;rw[decide_eq_true_eq];refine KD.trans ?_;simp[List.any_eq_true]
def agF(b:Nat)(v:B_)(m:o.Model)(g:C_ (C_ Int))(w:A_)(h:nH w b m)(f:qk m.scalars)(d:gS w v g) :
  EL F.cL #[.pointer (some ⟨b,0,none⟩),v] w λi j=>(∃a:Bool,i = .bool a/\(a=true↔fU m.scalars g))/\Ext w j:=by
 obtain⟨t,k,e⟩:=h;obtain⟨u,x,y,z,A,B,C,G,H,I,J,K,L,M,N,O,P,Q,S,U,rfl,_,_,_,_,_,l⟩:=e.ex;clear e;obtain⟨V,W,rfl,X⟩:=d.form;refine bn E.cL ?_;refine aa ?_;intro n p Y c q;have Z:=c.obj k;refine aa ?_;refine J_ (amk _ _ g _ p n q (iR c d) (a6.ext A5 c l)) ?_;rintro _ ab ⟨⟨a,rfl,r⟩,s⟩;refine aa ?_;exact⟨⟨a,aV,r.trans (uT f)⟩,c.trans s⟩
def alN(d vs dN:B_)(b e bs f:Nat)(m:o.Model)(g:C_ (C_ Int))(s c:C_ Int)(w:A_)(h:nH w b m)(p:(o.check m).bK=0)(q:fU m.scalars g)(r:o.Fits m s)
  (i:w.heap[e]? = some (.cells #[.pointer (some ⟨b,0,none⟩)] T.sU))(j:w.heap[bs]? = some (.cells #[vs] T.b))(k:w.heap[f]? = some (.cells #[dN] T.b))(t:gS w d g)(u:cl w vs s)(v:cl w dN c) :
  EL F.oo #[d,.pointer (some ⟨e,0,none⟩),.pointer (some ⟨bs,0,none⟩),.pointer (some ⟨f,0,none⟩)] w λx y=>x = .bool (decide (hj m g s=c))/\Ext w y:=by
 refine bn E.oo ?_;refine aa ?_;intro z a;have H:=a.obj i;have I:=a.obj j;have J:=a.obj k;clear i j k;refine aa ?_;refine J_ (U0 b _ _ m g s z (h.ext a) p q (iR a t) (u.ext Flat.ext a) r) ?_;rintro _ A ⟨B,l⟩;refine⟨l,?_⟩;have n:=a.trans l;refine aa ?_;refine J_ (BX _ _ _ _ A (ha B) (v.ext Flat.ext n)) ?_;rintro _ K ⟨⟨L,rfl,C⟩,G⟩;refine aa ?_;exact⟨by congr 1;rw[AH3,decide_eq_true_eq];exact C,n.trans G⟩
def avD(b:Nat)(vs:B_)(m:o.Model)(s:C_ Int)(w:A_)(h:nH w b m)(d:(o.check m).bK=0)(g:cl w vs s)(i:o.Fits m s) :
  EL F.Kl #[.pointer (some ⟨b,0,none⟩),vs] w λt e=>gS e t (vx m s)/\Ext w e:=by
 have u:=h;obtain⟨au,v,x⟩:=h;obtain⟨av,aw,ax,ay,az,aB,aC,aD,aE,aF,aG,aH,aI,aJ,aK,aL,aP,aQ,aR,aS,rfl,_,_,_,_,_,y⟩:=x.ex;clear x;have z:=jX d;have A:=QP d i.len;have j:=Rw (p:=λk=>decide (hj m k s=fb m s)) (ep m.scalars) 0 ⟨_,(uT z).2 A.1,by simpa using A.2⟩;obtain⟨c,l,B,X⟩:=j;have Y:vx m s=(ep m.scalars)[c]:=by
  unfold vx;rw[X];rfl
 rw[ZQ] at B;obtain⟨aU,aX,rfl,aY⟩:=g.form;refine bn E.Kl ?_;refine aa ?_;intro aZ C a0 Z G;refine aa ?_;intro ab H a1 I J;have K:=I.obj G;have dh:=Z.trans I;refine aa ?_;refine J_ (Ou b _ m s ab (u.ext dh) d (g.ext Flat.ext dh) i) ?_;rintro dN a3 ⟨L,n⟩;have ae:=L.form;obtain⟨a5,a7,rfl,_⟩:=ae;have M:=n.obj K;have N:=n.obj J;refine aa ?_;intro a8 O P af a9;refine aa ?_;intro ag ah Q;have f:=ah.ext af P;have p:=f.obj M;have S:=f.obj N;have dT:=(dh.trans n).trans f;have ai:=dT.obj v;clear G K M J N;refine aa ?_;refine J_ (TV (R:=wS) kv E.d2 _ (ep m.scalars) ag (a6.ext A5 dT y) F.oo Cl [] [.pointer (some ⟨C,0,none⟩),.pointer (some ⟨H,0,none⟩),.pointer (some ⟨O,0,none⟩)] (λk=>decide (hj m k s=fb m s)) (λbb aj t e a ak=>by
  obtain⟨bf,q,al⟩:=ak;injection q with q
  subst q;exact alN _ _ _ b C H O m _ s _ e (u.ext (dT.trans a)) d ((uT z).1 (FA aj)) i (a.obj p) (a.obj S) (a.obj Q) al (g.ext Flat.ext (dT.trans a)) (L.ext Flat.ext (f.trans a)))) ?_
 rintro _ U ⟨rfl,V⟩;have hA:=dT.trans V;have P:=hA.obj v;have bk:=V.obj p;have r:wT U _ _:=a6.ext A5 hA y;have j:=a6.addr r AY;obtain⟨an,rfl⟩:=j;have ao:wS U (an.add (c*1)) ((ep m.scalars)[c]'l):=a6.at r c l;obtain⟨bl,aq,W⟩:=ao;have ar:=W.form;obtain⟨bo,bp,rfl,_⟩:=ar;clear r ai p S Q;refine aa ?_;refine M_ c B l ?_;refine aa ?_;refine L_ aq ?_;refine aa ?_;rw[Y];exact⟨W,hA⟩
def avB(v:B_)(s:C_ o.Scalar)(g:C_ (C_ Int))(w:A_)(l:qk s)(m:fU s g)(n:gS w v g) :
  EL F.Kk #[v] w λp d=>ey q3 T.b 1 w.heap.size d p (l1 g)/\Ext w d:=by
 obtain⟨U,V,rfl,W⟩:=n.form;have X:(l1 g).length=g.length:=by simp[l1]
 have Y:=m.len;have Z:=l.1;refine bn E.Kk ?_;refine aa ?_;refine K_ 8 g.length [0,6,7] (λc:ez=>[(3,.slice c.1 c.2.1 c.2.2)]) (none,0,0) (λa c d=>ey q3 T.b 1 w.heap.size d (.slice c.1 c.2.1 c.2.2) ((l1 g).take a)/\Ext w d) aW aW ⟨ey.nil _ _ _ _ _,Ext.refl _⟩ ?_;rintro a ⟨ab,ae,af⟩ ag i q ⟨e,h⟩;dsimp only at e;have r:=iR h n;refine aa ?_;apply I_<;>intro ah;rotate_left
 .refine aa ?_;rw[IA AY] at e;exact⟨e,h⟩
 have b:a<g.length:=AY
 have t:a<s.length:=AY
 have B:=a6.addr r (AL4 (AG6 _) b);obtain⟨C,rfl⟩:=B;have G:oT i (C.add (a*1)) (g[a]'b):=a6.at r a b;obtain⟨ai,H,u⟩:=G;have I:=u.form;obtain⟨aj,ak,rfl,_⟩:=I;have al:=l.2 _ (FA t);refine aa ?_;refine L_ H ?_;refine aa ?_;refine J_ (avP _ _ (g[a]'b) i u (m.perm a b t) AY) ?_;rintro p J ⟨x,j⟩;have K:=x.form;obtain⟨y,z,rfl,_⟩:=K;have k:=e.ext j;have an:=h.size;have ao:=j.size;have L:ec i (λw=>cl w (.slice y (pX (g[a]'b)).length z) (pX (g[a]'b))) J:=aT.new (enc:=da) (λ_=>rfl) x;refine aa ?_;intro aq ar au f M;have av:=f.size;refine _A (x:=pX (g[a]'b)) (cs:=[.slice y (pX (g[a]'b)).length z]) (k.ext f) (g5 M) (((ec.own L e AY).imp λw N=>⟨_,rfl,N⟩).ext f λO aw q=>by have:=k.under AY O q;omega) rfl (by simp[Value.oneCell']) (by rw[IP];omega) (by rw[IP];unfold maxLen;omega) AY λax ay A P=>?_;have hA:=(k.ext f).h9 ((h.trans j).trans f) P (EM _);obtain⟨Q,S,rfl,_⟩:=A.form;refine aa ?_;refine⟨b,aV,(Q,_,S),aW,?_,hA⟩;rw[Oi AY,show(l1 g)[a]' AY=pX (g[a]'b) from by simp[l1]];exact A
def agM(b:Nat)(v:B_)(m:o.Model)(g:C_ (C_ Int))(x:Int)(w:A_)(h:nH w b m)(p:(o.check m).bK=0)(u:fU m.scalars g)(G:gS w v g) :
  EL F.et #[.pointer (some ⟨b,0,none⟩),v,.I x] w λd e=>(¬(0<=x/\x<(o.refs m).length)/\d = .I (-1)\/(0<=x/\x<(o.refs m).length)/\d = .I (Aa m (gK g) x.toNat))/\Ext w e:=by
 have q:=h;obtain⟨an,y,z⟩:=h;obtain⟨H,I,J,K,L,M,N,O,P,Q,ao,aq,ar,au,av,aw,ax,ay,az,aB,rfl,S,_⟩:=z.ex;clear z;have A:=jX p;have U:=gA p;have V:=u.pz A;refine bn E.et ?_;refine aa ?_;refine _U [.slice H m.scalars.length I,.slice J m.vars.length K,.slice L m.aA.length M,.slice N m.procs.length O,.slice P m.props.length Q] y rfl rfl ?_;refine aa ?_;refine J_ (ahn _ m w S U.HM) ?_;rintro d W ⟨B,f⟩;have r:Jq W d (o.refs m):=aT.lF (enc:=o.Ref.enc) (λ_=>rfl) B;obtain⟨aC,aD,rfl,aE⟩:=r.form;clear B;refine aa ?_;apply I_<;>intro aF
 .refine aa ?_;exact⟨.inl ⟨AY,aV⟩,f⟩
 refine aa ?_;apply I_<;>intro aG
 .refine aa ?_;exact⟨.inl ⟨AY,aV⟩,f⟩
 obtain⟨c,rfl⟩:∃c:Nat,x=c:=⟨x.toNat,AY⟩;have X:=OK V p (r:=c) AY;obtain⟨i,Y,j,Z,aH,k⟩:=X;have ab:=k.g;obtain⟨s,ae,af⟩:=k.at_;have l:=k.b.ab;have n:=k.b.at_;simp only[Int.toNat_natCast] at l n;have C:(⟨(j:Int),((o.refs m)[c]'s).cmd⟩:o.Ref)=(o.refs m)[i]'l:=ahi (by rw[n.rH]) (by rw[n.sD,af]);have ag:hd (λt=>decide ((⟨(j:Int),((o.refs m)[c]'s).cmd⟩:o.Ref)=t)) (o.refs m) 0=i:=by
  rw[C]
  have:=KE (p:=λt=>decide ((o.refs m)[i]'l=t)) (o.refs m) i 0 l Ah λaI ah aJ=>by
   simp only[decide_eq_false_iff_not];intro a
   have:=aho l ah (by rw[a]) (by rw[a])
   omega
  rw[this,ZQ]
 have ai:=a6.addr r AY;obtain⟨aK,rfl⟩:=ai;replace q:=q.ext f;clear n C y;refine aa ?_;refine P_ (.I j) (λe a=>agH b v m g _ Y j Z e ae (q.ext a) A u (iR (f.trans a) G) k.i) ?_;refine aa ?_;refine P_ (.I i) (λe a=>(asy _ _ ⟨(j:Int),((o.refs m)[c]'s).cmd⟩ e (r.ext Flat.ext a)).mono λd aL ⟨aj,ak⟩=>⟨by rw[aj,ag],ak⟩) ?_;refine aa ?_;intro aP al;refine aa ?_;exact⟨.inr ⟨AY,by rw[AG2,ab]⟩,f.trans al⟩
def anP{w0:A_}(b8 dR g c q p base:Nat)(m:o.Model)(s:C_ Int)(a:o.Act)(b5 b9:B_)(w:A_)(gD:B_->A_->Prop){t}(bz:mh w0 w b8 dR g c q base m s)(g8:(o.check m).bK=0)(ar:o.Fits m s)(hIn:hF m q p)
  (a1:qZ (o.inner (m.procs[p]'(hIn.aB)) (fm m)) a)(ab:fJ w b5 a.index)(aG:fJ w b9 a.value)
  (ib:∀u w',kY base g (.slice (some ⟨g,0,none⟩) s.length c) (hr m s q a) u w w'->gD u w') :
  CH Tryz.prog (.iface (rb a.kind) (.agg (a.enc b5 b9).toArray)) "lariat/fire.do" [.pointer (some ⟨b8,0,none⟩)] w gD t:=by
 obtain⟨cu,tt⟩:=a1.kind;by_cases a7:a.kind=1
 .rw[show rb a.kind=T.c3 from by unfold rb;rw[if_pos a7]];exact _s (f:=F.FO) Cl (λw'=>Cl) (an8 b8 dR g c q p base m s a b5 b9 w bz g8 ar hIn a1 a7 ab aG) ib
 by_cases ay:a.kind=2
 .rw[show rb a.kind=T.cS from by unfold rb;rw[if_neg a7,if_pos ay]];exact _s (f:=F.FP) Cl (λw'=>Cl) (anX b8 dR g c q p base m s a b5 b9 w bz g8 ar hIn a1 ay ab aG) ib
 by_cases a5:a.kind=3
 .rw[show rb a.kind=T.eQ from by unfold rb;rw[if_neg a7,if_neg ay,if_pos a5]];exact _s (f:=F.FR) Cl (λw'=>Cl) (an4 b8 dR g c q p base m s a b5 b9 w bz g8 ar hIn a1 a5 ab aG) ib
 by_cases bp:a.kind=4
 .rw[show rb a.kind=T.fK from by unfold rb;rw[if_neg a7,if_neg ay,if_neg a5,if_pos bp]];exact _s (f:=F.FT) Cl (λw'=>Cl) (an7 b8 dR g c q p base m s a b5 b9 w bz g8 ar hIn a1 bp ab aG) ib
 .rw[show rb a.kind=T.vq from by unfold rb;rw[if_neg a7,if_neg ay,if_neg a5,if_neg bp]];exact _s (f:=F.FV) Cl (λw'=>Cl) (an6 b8 dR g c q p base m s a b5 b9 w bz g8 ar hIn a1 AY ab aG) ib
def anO(b:Nat)(m:o.Model)(ref:Int)(q p k:Nat)(w:A_)(h:ql w b m)(a:gf m ref q p k) :
  ∃g i C G,fJ w (.slice g (cT m p k).guard.length i) (cT m p k).guard/\ob w (.slice C (cT m p k).b6.length G) (cT m p k).b6 /\
   ∀j,Ext w j->EL F.l #[.pointer (some ⟨b,0,none⟩),.I ref] j λO P=>O = .agg ((cT m p k).enc (.slice g (cT m p k).guard.length i) (.slice C (cT m p k).b6.length G)).toArray/\Ext j P:=by
 obtain⟨ab,c,h⟩:=h;obtain⟨ae,af,ag,ah,ai,aj,ak,al,an,ao,aq,ar,au,bg,av,bj,aw,ax,ay,az,aB,aC,aD,aE,rfl,_,_,_,_,_,_,_,_,_,_,H,l,n⟩:=h.form;have aF:=a.at_.ab;have v:=a.at_.aB;have I:=a.at_.J;have Q:=a.at_.ip;obtain⟨r,rfl⟩:=Uh a.aQ;have aG:r<(o.refs m).length:=a.ab;have S:(o.refs m)[r].inst=(q:Int):=a.at_.rH;have U:(o.refs m)[r].cmd=(k:Int):=a.at_.sD;obtain⟨aH,rfl⟩:=n.addr;obtain⟨aI,rfl⟩:=l.addr;obtain⟨aJ,rfl⟩:=H.addr;obtain⟨aK,aL,dN,s,aP,x⟩:=H.at p v;obtain⟨aQ,aR,rfl,aS⟩:=x.form;obtain⟨aU,rfl⟩:=x.addr;obtain⟨aX,aY,aZ,t,J,K⟩:=x.at k I;obtain⟨g,i,rfl,_⟩:=J.form;obtain⟨V,W,rfl,_⟩:=K.form;unfold ed.enc at s;unfold ew.enc at t;have y:=Dh v I;refine⟨g,i,V,W,by rw[y];exact J,by rw[y];exact K,λj e=>?_⟩;replace c:=e.obj c;replace n:=n.ext Flat.ext e;replace l:=l.ext Flat.ext e;replace s:=s.ext e;replace t:=t.ext e;refine bn E.l ?_;refine aa ?_;intro a0 a1 a3 z f;replace c:=z.obj c;have X:=n.ext Flat.ext z;refine aa ?_;intro a5 a7 a8 A B;have Y:(o.refs m)[r].enc=[.I q,.I k]:=by unfold o.Ref.enc;rw[S,U]
 rw[Y] at B;have a9:=cf f;replace f:=A.obj f;replace c:=A.obj c;have u:=z.trans A;have L:=l.ext Flat.ext u;have M:=s.ext u;have N:=t.ext u;clear X;refine aa ?_;intro bb d;replace f:=d.obj f;replace B:=d.obj B;replace c:=d.obj c;replace L:=L.ext Flat.ext d;replace M:=M.ext d;replace N:=N.ext d;refine aa ?_;refine M_ p (by rw[Q]) v ?_;refine aa ?_;intro bf Z bk;refine aa ?_;exact⟨by rw[y];rfl,Z.ext (u.trans d) AY⟩
def anN(y:Nat)(v:B_)(m:o.Model)(s:C_ Int)(ref:Int)(q p k:Nat)(w:A_)(aD:ql w y m)(Q:cl w v s)(ai:o.Fits m s)(A:gf m ref q p k) :
  EL F.f5 #[.pointer (some ⟨y,0,none⟩),v,.I ref] w λG aE=>((hs m s q (cT m p k)=none/\G = .tuple #[.slice none 0 0,.bool false])\/(∃f aF a,hs m s q (cT m p k)=some f/\G = .tuple #[.slice aF f.length a,.bool true]/\ft w.heap.size aE (.slice aF f.length a) f))/\Ext w aE:=by
 have aj:=A.ok;have aG:=gA aj;have H:=A.inst;have I:=A.cin;have bE:=I.gT;have bG:=H.ax;have cx:=ai.len;have cy:cH m<=64:=ij aG;have cz:=H.room;obtain⟨cB,cE,cF⟩:=uO m;obtain⟨cG,aH⟩:=qH bG;have aI:=aD;obtain⟨cI,g,aJ⟩:=aD;obtain⟨cK,cL,cM,cN,cP,cQ,cS,cU,cV,cW,cX,cY,c0,bg,c1,bj,c2,c3,c4,c5,c8,db,dc,dd,rfl,_,_,bH,bI,aK,bJ,bK,aL,n,S,bL,bM,B⟩:=aJ.form;obtain⟨de,df,rfl,di⟩:=Q.form;obtain⟨ak,rfl⟩:=Uh A.aQ;have dj:ak<(o.refs m).length:=A.ab;have U:(o.refs m)[ak].inst=(q:Int):=A.at_.rH;obtain⟨dk,rfl⟩:=B.addr;obtain⟨dp,rfl⟩:=aK.addr;obtain⟨dq,rfl⟩:=Q.addr;obtain⟨a,aP⟩:∃a,a=cT m p k:=⟨_,rfl⟩;obtain⟨bN,bO,bQ,bU,aQ,aR,V⟩:=anO y m ak q p k w aI A;rw[<-aP] at I bE ⊢;simp only[<-aP] at V aQ aR;clear bH bI bJ bK aL n S bL bM aJ;have bV:∀{r},Ext w r->r.heap[y]? = _:=λW=>W.obj g;refine bn E.f5 ?_;simp -dsimp only[cD];refine eA ?_;refine R_ [0,1,2] (λt:Nat=>[(8,.pointer (some ⟨t,0,none⟩)),(9,.I q)]) (λt r=>w.heap.size<=t/\Ext w r/\r.heap[t]? = some (.cells (a.enc (.slice bN a.guard.length bO) (.slice bQ a.b6.length bU)).toArray T.q)) ?_ ?_
 .refine aa ?_;intro l b;replace g:=b.obj g;replace B:=B.ext Flat.ext b;refine aa ?_;refine⟨?_,?_⟩
  .refine J_ (V l b) ?_;rintro _ X ⟨rfl,d⟩;refine⟨d,?_⟩;refine aa ?_;intro al t Y h c;refine⟨d.trans h,?_⟩;refine X_ c rfl rfl (by simp[Value.oneCell',ew.enc]) λC an ao=>?_;have j:Ext X C:=an.ext h Y;refine⟨d.trans j,?_⟩;refine aa ?_
   have:=b.size
   have:=d.size
   exact⟨t,⟨rfl,by first | trivial | (rw[U];trivial) | simp[U,Has],trivial⟩,AY,b.trans (d.trans j),ao⟩
  .refine aa ?_;intro X t Y d c;refine⟨d,?_⟩;refine aa ?_;refine J_ (V X (b.trans d)) ?_;rintro _ al ⟨rfl,h⟩;replace c:=h.obj c;have aS:=d.trans h;refine⟨aS,?_⟩;refine aa ?_;intro C an ao;have j:Ext l C:=an.ext aS Y;refine⟨j,?_⟩;refine aa ?_
   have:=b.size
   exact⟨t,⟨rfl,by first | trivial | (rw[U];trivial) | simp[U,Has],trivial⟩,AY,b.trans j,ao⟩
 clear V g;rintro t bW l ⟨Y,b,c⟩;have dr:=cf c;have g:=bV b;have aU:=Q.ext Flat.ext b;have aX:s[b7 m q]? = some (s[b7 m q]' AY):=List.getElem?_eq_getElem AY;refine aa ?_;refine J_ (HE _ s l aU (by unfold eO;omega)) ?_;rintro G X ⟨Z,d⟩;replace g:=d.obj g;replace c:=d.obj c;have bX:=b.trans d;obtain⟨bY,J,rfl,_⟩:=(ha Z).form;obtain⟨i,rfl⟩:∃i,bY=some ⟨i,0,none⟩:=by
  rcases Z.2 with ⟨aY,aL⟩ | ⟨i,cap,cur,n,_⟩
  .exfalso;injection aY with _ S _;omega
  .injection n with n _ _;exact⟨i,n⟩
 refine aa ?_;intro al ab du h aZ;have aq:=bX.trans h;have a0:mh l al ab y i J q l.heap.size m s:=⟨d.trans h,EM _,aI.ext b,aZ,Z.ext h⟩;replace g:=h.obj g;replace c:=h.obj c;have b0:=Q.ext Flat.ext aq;have b1:=aK.ext Flat.ext aq;clear aU Z;refine eA ?_;refine AA6 g (Ext.refl _) rfl ?_;refine eA ?_;simp -dsimp only[cD];refine eA ?_;refine M_ (b7 m q) (by rw[aH]) AY ?_;refine eA ?_;intro C j;have ar:=a0.ext j;replace c:=j.obj c;replace g:=j.obj g;have K:=aq.trans j;clear b0 b1 a0 aZ;refine eA ?_;apply I_<;>intro a1;rotate_left
 .refine aa ?_;exact⟨.inl ⟨by unfold hs;rw[aX,if_pos (by simpa using a1)],aV⟩,K⟩
 have L:hs m s q a=if 0<a.guard.length/\((o.eval a.guard (bZ m s q)).2≠0\/(o.eval a.guard (bZ m s q)).1=0) then none else (jj m q a.b6 s).map λf=>f.set (b7 m q) a.to:=by
  unfold hs;rw[aX,if_neg (by simpa using a1)]
 have a3:=c;refine eA ?_;refine R_ [0,2,8,9,10,11] (λ_:Unit=>[]) (λ_ r=>Ext C r/\¬(0<a.guard.length/\((o.eval a.guard (bZ m s q)).2≠0\/(o.eval a.guard (bZ m s q)).1=0))) ?_ ?_
 .refine aa ?_;apply I_<;>intro b3;rotate_left
  .refine aa ?_;exact⟨(),trivial,Ext.refl _,λa5=>AY⟩
  refine aa ?_;refine J_ (Du ab y i J q p l.heap.size m s _ a.guard C ar aj ai H (aQ.ext K)) ?_;rintro _ a7 ⟨rfl,u⟩;obtain⟨e,a8⟩:∃e,e=(o.eval a.guard (bZ m s q)).1:=⟨_,rfl⟩;obtain⟨W,a9⟩:∃W,W=(o.eval a.guard (bZ m s q)).2:=⟨_,rfl⟩;rw[<-a8,<-a9];rw[<-a8,<-a9] at L;refine aa ?_;refine I_ (λau=>?_) (λau=>?_);rotate_left
  .refine aa ?_;exact⟨.inl ⟨by rw[L,if_pos ⟨AY,.inl au⟩],aV⟩,K.trans u⟩
  refine aa ?_;refine I_ (λav=>?_) (λav=>?_)
  .refine aa ?_;exact⟨.inl ⟨by rw[L,if_pos ⟨AY,.inr av⟩],aV⟩,K.trans u⟩
  .refine aa ?_;exact⟨(),trivial,u,λa5=>by rcases a5.2 with x | x;exact x au;exact av x⟩
 clear c g;rintro _ bW a7 ⟨u,bb⟩;have bf:hs m s q a=(jj m q a.b6 s).map λf=>f.set (b7 m q) a.to:=by rw[L,if_neg bb]
 rw[bf];clear L bb bf;have c:=u.obj a3;have aw:=ar.ext u;have b4:=K.trans u;refine aa ?_;refine J_ (anQ _ a.b6 a7 (aR.ext b) (d.trans (h.trans (j.trans u))) (λb5 b6=>(JA I b5 b6).kind) AY) ?_;rintro G bk ⟨⟨ax,dv,ay,b8⟩,M⟩;obtain⟨dw,dx,rfl,_⟩:=(aT.im iZ ay).form;have b9:=aw.ext M;have ca:=M.obj c;have bl:=b4.trans M;have dy:=aw.FG;have dz:=M.size;clear c a3 ar aw;refine aa ?_;refine K_ 69 ax.length [0,2,8,9,10,11,67,68] (λ_:C_ Int=>[]) s (λe f r=>Mod (λz=>z=i) bk r/\jj m q (a.b6.take e) s=some f/\o.Fits m f/\mh l r ab y i J q l.heap.size m f) aW aW ⟨Mod.refl _ _,rfl,ai,b9⟩ ?_;rintro e f dA ae aY ⟨N,af,ag,O⟩;have cb:i≠t:=AY
 have bo:=N.obj (λx=>cb x.symm) ca;have cc:=aT.mod ay N λz ah x=>by have:=(aT.lt ay z ah).1;omega
 refine aa ?_;apply I_<;>intro b3
 .have az:e<ax.length:=AY
  have P:e<a.b6.length:=AY
  have bp:=aT.im iZ cc;obtain⟨ch,rfl⟩:=bp.addr;obtain⟨bq,bt,cj,cm,cp⟩:=b8 e az P;have cq:ae.cell? (ch.add (e*1))=some (.iface (rb a.b6[e].kind) (.agg (a.b6[e].enc bq bt).toArray)):=by
   have:=bp.at e az 0 _ (by show(ax[e].1)[0]? = _;rw[cj];rfl)
   rwa[add_zero] at this
  have bu:Ext l ae:=N.ext (d.trans (h.trans (j.trans (u.trans M)))) λz ah x=>AY
  have bw:=O.box;refine aa ?_;refine L_ cq ?_;refine aa ?_;refine anP ab y i J q p l.heap.size m f a.b6[e] bq bt ae _ O aj ag H (JA I _ (FA P)) (cm.ext bu) (cp.ext bu) λG bx B=>?_;obtain⟨B,bz⟩:=B;have bA:Mod (λz=>z=i) bk bx:=N.trans bz;rcases B with ⟨t2,n,rfl,S⟩ | ⟨n,rfl⟩
  .have bB:=Qi aG H (JA I _ (FA P)) ag n;refine aa ?_;exact⟨az,aV,t2,trivial,bA,by rw[Qk m q a.b6 s P,af];exact n,bB,O.mod bz S (by rw[bB.len,ag.len])⟩
  .have cr:jj m q a.b6 s=none:=Qj m q a.b6 s (e+1) (by rw[Qk m q a.b6 s P,af];exact n);refine aa ?_;exact⟨.inl ⟨by rw[cr];rfl,aV⟩,bA.ext bl λz ah x=>by have:=b.size;omega⟩
 have ct:e=a.b6.length:=AY
 rw[ct,AG9] at af;rw[af];have bw:=O.box;have dB:=ag.len;have h7:Ext w ae:=N.ext bl λz ah x=>by have:=b.size;omega
 have cu:=b.size;refine aa ?_;intro bx aB;have aC:=O.ext aB;have dC:=aC.box;replace bo:=aB.obj bo;clear bw;refine aa ?_;refine M_ (b7 m q) (by rw[aH]) AY ?_;refine aa ?_;refine _a (k:=b7 m q) aC.own AY λdF bC bD=>?_;have cv:=aC.mod (bC.mod rfl) bD (ZP ..);have cw:=cv.box;rw[ZP] at cw;refine aa ?_;refine⟨.inr ⟨_,some ⟨i,0,none⟩,J,rfl,by rw[ZP],by rw[ZP];exact aT.low cu bD⟩,bC.ext (h7.trans aB) (by show w.heap.size<=i;omega)⟩
end Go.Proofs.R
namespace ba
open Go Go.RowKit
def ey.low{α:Type}{C:A_->C_ B_->α->Prop}{e:F_}{sz base b:Nat}{w:A_}{v:B_}{xs:C_ α}(c:b<=base)(h:ey C e sz base w v xs):ey C e sz b w v xs:=by
 obtain⟨d,f,g,i⟩:=h.ex;exact⟨d,f,aT.low c g,λj k l=>(i j k l).mono λm _ a=>by
  rcases a with a | a
  .exact .inl a
  .exact .inr AY⟩
end ba
namespace Go.Proofs.R
open Go Go.RowKit ba o
def Az(w:A_)(cs:C_ B_)(x:jE):Prop := ∃a,cs=[.int .i64 x.cmd,.int .i64 x.eH,a]/\cl w a x.to
def sO(w:A_)(a:Addr)(x:jE):Prop := ∃b,fy w a [.int .i64 x.cmd,.int .i64 x.eH,b]/\cl w b x.to
instance aB1:Rel sO Az 3 where
 out h:=by
  obtain⟨v,I,U⟩:=h;exact⟨_,I,v,rfl,U⟩
 kx h k:=by
  obtain⟨v,rfl,k⟩:=k;exact⟨v,h,k⟩
 len h:=by obtain⟨v,rfl,_⟩:=h;rfl
 one h:=by obtain⟨v,rfl,h⟩:=h;simpa[Value.oneCell'] using h.one
 ext e h:=let ⟨v,I,U⟩:=h; ⟨v,I,U.ext Flat.ext e⟩
def Jm(w:A_)(cs:C_ B_)(x:jE):Prop := ∃a,cs=[.int .i64 x.cmd,.int .i64 x.eH,a]/\ft 0 w a x.to
def Yf(w:A_)(a:Addr)(x:jE):Prop := ∃b,fy w a [.int .i64 x.cmd,.int .i64 x.eH,b]/\ft 0 w b x.to
instance aB2:Rel Yf Jm 3 where
 out h:=by
  obtain⟨v,I,U⟩:=h;exact⟨_,I,v,rfl,U⟩
 kx h k:=by
  obtain⟨v,rfl,k⟩:=k;exact⟨v,h,k⟩
 len h:=by obtain⟨v,rfl,_⟩:=h;rfl
 one h:=by obtain⟨v,rfl,h⟩:=h;simpa[Value.oneCell'] using(ha h).one
 ext e h:=let ⟨v,I,U⟩:=h; ⟨v,I,aT.ext e U⟩
def UL{w w':A_}{v:B_}{l:C_ Int}(h:ft w.heap.size w' v l):ec w (λa=>ft 0 a v l) w':=λa b=>aT.low (AG6 _) (aT.mod h b λc d e=>by have:=(aT.lt h c d).1;omega)
theorem sO.ext{w w':A_}{a:Addr}{x:jE}(b:Ext w w')(h:sO w a x):sO w' a x :=
 let ⟨c,d,e⟩:=h; ⟨c,d.ext b,e.ext Flat.ext b⟩
abbrev Yg(w:A_)(v:B_)(l:C_ jE):Prop:=a6 3 sO w v l
def ag6(cs:C_ B_)(v:B_)(m:o.Model)(s:C_ Int)(w:A_)(h:oj w cs m)(aX:m.cB)(e:(o.check m).bK=0)(G:cl w v s)(r:o.Fits m s) :
  EL F.HS #[.agg cs.toArray,v] w λH ao=>ey Jm T.n 3 w.heap.size ao H (ek m s)/\Ext w ao:=by
 have l:=h;have I:=gA e;have aY:=I.HM;have cw:=Vu aY;obtain⟨cx,cy,cz,cB,cE,cF,cG,cI,cK,cL,cM,cN,cP,cQ,cS,cU,cV,cW,aq,cX,cY,c0,c1,c2,rfl,_,_,_,_,_,_,_,_,_,aZ,_⟩:=l.form;obtain⟨c3,c4,rfl,c5⟩:=G.form;refine bn E.HS ?_;refine aa ?_;intro S c8 db t ar;refine aa ?_;refine K_ 6 (o.refs m).length [1,2] (λv:ez=>[(5,.slice v.1 v.2.1 v.2.2)]) (none,0,0) (λa v au=>Ext S au/\ey Jm T.n 3 S.heap.size au (.slice v.1 v.2.1 v.2.2) (hi m s a)) aW aW ⟨Ext.refl _,ey.nil _ _ _ _ _⟩ ?_;rintro a v dc u dd ⟨g,c⟩;have x:=t.trans g;have av:=g.obj ar;have de:=UB m s a;obtain⟨df,di,a0,_⟩:=c.form;refine aa ?_;refine I_ (λa1=>?_) (λa1=>?_)
 .have U:a<(o.refs m).length:=AY
  obtain⟨V,n,p,i⟩:=F1 (m:=m) (ref:=a) ⟨e,AY,AY⟩;refine aa ?_;refine J_ (awy _ _ m s a V n p u (l.ext x) aX (G.ext Flat.ext x) r i) ?_;rintro H W ⟨a3,d⟩;have a5:=d.obj av;have dj:=x.trans d;rcases a3 with ⟨a7,rfl⟩ | ⟨f,dk,X,rfl,J⟩
  .refine aa ?_;exact⟨U,aV,v,⟨rfl,trivial⟩,g.trans d,by rw[HZ,i.off a7,AG5];exact c.ext d⟩
  obtain⟨a8,a9,rfl,_⟩:=J.form;have bb:=ha J;have Y:=UL J;have y:=c.ext d;have bf:=g.size;have bk:=d.size;refine aa ?_;intro Z dp dq z aw;have j:=y.ext z;have bl:=z.size;refine _A (x:=(⟨a,0,f⟩:jE)) (cs:=[.I a,.I 0,.slice a8 f.length a9]) j (g5 aw)
   (((ec.own (w1:=W) Y c AY).imp λw h=>⟨_,rfl,h⟩).ext z λk K e=>by have:=c.under AY k e;omega) rfl (by simp[Value.oneCell']) AY (by unfold maxLen;omega) AY λax ay A L=>?_
  have B:=j.h9 ((g.trans d).trans z) L (EM _);have bo:=t.trans B;have bp:=(Y.ext z AY).grown L λa e=>(c.lt a e).2;have bq:=B.size;have az:=B.obj ar;obtain⟨bt,bu,rfl,_⟩:=A.form;have bw:=ha bp.here;have dr:u.heap.size<=ay.heap.size:=by have:=L.size;omega
  clear av a5 aw j y Y L J bb;refine aa ?_;intro aB ab;have du:=ab.obj az;have aC:=bo.trans ab;refine aa ?_;refine J_ (Vi _ m a V n p aB (l.ext aC) i) ?_;rintro _ bx ⟨⟨bz,bA,rfl,bB,ae⟩,M⟩;have aD:=aC.trans M;refine⟨M,?_⟩;refine aa ?_;refine J_ (axG _ _ _ _ m.aA bx (ae.ext M) (aZ.ext aD)) ?_;rintro _ bC ⟨rfl,aE⟩;have aF:=aD.trans aE;have q:=(ab.trans M).trans aE;have bD:=q.obj az;have aG:=A.ext q;obtain⟨dv,bE⟩:∃bG,bG=o.ways (cT m n p) m.aA:=⟨_,rfl⟩;rw[<-bE];refine aa ?_;refine I_ (λC=>?_) (λC=>?_);rotate_left
  .refine aa ?_;exact⟨U,aV,(bt,_,bu),⟨rfl,trivial⟩,B.trans q,by rw[HZ,i.H6 X AY];exact aG⟩
  have aH:o.ways (cT m n p) m.aA=2:=AY
  obtain⟨b,aI,af⟩:=Pn aH;have bH:=aaE i r X;have bI:(o.chanOf m s b).length=1+gq m b:=pJ (by rw[r.len];exact mj af);refine aa ?_;refine J_ (Vi _ m a V n p bC (l.ext aF) i) ?_;rintro _ bJ ⟨⟨bz,bA,rfl,bB,ae⟩,N⟩;have bK:=aF.trans N;have bL:=N.obj bD;refine aa ?_;refine J_ (ahb _ _ _ bJ (ae.ext N)) ?_;rintro _ dw ⟨rfl,ag⟩;have bM:=bK.trans ag;have bN:=ag.obj bL;rw[aI];refine aa ?_;intro bO ah;have dx:=ah.obj bN;have ai:=bM.trans ah;refine aa ?_;refine J_ (Vn _ _ m s b bO (l.ext ai) I (G.ext Flat.ext ai) r.len af) ?_;rintro H bQ ⟨aJ,aj⟩;obtain⟨dy,dz,rfl,_⟩:=aJ.form;have bU:=ai.trans aj;have O:=((N.trans ag).trans ah).trans aj;refine⟨aj,?_⟩;refine aa ?_;refine J_ (Vz _ _ _ m f (o.chanOf m s b) b bQ (l.ext bU) I (bw.ext Flat.ext (q.trans O)) aJ bH af bI) ?_;rintro H bV ⟨aK,ak⟩;obtain⟨bW,bX,rfl,_⟩:=aK.form;have bY:=UL aK;have al:=aG.ext O;have dA:=ak.size;have dB:=(q.trans O).size;refine aa ?_;intro dC dF dG P b0;have dI:=P.size;have aL:=al.ext (ak.trans P);have dK:(hi m s a++[(⟨a,0,f⟩:jE)]).length<=2*a+1:=by rw[JM];simp only[List.length_cons,List.length_nil];omega
  have b1:o.lost m s f (cT m n p)=hQ f (bS m b) (o.chanOf m s b):=by unfold o.lost;rw[aI,AG2]
  refine _A (x:=(⟨a,1,hQ f (bS m b) (o.chanOf m s b)⟩:jE)) (cs:=[.I a,.I 1,.slice bW (hQ f (bS m b) (o.chanOf m s b)).length bX]) aL (g5 b0)
   (((ec.own (w1:=bV) bY al AY).imp λw h=>⟨_,rfl,h⟩).ext P λk K e=>by have:=al.under AY k e;omega) rfl (by simp[Value.oneCell']) AY (by unfold maxLen;omega) AY λax dL aP b3=>?_
  have b4:=aL.h9 (((B.trans (q.trans O)).trans ak).trans P) b3 (EM _);obtain⟨aQ,aR,rfl,_⟩:=aP.form;have b5:hi m s (a+1)=hi m s a++[(⟨a,0,f⟩:jE)]++[(⟨a,1,hQ f (bS m b) (o.chanOf m s b)⟩:jE)]:=by rw[HZ,i.H7 X aH,b1,Vh];rfl
  refine aa ?_;exact⟨U,aV,(aQ,_,aR),⟨rfl,trivial⟩,b4,by rw[b5];exact aP⟩
 .have b6:a=(o.refs m).length:=AY
  subst b6;obtain⟨b8,dM,b9⟩:=v;cases a0;refine aa ?_;refine I_ (λC=>?_) (λC=>?_)
  .have aS:hi m s (o.refs m).length=[]:=AF8 AY;have an:ek m s=hi m s (o.refs m).length++[⟨-1,0,s⟩]:=by unfold ek;rw[aS];rfl
   replace c:ey Jm T.n 3 S.heap.size u (.slice b8 (hi m s (o.refs m).length).length b9) (hi m s (o.refs m).length):=c;have dO:(hi m s (o.refs m).length).length=0:=by rw[aS];rfl
   have ca:=G.ext Flat.ext x;have bf:=g.size;refine aa ?_;intro W cb cc d ch;have y:ft u.heap.size W (.slice (some ⟨cb,0,none⟩) 0 0) []:=aT.empty cc ch;have bk:=d.size;have dP:cH m<=64:=ij I;have dQ:=r.len;refine aa ?_;refine _Z y (ca.ext Flat.ext d) (λ_=>rfl) j8 (by simp only[List.length_nil];omega) (by simp only[List.length_nil];unfold maxLen;omega) d.size λdR Z j cj=>?_;have dT:Ext u Z:=d.grown cj λk K=>(y.lt k K).1;rw[AH9] at j;obtain⟨cm,aq,rfl,_⟩:=j.form;have cp:=UL j;have cq:=c.ext dT;have bl:=dT.size;refine aa ?_;intro ay dV dW Q cr;have A:=cq.ext Q;have bq:=Q.size;refine _A (x:=(⟨-1,0,s⟩:jE)) (cs:=[.I (-1),.I 0,.slice cm s.length aq]) A (g5 cr)
    (((ec.own (w1:=Z) cp c AY).imp λw h=>⟨_,rfl,h⟩).ext Q λk K e=>by have:=c.under AY k e;omega) rfl (by simp[Value.oneCell']) AY (by unfold maxLen;omega) AY λax aB aU ct=>?_
   have cu:=A.h9 ((g.trans dT).trans Q) ct (EM _);obtain⟨aQ,aR,rfl,_⟩:=aU.form;refine aa ?_;exact⟨by rw[an];exact ey.low t.size aU,t.trans cu⟩
  .have an:ek m s=hi m s (o.refs m).length:=by
    unfold ek;split
    .rename_i cv;rw[cv] at C;simp at C
    .rfl
   refine aa ?_;exact⟨by rw[an];exact ey.low t.size c,x⟩
def awx(cs:C_ B_)(v:B_)(m:o.Model)(s:C_ Int)(w:A_)(h:oj w cs m)(c:m.cB)(d:(o.check m).bK=0)(e:cl w v s)(f:o.Fits m s) :
  EL F.HS #[.agg cs.toArray,v] w λb a=>ey Az T.n 3 w.heap.size a b (ek m s)/\Ext w a :=
 (ag6 cs v m s w h c d e f).mono λb a ⟨⟨g,i,j,k⟩,l⟩=>⟨⟨g,i,j,λn p q=>(k n p q).imp λ_ ⟨v,r,t⟩=>⟨v,r,ha t⟩⟩,l⟩
def ag5(cs:C_ B_)(v:B_)(m:o.Model)(s:C_ Int)(w:A_)(h:dU w cs m)(e:m.cB)(b:cl w v s)(a:hH m s) :
  EL F.NT #[.agg cs.toArray,v] w λu f=>Yg f u (ek m s)/\Ext w f:=by
 have x:=h;obtain⟨L,M,N,bg,O,bj,P,Q,S,U,rfl,_⟩:=h.form;obtain⟨V,W,rfl,X⟩:=b.form;have y:=gA a.1;refine bn E.NT ?_;refine aa ?_;intro z Y Z g i;refine aa ?_;refine J_ (Vl _ m z (x.ext g) e) ?_;rintro _ ab ⟨A,j⟩;replace i:=j.obj i;have B:=g.trans j;rcases A with ⟨c,rfl⟩ | ⟨c,ae,rfl,k⟩
 .exact absurd a.1 c
 have C:=k;obtain⟨af,ag,ah,ai,aj,ak,al,an,ao,aq,ar,au,av,aw,ax,ay,az,aB,aC,aD,aE,aF,aG,aH,rfl,_⟩:=k.form;refine aa ?_;intro G aI aJ l n;have p:=C.ext l;have q:=B.trans l;refine aa ?_;refine J_ (Vm _ _ m s G p y (b.ext Flat.ext q)) ?_;rintro _ H ⟨⟨aK,rfl,I⟩,d⟩;obtain rfl:=I.2 a.2;replace n:=d.obj n;have J:=p.ext d;have r:=q.trans d;refine aa ?_;refine J_ (awx _ _ m s H J e c (b.ext Flat.ext r) a.2) ?_;rintro _ aL ⟨t,K⟩;obtain⟨aP,aQ,rfl,_⟩:=t.form;refine aa ?_;exact⟨t.im,r.trans K⟩
end Go.Proofs.R
namespace o
open Go
def k3(m:Model)(s:C_ Int)(q:Nat)(c:ew):C_ (C_ Int):=match hs m s q c with
 | none=>[]
 | some a=>a :: if ways c m.aA=2 then [lost m s a c] else []
theorem am4(m:Model)(s:C_ Int)(q:Nat)(c:ew):(k3 m s q c).length<=2:=by
 unfold k3;cases hs m s q c with
 | none=>simp
 | some b=>by_cases a:ways c m.aA=2<;>simp[a]
theorem gf.ends{m:Model}{r q p k:Nat}(h:gf m r q p k)(s:C_ Int):(o.kh m s r).length=(k3 m s q (cT m p k)).length/\∀a (b:a<(o.kh m s r).length) (i:a<(k3 m s q (cT m p k)).length),(o.kh m s r)[a]=⟨r,a,(k3 m s q (cT m p k))[a]⟩:=by
 have d:=h.kh s;cases e:hs m s q (cT m p k) with
 | none =>
  rw[e] at d;have f:k3 m s q (cT m p k)=[]:=by unfold k3;rw[e]
  rw[d,f];exact⟨rfl,λa b=>absurd b (Od _)⟩
 | some c =>
  rw[e] at d;by_cases hw:ways (cT m p k) m.aA=2
  .have f:k3 m s q (cT m p k)=[c,lost m s c (cT m p k)]:=by unfold k3;rw[e];simp[hw]
   have g:o.kh m s r=[⟨r,0,c⟩,⟨r,1,lost m s c (cT m p k)⟩]:=by rw[d];simp[hw]
   rw[f,g];refine⟨rfl,λa b i=>?_⟩
   match a,b with
   | 0,_=>rfl
   | 1,_=>rfl
   | a+2,b=>exact absurd b Ah
  .have f:k3 m s q (cT m p k)=[c]:=by unfold k3;rw[e];simp[hw]
   have g:o.kh m s r=[⟨r,0,c⟩]:=by rw[d];simp[hw]
   rw[f,g];refine⟨rfl,λa b i=>?_⟩
   match a,b with
   | 0,_=>rfl
   | a+1,b=>exact absurd b Ah
end o
namespace Go.Proofs.R
open Go Go.RowKit ba o
structure yI(base:Nat)(w:World)(u:Value)(bL:List (hz 1))(l:List (List Int)):Prop where
 len:bL.length=l.length
 row:og T.b 1 base w u bL
 at_:∀i (I:i<bL.length) (U:i<l.length),∃af c,bL[i].1=[.slice af l[i].length c]/\ft base w (.slice af l[i].length c) l[i]
theorem yI.ext{base:Nat}{w w':A_}{a:B_}{b:C_ (hz 1)}{l:C_ (C_ Int)}(c:Ext w w')(h:yI base w a b l):yI base w' a b l :=
 ⟨h.len,h.row.ext c,λd e f=>let ⟨g,i,j,k⟩:=h.at_ d e f; ⟨g,i,j,k.ext c⟩⟩
def yI.mod{base:Nat}{w w':A_}{f:B_}{g:C_ (hz 1)}{l:C_ (C_ Int)}{A:Nat->Prop}(h:yI base w f g l)(i:Mod A w w')(j:∀a (b:Array B_) (c:F_),base<=a->w.heap[a]? = some (.cells b c)->c=T.b\/c=T.a->¬A a):yI base w' f g l :=
 ⟨h.len,aT.mod h.row i λa k=>let ⟨b,d⟩:=aT.b0 h.row a k;j a b _ (aT.lt h.row a k).1 d (.inl rfl),λn p q=>let ⟨r,s,c,a⟩:=h.at_ n p q; ⟨r,s,c,aT.mod a i λe m=>let ⟨b,d⟩:=aT.b0 a e m;j e b _ (aT.lt a e m).1 d (.inr rfl)⟩⟩
def an1(c:Nat)(i j:B_)(m:o.Model)(s t:C_ Int)(ref:Int)(q p k:Nat)(w:A_)(l:ql w c m)(n:cl w i s)(r:cl w j t)(ae:s.length=cH m)(af:t.length=cH m)(u:gf m ref q p k)(K:o.ways (cT m p k) m.aA=2) :
  EL F.f6 #[.pointer (some ⟨c,0,none⟩),i,j,.I ref] w λe v=>ft w.heap.size v e (o.lost m s t (cT m p k))/\Ext w v:=by
 obtain⟨a,x,y⟩:=Pn K;have z:=gA u.ok;have ag:=mj y;have ah:cH m<=64:=ij z;have ai:(o.chanOf m s a).length=1+gq m a:=pJ AY;obtain⟨aj,bg,rfl,_⟩:=n.form;obtain⟨ak,bj,rfl,_⟩:=r.form;refine bn E.f6 ?_;refine aa ?_;refine J_ (Rr c m ref q p k w l u) ?_;rintro _ L ⟨⟨al,an,ao,aq,rfl,ar,M⟩,A⟩;refine aa ?_;refine J_ (aaJ (cT m p k) _ _ L (M.ext A)) ?_;rintro _ N ⟨rfl,O⟩;rw[x];have d:=A.trans O;refine aa ?_;refine J_ (HE _ t N (r.ext Flat.ext d) (by unfold eO;omega)) ?_;rintro e P ⟨f,Q⟩;have B:=d.trans Q;obtain⟨S,au,rfl,_⟩:=(ha f).form;obtain⟨b,rfl⟩:∃b,S=some ⟨b,0,none⟩:=by
  rcases f.2 with ⟨U,av⟩ | ⟨b,cap,cur,g,_⟩
  .exfalso;injection U with _ aw _;omega
  .injection g with g _ _;exact⟨b,g⟩
 refine aa ?_;refine J_ (Rq c m a P (l.ext B) z y) ?_;rintro _ ax ⟨rfl,C⟩;have V:=B.trans C;have W:=f.ext C;refine aa ?_;intro ay G;have H:=V.trans G;have h:=W.ext G;have X:=n.ext Flat.ext H;refine aa ?_;refine _e (k:=.i64) (k':=.i64) (bS m a) (bS m a+(1+gq m a)) (ha h) (by simp[dE,bR]) (by simp[dE,bR]) AY AY λaz aB Y _=>?_;refine aa ?_;refine _X (k:=.i64) (k':=.i64) (bS m a) (bS m a+(1+gq m a)) X (by simp[dE,bR]) (by simp[dE,bR]) AY AY λaC aD I=>?_;rw[QN] at I;refine aa ?_;refine _g (p:=bS m a) h I (by simp only[dE,bR];rfl) (by simp only[dE,bR];rfl) Y AY Cl Cl λe aE Z J=>?_;rw[IA AY] at J;have aF:=(aT.lt h b rfl).1
 have:=d.size
 refine aa ?_;refine⟨?_,Z.ext H AY⟩;have ab:o.lost m s t (cT m p k)=hQ t (bS m a) (o.chanOf m s a):=by unfold o.lost;rw[x,AG2]
 rw[ab];exact aT.low d.size J
theorem abP(f:Nat)(v:B_)(m:o.Model)(s:C_ Int)(ref:Int)(q p k:Nat)(w:A_)(K:ql w f m)(y:cl w v s)(z:o.Fits m s)(g:gf m ref q p k) :
  EL F.zo #[.pointer (some ⟨f,0,none⟩),v,.I ref] w λL M=>(∃ae:C_ (hz 1),yI w.heap.size M L ae (k3 m s q (cT m p k)))/\Ext w M:=by
 have a8:=gA g.ok;obtain⟨a9,bb,rfl,bf⟩:=y.form;have A:=K;obtain⟨bk,d,N⟩:=K;obtain⟨bl,bo,bp,bq,bt,bu,bw,bx,bz,bA,bB,bC,bD,bg,bE,bj,bG,bH,bI,bJ,bK,bL,bM,bN,rfl,_,_,af,ag,ah,ai,aj,ak,B,b,al,an,ao⟩:=N.form;clear af ag ah ai aj ak B al an ao N;refine bn E.zo ?_;refine aa ?_;refine J_ (anN f _ m s ref q p k w A y z g) ?_;rintro _ bO ⟨aq,l⟩;have bQ:=l.size;rcases aq with ⟨ar,rfl⟩ | ⟨e,au,av,C,rfl,aw⟩
 .have c:k3 m s q (cT m p k)=[]:=by unfold k3;rw[ar]
  refine aa ?_;exact⟨⟨[],⟨by rw[c];rfl,aT.nil _ _ _ _ _,λa n=>absurd n (Od _)⟩⟩,l⟩
 have ax:=aaE g z C;replace d:=l.obj d;refine aa ?_;intro ay O bU r P;have az:=l.trans r;replace d:=r.obj d;have bV:=r.size;have aB:og T.b 1 w.heap.size ay (.slice (some ⟨O,0,none⟩) 1 1) [(⟨[.slice au e.length av],rfl,by simp[Value.oneCell']⟩:hz 1)]:=aT.y5 _ P AY rfl iZ rfl (by show 1<=maxLen;unfold maxLen;decide);clear P;refine aa ?_;intro aC t;replace d:=t.obj d;have aD:=aB.ext t;have Q:=az.trans t;refine aa ?_;refine J_ (Rr f m ref q p k aC (A.ext Q) g) ?_;rintro _ aE ⟨⟨bW,bX,bY,b0,rfl,b1,aF⟩,h⟩;refine⟨h,?_⟩;have S:=Q.trans h;refine aa ?_;refine J_ (ai6 (cT m p k) _ _ _ m.aA aE (aF.ext h) (b.ext S)) ?_;rintro _ aG ⟨rfl,G⟩;have i:=S.trans G;have U:=aD.ext (h.trans G);have H:=((aw.ext r).ext t).ext (h.trans G);obtain⟨b3,aH⟩:∃aI,aI=o.ways (cT m p k) m.aA:=⟨_,rfl⟩;have aJ:=azf (cT m p k) m.aA;rw[<-aH] at aJ ⊢;refine aa ?_;refine I_ (λaK=>?_) (λaK=>?_);rotate_left
 .have c:k3 m s q (cT m p k)=[e]:=by unfold k3;rw[C];simp only;rw[if_neg AY]
  refine aa ?_;refine⟨⟨_,⟨by rw[c];rfl,U,λa j aL=>?_⟩⟩,i⟩
  have:a=0:=by simp at j;omega
  subst this;simp only[c,List.getElem_cons_zero];exact⟨_,_,rfl,H⟩
 have V:o.ways (cT m p k) m.aA=2:=AY
 have c:k3 m s q (cT m p k)=[e,o.lost m s e (cT m p k)]:=by unfold k3;rw[C];simp only;rw[if_pos V]
 refine aa ?_;refine J_ (an1 f _ _ m s e ref q p k aG (A.ext i) (y.ext Flat.ext i) (ha H) z.len ax g V) ?_;rintro L b4 ⟨W,u⟩;obtain⟨aP,aQ,rfl,_⟩:=(ha W).form;have aR:=i.trans u;have aS:=i.size;have b5:=u.size;refine aa ?_;intro aU b6 b8 x aX;have X:=aR.trans x;have I:=U.ext (u.trans x);refine T_ (enc:=kE) (y:=(⟨[.slice aP (o.lost m s e (cT m p k)).length aQ],rfl,by simp[Value.oneCell']⟩:hz 1)) I aX rfl iZ vD Ah (by unfold maxLen;simp) (by have:=X.size;omega) λb9 ca cb aY aZ Y=>?_;refine aa ?_;have a0:∀a,(Value.slice (some ⟨O,0,none⟩) 1 1).ownBlock=some a->w.heap.size<=a:=λa a1=>(aT.lt I a a1).1;have Z:∀{v:B_} {ab:C_ Int},ft w.heap.size aU v ab->ft w.heap.size aY v ab:=λn=>aT.mod n (Mod.grown Y λk J=>J) λk J a3=>by
  obtain⟨cc,B⟩:=aT.b0 n k J;obtain⟨ch,b⟩:=aT.b0 I k a3;rw[B] at b;injection b with b
  injection b with _ b
  revert b;decide
 have a5:=Z (H.ext (u.trans x));have a7:=Z ((aT.low aS W).ext x);refine⟨⟨_,⟨by rw[c];rfl,aZ,λa j aL=>?_⟩⟩,X.grown Y a0⟩
 match a,j with
 | 0,_ =>
  simp only[c,List.getElem_cons_zero];exact⟨_,_,rfl,a5⟩
 | 1,_ =>
  simp only[c,List.getElem_cons_succ,List.getElem_cons_zero];exact⟨_,_,rfl,a7⟩
 | a+2,j=>exact absurd j Ah
def an2(J:Nat)(v:B_)(m:o.Model)(s:C_ Int)(w:A_)(B:ql w J m)(k:(o.check m).bK=0)(K:cl w v s)(ab:o.Fits m s) :
  EL F.dW #[.pointer (some ⟨J,0,none⟩),v] w λL ae=>ey Az T.n 3 w.heap.size ae L (ek m s)/\Ext w ae:=by
 have af:=gA k;have bB:=Vu af.HM;obtain⟨bC,bD,rfl,bE⟩:=K.form;have au:=B;obtain⟨bG,av,ag⟩:=B;obtain⟨bH,bI,bJ,bK,bL,bM,bN,bO,bQ,bU,bV,bW,bX,bg,bY,bj,b0,b1,b3,b4,b5,b6,b8,b9,rfl,_,_,aw,ax,ay,az,aB,aC,r,t,u,aD,aE⟩:=ag.form;clear aw ax ay az aB aC r t u aD aE ag;refine bn E.dW ?_;refine aa ?_;refine K_ 14 (o.refs m).length [0,1,13] (λv:ez=>[(5,.slice v.1 v.2.1 v.2.2)]) (none,0,0) (λa v g=>Ext w g/\ey Az T.n 3 w.heap.size g (.slice v.1 v.2.1 v.2.2) (hi m s a)) aW aW ⟨Ext.refl _,ey.nil _ _ _ _ _⟩ ?_;clear av;rintro a ah aF C ca ⟨f,e⟩;have cb:=UB m s a;refine aa ?_;refine I_ (λaG=>?_) (λaG=>?_)
 .have aH:a<(o.refs m).length:=AY
  obtain⟨h,i,j,ai⟩:=F1 (m:=m) (ref:=a) ⟨k,AY,AY⟩;obtain⟨cc,aI⟩:=ai.ends s;have ch:=am4 m s h (cT m i j);refine aa ?_;refine J_ (abP J _ m s a h i j C (au.ext f) (K.ext Flat.ext f) ab ai) ?_;rintro L cj ⟨⟨l,G⟩,M⟩;have aJ:=f.size;have cm:=M.size;have cp:=G.len;obtain⟨aK,aL,rfl,_⟩:=(aT.im iZ G.row).form;have aj:=e.ext M;have aP:=f.trans M;refine aa ?_;refine K_ 22 l.length [0,1,6,13,14,20,21] (λv:ez=>[(5,.slice v.1 v.2.1 v.2.2)]) ah (λb v g=>Ext w g/\yI C.heap.size g (.slice aK l.length aL) l (k3 m s h (cT m i j))/\ey Az T.n 3 w.heap.size g (.slice v.1 v.2.1 v.2.2) (hi m s a++(kh m s a).take b)) aW aW ⟨aP,G,by simpa using aj⟩ ?_;clear G aj e;rintro b v aF N cq ⟨O,P,n⟩;have ak:=aT.im iZ P.row;refine aa ?_;refine I_ (λy=>?_) (λy=>?_);rotate_left
  .have cr:b=l.length:=AY
   rw[IA AY,<-HZ] at n;refine aa ?_;exact⟨aH,aV,v,⟨aV,trivial⟩,O,n⟩
  have Q:b<l.length:=AY
  obtain⟨aQ,rfl⟩:=ak.addr;obtain⟨S,U,aR,aS⟩:=P.at_ b Q AY;have aU:N.cell? (aQ.add (b*1))=some (.slice S (k3 m s h (cT m i j))[b].length U):=by
   have:=ak.at b Q 0 (.slice S (k3 m s h (cT m i j))[b].length U) (by show(l[b].1)[0]? = _;rw[aR];rfl)
   rwa[add_zero] at this
  refine aa ?_;refine L_ aU ?_;refine aa ?_;intro V aX aY c W;have X:=n.ext c;have Y:=aS.ext c;have aZ:=P.ext c;have a0:=O.size;have a1:=c.size;have ct:(hi m s a++(kh m s a).take b).length<=2*a+2:=by rw[JM,IP];omega
  have a3:∀d,(Value.slice v.1 v.2.1 v.2.2).ownBlock=some d->∃x,V.heap[d]? = some (.cells x T.n):=λd z=>by
   obtain⟨cu,_,a5,_⟩:=X.ex;exact aT.b0 a5 d z
  have al:∀(a:Nat) (x:Array B_) (p:F_),V.heap[a]? = some (.cells x p)->p=T.b\/p=T.a->(Value.slice v.1 v.2.1 v.2.2).ownBlock=some a->False:=λa x p r t u=>by
   obtain⟨cv,q⟩:=a3 a u;rw[r] at q;injection q with q
   injection q with _ q
   subst q
   revert t;decide
  refine _A (x:=(⟨a,b,(k3 m s h (cT m i j))[b]⟩:jE)) (cs:=[.I a,.I b,.slice S (k3 m s h (cT m i j))[b].length U]) X (g5 W)
   (λg B=>⟨_,rfl,ha (aT.mod Y B λd z H=>by
    obtain⟨cw,a7⟩:=aT.b0 Y d z;rcases H with H | H
    .exact al d _ _ a7 (.inr rfl) H
    .have:=(aT.lt Y d z).1
     omega)⟩) rfl (by simp[Value.oneCell']) AY (by unfold maxLen;omega) AY λa8 a9 A I=>?_
  have ko:=X.h9 (O.trans c) I (EM _);have bb:=aZ.mod (Mod.grown I λa k=>k) λa x p _ r t u=>al a x p r t u;obtain⟨an,ao,rfl,_⟩:=A.form;refine aa ?_;refine⟨Q,aV,(an,_,ao),⟨rfl,trivial⟩,ko,bb,?_⟩;rw[Oi AY,<-Vh,aI b AY AY];exact A
 .have bf:a=(o.refs m).length:=AY
  subst bf;obtain⟨cx,cy,bk,_⟩:=e.form;obtain⟨bl,cz,bo⟩:=ah;cases bk;refine aa ?_;refine I_ (λy=>?_) (λy=>?_)
  .have aq:hi m s (o.refs m).length=[]:=AF8 AY;have Z:ek m s=hi m s (o.refs m).length++[⟨-1,0,s⟩]:=by unfold ek;rw[aq];rfl
   replace e:ey Az T.n 3 w.heap.size C (.slice bl (hi m s (o.refs m).length).length bo) (hi m s (o.refs m).length):=e;have cB:(hi m s (o.refs m).length).length=0:=by rw[aq];rfl
   have bp:=K.ext Flat.ext f;have aJ:=f.size;have cE:cH m<=64:=ij af;have cF:=ab.len;refine aa ?_;refine J_ (HE _ s C bp (by unfold eO;omega)) ?_;rintro L N ⟨n,dT⟩;obtain⟨bq,bt,rfl,_⟩:=(ha n).form;have bu:=aT.new (enc:=da) (λ_=>rfl) n;have bw:=e.ext dT;have a0:=dT.size;refine aa ?_;intro V aX aY c W;have ar:=bw.ext c;have a1:=c.size;refine _A (x:=(⟨-1,0,s⟩:jE)) (cs:=[.I (-1),.I 0,.slice bq s.length bt]) ar (g5 W)
    (((ec.own (w1:=N) bu e AY).imp λw bx=>⟨_,rfl,bx⟩).ext c λd z k=>by have:=e.under AY d k;omega) rfl (by simp[Value.oneCell']) AY (by unfold maxLen;omega) AY λa8 a9 A I=>?_
   have bz:=ar.h9 ((f.trans dT).trans c) I (EM _);obtain⟨an,ao,rfl,_⟩:=A.form;refine aa ?_;exact⟨by rw[Z];exact A,bz⟩
  .have Z:ek m s=hi m s (o.refs m).length:=by
    unfold ek;split
    .rename_i bA;rw[bA] at y;simp at y
    .rfl
   refine aa ?_;exact⟨by rw[Z];exact e,f⟩
theorem abz(cs:C_ B_)(v:B_)(m:o.Model)(s:C_ Int)(w:A_)(h:dU w cs m)(e:m.cB)(f:gi w)(g:cl w v s) :
  EL F.cz #[.agg cs.toArray,v] w λi j=>((hH m s/\∃b,i = .tuple #[.pointer (some ⟨b,0,none⟩),.bool true]/\ql j b m)\/(¬hH m s/\∃u,i = .tuple #[.pointer u,.bool false]))/\Ext w j:=by
 have k:=h;obtain⟨C,G,H,bg,I,bj,J,K,L,M,rfl,_⟩:=h.form;obtain⟨N,O,rfl,_⟩:=g.form;refine bn E.cz ?_;refine aa ?_;intro x P Q c l;refine aa ?_;refine J_ (an3 _ m x (k.ext c) e (f.ext c)) ?_;rintro _ y ⟨z,n⟩;replace l:=n.obj l;have a:=c.trans n;rcases z with ⟨p,rfl⟩ | ⟨p,b,rfl,S,A⟩
 .refine aa ?_;exact⟨.inr ⟨λd=>p d.1,_,aV⟩,a⟩
 refine aa ?_;refine J_ (VX _ m _ s y (k.ext a) e (f.ext a) (g.ext Flat.ext a)) ?_;rintro _ U ⟨⟨B,rfl,q⟩,r⟩;have t:=a.trans r;cases B with
 | false =>
  refine aa ?_;exact⟨.inr ⟨λd=>(by have:=q.2 d;cases this),_,aV⟩,t⟩
 | true =>
  refine aa ?_;exact⟨.inl ⟨q.1 rfl,b,aV,A.ext r⟩,t⟩
def anS(b:Nat)(m:o.Model)(ref:Int)(w:A_)(e:ql w b m) :
  EL F.ks #[.pointer (some ⟨b,0,none⟩),.I ref] w λf g=>(∃c:Bool,f = .bool c/\(c=true↔0<=ref/\ref<(o.refs m).length))/\Ext w g:=by
 obtain⟨i,j,d⟩:=e;obtain⟨k,l,n,p,q,r,s,t,u,v,x,y,z,bg,A,bj,B,C,G,H,I,J,K,L,rfl,_⟩:=d.form;clear d;refine bn E.ks ?_;refine aa ?_;refine I_ (λh=>?_) (λh=>?_)
 .refine aa ?_;exact⟨⟨_,aV,by rw[decide_eq_true_eq];exact⟨λa=>⟨AY,a⟩,λa=>a.2⟩⟩,Ext.refl _⟩
 .refine aa ?_;exact⟨⟨false,aV,by simp only[Bool.false_eq_true,false_iff];omega⟩,Ext.refl _⟩
def anJ(cs:C_ B_)(v:B_)(m:o.Model)(s:C_ Int)(w:A_)(h:dU w cs m)(i:m.cB)(j:gi w)(d:cl w v s) :
  EL F.Ki #[.agg cs.toArray,v] w λe f=>((hH m s/\ey Az T.n 3 w.heap.size f e (ek m s))\/(¬hH m s/\e = .slice none 0 0))/\Ext w f:=by
 have k:=h;obtain⟨x,y,z,bg,A,bj,B,C,G,H,rfl,_⟩:=h.form;obtain⟨I,J,rfl,_⟩:=d.form;refine bn E.Ki ?_;refine aa ?_;intro l K L b M;refine aa ?_;refine J_ (abz _ _ m s l (k.ext b) i (j.ext b) (d.ext Flat.ext b)) ?_;rintro _ n ⟨p,q⟩;have c:=b.trans q;rcases p with ⟨a,r,rfl,t⟩ | ⟨a,N,rfl⟩
 rotate_left
 .refine aa ?_;exact⟨.inr ⟨a,aV⟩,c⟩
 refine aa ?_;refine J_ (an2 r _ m s n t a.1 (d.ext Flat.ext c) a.2) ?_;rintro e O ⟨g,u⟩;obtain⟨P,Q,rfl,_⟩:=g.form;refine aa ?_;exact⟨.inl ⟨a,ey.low c.size g⟩,c.trans u⟩
end Go.Proofs.R