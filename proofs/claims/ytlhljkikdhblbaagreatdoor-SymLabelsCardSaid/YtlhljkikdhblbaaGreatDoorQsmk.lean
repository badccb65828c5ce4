/- Parts. -/
import Derived.Test.YtlhljkikdhblbaaGreatDoorQsmj
import Derived.Defers
import Derived.Recover
set_option linter.all false
set_option maxRecDepth 100000
set_option maxHeartbeats 16000000
namespace Go.Proofs.R
open Go Go.RowKit ba o
def kX.Wq{w0 w w' d:A_}{b c k:Nat}{cs:C_ B_}{e:C_ ByteArray}(h:kX w0 w b c cs w' e)(f:w0.heap.size<=w.heap.size)(a:dX k w' d)(g:w.heap.size<=k)(i:c≠k)(j:b≠k):kX w0 w b c cs d e :=
 ⟨a.ext h.ext (Ug f g),h.mod.then (a.mod (A:=λl=>l=k) rfl) λn p m=>absurd m AY,a.obj h.box i,h.set.wr a j,h.low,h.ne⟩
def av0{w0:A_}(cs:C_ B_)(m:o.Model)(g:Nat)(w:A_)(h:dU w0 cs m)(ai:m.cB)(av:Ext w0 w)(a3:w0.heap.size<=g)(a5:gi w0)(a7:(o.data m).bK=0)(O:gp w g (oK m m.aA.length)) :
  rX Tryz.prog F.nK #[.agg cs.toArray,.map (some g)] w (λ_ c=>(nw m).bK=0/\Ext w0 c/\Mod (λa=>a=g) w c/\gp c g (jV m m.procs.length))
   (λq c=>(nw m).bK≠0/\q=yy (nw m)/\Ext w0 c/\Mod (λa=>a=g) w c):=by
 have aw:=h;obtain⟨cm,cp,cq,bg,cr,bj,ct,cu,cv,cw,rfl,cx,cy,cz,P,cB,cE,cF,cG,cI,cK⟩:=h.form;have aj:=av.size;refine _q kv E.nK CZ (args:=[_,_]) (Nat.le_of_ble_eq_true rfl) ?_;dsimp only[C.nK];refine om ?_;refine ad ?_;intro a8 G cL Q e;have v:kX w0 w g G _ a8 (oK m m.aA.length):=⟨av.trans Q,Q.mod,e,O.ext Q,a3,by have:=O.lt;omega⟩;have cM:=O.lt;have cN:=cf e;clear O e;refine ad ?_;refine _w λa9 u cP ax ay=>?_;replace v:=v.then ax;have r:gp a9 u []:=gp.empty ay;have cQ:=Q.size;have cS:=r.lt;clear ay;refine ad ?_;refine AC1 (b:=g) rfl (k:=T.l) (e:=T.oo) Cl v.set λcU bb bf cV az x=>?_;replace v:=v.then az;replace r:=r.ext az;have cW:=ax.size;have cX:=x.lt;refine ad ?_;refine _W [1,2,4,20] (λ_:C_ ByteArray×Nat=>[]) ([],bf) (λj c=>kX w0 w g G _ c (oK m m.aA.length)/\gp c u j.1/\∃aB,oS c bb g (oK m m.aA.length) j.1 j.2 aB) (λj=>j.2) aW ⟨v,r,_,x⟩ ?_;clear v r x;rintro⟨D,cY⟩ c0 bk ⟨S,r,aB,x⟩;have e:=S.box;refine ad ?_;refine AC2 rfl x (λaC=>?_) (λbl bo bp c1 bq aD aE=>?_);rotate_left
 .have s:=S.Wq aj aD AY AY AY;have bt:=r.wr aD AY;refine ad ?_;refine AC3 rfl aE ?_;refine ad ?_;refine _z bt λak aF bu=>?_;have t:=s.Wq aj aF AY AY AY;have bw:=aE.wr aF AY AY;refine ad ?_;exact⟨(D++[bl],bp),trivial,⟨t,bu,_,bw⟩,bq⟩
 have b:gp bk u (jV m 0):=r.jW λj=>by
  have bx:=x.sub;simp only[jV,z5,List.take_zero,List.map_nil,List.append_nil];exact⟨λal=>bx j al,λal=>aC j al⟩
 clear r x aC;refine ad ?_;refine K_ 30 m.procs.length [1,2,4,28,29] (λ_:Unit=>[]) () (λa _ c=>kX w0 w g G _ c (oK m m.aA.length)/\gp c u (jV m a)) aW aW ⟨S,b⟩ ?_;clear e S b;rintro a _ c2 bo bz ⟨s,b⟩;have e:=s.box;have aG:=s.ext;refine ad ?_;apply I_<;>intro bA
 .have k:a<m.procs.length:=AY
  obtain⟨bB,rfl⟩:=P.addr;obtain⟨_,bC,dN,y,H,U⟩:=P.at a k;obtain⟨bD,bE,rfl,bG⟩:=H.form;obtain⟨bH,bI,rfl,bJ⟩:=U.form;replace y:=y.ext aG;refine ad ?_;intro ak c3 c4 aH c5;have t:=s.then aH;replace b:=b.ext aH;refine ad ?_;refine _z b λI V bK=>?_;have i:=t.Wq aj V AY AY AY;refine ad ?_;exact⟨k,aV,(),trivial,i,by simp only[jV,z5];rw[EU (λj:ed=>j.name) _ k,<-Vh];exact bK⟩
 have aI:∀{c},gp c u (jV m a)->gp c u (jV m m.procs.length):=λh=>h.jW λj=>by
  simp only[jV,z5];rw[IA AY,IA (EM _)]
 replace b:=aI b;clear aI;replace s:=s.jW (show _=jV m 0 by simp[jV]);refine ad ?_;refine K_ 41 m.procs.length [1,2,4,39,40] (λ_:Unit=>[]) () (λa _ c=>kX w0 w g G _ c (jV m a)/\gp c u (jV m m.procs.length)/\∀d,d<a->(jn m d).1=0) aW aW ⟨s,b,λd h=>absurd h (Od _)⟩ ?_;clear e aG s b;rintro a _ c8 ak bz ⟨t,b,J⟩;have e:=t.box;have aJ:=t.ext;have db:=t.mod.size;refine ad ?_;apply I_<;>intro bA
 .have k:a<m.procs.length:=AY
  obtain⟨bB,rfl⟩:=P.addr;obtain⟨bL,bC,dN,y,H,U⟩:=P.at a k;obtain⟨bD,bE,rfl,bG⟩:=H.form;obtain⟨bH,bI,rfl,bJ⟩:=U.form;have W:=ai.proc _ (FA k);have f:=Ri k;replace y:=y.ext aJ;refine ad ?_;intro dc dd bM aK bN;refine eA ?_;intro I V l;have X:=V.ext aK bM;have i:=t.then X;replace b:=b.ext X;replace e:=i.box;have de:=cf l;have df:=b.lt;have K:=i.ext;clear bN aK V;refine ad ?_;apply I_<;>intro bO
  .have bQ:6<=a:=AY
   rw[if_pos bQ] at f;have n:=Ih k J (by rw[f];decide);rw[f] at n;refine ad ?_;refine U_ (sG 11 4 a 0 I) ?_ ?_
   .rintro _ _ ⟨z,_⟩;exact absurd z Ae
   .rintro q _ ⟨_,rfl,rfl⟩;refine ad ?_;rw[n];exact⟨(show(11:Int)≠0 by decide),aV,K,i.mod⟩
  rw[if_neg AY] at f;refine ad ?_;intro bU A;replace e:=A.obj e;replace l:=A.obj l;refine ad ?_;refine J_ (ah0 _ m a bU (aw.ext (K.trans A)) ai) ?_;rintro _ bV ⟨⟨di,rfl,aL⟩,L⟩;refine⟨L,?_⟩;have an:=aL.here;obtain⟨dj,dk,dp,dq,dr,du,dv,dw,dx,dy,rfl,_⟩:=an.form;refine ad ?_;refine J_ (avE m.procs[a] _ _ (hS m a) bV (a5.ext (K.trans (A.trans L))) ⟨bL,_,_,rfl,H.ext (K.trans (A.trans L)),U.ext (K.trans (A.trans L))⟩ an (ai.hS _) W) ?_;rintro _ bW ⟨rfl,aP⟩;have aQ:=(A.trans L).trans aP;have B:=i.then aQ;replace b:=b.ext aQ;replace e:=B.box;replace l:=(L.trans aP).obj l;have dz:=cf l;have dA:=b.lt;clear an aL i K;have ao:=B.ext;have dB:=agN m.procs[a] (hS m a) 140737488351232 λq bX=>by have:=(W.cmd q bX).b6;unfold eO at this;omega
  have dC:m.procs[a].vars.length<=140737488351232:=by have:=W.vars;unfold eO at this;omega
  have dF:m.procs[a].cP.length<=140737488351232:=by have:=W.cP;unfold eO at this;omega
  refine ad ?_;refine U_ (sG (iB m.procs[a] (hS m a)).2.2 4 a (16*(iB m.procs[a] (hS m a)).1+(iB m.procs[a] (hS m a)).2.1) bW) ?_ ?_;rotate_left
  .rintro q _ ⟨z,rfl,rfl⟩;rw[if_pos z] at f;have n:=Ih k J (by rw[f];exact z);rw[f] at n;refine ad ?_;rw[n];exact⟨z,aV,ao,B.mod⟩
  rintro _ bY ⟨z,rfl⟩;rw[if_neg (by simpa using z)] at f;refine ad ?_;refine U_ (O7 g (jV m a) m.procs[a].name 4 a bY B.set) ?_ ?_;rotate_left
  .rintro q _ ⟨Y,rfl,rfl⟩;rw[if_pos Y] at f;have n:=Ih k J (by rw[f];decide);rw[f] at n;refine ad ?_;rw[n];exact⟨(show(7:Int)≠0 by decide),aV,ao,B.mod⟩
  rintro _ aR ⟨Y,Z,b0⟩;rw[if_neg Y] at f;have ab:kX w0 w g G _ aR (jV m (a+1)):=(B.wr Z b0).jW (by simp only[jV,z5];rw[EU (λj:ed=>j.name) _ k,Vh]);replace b:=b.wr Z AY;replace e:=ab.box;replace l:=Z.obj l AY;have b1:=ab.ext;have dG:=Z.size;clear B ao;refine ad ?_;refine K_ 74 m.procs[a].vars.length [1,2,4,8,9,39,40,41,72,73] (λ_:Unit=>[]) () (λd _ c=>kX w0 w g G _ c (jV m (a+1))/\gp c u (jV m m.procs.length)/\Ext aR c/\∀p,p<d->r6 m m.procs[a] p=0) aW aW ⟨ab,b,Ext.refl _,λd h=>absurd h (Od _)⟩ ?_;have b3:=l;clear ab b e l b1;rintro d _ dI dK ae ⟨af,b,aS,aq⟩;have e:=af.box;have l:=aS.obj b3;have b4:=af.ext;refine ad ?_;apply I_<;>intro b5
  .have ag:d<m.procs[a].vars.length:=AY
   obtain⟨dL,rfl⟩:=H.addr;have dM:=((H.at d ag).cells).ext b4;have aU:=Er (f:=λj:o.Var=>j.name) ag;refine ad ?_;intro dO dP b6 aX b8;refine eA ?_;intro b9 aY dQ;have ar:=aY.ext aX b6;have ah:=af.then ar;replace b:=b.ext ar;replace e:=ah.box;clear b8 aX aY;refine ad ?_;refine AA4 b ?_;refine ad ?_;apply I_<;>intro aZ
   .have a0:r6 m m.procs[a] d=7:=by unfold r6;rw[aU,if_pos aZ]
    rw[j9 ag aq (by rw[a0];decide),a0,if_pos (show(7:Int)≠0 by decide)] at f;have n:=Ih k J (by rw[f];exact(show(7:Int)≠0 by decide));rw[f] at n;refine ad ?_;refine U_ (sG 7 4 a (16+d) b9) ?_ ?_
    .rintro _ _ ⟨N,_⟩;exact absurd N Ae
    .rintro q _ ⟨_,rfl,rfl⟩;refine ad ?_;rw[n];exact⟨(show(7:Int)≠0 by decide),aV,ah.ext,ah.mod⟩
   .refine ad ?_;refine⟨ag,aV,(),trivial,ah,b,aS.trans ar,λp a1=>?_⟩;by_cases ca:p=d
    .subst ca;unfold r6;rw[aU,if_neg aZ]
    .exact aq p AY
  .rw[qt λp a1=>aq p AY,if_neg Ah] at f;refine ad ?_;refine⟨k,aV,(),trivial,af,b,λp a1=>?_⟩;by_cases cb:p=a
   .subst cb;rw[f]
   .exact J p AY
 have cc:m.procs.length<=a:=AY
 have au:∀d,d<m.procs.length->(jn m d).1=0:=λd ae=>J d AY;have dR:=F2 a7;have dV:m.procs.length<=6:=by
  apply Classical.byContradiction;intro Y
  have:=Kt (i:=6) AY (au 6 AY)
  omega
 have ch:wQ m:=⟨AY,AY,AY,λdW y=>by
  obtain⟨d,ae,rfl⟩:=List.mem_iff_getElem.1 y
  have:=U8 (Dm ae (au d ae)).2.1
  omega⟩
 refine ad ?_;refine J_ (avK _ m ak (aw.ext aJ) ch) ?_;rintro _ I ⟨rfl,X⟩;have i:=t.then X;replace e:=i.box;have M:=Va au;have cj:gp I g (jV m m.procs.length):=by
  have h:=i.set;simp only[jV,z5] at h ⊢;rw[IA cc] at h;rw[IA (EM _)];exact h
 refine ad ?_;apply I_<;>intro bO
 .rw[if_pos (.inl AY)] at M;refine ad ?_;refine U_ (sG 11 4 m.procs.length 0 I) ?_ ?_
  .rintro _ _ ⟨N,_⟩;exact absurd N Ae
  .rintro q _ ⟨_,rfl,rfl⟩;refine ad ?_;rw[M];exact⟨(show(11:Int)≠0 by decide),aV,i.ext,i.mod⟩
 refine ad ?_;apply I_<;>intro b5
 .rw[if_pos (.inr AY)] at M;refine ad ?_;refine U_ (sG 11 4 m.procs.length 0 I) ?_ ?_
  .rintro _ _ ⟨N,_⟩;exact absurd N Ae
  .rintro q _ ⟨_,rfl,rfl⟩;refine ad ?_;rw[M];exact⟨(show(11:Int)≠0 by decide),aV,i.ext,i.mod⟩
 rw[if_neg AY] at M;refine ad ?_;exact⟨by rw[M];rfl,i.ext,i.mod,cj⟩
def av3{w0:A_}(cs:C_ B_)(m:o.Model)(g:Nat)(w:A_)(h:dU w0 cs m)(an:m.cB)(ao:Ext w0 w)(aq:w0.heap.size<=g)(ar:gi w0)(x:gp w g (jV m m.procs.length)) :
  rX Tryz.prog F.tY #[.agg cs.toArray,.map (some g)] w (λ_ e=>(qP m).bK=0/\Ext w0 e/\Mod (λa=>a=g) w e)
   (λl e=>(qP m).bK≠0/\l=yy (qP m)/\Ext w0 e/\Mod (λa=>a=g) w e):=by
 have au:=h;obtain⟨aJ,aK,aL,bg,aP,bj,aQ,aR,aS,aU,rfl,aX,aY,aZ,a0,P,a1,a3,a5,a7,a8⟩:=h.form;refine _q kv E.tY CZ (args:=[_,_]) (Nat.le_of_ble_eq_true rfl) ?_;dsimp only[C.tY];refine om ?_;refine ad ?_;intro y I a9 z i;have J:kX w0 w g I _ y (tx m 0):=⟨ao.trans z,z.mod,i,by have:=x.ext z;simpa[tx] using this,aq,by have:=x.lt;omega⟩;have bb:=x.lt;have bf:=z.size;clear x;refine ad ?_;refine J_ (ah0 _ m (-1) y (au.ext J.ext) an) ?_;rintro _ bk ⟨⟨bl,rfl,A⟩,Q⟩;rw[Oz (.inl Ae)] at A;have S:=A.here;obtain⟨bo,bp,bq,bt,bu,bw,bx,bz,bA,bB,rfl,_⟩:=S.form;clear S;have U:=J.then Q;clear i J;have av:=Q.size;refine ad ?_;intro bC aw bD K d;have V:=A.ext K av;have L:=U.then K;have i:=L.box;clear A U;refine ad ?_;refine K_ 14 m.props.length [1,2,4,12,13] (λ_:Unit=>[]) () (λa _ e=>kX w0 w g I _ e (tx m a)/\ec y (λw=>gn w _ (fm m)) e/\e.heap[aw]? = some (.cells (List.toArray [_,_,_,_,_,_]) T.t)/\y.heap.size<=e.heap.size/\∀r,r<a->ow m r=0) aW aW ⟨L,V,d,by have:=K.size;omega,λr h=>absurd h (Od _)⟩ ?_;clear i L V d;rintro a _ bE bG bH ⟨n,f,d,ax,M⟩;have i:=n.box;have W:=n.ext;refine ad ?_;apply I_<;>intro bI
 .have s:a<m.props.length:=AY
  obtain⟨bJ,rfl⟩:=P.addr;obtain⟨ay,bK,X,Y⟩:=P.at a s;obtain⟨bL,bM,rfl,bN⟩:=Y.form;have c:=Ku s;replace X:=X.ext W;have bO:=n.mod.size;refine ad ?_;intro bQ bU az Z aB;refine eA ?_;intro ab ae B;have p:=ae.ext Z az;have t:=n.then p;replace f:=f.ext p ax;replace d:=p.obj d;replace i:=t.box;have af:=t.ext;clear aB Z ae n;have b:ow m a≠0->qP m=⟨ow m a,5,a,0⟩:=agO s M;refine ad ?_;apply I_<;>intro bV
  .rw[if_pos AY] at c;rw[c] at b;replace b:=b Ae;refine ad ?_;refine U_ (sG 11 5 a 0 ab) ?_ ?_
   .rintro _ _ ⟨j,_⟩;exact absurd j Ae
   .rintro l _ ⟨_,rfl,rfl⟩;refine ad ?_;rw[b];exact⟨(show(11:Int)≠0 by decide),aV,af,t.mod⟩
  rw[if_neg AY] at c;refine ad ?_;refine J_ (Oh m.props[a].name ab (ar.ext af) ay) ?_;rintro _ ag ⟨rfl,q⟩;have k:=t.then q;replace f:=f.ext q (by have:=p.size;omega);replace d:=q.obj d;replace B:=q.obj B;replace i:=k.box;have ah:=k.ext;clear t;refine ad ?_;refine N_ (λN=>?_) (λN=>?_);rotate_left
  .rw[if_pos N] at c;rw[c] at b;replace b:=b Ae;refine ad ?_;refine U_ (sG 6 5 a 0 ag) ?_ ?_
   .rintro _ _ ⟨j,_⟩;exact absurd j Ae
   .rintro l _ ⟨_,rfl,rfl⟩;refine ad ?_;rw[b];exact⟨(show(6:Int)≠0 by decide),aV,ah,k.mod⟩
  rw[if_neg (by rw[N];decide)] at c;refine ad ?_;refine U_ (O7 g (tx m a) m.props[a].name 5 a ag k.set) ?_ ?_;rotate_left
  .rintro l _ ⟨O,rfl,rfl⟩;rw[if_pos O] at c;rw[c] at b;replace b:=b Ae;refine ad ?_;rw[b];exact⟨(show(7:Int)≠0 by decide),aV,k.ext,k.mod⟩
  rintro _ ai ⟨O,u,aC⟩;rw[if_neg O] at c;have G:kX w0 w g I _ ai (tx m (a+1)):=(k.wr u aC).jW (by simp only[tx,UD];rw[EU (λaD:mL=>aD.name) _ s,Vh]);replace f:=f.wr u AY;replace d:=u.obj d AY;replace B:=u.obj B AY;replace i:=G.box;have aE:=G.ext;clear k ah;refine ad ?_;refine J_ (aff _ m.props[a].expr _ _ ai (Y.ext aE) f.here) ?_;rintro _ aF ⟨rfl,H⟩;have v:=G.then H;have bW:=u.size;replace f:=f.ext H (by have:=p.size;have:=q.size;omega);replace d:=H.obj d;replace i:=v.box;have aj:=v.ext;clear G;refine ad ?_;refine U_ (sG (o.kind m.props[a].expr (fm m)).2 5 a 0 aF) ?_ ?_;rotate_left
  .rintro l _ ⟨j,rfl,rfl⟩;rw[if_pos j] at c;rw[c] at b;replace b:=b j;refine ad ?_;rw[b];exact⟨j,aV,aj,v.mod⟩
  rintro _ aG ⟨j,rfl⟩;rw[if_neg (by simpa using j)] at c;refine ad ?_;apply I_<;>intro ak;rotate_left
  .rw[if_pos ak] at c;rw[c] at b;replace b:=b Ae;refine ad ?_;refine U_ (sG 9 5 a 0 aG) ?_ ?_
   .rintro _ _ ⟨aH,_⟩;exact absurd aH Ae
   .rintro l _ ⟨_,rfl,rfl⟩;refine ad ?_;rw[b];exact⟨(show(9:Int)≠0 by decide),aV,aj,v.mod⟩
  rw[if_neg (by simpa using ak)] at c;refine ad ?_;refine⟨s,aV,(),trivial,v,f,d,by have:=p.size;have:=q.size;have:=H.size;omega,λal bX=>?_⟩;by_cases aI:al=a
  .subst aI;rw[c]
  .exact M al AY
 refine ad ?_;exact⟨by rw[Vb λr bY=>M r AY];rfl,W,n.mod⟩
end Go.Proofs.R
namespace ba
open Go Go.RowKit
structure CL where
 n:Nat
 res:List nG
 pre:fg
 cq:List Step
 fn:Operand
 rest:fg
def Q3(a:Oper):H_ G_ :=
 match a.guard,a.dst,a.op with
 | none,none,.defer ⟨.value b,args,_⟩=>match args.toList with | []=>some b | _=>none
 | _,_,_=>none
def aaK(P:D_)(a:Func):Code->H_ CL
 | .seq b (.seq (.region _ ops false) c) =>
  match ops.toList.getLast?.bind Q3,comp P a.ntmps b,ov P a.ntmps ops ops.toList.dropLast,comp P a.ntmps c,zg P a.results.toList with
  | some d,some e,some f,some lc,some g=>some ⟨a.ntmps,g,e,f,d,lc⟩
  | _,_,_,_,_=>none
 | _=>none
def J1(P:D_)(f:E_):H_ CL :=
 match P.funcs[f]? with
 | some fn=>match fn.body with | some a=>aaK P fn a | none=>none
 | none=>none
def vi(P:D_)(f:E_)(cap:Array B_)(a:FrameMode)(w:A_)(R:A_->Prop):Prop :=
 CallsD P f cap a w λb c d=>(∃e,b = .returned e)/\settle c = .returning/\R d
def F9(P:D_)(e:C_ nG)(f:E_)(cap:Array B_)(R:B_->A_->Prop):fI->Fr->A_->Prop
 | .normal,b,c=>vi P f cap .returning c λa=>qS e b a λd=>R (jZ d) a
 | .ret,b,c=>vi P f cap .returning c λa=>qS e b a λd=>R (jZ d) a
 | .exit _,_,_=>False
 | .h2 g,b,c=>vi P f cap (.panicking g) c λa=>qS e b a λd=>R (jZ d) a
def ay9(P:D_)(a:CL)(R:B_->A_->Prop)(S:Fr)(w:A_):Prop :=
 dN P a.pre (yx (λS w=>steps P a.cq S w λS w => ∃b c,br S a.fn = .func (.func b) #[] c/\okF P b=true/\dN P a.rest (F9 P a.res b c R) S w) (λ_ _ _=>False)) S w
def amu{a:Oper}{x:G_}(h:Q3 a=some x):∃b c d i,a=⟨none,.defer ⟨.value x,#[],i⟩,b,c,d,none⟩:=by
 obtain⟨l,m,b,c,d,n⟩:=a;unfold Q3 at h;split at h
 .rename_i e f g;simp only at e f g;split at h
  .rename_i j;injection h with h
   have k:=Array.toList_eq_nil_iff.1 j;subst e f g h k;exact⟨_,_,_,_,rfl⟩
  .cases h
 .cases h
def am6{P:D_}{f:E_}{t:CL}(L:P.follows .mixedOrders=true)(c:J1 P f=some t){args:C_ B_}{w:A_}{R:B_->A_->Prop}(S:args.length<=t.n)
  (h:ay9 P t R (jo args 0) w):a2 P f args.toArray w R:=by
 unfold J1 at c;split at c
 .rename_i fn U;split at c
  .rename_i az V;unfold aaK at c;split at c
   .rename_i W id ops X;split at c
    .rename_i q Y Z lc ab u ae af ag ah;injection c with c;subst c
     obtain⟨aB,k,v⟩:=Option.bind_eq_some_iff.1 u;obtain⟨x,y,z,A,rfl⟩:=amu v;have ai:ops.toList=ops.toList.dropLast++[⟨none,.defer ⟨.value q,#[],A⟩,x,y,z,none⟩]:=by
      have M:ops.toList≠[]:=by intro g;rw[g] at k;cases k
      rw[List.getLast?_eq_some_getLast M] at k;injection k with k
      rw[<-k,AL6 M]
     have B:∀(b:E_) (d:Array B_) (i:Fr) (l:Act) (e:A_) (r:FrameMode),r≠.run->okF P b=true->Fits [{ target:=.fn (.func b) d,args:=#[] }] l i fn.ntmps->vi P b d r e (λe=>qS ab i e λN=>R (jZ N) e) ->
       Leaves P fn l.tmps (λg e => ∃C,g = .returned C/\R C e) l.defers r e:=by
      intro b d i l e r aj p j ak;rw[j.1];refine leaves_cons aj (f:=b) (args:=d) (by simp[invoke,EH p]) (CallsD.mono ak ?_);rintro g aC aD ⟨⟨C,rfl⟩,al,an⟩;simp only[al];obtain⟨N,ao,aq⟩:=tB j _ _ _ ah an;exact⟨_,yi ao,_,rfl,aq⟩
     refine calls_of_wp_defers U V ((wpIn_wide (n:=0)).1 ?_);refine wpIn_seq (wpIn_mono (sound (ds:=[]) (r:=none) (m:=0) L W Y ae _ _ (jo args 0) w (Rz S) h) λg l e a=>?_);cases g with
     | normal =>
      obtain⟨i,j,a⟩:=a;refine wpIn_seq (wpIn_region_list ?_);rw[ai];refine Ag (r:=none) (tl:=[_]) ?_ ?_ _ Z l i e af j a
      .rintro s O G H ⟨b,d,he,p,ar⟩;have au:Region.wanted (⟨none,.defer ⟨.value q,#[],A⟩,x,y,z,none⟩:Oper) (yielded ops s.tmps)=true:=rfl;simp only[wpListIn,au,if_true];have av:∀I:G_->B_,I q = .func (.func b) #[] d->((⟨none,.defer ⟨.value q,#[],A⟩,x,y,z,none⟩:Oper).semAt none I).run P G = .ok (.defer { target:=.fn (.func b) d,args:=#[] }) G:=by
        intro I aw;simp[Oper.semAt,execOp,resolve,Deferred.ofValue,aw,go_sem]
       refine⟨λ_ _=>trivial,?_⟩;rw[show(oe none).round=none from rfl,av s.eval (by rw[H.eval];exact he)];have ax:Fits [{ target:=.fn (.func b) d,args:=#[] }] ({ s with defers:={ target:=.fn (.func b) d,args:=#[] } :: s.defers }:Act) O fn.ntmps:=⟨by rw[H.1],H.2⟩;refine wpIn_mono (sound (ds:=[{ target:=.fn (.func b) d,args:=#[] }]) (r:=none) (m:=0) L X lc ag _ _ O G ax ar) λg J K a=>?_;cases g with
       | normal=>obtain⟨m,n,a⟩:=a;exact B b d m J K .returning Ah p n a
       | ret=>obtain⟨m,n,a⟩:=a;exact B b d m J K .returning Ah p n a
       | exit ay=>obtain⟨m,n,a⟩:=a;exact a.elim
       | panic Q=>obtain⟨m,n,a⟩:=a;exact B b d m J K (.panicking Q) Ah p n a
       | _=>exact a.elim
      .rintro⟨_,_,v⟩;obtain⟨_,u,_⟩:=v;cases u
     | ret=>obtain⟨i,j,a⟩:=a;exact a.elim
     | exit ay=>obtain⟨i,j,a⟩:=a;exact a.elim
     | panic Q=>obtain⟨i,j,a⟩:=a;exact a.elim
     | _=>exact a.elim
    .cases c
   .cases c
  .cases c
 .cases c
structure Fo where
 n:Nat
 res:List nG
 d:Nat
 e:Nat
 rest:fg
def Vp(a:Oper):H_ Nat :=
 match a.guard,a.op,a.dst with
 | none,.call ⟨.builtin .recover,args,_⟩,some b=>match args.toList with | []=>some b | _=>none
 | _,_,_=>none
def Qs(a:Oper):H_ (Nat×Nat) :=
 match a.guard,a.op,a.dst with
 | none,.assign (.tmp b),some c=>some (b,c)
 | _,_,_=>none
def aaL(P:D_)(a:Func):Code->H_ Fo
 | .seq (.region _ ops false) d =>
  match ops.toList with
  | [e,f]=>match Vp e,Qs f,comp P a.ntmps d,zg P a.results.toList with
   | some b,some (g,c),some lc,some h=>if b=g/\b<a.ntmps/\c<a.ntmps then some ⟨a.ntmps,h,b,c,lc⟩ else none
   | _,_,_,_=>none
  | _=>none
 | _=>none
def J2(P:D_)(f:E_):H_ Fo :=
 match P.funcs[f]? with
 | some fn=>match fn.body with | some a=>aaL P fn a | none=>none
 | none=>none
def qR:FrameMode->B_×FrameMode
 | .panicking ({ v,recovered:=false,goexit:=false } :: a)=>(v,.panicking ({ v,recovered:=true } :: a))
 | u=>(.nilIface,u)
theorem awN(c:Frame)(cs:C_ Frame):(match recoverD (c :: cs) with | some (a,b)=>(a,b) | none=>(.nilIface,c :: cs))=((qR c.mode).1,{ c with mode:=(qR c.mode).2 } :: cs):=by
 obtain⟨i,j,k,l,d,kind,m⟩:=c;unfold recoverD qR;cases d with
 | run=>rfl
 | returning=>rfl
 | panicking e =>
  cases e with
  | nil=>rfl
  | cons f n =>
   obtain⟨a,g,h⟩:=f;cases g<;>cases h<;>rfl
def awL{a:Oper}{d:Nat}(h:Vp a=some d):∃j b c e,a=⟨some d,.call ⟨.builtin .recover,#[],j⟩,b,c,e,none⟩:=by
 obtain⟨m,n,b,c,e,p⟩:=a;unfold Vp at h;split at h
 .rename_i f g i;simp only at f g i;split at h
  .rename_i k;injection h with h
   have l:=Array.toList_eq_nil_iff.1 k;subst f g i h l;exact⟨_,_,_,_,rfl⟩
  .cases h
 .cases h
def akA{a:Oper}{d e:Nat}(h:Qs a=some (d,e)):∃b c f,a=⟨some e,.assign (.tmp d),b,c,f,none⟩:=by
 obtain⟨m,n,b,c,f,p⟩:=a;unfold Qs at h;split at h
 .rename_i g i j;simp only at g i j;injection h with h
  injection h with k l
  subst g i j k l;exact⟨_,_,_,rfl⟩
 .cases h
def am7{P:D_}{f:E_}{i:Fo}(L:P.follows .mixedOrders=true)(b:J2 P f=some i){args:C_ B_}{e:FrameMode}{w:A_}{R:B_->A_->Prop}(M:args.length<=i.n)
  (h:dN P i.rest (F8 i.res R) (cC (cC (jo args 0) i.d (qR e).1) i.e (qR e).1) w):CallsD P f args.toArray e w λd m n=>m=(qR e).2/\∃a,d = .returned a/\R a n:=by
 unfold J2 at b;split at b
 .rename_i fn N;split at b
  .rename_i aG O;unfold aaL at b;split at b
   .rename_i id ops z;split at b
    .rename_i aH aI A;split at b
     .rename_i j aJ d lc Q S U V B;split at b
      .rename_i W;obtain⟨X,Y,Z⟩:=W;subst X;injection b with b;subst b
       obtain⟨ab,ae,af,ag,rfl⟩:=awL S;obtain⟨ah,ai,aj,rfl⟩:=akA U;refine callsD_of_wpS N O λk l ak=>?_;refine wpS_seq (wpS_region ?_);have al:ops.size=2:=by rw[<-Array.length_toList,A];rfl
       have r:ops[0]? = ops.toList[0]? := by simp
       have s:ops[1]? = ops.toList[1]? := by simp
       rw[A] at r s;simp only[List.getElem?_cons_zero,List.getElem?_cons_succ] at r s;have an:List.range ops.size=[0,1]:=by rw[al];rfl
       rw[an];have ao:∀(C:G_->B_),(execOp C ⟨some j,.call ⟨.builtin .recover,#[],ab⟩,ae,af,ag,none⟩).run P w = .ok .recover w:=by
        intro C;simp[execOp,resolve,invoke,builtin,go_sem]
       have G:∀(aq:H_ Nat) (ar:Op) (au:F_) (av:String) (aw:Array Edge) (ax:Nat->H_ Bool),Region.wanted (⟨aq,ar,au,av,aw,none⟩:Oper) ax=true:=λ_ _ _ _ _ _=>rfl;have ay:=Rz (n:=fn.ntmps) M;have H:∀(a:B_) (p:C_ Frame),dN P lc (F8 Q R) (cC (cC (jo args 0) j a) d a) w->(p = { k with mode:=(qR e).2 } :: l) ->
         wpOpsS P ops (Exit.thenS (z.wpS P (bodyPostS P fn k l λd m n=>m=(qR e).2/\∃a,d = .returned a/\R a n)) (bodyPostS P fn k l λd m n=>m=(qR e).2/\∃a,d = .returned a/\R a n)) [1]
          (({ tmps:=args.toArray++Array.replicate (fn.ntmps - args.toArray.size) undef,defers:=[] }:Act).put (some j) a) p w:=by
        intro a p az I;have J:=ay.put (d:=some j) (by simpa[zj] using Y) a;have aB:(execOp (({ tmps:=args.toArray++Array.replicate (fn.ntmps - args.toArray.size) undef,defers:=[] }:Act).put (some j) a).eval ⟨some d,.assign (.tmp j),ah,ai,aj,none⟩).run P w = .ok (.value a) w:=by
         rw[J.eval];simp[execOp,br,ba.put,cC]
        simp only[wpOpsS,s,G,if_true,aB];rw[Oper.upon_value];have aC:=J.put (d:=some d) (by simpa[zj] using Z) a;refine wpS_of_wp ((wpIn_wide (n:=0)).1 (wpIn_mono (sound (ds:=[]) (r:=none) (m:=0) L z lc V _ _ _ w aC az) λaD aK aL c=>?_));cases aD with
        | normal =>
         obtain⟨t,g,c⟩:=c;obtain⟨aE,u,v⟩:=tB g _ _ _ B c;exact⟨g.1,_,I,_,yi u,rfl,_,rfl,v⟩
        | ret =>
         obtain⟨t,g,c⟩:=c;obtain⟨aE,u,v⟩:=tB g _ _ _ B c;exact⟨g.1,_,I,_,yi u,rfl,_,rfl,v⟩
        | exit aP=>obtain⟨t,g,c⟩:=c;exact c.elim
        | panic aQ=>obtain⟨t,g,c⟩:=c;exact c.elim
        | _=>exact c.elim
       have q:=awN k l;rw[ak] at q;unfold wpOpsS;simp only[r,G,if_true,ao];cases K:recoverD (k :: l) with
       | none =>
        rw[K] at q;injection q with x y
        exact H .nilIface (k :: l) (by rw[x];exact h) y
       | some aF =>
        obtain⟨a,p⟩:=aF;rw[K] at q;injection q with x y
        exact H a p (by rw[x];exact h) y
      .cases b
     .cases b
    .cases b
   .cases b
  .cases b
 .cases b
end ba
namespace ba
open Go Go.RowKit
def Pz(P:D_)(v:B_)(K:E_->Array B_->Prop):Prop := ∃a b,v = .func (.func a) #[] b/\okF P a=true/\K a b
section
variable{P:Program}{S:Fr}{w:World}{res:List nG}{R:Value->World->Prop}
def AC4{f:E_}{a:CL}(b:P.follows .mixedOrders=true)(c:J1 P f=some a){args:C_ B_}(d:args.length<=a.n)
  (h:e5 P a.pre (jY (λS w=>qU P a.cq S w (λS w=>Pz P (br S a.fn) λe g=>e5 P a.rest (F9 P a.res e g R) S w ⟨⟩) ⟨⟩) (λ_ _ _=>False) ⟨⟩) (jo args 0) w ⟨⟩):a2 P f args.toArray w R:=by
 refine am6 b c d ?_;unfold e5 jY qU Pz at h;exact h
def AC5{g:E_}{cap:Array B_}{K:E_->Array B_->Prop}(a:okF P g=true)(h:K g cap):Pz P (.func (.func g) #[] cap) K:=⟨g,cap,rfl,a,h⟩
def AC6{g:E_}{cap:Array B_}(h:vi P g cap .returning w λa=>oM res S a (λb=>R (jZ b) a) ⟨⟩):F9 P res g cap R .ret S w:=by
 unfold oM at h;exact h
def AC7{g:E_}{cap:Array B_}{c:C_ PanicEntry}(h:vi P g cap (.panicking c) w λa=>oM res S a (λb=>R (jZ b) a) ⟨⟩):F9 P res g cap R (.h2 c) S w:=by
 unfold oM at h;exact h
theorem vi.of{g:E_}{cap:Array B_}{c d:FrameMode}{Fq Fs:A_->Prop}(h:CallsD P g cap c w λe f a=>f=d/\∃b,e = .returned b/\Fq a)(i:settle d = .returning)(j:∀a,Fq a->Fs a):vi P g cap c w Fs :=
 CallsD.mono h λe f a ⟨k,b,l,m⟩=>⟨⟨b,l⟩,by rw[k];exact i,j _ m⟩
def AA5{f:E_}{a:Fo}(d:P.follows .mixedOrders=true)(e:J2 P f=some a){args:C_ B_}{b:FrameMode}(g:args.length<=a.n)
  (h:e5 P a.rest (uk a.res R ⟨⟩) (cC (cC (jo args 0) a.d (qR b).1) a.e (qR b).1) w ⟨⟩):CallsD P f args.toArray b w λi j k=>j=(qR b).2/\∃c,i = .returned c/\R c k:=by
 refine am7 d e g ?_;unfold e5 uk at h;exact h
def ahK(d:Nat){t:F_}{b:Array (String×F_)}(h:P.underlying t=some (.interface b))(w:A_):(Op.equalIn (d+1) t .nilIface .nilIface).run P w = .ok true w/\∀T a,(Op.equalIn (d+1) t (.iface T a) .nilIface).run P w = .ok false w:=by
 constructor
 .simp[Op.equalIn,run_underlying h]
 .intro T a;simp[Op.equalIn,run_underlying h]
def aeP{t:F_}(h:(P.underlying t).map zT=some true):∃a,P.underlying t=some (.interface a):=by
 obtain⟨b,c,d⟩:=Option.map_eq_some_iff.1 h;cases b<;>first | exact⟨_,c⟩ | (simp[zT] at d;done)
def AC8{a:F_}{x:G_}{v:B_}{b:B_->Prop}{t}(h:(P.underlying a).map zT=some true)(c:b (.bool false)):h6 P .neq a x (.const v) .nilIface .nilIface b t :=
 _J (v:=.bool false) (λw=>by
  obtain⟨f,h⟩:=aeP h;have d:=(ahK 9999 h w).1;have e:(Op.equalIn Op.maxDepth a .nilIface .nilIface).run P w = .ok true w:=d;cases x<;>simp[eqGuard,binOp,Op.equal,go_sem,e,Result.andThen]) c
def AC9{a T:F_}{x y:G_}{v:B_}{b:B_->Prop}{t}(h:(P.underlying a).map zT=some true)(c:b (.bool true)):h6 P .neq a x y (.iface T v) .nilIface b t :=
 _J (v:=.bool true) (λw=>by
  obtain⟨e,h⟩:=aeP h;have d:(Op.equalIn Op.maxDepth a (.iface T v) .nilIface).run P w = .ok false w:=(ahK 9999 h w).2 T v;simp[eqGuard,binOp,Op.equal,go_sem,d,Result.andThen]) c
def AD0{x:G_}{a T c:F_}{v:B_}{b:B_->A_->Prop}{t}(d:br S x = .iface T v)(h:(P.underlying T).map zT=some false)(e:b (.tuple #[v,.bool true]) w):wX P (.typeAssert x a T true) c S w b t:=by
 refine _V (v:=.tuple #[v,.bool true]) (w':=w) ?_ e;obtain⟨f,g,i⟩:=Option.map_eq_some_iff.1 h;have j:(Instr.typeAssert (.iface T v) a T true).run P w = .ok (.tuple #[v,.bool true]) w:=by
  cases f<;>first | (simp[zT] at i;done) | (simp[Instr.typeAssert,run_underlying g])
 simp[execOp,d,j,Result.andThen]
end
end ba
namespace Go.Proofs.R
open Go ba Go.Proofs
abbrev F.e:E_:=126
def Xl.qp:CL:=⟨16,[.jm 4 2], (.cN [c6 1 (.box T.e (aN 0)),c6 2 (.new T.v (.agg #[dg,dg,dg,dg]))]),
 [ck 4 (.z1 F.e [] [(aN 2)])],(aN 4), (b2 [c6 5 .z2,aM 3 5] (.seq (.fS [m9 6 5 1,aM 7 3] (some 8) F.kZ [(aN 6),(aN 7)]) (.seq (.fS [m9 9 5 1,aM 10 3] (some 11) F.nK [(aN 9),(aN 10)]) (.seq (.fS [m9 12 5 1,aM 13 3] (some 14) F.tY [(aN 12),(aN 13)]) (b2 [ck 15 (.hW [dg,dg,dg,dg] [(0,1),(1,1),(2,1),(3,1)] []),sK 4 2 15] .ret)))))⟩
theorem ajA.qp:J1 Tryz.prog F.qp=some Xl.qp:=Cl
def Py.e:Fo:=⟨17,[],4,1, (b2 [aM 5 1,ck 6 (.bin .neq T.vr (aN 5) (.const .nilIface))] (ir 6 (b2 [aM 8 1,c6 9 (.raw (.typeAssert (aN 8) T.vr T.j4 true) T.g4),aM 7 9,As 10 7 0,As 11 7 1,c6 2 (.new T.j4 (.agg #[dg,dg,dg,dg])),sK 4 2 10,aM 3 11] (.seq (b2 [aM 12 3,ck 13 (.un .not (aN 12))] (ir 13 (.u3 [aM 14 1] (aN 14)) .skip)) (.cN [fs 15 0 2,m9 16 4 15,sK 4 0 16]))) .skip))⟩
theorem Xp.e:J2 Tryz.prog F.e=some Py.e:=Cl
end Go.Proofs.R
namespace o
def av4{m:Model}(h:(qP m).bK=0):qP m=vE:=Vb (Vc h)
end o
namespace Go.Proofs.R
open Go Go.RowKit ba o
theorem alY(b:Nat)(w:A_):CallsD Tryz.prog F.e #[.pointer (some ⟨b,0,none⟩)] .returning w λa c d=>c = .returning/\∃e,a = .returned e/\d=w:=by
 refine AA5 kv Xp.e (args:=[_]) (Nat.le_of_ble_eq_true rfl) ?_;dsimp only[Py.e];refine om ?_;dsimp only[qR];refine ad ?_;refine AC8 Cl ?_
 (repeat' first
 | assumption
 | exact Ext.refl _
 | refine Ext.trans ?_ Aq
 | refine Q_ AY ?_
 | refine _G Aq ?_ rfl ?_
 | refine _C Aq ?_ rfl ?_
 | refine _L Aq ?_ AY rfl ?_
 | refine _R Aq ?_ AY rfl ?_
 | refine _S Aq ?_ AY rfl ?_
 | refine _T AY ?_
 | refine _M (by first | assumption | omega) ?_
 | refine _N (by first | assumption | omega) ?_
 | refine _E Aq ?_
 | refine _F Aq ?_
 | simp -dsimp only[c7,cD,Nat.reduceAdd,Nat.reduceEqDiff,reduceIte,reduceCtorEq,dt])
def alX(f:tK)(b:Nat)(w:A_)(c:w.heap[b]? = some (.cells #[.I 0,.I 0,.I 0,.I 0] T.v)) :
  CallsD Tryz.prog F.e #[.pointer (some ⟨b,0,none⟩)] (.panicking (yy f)) w λd h e=>h=(qR (.panicking (yy f))).2/\∃i,d = .returned i /\
   (e.heap[b]? = some (.cells #[.I f.bK,.I f.part,.I f.item,.I f.sub] T.v)/\∀a,Ext a w->a.heap.size<=b->Ext a e):=by
 refine AA5 kv Xp.e (args:=[_]) (Nat.le_of_ble_eq_true rfl) ?_;dsimp only[Py.e];refine om ?_;dsimp only[qR,yy];refine ad ?_;refine AC9 Cl ?_;refine ad ?_;refine AD0 rfl Cl ?_;refine ad ?_;intro m n p g q;have r:=cf c;replace c:=g.obj c;refine ad ?_;intro s j k;refine ad ?_;exact⟨k,λa d l=>j.ext (d.trans g) l⟩
def N9(cs:C_ B_)(m:o.Model)(w:A_)(h:dU w cs m)(A:m.cB)(l:gi w) :
  EL F.qp #[.agg cs.toArray] w λn c=>n = .agg #[.I (o.check m).bK,.I (o.check m).part,.I (o.check m).item,.I (o.check m).sub]/\Ext w c:=by
 obtain⟨X,Y,Z,bg,ab,bj,ae,af,ag,ah,rfl,_⟩:=h.form;refine AC4 kv ajA.qp (args:=[_]) (Nat.le_of_ble_eq_true rfl) ?_;dsimp only[Xl.qp];refine om ?_;refine ad ?_;intro ai aj ak B b;refine ad ?_;intro al e an p a;replace b:=p.obj b;have ao:=cf b;have aq:=cf a;refine ad ?_;refine AC5 Cl ?_;refine ad ?_;refine _w λI q ar r J=>?_;replace b:=r.obj b;replace a:=r.obj a;have au:=cf a;have av:=p.size;have aw:=B.size;have K:=(B.trans p).trans r;have s:∀(t:tK) (c:A_) (u:Fr),Ext w c->c.heap[e]? = some (.cells #[.I 0,.I 0,.I 0,.I 0] T.v)->u 2 = .pointer (some ⟨e,0,none⟩)->t=o.check m ->
   F9 Tryz.prog [.jm 4 2] F.e #[.pointer (some ⟨e,0,none⟩)] (λn c=>n = .agg #[.I (o.check m).bK,.I (o.check m).part,.I (o.check m).item,.I (o.check m).sub]/\Ext w c) (.h2 (yy t)) u c:=by
  rintro t c u L M N rfl;refine AC7 (vi.of (alX (o.check m) e c M) rfl ?_);rintro f ⟨O,P⟩;simp -dsimp only[c7,cD,Nat.reduceAdd,Nat.reduceEqDiff,reduceIte,reduceCtorEq,dt,N];refine S_ O (Ext.refl _) rfl ?_;simp -dsimp only[c7,cD,Nat.reduceAdd,Nat.reduceEqDiff,reduceIte,reduceCtorEq,dt];exact⟨aV,P _ L AY⟩
 refine ad ?_;refine U_ (aon _ m q I h K AY l (gp.empty J)) ?_ ?_;rotate_left
 .rintro C f ⟨d,rfl,v,g⟩;refine ad ?_;exact s _ f _ v (g.obj AY a) rfl (by rw[o.check,if_pos d])
 rintro _ f ⟨d,v,g,Q⟩;replace b:=g.obj AY b;replace a:=g.obj AY a;refine ad ?_;refine U_ (av0 _ m q f h A v AY l d Q) ?_ ?_;rotate_left
 .rintro C x ⟨i,rfl,y,j⟩;refine ad ?_;exact s _ x _ y (j.obj AY a) rfl (by rw[o.check,if_neg (by simpa using d),if_pos i])
 rintro _ x ⟨i,y,j,S⟩;replace b:=j.obj AY b;replace a:=j.obj AY a;refine ad ?_;refine U_ (av3 _ m q x h A y AY l S) ?_ ?_;rotate_left
 .rintro C G ⟨H,rfl,z,k⟩;refine ad ?_;exact s _ G _ z (k.obj AY a) rfl (by rw[o.check,if_neg (by simpa using d),if_neg (by simpa using i)])
 rintro _ G ⟨H,z,k⟩;replace b:=k.obj AY b;replace a:=k.obj AY a;have U:o.check m=vE:=by rw[o.check,if_neg (by simpa using d),if_neg (by simpa using i),av4 H]
 refine ad ?_;intro V W ax;refine ad ?_;refine AC6 (vi.of (alY e V) rfl ?_);rintro _ rfl;refine ad ?_;exact⟨by rw[U];rfl,W.ext z AY⟩
end Go.Proofs.R
namespace o
open Go
def ea.enc(b:ea):C_ B_:=[.int .i64 b.aQ,.int .i64 b.ab,.int .i64 b.kind]
def Cell.slot(x:Cell):C_ B_:=[.int .i64 x.sort,.int .i64 x.jg,.int .i64 x.place,.int .i64 x.kind]
def Cell.enc(x:Cell):C_ B_:=[.int .i64 x.sort,.int .i64 x.jg,.int .i64 x.place,.int .i64 x.aQ,.int .i64 x.ab,.int .i64 x.kind]
def y4:∀(a:ea),∀b∈a.enc,b.oneCell'=true:=by intro a b c;simp[ea.enc] at c;rcases c with rfl | rfl | rfl<;>rfl
def aic:∀(a:Cell),∀b∈a.slot,b.oneCell'=true:=by intro a b c;simp[Cell.slot] at c;rcases c with rfl | rfl | rfl | rfl<;>rfl
def FZ:∀(a:Cell),∀b∈a.enc,b.oneCell'=true:=by intro a b c;simp[Cell.enc] at c;rcases c with rfl | rfl | rfl | rfl | rfl | rfl<;>rfl
end o
namespace Go.Proofs.R
open Go Go.RowKit ba o
def atP(k:Int)(w:A_)(h:ev (k+1)):EL F.fV #[.I k] w λb c=>b = .I (o.kindOf k)/\c=w:=by
 unfold ev at h;refine bn E.fV ?_;unfold o.kindOf;refine ad ?_;apply I_<;>intro a
 .refine ad ?_;exact⟨by rw[if_pos a],aV⟩
 .refine ad ?_;exact⟨by rw[if_neg a],aV⟩
def Vs(k:Int)(w:A_)(h:ev (k+1)):EL F.ND #[.I k] w λb c=>b = .I (o.kindOf k)/\c=w:=by
 unfold ev at h;refine bn E.ND ?_;unfold o.kindOf;refine ad ?_;apply I_<;>intro a
 .refine ad ?_;exact⟨by rw[if_pos a],aV⟩
 .refine ad ?_;exact⟨by rw[if_neg a,Int.add_comm],aV⟩
def Uo(x:o.Var)(v:B_)(l:C_ o.Scalar)(w:A_)(d:hI w v l)(h:ev (x.scalar+1)) :
  EL F.cS #[.agg x.enc.toArray,v] w λv i=>v = .agg (dJ x.scalar x.aQ x.ab l).enc.toArray/\Ext w i:=by
 obtain⟨p,q,rfl,_⟩:=d.form;rw[w6];refine bn E.cS ?_;refine ad ?_;intro r s t e a;refine ad ?_;intro j u y f b;replace a:=f.obj a;have z:=cf a;have A:=cf b;have g:=e.trans f;refine ad ?_;refine J_ (JI x _ l j (d.ext g)) ?_;rintro _ k ⟨rfl,c⟩;replace a:=c.obj a;replace b:=c.obj b;have m:=g.trans c;refine ad ?_;refine J_ (atP x.scalar k h) ?_;rintro _ B ⟨rfl,rfl⟩;refine ad ?_;intro C n G;refine ad ?_;exact⟨aV,n.ext m (by have:=e.size;omega)⟩
def afQ(cs:C_ B_)(m:o.Model)(w:A_)(h:dU w cs m)(b:m.cB)(c:gi w) :
  EL F.Kc #[.agg cs.toArray] w λd e=>d = .bool (decide ((o.check m).bK=0))/\Ext w e:=by
 obtain⟨i,j,k,bg,l,bj,n,p,q,r,rfl,_⟩:=h.form;refine bn E.Kc ?_;refine ad ?_;intro f s t a u;refine ad ?_;refine J_ (N9 _ m f (h.ext a) b (c.ext a)) ?_;rintro _ v ⟨rfl,g⟩;refine ad ?_;refine _d (v:=.I (o.check m).bK) rfl ?_;refine ad ?_;exact⟨aV,a.trans g⟩
def aoo(cs:C_ B_)(m:o.Model)(w:A_)(h:dU w cs m)(b:m.cB) :
  EL F.NC #[.agg cs.toArray] w λc d=>c = .bool (decide ((o.check m).bK=0))/\Ext w d:=by
 obtain⟨g,i,j,bg,k,bj,l,n,p,q,rfl,_⟩:=h.form;refine bn E.NC ?_;refine ad ?_;intro e r s a t;refine ad ?_;refine J_ (Vr _ m e (h.ext a) b) ?_;rintro _ u ⟨rfl,f⟩;unfold zn;refine ad ?_;refine _d (v:=.I (o.check m).bK) rfl ?_;refine ad ?_;exact⟨aV,a.trans f⟩
end Go.Proofs.R
namespace ba
open Go Go.RowKit
def jH.congr{α:Type}{enc:α->C_ B_}{e:F_}{sz base n:Nat}{w:A_}{vs d:Nat->H_ Addr×Nat×Nat}{xs f:Nat->C_ α}(h:jH enc e sz base w n vs xs)(c:∀a,a<n->vs a=d a)(k:∀a,a<n->xs a=f a):jH enc e sz base w n d f :=
 ⟨λa b=>by rw[<-c a b,<-k a b];exact h.own a b,λa g l b i m j=>by rw[<-c g i];rw[<-c a b] at j;exact h.apart a g l b i m j⟩
def Rs{S:Fr}{t:Nat}{n:Int}(h:S t = .I n):gv S ((List.range 1).map λa=>(a*1,1)) [(0,.tmp t)] [.I 0]=some [.I n]:=by
 simp[gv,lay,dE,h,Value.cells,List.range,List.range.loop]
structure eI(cW:List TypeId)(w w':World):Prop where
 size:w.heap.size<=w'.heap.size
 b0:∀(k:Nat) (c:Array Value) (t:TypeId),w.heap[k]? = some (.cells c t)->t∉cW->w'.heap[k]? = some (.cells c t)
section
variable{cW:List TypeId}{a b w w':World}
def eI.refl:eI cW w w:=⟨EM _,λ_ _ _ a _=>a⟩
def eI.trans{c:A_}(h:eI cW a b)(k:eI cW b c):eI cW a c:=⟨Ug h.size k.size,λd c e g f=>k.b0 d c e (h.b0 d c e g f) f⟩
theorem eI.ext(h:Ext a b):eI cW a b:=⟨h.size,λ_ _ _ c _=>h.obj c⟩
def eI.mod{A:Nat->Prop}(h:Mod A a b)(g:∀(c:Nat) (e:Array B_) (d:F_),a.heap[c]? = some (.cells e d)->A c->d∈cW):eI cW a b:=⟨h.size,λc e d f i=>h.obj (λj=>i (g c e d f j)) f⟩
def eI.wr{k:Nat}{c:Array B_}{t:F_}{f:Nat×Nat}(h:dX k a b)(i:a.heap[k]? = some (.cells c t f))(j:t∈cW):eI cW a b:=eI.mod (h.mod (A:=λg=>g=k) rfl) λg l m d e=>by
 subst e;rw[i] at d;injection d with d;injection d with _ e;exact e ▸ j
def aT.h1{α:Type}{enc:α->C_ B_}{e:F_}{sz base:Nat}{v:B_}{xs:C_ α}(h:aT enc e sz base a v xs)(k:eI cW a b)(c:e∉cW):aT enc e sz base b v xs:=by
 refine⟨h.1,?_⟩;rcases h.2 with d | ⟨f,cap,cur,rfl,g,i,rest⟩
 .exact .inl d
 .exact .inr ⟨f,cap,cur,rfl,g,k.b0 _ _ _ i c,rest⟩
end
end ba
namespace o
structure hG where
 V:List Int
 C:List Int
 cJ:List Int
 n:Nat
 L:List Int
 H:List Int
 Z:List Cell
def hG.of(V C cJ:C_ Int)(cs:C_ Cell):hG:=⟨V,C,cJ,cs.length,cs.map (·.aQ),cs.map (·.ab),cs⟩
def hG.rows(s:hG):Nat->C_ Int:=λa=>if a=0 then s.V else if a=1 then s.C else if a=2 then s.cJ else if a=3 then s.L else s.H
end o
namespace Go.Proofs.R
open Go Go.RowKit ba o
def uR:C_ F_:=[T.a,T.p,T.h,T.z]
structure lL(w1:World)(c8 bs:Nat)(s:hG)(W:World):Prop where
 mod:Mod (λk=>k=c8\/k=bs) w1 W
 ex:∃(vs:Nat->ez) (u:ez),W.heap[c8]? = some (.cells #[cA (vs 0),cA (vs 1),cA (vs 2),.int .i64 s.n,cA (vs 3),cA (vs 4)] T.h)/\jH da T.a 1 w1.heap.size W 5 vs s.rows /\
  W.heap[bs]? = some (.cells #[cA u] T.z)/\aT o.Cell.slot T.p 4 w1.heap.size W (cA u) s.Z
def lL.move{w1:A_}{g bs:Nat}{s:hG}{d i:A_}{A:Nat->Prop}(h:lL w1 g bs s d)(m:Mod A d i)(b:∀(a:Nat) (q:Array B_) (j:F_),d.heap[a]? = some (.cells q j)->j∈uR->¬A a)(r:∀a,A a->w1.heap.size<=a):lL w1 g bs s i:=by
 obtain⟨t,u,k,l,n,p⟩:=h.ex;refine⟨h.mod.comp m (λ_ _ e=>e) λa c e=>absurd (r a e) AY,t,u,m.obj (b _ _ _ k Ae) k,l.mod m λv a w c=>?_,m.obj (b _ _ _ n Ae) n,p.mod m λa c=>?_⟩
 .obtain⟨cur,f⟩:=(l.own v w).b0 a c;exact b _ _ _ f Ae
 .obtain⟨cur,f⟩:=p.b0 a c;exact b _ _ _ f Ae
theorem lL.ext{w1:A_}{a bs:Nat}{s:hG}{b c:A_}(h:lL w1 a bs s b)(e:Ext b c):lL w1 a bs s c:=h.move (A:=λ_=>False) e.mod (λ_ _ _ _ _ h=>h) λ_ h=>h.elim
structure oX(w1:World)(s:hG)(x:ea)(pH:Fr)(w0:World)(vs:Nat->ez)(q6:Addr)(d25 d26 d31 d32 d33:Bool)(S:Fr)(w:World):Prop where
 mW:∀t,t∉[25,26,31,32,33,34]->S t=pH t
 mod:Mod (λk=>(cA (vs 3)).ownBlock=some k\/(cA (vs 4)).ownBlock=some k) w0 w
 rows:∃eC v4,jH da T.a 1 w1.heap.size w 5 (fL (fL vs 3 eC) 4 v4) (fL (fL s.rows 3 (if d26 then s.L++[x.aQ] else s.L)) 4 (if d32 then s.H++[x.ab] else s.H))/\(d26=false->eC=vs 3)/\(d32=false->v4=vs 4) /\
  (d26=true->S 26=cA eC)/\(d32=true->S 32=cA v4)
 Ey:d25=true->d26=false->∃b,S 25 = .slice (some ⟨b,0,none⟩) 1 1/\w0.heap.size<=b/\w.heap[b]? = some (.cells #[.int .i64 x.aQ] T.a)
 Io:d31=true->d32=false->∃b,S 31 = .slice (some ⟨b,0,none⟩) 1 1/\w0.heap.size<=b/\w.heap[b]? = some (.cells #[.int .i64 x.ab] T.a)
 Ip:d33=true->S 33 = .pointer (some q6)
section
variable{w1 w0 w:World}{s:hG}{x:ea}{pH S:Fr}{vs:Nat->ez}{q6:Addr}{d25 d26 d31 d32 d33:Bool}{K:Value->World->Prop}
def oX.af4(h:oX w1 s x pH w0 vs q6 false false d31 d32 d33 S w)(l:pH 24 = .I x.aQ)(m:∀i j,oX w1 s x pH w0 vs q6 true false d31 d32 d33 (put S (some 25) i) j->K i j) :
  oR Tryz.prog (.hk T.a 1 1 [.I 0] [(0,.tmp 24)]) S w K:=by
 have b:Ext w (w.alloc (.cells #[.I x.aQ] T.a)):=(Ext.refl w).alloc _;refine AO (Rs (by rw[h.mW 24 Ae,l])) (m _ _ ⟨λn k=>?_,h.mod.trans b.mod,?_,λ_ _=>⟨_,by simp[jf,bR],h.mod.size,heap_alloc_new w _⟩,λc d=>?_,λc=>by rw[jf,bR,if_neg Ae];exact h.Ip c⟩)
 .rw[jf,bR,if_neg (by intro a;subst a;simp at k)];exact h.mW n k
 .obtain⟨p,v4,e,f,g,r,q⟩:=h.rows;exact⟨p,v4,e.ext b,f,g,λa=>(by cases a),λa=>by rw[jf,bR,if_neg Ae];exact q a⟩
 .obtain⟨d,e,f,g⟩:=h.Io c d;exact⟨d,by rw[jf,bR,if_neg Ae];exact e,f,b.obj g⟩
def oX.UK(h:oX w1 s x pH w0 vs q6 d25 d26 false false d33 S w)(l:pH 30 = .I x.ab)(m:∀i j,oX w1 s x pH w0 vs q6 d25 d26 true false d33 (put S (some 31) i) j->K i j) :
  oR Tryz.prog (.hk T.a 1 1 [.I 0] [(0,.tmp 30)]) S w K:=by
 have b:Ext w (w.alloc (.cells #[.I x.ab] T.a)):=(Ext.refl w).alloc _;refine AO (Rs (by rw[h.mW 30 Ae,l])) (m _ _ ⟨λn k=>?_,h.mod.trans b.mod,?_,λc d=>?_,λ_ _=>⟨_,by simp[jf,bR],h.mod.size,heap_alloc_new w _⟩,λc=>by rw[jf,bR,if_neg Ae];exact h.Ip c⟩)
 .rw[jf,bR,if_neg (by intro a;subst a;simp at k)];exact h.mW n k
 .obtain⟨p,v4,e,f,g,q,r⟩:=h.rows;exact⟨p,v4,e.ext b,f,g,λa=>by rw[jf,bR,if_neg Ae];exact q a,λa=>by cases a⟩
 .obtain⟨d,e,f,g⟩:=h.Ey c d;exact⟨d,by rw[jf,bR,if_neg Ae];exact e,f,b.obj g⟩
def oX.Qo(h:oX w1 s x pH w0 vs q6 true false d31 d32 d33 S w)(r:pH 22=cA (vs 3))(t:∀c d,c<5->(cA (vs c)).ownBlock=some d->d<w0.heap.size)(H:w1.heap.size<=w0.heap.size)(I:s.L.length<=100000)
  (e:∀k f,oX w1 s x pH w0 vs q6 true true d31 d32 d33 (put S (some 26) k) f->K k f) :
  oR Tryz.prog (.app T.b T.a 1 8 (.tmp 22) (.tmp 25)) S w K:=by
 obtain⟨l,u,J,v⟩:=h.Ey rfl rfl;obtain⟨L,m,g,i,j,M,y⟩:=h.rows;obtain rfl:=i rfl;show Au Tryz.prog T.b T.a 1 8 (S 22) (S 25) w K;rw[h.mW 22 Ae,r,u];have N:=h.mod.size;refine jH.app (vs:=fL (fL vs 3 (vs 3)) 4 m) (xs:=fL (fL s.rows 3 (if false=true then s.L++[x.aQ] else s.L)) 4 (if d32=true then s.H++[x.ab] else s.H)) (y:=x.aQ) 3 Ae g (λ_=>rfl) (g5 v) j8 (by simp[fL];omega) (by simp[fL];unfold maxLen;omega) AY λz f A B _=>?_;have n:Mod (λd=>(cA (vs 3)).ownBlock=some d) w f:=Mod.grown B λd e=>e;refine e _ _ ⟨λC p=>?_,h.mod.trans (n.Cy λd e=>.inl e),?_,λ_ a=>(by cases a),λb l=>?_,λb=>by rw[jf,bR,if_neg Ae];exact h.Ip b⟩
 .rw[jf,bR,if_neg (by intro a;subst a;simp at p)];exact h.mW C p
 .refine⟨z,m,A.congr (λc G=>?_) (λc G=>?_),λa=>(by cases a),j,λ_=>by simp[jf,bR],λa=>by rw[jf,bR,if_neg Ae];exact y a⟩
  .unfold fL;by_cases b:c=3
   .subst b;simp
   .simp[b]
  .unfold fL;by_cases b:c=3
   .subst b;simp
   .simp[b]
 .obtain⟨q,g,i,j⟩:=h.Io b l;exact⟨q,by rw[jf,bR,if_neg Ae];exact g,i,n.obj (λa=>by have:=t 3 q Ae a;omega) j⟩
def oX.Qp(h:oX w1 s x pH w0 vs q6 true true true false d33 S w)(k:pH 28=cA (vs 4))(A:w1.heap.size<=w0.heap.size)(B:s.H.length<=100000)
  (c:∀g d,oX w1 s x pH w0 vs q6 true true true true d33 (put S (some 32) g) d->K g d) :
  oR Tryz.prog (.app T.b T.a 1 8 (.tmp 28) (.tmp 31)) S w K:=by
 obtain⟨C,l,G,m⟩:=h.Io rfl rfl;obtain⟨i,H,n,I,p,q,J⟩:=h.rows;obtain rfl:=p rfl;show Au Tryz.prog T.b T.a 1 8 (S 28) (S 31) w K;rw[h.mW 28 Ae,k,l];have L:=h.mod.size;refine jH.app (vs:=fL (fL vs 3 i) 4 (vs 4)) (xs:=fL (fL s.rows 3 (if true=true then s.L++[x.aQ] else s.L)) 4 (if false=true then s.H++[x.ab] else s.H)) (y:=x.ab) 4 Ae n (λ_=>rfl) (g5 m) j8 (by simp[fL];omega) (by simp[fL];unfold maxLen;omega) AY λr d t u _=>?_;have v:Mod (λe=>(cA (vs 4)).ownBlock=some e) w d:=Mod.grown u λe c=>c;refine c _ _ ⟨λy j=>?_,h.mod.trans (v.Cy λe c=>.inr c),?_,λ_ a=>(by cases a),λ_ a=>(by cases a),λb=>by rw[jf,bR,if_neg Ae];exact h.Ip b⟩
 .rw[jf,bR,if_neg (by intro a;subst a;simp at j)];exact h.mW y j
 .refine⟨i,r,t.congr (λf z=>?_) (λf z=>?_),λa=>(by cases a),λa=>(by cases a),λa=>by rw[jf,bR,if_neg Ae];exact q a,λ_=>by simp[jf,bR]⟩
  .unfold fL;by_cases b:f=4
   .subst b;simp
   .simp[b]
  .unfold fL;by_cases b:f=4
   .subst b;simp
   .simp[b]
def oX.V5(h:oX w1 s x pH w0 vs q6 d25 d26 d31 d32 d33 S w):oX w1 s x pH w0 vs q6 d25 d26 d31 d32 true (cC S 33 (.pointer (some q6))) w:=by
 have b:∀a,a≠33->cC S 33 (.pointer (some q6)) a=S a:=λa f=>by rw[bR,if_neg f]
 refine⟨λa f=>?_,h.mod,?_,λg i=>?_,λg i=>?_,λ_=>by simp[bR]⟩
 .rw[b a (by intro c;subst c;simp at f)];exact h.mW a f
 .obtain⟨k,v4,d,e,l,m,n⟩:=h.rows;exact⟨k,v4,d,e,l,λc=>by rw[b _ Ae];exact m c,λc=>by rw[b _ Ae];exact n c⟩
 .obtain⟨j,d,e⟩:=h.Ey g i;exact⟨j,by rw[b _ Ae];exact d,e⟩
 .obtain⟨j,d,e⟩:=h.Io g i;exact⟨j,by rw[b _ Ae];exact d,e⟩
end
end Go.Proofs.R
namespace Go.Proofs.R
open Go Go.RowKit ba o
def lK(b:Nat)(w w':A_):Prop := ∀a,a<3->w'.cell? (Addr.add ⟨b,0,none⟩ a)=w.cell? (Addr.add ⟨b,0,none⟩ a)
def lK.refl{b:Nat}{w:A_}:lK b w w:=λ_ _=>rfl
def lK.trans{b:Nat}{w w' a:A_}(h:lK b w w')(k:lK b w' a):lK b w a:=λc d=>(k c d).trans (h c d)
theorem lK.of{b:Nat}{w w':A_}{a bg bj:B_}{l e:C_ B_}{t g:F_}{f i:Nat×Nat}(h:w.heap[b]? = some (.cells (a :: bg :: bj :: l).toArray t f))(c:w'.heap[b]? = some (.cells (a :: bg :: bj :: e).toArray g i)):lK b w w':=λd j=>by
 have:d=0\/d=1\/d=2:=AY
 rcases this with rfl | rfl | rfl
 .rw[gH h (v:=a) rfl,gH c (v:=a) rfl]
 .rw[gH h (v:=bg) rfl,gH c (v:=bg) rfl]
 .rw[gH h (v:=bj) rfl,gH c (v:=bj) rfl]
theorem lK.ext{b:Nat}{w w':A_}(a:Ext w w')(h:b<w.heap.size):lK b w w':=λc _=>by
 rw[add_eq];simp only[World.cell?,a.heap h]
def ZI:e2:=(.take (fs 21 4 3) (.take (dD 22 21) (.take (fs 23 0 11) (.take (dD 24 23) (.take (fs 27 5 3) (.take (dD 28 27) (.take (fs 29 1 11) (.take (dD 30 29) (.alt (c6 25 (.hk T.a 1 1 [(.int .i64 0)] [(0,(aN 24))])) (.alt (c6 26 (.app T.b T.a 1 8 (aN 22) (aN 25))) (.take (fs 33 4 3) (.alt (c6 31 (.hk T.a 1 1 [(.int .i64 0)] [(0,(aN 30))])) (.gw (c6 32 (.app T.b T.a 1 8 (aN 28) (aN 31))) (.gw (ys 33 26) (.take (fs 34 5 3) (.gw (ys 34 32) .done .nil)) .nil) .nil) .nil)) (.alt (c6 31 (.hk T.a 1 1 [(.int .i64 0)] [(0,(aN 30))])) (.alt (c6 26 (.app T.b T.a 1 8 (aN 22) (aN 25))) (.take (fs 33 4 3) (.gw (c6 32 (.app T.b T.a 1 8 (aN 28) (aN 31))) (.gw (ys 33 26) (.take (fs 34 5 3) (.gw (ys 34 32) .done .nil)) .nil) .nil)) .nil) .nil)) (.alt (c6 31 (.hk T.a 1 1 [(.int .i64 0)] [(0,(aN 30))])) (.alt (c6 25 (.hk T.a 1 1 [(.int .i64 0)] [(0,(aN 24))])) (.alt (c6 26 (.app T.b T.a 1 8 (aN 22) (aN 25))) (.take (fs 33 4 3) (.gw (c6 32 (.app T.b T.a 1 8 (aN 28) (aN 31))) (.gw (ys 33 26) (.take (fs 34 5 3) (.gw (ys 34 32) .done .nil)) .nil) .nil)) .nil) .nil) .nil))))))))))
def nz{S:Fr}{n m:Nat}{v a:B_}(h:S m=a)(b:m≠n):cC S n v m=a:=by rw[bR,if_neg b];exact h
def akd{w1 w:A_}{d bs y:Nat}{s:hG}{x:ea}{S:Fr}{N:Fr->A_->Prop}(ay:d≠bs)(aP:d<w1.heap.size/\bs<w1.heap.size)(O:lL w1 d bs s w)(P:S 3 = .pointer (some ⟨d,0,none⟩))(ai:S 11 = .pointer (some ⟨y,0,none⟩))
  (z:w.heap[y]? = some (.cells x.enc.toArray T.f))(Q:s.L.length<=100000)(U:s.H.length<=100000)
  (m:∀az e,lL w1 d bs ⟨s.V,s.C,s.cJ,s.n,s.L++[x.aQ],s.H++[x.ab],s.Z⟩ e->eI uR w e->lK d w e->N az e):∃C:A_->Prop,C w/\eN Tryz.prog C ZI S w N:=by
 obtain⟨c,aj,I,i,V,W⟩:=O.ex;have ak:=i.not I Ae;have al:=i.not z Ae;refine⟨Mod (λa=>(cA (c 3)).ownBlock=some a\/(cA (c 4)).ownBlock=some a) w,Mod.refl _ _,?_⟩;have X:∀e,Mod (λa=>(cA (c 3)).ownBlock=some a\/(cA (c 4)).ownBlock=some a) w e->e.heap[d]? = some (.cells #[cA (c 0),cA (c 1),cA (c 2),.I s.n,cA (c 3),cA (c 4)] T.h) :=
  λe j=>j.obj (λq=>q.elim (ak 3 Ae) (ak 4 Ae)) I
 have an:∀e,Mod (λa=>(cA (c 3)).ownBlock=some a\/(cA (c 4)).ownBlock=some a) w e->e.heap[y]? = some (.cells x.enc.toArray T.f) :=
  λe j=>j.obj (λq=>q.elim (al 3 Ae) (al 4 Ae)) z
 have u:w1.heap.size<=w.heap.size:=O.mod.size;unfold ZI;refine eN.ku P ?_;refine eN.cp (v:=cA (c 3)) (by simp[bR];rfl) (λe j=>gH (X e j) rfl) ?_;refine eN.ku (a:=⟨y,0,none⟩) (by simp[bR,ai]) ?_;refine eN.cp (v:=.I x.aQ) (by simp[bR];rfl) (λe j=>gH (an e j) rfl) ?_;refine eN.ku (a:=⟨d,0,none⟩) (by simp[bR,P]) ?_;refine eN.cp (v:=cA (c 4)) (by simp[bR];rfl) (λe j=>gH (X e j) rfl) ?_;refine eN.ku (a:=⟨y,0,none⟩) (by simp[bR,ai]) ?_;refine eN.cp (v:=.I x.ab) (by simp[bR];rfl) (λe j=>gH (an e j) rfl) ?_;generalize A:cC _ 30 _=n;have J:n 3 = .pointer (some ⟨d,0,none⟩):=by subst A;simp[bR,P]
 have Y:n 22=cA (c 3):=by subst A;simp[bR]
 have ao:n 24 = .I x.aQ:=by subst A;simp[bR]
 have Z:n 28=cA (c 4):=by subst A;simp[bR]
 have ab:n 30 = .I x.ab:=by subst A;simp[bR]
 have aB:∀b,c b=fL (fL c 3 (c 3)) 4 (c 4) b:=λb=>by
  unfold fL;by_cases f:b=4
  .subst f;simp
  .by_cases B:b=3
   .subst B;simp
   .simp[f,B]
 have aC:∀b,s.rows b=fL (fL s.rows 3 (if false=true then s.L++[x.aQ] else s.L)) 4 (if false=true then s.H++[x.ab] else s.H) b:=λb=>by
  unfold fL;by_cases f:b=4
  .subst f;simp[hG.rows]
  .by_cases B:b=3
   .subst B;simp[hG.rows]
   .simp[f,B]
 have aq:oX w1 s x n w c (Addr.add ⟨d,0,none⟩ 4) false false false false false n w :=
  ⟨λ_ _=>rfl,Mod.refl _ _,⟨c 3,c 4,i.congr (λb r=>aB b) (λb r=>aC b),
   λ_=>rfl,λ_=>rfl,λg=>(by cases g),λg=>(by cases g)⟩,λg=>(by cases g),λg=>(by cases g),λg=>(by cases g)⟩
 have ae:∀b a,b<5->(cA (c b)).ownBlock=some a->a<w.heap.size:=λb a r aD=>(i.lt b a r aD).2;have af:∀S t,oX w1 s x n w c (Addr.add ⟨d,0,none⟩ 4) true true true true true S t->eN Tryz.prog (Mod (λa=>(cA (c 3)).ownBlock=some a\/(cA (c 4)).ownBlock=some a) w) (.gw (ys 33 26) (.take (fs 34 5 3) (.gw (ys 34 32) .done .nil)) .nil) S t N:=by
  intro S t p;obtain⟨K,L,ar,_,_,aE,aF⟩:=p.rows;have ag:=X t p.mod;refine eN.ia ?_;show AJ (S 33) (S 26) t _;rw[p.Ip rfl,aE rfl];refine VY λaG=>_B ag Ah rfl λM aH aI=>?_;show eN _ _ _ S _ _;refine eN.ku (a:=⟨d,0,none⟩) (by rw[p.mW 3 Ae,J]) ?_;refine eN.ia ?_;show AJ (cC S 34 _ 34) (cC S 34 _ 32) M _;rw[show cC S 34 (.pointer (some (Addr.add ⟨d,0,none⟩ 5))) 34 = .pointer (some (Addr.add ⟨d,0,none⟩ 5)) from by simp[bR],nz (aF rfl) Ae];refine VY λaG=>_B aI Ah rfl λah aJ au=>?_;have G:=aH.trans aJ;have aK:=ar.not ag Ae;obtain⟨av,aQ⟩:∃av,av=cA aj:=⟨_,rfl⟩;refine m _ _ ⟨?_,fL (fL c 3 K) 4 L,aj,?_,(ar.mod (G.mod (A:=λa=>a=d) rfl) λb a r m g=>aK b r (by rw[<-g];exact m)).congr (λ_ _=>rfl) (λb r=>?_),?_,?_⟩ ?_ ?_
  .refine(O.mod.comp p.mod (B:=λa=>a=d\/a=bs) (λ_ _ f=>f) λb r f=>?_).trans (G.mod (A:=λa=>a=d\/a=bs) (.inl rfl));rcases f with f | f
   .have:=(i.lt 3 b Ae f).1;omega
   .have:=(i.lt 4 b Ae f).1;omega
  .exact au
  .have:b=0\/b=1\/b=2\/b=3\/b=4:=AY
   rcases this with rfl | rfl | rfl | rfl | rfl<;>simp[fL,hG.rows]
  .exact G.obj (p.mod.obj (λq=>q.elim (i.not V Ae 3 Ae) (i.not V Ae 4 Ae)) V) (Ne.symm ay)
  .refine(W.mod p.mod λa m q=>?_).mod (G.mod (A:=λa=>a=d) rfl) λa m g=>?_
   .obtain⟨cur,h⟩:=W.b0 a m;exact q.elim (i.not h Ae 3 Ae) (i.not h Ae 4 Ae)
   .obtain⟨cur,h⟩:=W.b0 a m;subst g;rw[I] at h;injection h with h;injection h with _ g;exact absurd g Ae
  .refine(eI.mod p.mod λa aR aS z f=>?_).trans (eI.wr G ag Ae);rcases f with f | f
   .obtain⟨cur,h⟩:=(i.own 3 Ae).b0 a f;rw[z] at h;injection h with h;injection h with _ g;rw[g];decide
   .obtain⟨cur,h⟩:=(i.own 4 Ae).b0 a f;rw[z] at h;injection h with h;injection h with _ g;rw[g];decide
  .exact lK.of I au
 clear m;refine⟨ng.e (aq.af4 ao λaL t v=>⟨v.mod,?_,?_,trivial⟩),ng.e (aq.UK ab λaL t v=>⟨v.mod,?_⟩),trivial⟩
 .refine ng.e (v.Qo Y ae u Q λK M l=>⟨l.mod,?_⟩);refine eN.ku (a:=⟨d,0,none⟩) (by rw[l.mW 3 Ae,J]) ?_;refine eN.C3 (ng.e (l.V5.UK ab λL ah k=>⟨k.mod,?_⟩));exact eN.ia (mm.e (k.Qp Z u U λaw ax H=>af _ _ H))
 .refine ng.e (v.UK ab λK M l=>⟨l.mod,?_⟩);refine eN.C3 (ng.e (l.Qo Y ae u Q λL ah k=>⟨k.mod,?_⟩));refine eN.ku (a:=⟨d,0,none⟩) (by rw[k.mW 3 Ae,J]) ?_;exact eN.ia (mm.e (k.V5.Qp Z u U λaw ax H=>af _ _ H))
 .refine eN.C3 (ng.e (v.af4 ao λK M l=>⟨l.mod,?_⟩));refine eN.C3 (ng.e (l.Qo Y ae u Q λL ah k=>⟨k.mod,?_⟩));refine eN.ku (a:=⟨d,0,none⟩) (by rw[k.mW 3 Ae,J]) ?_;exact eN.ia (mm.e (k.V5.Qp Z u U λaw ax H=>af _ _ H))
end Go.Proofs.R
namespace Go.Proofs.R
open Go Go.RowKit ba o
section
variable{w1:World}{c8 bs:Nat}{s:hG}{W bH:World}
def ax2{vs:Nat->ez}{i:ez}{j2 j3 g:A_}{y:o.Cell}{B:B_}(C:c8≠bs)(H:Mod (λa=>a=c8\/a=bs) w1 W)(r:W.heap[c8]? = some (.cells #[cA (vs 0),cA (vs 1),cA (vs 2),.I s.n,cA (vs 3),cA (vs 4)] T.h))(t:jH da T.a 1 w1.heap.size W 5 vs s.rows)
  (u:W.heap[bs]? = some (.cells #[cA i] T.z))(v:aT o.Cell.slot T.p 4 w1.heap.size W (cA i) s.Z)(j:Ext W j2)(I:j2.grownBy j3 (cA i).ownBlock)(w:aT o.Cell.slot T.p 4 w1.heap.size j3 B (s.Z++[y]))
  (x:dX bs j3 g)(z:g.heap[bs]? = some (.cells #[B] T.z)):lL w1 c8 bs ⟨s.V,s.C,s.cJ,s.n,s.L,s.H,s.Z++[y]⟩ g/\eI uR W g/\lK c8 W g:=by
 obtain⟨J,K,rfl,_⟩:=w.form;have l:Mod (λa=>(cA i).ownBlock=some a) j2 j3:=Mod.grown I λa c=>c;have G:∀{a:Nat} {h:Array B_} {e:F_},W.heap[a]? = some (.cells h e)->e≠T.p->¬(cA i).ownBlock=some a:=λ{a h e} c A f=>by
  obtain⟨m,b⟩:=v.b0 a f;rw[c] at b;injection b with b;injection b with _ b;exact A b
 have n:∀{a:Nat} {h:Array B_} {e:F_},W.heap[a]? = some (.cells h e)->e≠T.p->j3.heap[a]? = some (.cells h e):=λc A=>l.obj (G c A) (j.obj c);have p:Mod (λa=>a=bs) j3 g:=x.mod rfl;refine⟨⟨?_,vs,(J,_,K),p.obj C (n r Ae),?_,z,w.mod p λa c f=>?_⟩,?_,lK.of r (p.obj C (n r Ae))⟩
 .have L:Mod (λa=>a=c8\/a=bs) w1 j2:=H.comp (A':=λ_=>False) j.mod (λ_ _ d=>d) λ_ _ d=>d.elim;have M:Mod (λa=>a=c8\/a=bs) w1 j3:=L.comp l (λ_ _ d=>d) λk q d=>by have:=(v.lt k d).1;omega
  exact M.trans (x.mod (.inr rfl))
 .refine((t.ext j).mod l λk a q c f=>?_).mod p λk a q c f=>?_
  .obtain⟨m,b⟩:=(t.own k q).b0 a c;exact G b Ae f
  .subst f;obtain⟨m,b⟩:=(t.own k q).b0 a c;rw[u] at b;injection b with b;injection b with _ b;exact absurd b Ae
 .subst f;obtain⟨m,b⟩:=w.b0 a c;rw[n u Ae] at b;injection b with b;injection b with _ b;exact absurd b Ae
 .refine((eI.ext j).trans (eI.mod l λa h e z d=>?_)).trans (eI.wr x (n u Ae) Ae);obtain⟨m,b⟩:=(v.ext j).b0 a d;rw[z] at b;injection b with b;injection b with _ b;rw[b];decide
def amf{vs:Nat->ez}{d:ez}{n:Int}(l:c8≠bs)(m:Mod (λa=>a=c8\/a=bs) w1 W)(c:W.heap[c8]? = some (.cells #[cA (vs 0),cA (vs 1),cA (vs 2),.I s.n,cA (vs 3),cA (vs 4)] T.h))(i:jH da T.a 1 w1.heap.size W 5 vs s.rows)
  (p:W.heap[bs]? = some (.cells #[cA d] T.z))(j:aT o.Cell.slot T.p 4 w1.heap.size W (cA d) s.Z)(e:dX c8 W bH)(q:n=((s.n+1:Nat):Int))
  (k:bH.heap[c8]? = some (.cells #[cA (vs 0),cA (vs 1),cA (vs 2),.I n,cA (vs 3),cA (vs 4)] T.h)):lL w1 c8 bs ⟨s.V,s.C,s.cJ,s.n+1,s.L,s.H,s.Z⟩ bH/\eI uR W bH/\lK c8 W bH:=by
 subst q;have f:Mod (λa=>a=c8) W bH:=e.mod rfl;refine⟨⟨m.trans (e.mod (.inl rfl)),vs,d,k,i.mod f λr a t g h=>?_,f.obj (Ne.symm l) p,j.mod f λa g h=>?_⟩,eI.wr e c Ae,lK.of c k⟩
 .subst h;exact i.not c Ae r t g
 .subst h;obtain⟨u,b⟩:=j.b0 a g;rw[c] at b;injection b with b;injection b with _ b;exact absurd b Ae
end
def atm(so b:Int)(v:B_)(l:C_ ea)(f jC g:C_ Int)(cs:C_ o.Cell)(base:Nat)(w1:A_)(d bs:Nat)(w:A_)(r:d≠bs)(U:d<w1.heap.size/\bs<w1.heap.size)(e:lL w1 d bs (hG.of f jC g cs) w)(C:aT ea.enc T.f 3 base w v l)
  (aE:cs.length+l.length<=100000) :
  EL F.r #[.I so,.I b,v,.pointer (some ⟨d,0,none⟩),.pointer (some ⟨bs,0,none⟩)] w λv c=>v = .I cs.length/\lL w1 d bs (hG.of f jC g (cs++fz so b l 0)) c/\eI uR w c/\lK d w c:=by
 obtain⟨G,V,rfl,_⟩:=C.form;obtain⟨aF,W,h,k,i,j⟩:=e.ex;refine bn E.r ?_;refine ad ?_;refine K_ 16 l.length [0,1,2,3,4,9,14,15] (λ_:Unit=>[]) () (λa _ c=>lL w1 d bs (hG.of f jC g (cs++fz so b (l.take a) 0)) c/\eI uR w c/\lK d w c) aW aW ⟨by simpa[fz] using e,eI.refl,lK.refl⟩ ?_;clear h k i j e;rintro a _ X H aG ⟨e,s,I⟩;have Y:a6 3 (Flat ea.enc) H (.slice G l.length V) l:=aT.lF (enc:=ea.enc) (λ_=>rfl) (C.h1 s Ae);refine ad ?_;apply I_<;>intro h
 .have J:a<l.length:=AY
  obtain⟨aH,rfl⟩:=Y.addr;have t:(fz so b (l.take a) 0).length=a:=by rw[rD,IP];omega
  have aI:=y4 l[a];refine eA ?_;simp -dsimp only[cD];refine eA ?_;simp -dsimp only[cD];refine eA ?_;intro aJ aK Z K ab;refine eA ?_;intro u L M;have x:=L.ext K Z;have y:=e.ext x;clear L K ab;refine eA ?_;refine R_ [0,1,2,3,4,9,10,11,14,15,16] (λ_:Unit=>[]) (λ_ c=>lL w1 d bs ⟨f,jC,g,(cs++fz so b (l.take a) 0).length,(cs++fz so b (l.take a) 0).map (·.aQ)++[l[a].aQ],(cs++fz so b (l.take a) 0).map (·.ab)++[l[a].ab],cs++fz so b (l.take a) 0⟩ c/\eI uR u c/\lK d u c) ?_ ?_
  .refine ad ?_;intro ae m;refine _y (akd r U (y.ext m) (by simp[bR]) (by simp[bR]) (m.obj M) (by simp[hG.of,t];omega) (by simp[hG.of,t];omega) λaL c af a ag=>?_);refine ad ?_;exact⟨(),trivial,af,(eI.ext m).trans a,(lK.ext m (by have:=y.mod.size;omega)).trans ag⟩
  have ah:lK d H u:=lK.ext x (by have:=e.mod.size;omega);clear y;rintro _ X ae ⟨n,N,ai⟩;obtain⟨aP,⟨W,aQ,aR⟩,h,k,i,j⟩:=n.ex;have aS:=N.b0 _ _ _ M Ae;refine ad ?_;intro aj ak aU p q;replace q:aj.heap[ak]? = some (.cells (o.Cell.slot ⟨so,b,a,l[a].aQ,l[a].ab,l[a].kind⟩).toArray T.p):=q;have z:=j.ext p;have aX:=n.mod.size;have aY:=p.size;have O:(cs++fz so b (l.take a) 0).length=cs.length+a:=by rw[JM,t]
  refine T_ (y:=⟨so,b,a,l[a].aQ,l[a].ab,l[a].kind⟩) z q rfl (λ_=>rfl) aic (by simp only[O];omega) (by unfold maxLen;simp only[O];omega) AY λG aZ a0 a1 P A=>?_;have al:=z.box A (p.obj i) Ae;refine ad ?_;intro a3 an Q;obtain⟨B,ao,aq⟩:=ax2 r n.mod h k i j p A P an Q;dsimp only at B;obtain⟨a5,a7,S,ar,au,av⟩:=B.ex;clear h k i j n z P A al Q q;have aw:=S;dsimp only[cA] at S;refine ad ?_;intro a8 ax ay;obtain⟨az,aB,aC⟩:=amf r B.mod aw ar au av ax (by dsimp only;omega) ay;refine ad ?_;refine⟨J,aV,(),trivial,?_,((((s.trans (eI.ext x)).trans N).trans ao).trans aB),((((I.trans ah).trans ai).trans aq).trans aC)⟩;rw[atn J,<-Vh];have aD:hG.of f jC g ((cs++fz so b (l.take a) 0)++[⟨so,b,a,l[a].aQ,l[a].ab,l[a].kind⟩])=⟨f,jC,g,(cs++fz so b (l.take a) 0).length+1,(cs++fz so b (l.take a) 0).map (·.aQ)++[l[a].aQ],(cs++fz so b (l.take a) 0).map (·.ab)++[l[a].ab],cs++fz so b (l.take a) 0++[⟨so,b,a,l[a].aQ,l[a].ab,l[a].kind⟩]⟩:=by
   simp[hG.of,List.map_append,Nat.add_assoc]
  rw[aD];exact az
 .refine ad ?_;rw[IA AY] at e;exact⟨aV,e,s,I⟩
end Go.Proofs.R
namespace ba
open Go Go.RowKit
section
variable{P:Program}{C:World->Prop}{S:Fr}{w:World}{K:Fr->World->Prop}
def eN.px{d m:Nat}{r:e2}{v:B_}(a:S m=v)(h:eN P C r (cC S d v) w K):eN P C (.take ⟨some d,none,.p (.px (.tmp m))⟩ r) S w K:=by subst a;exact h
theorem ng.c{i:rQ}{d:Nat}{k:Fr->A_->Prop}(h:sL P i S w λb a=>C a/\k (put S (some d) b) a):ng P C ⟨some d,none,.c i⟩ S w k:=h
end
end ba
namespace o
def hG.add(s:hG)(off:Nat)(y:Int):hG:=if off=0 then { s with V:=s.V++[y] } else if off=1 then { s with C:=s.C++[y] } else { s with cJ:=s.cJ++[y] }
end o
namespace Go.Proofs.R
open Go Go.RowKit ba o
def aak(n x y off:Nat)(so:Int):e2 :=
 (.take (fs n off 4) (.take (dD (n+1) n) (.take (aM (n+2) 6) (.take (aM (n+3) x) (.take (aM (n+4) y)
 (.alt (fv (n+5) (.val (aN (n+2)) [(bP so),(aN (n+3)),(aN (n+4))]))
 (.alt (c6 (n+6) (.hk T.a 1 1 [(.int .i64 0)] [(0,(aN (n+5)))]))
 (.gw (c6 (n+7) (.app T.b T.a 1 8 (aN (n+1)) (aN (n+6))))
 (.take (fs (n+8) off 4) (.gw (ys (n+8) (n+7)) .done .nil)) .nil) .nil) .nil))))))
def QI{w1 w:A_}{c bs n x y off base:Nat}{so k:Int}{H:B_}{l:C_ ea}{m jC p:C_ Int}{cs:C_ o.Cell}{S:Fr}{Z:Fr->A_->Prop}(O:off<3)(aY:20<=n)(aZ:x<20)(a0:y<20)
  (ab:c≠bs)(aq:c<w1.heap.size/\bs<w1.heap.size)(ae:S 4 = .pointer (some ⟨c,0,none⟩))(ar:S 6 = .func (.func F.r) #[] #[.pointer (some ⟨c,0,none⟩),.pointer (some ⟨bs,0,none⟩)])(au:S x = .I k)(av:S y=H)
  (af:lL w1 c bs (hG.of m jC p cs) w)(aw:aT ea.enc T.f 3 base w H l)(ax:cs.length+l.length<=100000)(P:m.length<=100000/\jC.length<=100000/\p.length<=100000)
  (h:∀ag v,(∀d,d<n\/n+8<d->ag d=S d)->lL w1 c bs ((hG.of m jC p (cs++fz so k l 0)).add off cs.length) v->eI uR w v->Z ag v):∃C:A_->Prop,C w/\eN Tryz.prog C (aak n x y off so) S w Z:=by
 obtain⟨A,a1,j,q,Q,B⟩:=af.ex;have I:w.cell? (Addr.add ⟨c,0,none⟩ off)=some (cA (A off)):=by
  have:off=0\/off=1\/off=2:=AY
  rcases this with rfl | rfl | rfl<;>exact gH j rfl
 refine⟨λv=>v.cell? (Addr.add ⟨c,0,none⟩ off)=some (cA (A off)),I,?_⟩;unfold aak;refine eN.ku ae ?_;refine eN.cp (v:=cA (A off)) (by simp[bR]) (λv ay=>ay) ?_;refine eN.px (nz (nz ar AY) AY) ?_;refine eN.px (nz (nz (nz au AY) AY) AY) ?_;refine eN.px (nz (nz (nz (nz av AY) AY) AY) AY) ?_;generalize z:cC _ (n+4) _=e;have az:∀d,d<n\/n+8<d->e d=S d:=by
  subst z;intro d J;simp only[bR];rw[if_neg AY,if_neg AY,if_neg AY,if_neg AY,if_neg AY]
 have aB:e 4 = .pointer (some ⟨c,0,none⟩):=by subst z;exact nz (nz (nz (nz (nz ae AY) AY) AY) AY) AY
 have aC:e (n+1)=cA (A off):=by subst z;simp[bR]
 have aD:e (n+2) = .func (.func F.r) #[] #[.pointer (some ⟨c,0,none⟩),.pointer (some ⟨bs,0,none⟩)]:=by subst z;simp[bR]
 have aE:e (n+3) = .I k:=by subst z;simp[bR]
 have aF:e (n+4)=H:=by subst z;simp[bR]
 refine eN.C3 (ng.c ?_);show CI _ (e (n+2)) [.I so,e (n+3),e (n+4)] w _;rw[aD,aE,aF];refine QH (first:=[]) (cap:=[.pointer (some ⟨c,0,none⟩),.pointer (some ⟨bs,0,none⟩)]) Cl (atm so k H l m jC p cs base w1 c bs w ab aq af aw ax) ?_;rintro _ r ⟨rfl,aG,aH,U⟩;refine⟨(U off O).trans I,?_⟩;refine eN.C3 (ng.e ?_);have G:Ext r (r.alloc (.cells #[.I cs.length] T.a)):=(Ext.refl r).alloc _;rw[amN];refine AO (cs:=[.I cs.length]) (Rs (by simp[jf,bR])) ?_;refine⟨G.cell ((U off O).trans I),?_⟩;have ah:=heap_alloc_new r (.cells #[.I cs.length] T.a);have s:=G.cell ((U off O).trans I);have K:=aG.ext G;have ai:eI uR w (r.alloc (.cells #[.I cs.length] T.a)):=aH.trans (eI.ext G);show eN _ _ _ _ (r.alloc (.cells #[.I cs.length] T.a)) _;generalize r.alloc (.cells #[.I cs.length] T.a)=aj at ah s K ai;clear G j q Q B;obtain⟨t,aI,j,q,Q,B⟩:=K.ex;have aJ:cA (A off)=cA (t off):=by
  have:off=0\/off=1\/off=2:=AY
  rcases this with rfl | rfl | rfl
  .rw[gH j (v:=cA (t 0)) rfl] at s;exact(Option.some.inj s).symm
  .rw[gH j (v:=cA (t 1)) rfl] at s;exact(Option.some.inj s).symm
  .rw[gH j (v:=cA (t 2)) rfl] at s;exact(Option.some.inj s).symm
 refine eN.ia (mm.e ?_);rw[amM];unfold aN;rw[dE,dE];rw[show ∀b f,put (put e (some (n+5)) b) (some (n+6)) f (n+1)=cA (t off) from λb f=>by rw[jf,jf,<-aJ];exact nz (nz aC AY) AY,
  show ∀b f,put (put e (some (n+5)) b) (some (n+6)) f (n+6)=f from λb f=>by rw[jf,jf,bR,if_pos rfl]]
 have a3:=K.mod.size;have a5:((hG.of m jC p (cs++fz so k l 0)).rows off).length<=100000:=by
  have:off=0\/off=1\/off=2:=AY
  rcases this with rfl | rfl | rfl
  .exact P.1
  .exact P.2.1
  .exact P.2.2
 refine jH.app (y:=(cs.length:Int)) off AY q (λ_=>rfl) (g5 ah) j8 AY (by unfold maxLen;omega) AY λaK L ak aL _=>?_;have M:Mod (λa=>(cA (t off)).ownBlock=some a) aj L:=Mod.grown aL λa h=>h;have al:∀{a:Nat} {V:Array B_} {d:F_},aj.heap[a]? = some (.cells V d)->d≠T.a->L.heap[a]? = some (.cells V d):=λh J=>M.obj (q.not h J off AY) h;refine eN.ku (a:=⟨c,0,none⟩) (by rw[jf,jf,jf];exact nz (nz (nz aB AY) AY) AY) ?_;refine eN.ia ?_;show AJ (cC _ (n+8) _ (n+8)) (cC (put _ (some (n+7)) _) (n+8) _ (n+7)) L _;rw[show ∀(S:Fr) W,cC S (n+8) W (n+8)=W from λS W=>by rw[bR,if_pos rfl],show ∀(S:Fr) b f,cC (put S (some (n+7)) b) (n+8) f (n+7)=b from λS b f=>by rw[jf,bR,if_neg AY,bR,if_pos rfl]];have X:=al j Ae;refine VY λa7=>_B X (by simp;omega) rfl λaP N aQ=>?_;have an:Mod (λa=>a=c) L aP:=N.mod rfl;refine h _ _ (λd J=>?_) ⟨?_,fL t off aK,aI,?_,(ak.mod an λi a Y aR u=>?_).congr (λ_ _=>rfl) (λi Y=>?_),?_,?_⟩ ?_
 .simp only[jf,agR,bR];rw[if_neg AY,if_neg AY,if_neg AY,if_neg AY];exact az d J
 .refine(K.mod.comp M (B:=λa=>a=c\/a=bs) (λ_ _ b=>b) λi Y b=>?_).trans (N.mod (A:=λa=>a=c\/a=bs) (.inl rfl))
  have:=(q.lt off i AY b).1;omega
 .rw[aQ]
  have:off=0\/off=1\/off=2:=AY
  rcases this with rfl | rfl | rfl<;>rfl
 .subst u;exact ak.not X Ae i Y aR
 .have b:off=0\/off=1\/off=2:=AY
  have f:i=0\/i=1\/i=2\/i=3\/i=4:=AY
  rcases b with rfl | rfl | rfl<;>rcases f with rfl | rfl | rfl | rfl | rfl<;>rfl
 .exact N.obj (al Q Ae) (Ne.symm ab)
 .have aS:((hG.of m jC p (cs++fz so k l 0)).add off cs.length).Z=(hG.of m jC p (cs++fz so k l 0)).Z:=by unfold hG.add; (repeat' split)<;>rfl
  rw[aS];refine(B.mod M λa h aU=>?_).mod an λa h u=>?_
  .obtain⟨ao,g⟩:=B.b0 a h;exact q.not g Ae off AY aU
  .obtain⟨ao,g⟩:=B.b0 a h;subst u;rw[j] at g;injection g with g;injection g with _ u;exact absurd u Ae
 .refine(ai.trans (eI.mod M λa V a8 aX b=>?_)).trans (eI.wr N X Ae);obtain⟨ao,g⟩:=(q.own off AY).b0 a b;rw[aX] at g;injection g with g;injection g with _ u;rw[u];decide
end Go.Proofs.R
namespace ba
open Go Go.RowKit
def aT.y5{α:Type}{enc:α->C_ B_}{e:F_}{sz base b n:Nat}{w:A_}{cs:C_ B_}(xs:C_ α)(h:w.heap[b]? = some (.cells cs.toArray e))(f:base<=b)(a:cs=xs.flatMap enc)(c:∀g,(enc g).length=sz)(i:n=xs.length)(j:xs.length<=maxLen):aT enc e sz base w (.slice (some ⟨b,0,none⟩) n n) xs:=by
 subst i;have d:cs.length=xs.length*sz:=by rw[a,mV c]
 exact⟨by rw[mV c],.inr ⟨b,xs.length,cs.toArray,rfl,f,h,EM _,j,by simpa using d,by simp only;rw[<-d,AG9,a]⟩⟩
def AD1{P:D_}{g:B_->A_->Prop}{α:Type}{enc:α->C_ B_}{e:F_}{sz base:Nat}{w:A_}{v:B_}{xs:C_ α}{j:F_}{h b:Nat}{y:α}{cs:C_ B_}{t}(k:aT enc e sz base w v xs)(l:w.heap[b]? = some (.cells cs.toArray e))(m:cs=enc y)(n:∀p,(enc p).length=sz)(q:∀y,∀r∈enc y,r.oneCell'=true)
  (s:(xs.length+1)*h<=140737488355328)(u:xs.length+1<=maxLen)(x:base<=w.heap.size)
  (z:∀a c d f,aT enc e sz base f (.slice a c d) (xs++[y])->w.grownBy f v.ownBlock->((Value.slice a c d).ownBlock=v.ownBlock\/(Value.slice a c d).ownBlock=some w.heap.size)->g (.slice a c d) f):lJ P j e sz h v (.slice (some ⟨b,0,none⟩) 1 1) w g t:=by
 refine _I (ys:=[y]) k n (by subst m;simpa using g5 l) rfl q s u x λC f i A B=>?_;obtain⟨a,G,rfl,_⟩:=i.form;exact z _ _ _ _ i A B
end ba
namespace o
open Go Go.RowKit ba
structure lM(w:World)(cs:List Value)(x:yM):Prop where
 ex:∃v0 v1 v2 eC v4,cs=[v0,v1,v2,.int .i64 x.cells,eC,v4]/\a6 1 (Flat da) w v0 x.vars/\a6 1 (Flat da) w v1 x.aA/\a6 1 (Flat da) w v2 x.insts/\a6 1 (Flat da) w eC x.aQ/\a6 1 (Flat da) w v4 x.ab
theorem lM.ext{w w':A_}{cs:C_ B_}{x:yM}(a:Ext w w')(h:lM w cs x):lM w' cs x :=
 let ⟨v0,v1,v2,b,v4,c,d,e,f,g,i⟩:=h.ex
 ⟨v0,v1,v2,b,v4,c,d.ext Flat.ext a,e.ext Flat.ext a,f.ext Flat.ext a,g.ext Flat.ext a,i.ext Flat.ext a⟩
def lM.form{w:A_}{cs:C_ B_}{x:yM}(h:lM w cs x):∃a b c bg d bj e f g i,cs=[.slice a x.vars.length b,.slice c x.aA.length bg,.slice d x.insts.length bj,.I x.cells,.slice e x.aQ.length f,.slice g x.ab.length i] /\
  a6 1 (Flat da) w (.slice a x.vars.length b) x.vars/\a6 1 (Flat da) w (.slice c x.aA.length bg) x.aA/\a6 1 (Flat da) w (.slice d x.insts.length bj) x.insts/\a6 1 (Flat da) w (.slice e x.aQ.length f) x.aQ/\a6 1 (Flat da) w (.slice g x.ab.length i) x.ab:=by
 obtain⟨p,q,r,s,t,rfl,j,k,l,m,n⟩:=h.ex;obtain⟨a,b,rfl,_⟩:=j.form;obtain⟨c,bg,rfl,_⟩:=k.form;obtain⟨d,bj,rfl,_⟩:=l.form;obtain⟨e,f,rfl,_⟩:=m.form;obtain⟨g,i,rfl,_⟩:=n.form;exact⟨a,b,c,bg,d,bj,e,f,g,i,rfl,j,k,l,m,n⟩
def Pf{v:Var}{s:C_ Scalar}(h:CY v s)(c:s.length<=2):0<=v.scalar/\v.scalar<=2:=by
 rcases h.fa with a | a
 .omega
 .unfold size at a;split at a
  .rename_i d b
   have:=(List.getElem?_eq_some_iff.1 b).1
   split at a<;>omega
  .exact absurd rfl a
def QO{v:eb}{s:C_ Scalar}(h:Fa v s)(c:s.length<=2):0<=v.scalar/\v.scalar<=2:=by
 rcases h.fa with a | a
 .omega
 .unfold size at a;split at a
  .rename_i d b
   have:=(List.getElem?_eq_some_iff.1 b).1
   split at a<;>omega
  .exact absurd rfl a
def Pa(m:Model)(h:gh m)(k:Nat):total ((bT m).take k)<=64:=by
 have a:=MB h;have b:=h.cells;have c:=zX m;have d:total (bT m)=total ((bT m).take k)+total ((bT m).drop k):=by rw[<-IM,AH6]
 omega
def Wh(m:Model)(h:gh m)(k:Nat):total (bT m)+total ((cn m).take k)<=64:=by
 have a:=MB h;have b:=h.cells;have c:=zX m;have d:total (cn m)=total ((cn m).take k)+total ((cn m).drop k):=by rw[<-IM,AH6]
 omega
def aiJ(m:Model)(h:gh m)(k:Nat):total (bT m)+total (cn m)+total ((dH m).take k)<=64:=by
 have a:=MB h;have b:=h.cells;have c:=zX m;have d:total (dH m)=total ((dH m).take k)+total ((dH m).drop k):=by rw[<-IM,AH6]
 omega
end o
namespace Go.Proofs.R
open Go Go.RowKit ba o
def afu(cs:C_ B_)(m:o.Model)(w:A_)(h:dU w cs m)(cm:m.cB)(y:gh m) :
  EL F.Kd #[.agg cs.toArray] w λb a1=>(∃aj aK,b = .tuple #[.agg aj.toArray,aK]/\ec w (λw=>lM w aj (o.layout m)) a1/\ec w (λw=>a6 4 (Flat o.Cell.slot) w aK (bF m)) a1)/\Ext w a1:=by
 obtain⟨dx,dy,dz,bg,dA,bj,dB,dC,dF,dG,rfl,aL,bG,bH,bI,dI,dK,dL,dM,dO,dP⟩:=h.form;have a3:=y.gT;refine bn E.Kd ?_;refine ad ?_;intro dQ bJ dR a5 c;have dV:=cf c;refine ad ?_;intro dW ak a7 aP x;have dY:=cf x;replace c:=aP.obj c;refine ad ?_;intro dZ z ee al an;have ef:=cf an;replace c:=al.obj c;replace x:=al.obj x;refine ad ?_;intro t G eg Y a8;have eh:=cf a8;replace c:=Y.obj c;replace x:=Y.obj x;replace an:=Y.obj an;have ei:=a5.size;have ej:=aP.size;have eo:=al.size;have er:=Y.size;have cp:=((a5.trans aP).trans al).trans Y;clear a5 aP al Y;have a9:z≠G:=AY
 have bb:z<t.heap.size/\G<t.heap.size:=⟨AY,AY⟩;have bK:lL t z G (hG.of [] [] [] []) t:=⟨Mod.refl _ _,λ_=>(none,0,0),(none,0,0),an,⟨λp ao=>by
   have g:(hG.of [] [] [] []).rows p=[]:=by unfold hG.rows; (repeat' split)<;>rfl
   rw[g];exact aT.nil _ _ _ _ _,λp d a _ _ _ g=>by cases g⟩,a8,aT.nil _ _ _ _ _⟩
 have aQ:∀{aq e},lL t z G aq e->e.heap[bJ]? = t.heap[bJ]? := λh=>h.mod.block _ AY AY;have bL:∀{aq e},lL t z G aq e->e.heap[ak]? = t.heap[ak]? := λh=>h.mod.block _ AY AY;have bf:∀{aq e},lL t z G aq e->Ext w e:=λh=>h.mod.ext cp λp ao g=>AY
 rw[c] at aQ;rw[x] at bL;refine ad ?_;refine K_ 24 m.vars.length [1,2,4,5,6,22,23] (λ_:Unit=>[]) () (λa _ e=>lL t z G (hG.of (g0 0 ((bT m).take a)) [] [] (o.cellsOf 1 ((bT m).take a) 0)) e) aW aW (by simpa[g0,o.cellsOf] using bK) ?_;clear bK an a8 c x;rintro a _ ar A I i;have c:=aQ i;have dh:=bf i;refine ad ?_;apply I_<;>intro Z
 .have u:a<m.vars.length:=AY
  obtain⟨ab,rfl⟩:=bG.addr;have au:=((bG.at a u).cells).ext dh;have J:=y.var _ (FA u);have bM:=Pf J a3.1;refine ad ?_;intro bN cq cr K v;refine ad ?_;intro k L l;have j:Ext A k:=L.ext K cr;replace l:k.heap[cq]? = some (.cells m.vars[a].enc.toArray T.j):=l;replace c:=j.obj c;clear L K v au;have hb:=dh.trans j;refine ad ?_;refine J_ (Df m.vars[a] _ m.scalars k (aL.ext hb)) ?_;rintro _ n ⟨rfl,q⟩;have et:=r3 m.vars[a] m.scalars;have dT:=hb.trans q;have ct:=q.obj c;have cu:=q.obj l;refine ad ?_;refine K_ 33 (o.cells m.vars[a] m.scalars).toNat [1,2,4,5,6,7,8,22,23,24,32] (λb:ez=>[(9,.slice b.1 b.2.1 b.2.2)]) (none,0,0) (λd b e=>Ext n e/\aT ea.enc T.f 3 n.heap.size e (.slice b.1 b.2.1 b.2.2) (List.replicate d (dJ m.vars[a].scalar m.vars[a].aQ m.vars[a].ab m.scalars))) aW aW ⟨Ext.refl _,aT.nil _ _ _ _ _⟩ ?_;clear c l;rintro d b ar ae bO ⟨r,M⟩;have c:=r.obj ct;have l:=r.obj cu;refine ad ?_;apply I_<;>intro aR
  .have N:d<(o.cells m.vars[a] m.scalars).toNat:=AY
   refine ad ?_;refine J_ (Uo m.vars[a] _ m.scalars ae (aL.ext (dT.trans r)) (by unfold ev;omega)) ?_;rintro _ V ⟨rfl,B⟩;have bk:=y4 (dJ m.vars[a].scalar m.vars[a].aQ m.vars[a].ab m.scalars);refine ad ?_;intro H cv eu W bl;replace bl:H.heap[cv]? = some (.cells (dJ m.vars[a].scalar m.vars[a].aQ m.vars[a].ab m.scalars).enc.toArray T.f):=bl;have O:=M.ext (B.trans W);have bQ:=(r.trans B).trans W;have P:(List.replicate d (dJ m.vars[a].scalar m.vars[a].aQ m.vars[a].ab m.scalars)).length=d:=AG1;refine T_ (y:=dJ m.vars[a].scalar m.vars[a].aQ m.vars[a].ab m.scalars) O bl rfl (λ_=>rfl) y4 (by rw[P];omega) (by rw[P];unfold maxLen;omega) bQ.size λav aw ax ay aS cw=>?_;refine ad ?_;exact⟨N,aV,(av,aw,ax),aW,O.h9 bQ cw (EM _),by rw[List.replicate_succ'];exact aS⟩
  .have bo:d=(o.cells m.vars[a] m.scalars).toNat:=AY
   have cx:=i.ext ((j.trans q).trans r);replace M:aT ea.enc T.f 3 n.heap.size ae (.slice b.1 b.2.1 b.2.2) (qW m.scalars m.vars[a]):=by rw[bo] at M;exact M
   have v:=j5 1 ((bT m).take a) 0;have bU:=Pa m y a;refine ad ?_;intro V B;refine _y (QI (n:=43) (x:=7) (y:=9) (off:=0) (so:=1) Ae Ae Ae Ae a9 bb (by simp[bR]) (by simp[bR]) (by simp[bR];rfl) (by simp[bR]) (cx.ext B) (M.ext B) (by rw[v,vb];omega) ⟨by rw[rK,IP];omega,Ah,Ah⟩ λaz H aB aC bp=>?_);have aD:az 24 = .I a:=by rw[aB 24 Ae];simp[bR]
   refine ad ?_;rw[aD];refine ad ?_;refine⟨u,aV,(),trivial,?_⟩;have aE:a<(bT m).length:=by simpa[bT] using u
   have g:(bT m)[a]=qW m.scalars m.vars[a]:=by simp[bT]
   rw[Oi aE,g,O4,AV];have aF:(0+((bT m).take a).length:Nat)=a:=by rw[IP];omega
   rw[aF,ZQ,<-v];exact aC
 have cy:m.vars.length<=a:=AY
 rw[IA (by simpa[bT] using cy)] at i;have cz:=Pa m y m.vars.length;rw[IA (by simp[bT])] at cz;refine ad ?_;refine K_ 56 m.aA.length [1,2,4,5,6,54,55] (λ_:Unit=>[]) () (λa _ e=>lL t z G (hG.of (g0 0 (bT m)) (g0 (o.total (bT m)) ((cn m).take a)) [] (o.cellsOf 1 (bT m) 0++o.cellsOf 2 ((cn m).take a) 0)) e) aW aW (by simpa[g0,o.cellsOf] using i) ?_;clear i c dh;rintro a _ ar A I i;have c:=aQ i;have dh:=bf i;refine ad ?_;apply I_<;>intro aR
 .have u:a<m.aA.length:=AY
  obtain⟨ab,rfl⟩:=bH.addr;have au:=((bH.at a u).cells).ext dh;have J:=y.chan _ (FA u);have bM:=QO J a3.1;have eB:=J.cap;refine ad ?_;intro bN cB cE K v;refine ad ?_;intro k L l;have j:Ext A k:=L.ext K cE;replace l:k.heap[cB]? = some (.cells m.aA[a].enc.toArray T.r):=l;replace c:=j.obj c;clear L K v au;have bq:=c;have cF:=l;have hb:=dh.trans j;refine ad ?_;intro n aU cG q aG;replace aG:n.heap[aU]? = some (.cells ([(⟨0,m.aA[a].cap,0⟩:ea)].flatMap ea.enc).toArray T.f):=aG;have bV:aT ea.enc T.f 3 k.heap.size n (.slice (some ⟨aU,0,none⟩) 1 1) [(⟨0,m.aA[a].cap,0⟩:ea)]:=aT.y5 _ aG cG rfl (λ_=>rfl) rfl (by simp[maxLen]);replace c:=q.obj c;replace l:=q.obj l;have dT:=hb.trans q;have bW:=aG;clear aG;refine ad ?_;refine J_ (Uo ⟨⟨#[]⟩,m.aA[a].scalar,0,min m.aA[a].aQ 0,max m.aA[a].ab 0,0⟩ _ m.scalars n (aL.ext dT) (by unfold ev;simp only;omega)) ?_;rintro _ ae ⟨rfl,r⟩;have bk:=y4 (dJ m.aA[a].scalar (min m.aA[a].aQ 0) (max m.aA[a].ab 0) m.scalars);refine ad ?_;intro V af eC B Q;replace Q:V.heap[af]? = some (.cells (j6 m.scalars m.aA[a]).enc.toArray T.f):=Q;replace c:=(r.trans B).obj c;replace l:=(r.trans B).obj l;have S:=bV.ext (r.trans B);have cI:=(q.trans r).trans B;clear bV;refine ad ?_;have eE:aU<af:=by have:=cf bW;have:=r.size;omega
  refine K_ 79 m.aA[a].cap.toNat [1,2,4,5,6,10,11,13,54,55,56,78] (λb:ez=>[(12,.slice b.1 b.2.1 b.2.2)]) (some ⟨aU,0,none⟩,1,1) (λd b e=>Ext k e/\e.heap[af]? = V.heap[af]? /\ aT ea.enc T.f 3 k.heap.size e (.slice b.1 b.2.1 b.2.2) (⟨0,m.aA[a].cap,0⟩ :: List.replicate d (j6 m.scalars m.aA[a]))/\(Value.slice b.1 b.2.1 b.2.2).ownBlock≠some af) aW aW ⟨cI,rfl,S,by simp[Value.ownBlock];omega⟩ ?_;rw[Q];have eF:=cf Q;clear c l Q S bW;rintro d b ar H bO ⟨aX,Q,O,bX⟩;have c:=aX.obj bq;have l:=aX.obj cF;refine ad ?_;apply I_<;>intro X
  .have N:d<m.aA[a].cap.toNat:=AY
   have bk:=y4 (j6 m.scalars m.aA[a]);refine ad ?_;intro ay cK eG s bt;replace bt:ay.heap[cK]? = some (.cells (j6 m.scalars m.aA[a]).enc.toArray T.f):=bt;have aS:=O.ext s;have P:((⟨0,m.aA[a].cap,0⟩:ea) :: List.replicate d (j6 m.scalars m.aA[a])).length=d+1:=Ah
   have bY:=aX.trans s;have eH:=cf (s.obj Q);refine AD1 (y:=j6 m.scalars m.aA[a]) aS bt rfl (λ_=>rfl) y4 (by rw[P];omega) (by rw[P];unfold maxLen;omega) bY.size λav aw ax bu aY b0 cL=>?_;have cM:bu.heap[af]? = _:=(Mod.grown (A:=λp=>(Value.slice b.1 b.2.1 b.2.2).ownBlock=some p) b0 λa I=>I).obj bX (s.obj Q);refine ad ?_;refine⟨N,aV,(av,aw,ax),aW,aS.h9 bY b0 (EM _),cM,by rw[List.replicate_succ'];exact aY,λg=>?_⟩;rcases cL with ab | ab
   .exact bX (ab.symm.trans g)
   .rw[ab] at g;injection g with g;omega
  .have bo:d=m.aA[a].cap.toNat:=AY
   have cN:=i.ext (j.trans aX);replace O:aT ea.enc T.f 3 k.heap.size H (.slice b.1 b.2.1 b.2.2) (iH m.scalars m.aA[a]):=by rw[bo] at O;exact O
   have v:=j5 1 (bT m) 0;have bw:=j5 2 ((cn m).take a) 0;have aH:(o.cellsOf 1 (bT m) 0++o.cellsOf 2 ((cn m).take a) 0).length=o.total (bT m)+o.total ((cn m).take a):=by rw[JM,v,bw]
   have bU:=Wh m y a;refine ad ?_;intro ay s;refine _y (QI (n:=86) (x:=10) (y:=12) (off:=1) (so:=2) Ae Ae Ae Ae a9 bb (by simp[bR]) (by simp[bR]) (by simp[bR];rfl) (by simp[bR]) (cN.ext s) (O.ext s) (by rw[aH,o3];omega) ⟨by rw[rK];simp[bT];omega,by rw[rK,IP];omega,Ah⟩ λaz H aB aC bp=>?_);have aD:az 56 = .I a:=by rw[aB 56 Ae];simp[bR]
   refine ad ?_;rw[aD];refine ad ?_;refine⟨u,aV,(),trivial,?_⟩;have aE:a<(cn m).length:=by simpa[cn] using u
   have g:(cn m)[a]=iH m.scalars m.aA[a]:=by simp[cn]
   rw[Oi aE,g,O4,AV];have aF:(0+((cn m).take a).length:Nat)=a:=by rw[IP];omega
   rw[aF,<-Vh,<-aH];exact aC
 have cP:m.aA.length<=a:=AY
 rw[IA (by simpa[cn] using cP)] at i;have cQ:=Wh m y m.aA.length;rw[IA (by simp[cn])] at cQ;refine ad ?_;refine J_ (Mm _ m A (h.ext dh) cm) ?_;rintro eK cS ⟨b1,cU⟩;obtain⟨cV,cW,rfl,_⟩:=b1.form;have b3:=i.ext cU;have eL:(o.insts m).length<=30:=by have:=ts m;have:=y.procs;omega
 refine ad ?_;refine K_ 99 (o.insts m).length [1,2,4,5,6,97,98] (λ_:Unit=>[]) () (λa _ e=>lL t z G (hG.of (g0 0 (bT m)) (g0 (o.total (bT m)) (cn m)) (g0 (o.total (bT m)+o.total (cn m)) ((dH m).take a)) (o.cellsOf 1 (bT m) 0++o.cellsOf 2 (cn m) 0++o.cellsOf 3 ((dH m).take a) 0)) e/\eI uR cS e) aW aW ⟨by simpa[g0,o.cellsOf] using b3,eI.refl⟩ ?_;clear i b3 c dh;rintro a _ ar A I ⟨i,b4⟩;have c:=aQ i;have dh:=bf i;have b5:rS A (.slice cV (o.insts m).length cW) (o.insts m):=aT.lF (enc:=c9.enc) (λ_=>rfl) (b1.h1 b4 Ae);refine ad ?_;apply I_<;>intro X
 .have u:a<(o.insts m).length:=AY
  obtain⟨eM,rfl⟩:=b5.addr;have cX:=qJ _ (FA u);obtain⟨f,b6,cY,b8⟩:=uL cX;have J:=y.proc _ (FA b6);have eP:=J.cb;have eQ:=J.gT.1;refine ad ?_;intro bN c0 c1 K v;refine ad ?_;intro k L l;have j:Ext A k:=L.ext K c1;replace l:k.heap[c0]? = some (.cells #[.I f,.I (o.insts m)[a].elem] T.c):=by rw[<-cY];exact l
  replace c:=j.obj c;clear L K v b5;have hb:=dh.trans j;obtain⟨ab,rfl⟩:=bI.addr;obtain⟨eR,eS,dN,bx,bz,c2⟩:=bI.at f b6;obtain⟨c3,c4,rfl,eU⟩:=bz.form;obtain⟨c5,c8,rfl,eV⟩:=c2.form;replace bx:=bx.ext hb;refine ad ?_;intro n db eW q U;replace U:n.heap[db]? = some (.cells (m.procs[f].enc (.slice c3 m.procs[f].vars.length c4) (.slice c5 m.procs[f].cP.length c8)).toArray T.af):=U;unfold ed.enc at U;have dT:=hb.trans q;replace c:=q.obj c;clear bx;refine ad ?_;intro ae bA dc r aZ;replace aZ:ae.heap[bA]? = some (.cells ([(⟨0,m.procs[f].cb - 1,0⟩:ea)].flatMap ea.enc).toArray T.f):=aZ;have M:aT ea.enc T.f 3 n.heap.size ae (.slice (some ⟨bA,0,none⟩) 1 1) [(⟨0,m.procs[f].cb - 1,0⟩:ea)]:=aT.y5 _ aZ dc rfl (λ_=>rfl) rfl (by simp[maxLen]);have bq:=c;have dd:=U;replace U:=r.obj U;clear aZ c;refine ad ?_;refine K_ 118 m.procs[f].vars.length [1,2,4,5,6,14,16,97,98,99,116,117] (λb:ez=>[(17,.slice b.1 b.2.1 b.2.2)]) (some ⟨bA,0,none⟩,1,1) (λd b e=>Ext n e/\aT ea.enc T.f 3 n.heap.size e (.slice b.1 b.2.1 b.2.2) (⟨0,m.procs[f].cb - 1,0⟩ :: (m.procs[f].vars.take d).map λb=>dJ b.scalar b.aQ b.ab m.scalars)) aW aW ⟨r,by simpa using M⟩ ?_;clear U M;rintro d b ar V bO ⟨ag,S⟩;have c:=ag.obj bq;have U:=ag.obj dd;have ko:=dT.trans ag;refine ad ?_;apply I_<;>intro bB
  .have N:d<m.procs[f].vars.length:=AY
   obtain⟨eX,rfl⟩:=bz.addr;have au:=((bz.at d N).cells).ext ko;have de:=J.var _ (FA N);have bM:=Pf de a3.1;refine ad ?_;intro H df eY W b9;replace b9:H.heap[df]? = some (.cells m.procs[f].vars[d].enc.toArray T.j):=b9;replace c:=W.obj c;have h7:=ko.trans W;clear au;refine ad ?_;refine J_ (Uo m.procs[f].vars[d] _ m.scalars H (aL.ext h7) (by unfold ev;omega)) ?_;rintro _ ay ⟨rfl,s⟩;have bk:=y4 (dJ m.procs[f].vars[d].scalar m.procs[f].vars[d].aQ m.procs[f].vars[d].ab m.scalars);refine ad ?_;intro bu di eZ ca bC;replace bC:bu.heap[di]? = some (.cells (dJ m.procs[f].vars[d].scalar m.procs[f].vars[d].aQ m.procs[f].vars[d].ab m.scalars).enc.toArray T.f):=bC;have aY:=S.ext ((W.trans s).trans ca);have cb:=((ag.trans W).trans s).trans ca;have P:((⟨0,m.procs[f].cb - 1,0⟩:ea) :: (m.procs[f].vars.take d).map λb=>dJ b.scalar b.aQ b.ab m.scalars).length=d+1:=by simp;omega
   refine T_ (y:=dJ m.procs[f].vars[d].scalar m.procs[f].vars[d].aQ m.procs[f].vars[d].ab m.scalars) aY bC rfl (λ_=>rfl) y4 (by rw[P];omega) (by rw[P];unfold maxLen;omega) cb.size λav aw ax e0 dj dk=>?_;refine ad ?_;exact⟨N,aV,(av,aw,ax),aW,aY.h9 cb dk (EM _),by rw[Oi N,AF9];exact dj⟩
  .have dp:=i.ext ((j.trans q).trans ag);have dq:eI uR A V:=eI.ext ((j.trans q).trans ag);replace S:aT ea.enc T.f 3 n.heap.size V (.slice b.1 b.2.1 b.2.2) (kf m (o.insts m)[a]):=by rw[IA AY] at S;rw[b8];exact S
   have v:=j5 1 (bT m) 0;have bw:=j5 2 (cn m) 0;have dr:=j5 3 ((dH m).take a) 0;have aH:(o.cellsOf 1 (bT m) 0++o.cellsOf 2 (cn m) 0++o.cellsOf 3 ((dH m).take a) 0).length=o.total (bT m)+o.total (cn m)+o.total ((dH m).take a):=by rw[JM,JM,v,bw,dr]
   have bU:=aiJ m y a;have e4:(kf m (o.insts m)[a]).length<=10:=by rw[b8,py];omega
   refine ad ?_;intro ay s;refine _y (QI (n:=130) (x:=14) (y:=17) (off:=2) (so:=3) Ae Ae Ae Ae a9 bb (by simp[bR]) (by simp[bR]) (by simp[bR];rfl) (by simp[bR]) (dp.ext s) (S.ext s) (by rw[aH];omega) ⟨by rw[rK];simp[bT];omega,by rw[rK];simp[cn];omega,by rw[rK,IP];omega⟩ λaz H aB aC bp=>?_);have aD:az 99 = .I a:=by rw[aB 99 Ae];simp[bR]
   refine ad ?_;rw[aD];refine ad ?_;refine⟨u,aV,(),trivial,?_,((b4.trans dq).trans (eI.ext s)).trans bp⟩;have aE:a<(dH m).length:=by simpa[dH] using u
   have g:(dH m)[a]=kf m (o.insts m)[a]:=by simp[dH]
   rw[Oi aE,g,O4,AV];have aF:(0+((dH m).take a).length:Nat)=a:=by rw[IP];omega
   rw[aF,<-Vh,<-aH];exact aC
 have du:(o.insts m).length<=a:=AY
 rw[IA (by simpa[dH] using du)] at i;have x:=bL i;obtain⟨C,aK,Z,aR,X,bB⟩:=i.ex;have bD:∀{k e},Ext A k->dX ak k e->(∃aj cc,Value.tuple #[.agg #[cA (C 0),cA (C 1),cA (C 2),.I (bF m).length,cA (C 3),cA (C 4)],cA aK] = .tuple #[.agg aj.toArray,cc]/\ec w (λw=>lM w aj (o.layout m)) e/\ec w (λw=>a6 4 (Flat o.Cell.slot) w cc (bF m)) e)/\Ext w e:=by
  intro k e ah bE;have a7:=ah.obj x;have dv:=(aR.ext ah).mod (bE.mod (A:=λp=>p=ak) rfl) λp a ao I g=>by subst g;exact(aR.ext ah).not a7 Ae p ao I
  have dw:=(bB.ext ah).mod (bE.mod (A:=λp=>p=ak) rfl) λa I g=>by
   subst g;obtain⟨e7,a0⟩:=(bB.ext ah).b0 a I;rw[a7] at a0;injection a0 with a0;injection a0 with _ g;exact absurd g Ae
  have ch:w.heap.size<=t.heap.size:=AY
  have aI:=λ(p:Nat) (ao:p<5)=>aT.new (e:=T.a) (enc:=da) (λ_=>rfl) (aT.low ch (dv.own p ao));refine⟨⟨[_,_,_,_,_,_],_,rfl,λeT aJ=>⟨⟨_,_,_,_,_,rfl,aI 0 Ae eT aJ,aI 1 Ae eT aJ,aI 2 Ae eT aJ,aI 3 Ae eT aJ,aI 4 Ae eT aJ⟩⟩,aT.new (e:=T.p) (enc:=o.Cell.slot) (λ_=>rfl) (aT.low ch dw)⟩,bE.ext (dh.trans ah) AY⟩
 replace Z:A.heap[z]? = some (.cells #[cA (C 0),cA (C 1),cA (C 2),.I (bF m).length,cA (C 3),cA (C 4)] T.h):=Z;refine ad ?_;intro k j;replace Z:=j.obj Z;replace X:=j.obj X;replace x:=j.obj x;dsimp only[cA] at Z X;refine ad ?_;refine⟨?_,?_⟩
 .refine ad ?_;refine⟨?_,?_⟩
  .refine ad ?_;intro n ai cj;refine ad ?_;exact bD j ai
  .refine ad ?_;intro n ai cj;replace X:=ai.obj X AY;refine ad ?_;exact bD j ai
 .refine ad ?_;intro n ai cj;refine ad ?_;exact bD j ai
end Go.Proofs.R