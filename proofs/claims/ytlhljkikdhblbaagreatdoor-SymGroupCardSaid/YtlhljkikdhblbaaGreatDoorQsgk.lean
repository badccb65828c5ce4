/- Parts. -/
import Derived.Test.YtlhljkikdhblbaaGreatDoorQsgj
import Derived.Defers
import Derived.Recover
set_option linter.all false
set_option maxRecDepth 100000
set_option maxHeartbeats 16000000
namespace Go.Proofs.R
open Go Go.RowKit a8 o
def k4.V9{w0 w w' d:A_}{b c k:Nat}{cs:C_ B_}{e:C_ ByteArray}(h:k4 w0 w b c cs w' e)(f:w0.heap.size<=w.heap.size)(a:dY k w' d)(g:w.heap.size<=k)(i:c≠k)(j:b≠k):k4 w0 w b c cs d e :=
 ⟨a.ext h.ext (T6 f g),h.mod.then (a.mod (A:=λl=>l=k) rfl) λn p m=>absurd m AW,a.obj h.box i,h.set.wr a j,h.low,h.ne⟩
def avw{w0:A_}(cs:C_ B_)(m:o.Model)(g:Nat)(w:A_)(h:eu w0 cs m)(ai:m.cS)(av:Ext w0 w)(a5:w0.heap.size<=g)(a6:gZ w0)(a7:(o.data m).bN=0)(O:gp w g (oO m m.ay.length)) :
  r6 Tryz.prog F.ns #[.agg cs.toArray,.map (some g)] w (λ_ c=>(oQ m).bN=0/\Ext w0 c/\Mod (λa=>a=g) w c/\gp c g (j0 m m.procs.length))
   (λq c=>(oQ m).bN≠0/\q=yq (oQ m)/\Ext w0 c/\Mod (λa=>a=g) w c):=by
 have aw:=h;obtain⟨ck,cm,cp,bg,cq,bj,cr,ct,cu,cv,rfl,cw,cx,cB,P,cC,cD,cF,cI,cJ,cL⟩:=h.form;have aj:=av.size;refine _q kB E.ns CS (args:=[_,_]) (Nat.le_of_ble_eq_true rfl) ?_;dsimp only[C.ns];refine ow ?_;refine ad ?_;intro a9 G cM Q e;have v:k4 w0 w g G _ a9 (oO m m.ay.length):=⟨av.trans Q,Q.mod,e,O.ext Q,a5,by have:=O.lt;omega⟩;have cN:=O.lt;have cO:=ca e;clear O e;refine ad ?_;refine _w λba u cP ax az=>?_;replace v:=v.then ax;have r:gp ba u []:=gp.empty az;have cQ:=Q.size;have cS:=r.lt;clear az;refine ad ?_;refine AC3 (b:=g) rfl (k:=T.m) (e:=T.Ft) Cg v.set λcT bb bf cU aA x=>?_;replace v:=v.then aA;replace r:=r.ext aA;have cW:=ax.size;have cX:=x.lt;refine ad ?_;refine _V [1,2,4,20] (λ_:C_ ByteArray×Nat=>[]) ([],bf) (λj c=>k4 w0 w g G _ c (oO m m.ay.length)/\gp c u j.1/\∃aB,oX c bb g (oO m m.ay.length) j.1 j.2 aB) (λj=>j.2) aV ⟨v,r,_,x⟩ ?_;clear v r x;rintro⟨D,cY⟩ cZ bk ⟨S,r,aB,x⟩;have e:=S.box;refine ad ?_;refine AC4 rfl x (λaC=>?_) (λbn bo bp c1 br aD aE=>?_);rotate_left
 .have s:=S.V9 aj aD AW AW AW;have bt:=r.wr aD AW;refine ad ?_;refine AC5 rfl aE ?_;refine ad ?_;refine _z bt λak aF bu=>?_;have t:=s.V9 aj aF AW AW AW;have bw:=aE.wr aF AW AW;refine ad ?_;exact⟨(D++[bn],bp),trivial,⟨t,bu,_,bw⟩,br⟩
 have b:gp bk u (j0 m 0):=r.j2 λj=>by
  have bx:=x.sub;simp only[j0,z5,List.take_zero,List.map_nil,List.append_nil];exact⟨λal=>bx j al,λal=>aC j al⟩
 clear r x aC;refine ad ?_;refine K_ 30 m.procs.length [1,2,4,28,29] (λ_:Unit=>[]) () (λa _ c=>k4 w0 w g G _ c (oO m m.ay.length)/\gp c u (j0 m a)) aV aV ⟨S,b⟩ ?_;clear e S b;rintro a _ c2 bo bz ⟨s,b⟩;have e:=s.box;have aG:=s.ext;refine ad ?_;apply I_<;>intro bA
 .have k:a<m.procs.length:=AW
  obtain⟨bB,rfl⟩:=P.addr;obtain⟨_,bC,dI,y,H,U⟩:=P.at a k;obtain⟨bE,bF,rfl,bG⟩:=H.form;obtain⟨bH,bI,rfl,bJ⟩:=U.form;replace y:=y.ext aG;refine ad ?_;intro ak c3 c4 aH c5;have t:=s.then aH;replace b:=b.ext aH;refine ad ?_;refine _z b λI V bK=>?_;have i:=t.V9 aj V AW AW AW;refine ad ?_;exact⟨k,aZ,(),trivial,i,by simp only[j0,z5];rw[EM (λj:ee=>j.name) _ k,<-VA];exact bK⟩
 have aI:∀{c},gp c u (j0 m a)->gp c u (j0 m m.procs.length):=λh=>h.j2 λj=>by
  simp only[j0,z5];rw[Im AW,Im (Fy _)]
 replace b:=aI b;clear aI;replace s:=s.j2 (show _=j0 m 0 by simp[j0]);refine ad ?_;refine K_ 41 m.procs.length [1,2,4,39,40] (λ_:Unit=>[]) () (λa _ c=>k4 w0 w g G _ c (j0 m a)/\gp c u (j0 m m.procs.length)/\∀d,d<a->(jr m d).1=0) aV aV ⟨s,b,λd h=>absurd h (Og _)⟩ ?_;clear e aG s b;rintro a _ c9 ak bz ⟨t,b,J⟩;have e:=t.box;have aJ:=t.ext;have db:=t.mod.size;refine ad ?_;apply I_<;>intro bA
 .have k:a<m.procs.length:=AW
  obtain⟨bB,rfl⟩:=P.addr;obtain⟨bL,bC,dI,y,H,U⟩:=P.at a k;obtain⟨bE,bF,rfl,bG⟩:=H.form;obtain⟨bH,bI,rfl,bJ⟩:=U.form;have W:=ai.proc _ (ID k);have f:=Q0 k;replace y:=y.ext aJ;refine ad ?_;intro dc dd bM aK bN;refine eC ?_;intro I V l;have X:=V.ext aK bM;have i:=t.then X;replace b:=b.ext X;replace e:=i.box;have de:=ca l;have df:=b.lt;have K:=i.ext;clear bN aK V;refine ad ?_;apply I_<;>intro bO
  .have bP:6<=a:=AW
   rw[if_pos bP] at f;have n:=H3 k J (by rw[f];decide);rw[f] at n;refine ad ?_;refine U_ (sR 11 4 a 0 I) ?_ ?_
   .rintro _ _ ⟨z,_⟩;exact absurd z Ae
   .rintro q _ ⟨_,rfl,rfl⟩;refine ad ?_;rw[n];exact⟨(show(11:Int)≠0 by decide),aZ,K,i.mod⟩
  rw[if_neg AW] at f;refine ad ?_;intro bR A;replace e:=A.obj e;replace l:=A.obj l;refine ad ?_;refine J_ (ahw _ m a bR (aw.ext (K.trans A)) ai) ?_;rintro _ bV ⟨⟨dg,rfl,aM⟩,L⟩;refine⟨L,?_⟩;have an:=aM.here;obtain⟨dh,di,dj,dr,dt,du,dv,dw,dx,dz,rfl,_⟩:=an.form;refine ad ?_;refine J_ (avd m.procs[a] _ _ (h0 m a) bV (a6.ext (K.trans (A.trans L))) ⟨bL,_,_,rfl,H.ext (K.trans (A.trans L)),U.ext (K.trans (A.trans L))⟩ an (ai.h0 _) W) ?_;rintro _ bW ⟨rfl,aP⟩;have aQ:=(A.trans L).trans aP;have B:=i.then aQ;replace b:=b.ext aQ;replace e:=B.box;replace l:=(L.trans aP).obj l;have dB:=ca l;have dC:=b.lt;clear an aM i K;have ao:=B.ext;have dF:=age m.procs[a] (h0 m a) 140737488351232 λq bX=>by have:=(W.cmd q bX).b6;unfold eO at this;omega
  have dG:m.procs[a].vars.length<=140737488351232:=by have:=W.vars;unfold eO at this;omega
  have dJ:m.procs[a].cL.length<=140737488351232:=by have:=W.cL;unfold eO at this;omega
  refine ad ?_;refine U_ (sR (iH m.procs[a] (h0 m a)).2.2 4 a (16*(iH m.procs[a] (h0 m a)).1+(iH m.procs[a] (h0 m a)).2.1) bW) ?_ ?_;rotate_left
  .rintro q _ ⟨z,rfl,rfl⟩;rw[if_pos z] at f;have n:=H3 k J (by rw[f];exact z);rw[f] at n;refine ad ?_;rw[n];exact⟨z,aZ,ao,B.mod⟩
  rintro _ bY ⟨z,rfl⟩;rw[if_neg (by simpa using z)] at f;refine ad ?_;refine U_ (OO g (j0 m a) m.procs[a].name 4 a bY B.set) ?_ ?_;rotate_left
  .rintro q _ ⟨Y,rfl,rfl⟩;rw[if_pos Y] at f;have n:=H3 k J (by rw[f];decide);rw[f] at n;refine ad ?_;rw[n];exact⟨(show(7:Int)≠0 by decide),aZ,ao,B.mod⟩
  rintro _ aS ⟨Y,Z,bZ⟩;rw[if_neg Y] at f;have ab:k4 w0 w g G _ aS (j0 m (a+1)):=(B.wr Z bZ).j2 (by simp only[j0,z5];rw[EM (λj:ee=>j.name) _ k,VA]);replace b:=b.wr Z AW;replace e:=ab.box;replace l:=Z.obj l AW;have b0:=ab.ext;have dK:=Z.size;clear B ao;refine ad ?_;refine K_ 74 m.procs[a].vars.length [1,2,4,8,9,39,40,41,72,73] (λ_:Unit=>[]) () (λd _ c=>k4 w0 w g G _ c (j0 m (a+1))/\gp c u (j0 m m.procs.length)/\Ext aS c/\∀p,p<d->sl m m.procs[a] p=0) aV aV ⟨ab,b,Ext.refl _,λd h=>absurd h (Og _)⟩ ?_;have b1:=l;clear ab b e l b0;rintro d _ dL dN ae ⟨af,b,aT,aq⟩;have e:=af.box;have l:=aT.obj b1;have b3:=af.ext;refine ad ?_;apply I_<;>intro b4
  .have ag:d<m.procs[a].vars.length:=AW
   obtain⟨dP,rfl⟩:=H.addr;have dQ:=((H.at d ag).cells).ext b3;have aU:=Ej (f:=λj:o.Var=>j.name) ag;refine ad ?_;intro dR dS b5 aW b6;refine eC ?_;intro b8 aX dT;have ar:=aX.ext aW b5;have ah:=af.then ar;replace b:=b.ext ar;replace e:=ah.box;clear b6 aW aX;refine ad ?_;refine AA4 b ?_;refine ad ?_;apply I_<;>intro aY
   .have a0:sl m m.procs[a] d=7:=by unfold sl;rw[aU,if_pos aY]
    rw[kd ag aq (by rw[a0];decide),a0,if_pos (show(7:Int)≠0 by decide)] at f;have n:=H3 k J (by rw[f];exact(show(7:Int)≠0 by decide));rw[f] at n;refine ad ?_;refine U_ (sR 7 4 a (16+d) b8) ?_ ?_
    .rintro _ _ ⟨N,_⟩;exact absurd N Ae
    .rintro q _ ⟨_,rfl,rfl⟩;refine ad ?_;rw[n];exact⟨(show(7:Int)≠0 by decide),aZ,ah.ext,ah.mod⟩
   .refine ad ?_;refine⟨ag,aZ,(),trivial,ah,b,aT.trans ar,λp a2=>?_⟩;by_cases b9:p=d
    .subst b9;unfold sl;rw[aU,if_neg aY]
    .exact aq p AW
  .rw[qv λp a2=>aq p AW,if_neg Ah] at f;refine ad ?_;refine⟨k,aZ,(),trivial,af,b,λp a2=>?_⟩;by_cases cb:p=a
   .subst cb;rw[f]
   .exact J p AW
 have cc:m.procs.length<=a:=AW
 have au:∀d,d<m.procs.length->(jr m d).1=0:=λd ae=>J d AW;have dV:=FY a7;have dW:m.procs.length<=6:=by
  apply Classical.byContradiction;intro Y
  have:=J8 (i:=6) AW (au 6 AW)
  omega
 have ch:wN m:=⟨AW,AW,AW,λdX y=>by
  obtain⟨d,ae,rfl⟩:=List.mem_iff_getElem.1 y
  have:=UZ (Dg ae (au d ae)).2.1
  omega⟩
 refine ad ?_;refine J_ (avi _ m ak (aw.ext aJ) ch) ?_;rintro _ I ⟨rfl,X⟩;have i:=t.then X;replace e:=i.box;have M:=U1 au;have cj:gp I g (j0 m m.procs.length):=by
  have h:=i.set;simp only[j0,z5] at h ⊢;rw[Im cc] at h;rw[Im (Fy _)];exact h
 refine ad ?_;apply I_<;>intro bO
 .rw[if_pos (.inl AW)] at M;refine ad ?_;refine U_ (sR 11 4 m.procs.length 0 I) ?_ ?_
  .rintro _ _ ⟨N,_⟩;exact absurd N Ae
  .rintro q _ ⟨_,rfl,rfl⟩;refine ad ?_;rw[M];exact⟨(show(11:Int)≠0 by decide),aZ,i.ext,i.mod⟩
 refine ad ?_;apply I_<;>intro b4
 .rw[if_pos (.inr AW)] at M;refine ad ?_;refine U_ (sR 11 4 m.procs.length 0 I) ?_ ?_
  .rintro _ _ ⟨N,_⟩;exact absurd N Ae
  .rintro q _ ⟨_,rfl,rfl⟩;refine ad ?_;rw[M];exact⟨(show(11:Int)≠0 by decide),aZ,i.ext,i.mod⟩
 rw[if_neg AW] at M;refine ad ?_;exact⟨by rw[M];rfl,i.ext,i.mod,cj⟩
def avx{w0:A_}(cs:C_ B_)(m:o.Model)(g:Nat)(w:A_)(h:eu w0 cs m)(an:m.cS)(ao:Ext w0 w)(aq:w0.heap.size<=g)(ar:gZ w0)(x:gp w g (j0 m m.procs.length)) :
  r6 Tryz.prog F.qq #[.agg cs.toArray,.map (some g)] w (λ_ e=>(rR m).bN=0/\Ext w0 e/\Mod (λa=>a=g) w e)
   (λl e=>(rR m).bN≠0/\l=yq (rR m)/\Ext w0 e/\Mod (λa=>a=g) w e):=by
 have au:=h;obtain⟨aJ,aK,aM,bg,aP,bj,aQ,aS,aT,aU,rfl,aW,aX,aY,a0,P,a2,a5,a6,a7,a9⟩:=h.form;refine _q kB E.qq CS (args:=[_,_]) (Nat.le_of_ble_eq_true rfl) ?_;dsimp only[C.qq];refine ow ?_;refine ad ?_;intro y I ba z i;have J:k4 w0 w g I _ y (tE m 0):=⟨ao.trans z,z.mod,i,by have:=x.ext z;simpa[tE] using this,aq,by have:=x.lt;omega⟩;have bb:=x.lt;have bf:=z.size;clear x;refine ad ?_;refine J_ (ahw _ m (-1) y (au.ext J.ext) an) ?_;rintro _ bk ⟨⟨bn,rfl,A⟩,Q⟩;rw[Ob (.inl Ae)] at A;have S:=A.here;obtain⟨bo,bp,br,bt,bu,bw,bx,bz,bA,bB,rfl,_⟩:=S.form;clear S;have U:=J.then Q;clear i J;have av:=Q.size;refine ad ?_;intro bC aw bE K d;have V:=A.ext K av;have L:=U.then K;have i:=L.box;clear A U;refine ad ?_;refine K_ 14 m.props.length [1,2,4,12,13] (λ_:Unit=>[]) () (λa _ e=>k4 w0 w g I _ e (tE m a)/\ei y (λw=>gn w _ (fw m)) e/\e.heap[aw]? = some (.cells (List.toArray [_,_,_,_,_,_]) T.t)/\y.heap.size<=e.heap.size/\∀r,r<a->oD m r=0) aV aV ⟨L,V,d,by have:=K.size;omega,λr h=>absurd h (Og _)⟩ ?_;clear i L V d;rintro a _ bF bG bH ⟨n,f,d,ax,M⟩;have i:=n.box;have W:=n.ext;refine ad ?_;apply I_<;>intro bI
 .have s:a<m.props.length:=AW
  obtain⟨bJ,rfl⟩:=P.addr;obtain⟨az,bK,X,Y⟩:=P.at a s;obtain⟨bL,bM,rfl,bN⟩:=Y.form;have c:=aa8 s;replace X:=X.ext W;have bO:=n.mod.size;refine ad ?_;intro bP bR aA Z aB;refine eC ?_;intro ab ae B;have p:=ae.ext Z aA;have t:=n.then p;replace f:=f.ext p ax;replace d:=p.obj d;replace i:=t.box;have af:=t.ext;clear aB Z ae n;have b:oD m a≠0->rR m=⟨oD m a,5,a,0⟩:=agf s M;refine ad ?_;apply I_<;>intro bV
  .rw[if_pos AW] at c;rw[c] at b;replace b:=b Ae;refine ad ?_;refine U_ (sR 11 5 a 0 ab) ?_ ?_
   .rintro _ _ ⟨j,_⟩;exact absurd j Ae
   .rintro l _ ⟨_,rfl,rfl⟩;refine ad ?_;rw[b];exact⟨(show(11:Int)≠0 by decide),aZ,af,t.mod⟩
  rw[if_neg AW] at c;refine ad ?_;refine J_ (NY m.props[a].name ab (ar.ext af) az) ?_;rintro _ ag ⟨rfl,q⟩;have k:=t.then q;replace f:=f.ext q (by have:=p.size;omega);replace d:=q.obj d;replace B:=q.obj B;replace i:=k.box;have ah:=k.ext;clear t;refine ad ?_;refine N_ (λN=>?_) (λN=>?_);rotate_left
  .rw[if_pos N] at c;rw[c] at b;replace b:=b Ae;refine ad ?_;refine U_ (sR 6 5 a 0 ag) ?_ ?_
   .rintro _ _ ⟨j,_⟩;exact absurd j Ae
   .rintro l _ ⟨_,rfl,rfl⟩;refine ad ?_;rw[b];exact⟨(show(6:Int)≠0 by decide),aZ,ah,k.mod⟩
  rw[if_neg (by rw[N];decide)] at c;refine ad ?_;refine U_ (OO g (tE m a) m.props[a].name 5 a ag k.set) ?_ ?_;rotate_left
  .rintro l _ ⟨O,rfl,rfl⟩;rw[if_pos O] at c;rw[c] at b;replace b:=b Ae;refine ad ?_;rw[b];exact⟨(show(7:Int)≠0 by decide),aZ,k.ext,k.mod⟩
  rintro _ ai ⟨O,u,aC⟩;rw[if_neg O] at c;have G:k4 w0 w g I _ ai (tE m (a+1)):=(k.wr u aC).j2 (by simp only[tE,Us];rw[EM (λaD:nh=>aD.name) _ s,VA]);replace f:=f.wr u AW;replace d:=u.obj d AW;replace B:=u.obj B AW;replace i:=G.box;have aE:=G.ext;clear k ah;refine ad ?_;refine J_ (aeO _ m.props[a].expr _ _ ai (Y.ext aE) f.here) ?_;rintro _ aF ⟨rfl,H⟩;have v:=G.then H;have bW:=u.size;replace f:=f.ext H (by have:=p.size;have:=q.size;omega);replace d:=H.obj d;replace i:=v.box;have aj:=v.ext;clear G;refine ad ?_;refine U_ (sR (o.kind m.props[a].expr (fw m)).2 5 a 0 aF) ?_ ?_;rotate_left
  .rintro l _ ⟨j,rfl,rfl⟩;rw[if_pos j] at c;rw[c] at b;replace b:=b j;refine ad ?_;rw[b];exact⟨j,aZ,aj,v.mod⟩
  rintro _ aG ⟨j,rfl⟩;rw[if_neg (by simpa using j)] at c;refine ad ?_;apply I_<;>intro ak;rotate_left
  .rw[if_pos ak] at c;rw[c] at b;replace b:=b Ae;refine ad ?_;refine U_ (sR 9 5 a 0 aG) ?_ ?_
   .rintro _ _ ⟨aH,_⟩;exact absurd aH Ae
   .rintro l _ ⟨_,rfl,rfl⟩;refine ad ?_;rw[b];exact⟨(show(9:Int)≠0 by decide),aZ,aj,v.mod⟩
  rw[if_neg (by simpa using ak)] at c;refine ad ?_;refine⟨s,aZ,(),trivial,v,f,d,by have:=p.size;have:=q.size;have:=H.size;omega,λal bX=>?_⟩;by_cases aI:al=a
  .subst aI;rw[c]
  .exact M al AW
 refine ad ?_;exact⟨by rw[U2 λr bY=>M r AW];rfl,W,n.mod⟩
end Go.Proofs.R
namespace a8
open Go Go.RowKit
structure CD where
 n:Nat
 res:List nP
 pre:fg
 cq:List Step
 fn:Operand
 rest:fg
def QM(a:Oper):H_ G_ :=
 match a.guard,a.dst,a.op with
 | none,none,.defer ⟨.value b,args,_⟩=>match args.toList with | []=>some b | _=>none
 | _,_,_=>none
def aar(P:D_)(a:Func):Code->H_ CD
 | .seq b (.seq (.region _ ops false) c) =>
  match ops.toList.getLast?.bind QM,comp P a.ntmps b,oC P a.ntmps ops ops.toList.dropLast,comp P a.ntmps c,y9 P a.results.toList with
  | some d,some e,some f,some lc,some g=>some ⟨a.ntmps,g,e,f,d,lc⟩
  | _,_,_,_,_=>none
 | _=>none
def JJ(P:D_)(f:E_):H_ CD :=
 match P.funcs[f]? with
 | some fn=>match fn.body with | some a=>aar P fn a | none=>none
 | none=>none
def vm(P:D_)(f:E_)(cap:Array B_)(a:FrameMode)(w:A_)(R:A_->Prop):Prop :=
 CallsD P f cap a w λb c d=>(∃e,b = .returned e)/\settle c = .returning/\R d
def F6(P:D_)(e:C_ nP)(f:E_)(cap:Array B_)(R:B_->A_->Prop):fG->Fr->A_->Prop
 | .normal,b,c=>vm P f cap .returning c λa=>qT e b a λd=>R (j5 d) a
 | .ret,b,c=>vm P f cap .returning c λa=>qT e b a λd=>R (j5 d) a
 | .exit _,_,_=>False
 | .ib g,b,c=>vm P f cap (.panicking g) c λa=>qT e b a λd=>R (j5 d) a
def ayI(P:D_)(a:CD)(R:B_->A_->Prop)(S:Fr)(w:A_):Prop :=
 dI P a.pre (yp (λS w=>steps P a.cq S w λS w => ∃b c,bq S a.fn = .func (.func b) #[] c/\okF P b=true/\dI P a.rest (F6 P a.res b c R) S w) (λ_ _ _=>False)) S w
def alW{a:Oper}{x:G_}(h:QM a=some x):∃b c d i,a=⟨none,.defer ⟨.value x,#[],i⟩,b,c,d,none⟩:=by
 obtain⟨l,m,b,c,d,n⟩:=a;unfold QM at h;split at h
 .rename_i e f g;simp only at e f g;split at h
  .rename_i j;injection h with h
   have k:=Array.toList_eq_nil_iff.1 j;subst e f g h k;exact⟨_,_,_,_,rfl⟩
  .cases h
 .cases h
def amw{P:D_}{f:E_}{t:CD}(L:P.follows .mixedOrders=true)(c:JJ P f=some t){args:C_ B_}{w:A_}{R:B_->A_->Prop}(S:args.length<=t.n)
  (h:ayI P t R (js args 0) w):a3 P f args.toArray w R:=by
 unfold JJ at c;split at c
 .rename_i fn U;split at c
  .rename_i aA V;unfold aar at c;split at c
   .rename_i W id ops X;split at c
    .rename_i q Y Z lc ab u ae af ag ah;injection c with c;subst c
     obtain⟨aB,k,v⟩:=Option.bind_eq_some_iff.1 u;obtain⟨x,y,z,A,rfl⟩:=alW v;have ai:ops.toList=ops.toList.dropLast++[⟨none,.defer ⟨.value q,#[],A⟩,x,y,z,none⟩]:=by
      have M:ops.toList≠[]:=by intro g;rw[g] at k;cases k
      rw[List.getLast?_eq_some_getLast M] at k;injection k with k
      rw[<-k,AL8 M]
     have B:∀(b:E_) (d:Array B_) (i:Fr) (l:Act) (e:A_) (r:FrameMode),r≠.run->okF P b=true->Fits [{ target:=.fn (.func b) d,args:=#[] }] l i fn.ntmps->vm P b d r e (λe=>qT ab i e λN=>R (j5 N) e) ->
       Leaves P fn l.tmps (λg e => ∃C,g = .returned C/\R C e) l.defers r e:=by
      intro b d i l e r aj p j ak;rw[j.1];refine leaves_cons aj (f:=b) (args:=d) (by simp[invoke,EC p]) (CallsD.mono ak ?_);rintro g aC aD ⟨⟨C,rfl⟩,al,an⟩;simp only[al];obtain⟨N,ao,aq⟩:=tI j _ _ _ ah an;exact⟨_,yc ao,_,rfl,aq⟩
     refine calls_of_wp_defers U V ((wpIn_wide (n:=0)).1 ?_);refine wpIn_seq (wpIn_mono (sound (ds:=[]) (r:=none) (m:=0) L W Y ae _ _ (js args 0) w (Ri S) h) λg l e a=>?_);cases g with
     | normal =>
      obtain⟨i,j,a⟩:=a;refine wpIn_seq (wpIn_region_list ?_);rw[ai];refine Ag (r:=none) (tl:=[_]) ?_ ?_ _ Z l i e af j a
      .rintro s O G H ⟨b,d,he,p,ar⟩;have au:Region.wanted (⟨none,.defer ⟨.value q,#[],A⟩,x,y,z,none⟩:Oper) (yielded ops s.tmps)=true:=rfl;simp only[wpListIn,au,if_true];have av:∀I:G_->B_,I q = .func (.func b) #[] d->((⟨none,.defer ⟨.value q,#[],A⟩,x,y,z,none⟩:Oper).semAt none I).run P G = .ok (.defer { target:=.fn (.func b) d,args:=#[] }) G:=by
        intro I aw;simp[Oper.semAt,execOp,resolve,Deferred.ofValue,aw,go_sem]
       refine⟨λ_ _=>trivial,?_⟩;rw[show(ou none).round=none from rfl,av s.eval (by rw[H.eval];exact he)];have ax:Fits [{ target:=.fn (.func b) d,args:=#[] }] ({ s with defers:={ target:=.fn (.func b) d,args:=#[] } :: s.defers }:Act) O fn.ntmps:=⟨by rw[H.1],H.2⟩;refine wpIn_mono (sound (ds:=[{ target:=.fn (.func b) d,args:=#[] }]) (r:=none) (m:=0) L X lc ag _ _ O G ax ar) λg J K a=>?_;cases g with
       | normal=>obtain⟨m,n,a⟩:=a;exact B b d m J K .returning Ah p n a
       | ret=>obtain⟨m,n,a⟩:=a;exact B b d m J K .returning Ah p n a
       | exit az=>obtain⟨m,n,a⟩:=a;exact a.elim
       | panic Q=>obtain⟨m,n,a⟩:=a;exact B b d m J K (.panicking Q) Ah p n a
       | _=>exact a.elim
      .rintro⟨_,_,v⟩;obtain⟨_,u,_⟩:=v;cases u
     | ret=>obtain⟨i,j,a⟩:=a;exact a.elim
     | exit az=>obtain⟨i,j,a⟩:=a;exact a.elim
     | panic Q=>obtain⟨i,j,a⟩:=a;exact a.elim
     | _=>exact a.elim
    .cases c
   .cases c
  .cases c
 .cases c
structure Fk where
 n:Nat
 res:List nP
 d:Nat
 e:Nat
 rest:fg
def Va(a:Oper):H_ Nat :=
 match a.guard,a.op,a.dst with
 | none,.call ⟨.builtin .recover,args,_⟩,some b=>match args.toList with | []=>some b | _=>none
 | _,_,_=>none
def P9(a:Oper):H_ (Nat×Nat) :=
 match a.guard,a.op,a.dst with
 | none,.assign (.tmp b),some c=>some (b,c)
 | _,_,_=>none
def aas(P:D_)(a:Func):Code->H_ Fk
 | .seq (.region _ ops false) d =>
  match ops.toList with
  | [e,f]=>match Va e,P9 f,comp P a.ntmps d,y9 P a.results.toList with
   | some b,some (g,c),some lc,some h=>if b=g/\b<a.ntmps/\c<a.ntmps then some ⟨a.ntmps,h,b,c,lc⟩ else none
   | _,_,_,_=>none
  | _=>none
 | _=>none
def JK(P:D_)(f:E_):H_ Fk :=
 match P.funcs[f]? with
 | some fn=>match fn.body with | some a=>aas P fn a | none=>none
 | none=>none
def qR:FrameMode->B_×FrameMode
 | .panicking ({ v,recovered:=false,goexit:=false } :: a)=>(v,.panicking ({ v,recovered:=true } :: a))
 | u=>(.nilIface,u)
theorem awl(c:Frame)(cs:C_ Frame):(match recoverD (c :: cs) with | some (a,b)=>(a,b) | none=>(.nilIface,c :: cs))=((qR c.mode).1,{ c with mode:=(qR c.mode).2 } :: cs):=by
 obtain⟨i,j,k,l,d,kind,m⟩:=c;unfold recoverD qR;cases d with
 | run=>rfl
 | returning=>rfl
 | panicking e =>
  cases e with
  | nil=>rfl
  | cons f n =>
   obtain⟨a,g,h⟩:=f;cases g<;>cases h<;>rfl
def awj{a:Oper}{d:Nat}(h:Va a=some d):∃j b c e,a=⟨some d,.call ⟨.builtin .recover,#[],j⟩,b,c,e,none⟩:=by
 obtain⟨m,n,b,c,e,p⟩:=a;unfold Va at h;split at h
 .rename_i f g i;simp only at f g i;split at h
  .rename_i k;injection h with h
   have l:=Array.toList_eq_nil_iff.1 k;subst f g i h l;exact⟨_,_,_,_,rfl⟩
  .cases h
 .cases h
def ajX{a:Oper}{d e:Nat}(h:P9 a=some (d,e)):∃b c f,a=⟨some e,.assign (.tmp d),b,c,f,none⟩:=by
 obtain⟨m,n,b,c,f,p⟩:=a;unfold P9 at h;split at h
 .rename_i g i j;simp only at g i j;injection h with h
  injection h with k l
  subst g i j k l;exact⟨_,_,_,rfl⟩
 .cases h
def amx{P:D_}{f:E_}{i:Fk}(L:P.follows .mixedOrders=true)(b:JK P f=some i){args:C_ B_}{e:FrameMode}{w:A_}{R:B_->A_->Prop}(M:args.length<=i.n)
  (h:dI P i.rest (F5 i.res R) (cz (cz (js args 0) i.d (qR e).1) i.e (qR e).1) w):CallsD P f args.toArray e w λd m n=>m=(qR e).2/\∃a,d = .returned a/\R a n:=by
 unfold JK at b;split at b
 .rename_i fn N;split at b
  .rename_i aG O;unfold aas at b;split at b
   .rename_i id ops z;split at b
    .rename_i aH aI A;split at b
     .rename_i j aJ d lc Q S U V B;split at b
      .rename_i W;obtain⟨X,Y,Z⟩:=W;subst X;injection b with b;subst b
       obtain⟨ab,ae,af,ag,rfl⟩:=awj S;obtain⟨ah,ai,aj,rfl⟩:=ajX U;refine callsD_of_wpS N O λk l ak=>?_;refine wpS_seq (wpS_region ?_);have al:ops.size=2:=by rw[<-Array.length_toList,A];rfl
       have r:ops[0]? = ops.toList[0]? := by simp
       have s:ops[1]? = ops.toList[1]? := by simp
       rw[A] at r s;simp only[List.getElem?_cons_zero,List.getElem?_cons_succ] at r s;have an:List.range ops.size=[0,1]:=by rw[al];rfl
       rw[an];have ao:∀(C:G_->B_),(execOp C ⟨some j,.call ⟨.builtin .recover,#[],ab⟩,ae,af,ag,none⟩).run P w = .ok .recover w:=by
        intro C;simp[execOp,resolve,invoke,builtin,go_sem]
       have G:∀(aq:H_ Nat) (ar:Op) (au:F_) (av:String) (aw:Array Edge) (ax:Nat->H_ Bool),Region.wanted (⟨aq,ar,au,av,aw,none⟩:Oper) ax=true:=λ_ _ _ _ _ _=>rfl;have az:=Ri (n:=fn.ntmps) M;have H:∀(a:B_) (p:C_ Frame),dI P lc (F5 Q R) (cz (cz (js args 0) j a) d a) w->(p = { k with mode:=(qR e).2 } :: l) ->
         wpOpsS P ops (Exit.thenS (z.wpS P (bodyPostS P fn k l λd m n=>m=(qR e).2/\∃a,d = .returned a/\R a n)) (bodyPostS P fn k l λd m n=>m=(qR e).2/\∃a,d = .returned a/\R a n)) [1]
          (({ tmps:=args.toArray++Array.replicate (fn.ntmps - args.toArray.size) undef,defers:=[] }:Act).put (some j) a) p w:=by
        intro a p aA I;have J:=az.put (d:=some j) (by simpa[zc] using Y) a;have aB:(execOp (({ tmps:=args.toArray++Array.replicate (fn.ntmps - args.toArray.size) undef,defers:=[] }:Act).put (some j) a).eval ⟨some d,.assign (.tmp j),ah,ai,aj,none⟩).run P w = .ok (.value a) w:=by
         rw[J.eval];simp[execOp,bq,a8.put,cz]
        simp only[wpOpsS,s,G,if_true,aB];rw[Oper.upon_value];have aC:=J.put (d:=some d) (by simpa[zc] using Z) a;refine wpS_of_wp ((wpIn_wide (n:=0)).1 (wpIn_mono (sound (ds:=[]) (r:=none) (m:=0) L z lc V _ _ _ w aC aA) λaD aK aM c=>?_));cases aD with
        | normal =>
         obtain⟨t,g,c⟩:=c;obtain⟨aE,u,v⟩:=tI g _ _ _ B c;exact⟨g.1,_,I,_,yc u,rfl,_,rfl,v⟩
        | ret =>
         obtain⟨t,g,c⟩:=c;obtain⟨aE,u,v⟩:=tI g _ _ _ B c;exact⟨g.1,_,I,_,yc u,rfl,_,rfl,v⟩
        | exit aP=>obtain⟨t,g,c⟩:=c;exact c.elim
        | panic aQ=>obtain⟨t,g,c⟩:=c;exact c.elim
        | _=>exact c.elim
       have q:=awl k l;rw[ak] at q;unfold wpOpsS;simp only[r,G,if_true,ao];cases K:recoverD (k :: l) with
       | none =>
        rw[K] at q;injection q with x y
        exact H .nilIface (k :: l) (by rw[x];exact h) y
       | some aF =>
        obtain⟨a,p⟩:=aF;rw[K] at q;injection q with x y
        exact H a p (by rw[x];exact h) y
      .cases b
     .cases b
    .cases b
   .cases b
  .cases b
 .cases b
end a8
namespace a8
open Go Go.RowKit
def Ph(P:D_)(v:B_)(K:E_->Array B_->Prop):Prop := ∃a b,v = .func (.func a) #[] b/\okF P a=true/\K a b
section
variable{P:Program}{S:Fr}{w:World}{res:List nP}{R:Value->World->Prop}
def AC6{f:E_}{a:CD}(b:P.follows .mixedOrders=true)(c:JJ P f=some a){args:C_ B_}(d:args.length<=a.n)
  (h:fa P a.pre (j4 (λS w=>qW P a.cq S w (λS w=>Ph P (bq S a.fn) λe g=>fa P a.rest (F6 P a.res e g R) S w ⟨⟩) ⟨⟩) (λ_ _ _=>False) ⟨⟩) (js args 0) w ⟨⟩):a3 P f args.toArray w R:=by
 refine amw b c d ?_;unfold fa j4 qW Ph at h;exact h
def AC7{g:E_}{cap:Array B_}{K:E_->Array B_->Prop}(a:okF P g=true)(h:K g cap):Ph P (.func (.func g) #[] cap) K:=⟨g,cap,rfl,a,h⟩
def AC8{g:E_}{cap:Array B_}(h:vm P g cap .returning w λa=>oR res S a (λb=>R (j5 b) a) ⟨⟩):F6 P res g cap R .ret S w:=by
 unfold oR at h;exact h
def AC9{g:E_}{cap:Array B_}{c:C_ PanicEntry}(h:vm P g cap (.panicking c) w λa=>oR res S a (λb=>R (j5 b) a) ⟨⟩):F6 P res g cap R (.ib c) S w:=by
 unfold oR at h;exact h
theorem vm.of{g:E_}{cap:Array B_}{c d:FrameMode}{Fm Fo:A_->Prop}(h:CallsD P g cap c w λe f a=>f=d/\∃b,e = .returned b/\Fm a)(i:settle d = .returning)(j:∀a,Fm a->Fo a):vm P g cap c w Fo :=
 CallsD.mono h λe f a ⟨k,b,l,m⟩=>⟨⟨b,l⟩,by rw[k];exact i,j _ m⟩
def AA5{f:E_}{a:Fk}(d:P.follows .mixedOrders=true)(e:JK P f=some a){args:C_ B_}{b:FrameMode}(g:args.length<=a.n)
  (h:fa P a.rest (um a.res R ⟨⟩) (cz (cz (js args 0) a.d (qR b).1) a.e (qR b).1) w ⟨⟩):CallsD P f args.toArray b w λi j k=>j=(qR b).2/\∃c,i = .returned c/\R c k:=by
 refine amx d e g ?_;unfold fa um at h;exact h
def ahb(d:Nat){t:F_}{b:Array (String×F_)}(h:P.underlying t=some (.interface b))(w:A_):(Op.equalIn (d+1) t .nilIface .nilIface).run P w = .ok true w/\∀T a,(Op.equalIn (d+1) t (.iface T a) .nilIface).run P w = .ok false w:=by
 constructor
 .simp[Op.equalIn,run_underlying h]
 .intro T a;simp[Op.equalIn,run_underlying h]
def aeq{t:F_}(h:(P.underlying t).map zT=some true):∃a,P.underlying t=some (.interface a):=by
 obtain⟨b,c,d⟩:=Option.map_eq_some_iff.1 h;cases b<;>first | exact⟨_,c⟩ | (simp[zT] at d;done)
def AD0{a:F_}{x:G_}{v:B_}{b:B_->Prop}{t}(h:(P.underlying a).map zT=some true)(c:b (.bool false)):h4 P .neq a x (.const v) .nilIface .nilIface b t :=
 _Q (v:=.bool false) (λw=>by
  obtain⟨f,h⟩:=aeq h;have d:=(ahb 9999 h w).1;have e:(Op.equalIn Op.maxDepth a .nilIface .nilIface).run P w = .ok true w:=d;cases x<;>simp[eqGuard,binOp,Op.equal,go_sem,e,Result.andThen]) c
def AD1{a T:F_}{x y:G_}{v:B_}{b:B_->Prop}{t}(h:(P.underlying a).map zT=some true)(c:b (.bool true)):h4 P .neq a x y (.iface T v) .nilIface b t :=
 _Q (v:=.bool true) (λw=>by
  obtain⟨e,h⟩:=aeq h;have d:(Op.equalIn Op.maxDepth a (.iface T v) .nilIface).run P w = .ok false w:=(ahb 9999 h w).2 T v;simp[eqGuard,binOp,Op.equal,go_sem,d,Result.andThen]) c
def AD2{x:G_}{a T c:F_}{v:B_}{b:B_->A_->Prop}{t}(d:bq S x = .iface T v)(h:(P.underlying T).map zT=some false)(e:b (.tuple #[v,.bool true]) w):wS P (.typeAssert x a T true) c S w b t:=by
 refine _X (v:=.tuple #[v,.bool true]) (w':=w) ?_ e;obtain⟨f,g,i⟩:=Option.map_eq_some_iff.1 h;have j:(Instr.typeAssert (.iface T v) a T true).run P w = .ok (.tuple #[v,.bool true]) w:=by
  cases f<;>first | (simp[zT] at i;done) | (simp[Instr.typeAssert,run_underlying g])
 simp[execOp,d,j,Result.andThen]
end
end a8
namespace Go.Proofs.R
open Go a8 Go.Proofs
abbrev F.e:E_:=126
def W5.AT:CD:=⟨16,[.jq 4 2], (.cN [c6 1 (.box T.h (aO 0)),c6 2 (.new T.v (.agg #[dk,dk,dk,dk]))]),
 [cl 4 (.z1 F.e [] [(aO 2)])],(aO 4), (b2 [c6 5 .z2,aL 3 5] (.seq (.fS [m9 6 5 1,aL 7 3] (some 8) F.ta [(aO 6),(aO 7)]) (.seq (.fS [m9 9 5 1,aL 10 3] (some 11) F.ns [(aO 9),(aO 10)]) (.seq (.fS [m9 12 5 1,aL 13 3] (some 14) F.qq [(aO 12),(aO 13)]) (b2 [cl 15 (.hL [dk,dk,dk,dk] [(0,1),(1,1),(2,1),(3,1)] []),sV 4 2 15] .ret)))))⟩
theorem ai2.AT:JJ Tryz.prog F.AT=some W5.AT:=Cg
def Pg.e:Fk:=⟨17,[],4,1, (b2 [aL 5 1,cl 6 (.bin .neq T.nq (aO 5) (.const .nilIface))] (iA 6 (b2 [aL 8 1,c6 9 (.raw (.typeAssert (aO 8) T.nq T.j9 true) T.s6),aL 7 9,Ap 10 7 0,Ap 11 7 1,c6 2 (.new T.j9 (.agg #[dk,dk,dk,dk])),sV 4 2 10,aL 3 11] (.seq (b2 [aL 12 3,cl 13 (.un .not (aO 12))] (iA 13 (.u4 [aL 14 1] (aO 14)) .skip)) (.cN [fp 15 0 2,m9 16 4 15,sV 4 0 16]))) .skip))⟩
theorem W9.e:JK Tryz.prog F.e=some Pg.e:=Cg
end Go.Proofs.R
namespace o
def avy{m:Model}(h:(rR m).bN=0):rR m=vE:=U2 (avz h)
end o
namespace Go.Proofs.R
open Go Go.RowKit a8 o
theorem alp(b:Nat)(w:A_):CallsD Tryz.prog F.e #[.pointer (some ⟨b,0,none⟩)] .returning w λa c d=>c = .returning/\∃e,a = .returned e/\d=w:=by
 refine AA5 kB W9.e (args:=[_]) (Nat.le_of_ble_eq_true rfl) ?_;dsimp only[Pg.e];refine ow ?_;dsimp only[qR];refine ad ?_;refine AD0 Cg ?_
 (repeat' first
 | assumption
 | exact Ext.refl _
 | refine Ext.trans ?_ CW
 | refine Q_ AW ?_
 | refine _H CW ?_ rfl ?_
 | refine _C CW ?_ rfl ?_
 | refine _L CW ?_ AW rfl ?_
 | refine _S CW ?_ AW rfl ?_
 | refine _T CW ?_ AW rfl ?_
 | refine _U AW ?_
 | refine _M (by first | assumption | omega) ?_
 | refine _N (by first | assumption | omega) ?_
 | refine _F CW ?_
 | refine _G CW ?_
 | simp -dsimp only[c8,cA,Nat.reduceAdd,Nat.reduceEqDiff,reduceIte,reduceCtorEq,dq])
def alo(f:tP)(b:Nat)(w:A_)(c:w.heap[b]? = some (.cells #[.I 0,.I 0,.I 0,.I 0] T.v)) :
  CallsD Tryz.prog F.e #[.pointer (some ⟨b,0,none⟩)] (.panicking (yq f)) w λd h e=>h=(qR (.panicking (yq f))).2/\∃i,d = .returned i /\
   (e.heap[b]? = some (.cells #[.I f.bN,.I f.part,.I f.item,.I f.sub] T.v)/\∀a,Ext a w->a.heap.size<=b->Ext a e):=by
 refine AA5 kB W9.e (args:=[_]) (Nat.le_of_ble_eq_true rfl) ?_;dsimp only[Pg.e];refine ow ?_;dsimp only[qR,yq];refine ad ?_;refine AD1 Cg ?_;refine ad ?_;refine AD2 rfl Cg ?_;refine ad ?_;intro m n p g q;have r:=ca c;replace c:=g.obj c;refine ad ?_;intro s j k;refine ad ?_;exact⟨k,λa d l=>j.ext (d.trans g) l⟩
def NS(cs:C_ B_)(m:o.Model)(w:A_)(h:eu w cs m)(A:m.cS)(l:gZ w) :
  EG F.AT #[.agg cs.toArray] w λn c=>n = .agg #[.I (o.check m).bN,.I (o.check m).part,.I (o.check m).item,.I (o.check m).sub]/\Ext w c:=by
 obtain⟨X,Y,Z,bg,ab,bj,ae,af,ag,ah,rfl,_⟩:=h.form;refine AC6 kB ai2.AT (args:=[_]) (Nat.le_of_ble_eq_true rfl) ?_;dsimp only[W5.AT];refine ow ?_;refine ad ?_;intro ai aj ak B b;refine ad ?_;intro al e an p a;replace b:=p.obj b;have ao:=ca b;have aq:=ca a;refine ad ?_;refine AC7 Cg ?_;refine ad ?_;refine _w λI q ar r J=>?_;replace b:=r.obj b;replace a:=r.obj a;have au:=ca a;have av:=p.size;have aw:=B.size;have K:=(B.trans p).trans r;have s:∀(t:tP) (c:A_) (u:Fr),Ext w c->c.heap[e]? = some (.cells #[.I 0,.I 0,.I 0,.I 0] T.v)->u 2 = .pointer (some ⟨e,0,none⟩)->t=o.check m ->
   F6 Tryz.prog [.jq 4 2] F.e #[.pointer (some ⟨e,0,none⟩)] (λn c=>n = .agg #[.I (o.check m).bN,.I (o.check m).part,.I (o.check m).item,.I (o.check m).sub]/\Ext w c) (.ib (yq t)) u c:=by
  rintro t c u L M N rfl;refine AC9 (vm.of (alo (o.check m) e c M) rfl ?_);rintro f ⟨O,P⟩;simp -dsimp only[c8,cA,Nat.reduceAdd,Nat.reduceEqDiff,reduceIte,reduceCtorEq,dq,N];refine R_ O (Ext.refl _) rfl ?_;simp -dsimp only[c8,cA,Nat.reduceAdd,Nat.reduceEqDiff,reduceIte,reduceCtorEq,dq];exact⟨aZ,P _ L AW⟩
 refine ad ?_;refine U_ (anO _ m q I h K AW l (gp.empty J)) ?_ ?_;rotate_left
 .rintro C f ⟨d,rfl,v,g⟩;refine ad ?_;exact s _ f _ v (g.obj AW a) rfl (by rw[o.check,if_pos d])
 rintro _ f ⟨d,v,g,Q⟩;replace b:=g.obj AW b;replace a:=g.obj AW a;refine ad ?_;refine U_ (avw _ m q f h A v AW l d Q) ?_ ?_;rotate_left
 .rintro C x ⟨i,rfl,y,j⟩;refine ad ?_;exact s _ x _ y (j.obj AW a) rfl (by rw[o.check,if_neg (by simpa using d),if_pos i])
 rintro _ x ⟨i,y,j,S⟩;replace b:=j.obj AW b;replace a:=j.obj AW a;refine ad ?_;refine U_ (avx _ m q x h A y AW l S) ?_ ?_;rotate_left
 .rintro C G ⟨H,rfl,z,k⟩;refine ad ?_;exact s _ G _ z (k.obj AW a) rfl (by rw[o.check,if_neg (by simpa using d),if_neg (by simpa using i)])
 rintro _ G ⟨H,z,k⟩;replace b:=k.obj AW b;replace a:=k.obj AW a;have U:o.check m=vE:=by rw[o.check,if_neg (by simpa using d),if_neg (by simpa using i),avy H]
 refine ad ?_;intro V W ax;refine ad ?_;refine AC8 (vm.of (alp e V) rfl ?_);rintro _ rfl;refine ad ?_;exact⟨by rw[U];rfl,W.ext z AW⟩
end Go.Proofs.R
namespace o
open Go
def ec.enc(b:ec):C_ B_:=[.int .i64 b.aQ,.int .i64 b.ab,.int .i64 b.kind]
def Cell.slot(x:Cell):C_ B_:=[.int .i64 x.sort,.int .i64 x.jm,.int .i64 x.place,.int .i64 x.kind]
def Cell.enc(x:Cell):C_ B_:=[.int .i64 x.sort,.int .i64 x.jm,.int .i64 x.place,.int .i64 x.aQ,.int .i64 x.ab,.int .i64 x.kind]
def yZ:∀(a:ec),∀b∈a.enc,b.oneCell'=true:=by intro a b c;simp[ec.enc] at c;rcases c with rfl | rfl | rfl<;>rfl
def ahH:∀(a:Cell),∀b∈a.slot,b.oneCell'=true:=by intro a b c;simp[Cell.slot] at c;rcases c with rfl | rfl | rfl | rfl<;>rfl
def FW:∀(a:Cell),∀b∈a.enc,b.oneCell'=true:=by intro a b c;simp[Cell.enc] at c;rcases c with rfl | rfl | rfl | rfl | rfl | rfl<;>rfl
end o
namespace Go.Proofs.R
open Go Go.RowKit a8 o
def atm(k:Int)(w:A_)(h:eA (k+1)):EG F.Kp #[.I k] w λb c=>b = .I (o.kindOf k)/\c=w:=by
 unfold eA at h;refine bm E.Kp ?_;unfold o.kindOf;refine ad ?_;apply I_<;>intro a
 .refine ad ?_;exact⟨by rw[if_pos a],aZ⟩
 .refine ad ?_;exact⟨by rw[if_neg a],aZ⟩
def Ve(k:Int)(w:A_)(h:eA (k+1)):EG F.Nm #[.I k] w λb c=>b = .I (o.kindOf k)/\c=w:=by
 unfold eA at h;refine bm E.Nm ?_;unfold o.kindOf;refine ad ?_;apply I_<;>intro a
 .refine ad ?_;exact⟨by rw[if_pos a],aZ⟩
 .refine ad ?_;exact⟨by rw[if_neg a,Int.add_comm],aZ⟩
def Ud(x:o.Var)(v:B_)(l:C_ o.Scalar)(w:A_)(d:hC w v l)(h:eA (x.scalar+1)) :
  EG F.fi #[.agg x.enc.toArray,v] w λv i=>v = .agg (dM x.scalar x.aQ x.ab l).enc.toArray/\Ext w i:=by
 obtain⟨p,q,rfl,_⟩:=d.form;rw[w3];refine bm E.fi ?_;refine ad ?_;intro r s t e a;refine ad ?_;intro j u y f b;replace a:=f.obj a;have z:=ca a;have A:=ca b;have g:=e.trans f;refine ad ?_;refine J_ (Jt x _ l j (d.ext g)) ?_;rintro _ k ⟨rfl,c⟩;replace a:=c.obj a;replace b:=c.obj b;have m:=g.trans c;refine ad ?_;refine J_ (atm x.scalar k h) ?_;rintro _ B ⟨rfl,rfl⟩;refine ad ?_;intro C n G;refine ad ?_;exact⟨aZ,n.ext m (by have:=e.size;omega)⟩
def afn(cs:C_ B_)(m:o.Model)(w:A_)(h:eu w cs m)(b:m.cS)(c:gZ w) :
  EG F.JW #[.agg cs.toArray] w λd e=>d = .bool (decide ((o.check m).bN=0))/\Ext w e:=by
 obtain⟨i,j,k,bg,l,bj,n,p,q,r,rfl,_⟩:=h.form;refine bm E.JW ?_;refine ad ?_;intro f s t a u;refine ad ?_;refine J_ (NS _ m f (h.ext a) b (c.ext a)) ?_;rintro _ v ⟨rfl,g⟩;refine ad ?_;refine _d (v:=.I (o.check m).bN) rfl ?_;refine ad ?_;exact⟨aZ,a.trans g⟩
end Go.Proofs.R
namespace a8
open Go Go.RowKit
def jN.congr{α:Type}{enc:α->C_ B_}{e:F_}{sz base n:Nat}{w:A_}{vs d:Nat->H_ Addr×Nat×Nat}{xs f:Nat->C_ α}(h:jN enc e sz base w n vs xs)(c:∀a,a<n->vs a=d a)(k:∀a,a<n->xs a=f a):jN enc e sz base w n d f :=
 ⟨λa b=>by rw[<-c a b,<-k a b];exact h.own a b,λa g l b i m j=>by rw[<-c g i];rw[<-c a b] at j;exact h.apart a g l b i m j⟩
def Rb{S:Fr}{t:Nat}{n:Int}(h:S t = .I n):gu S ((List.range 1).map λa=>(a*1,1)) [(0,.tmp t)] [.I 0]=some [.I n]:=by
 simp[gu,lay,dy,h,Value.cells,List.range,List.range.loop]
structure eF(cU:List TypeId)(w w':World):Prop where
 size:w.heap.size<=w'.heap.size
 b0:∀(k:Nat) (c:Array Value) (t:TypeId),w.heap[k]? = some (.cells c t)->t∉cU->w'.heap[k]? = some (.cells c t)
section
variable{cU:List TypeId}{a b w w':World}
def eF.refl:eF cU w w:=⟨Fy _,λ_ _ _ a _=>a⟩
def eF.trans{c:A_}(h:eF cU a b)(k:eF cU b c):eF cU a c:=⟨T6 h.size k.size,λd c e g f=>k.b0 d c e (h.b0 d c e g f) f⟩
theorem eF.ext(h:Ext a b):eF cU a b:=⟨h.size,λ_ _ _ c _=>h.obj c⟩
def eF.mod{A:Nat->Prop}(h:Mod A a b)(g:∀(c:Nat) (e:Array B_) (d:F_),a.heap[c]? = some (.cells e d)->A c->d∈cU):eF cU a b:=⟨h.size,λc e d f i=>h.obj (λj=>i (g c e d f j)) f⟩
def eF.wr{k:Nat}{c:Array B_}{t:F_}{f:Nat×Nat}(h:dY k a b)(i:a.heap[k]? = some (.cells c t f))(j:t∈cU):eF cU a b:=eF.mod (h.mod (A:=λg=>g=k) rfl) λg l m d e=>by
 subst e;rw[i] at d;injection d with d;injection d with _ e;exact e ▸ j
def aR.ia{α:Type}{enc:α->C_ B_}{e:F_}{sz base:Nat}{v:B_}{xs:C_ α}(h:aR enc e sz base a v xs)(k:eF cU a b)(c:e∉cU):aR enc e sz base b v xs:=by
 refine⟨h.1,?_⟩;rcases h.2 with d | ⟨f,cap,cur,rfl,g,i,rest⟩
 .exact .inl d
 .exact .inr ⟨f,cap,cur,rfl,g,k.b0 _ _ _ i c,rest⟩
end
end a8
namespace o
structure hJ where
 V:List Int
 C:List Int
 cE:List Int
 n:Nat
 L:List Int
 H:List Int
 Z:List Cell
def hJ.of(V C cE:C_ Int)(cs:C_ Cell):hJ:=⟨V,C,cE,cs.length,cs.map (·.aQ),cs.map (·.ab),cs⟩
def hJ.rows(s:hJ):Nat->C_ Int:=λa=>if a=0 then s.V else if a=1 then s.C else if a=2 then s.cE else if a=3 then s.L else s.H
end o
namespace Go.Proofs.R
open Go Go.RowKit a8 o
def uT:C_ F_:=[T.a,T.p,T.e,T.z]
structure lS(w1:World)(c9 bs:Nat)(s:hJ)(W:World):Prop where
 mod:Mod (λk=>k=c9\/k=bs) w1 W
 ex:∃(vs:Nat->ef) (u:ef),W.heap[c9]? = some (.cells #[cy (vs 0),cy (vs 1),cy (vs 2),.int .i64 s.n,cy (vs 3),cy (vs 4)] T.e)/\jN da T.a 1 w1.heap.size W 5 vs s.rows /\
  W.heap[bs]? = some (.cells #[cy u] T.z)/\aR o.Cell.slot T.p 4 w1.heap.size W (cy u) s.Z
def lS.move{w1:A_}{g bs:Nat}{s:hJ}{d i:A_}{A:Nat->Prop}(h:lS w1 g bs s d)(m:Mod A d i)(b:∀(a:Nat) (q:Array B_) (j:F_),d.heap[a]? = some (.cells q j)->j∈uT->¬A a)(r:∀a,A a->w1.heap.size<=a):lS w1 g bs s i:=by
 obtain⟨t,u,k,l,n,p⟩:=h.ex;refine⟨h.mod.comp m (λ_ _ e=>e) λa c e=>absurd (r a e) AW,t,u,m.obj (b _ _ _ k Ae) k,l.mod m λv a w c=>?_,m.obj (b _ _ _ n Ae) n,p.mod m λa c=>?_⟩
 .obtain⟨cur,f⟩:=(l.own v w).b0 a c;exact b _ _ _ f Ae
 .obtain⟨cur,f⟩:=p.b0 a c;exact b _ _ _ f Ae
theorem lS.ext{w1:A_}{a bs:Nat}{s:hJ}{b c:A_}(h:lS w1 a bs s b)(e:Ext b c):lS w1 a bs s c:=h.move (A:=λ_=>False) e.mod (λ_ _ _ _ _ h=>h) λ_ h=>h.elim
structure o1(w1:World)(s:hJ)(x:ec)(pC:Fr)(w0:World)(vs:Nat->ef)(re:Addr)(d25 d26 d31 d32 d33:Bool)(S:Fr)(w:World):Prop where
 pJ:∀t,t∉[25,26,31,32,33,34]->S t=pC t
 mod:Mod (λk=>(cy (vs 3)).ownBlock=some k\/(cy (vs 4)).ownBlock=some k) w0 w
 rows:∃eB v4,jN da T.a 1 w1.heap.size w 5 (fK (fK vs 3 eB) 4 v4) (fK (fK s.rows 3 (if d26 then s.L++[x.aQ] else s.L)) 4 (if d32 then s.H++[x.ab] else s.H))/\(d26=false->eB=vs 3)/\(d32=false->v4=vs 4) /\
  (d26=true->S 26=cy eB)/\(d32=true->S 32=cy v4)
 Et:d25=true->d26=false->∃b,S 25 = .slice (some ⟨b,0,none⟩) 1 1/\w0.heap.size<=b/\w.heap[b]? = some (.cells #[.int .i64 x.aQ] T.a)
 H8:d31=true->d32=false->∃b,S 31 = .slice (some ⟨b,0,none⟩) 1 1/\w0.heap.size<=b/\w.heap[b]? = some (.cells #[.int .i64 x.ab] T.a)
 H9:d33=true->S 33 = .pointer (some re)
section
variable{w1 w0 w:World}{s:hJ}{x:ec}{pC S:Fr}{vs:Nat->ef}{re:Addr}{d25 d26 d31 d32 d33:Bool}{K:Value->World->Prop}
def o1.afA(h:o1 w1 s x pC w0 vs re false false d31 d32 d33 S w)(l:pC 24 = .I x.aQ)(m:∀i j,o1 w1 s x pC w0 vs re true false d31 d32 d33 (put S (some 25) i) j->K i j) :
  oW Tryz.prog (.hj T.a 1 1 [.I 0] [(0,.tmp 24)]) S w K:=by
 have b:Ext w (w.alloc (.cells #[.I x.aQ] T.a)):=(Ext.refl w).alloc _;refine AL (Rb (by rw[h.pJ 24 Ae,l])) (m _ _ ⟨λn k=>?_,h.mod.trans b.mod,?_,λ_ _=>⟨_,by simp[jk,bS],h.mod.size,heap_alloc_new w _⟩,λc d=>?_,λc=>by rw[jk,bS,if_neg Ae];exact h.H9 c⟩)
 .rw[jk,bS,if_neg (by intro a;subst a;simp at k)];exact h.pJ n k
 .obtain⟨p,v4,e,f,g,r,q⟩:=h.rows;exact⟨p,v4,e.ext b,f,g,λa=>(by cases a),λa=>by rw[jk,bS,if_neg Ae];exact q a⟩
 .obtain⟨d,e,f,g⟩:=h.H8 c d;exact⟨d,by rw[jk,bS,if_neg Ae];exact e,f,b.obj g⟩
def o1.Uz(h:o1 w1 s x pC w0 vs re d25 d26 false false d33 S w)(l:pC 30 = .I x.ab)(m:∀i j,o1 w1 s x pC w0 vs re d25 d26 true false d33 (put S (some 31) i) j->K i j) :
  oW Tryz.prog (.hj T.a 1 1 [.I 0] [(0,.tmp 30)]) S w K:=by
 have b:Ext w (w.alloc (.cells #[.I x.ab] T.a)):=(Ext.refl w).alloc _;refine AL (Rb (by rw[h.pJ 30 Ae,l])) (m _ _ ⟨λn k=>?_,h.mod.trans b.mod,?_,λc d=>?_,λ_ _=>⟨_,by simp[jk,bS],h.mod.size,heap_alloc_new w _⟩,λc=>by rw[jk,bS,if_neg Ae];exact h.H9 c⟩)
 .rw[jk,bS,if_neg (by intro a;subst a;simp at k)];exact h.pJ n k
 .obtain⟨p,v4,e,f,g,q,r⟩:=h.rows;exact⟨p,v4,e.ext b,f,g,λa=>by rw[jk,bS,if_neg Ae];exact q a,λa=>by cases a⟩
 .obtain⟨d,e,f,g⟩:=h.Et c d;exact⟨d,by rw[jk,bS,if_neg Ae];exact e,f,b.obj g⟩
def o1.P6(h:o1 w1 s x pC w0 vs re true false d31 d32 d33 S w)(r:pC 22=cy (vs 3))(t:∀c d,c<5->(cy (vs c)).ownBlock=some d->d<w0.heap.size)(H:w1.heap.size<=w0.heap.size)(I:s.L.length<=100000)
  (e:∀k f,o1 w1 s x pC w0 vs re true true d31 d32 d33 (put S (some 26) k) f->K k f) :
  oW Tryz.prog (.app T.b T.a 1 8 (.tmp 22) (.tmp 25)) S w K:=by
 obtain⟨l,u,J,v⟩:=h.Et rfl rfl;obtain⟨L,m,g,i,j,M,y⟩:=h.rows;obtain rfl:=i rfl;show Ar Tryz.prog T.b T.a 1 8 (S 22) (S 25) w K;rw[h.pJ 22 Ae,r,u];have N:=h.mod.size;refine jN.app (vs:=fK (fK vs 3 (vs 3)) 4 m) (xs:=fK (fK s.rows 3 (if false=true then s.L++[x.aQ] else s.L)) 4 (if d32=true then s.H++[x.ab] else s.H)) (y:=x.aQ) 3 Ae g (λ_=>rfl) (gP v) je (by simp[fK];omega) (by simp[fK];unfold maxLen;omega) AW λz f A B _=>?_;have n:Mod (λd=>(cy (vs 3)).ownBlock=some d) w f:=Mod.grown B λd e=>e;refine e _ _ ⟨λC p=>?_,h.mod.trans (n.Ct λd e=>.inl e),?_,λ_ a=>(by cases a),λb l=>?_,λb=>by rw[jk,bS,if_neg Ae];exact h.H9 b⟩
 .rw[jk,bS,if_neg (by intro a;subst a;simp at p)];exact h.pJ C p
 .refine⟨z,m,A.congr (λc G=>?_) (λc G=>?_),λa=>(by cases a),j,λ_=>by simp[jk,bS],λa=>by rw[jk,bS,if_neg Ae];exact y a⟩
  .unfold fK;by_cases b:c=3
   .subst b;simp
   .simp[b]
  .unfold fK;by_cases b:c=3
   .subst b;simp
   .simp[b]
 .obtain⟨q,g,i,j⟩:=h.H8 b l;exact⟨q,by rw[jk,bS,if_neg Ae];exact g,i,n.obj (λa=>by have:=t 3 q Ae a;omega) j⟩
def o1.P7(h:o1 w1 s x pC w0 vs re true true true false d33 S w)(k:pC 28=cy (vs 4))(A:w1.heap.size<=w0.heap.size)(B:s.H.length<=100000)
  (c:∀g d,o1 w1 s x pC w0 vs re true true true true d33 (put S (some 32) g) d->K g d) :
  oW Tryz.prog (.app T.b T.a 1 8 (.tmp 28) (.tmp 31)) S w K:=by
 obtain⟨C,l,G,m⟩:=h.H8 rfl rfl;obtain⟨i,H,n,I,p,q,J⟩:=h.rows;obtain rfl:=p rfl;show Ar Tryz.prog T.b T.a 1 8 (S 28) (S 31) w K;rw[h.pJ 28 Ae,k,l];have L:=h.mod.size;refine jN.app (vs:=fK (fK vs 3 i) 4 (vs 4)) (xs:=fK (fK s.rows 3 (if true=true then s.L++[x.aQ] else s.L)) 4 (if false=true then s.H++[x.ab] else s.H)) (y:=x.ab) 4 Ae n (λ_=>rfl) (gP m) je (by simp[fK];omega) (by simp[fK];unfold maxLen;omega) AW λr d t u _=>?_;have v:Mod (λe=>(cy (vs 4)).ownBlock=some e) w d:=Mod.grown u λe c=>c;refine c _ _ ⟨λy j=>?_,h.mod.trans (v.Ct λe c=>.inr c),?_,λ_ a=>(by cases a),λ_ a=>(by cases a),λb=>by rw[jk,bS,if_neg Ae];exact h.H9 b⟩
 .rw[jk,bS,if_neg (by intro a;subst a;simp at j)];exact h.pJ y j
 .refine⟨i,r,t.congr (λf z=>?_) (λf z=>?_),λa=>(by cases a),λa=>(by cases a),λa=>by rw[jk,bS,if_neg Ae];exact q a,λ_=>by simp[jk,bS]⟩
  .unfold fK;by_cases b:f=4
   .subst b;simp
   .simp[b]
  .unfold fK;by_cases b:f=4
   .subst b;simp
   .simp[b]
def o1.VO(h:o1 w1 s x pC w0 vs re d25 d26 d31 d32 d33 S w):o1 w1 s x pC w0 vs re d25 d26 d31 d32 true (cz S 33 (.pointer (some re))) w:=by
 have b:∀a,a≠33->cz S 33 (.pointer (some re)) a=S a:=λa f=>by rw[bS,if_neg f]
 refine⟨λa f=>?_,h.mod,?_,λg i=>?_,λg i=>?_,λ_=>by simp[bS]⟩
 .rw[b a (by intro c;subst c;simp at f)];exact h.pJ a f
 .obtain⟨k,v4,d,e,l,m,n⟩:=h.rows;exact⟨k,v4,d,e,l,λc=>by rw[b _ Ae];exact m c,λc=>by rw[b _ Ae];exact n c⟩
 .obtain⟨j,d,e⟩:=h.Et g i;exact⟨j,by rw[b _ Ae];exact d,e⟩
 .obtain⟨j,d,e⟩:=h.H8 g i;exact⟨j,by rw[b _ Ae];exact d,e⟩
end
end Go.Proofs.R
namespace Go.Proofs.R
open Go Go.RowKit a8 o
def lR(b:Nat)(w w':A_):Prop := ∀a,a<3->w'.cell? (Addr.add ⟨b,0,none⟩ a)=w.cell? (Addr.add ⟨b,0,none⟩ a)
def lR.refl{b:Nat}{w:A_}:lR b w w:=λ_ _=>rfl
def lR.trans{b:Nat}{w w' a:A_}(h:lR b w w')(k:lR b w' a):lR b w a:=λc d=>(k c d).trans (h c d)
theorem lR.of{b:Nat}{w w':A_}{a bg bj:B_}{l e:C_ B_}{t g:F_}{f i:Nat×Nat}(h:w.heap[b]? = some (.cells (a :: bg :: bj :: l).toArray t f))(c:w'.heap[b]? = some (.cells (a :: bg :: bj :: e).toArray g i)):lR b w w':=λd j=>by
 have:d=0\/d=1\/d=2:=AW
 rcases this with rfl | rfl | rfl
 .rw[gD h (v:=a) rfl,gD c (v:=a) rfl]
 .rw[gD h (v:=bg) rfl,gD c (v:=bg) rfl]
 .rw[gD h (v:=bj) rfl,gD c (v:=bj) rfl]
theorem lR.ext{b:Nat}{w w':A_}(a:Ext w w')(h:b<w.heap.size):lR b w w':=λc _=>by
 rw[add_eq];simp only[World.cell?,a.heap h]
def Zs:e5:=(.take (fp 21 4 3) (.take (dD 22 21) (.take (fp 23 0 11) (.take (dD 24 23) (.take (fp 27 5 3) (.take (dD 28 27) (.take (fp 29 1 11) (.take (dD 30 29) (.alt (c6 25 (.hj T.a 1 1 [(.int .i64 0)] [(0,(aO 24))])) (.alt (c6 26 (.app T.b T.a 1 8 (aO 22) (aO 25))) (.take (fp 33 4 3) (.alt (c6 31 (.hj T.a 1 1 [(.int .i64 0)] [(0,(aO 30))])) (.gv (c6 32 (.app T.b T.a 1 8 (aO 28) (aO 31))) (.gv (ys 33 26) (.take (fp 34 5 3) (.gv (ys 34 32) .done .nil)) .nil) .nil) .nil)) (.alt (c6 31 (.hj T.a 1 1 [(.int .i64 0)] [(0,(aO 30))])) (.alt (c6 26 (.app T.b T.a 1 8 (aO 22) (aO 25))) (.take (fp 33 4 3) (.gv (c6 32 (.app T.b T.a 1 8 (aO 28) (aO 31))) (.gv (ys 33 26) (.take (fp 34 5 3) (.gv (ys 34 32) .done .nil)) .nil) .nil)) .nil) .nil)) (.alt (c6 31 (.hj T.a 1 1 [(.int .i64 0)] [(0,(aO 30))])) (.alt (c6 25 (.hj T.a 1 1 [(.int .i64 0)] [(0,(aO 24))])) (.alt (c6 26 (.app T.b T.a 1 8 (aO 22) (aO 25))) (.take (fp 33 4 3) (.gv (c6 32 (.app T.b T.a 1 8 (aO 28) (aO 31))) (.gv (ys 33 26) (.take (fp 34 5 3) (.gv (ys 34 32) .done .nil)) .nil) .nil)) .nil) .nil) .nil))))))))))
def nJ{S:Fr}{n m:Nat}{v a:B_}(h:S m=a)(b:m≠n):cz S n v m=a:=by rw[bS,if_neg b];exact h
def ajB{w1 w:A_}{d bs y:Nat}{s:hJ}{x:ec}{S:Fr}{N:Fr->A_->Prop}(az:d≠bs)(aP:d<w1.heap.size/\bs<w1.heap.size)(O:lS w1 d bs s w)(P:S 3 = .pointer (some ⟨d,0,none⟩))(ai:S 11 = .pointer (some ⟨y,0,none⟩))
  (z:w.heap[y]? = some (.cells x.enc.toArray T.d))(Q:s.L.length<=100000)(U:s.H.length<=100000)
  (m:∀aA e,lS w1 d bs ⟨s.V,s.C,s.cE,s.n,s.L++[x.aQ],s.H++[x.ab],s.Z⟩ e->eF uT w e->lR d w e->N aA e):∃C:A_->Prop,C w/\eL Tryz.prog C Zs S w N:=by
 obtain⟨c,aj,I,i,V,W⟩:=O.ex;have ak:=i.not I Ae;have al:=i.not z Ae;refine⟨Mod (λa=>(cy (c 3)).ownBlock=some a\/(cy (c 4)).ownBlock=some a) w,Mod.refl _ _,?_⟩;have X:∀e,Mod (λa=>(cy (c 3)).ownBlock=some a\/(cy (c 4)).ownBlock=some a) w e->e.heap[d]? = some (.cells #[cy (c 0),cy (c 1),cy (c 2),.I s.n,cy (c 3),cy (c 4)] T.e) :=
  λe j=>j.obj (λq=>q.elim (ak 3 Ae) (ak 4 Ae)) I
 have an:∀e,Mod (λa=>(cy (c 3)).ownBlock=some a\/(cy (c 4)).ownBlock=some a) w e->e.heap[y]? = some (.cells x.enc.toArray T.d) :=
  λe j=>j.obj (λq=>q.elim (al 3 Ae) (al 4 Ae)) z
 have u:w1.heap.size<=w.heap.size:=O.mod.size;unfold Zs;refine eL.mr P ?_;refine eL.ck (v:=cy (c 3)) (by simp[bS];rfl) (λe j=>gD (X e j) rfl) ?_;refine eL.mr (a:=⟨y,0,none⟩) (by simp[bS,ai]) ?_;refine eL.ck (v:=.I x.aQ) (by simp[bS];rfl) (λe j=>gD (an e j) rfl) ?_;refine eL.mr (a:=⟨d,0,none⟩) (by simp[bS,P]) ?_;refine eL.ck (v:=cy (c 4)) (by simp[bS];rfl) (λe j=>gD (X e j) rfl) ?_;refine eL.mr (a:=⟨y,0,none⟩) (by simp[bS,ai]) ?_;refine eL.ck (v:=.I x.ab) (by simp[bS];rfl) (λe j=>gD (an e j) rfl) ?_;generalize A:cz _ 30 _=n;have J:n 3 = .pointer (some ⟨d,0,none⟩):=by subst A;simp[bS,P]
 have Y:n 22=cy (c 3):=by subst A;simp[bS]
 have ao:n 24 = .I x.aQ:=by subst A;simp[bS]
 have Z:n 28=cy (c 4):=by subst A;simp[bS]
 have ab:n 30 = .I x.ab:=by subst A;simp[bS]
 have aB:∀b,c b=fK (fK c 3 (c 3)) 4 (c 4) b:=λb=>by
  unfold fK;by_cases f:b=4
  .subst f;simp
  .by_cases B:b=3
   .subst B;simp
   .simp[f,B]
 have aC:∀b,s.rows b=fK (fK s.rows 3 (if false=true then s.L++[x.aQ] else s.L)) 4 (if false=true then s.H++[x.ab] else s.H) b:=λb=>by
  unfold fK;by_cases f:b=4
  .subst f;simp[hJ.rows]
  .by_cases B:b=3
   .subst B;simp[hJ.rows]
   .simp[f,B]
 have aq:o1 w1 s x n w c (Addr.add ⟨d,0,none⟩ 4) false false false false false n w :=
  ⟨λ_ _=>rfl,Mod.refl _ _,⟨c 3,c 4,i.congr (λb r=>aB b) (λb r=>aC b),
   λ_=>rfl,λ_=>rfl,λg=>(by cases g),λg=>(by cases g)⟩,λg=>(by cases g),λg=>(by cases g),λg=>(by cases g)⟩
 have ae:∀b a,b<5->(cy (c b)).ownBlock=some a->a<w.heap.size:=λb a r aD=>(i.lt b a r aD).2;have af:∀S t,o1 w1 s x n w c (Addr.add ⟨d,0,none⟩ 4) true true true true true S t->eL Tryz.prog (Mod (λa=>(cy (c 3)).ownBlock=some a\/(cy (c 4)).ownBlock=some a) w) (.gv (ys 33 26) (.take (fp 34 5 3) (.gv (ys 34 32) .done .nil)) .nil) S t N:=by
  intro S t p;obtain⟨K,L,ar,_,_,aE,aF⟩:=p.rows;have ag:=X t p.mod;refine eL.ig ?_;show AF (S 33) (S 26) t _;rw[p.H9 rfl,aE rfl];refine VI λaG=>_B ag Ah rfl λM aH aI=>?_;show eL _ _ _ S _ _;refine eL.mr (a:=⟨d,0,none⟩) (by rw[p.pJ 3 Ae,J]) ?_;refine eL.ig ?_;show AF (cz S 34 _ 34) (cz S 34 _ 32) M _;rw[show cz S 34 (.pointer (some (Addr.add ⟨d,0,none⟩ 5))) 34 = .pointer (some (Addr.add ⟨d,0,none⟩ 5)) from by simp[bS],nJ (aF rfl) Ae];refine VI λaG=>_B aI Ah rfl λah aJ au=>?_;have G:=aH.trans aJ;have aK:=ar.not ag Ae;obtain⟨av,aQ⟩:∃av,av=cy aj:=⟨_,rfl⟩;refine m _ _ ⟨?_,fK (fK c 3 K) 4 L,aj,?_,(ar.mod (G.mod (A:=λa=>a=d) rfl) λb a r m g=>aK b r (by rw[<-g];exact m)).congr (λ_ _=>rfl) (λb r=>?_),?_,?_⟩ ?_ ?_
  .refine(O.mod.comp p.mod (B:=λa=>a=d\/a=bs) (λ_ _ f=>f) λb r f=>?_).trans (G.mod (A:=λa=>a=d\/a=bs) (.inl rfl));rcases f with f | f
   .have:=(i.lt 3 b Ae f).1;omega
   .have:=(i.lt 4 b Ae f).1;omega
  .exact au
  .have:b=0\/b=1\/b=2\/b=3\/b=4:=AW
   rcases this with rfl | rfl | rfl | rfl | rfl<;>simp[fK,hJ.rows]
  .exact G.obj (p.mod.obj (λq=>q.elim (i.not V Ae 3 Ae) (i.not V Ae 4 Ae)) V) (Ne.symm az)
  .refine(W.mod p.mod λa m q=>?_).mod (G.mod (A:=λa=>a=d) rfl) λa m g=>?_
   .obtain⟨cur,h⟩:=W.b0 a m;exact q.elim (i.not h Ae 3 Ae) (i.not h Ae 4 Ae)
   .obtain⟨cur,h⟩:=W.b0 a m;subst g;rw[I] at h;injection h with h;injection h with _ g;exact absurd g Ae
  .refine(eF.mod p.mod λa aS aT z f=>?_).trans (eF.wr G ag Ae);rcases f with f | f
   .obtain⟨cur,h⟩:=(i.own 3 Ae).b0 a f;rw[z] at h;injection h with h;injection h with _ g;rw[g];decide
   .obtain⟨cur,h⟩:=(i.own 4 Ae).b0 a f;rw[z] at h;injection h with h;injection h with _ g;rw[g];decide
  .exact lR.of I au
 clear m;refine⟨nr.e (aq.afA ao λaM t v=>⟨v.mod,?_,?_,trivial⟩),nr.e (aq.Uz ab λaM t v=>⟨v.mod,?_⟩),trivial⟩
 .refine nr.e (v.P6 Y ae u Q λK M l=>⟨l.mod,?_⟩);refine eL.mr (a:=⟨d,0,none⟩) (by rw[l.pJ 3 Ae,J]) ?_;refine eL.CU (nr.e (l.VO.Uz ab λL ah k=>⟨k.mod,?_⟩));exact eL.ig (mu.e (k.P7 Z u U λaw ax H=>af _ _ H))
 .refine nr.e (v.Uz ab λK M l=>⟨l.mod,?_⟩);refine eL.CU (nr.e (l.P6 Y ae u Q λL ah k=>⟨k.mod,?_⟩));refine eL.mr (a:=⟨d,0,none⟩) (by rw[k.pJ 3 Ae,J]) ?_;exact eL.ig (mu.e (k.VO.P7 Z u U λaw ax H=>af _ _ H))
 .refine eL.CU (nr.e (v.afA ao λK M l=>⟨l.mod,?_⟩));refine eL.CU (nr.e (l.P6 Y ae u Q λL ah k=>⟨k.mod,?_⟩));refine eL.mr (a:=⟨d,0,none⟩) (by rw[k.pJ 3 Ae,J]) ?_;exact eL.ig (mu.e (k.VO.P7 Z u U λaw ax H=>af _ _ H))
end Go.Proofs.R
namespace Go.Proofs.R
open Go Go.RowKit a8 o
section
variable{w1:World}{c9 bs:Nat}{s:hJ}{W bF:World}
def axA{vs:Nat->ef}{i:ef}{j7 j8 g:A_}{y:o.Cell}{B:B_}(C:c9≠bs)(H:Mod (λa=>a=c9\/a=bs) w1 W)(r:W.heap[c9]? = some (.cells #[cy (vs 0),cy (vs 1),cy (vs 2),.I s.n,cy (vs 3),cy (vs 4)] T.e))(t:jN da T.a 1 w1.heap.size W 5 vs s.rows)
  (u:W.heap[bs]? = some (.cells #[cy i] T.z))(v:aR o.Cell.slot T.p 4 w1.heap.size W (cy i) s.Z)(j:Ext W j7)(I:j7.grownBy j8 (cy i).ownBlock)(w:aR o.Cell.slot T.p 4 w1.heap.size j8 B (s.Z++[y]))
  (x:dY bs j8 g)(z:g.heap[bs]? = some (.cells #[B] T.z)):lS w1 c9 bs ⟨s.V,s.C,s.cE,s.n,s.L,s.H,s.Z++[y]⟩ g/\eF uT W g/\lR c9 W g:=by
 obtain⟨J,K,rfl,_⟩:=w.form;have l:Mod (λa=>(cy i).ownBlock=some a) j7 j8:=Mod.grown I λa c=>c;have G:∀{a:Nat} {h:Array B_} {e:F_},W.heap[a]? = some (.cells h e)->e≠T.p->¬(cy i).ownBlock=some a:=λ{a h e} c A f=>by
  obtain⟨m,b⟩:=v.b0 a f;rw[c] at b;injection b with b;injection b with _ b;exact A b
 have n:∀{a:Nat} {h:Array B_} {e:F_},W.heap[a]? = some (.cells h e)->e≠T.p->j8.heap[a]? = some (.cells h e):=λc A=>l.obj (G c A) (j.obj c);have p:Mod (λa=>a=bs) j8 g:=x.mod rfl;refine⟨⟨?_,vs,(J,_,K),p.obj C (n r Ae),?_,z,w.mod p λa c f=>?_⟩,?_,lR.of r (p.obj C (n r Ae))⟩
 .have L:Mod (λa=>a=c9\/a=bs) w1 j7:=H.comp (A':=λ_=>False) j.mod (λ_ _ d=>d) λ_ _ d=>d.elim;have M:Mod (λa=>a=c9\/a=bs) w1 j8:=L.comp l (λ_ _ d=>d) λk q d=>by have:=(v.lt k d).1;omega
  exact M.trans (x.mod (.inr rfl))
 .refine((t.ext j).mod l λk a q c f=>?_).mod p λk a q c f=>?_
  .obtain⟨m,b⟩:=(t.own k q).b0 a c;exact G b Ae f
  .subst f;obtain⟨m,b⟩:=(t.own k q).b0 a c;rw[u] at b;injection b with b;injection b with _ b;exact absurd b Ae
 .subst f;obtain⟨m,b⟩:=w.b0 a c;rw[n u Ae] at b;injection b with b;injection b with _ b;exact absurd b Ae
 .refine((eF.ext j).trans (eF.mod l λa h e z d=>?_)).trans (eF.wr x (n u Ae) Ae);obtain⟨m,b⟩:=(v.ext j).b0 a d;rw[z] at b;injection b with b;injection b with _ b;rw[b];decide
def alG{vs:Nat->ef}{d:ef}{n:Int}(l:c9≠bs)(m:Mod (λa=>a=c9\/a=bs) w1 W)(c:W.heap[c9]? = some (.cells #[cy (vs 0),cy (vs 1),cy (vs 2),.I s.n,cy (vs 3),cy (vs 4)] T.e))(i:jN da T.a 1 w1.heap.size W 5 vs s.rows)
  (p:W.heap[bs]? = some (.cells #[cy d] T.z))(j:aR o.Cell.slot T.p 4 w1.heap.size W (cy d) s.Z)(e:dY c9 W bF)(q:n=((s.n+1:Nat):Int))
  (k:bF.heap[c9]? = some (.cells #[cy (vs 0),cy (vs 1),cy (vs 2),.I n,cy (vs 3),cy (vs 4)] T.e)):lS w1 c9 bs ⟨s.V,s.C,s.cE,s.n+1,s.L,s.H,s.Z⟩ bF/\eF uT W bF/\lR c9 W bF:=by
 subst q;have f:Mod (λa=>a=c9) W bF:=e.mod rfl;refine⟨⟨m.trans (e.mod (.inl rfl)),vs,d,k,i.mod f λr a t g h=>?_,f.obj (Ne.symm l) p,j.mod f λa g h=>?_⟩,eF.wr e c Ae,lR.of c k⟩
 .subst h;exact i.not c Ae r t g
 .subst h;obtain⟨u,b⟩:=j.b0 a g;rw[c] at b;injection b with b;injection b with _ b;exact absurd b Ae
end
def asS(so b:Int)(v:B_)(l:C_ ec)(f jJ g:C_ Int)(cs:C_ o.Cell)(base:Nat)(w1:A_)(d bs:Nat)(w:A_)(r:d≠bs)(U:d<w1.heap.size/\bs<w1.heap.size)(e:lS w1 d bs (hJ.of f jJ g cs) w)(C:aR ec.enc T.d 3 base w v l)
  (aE:cs.length+l.length<=100000) :
  EG F.s #[.I so,.I b,v,.pointer (some ⟨d,0,none⟩),.pointer (some ⟨bs,0,none⟩)] w λv c=>v = .I cs.length/\lS w1 d bs (hJ.of f jJ g (cs++fv so b l 0)) c/\eF uT w c/\lR d w c:=by
 obtain⟨G,V,rfl,_⟩:=C.form;obtain⟨aF,W,h,k,i,j⟩:=e.ex;refine bm E.s ?_;refine ad ?_;refine K_ 16 l.length [0,1,2,3,4,9,14,15] (λ_:Unit=>[]) () (λa _ c=>lS w1 d bs (hJ.of f jJ g (cs++fv so b (l.take a) 0)) c/\eF uT w c/\lR d w c) aV aV ⟨by simpa[fv] using e,eF.refl,lR.refl⟩ ?_;clear h k i j e;rintro a _ X H aG ⟨e,s,I⟩;have Y:a4 3 (Flat ec.enc) H (.slice G l.length V) l:=aR.kF (enc:=ec.enc) (λ_=>rfl) (C.ia s Ae);refine ad ?_;apply I_<;>intro h
 .have J:a<l.length:=AW
  obtain⟨aH,rfl⟩:=Y.addr;have t:(fv so b (l.take a) 0).length=a:=by rw[rN,NU];omega
  have aI:=yZ l[a];refine eC ?_;simp -dsimp only[cA];refine eC ?_;simp -dsimp only[cA];refine eC ?_;intro aJ aK Z K ab;refine eC ?_;intro u L M;have x:=L.ext K Z;have y:=e.ext x;clear L K ab;refine eC ?_;refine S_ [0,1,2,3,4,9,10,11,14,15,16] (λ_:Unit=>[]) (λ_ c=>lS w1 d bs ⟨f,jJ,g,(cs++fv so b (l.take a) 0).length,(cs++fv so b (l.take a) 0).map (·.aQ)++[l[a].aQ],(cs++fv so b (l.take a) 0).map (·.ab)++[l[a].ab],cs++fv so b (l.take a) 0⟩ c/\eF uT u c/\lR d u c) ?_ ?_
  .refine ad ?_;intro ae m;refine _y (ajB r U (y.ext m) (by simp[bS]) (by simp[bS]) (m.obj M) (by simp[hJ.of,t];omega) (by simp[hJ.of,t];omega) λaM c af a ag=>?_);refine ad ?_;exact⟨(),trivial,af,(eF.ext m).trans a,(lR.ext m (by have:=y.mod.size;omega)).trans ag⟩
  have ah:lR d H u:=lR.ext x (by have:=e.mod.size;omega);clear y;rintro _ X ae ⟨n,N,ai⟩;obtain⟨aP,⟨W,aQ,aS⟩,h,k,i,j⟩:=n.ex;have aT:=N.b0 _ _ _ M Ae;refine ad ?_;intro aj ak aU p q;replace q:aj.heap[ak]? = some (.cells (o.Cell.slot ⟨so,b,a,l[a].aQ,l[a].ab,l[a].kind⟩).toArray T.p):=q;have z:=j.ext p;have aW:=n.mod.size;have aX:=p.size;have O:(cs++fv so b (l.take a) 0).length=cs.length+a:=by rw[Jv,t]
  refine T_ (y:=⟨so,b,a,l[a].aQ,l[a].ab,l[a].kind⟩) z q rfl (λ_=>rfl) ahH (by simp only[O];omega) (by unfold maxLen;simp only[O];omega) AW λG aY a0 a2 P A=>?_;have al:=z.box A (p.obj i) Ae;refine ad ?_;intro a5 an Q;obtain⟨B,ao,aq⟩:=axA r n.mod h k i j p A P an Q;dsimp only at B;obtain⟨a6,a7,S,ar,au,av⟩:=B.ex;clear h k i j n z P A al Q q;have aw:=S;dsimp only[cy] at S;refine ad ?_;intro a9 ax az;obtain⟨aA,aB,aC⟩:=alG r B.mod aw ar au av ax (by dsimp only;omega) az;refine ad ?_;refine⟨J,aZ,(),trivial,?_,((((s.trans (eF.ext x)).trans N).trans ao).trans aB),((((I.trans ah).trans ai).trans aq).trans aC)⟩;rw[asT J,<-VA];have aD:hJ.of f jJ g ((cs++fv so b (l.take a) 0)++[⟨so,b,a,l[a].aQ,l[a].ab,l[a].kind⟩])=⟨f,jJ,g,(cs++fv so b (l.take a) 0).length+1,(cs++fv so b (l.take a) 0).map (·.aQ)++[l[a].aQ],(cs++fv so b (l.take a) 0).map (·.ab)++[l[a].ab],cs++fv so b (l.take a) 0++[⟨so,b,a,l[a].aQ,l[a].ab,l[a].kind⟩]⟩:=by
   simp[hJ.of,List.map_append,Nat.add_assoc]
  rw[aD];exact aA
 .refine ad ?_;rw[Im AW] at e;exact⟨aZ,e,s,I⟩
end Go.Proofs.R
namespace a8
open Go Go.RowKit
section
variable{P:Program}{C:World->Prop}{S:Fr}{w:World}{K:Fr->World->Prop}
def eL.ps{d m:Nat}{r:e5}{v:B_}(a:S m=v)(h:eL P C r (cz S d v) w K):eL P C (.take ⟨some d,none,.p (.ps (.tmp m))⟩ r) S w K:=by subst a;exact h
theorem nr.c{i:r0}{d:Nat}{k:Fr->A_->Prop}(h:sW P i S w λb a=>C a/\k (put S (some d) b) a):nr P C ⟨some d,none,.c i⟩ S w k:=h
end
end a8
namespace o
def hJ.add(s:hJ)(off:Nat)(y:Int):hJ:=if off=0 then { s with V:=s.V++[y] } else if off=1 then { s with C:=s.C++[y] } else { s with cE:=s.cE++[y] }
end o
namespace Go.Proofs.R
open Go Go.RowKit a8 o
def Z3(n x y off:Nat)(so:Int):e5 :=
 (.take (fp n off 4) (.take (dD (n+1) n) (.take (aL (n+2) 6) (.take (aL (n+3) x) (.take (aL (n+4) y)
 (.alt (fr (n+5) (.val (aO (n+2)) [(bQ so),(aO (n+3)),(aO (n+4))]))
 (.alt (c6 (n+6) (.hj T.a 1 1 [(.int .i64 0)] [(0,(aO (n+5)))]))
 (.gv (c6 (n+7) (.app T.b T.a 1 8 (aO (n+1)) (aO (n+6))))
 (.take (fp (n+8) off 4) (.gv (ys (n+8) (n+7)) .done .nil)) .nil) .nil) .nil))))))
def Qs{w1 w:A_}{c bs n x y off base:Nat}{so k:Int}{H:B_}{l:C_ ec}{m jJ p:C_ Int}{cs:C_ o.Cell}{S:Fr}{Z:Fr->A_->Prop}(O:off<3)(aX:20<=n)(aY:x<20)(a0:y<20)
  (ab:c≠bs)(aq:c<w1.heap.size/\bs<w1.heap.size)(ae:S 4 = .pointer (some ⟨c,0,none⟩))(ar:S 6 = .func (.func F.s) #[] #[.pointer (some ⟨c,0,none⟩),.pointer (some ⟨bs,0,none⟩)])(au:S x = .I k)(av:S y=H)
  (af:lS w1 c bs (hJ.of m jJ p cs) w)(aw:aR ec.enc T.d 3 base w H l)(ax:cs.length+l.length<=100000)(P:m.length<=100000/\jJ.length<=100000/\p.length<=100000)
  (h:∀ag v,(∀d,d<n\/n+8<d->ag d=S d)->lS w1 c bs ((hJ.of m jJ p (cs++fv so k l 0)).add off cs.length) v->eF uT w v->Z ag v):∃C:A_->Prop,C w/\eL Tryz.prog C (Z3 n x y off so) S w Z:=by
 obtain⟨A,a2,j,q,Q,B⟩:=af.ex;have I:w.cell? (Addr.add ⟨c,0,none⟩ off)=some (cy (A off)):=by
  have:off=0\/off=1\/off=2:=AW
  rcases this with rfl | rfl | rfl<;>exact gD j rfl
 refine⟨λv=>v.cell? (Addr.add ⟨c,0,none⟩ off)=some (cy (A off)),I,?_⟩;unfold Z3;refine eL.mr ae ?_;refine eL.ck (v:=cy (A off)) (by simp[bS]) (λv az=>az) ?_;refine eL.ps (nJ (nJ ar AW) AW) ?_;refine eL.ps (nJ (nJ (nJ au AW) AW) AW) ?_;refine eL.ps (nJ (nJ (nJ (nJ av AW) AW) AW) AW) ?_;generalize z:cz _ (n+4) _=e;have aA:∀d,d<n\/n+8<d->e d=S d:=by
  subst z;intro d J;simp only[bS];rw[if_neg AW,if_neg AW,if_neg AW,if_neg AW,if_neg AW]
 have aB:e 4 = .pointer (some ⟨c,0,none⟩):=by subst z;exact nJ (nJ (nJ (nJ (nJ ae AW) AW) AW) AW) AW
 have aC:e (n+1)=cy (A off):=by subst z;simp[bS]
 have aD:e (n+2) = .func (.func F.s) #[] #[.pointer (some ⟨c,0,none⟩),.pointer (some ⟨bs,0,none⟩)]:=by subst z;simp[bS]
 have aE:e (n+3) = .I k:=by subst z;simp[bS]
 have aF:e (n+4)=H:=by subst z;simp[bS]
 refine eL.CU (nr.c ?_);show CA _ (e (n+2)) [.I so,e (n+3),e (n+4)] w _;rw[aD,aE,aF];refine Qr (first:=[]) (cap:=[.pointer (some ⟨c,0,none⟩),.pointer (some ⟨bs,0,none⟩)]) Cg (asS so k H l m jJ p cs base w1 c bs w ab aq af aw ax) ?_;rintro _ r ⟨rfl,aG,aH,U⟩;refine⟨(U off O).trans I,?_⟩;refine eL.CU (nr.e ?_);have G:Ext r (r.alloc (.cells #[.I cs.length] T.a)):=(Ext.refl r).alloc _;rw[ame];refine AL (cs:=[.I cs.length]) (Rb (by simp[jk,bS])) ?_;refine⟨G.cell ((U off O).trans I),?_⟩;have ah:=heap_alloc_new r (.cells #[.I cs.length] T.a);have s:=G.cell ((U off O).trans I);have K:=aG.ext G;have ai:eF uT w (r.alloc (.cells #[.I cs.length] T.a)):=aH.trans (eF.ext G);show eL _ _ _ _ (r.alloc (.cells #[.I cs.length] T.a)) _;generalize r.alloc (.cells #[.I cs.length] T.a)=aj at ah s K ai;clear G j q Q B;obtain⟨t,aI,j,q,Q,B⟩:=K.ex;have aJ:cy (A off)=cy (t off):=by
  have:off=0\/off=1\/off=2:=AW
  rcases this with rfl | rfl | rfl
  .rw[gD j (v:=cy (t 0)) rfl] at s;exact(Option.some.inj s).symm
  .rw[gD j (v:=cy (t 1)) rfl] at s;exact(Option.some.inj s).symm
  .rw[gD j (v:=cy (t 2)) rfl] at s;exact(Option.some.inj s).symm
 refine eL.ig (mu.e ?_);rw[amd];unfold aO;rw[dy,dy];rw[show ∀b f,put (put e (some (n+5)) b) (some (n+6)) f (n+1)=cy (t off) from λb f=>by rw[jk,jk,<-aJ];exact nJ (nJ aC AW) AW,
  show ∀b f,put (put e (some (n+5)) b) (some (n+6)) f (n+6)=f from λb f=>by rw[jk,jk,bS,if_pos rfl]]
 have a5:=K.mod.size;have a6:((hJ.of m jJ p (cs++fv so k l 0)).rows off).length<=100000:=by
  have:off=0\/off=1\/off=2:=AW
  rcases this with rfl | rfl | rfl
  .exact P.1
  .exact P.2.1
  .exact P.2.2
 refine jN.app (y:=(cs.length:Int)) off AW q (λ_=>rfl) (gP ah) je AW (by unfold maxLen;omega) AW λaK L ak aM _=>?_;have M:Mod (λa=>(cy (t off)).ownBlock=some a) aj L:=Mod.grown aM λa h=>h;have al:∀{a:Nat} {V:Array B_} {d:F_},aj.heap[a]? = some (.cells V d)->d≠T.a->L.heap[a]? = some (.cells V d):=λh J=>M.obj (q.not h J off AW) h;refine eL.mr (a:=⟨c,0,none⟩) (by rw[jk,jk,jk];exact nJ (nJ (nJ aB AW) AW) AW) ?_;refine eL.ig ?_;show AF (cz _ (n+8) _ (n+8)) (cz (put _ (some (n+7)) _) (n+8) _ (n+7)) L _;rw[show ∀(S:Fr) W,cz S (n+8) W (n+8)=W from λS W=>by rw[bS,if_pos rfl],show ∀(S:Fr) b f,cz (put S (some (n+7)) b) (n+8) f (n+7)=b from λS b f=>by rw[jk,bS,if_neg AW,bS,if_pos rfl]];have X:=al j Ae;refine VI λa7=>_B X (by simp;omega) rfl λaP N aQ=>?_;have an:Mod (λa=>a=c) L aP:=N.mod rfl;refine h _ _ (λd J=>?_) ⟨?_,fK t off aK,aI,?_,(ak.mod an λi a Y aS u=>?_).congr (λ_ _=>rfl) (λi Y=>?_),?_,?_⟩ ?_
 .simp only[jk,agj,bS];rw[if_neg AW,if_neg AW,if_neg AW,if_neg AW];exact aA d J
 .refine(K.mod.comp M (B:=λa=>a=c\/a=bs) (λ_ _ b=>b) λi Y b=>?_).trans (N.mod (A:=λa=>a=c\/a=bs) (.inl rfl))
  have:=(q.lt off i AW b).1;omega
 .rw[aQ]
  have:off=0\/off=1\/off=2:=AW
  rcases this with rfl | rfl | rfl<;>rfl
 .subst u;exact ak.not X Ae i Y aS
 .have b:off=0\/off=1\/off=2:=AW
  have f:i=0\/i=1\/i=2\/i=3\/i=4:=AW
  rcases b with rfl | rfl | rfl<;>rcases f with rfl | rfl | rfl | rfl | rfl<;>rfl
 .exact N.obj (al Q Ae) (Ne.symm ab)
 .have aT:((hJ.of m jJ p (cs++fv so k l 0)).add off cs.length).Z=(hJ.of m jJ p (cs++fv so k l 0)).Z:=by unfold hJ.add; (repeat' split)<;>rfl
  rw[aT];refine(B.mod M λa h aU=>?_).mod an λa h u=>?_
  .obtain⟨ao,g⟩:=B.b0 a h;exact q.not g Ae off AW aU
  .obtain⟨ao,g⟩:=B.b0 a h;subst u;rw[j] at g;injection g with g;injection g with _ u;exact absurd u Ae
 .refine(ai.trans (eF.mod M λa V a9 aW b=>?_)).trans (eF.wr N X Ae);obtain⟨ao,g⟩:=(q.own off AW).b0 a b;rw[aW] at g;injection g with g;injection g with _ u;rw[u];decide
end Go.Proofs.R
namespace a8
open Go Go.RowKit
def aR.y0{α:Type}{enc:α->C_ B_}{e:F_}{sz base b n:Nat}{w:A_}{cs:C_ B_}(xs:C_ α)(h:w.heap[b]? = some (.cells cs.toArray e))(f:base<=b)(a:cs=xs.flatMap enc)(c:∀g,(enc g).length=sz)(i:n=xs.length)(j:xs.length<=maxLen):aR enc e sz base w (.slice (some ⟨b,0,none⟩) n n) xs:=by
 subst i;have d:cs.length=xs.length*sz:=by rw[a,mW c]
 exact⟨by rw[mW c],.inr ⟨b,xs.length,cs.toArray,rfl,f,h,Fy _,j,by simpa using d,by simp only;rw[<-d,AG9,a]⟩⟩
def AD3{P:D_}{g:B_->A_->Prop}{α:Type}{enc:α->C_ B_}{e:F_}{sz base:Nat}{w:A_}{v:B_}{xs:C_ α}{j:F_}{h b:Nat}{y:α}{cs:C_ B_}{t}(k:aR enc e sz base w v xs)(l:w.heap[b]? = some (.cells cs.toArray e))(m:cs=enc y)(n:∀p,(enc p).length=sz)(q:∀y,∀r∈enc y,r.oneCell'=true)
  (s:(xs.length+1)*h<=140737488355328)(u:xs.length+1<=maxLen)(x:base<=w.heap.size)
  (z:∀a c d f,aR enc e sz base f (.slice a c d) (xs++[y])->w.grownBy f v.ownBlock->((Value.slice a c d).ownBlock=v.ownBlock\/(Value.slice a c d).ownBlock=some w.heap.size)->g (.slice a c d) f):lQ P j e sz h v (.slice (some ⟨b,0,none⟩) 1 1) w g t:=by
 refine _J (ys:=[y]) k n (by subst m;simpa using gP l) rfl q s u x λC f i A B=>?_;obtain⟨a,G,rfl,_⟩:=i.form;exact z _ _ _ _ i A B
end a8
namespace o
open Go Go.RowKit a8
structure nf(w:World)(cs:List Value)(x:yJ):Prop where
 ex:∃v0 v1 v2 eB v4,cs=[v0,v1,v2,.int .i64 x.cells,eB,v4]/\a4 1 (Flat da) w v0 x.vars/\a4 1 (Flat da) w v1 x.ay/\a4 1 (Flat da) w v2 x.insts/\a4 1 (Flat da) w eB x.aQ/\a4 1 (Flat da) w v4 x.ab
theorem nf.ext{w w':A_}{cs:C_ B_}{x:yJ}(a:Ext w w')(h:nf w cs x):nf w' cs x :=
 let ⟨v0,v1,v2,b,v4,c,d,e,f,g,i⟩:=h.ex
 ⟨v0,v1,v2,b,v4,c,d.ext Flat.ext a,e.ext Flat.ext a,f.ext Flat.ext a,g.ext Flat.ext a,i.ext Flat.ext a⟩
def nf.form{w:A_}{cs:C_ B_}{x:yJ}(h:nf w cs x):∃a b c bg d bj e f g i,cs=[.slice a x.vars.length b,.slice c x.ay.length bg,.slice d x.insts.length bj,.I x.cells,.slice e x.aQ.length f,.slice g x.ab.length i] /\
  a4 1 (Flat da) w (.slice a x.vars.length b) x.vars/\a4 1 (Flat da) w (.slice c x.ay.length bg) x.ay/\a4 1 (Flat da) w (.slice d x.insts.length bj) x.insts/\a4 1 (Flat da) w (.slice e x.aQ.length f) x.aQ/\a4 1 (Flat da) w (.slice g x.ab.length i) x.ab:=by
 obtain⟨p,q,r,s,t,rfl,j,k,l,m,n⟩:=h.ex;obtain⟨a,b,rfl,_⟩:=j.form;obtain⟨c,bg,rfl,_⟩:=k.form;obtain⟨d,bj,rfl,_⟩:=l.form;obtain⟨e,f,rfl,_⟩:=m.form;obtain⟨g,i,rfl,_⟩:=n.form;exact⟨a,b,c,bg,d,bj,e,f,g,i,rfl,j,k,l,m,n⟩
def OX{v:Var}{s:C_ Scalar}(h:CR v s)(c:s.length<=2):0<=v.scalar/\v.scalar<=2:=by
 rcases h.fc with a | a
 .omega
 .unfold size at a;split at a
  .rename_i d b
   have:=(List.getElem?_eq_some_iff.1 b).1
   split at a<;>omega
  .exact absurd rfl a
def Qy{v:ed}{s:C_ Scalar}(h:E5 v s)(c:s.length<=2):0<=v.scalar/\v.scalar<=2:=by
 rcases h.fc with a | a
 .omega
 .unfold size at a;split at a
  .rename_i d b
   have:=(List.getElem?_eq_some_iff.1 b).1
   split at a<;>omega
  .exact absurd rfl a
def OR(m:Model)(h:gm m)(k:Nat):total ((bU m).take k)<=64:=by
 have a:=Ml h;have b:=h.cells;have c:=zX m;have d:total (bU m)=total ((bU m).take k)+total ((bU m).drop k):=by rw[<-Iy,AH7]
 omega
def V0(m:Model)(h:gm m)(k:Nat):total (bU m)+total ((cn m).take k)<=64:=by
 have a:=Ml h;have b:=h.cells;have c:=zX m;have d:total (cn m)=total ((cn m).take k)+total ((cn m).drop k):=by rw[<-Iy,AH7]
 omega
def aic(m:Model)(h:gm m)(k:Nat):total (bU m)+total (cn m)+total ((dH m).take k)<=64:=by
 have a:=Ml h;have b:=h.cells;have c:=zX m;have d:total (dH m)=total ((dH m).take k)+total ((dH m).drop k):=by rw[<-Iy,AH7]
 omega
end o
namespace Go.Proofs.R
open Go Go.RowKit a8 o
def ae2(cs:C_ B_)(m:o.Model)(w:A_)(h:eu w cs m)(ck:m.cS)(y:gm m) :
  EG F.JX #[.agg cs.toArray] w λb a2=>(∃aj aK,b = .tuple #[.agg aj.toArray,aK]/\ei w (λw=>nf w aj (o.layout m)) a2/\ei w (λw=>a4 4 (Flat o.Cell.slot) w aK (bD m)) a2)/\Ext w a2:=by
 obtain⟨dx,dz,dB,bg,dC,bj,dF,dG,dJ,dK,rfl,aM,bG,bH,bI,dL,dN,dP,dQ,dR,dS⟩:=h.form;have a5:=y.g2;refine bm E.JX ?_;refine ad ?_;intro dT bJ dV a6 c;have dW:=ca c;refine ad ?_;intro dX ak a7 aP x;have dZ:=ca x;replace c:=aP.obj c;refine ad ?_;intro ea z eb al an;have eg:=ca an;replace c:=al.obj c;replace x:=al.obj x;refine ad ?_;intro t G eh Y a9;have ek:=ca a9;replace c:=Y.obj c;replace x:=Y.obj x;replace an:=Y.obj an;have en:=a6.size;have ep:=aP.size;have er:=al.size;have ev:=Y.size;have cm:=((a6.trans aP).trans al).trans Y;clear a6 aP al Y;have ba:z≠G:=AW
 have bb:z<t.heap.size/\G<t.heap.size:=⟨AW,AW⟩;have bK:lS t z G (hJ.of [] [] [] []) t:=⟨Mod.refl _ _,λ_=>(none,0,0),(none,0,0),an,⟨λp ao=>by
   have g:(hJ.of [] [] [] []).rows p=[]:=by unfold hJ.rows; (repeat' split)<;>rfl
   rw[g];exact aR.nil _ _ _ _ _,λp d a _ _ _ g=>by cases g⟩,a9,aR.nil _ _ _ _ _⟩
 have aQ:∀{aq e},lS t z G aq e->e.heap[bJ]? = t.heap[bJ]? := λh=>h.mod.block _ AW AW;have bL:∀{aq e},lS t z G aq e->e.heap[ak]? = t.heap[ak]? := λh=>h.mod.block _ AW AW;have bf:∀{aq e},lS t z G aq e->Ext w e:=λh=>h.mod.ext cm λp ao g=>AW
 rw[c] at aQ;rw[x] at bL;refine ad ?_;refine K_ 24 m.vars.length [1,2,4,5,6,22,23] (λ_:Unit=>[]) () (λa _ e=>lS t z G (hJ.of (gV 0 ((bU m).take a)) [] [] (o.cellsOf 1 ((bU m).take a) 0)) e) aV aV (by simpa[gV,o.cellsOf] using bK) ?_;clear bK an a9 c x;rintro a _ ar A I i;have c:=aQ i;have dm:=bf i;refine ad ?_;apply I_<;>intro Z
 .have u:a<m.vars.length:=AW
  obtain⟨ab,rfl⟩:=bG.addr;have au:=((bG.at a u).cells).ext dm;have J:=y.var _ (ID u);have bM:=OX J a5.1;refine ad ?_;intro bN cp cq K v;refine ad ?_;intro k L l;have j:Ext A k:=L.ext K cq;replace l:k.heap[cp]? = some (.cells m.vars[a].enc.toArray T.i):=l;replace c:=j.obj c;clear L K v au;have g7:=dm.trans j;refine ad ?_;refine J_ (C5 m.vars[a] _ m.scalars k (aM.ext g7)) ?_;rintro _ n ⟨rfl,q⟩;have ew:=sg m.vars[a] m.scalars;have dO:=g7.trans q;have cr:=q.obj c;have ct:=q.obj l;refine ad ?_;refine K_ 33 (o.cells m.vars[a] m.scalars).toNat [1,2,4,5,6,7,8,22,23,24,32] (λb:ef=>[(9,.slice b.1 b.2.1 b.2.2)]) (none,0,0) (λd b e=>Ext n e/\aR ec.enc T.d 3 n.heap.size e (.slice b.1 b.2.1 b.2.2) (List.replicate d (dM m.vars[a].scalar m.vars[a].aQ m.vars[a].ab m.scalars))) aV aV ⟨Ext.refl _,aR.nil _ _ _ _ _⟩ ?_;clear c l;rintro d b ar ae bO ⟨r,M⟩;have c:=r.obj cr;have l:=r.obj ct;refine ad ?_;apply I_<;>intro aS
  .have N:d<(o.cells m.vars[a] m.scalars).toNat:=AW
   refine ad ?_;refine J_ (Ud m.vars[a] _ m.scalars ae (aM.ext (dO.trans r)) (by unfold eA;omega)) ?_;rintro _ V ⟨rfl,B⟩;have bk:=yZ (dM m.vars[a].scalar m.vars[a].aQ m.vars[a].ab m.scalars);refine ad ?_;intro H cu ey W bn;replace bn:H.heap[cu]? = some (.cells (dM m.vars[a].scalar m.vars[a].aQ m.vars[a].ab m.scalars).enc.toArray T.d):=bn;have O:=M.ext (B.trans W);have bP:=(r.trans B).trans W;have P:(List.replicate d (dM m.vars[a].scalar m.vars[a].aQ m.vars[a].ab m.scalars)).length=d:=AG0;refine T_ (y:=dM m.vars[a].scalar m.vars[a].aQ m.vars[a].ab m.scalars) O bn rfl (λ_=>rfl) yZ (by rw[P];omega) (by rw[P];unfold maxLen;omega) bP.size λav aw ax az aT cv=>?_;refine ad ?_;exact⟨N,aZ,(av,aw,ax),aV,O.hN bP cv (Fy _),by rw[List.replicate_succ'];exact aT⟩
  .have bo:d=(o.cells m.vars[a] m.scalars).toNat:=AW
   have cw:=i.ext ((j.trans q).trans r);replace M:aR ec.enc T.d 3 n.heap.size ae (.slice b.1 b.2.1 b.2.2) (q0 m.scalars m.vars[a]):=by rw[bo] at M;exact M
   have v:=kb 1 ((bU m).take a) 0;have bR:=OR m y a;refine ad ?_;intro V B;refine _y (Qs (n:=43) (x:=7) (y:=9) (off:=0) (so:=1) Ae Ae Ae Ae ba bb (by simp[bS]) (by simp[bS]) (by simp[bS];rfl) (by simp[bS]) (cw.ext B) (M.ext B) (by rw[v,vd];omega) ⟨by rw[rU,NU];omega,Ah,Ah⟩ λaA H aB aC bp=>?_);have aD:aA 24 = .I a:=by rw[aB 24 Ae];simp[bS]
   refine ad ?_;rw[aD];refine ad ?_;refine⟨u,aZ,(),trivial,?_⟩;have aE:a<(bU m).length:=by simpa[bU] using u
   have g:(bU m)[a]=q0 m.scalars m.vars[a]:=by simp[bU]
   rw[NZ aE,g,OK,AR];have aF:(0+((bU m).take a).length:Nat)=a:=by rw[NU];omega
   rw[aF,ZB,<-v];exact aC
 have cx:m.vars.length<=a:=AW
 rw[Im (by simpa[bU] using cx)] at i;have cB:=OR m y m.vars.length;rw[Im (by simp[bU])] at cB;refine ad ?_;refine K_ 56 m.ay.length [1,2,4,5,6,54,55] (λ_:Unit=>[]) () (λa _ e=>lS t z G (hJ.of (gV 0 (bU m)) (gV (o.total (bU m)) ((cn m).take a)) [] (o.cellsOf 1 (bU m) 0++o.cellsOf 2 ((cn m).take a) 0)) e) aV aV (by simpa[gV,o.cellsOf] using i) ?_;clear i c dm;rintro a _ ar A I i;have c:=aQ i;have dm:=bf i;refine ad ?_;apply I_<;>intro aS
 .have u:a<m.ay.length:=AW
  obtain⟨ab,rfl⟩:=bH.addr;have au:=((bH.at a u).cells).ext dm;have J:=y.chan _ (ID u);have bM:=Qy J a5.1;have ez:=J.cap;refine ad ?_;intro bN cC cD K v;refine ad ?_;intro k L l;have j:Ext A k:=L.ext K cD;replace l:k.heap[cC]? = some (.cells m.ay[a].enc.toArray T.r):=l;replace c:=j.obj c;clear L K v au;have br:=c;have cF:=l;have g7:=dm.trans j;refine ad ?_;intro n aU cI q aG;replace aG:n.heap[aU]? = some (.cells ([(⟨0,m.ay[a].cap,0⟩:ec)].flatMap ec.enc).toArray T.d):=aG;have bV:aR ec.enc T.d 3 k.heap.size n (.slice (some ⟨aU,0,none⟩) 1 1) [(⟨0,m.ay[a].cap,0⟩:ec)]:=aR.y0 _ aG cI rfl (λ_=>rfl) rfl (by simp[maxLen]);replace c:=q.obj c;replace l:=q.obj l;have dO:=g7.trans q;have bW:=aG;clear aG;refine ad ?_;refine J_ (Ud ⟨⟨#[]⟩,m.ay[a].scalar,0,min m.ay[a].aQ 0,max m.ay[a].ab 0,0⟩ _ m.scalars n (aM.ext dO) (by unfold eA;simp only;omega)) ?_;rintro _ ae ⟨rfl,r⟩;have bk:=yZ (dM m.ay[a].scalar (min m.ay[a].aQ 0) (max m.ay[a].ab 0) m.scalars);refine ad ?_;intro V af eB B Q;replace Q:V.heap[af]? = some (.cells (kc m.scalars m.ay[a]).enc.toArray T.d):=Q;replace c:=(r.trans B).obj c;replace l:=(r.trans B).obj l;have S:=bV.ext (r.trans B);have cJ:=(q.trans r).trans B;clear bV;refine ad ?_;have eD:aU<af:=by have:=ca bW;have:=r.size;omega
  refine K_ 79 m.ay[a].cap.toNat [1,2,4,5,6,10,11,13,54,55,56,78] (λb:ef=>[(12,.slice b.1 b.2.1 b.2.2)]) (some ⟨aU,0,none⟩,1,1) (λd b e=>Ext k e/\e.heap[af]? = V.heap[af]? /\ aR ec.enc T.d 3 k.heap.size e (.slice b.1 b.2.1 b.2.2) (⟨0,m.ay[a].cap,0⟩ :: List.replicate d (kc m.scalars m.ay[a]))/\(Value.slice b.1 b.2.1 b.2.2).ownBlock≠some af) aV aV ⟨cJ,rfl,S,by simp[Value.ownBlock];omega⟩ ?_;rw[Q];have eE:=ca Q;clear c l Q S bW;rintro d b ar H bO ⟨aW,Q,O,bX⟩;have c:=aW.obj br;have l:=aW.obj cF;refine ad ?_;apply I_<;>intro X
  .have N:d<m.ay[a].cap.toNat:=AW
   have bk:=yZ (kc m.scalars m.ay[a]);refine ad ?_;intro az cL eH s bt;replace bt:az.heap[cL]? = some (.cells (kc m.scalars m.ay[a]).enc.toArray T.d):=bt;have aT:=O.ext s;have P:((⟨0,m.ay[a].cap,0⟩:ec) :: List.replicate d (kc m.scalars m.ay[a])).length=d+1:=Ah
   have bY:=aW.trans s;have eI:=ca (s.obj Q);refine AD3 (y:=kc m.scalars m.ay[a]) aT bt rfl (λ_=>rfl) yZ (by rw[P];omega) (by rw[P];unfold maxLen;omega) bY.size λav aw ax bu aX bZ cM=>?_;have cN:bu.heap[af]? = _:=(Mod.grown (A:=λp=>(Value.slice b.1 b.2.1 b.2.2).ownBlock=some p) bZ λa I=>I).obj bX (s.obj Q);refine ad ?_;refine⟨N,aZ,(av,aw,ax),aV,aT.hN bY bZ (Fy _),cN,by rw[List.replicate_succ'];exact aX,λg=>?_⟩;rcases cM with ab | ab
   .exact bX (ab.symm.trans g)
   .rw[ab] at g;injection g with g;omega
  .have bo:d=m.ay[a].cap.toNat:=AW
   have cO:=i.ext (j.trans aW);replace O:aR ec.enc T.d 3 k.heap.size H (.slice b.1 b.2.1 b.2.2) (iM m.scalars m.ay[a]):=by rw[bo] at O;exact O
   have v:=kb 1 (bU m) 0;have bw:=kb 2 ((cn m).take a) 0;have aH:(o.cellsOf 1 (bU m) 0++o.cellsOf 2 ((cn m).take a) 0).length=o.total (bU m)+o.total ((cn m).take a):=by rw[Jv,v,bw]
   have bR:=V0 m y a;refine ad ?_;intro az s;refine _y (Qs (n:=86) (x:=10) (y:=12) (off:=1) (so:=2) Ae Ae Ae Ae ba bb (by simp[bS]) (by simp[bS]) (by simp[bS];rfl) (by simp[bS]) (cO.ext s) (O.ext s) (by rw[aH,o7];omega) ⟨by rw[rU];simp[bU];omega,by rw[rU,NU];omega,Ah⟩ λaA H aB aC bp=>?_);have aD:aA 56 = .I a:=by rw[aB 56 Ae];simp[bS]
   refine ad ?_;rw[aD];refine ad ?_;refine⟨u,aZ,(),trivial,?_⟩;have aE:a<(cn m).length:=by simpa[cn] using u
   have g:(cn m)[a]=iM m.scalars m.ay[a]:=by simp[cn]
   rw[NZ aE,g,OK,AR];have aF:(0+((cn m).take a).length:Nat)=a:=by rw[NU];omega
   rw[aF,<-VA,<-aH];exact aC
 have cP:m.ay.length<=a:=AW
 rw[Im (by simpa[cn] using cP)] at i;have cQ:=V0 m y m.ay.length;rw[Im (by simp[cn])] at cQ;refine ad ?_;refine J_ (L6 _ m A (h.ext dm) ck) ?_;rintro eJ cS ⟨b0,cT⟩;obtain⟨cU,cW,rfl,_⟩:=b0.form;have b1:=i.ext cT;have eK:(o.insts m).length<=30:=by have:=tz m;have:=y.procs;omega
 refine ad ?_;refine K_ 99 (o.insts m).length [1,2,4,5,6,97,98] (λ_:Unit=>[]) () (λa _ e=>lS t z G (hJ.of (gV 0 (bU m)) (gV (o.total (bU m)) (cn m)) (gV (o.total (bU m)+o.total (cn m)) ((dH m).take a)) (o.cellsOf 1 (bU m) 0++o.cellsOf 2 (cn m) 0++o.cellsOf 3 ((dH m).take a) 0)) e/\eF uT cS e) aV aV ⟨by simpa[gV,o.cellsOf] using b1,eF.refl⟩ ?_;clear i b1 c dm;rintro a _ ar A I ⟨i,b3⟩;have c:=aQ i;have dm:=bf i;have b4:q6 A (.slice cU (o.insts m).length cW) (o.insts m):=aR.kF (enc:=c7.enc) (λ_=>rfl) (b0.ia b3 Ae);refine ad ?_;apply I_<;>intro X
 .have u:a<(o.insts m).length:=AW
  obtain⟨eM,rfl⟩:=b4.addr;have cX:=qM _ (ID u);obtain⟨f,b5,cY,b6⟩:=uO cX;have J:=y.proc _ (ID b5);have eQ:=J.cb;have eR:=J.g2.1;refine ad ?_;intro bN cZ c1 K v;refine ad ?_;intro k L l;have j:Ext A k:=L.ext K c1;replace l:k.heap[cZ]? = some (.cells #[.I f,.I (o.insts m)[a].elem] T.c):=by rw[<-cY];exact l
  replace c:=j.obj c;clear L K v b4;have g7:=dm.trans j;obtain⟨ab,rfl⟩:=bI.addr;obtain⟨eS,eU,dI,bx,bz,c2⟩:=bI.at f b5;obtain⟨c3,c4,rfl,eV⟩:=bz.form;obtain⟨c5,c9,rfl,eW⟩:=c2.form;replace bx:=bx.ext g7;refine ad ?_;intro n db eX q U;replace U:n.heap[db]? = some (.cells (m.procs[f].enc (.slice c3 m.procs[f].vars.length c4) (.slice c5 m.procs[f].cL.length c9)).toArray T.af):=U;unfold ee.enc at U;have dO:=g7.trans q;replace c:=q.obj c;clear bx;refine ad ?_;intro ae bA dc r aY;replace aY:ae.heap[bA]? = some (.cells ([(⟨0,m.procs[f].cb - 1,0⟩:ec)].flatMap ec.enc).toArray T.d):=aY;have M:aR ec.enc T.d 3 n.heap.size ae (.slice (some ⟨bA,0,none⟩) 1 1) [(⟨0,m.procs[f].cb - 1,0⟩:ec)]:=aR.y0 _ aY dc rfl (λ_=>rfl) rfl (by simp[maxLen]);have br:=c;have dd:=U;replace U:=r.obj U;clear aY c;refine ad ?_;refine K_ 118 m.procs[f].vars.length [1,2,4,5,6,14,16,97,98,99,116,117] (λb:ef=>[(17,.slice b.1 b.2.1 b.2.2)]) (some ⟨bA,0,none⟩,1,1) (λd b e=>Ext n e/\aR ec.enc T.d 3 n.heap.size e (.slice b.1 b.2.1 b.2.2) (⟨0,m.procs[f].cb - 1,0⟩ :: (m.procs[f].vars.take d).map λb=>dM b.scalar b.aQ b.ab m.scalars)) aV aV ⟨r,by simpa using M⟩ ?_;clear U M;rintro d b ar V bO ⟨ag,S⟩;have c:=ag.obj br;have U:=ag.obj dd;have ks:=dO.trans ag;refine ad ?_;apply I_<;>intro bB
  .have N:d<m.procs[f].vars.length:=AW
   obtain⟨eY,rfl⟩:=bz.addr;have au:=((bz.at d N).cells).ext ks;have de:=J.var _ (ID N);have bM:=OX de a5.1;refine ad ?_;intro H df eZ W b8;replace b8:H.heap[df]? = some (.cells m.procs[f].vars[d].enc.toArray T.i):=b8;replace c:=W.obj c;have hh:=ks.trans W;clear au;refine ad ?_;refine J_ (Ud m.procs[f].vars[d] _ m.scalars H (aM.ext hh) (by unfold eA;omega)) ?_;rintro _ az ⟨rfl,s⟩;have bk:=yZ (dM m.procs[f].vars[d].scalar m.procs[f].vars[d].aQ m.procs[f].vars[d].ab m.scalars);refine ad ?_;intro bu dg e0 b9 bC;replace bC:bu.heap[dg]? = some (.cells (dM m.procs[f].vars[d].scalar m.procs[f].vars[d].aQ m.procs[f].vars[d].ab m.scalars).enc.toArray T.d):=bC;have aX:=S.ext ((W.trans s).trans b9);have cb:=((ag.trans W).trans s).trans b9;have P:((⟨0,m.procs[f].cb - 1,0⟩:ec) :: (m.procs[f].vars.take d).map λb=>dM b.scalar b.aQ b.ab m.scalars).length=d+1:=by simp;omega
   refine T_ (y:=dM m.procs[f].vars[d].scalar m.procs[f].vars[d].aQ m.procs[f].vars[d].ab m.scalars) aX bC rfl (λ_=>rfl) yZ (by rw[P];omega) (by rw[P];unfold maxLen;omega) cb.size λav aw ax e1 dh di=>?_;refine ad ?_;exact⟨N,aZ,(av,aw,ax),aV,aX.hN cb di (Fy _),by rw[NZ N,AF8];exact dh⟩
  .have dj:=i.ext ((j.trans q).trans ag);have dr:eF uT A V:=eF.ext ((j.trans q).trans ag);replace S:aR ec.enc T.d 3 n.heap.size V (.slice b.1 b.2.1 b.2.2) (kj m (o.insts m)[a]):=by rw[Im AW] at S;rw[b6];exact S
   have v:=kb 1 (bU m) 0;have bw:=kb 2 (cn m) 0;have dt:=kb 3 ((dH m).take a) 0;have aH:(o.cellsOf 1 (bU m) 0++o.cellsOf 2 (cn m) 0++o.cellsOf 3 ((dH m).take a) 0).length=o.total (bU m)+o.total (cn m)+o.total ((dH m).take a):=by rw[Jv,Jv,v,bw,dt]
   have bR:=aic m y a;have e2:(kj m (o.insts m)[a]).length<=10:=by rw[b6,pt];omega
   refine ad ?_;intro az s;refine _y (Qs (n:=130) (x:=14) (y:=17) (off:=2) (so:=3) Ae Ae Ae Ae ba bb (by simp[bS]) (by simp[bS]) (by simp[bS];rfl) (by simp[bS]) (dj.ext s) (S.ext s) (by rw[aH];omega) ⟨by rw[rU];simp[bU];omega,by rw[rU];simp[cn];omega,by rw[rU,NU];omega⟩ λaA H aB aC bp=>?_);have aD:aA 99 = .I a:=by rw[aB 99 Ae];simp[bS]
   refine ad ?_;rw[aD];refine ad ?_;refine⟨u,aZ,(),trivial,?_,((b3.trans dr).trans (eF.ext s)).trans bp⟩;have aE:a<(dH m).length:=by simpa[dH] using u
   have g:(dH m)[a]=kj m (o.insts m)[a]:=by simp[dH]
   rw[NZ aE,g,OK,AR];have aF:(0+((dH m).take a).length:Nat)=a:=by rw[NU];omega
   rw[aF,<-VA,<-aH];exact aC
 have du:(o.insts m).length<=a:=AW
 rw[Im (by simpa[dH] using du)] at i;have x:=bL i;obtain⟨C,aK,Z,aS,X,bB⟩:=i.ex;have bE:∀{k e},Ext A k->dY ak k e->(∃aj cc,Value.tuple #[.agg #[cy (C 0),cy (C 1),cy (C 2),.I (bD m).length,cy (C 3),cy (C 4)],cy aK] = .tuple #[.agg aj.toArray,cc]/\ei w (λw=>nf w aj (o.layout m)) e/\ei w (λw=>a4 4 (Flat o.Cell.slot) w cc (bD m)) e)/\Ext w e:=by
  intro k e ah bF;have a7:=ah.obj x;have dv:=(aS.ext ah).mod (bF.mod (A:=λp=>p=ak) rfl) λp a ao I g=>by subst g;exact(aS.ext ah).not a7 Ae p ao I
  have dw:=(bB.ext ah).mod (bF.mod (A:=λp=>p=ak) rfl) λa I g=>by
   subst g;obtain⟨e3,a0⟩:=(bB.ext ah).b0 a I;rw[a7] at a0;injection a0 with a0;injection a0 with _ g;exact absurd g Ae
  have ch:w.heap.size<=t.heap.size:=AW
  have aI:=λ(p:Nat) (ao:p<5)=>aR.new (e:=T.a) (enc:=da) (λ_=>rfl) (aR.low ch (dv.own p ao));refine⟨⟨[_,_,_,_,_,_],_,rfl,λeT aJ=>⟨⟨_,_,_,_,_,rfl,aI 0 Ae eT aJ,aI 1 Ae eT aJ,aI 2 Ae eT aJ,aI 3 Ae eT aJ,aI 4 Ae eT aJ⟩⟩,aR.new (e:=T.p) (enc:=o.Cell.slot) (λ_=>rfl) (aR.low ch dw)⟩,bF.ext (dm.trans ah) AW⟩
 replace Z:A.heap[z]? = some (.cells #[cy (C 0),cy (C 1),cy (C 2),.I (bD m).length,cy (C 3),cy (C 4)] T.e):=Z;refine ad ?_;intro k j;replace Z:=j.obj Z;replace X:=j.obj X;replace x:=j.obj x;dsimp only[cy] at Z X;refine ad ?_;refine⟨?_,?_⟩
 .refine ad ?_;refine⟨?_,?_⟩
  .refine ad ?_;intro n ai cj;refine ad ?_;exact bE j ai
  .refine ad ?_;intro n ai cj;replace X:=ai.obj X AW;refine ad ?_;exact bE j ai
 .refine ad ?_;intro n ai cj;refine ad ?_;exact bE j ai
end Go.Proofs.R