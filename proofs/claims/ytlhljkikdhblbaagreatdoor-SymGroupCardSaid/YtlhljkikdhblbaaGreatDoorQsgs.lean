/- Parts. -/
import Derived.Test.YtlhljkikdhblbaaGreatDoorQsgr
import Derived.SizedLaws
import Derived.JoinedCond
set_option linter.all false
set_option maxRecDepth 8000
set_option maxHeartbeats 64000000
namespace Go.Proofs.R
open Go Go.RowKit a8 o
attribute [local irreducible] dE bD o.insts o.refs jH fE o.runM k6 p9 jU dp gB
theorem avk(cs:C_ B_)(vs cv:B_)(m:o.Model)(b d:C_ cV)(w:A_)(h:eu w cs m)(J:m.cS)(L:gZ w)(ax:a4 2 (Flat cV.enc) w vs b)(bB:a4 2 (Flat cV.enc) w cv d)(fS:b.length+d.length<=12) :
  EG F.b4 #[.agg cs.toArray,.agg #[vs,cv]] w λaz V=>(∃ah ai aA r f,az = .tuple #[.agg #[ah,ai],.I f]/\a4 2 (Flat cV.enc) V ah aA/\a4 2 (Flat cV.enc) V ai r/\CH m b d aA r f)/\Ext w V:=by
 have aX:=h;obtain⟨fV,fW,dB,bg,y,bj,fX,fY,cw,ga,rfl,_⟩:=h.form;obtain⟨gb,gd,rfl,_⟩:=ax.form;obtain⟨gf,gh,rfl,_⟩:=bB.form;refine bm E.b4 ?_;refine aa ?_;intro gj dC bC s i;refine aa ?_;intro gr gv bE t q;refine aa ?_;intro dF cx aY W z;replace i:=(t.trans W).obj i;replace q:=W.obj q;have cB:=s.trans t;have bF:=cB.trans W;have dG:=cB.size;have gw:=ca i;have gx:=ca q;have gy:=ca z;have gz:=s.size;have gA:dC≠cx:=by have:=t.size;have:=s.size;intro f;subst f;exact absurd (oz i z) Ae
 refine aa ?_;refine J_ (HZ _ m dF (aX.ext bF) J (L.ext bF)) ?_;rintro _ gG ⟨j,G⟩;replace i:=G.obj i;replace q:=G.obj q;replace z:=G.obj z;have bG:=bF.trans G;have gH:=G.size;rcases j with ⟨a,rfl⟩ | ⟨a,r,rfl,cC⟩
 .refine aa ?_;intro bH bI dJ;refine aa ?_;exact⟨⟨_,_,[],[],2,aZ,a4.nil,a4.nil,λ_=>⟨rfl,rfl,rfl⟩,λh=>absurd h a,λh=>absurd h a,λh=>absurd h a,λh=>absurd h a⟩,bI.ext bG AW⟩
 refine aa ?_;apply I_<;>intro dK
 .have bJ:d=[]:=AG1 AW;refine aa ?_;intro bH bI dJ;refine aa ?_;exact⟨⟨_,_,[],[],8,aZ,a4.nil,a4.nil,λh=>absurd a h,λ_ _=>⟨rfl,rfl,rfl⟩,λ_ h=>absurd bJ h,λ_ h=>absurd bJ h,λ_ h=>absurd bJ h⟩,bI.ext bG AW⟩
 have bK:d≠[]:=λf=>dK (by rw[f];rfl);have dL:=g6 a;have aj:=Ga dL;have dN:=Z4 a aj;refine aa ?_;intro bH ak;replace i:=ak.obj i;replace q:=ak.obj q;replace z:=ak.obj z;have aB:=bG.trans ak;have a0:=cC.ext ak;clear cC;refine aa ?_;refine J_ (anj _ m bH (aX.ext aB) J (L.ext aB)) ?_;rintro gK dP ⟨⟨aC,_⟩,a2⟩;replace aC:=aC a;have j:=aC.form;obtain⟨gL,gM,rfl,_⟩:=j;refine⟨a2,?_⟩;have gN:=aB.trans a2;refine aa ?_;refine J_ (N6 r _ m _ dP (a0.ext a2) a aC aj) ?_;rintro dI dQ ⟨bL,dR⟩;have j:=bL.form;obtain⟨gQ,gR,rfl,_⟩:=j;have a5:=a2.trans dR;refine⟨a5,?_⟩;have cD:=aB.trans a5;refine aa ?_;refine J_ (af1 r _ _ m _ b dQ (a0.ext a5) J (L.ext cD) a bL dN (ax.ext Flat.ext cD)) ?_;rintro _ dS ⟨j,dT⟩;have al:=a5.trans dT;have a6:=aB.trans al;replace i:=al.obj i;replace q:=al.obj q;replace z:=al.obj z;have gU:=al.size;have g1:=ak.size;rcases j with ⟨a7,rfl⟩ | ⟨cF,g2,g3,X,dV,rfl,bM⟩
 .refine aa ?_;intro cI dW g4;refine aa ?_;exact⟨⟨_,_,[],[],17,aZ,a4.nil,a4.nil,λh=>absurd a h,λ_ h=>absurd h bK,λ_ _ _=>⟨rfl,rfl,rfl⟩,λ_ _ Y k=>(by rw[a7] at k;cases k),λ_ _ Y k=>(by rw[a7] at k;cases k)⟩,dW.ext a6 AW⟩
 have a9:=a0.ext al;clear bL aC a0;refine aa ?_;refine J_ (af1 r _ _ m _ d dS a9 J (L.ext a6) a bM dV (bB.ext Flat.ext a6)) ?_;rintro _ cI ⟨j,N⟩;have cJ:=a6.trans N;replace i:=N.obj i;replace q:=N.obj q;replace z:=N.obj z;have g5:=N.size;have bN:∀{n A:A_},Ext w n->dY cx n A->gB m d cF≠some cF->(∃ah ai aA r f,(Value.tuple #[.agg #[.slice none 0 0,.slice none 0 0],.I 18]) = .tuple #[.agg #[ah,ai],.I f]/\a4 2 (Flat cV.enc) A ah aA/\a4 2 (Flat cV.enc) A ai r/\CH m b d aA r f)/\Ext w A:=λ{n A} bO dX bP =>
  ⟨⟨_,_,[],[],18,rfl,a4.nil,a4.nil,λh=>absurd a h,λ_ h=>absurd h bK,λ_ _ k=>(by rw[X] at k;cases k),λ_ _ _ _ _=>⟨rfl,rfl,rfl⟩,λ_ _ Y k i=>(by rw[X] at k;injection k with k;subst k;exact absurd i bP)⟩,dX.ext bO AW⟩
 rcases j with ⟨a7,rfl⟩ | ⟨d2,g8,ha,bR,hb,rfl,cL⟩
 .refine aa ?_;intro g dZ hc;refine aa ?_;exact bN cJ dZ (by rw[a7];exact λh=>by cases h)
 refine aa ?_;refine J_ (BT _ _ _ _ cI cL (bM.ext Flat.ext N)) ?_;rintro _ g ⟨⟨ea,rfl,cM⟩,Z⟩;have aD:=cJ.trans Z;replace i:=Z.obj i;replace q:=Z.obj q;replace z:=Z.obj z;have hd:=Z.size;cases ea with
 | false =>
  refine aa ?_;intro ab eb aE;refine aa ?_;exact bN aD eb (by rw[bR];intro h;injection h with h;have:=cM.2 h;cases this)
 | true =>
 have eg:=cM.1 rfl;subst eg;clear bN bM cL;have ba:∀{n A:A_} {l bV:Nat} {cN:Array B_} {u:H_ Addr} {v:Nat} {y:H_ Addr} {bj:Nat},n.heap[l]? = some (.cells cN T.b)->g.heap.size<=l->aR cV.enc T.g 2 bV n (.slice u (o.runM m b (dp m)).1.length v) (o.runM m b (dp m)).1->g.heap.size<=bV ->
   jn g.heap.size n (.slice y (o.runM m b (dp m)).2.length bj) (o.runM m b (dp m)).2->Ext g n->dY l n A->A.heap[l]? = some (.cells #[.slice y (o.runM m b (dp m)).2.length bj] T.b) ->
   (g.heap.size<=l/\A.heap[l]? = some (.cells #[.slice y (o.runM m b (dp m)).2.length bj] T.b))/\aR cV.enc T.g 2 g.heap.size A (.slice u (o.runM m b (dp m)).1.length v) (o.runM m b (dp m)).1/\jn g.heap.size A (.slice y (o.runM m b (dp m)).2.length bj) (o.runM m b (dp m)).2/\Ext g A :=
  λ{n A l bV cN u v y bj} aF cO cP eh ek en bW ep=>⟨⟨cO,ep⟩,aR.low eh (aR.mod cP (bW.mod (A:=λbX=>bX=l) rfl) λc a f=>by
   obtain⟨aG,k⟩:=aR.b0 cP c a;subst f;exact absurd (oz aF k) Ae),ek.move (A:=λbX=>bX=l) (bW.mod rfl) (λH er f=>⟨AW,λY bY bZ a=>by subst f;rw[oz a aF];decide⟩),bW.ext en cO⟩
 refine eC ?_;refine S_ [2,3,4,6] (λe:ef×ef×Nat=>[(10,.slice e.1.1 e.1.2.1 e.1.2.2),(11,.pointer (some ⟨e.2.2,0,none⟩))]) (λe n=>(g.heap.size<=e.2.2/\n.heap[e.2.2]? = some (.cells #[.slice e.2.1.1 e.2.1.2.1 e.2.1.2.2] T.b))/\aR cV.enc T.g 2 g.heap.size n (.slice e.1.1 e.1.2.1 e.1.2.2) (o.runM m b (dp m)).1/\jn g.heap.size n (.slice e.2.1.1 e.2.1.2.1 e.2.1.2.2) (o.runM m b (dp m)).2/\Ext g n) ?_ ?_
 .refine aa ?_;intro ab x;have ev:=x.obj i;have ew:=x.obj q;have an:=aD.trans x;have bb:nQ ab r m:=a9.ext ((N.trans Z).trans x);have ey:=x.size;refine aa ?_;refine⟨?HU,?UI⟩
  case' HU =>
   refine J_ (Rd _ m ab (aX.ext an) J (L.ext an)) ?_;rintro ez aH ⟨⟨O,_⟩,B⟩;replace O:=O a;have j:=O.form;obtain⟨eB,eD,rfl,_⟩:=j;have cQ:jn g.heap.size aH _ _:=jn.own O;have bf:=an.trans B;have eE:=B.size;refine⟨B,?_⟩;refine aa ?_;refine⟨?auo,?aup⟩
  case auo =>
   refine J_ (Oa r _ _ m _ _ b aH (bb.ext B) J (L.ext bf) a cQ AW aj (ax.ext Flat.ext bf) AW X) ?_;rintro _ ae ⟨⟨u,v,y,aI,rfl,eH,b0⟩,C⟩;have b1:=C.size;have I:=B.trans C;refine aa ?_;intro cS l aJ M aK;refine⟨I.trans M,?_⟩;refine aa ?_;intro cT aM aP;have af:g.heap.size<=l:=AW
   have ag:g.heap.size<=aH.heap.size:=AW
   refine aa ?_;exact⟨((u,_,v),(y,_,aI),l),aV,ba aK af (aR.ext M eH) ag (b0.ext M) (x.trans (I.trans M)) aM aP⟩
  case aup =>
   refine aa ?_;intro ae l aJ C b3;have I:=B.trans C;have b1:=C.size;refine⟨I,?_⟩;refine aa ?_;refine J_ (Oa r _ _ m _ _ b ae (bb.ext I) J (L.ext (bf.trans C)) a (cQ.ext C) AW aj (ax.ext Flat.ext (bf.trans C)) AW X) ?_;rintro _ cS ⟨⟨u,v,y,aI,rfl,b4,b5⟩,M⟩;have aK:=M.obj b3;refine aa ?_;intro cT aM aP;have af:g.heap.size<=l:=AW
   have ag:g.heap.size<=ae.heap.size:=AW
   refine aa ?_;exact⟨((u,_,v),(y,_,aI),l),aV,ba aK af b4 ag b5 (x.trans (I.trans M)) aM aP⟩
  case UI =>
   refine aa ?_;intro aH l aJ B eI;have eE:=B.size;refine⟨B,?_⟩;refine aa ?_;refine J_ (Rd _ m aH (aX.ext (an.trans B)) J (L.ext (an.trans B))) ?_;rintro ez ae ⟨⟨O,_⟩,C⟩;replace O:=O a;have j:=O.form;obtain⟨eB,eD,rfl,_⟩:=j;have b0:jn g.heap.size ae _ _:=jn.own O;have I:=B.trans C;have cU:=an.trans I;have b1:=C.size;have b3:=C.obj eI;refine⟨I,?_⟩;refine aa ?_;refine J_ (Oa r _ _ m _ _ b ae (bb.ext I) J (L.ext cU) a b0 AW aj (ax.ext Flat.ext cU) AW X) ?_;rintro _ cS ⟨⟨u,v,y,aI,rfl,b4,b5⟩,M⟩;have aK:=M.obj b3;refine aa ?_;intro cT aM aP;have af:g.heap.size<=l:=AW
   have ag:g.heap.size<=ae.heap.size:=AW
   refine aa ?_;exact⟨((u,_,v),(y,_,aI),l),aV,ba aK af b4 ag b5 (x.trans (I.trans M)) aM aP⟩
 rintro⟨⟨u,eJ,v⟩,⟨cW,eK,cX⟩,l⟩ eM ab ⟨⟨aJ,aE⟩,bk,bn,x⟩;dsimp only at aJ aE bk bn;clear ba;have j:=bk.form;obtain⟨bo,bp,P,_⟩:=j;injection P with Q S U
 subst Q S U;have j:=bn.qP.form;obtain⟨bo,bp,P,_⟩:=j;injection P with Q S U
 subst Q S U;have ev:=x.obj i;have ew:=x.obj q;have ey:=x.size;have hj:=ca aE;have hk:=aD.trans x;have bb:nQ ab r m:=a9.ext ((N.trans Z).trans x);have eQ:=Ig a b _ _ aj X;obtain⟨cY,eR⟩:=eQ;have b6:gB m d (fj m (o.runM m b (dp m)).2)=some (fj m (o.runM m b (dp m)).2):=by rw[eR];exact bR
 have hl:=Cd m b (dp m);refine aa ?_;refine _V [2,3,4,6,11] (λe:ef×ef×ef×Nat=>[(10,.slice e.1.1 e.1.2.1 e.1.2.2),(12,.slice e.2.1.1 e.2.1.2.1 e.2.1.2.2)]) ((u,_,v),(none,0,0),(cW,_,cX),0)
  (λe n=>n.heap[l]? = some (.cells #[.slice e.2.2.1.1 e.2.2.1.2.1 e.2.2.1.2.2] T.b)/\aR cV.enc T.g 2 g.heap.size n (.slice e.1.1 e.1.2.1 e.1.2.2) (o.runM m (b++ho d e.2.2.2) (dp m)).1/\ov g.heap.size ab.heap.size n (.slice e.2.1.1 e.2.1.2.1 e.2.1.2.2) (jU m d (o.runM m b (dp m)).2 e.2.2.2) /\
   jn g.heap.size n (.slice e.2.2.1.1 e.2.2.1.2.1 e.2.2.1.2.2) (jF m d (o.runM m b (dp m)).2 e.2.2.2)/\(jU m d (o.runM m b (dp m)).2 e.2.2.2).Nodup/\Ext g n/\ab.heap.size<=n.heap.size) (λe=>577 - e.2.2.2) aV
  ⟨aE,by rw[atl];exact bk,by rw[acS];exact ov.nil _ _ _,by rw[awY];exact bn,by rw[acS];exact AL1,x,Fy _⟩ ?_
 clear aE bk bn;rintro⟨⟨u,eJ,v⟩,⟨eS,hn,eU⟩,⟨cW,eK,cX⟩,p⟩ eM n ⟨aQ,aS,ao,aq,b8,ar,ht⟩;dsimp only at aQ aS ao aq b8;have hv:=acQ a cY b6 b8;have b9:=apN b8;have j:=aS.form;obtain⟨bo,bp,P,_⟩:=j;injection P with Q S U
 subst Q S U;have j:=ao.form;obtain⟨bo,bp,P,_⟩:=j;injection P with Q S U
 subst Q S U;have j:=aq.qP.form;obtain⟨bo,bp,P,_⟩:=j;injection P with Q S U
 subst Q S U;have au:=afb m b d (dp m) p;have cZ:=Sq m d (o.runM m b (dp m)).2 p;have bO:=aD.trans ar;refine aa ?_;refine J_ ((TL (R:=oY) kB E.aw _ (jU m d (o.runM m b (dp m)).2 p) n ao.N2 F.wW Cg [] [.pointer (some ⟨l,0,none⟩)] (λh=>decide (h=jF m d (o.runM m b (dp m)).2 p)) (λH er az V f eV=>by
  obtain⟨hx,cb,bP⟩:=eV;injection cb with cb
  subst cb;exact atg _ _ _ _ l V (f.obj aQ) (aq.qP.ext Flat.ext f) bP)).mono (R':=λaz V=>(∃aT:Int,az = .I aT/\aT=g9 (λh=>decide (h=jF m d (o.runM m b (dp m)).2 p)) (jU m d (o.runM m b (dp m)).2 p) 0)/\Ext n V) λaz V ⟨af,ag⟩=>⟨⟨_,af,rfl⟩,ag⟩) ?_
 rintro _ g0 ⟨⟨aT,rfl,cc⟩,s⟩;have ch:=s.obj aQ;have eW:=bO.trans s;rcases b9 with ⟨H,c1,c2,eX⟩ | ⟨c2,eY⟩
 .rw[c2] at cc;have eZ:p*d.length<=576*12:=AI0 AW AW;have hD:H*d.length<=576*12:=AI0 AW AW;have c3:(b.length:Int)+aT*(d.length:Int)=((b.length+H*d.length:Nat):Int):=by rw[cc];simp
  have hE:aT*(d.length:Int)=((H*d.length:Nat):Int):=by rw[cc];simp
  have hG:H*d.length<=p*d.length:=AJ0 _ AW;have br:a4 2 (Flat cV.enc) g0 _ _:=aR.kF (enc:=cV.enc) (λ_=>rfl) (aR.ext s aS);have e0:=(ar.trans s).obj q;have e1:=(ar.trans s).obj z;have hL:=(ar.trans s).size;clear ao aq aQ ch;refine aa ?_;intro c4 bt;have c5:=a4.ext Flat.ext bt br;have e2:=bt.obj e1;have e3:=eW.trans bt;have hM:=bt.size;clear e0;refine aa ?_;refine _5 (k:=.i64) (b.length+H*d.length) c5 ?_ ?_ λdB bg c9=>?_
  .exact congrArg (Value.int .i64) c3
  .rw[au];omega
  refine aa ?_;refine _e (k:=.i64) (b.length+H*d.length) c5 ?_ ?_ λy bj e6=>?_
  .exact congrArg (Value.int .i64) c3
  .rw[au];omega
  have db:((o.runM m (b++ho d p) (dp m)).1.take (b.length+H*d.length)).length=b.length+H*d.length:=by rw[NU,au];omega
  rw[afc m b d (dp m) (Nat.le_of_lt c1)] at c9 db;refine aa ?_;refine J_ (ahv _ _ c4 c9 (by rw[db];omega)) ?_;rintro ah eT ⟨dc,t⟩;refine aa ?_;refine J_ (ahv _ _ eT (e6.ext Flat.ext t) (by rw[AG5,au];omega)) ?_;rintro ai jd ⟨dd,W⟩;have j:=dc.form;obtain⟨hN,hO,rfl,_⟩:=j;have j:=dd.form;obtain⟨hP,hQ,rfl,_⟩:=j;have hR:=(t.trans W).obj e2;have b1:=(t.trans W).size;have e8:=aR.ext W dc;have bu:=e3.trans (t.trans W);refine aa ?_;intro o2 cj hS;have e9:aR cV.enc T.g 2 c4.heap.size o2 _ _:=aR.wr cj AW e8;have fc:aR cV.enc T.g 2 eT.heap.size o2 _ _:=aR.wr cj (by have:=t.size;omega) dd;refine aa ?_;refine⟨⟨_,_,_,_,0,aZ,aR.kF (enc:=cV.enc) (λ_=>rfl) e9,aR.kF (enc:=cV.enc) (λ_=>rfl) fc,λh=>absurd a h,λ_ h=>absurd h bK,λ_ _ k=>(by rw[X] at k;cases k),λ_ _ Y k i=>(by rw[X] at k;injection k with k;subst k;exact absurd bR i),λ_ _ Y k i=>⟨rfl,H,p,eX,rfl,?_⟩⟩,cj.ext bu AW⟩;rw[<-afc m b d (dp m) (Nat.le_of_lt c1),AH7]
 .have eZ:p*d.length<=576*12:=AI0 AW AW;have br:=aR.ext s aS;have de:=ao.ext s;have df:=aq.ext s;have ff:=ar.trans s;have hT:=s.size;have fh:=Vl a cY b6 p;obtain⟨b9,fi⟩:=fh;have fk:gB m d (fj m (jF m d (o.runM m b (dp m)).2 p))=some (fj m (o.runM m b (dp m)).2):=by rw[fi];exact b6
  have dg:=Cd m d (jF m d (o.runM m b (dp m)).2 p);have fo:nQ g r m:=a9.ext (N.trans Z);clear aS ao aq aQ s ar;refine aa ?_;intro eT hU hV t dh;have fq:=ff.trans t;have dG:=t.size;have ck:=aR.ext t br;have bC:=t.obj ch;have cm:=de.ext t;have cp:=df.ext t;have bw:=cm.b0;clear br de df ch;refine K.ajR cm dh cp (by simp[Value.oneCell']) (by rw[cZ];omega) (by rw[cZ];unfold maxLen;omega) AW AW λhW jd cq di=>?_;have j:=cq.form;obtain⟨fs,ft,rfl,_⟩:=j;have av:Mod (λc=>(Value.slice eS (jU m d (o.runM m b (dp m)).2 p).length eU).ownBlock=some c) eT jd:=Mod.grown di λc a=>a;have bE:jd.heap[l]? = _:=av.obj (λf=>by have:=(bw l f).1;omega) bC;have dj:aR cV.enc T.g 2 g.heap.size jd _ _:=aR.mod ck av λc a f=>by
   obtain⟨aG,k⟩:=aR.b0 ck c a;obtain⟨_,_,bx,i⟩:=bw c f;exact absurd (oz k i) Ae
  have dr:jn g.heap.size jd _ _:=cp.move av λc a f=>by
   obtain⟨aF,_,bx,i⟩:=bw c f;exact⟨AW,λY bY bZ a=>by rw[oz a i];decide⟩
  have bz:Ext g jd:=av.ext fq λc a f=>by have:=(bw c f).1;omega
  have hX:=av.size;have bu:=aD.trans bz;have fu:=bz.obj q;clear ck cm cp bC dh di av;refine aa ?_;refine J_ (Oa r _ _ m _ _ d jd (fo.ext bz) J (L.ext bu) a dr AW b9 (bB.ext Flat.ext bu) AW fk) ?_;rintro _ o2 ⟨⟨hZ,h1,cw,fy,rfl,dt,du⟩,G⟩;have aY:=G.obj bE;have bA:=aR.ext G dj;have cr:=cq.ext G;have fz:=bz.trans G;have h5:=G.size;clear bE dj cq fu dr;refine aa ?_;refine _D (enc:=cV.enc) bA (aR.kF (enc:=cV.enc) (λ_=>rfl) dt) (λ_=>rfl) cV.one (by rw[au,dg];omega) (by rw[au,dg];unfold maxLen;omega) AW λh6 j7 ct dv=>?_;have j:=ct.form;obtain⟨fA,fC,rfl,_⟩:=j;have aw:Mod (λc=>(Value.slice u (o.runM m (b++ho d p) (dp m)).1.length v).ownBlock=some c) o2 j7:=Mod.grown dv λc a=>a;have aU:∀c,(Value.slice u (o.runM m (b++ho d p) (dp m)).1.length v).ownBlock=some c->g.heap.size<=c/\∃aG,o2.heap[c]? = some (.cells aG T.g):=λc a=>⟨(aR.lt bA c a).1,aR.b0 bA c a⟩;have cu:∀c,c<o2.heap.size->(Value.slice u (o.runM m (b++ho d p) (dp m)).1.length v).ownBlock=some c->tM g.heap.size o2 c:=λc _ f=>by
   obtain⟨aF,bx,i⟩:=aU c f;exact⟨aF,λY bY bZ a=>by rw[oz a i];decide⟩
  have fD:j7.heap[l]? = _:=aw.obj (λf=>by obtain⟨_,bx,i⟩:=aU l f;exact absurd (oz aY i) Ae) aY;have dw:=cr.move aw cu λc a f=>by
   obtain⟨_,_,aG,k⟩:=cr.b0 c a;obtain⟨_,bx,i⟩:=aU c f;exact absurd (oz k i) Ae
  have fF:jn g.heap.size j7 _ _:=du.move aw cu;have fI:Ext g j7:=aw.ext fz λc a f=>by have:=(aU c f).1;omega
  have h7:=aw.size;clear bA dt cr du dv aw cu aU aY;refine aa ?_;intro j8 aW fJ;have dx:=fD;have dz:∀c,c<j7.heap.size->c=l->tM g.heap.size j7 c:=λc _ f=>⟨AW,λY bY bZ a=>by subst f;rw[oz a dx];decide⟩;have fM:=dw.move (A:=λc=>c=l) (aW.mod rfl) dz λc a f=>by have:=(dw.b0 c a).1;omega
  have fN:jn g.heap.size j8 _ _:=fF.move (A:=λc=>c=l) (aW.mod rfl) dz;have fO:aR cV.enc T.g 2 g.heap.size j8 _ _:=aR.mod ct (aW.mod (A:=λc=>c=l) rfl) λc a f=>by
   obtain⟨aG,k⟩:=aR.b0 ct c a;subst f;exact absurd (oz k dx) Ae
  have fP:Ext g j8:=aW.ext fI aJ;have h8:=aW.size;refine aa ?_;exact⟨((fA,_,fC),(fs,_,ft),(cw,_,fy),p+1),aV,⟨fJ,by rw[atk];exact fO,by rw[acR];exact fM,by rw[awX];exact fN,eY,fP,AW⟩,by dsimp only;omega⟩
end Go.Proofs.R
namespace o
open Go
def rq(m:Model):C_ cV->C_ Int->H_ (C_ (C_ Int))
 | [],_=>some []
 | b :: c,d=>match mK m d b with
  | none=>none
  | some a=>(rq m c a).map (a :: ·)
theorem Ge(m:Model):∀(b:C_ cV) (c:C_ Int) (d:C_ (C_ Int)),rq m b c=some d->d.length=b.length
 | [],c,d,a=>by injection a with a;subst a;rfl
 | f :: b,c,d,a=>by
  unfold rq at a;cases e:mK m c f with
  | none=>rw[e] at a;cases a
  | some g =>
   rw[e] at a;simp only at a;obtain⟨h,i,rfl⟩:=Option.map_eq_some_iff.1 a;simp[Ge m b g h i]
end o
namespace Go.Proofs.R
open Go Go.RowKit a8 o
attribute [local irreducible] dE bD o.insts o.refs eP
def av7(K:C_ B_)(v:B_)(m:o.Model)(s:C_ Int)(x:cV)(w:A_)(h:nR w K m)(ag:m.cS)(ah:(o.check m).bN=0)(L:cH w v s)(ai:o.Fits m s) :
  EG F.ND #[.agg K.toArray,v,.agg x.enc.toArray] w λr n=>((mK m s x=none/\r = .tuple #[.slice none 0 0,.bool false])\/(∃p M N,mK m s x=some p/\r = .tuple #[.slice M p.length N,.bool true]/\ei w (λj=>fe 0 j (.slice M p.length N) p) n))/\Ext w n:=by
 have aj:=h;obtain⟨aE,aF,aG,aH,aI,aJ,aK,aM,aP,aQ,aS,aT,aU,ak,aW,t,aX,u,aY,a0,a2,a5,a6,a7,rfl,_⟩:=h.form;obtain⟨a9,ba,rfl,_⟩:=L.form;unfold mK cV.enc;refine bm E.ND ?_;refine aa ?_;intro bb bf bk al y;refine aa ?_;intro an bn bo O ao;have g:=al.trans O;replace y:=O.obj y;refine aa ?_;refine J_ (av2 _ _ m s an (aj.ext g) ag ah (L.ext Flat.ext g) ai) ?_;rintro r aq ⟨P,Q⟩;have d:=P.form;obtain⟨bp,br,rfl,ar⟩:=d;unfold maxLen at ar;have au:=Q.obj ao;have av:=g.trans Q;have bt:=g.size;clear y;obtain⟨c,z⟩:∃c:j6->Bool,c=λS=>decide (S.cmd=x.cmd/\S.eM=x.eM):=⟨_,rfl⟩;rw[<-z];refine aa ?_;refine K_ 9 (eP m s).length [5,8] (λ_:Unit=>[]) () (λa _ n=>((eP m s).drop a).find? c=(eP m s).find? c/\Ext aq n) aV aV ⟨rfl,Ext.refl _⟩ ?_;rintro a - bu A bw ⟨e,k⟩;have bx:=k.obj au;have B:=av.trans k;have C:=P.ext k;have U:a4 3 X0 A _ _:=C.iw;refine aa ?_;apply I_<;>intro ak;rotate_left
 .rw[VB AW] at e;rw[<-e];refine aa ?_;exact⟨.inl ⟨rfl,aZ⟩,B⟩
 have b:a<(eP m s).length:=AW
 rw[AF9 b,List.find?_cons] at e;have d:=U.addr;obtain⟨aw,rfl⟩:=d;have d:=C.ex;obtain⟨ax,bz,V,W⟩:=d;have G:=W a AW b;have d:=G.here;obtain⟨bA,H,X⟩:=d;have d:=X.form;obtain⟨Y,Z,rfl,_⟩:=d;have q:fx A (aw.add (a*3)) (ax[a]' AW).1:=a4.at (aR.iw hs V) a AW;rw[H] at q;have I:ei w (λj=>fe 0 j (.slice Y ((eP m s)[a]'b).to.length Z) ((eP m s)[a]'b).to) A:=λj az=>by
  obtain⟨bB,f,g⟩:=(G.mono (A:=λa=>a<w.heap.size) λbC _ bE=>.inr AW) j az;rw[H] at f;injection f with _ f
  injection f with _ f
  injection f with f
  subst f;exact g
 have ab:=q 0 _ rfl;have aA:=q 1 _ rfl;have ae:=q 2 _ rfl;have l:c ((eP m s)[a]'b)=true↔((eP m s)[a]'b).cmd=x.cmd/\((eP m s)[a]'b).eM=x.eM:=by rw[z,decide_eq_true_eq]
 have af:c ((eP m s)[a]'b)=true\/c ((eP m s)[a]'b)=false:=by cases c ((eP m s)[a]'b)<;>simp
 replace l:=i_ l trivial;have I:=i_ I trivial;rw[add_zero] at ab;clear W G V U C H X z;refine aa ?_;apply I_<;>intro t;rotate_left
 .have J:c ((eP m s)[a]'b)=false:=af.resolve_left λh=>t (l.1.1 h).1;rw[J] at e;refine aa ?_;intro aB i;refine aa ?_;exact⟨b,aZ,(),trivial,e,k.trans i⟩
 refine aa ?_;intro aB i;apply I_<;>intro u;rotate_left
 .have J:c ((eP m s)[a]'b)=false:=af.resolve_left λh=>u (l.1.1 h).2;rw[J] at e;refine aa ?_;exact⟨b,aZ,(),trivial,e,k.trans i⟩
 have aC:c ((eP m s)[a]'b)=true:=l.1.2 ⟨t,u⟩;rw[aC] at e;rw[<-e];have bF:=i.cell ae;have aD:=ei.ext I.1 i B.size;clear ab aA ae;refine aa ?_;exact⟨.inr ⟨_,Y,Z,rfl,aZ,aD⟩,B.trans i⟩
def agw(cs:C_ B_)(v N:B_)(m:o.Model)(s:C_ Int)(l:C_ cV)(Q:C_ (C_ Int))(w:A_)(h:eu w cs m)(O:m.cS)(d:(o.check m).bN=0)(r:cH w v s)(P:o.Fits m s)(t:a4 2 (Flat cV.enc) w N l)(bk:l.length<=20000)(S:rq m l s=some Q) :
  EG F.Nz #[.agg cs.toArray,v,N] w λao U=>(∃V,ao = .tuple #[V,.I 0]/\hB U V Q)/\Ext w U:=by
 have aq:=h;obtain⟨bn,bo,ar,bg,bp,bj,br,bt,bu,bw,rfl,_⟩:=h.form;obtain⟨au,av,rfl,_⟩:=r.form;obtain⟨bx,bz,rfl,bA⟩:=t.form;have bB:=Ge m l s Q S;refine bm E.Nz ?_;refine aa ?_;intro aw bC bE W ax;refine aa ?_;refine J_ (av3 _ m aw (aq.ext W) O) ?_;rintro _ bF ⟨c,az⟩;have aA:=W.trans az;rcases c with ⟨aB,_⟩ | ⟨_,bG,rfl,u⟩
 .exact absurd d aB
 have x:=u;obtain⟨bH,bI,bJ,bK,bL,bM,bN,bO,bP,bR,bV,bW,bX,aC,bY,bZ,b0,b1,b3,b4,b5,b6,b8,b9,rfl,_⟩:=u.form;refine aa ?_;intro aD cb cc y X;have Y:=aA.trans y;have aE:=g6 d;refine aa ?_;refine J_ (av5 _ _ m s aD (x.ext y) aE (r.ext Flat.ext Y)) ?_;rintro _ Z ⟨⟨e,rfl,aF⟩,z⟩;have aG:=aF.2 P;subst aG;have ab:=Y.trans z;have aH:=z.obj X;have aI:=x.ext (y.trans z);clear u x X ax;refine aa ?_;refine K_ 11 l.length [2,8] (λa:ef×ef=>[(1,.slice a.1.1 a.1.2.1 a.1.2.2),(10,.slice a.2.1 a.2.2.1 a.2.2.2)]) ((au,s.length,av),(none,0,0)) (λb a A=>(∃k,o.Fits m k/\rq m (l.drop b) k=some (Q.drop b)/\cH A (.slice a.1.1 a.1.2.1 a.1.2.2) k)/\eo ql T.b 1 Z.heap.size A (.slice a.2.1 a.2.2.1 a.2.2.2) (Q.take b)/\Ext Z A) aV aV ⟨⟨s,P,S,r.ext Flat.ext ab⟩,eo.nil _ _ _ _ _,Ext.refl _⟩ ?_;rintro b ⟨⟨ar,ch,bg⟩,⟨cj,ck,cm⟩⟩ cp aJ cq ⟨⟨k,ae,f,B⟩,n,p⟩;dsimp only at f B n;have aK:=p.obj aH;have af:=ab.trans p;have C:=t.ext Flat.ext af;have c:=B.form;obtain⟨aM,aP,ag,_⟩:=c;injection ag with aQ aS aT
 subst aQ aS aT;refine aa ?_;apply I_<;>intro aC;rotate_left
 .rw[Im AW] at n;have c:=n.form;obtain⟨aM,aP,ag,_⟩:=c;refine aa ?_;exact⟨⟨_,aZ,n.iw⟩,af⟩
 have j:b<l.length:=AW
 have ah:b<Q.length:=AW
 rw[AF9 j,AF9 ah,rq] at f;have c:=C.addr;obtain⟨aU,rfl⟩:=c;have ai:fx aJ (aU.add (b*2)) [.I (l[b]'j).cmd,.I (l[b]'j).eM]:=a4.at C b j;clear C t;refine aa ?_;intro aW g;have cr:=g.obj aK;have ct:=ai.ext g;clear ai;refine aa ?_;refine J_ (av7 _ _ m k (l[b]'j) aW (aI.ext (p.trans g)) O d (B.ext Flat.ext g) ae) ?_;rintro _ cu ⟨c,G⟩;have H:=n.ext g;have q:=H.ext G;have hh:=(p.trans g).trans G;have cv:=p.size;have cw:=g.size;have cx:=G.size;rcases c with ⟨aX,_⟩ | ⟨e,I,J,aj,rfl,K⟩
 .rw[aX] at f;cases f
 rw[aj] at f;simp only at f;obtain⟨cB,aY,L⟩:=Option.map_eq_some_iff.1 f;injection L with L a0
 subst a0;have a2:=VJ d ae aj;refine aa ?_;intro a5 cC cD i a6;have cF:=i.size;have cI:cH a5 _ _:=gT (ei.ext K i AW).here;refine _A (x:=e) (cs:=[.slice I e.length J]) (q.ext i) (gP a6) (((ei.own K H AW).imp λw h=>⟨_,rfl,gT h⟩).ext i λM a7 d=>by have:=q.under AW M d;omega) rfl (by simp[Value.oneCell']) (by rw[NU];omega) (by rw[NU];unfold maxLen;omega) AW λcJ ak al an=>?_;have fT:=(q.ext i).hN (hh.trans i) an (Fy _);have c:=al.form;obtain⟨a9,ba,rfl,_⟩:=c;have bb:=(ei.own K H AW).ext i λM a7 d=>by have:=q.under AW M d;omega
 have bf:cH ak (.slice I e.length J) e:=gT (bb ak (Mod.grown an λb d=>.inl d));refine aa ?_;refine⟨j,aZ,((I,e.length,J),(a9,_,ba)),aV,⟨e,a2,aY,bf⟩,?_,fT⟩;rw[NZ ah,<-L];exact al
end Go.Proofs.R
namespace o
open Go
theorem Rn{m:Model}(h:(check m).bN=0):∀(c:C_ cV) (a d:C_ Int),Fits m a->gB m c (fj m a)=some d->∃e,rq m (runM m c a).1 a=some e/\(e.getLast?).getD a=(runM m c a).2
 | [],a,d,_,_=>⟨[],rfl,rfl⟩
 | j :: c,a,d,k,b=>by
  rw[gB] at b;cases f:mK m (fj m a) j with
  | none =>
   unfold wq at b;rw[f] at b;cases b
  | some t =>
   obtain⟨g,l,i,n,p,_⟩:=Qi h k f;have q:gB m c (fj m g)=some d:=by
    unfold wq at b;rw[f] at b;rw[p];exact b
   obtain⟨e,r,s⟩:=Rn h c g d n q;refine⟨g :: e,?_,?_⟩
   .simp only[runM,rq,l,i,r,Option.map_some]
   .simp only[runM,i,List.getLast?_cons,Option.getD_some];exact s
theorem Vj(l:C_ cV)(i:Nat):∀a,ho l (i+a)=ho l i++ho l a
 | 0=>by simp[ho]
 | a+1=>by rw[<-AH6,ho,Vj l i a,ho,VA]
theorem atj{m:Model}{d c a b:C_ cV}(h:CH m d c a b 0):(check m).bN=0/\c≠[]/\b≠[]/\∃j R,rq m a (dp m)=some j/\rq m b ((j.getLast?).getD (dp m))=some R/\R.getLast? = some ((j.getLast?).getD (dp m)):=by
 have f:(check m).bN=0:=Classical.byContradiction λq=>by have:=(h.arg q).2.2;omega
 have k:c≠[]:=λq=>by have:=(h.none_ f q).2.2;omega
 have v:=Ga (g6 f);cases l:gB m d (fj m (dp m)) with
 | none=>have:=(h.ahW f k l).2.2;omega
 | some g =>
  by_cases n:gB m c g=some g;rotate_left
  .have:=(h.afi f k g l n).2.2
   omega
  obtain⟨_,e,w,x,y,z⟩:=h.Vr f k g l n;obtain⟨I,A⟩:=Ig f d _ _ v l;have J:gB m c (fj m (runM m d (dp m)).2)=some (fj m (runM m d (dp m)).2):=by rw[A];exact n
  obtain⟨K,L⟩:=Vl f I J e;have Q:=x.lt;obtain⟨i,rfl⟩:∃i,w=e+i:=⟨w - e,AW⟩;have B:(runM m (d++ho c e) (dp m)).2=jF m c (runM m d (dp m)).2 e:=by rw[u6];rfl
  have C:b=(runM m (ho c i) (jF m c (runM m d (dp m)).2 e)).1:=by
   rw[Vj,<-VA,u6,<-y,B] at z;exact List.append_cancel_left z
  have M:(runM m (ho c i) (jF m c (runM m d (dp m)).2 e)).2=jF m c (runM m d (dp m)).2 e:=by
   have p:=x.same;unfold jF at p ⊢;rw[Vj,u6] at p;exact p
  have N:gB m (d++ho c e) (fj m (dp m))=some g:=by
   rw[Jn,l];exact Jo n e
  have O:gB m (ho c i) (fj m (jF m c (runM m d (dp m)).2 e))=some g:=by
   rw[L,A];exact Jo n i
  obtain⟨j,G,r⟩:=Rn f _ _ _ v N;obtain⟨R,s,t⟩:=Rn f _ _ _ K O;rw[<-y] at G;rw[B] at r;rw[<-C] at s;rw[M] at t;have H:0<b.length:=by
   rw[C,Cd,On];exact Nat.mul_pos AW (List.length_pos_iff.2 k)
  have P:=Ge m b _ R s;refine⟨f,k,λp=>by rw[p] at H;exact absurd H Ah,j,R,G,by rw[r];exact s,?_⟩;rw[r];cases u:R.getLast? with
  | none=>rw[List.getLast?_eq_none_iff] at u;subst u;simp at P;omega
  | some S=>rw[u] at t;exact congrArg some t
end o
namespace Go.Proofs.R
open Go Go.RowKit a8 o
attribute [local irreducible] dE bD o.insts o.refs eP dp
def axb(cs:C_ B_)(z A:B_)(m:o.Model)(a b:C_ cV)(Q R:C_ (C_ Int))(d:C_ Int)(w:A_)(h:eu w cs m)(l:m.cS)(i:(o.check m).bN=0)(B:a4 2 (Flat cV.enc) w z a)(C:a4 2 (Flat cV.enc) w A b)(ab:a.length<=20000)(ae:b.length<=20000)
  (af:b≠[])(G:rq m a (dp m)=some Q)(H:(Q.getLast?).getD (dp m)=d)(I:rq m b d=some R)(J:R.getLast? = some d)(ag:o.Fits m d) :
  EG F.Eb #[.agg cs.toArray,.agg #[z,A]] w λah ai=>ah = .bool true/\Ext w ai:=by
 have n:=h;obtain⟨aS,aT,aU,bg,aW,bj,aX,aY,a0,a2,rfl,_⟩:=h.form;obtain⟨a5,a6,rfl,a7⟩:=B.form;obtain⟨a9,ba,rfl,bb⟩:=C.form;have aj:=g6 i;have ak:=Ga aj;have bf:=Ge m a _ Q G;have bk:=Ge m b _ R I;have bn:0<b.length:=List.length_pos_iff.2 af;refine bm E.Eb ?_;refine aa ?_;intro bo bp br al K;refine aa ?_;intro an bt bu L M;have N:=al.trans L;have O:=L.obj K;refine aa ?_;refine J_ (awL _ m an (n.ext N) l) ?_;rintro bw ao ⟨⟨g,_⟩,p⟩;replace g:=g i;have c:=g.form;obtain⟨aq,ar,rfl,_⟩:=c;have q:=N.trans p;have P:=p.obj O;have S:=p.obj M;refine aa ?_;refine J_ (agw _ _ _ m _ a Q ao (n.ext q) l i g ak (B.ext Flat.ext q) ab G) ?_;rintro _ au ⟨⟨bx,rfl,r⟩,j⟩;have c:=r.form;obtain⟨bz,bA,rfl,bB⟩:=c;have av:=q.trans j;have U:=j.obj P;have V:=j.obj S;clear K M O P S;have bC:(b.length:Int)≠0:=AW
 refine eC ?_;simp -dsimp only[cA];refine eC ?_;refine S_ [2,3] (λe:ef=>[(5,.slice e.1 e.2.1 e.2.2)]) (λe W=>cH W (.slice e.1 e.2.1 e.2.2) d/\Ext au W) ?_ ?_
 .refine aa ?_;apply I_<;>intro bE
  .have s:0<Q.length:=AW
   have aw:=a4.addr r s;obtain⟨bF,rfl⟩:=aw;have t:=a4.at r (Q.length - 1) AW;obtain⟨ax,u,f⟩:=t;have az:Q[Q.length - 1]' AW=d:=by
    rw[<-H,List.getLast?_eq_getElem?,List.getElem?_eq_getElem AW];rfl
   rw[az] at f;have c:=f.form;obtain⟨X,Y,rfl,_⟩:=c;refine aa ?_;refine M_ (Q.length - 1) AW AW ?_;refine aa ?_;refine L_ u ?_;refine aa ?_;exact⟨(X,d.length,Y),aV,f,Ext.refl _⟩
  .have s:Q=[]:=List.length_eq_zero_iff.1 AW;have aA:dp m=d:=by rw[<-H,s];rfl
   refine aa ?_;exact⟨(aq,(dp m).length,ar),aV,aA ▸ g.ext Flat.ext j,Ext.refl _⟩
 rintro⟨bG,bH,bI⟩ bJ aB ⟨k,v⟩;dsimp only at k;have c:=k.form;obtain⟨bK,bL,aC,_⟩:=c;injection aC with aD aE aF
 subst aD aE aF;have x:=av.trans v;have bM:=v.obj U;have bN:=v.obj V;clear U V;refine aa ?_;refine J_ (agw _ _ _ m d b R aB (n.ext x) l i k ag (C.ext Flat.ext x) ae I) ?_;rintro _ aG ⟨⟨bO,rfl,y⟩,Z⟩;have c:=y.form;obtain⟨bP,bR,rfl,bV⟩:=c;have aH:=x.trans Z;have aI:0<R.length:=AW
 have aJ:=a4.addr y aI;obtain⟨bW,rfl⟩:=aJ;have t:=a4.at y (R.length - 1) AW;obtain⟨ax,u,f⟩:=t;refine aa ?_;refine M_ (R.length - 1) AW AW ?_;refine aa ?_;have aK:R[R.length - 1]' AW=d:=by
  rw[List.getLast?_eq_getElem?,List.getElem?_eq_getElem AW] at J;exact Option.some.inj J
 rw[aK] at f;have c:=f.form;obtain⟨X,Y,rfl,_⟩:=c;refine L_ u ?_;refine aa ?_;refine J_ (BT _ _ _ _ aG f (k.ext Flat.ext Z)) ?_;rintro _ bX ⟨⟨bY,rfl,aM⟩,aP⟩;have aQ:=aM.2 rfl;subst aQ;refine aa ?_;exact⟨aZ,aH.trans aP⟩
end Go.Proofs.R
namespace o
open Go
def yf:et:=⟨⟨#[103,111]⟩,0,1,[],[],false⟩
def ye:et:=⟨⟨#[98,97,99,107]⟩,1,0,[],[],false⟩
def aht:Scalar:=⟨⟨#[83]⟩,2⟩
def Ad:ee:=⟨⟨#[97]⟩,1,2,[],[yf,ye]⟩
def gJ:Model:=⟨[aht],[],[],[Ad],[]⟩
def xf:(check gJ).bN=0:=by decide +kernel
def Di:gJ.cS:=by
 refine⟨by simp[gJ,eO],by simp[gJ,eO],by simp[gJ,eO],by simp[gJ,eO],by simp[gJ,eO],?_,?_,?_,?_,by simp[gJ]⟩
 .intro c a;simp[gJ] at a;subst a;exact⟨BK (by simp[aht])⟩
 .simp[gJ]
 .simp[gJ]
 .intro c a;simp[gJ] at a;subst a;refine⟨BK (by simp[Ad]),BK (by simp[Ad]),by simp[Ad,eO],by simp[Ad,eO],by simp[Ad],?_⟩;intro d b;simp[Ad] at b;rcases b with rfl | rfl
  .exact⟨BK (by simp[yf]),BK (by simp[yf]),by simp[yf,eO],by simp[yf,eO],by simp[yf]⟩
  .exact⟨BK (by simp[ye]),BK (by simp[ye]),by simp[ye,eO],by simp[ye,eO],by simp[ye]⟩
def amO:(bD gJ).map (λa=>(a.aQ,a.ab))=[(0,1),(0,1)]:=by decide +kernel
theorem Q5{x y:Int}(f:0<=x/\x<=1)(g:0<=y/\y<=1):Fits gJ [x,y]:=by
 refine⟨by have:cG gJ=2:=(by decide +kernel);rw[this];rfl,λc b=>absurd b (Og _),λc b d=>?_⟩;have a:=congrArg (λe=>e[c]?) amO;simp only[List.getElem?_map,List.getElem?_eq_getElem d,Option.map_some] at a
 match c,b,d,a with
 | 0,_,_,a=>simp at a;simp[a.1,a.2];omega
 | 1,_,_,a=>simp at a;simp[a.1,a.2];omega
 | h+2,b,_,_=>simp at b;omega
def amL:fj gJ [1,0]=[0,1]:=by decide +kernel
def amM:fj gJ [0,1]=[0,1]:=by decide +kernel
def amN:(dE gJ.scalars).length=2:=by decide +kernel
def amK:hK gJ [[1,0]] [1,0]=[0,1]:=by decide +kernel
def amQ:Ab gJ (gI [[1,0]]) 1=3:=by decide +kernel
def amR:(refs gJ).length=4:=by decide +kernel
def abg:hi gJ.scalars [[1,0]]:=(uV (ko xf)).1 (by decide +kernel)
def Q4:gB gJ [⟨0,0⟩,⟨3,0⟩] (fj gJ (dp gJ))=some (fj gJ (dp gJ)):=by decide +kernel
def amP{a b:C_ cV}{e:Int}(h:CH gJ [] [⟨0,0⟩,⟨3,0⟩] a b e):e=0:=(h.Vr xf Ah _ rfl Q4).1
theorem abv{m:Model}(g:(check m).bN=0):∀(d:C_ cV) (b:C_ Int) (c:C_ (C_ Int)),Fits m b->rq m d b=some c->Fits m ((c.getLast?).getD b)
 | [],b,c,e,a=>by
  injection a with a
  subst a;exact e
 | h :: d,b,c,e,a=>by
  rw[rq] at a;cases f:mK m b h with
  | none=>rw[f] at a;cases a
  | some i =>
   rw[f] at a;simp only at a;obtain⟨j,k,l⟩:=Option.map_eq_some_iff.1 a;subst l
   have:=abv g d i j (VJ g e f) k
   rw[List.getLast?_cons,Option.getD_some];exact this
def ati{a b:C_ cV}{e:Int}(h:CH gJ [] [⟨0,0⟩,⟨3,0⟩] a b e):a.length+b.length<=1152:=by
 obtain⟨_,g,i,d,_,f⟩:=h.Vr xf Ah _ rfl Q4;have j:=acQ xf (Ga (g6 xf)) Q4 d.nodup;have c:=congrArg List.length f;rw[Jv,Cd,Jv,On] at c;simp only[List.length_cons,List.length_nil] at c;omega
end o
namespace Go.Proofs.R
open Go Go.RowKit a8 o
def aik(w:A_):EG F.uU #[] w λm h=>(∃i,m = .agg i.toArray/\eu h i gJ)/\Ext w h:=by
 refine bm E.uU ?_;refine aa ?_;intro G H n p j;refine aa ?_;intro I q J e r;refine aa ?_;intro K k L c s;refine aa ?_;intro M t N a u;have O:=ca j;have P:=((e.trans c).trans a).obj j;refine aa ?_;intro f d Q;have S:=e.size;have U:=c.size;have V:=a.size;have v:=d.obj ((c.trans a).obj r) AW;have x:=d.obj (a.obj s) AW;have y:=d.obj u AW;have z:hC f (.slice (some ⟨q,0,none⟩) 1 1) gJ.scalars:=hC.b0 v rfl Ae (by intro W l;simp only[gJ,List.mem_singleton] at l;subst l;decide);have A:sX f (.slice (some ⟨k,0,none⟩) 2 2) [yf,ye]:=a4.Qh [⟨yf.enc (.slice none 0 0) (.slice none 0 0),rfl,by simp[et.enc,Value.oneCell']⟩,⟨ye.enc (.slice none 0 0) (.slice none 0 0),rfl,by simp[et.enc,Value.oneCell']⟩] x rfl rfl rfl Ae (by
  intro g b B
  match g,b with
  | 0,_=>exact⟨(show kq yf.name by decide),_,_,rfl,a4.nil,a4.nil⟩
  | 1,_=>exact⟨(show kq ye.name by decide),_,_,rfl,a4.nil,a4.nil⟩
  | X+2,b=>simp at b;omega)
 have C:r4 f (.slice (some ⟨t,0,none⟩) 1 1) gJ.procs:=a4.Qh [⟨Ad.enc (.slice none 0 0) (.slice (some ⟨k,0,none⟩) 2 2),rfl,by simp[ee.enc,Value.oneCell']⟩] y rfl rfl rfl Ae (by
  intro g b B
  have:g=0:=by simp at b;omega
  subst this;exact⟨(show kq ⟨#[97]⟩ by decide),_,_,rfl,a4.nil,A⟩)
 refine aa ?_;exact⟨⟨_,rfl,⟨_,_,_,_,_,rfl,z,a4.nil,a4.nil,C,a4.nil⟩⟩,d.ext (((p.trans e).trans c).trans a) n⟩
end Go.Proofs.R
namespace a8
open Go Go.RowKit
def mU(s:Step×C_ Nat):Nat:=match s.1.dst with | some a=>a | none=>0
def afO(l:C_ (Step×C_ Nat)):Bool:=l.all (λa=>a.1.dst.isSome)&&decide (l.map mU).Nodup
section
variable(P:Program)(l:List (Step×List Nat))(S:Fr)(w1:World)(R:Nat->Value->World->Prop)
def yB(a:Fr)(w':A_):C_ Nat->Prop
 | []=>True
 | b :: c=>(match l[b]? with | some d=>R b (a (mU d)) w' | none=>True)/\yB a w' c
def vn:C_ (Step×C_ Nat)->Nat->Prop
 | [],_=>True
 | b :: g,e=>(∀c a,Ext w1 a->(∀d,(l.map mU).contains d=false->c d=S d)->yB l R c a b.2->mu P b.1 c a λh f=>Ext a f/\R e (h (mU b)) f)/\vn g (e+1)
theorem vn.get:∀(d:C_ (Step×C_ Nat)) (b:Nat),vn P l S w1 R d b->∀(c:Nat) (a:Step×C_ Nat),d[c]? = some a->∀h f,Ext w1 f->(∀i,(l.map mU).contains i=false->h i=S i)->yB l R h f a.2->mu P a.1 h f λk j=>Ext f j/\R (b+c) (k (mU a)) j
 | [],_,_,c,a,e=>by simp at e
 | m :: d,b,e,0,a,g=>by
  simp only[List.getElem?_cons_zero,Option.some.injEq] at g;subst g;exact e.1
 | m :: d,b,e,c+1,a,g=>by
  have:=vn.get d (b+1) e.2 c a (by simpa using g)
  rw[show b+1+c=b+(c+1) from AW] at this;exact this
def vh(a:Fr)(w':A_):C_ (Step×C_ Nat)->Nat->Prop
 | [],_=>True
 | c :: d,b=>R b (a (mU c)) w'/\vh a w' d (b+1)
end
theorem vh.of{R:Nat->B_->A_->Prop}{e:Fr}{w':A_}:∀(c:C_ (Step×C_ Nat)) (a:Nat),(∀b d,c[b]? = some d->R (a+b) (e (mU d)) w')->vh R e w' c a
 | [],_,_=>trivial
 | g :: c,a,f=>⟨f 0 g rfl,vh.of c (a+1) λb d h=>by
  have:=f (b+1) d (by simpa using h)
  rw[show a+1+b=a+(b+1) from AW];exact this⟩
theorem yB.of{l:C_ (Step×C_ Nat)}{R:Nat->B_->A_->Prop}{c:Fr}{w':A_}:∀(d:C_ Nat),(∀a∈d,∀b,l[a]? = some b->R a (c (mU b)) w')->yB l R c w' d
 | [],_=>trivial
 | a :: f,e=>⟨by
   cases g:l[a]? with
   | none=>trivial
   | some b=>exact e a (AG3 ..) b g,yB.of f λh i=>e h (AG6 _ i)⟩
def AF1{P:D_}{w:A_}{S:Fr}{Q:fG->Fr->A_->Prop}{l:C_ (Step×C_ Nat)}{A}(R:Nat->B_->A_->Prop)(t:afO l=true)(B:∀c p w b,Ext w b->R c p w->R c p b)
  (C:∀i,Ext w i->vn P l S i R l 0/\∀d b,Ext i b->(∀a,(l.map mU).contains a=false->d a=S a)->vh R d b l 0->Q .normal d b):fa P (.x7 l) Q S w A:=by
 unfold fa;show dI P (.x7 l) _ S w;intro i G;obtain⟨H,I⟩:=C i G;simp only[afO,Bool.and_eq_true,List.all_eq_true,decide_eq_true_eq] at t;obtain⟨J,q⟩:=t;refine⟨λD d b=>Ext i b/\(∀a,(l.map mU).contains a=false->d a=S a)/\∀c∈D,∀f,l[c]? = some f->R c (d (mU f)) b,⟨Ext.refl _,λ_ _=>rfl,λc r=>by cases r⟩,λD d b K k=>?_,λD d b c f k g r L=>?_⟩
 .refine I d b k.1 k.2.1 (vh.of l 0 λu f g=>?_);rw[ZB];exact k.2.2 u (K u (List.getElem?_eq_some_iff.1 g).1) f g
 .obtain⟨i1,i2,i3⟩:=k;have v:=List.mem_of_getElem? g;obtain⟨n,x⟩:=Option.isSome_iff_exists.1 (J f v);have y:mU f=n:=by unfold mU;rw[x]
  have M:(l.map mU).contains n=true:=by simpa using⟨_,_,v,y⟩
  have:=vn.get P l S i R l 0 H c f g d b i1 i2 (yB.of _ λh j a e=>i3 h (L h j) a e)
  rw[ZB] at this;refine Gf (λp V m=>?_) this;rw[x] at m ⊢;simp only[a8.put] at m ⊢;refine⟨i1.trans m.1,λa e=>?_,λh j a e=>?_⟩
  .have s:a≠n:=by
    rintro rfl;rw[M] at e;cases e
   simp only[cz,if_neg s];exact i2 a e
  .rcases List.mem_cons.1 j with rfl | j
   .obtain rfl:=Option.some.inj (g.symm.trans e);exact m.2
   .have s:mU a≠n:=by
     intro N;refine r ?_;have O:=(List.getElem?_eq_some_iff.1 e).1;have U:=(List.getElem?_eq_some_iff.1 g).1;have z:(l.map mU)[h]'(by simpa using O)=(l.map mU)[c]'(by simpa using U):=by
      rw[AL0,AL0,(List.getElem?_eq_some_iff.1 e).2,(List.getElem?_eq_some_iff.1 g).2,N,y]
     rw[List.Nodup,AJ9] at q;rcases AK8 h c with aK | aK | aK
     .exact absurd z (q h c _ _ aK)
     .rw[<-aK];exact j
     .exact absurd z.symm (q c h _ _ aK)
    simp only[cz,if_neg s];exact B _ _ _ _ m.1 (i3 h j a e)
end a8
namespace a8
open Go Go.RowKit
def vn.cons{P:D_}{l:C_ (Step×C_ Nat)}{S:Fr}{w1:A_}{R:Nat->B_->A_->Prop}{s:Step×C_ Nat}{r:C_ (Step×C_ Nat)}{i:Nat}(h:∀b a,Ext w1 a->(∀c,(l.map mU).contains c=false->b c=S c)->yB l R b a s.2->mu P s.1 b a λe d=>Ext a d/\R i (e (mU s)) d)(f:vn P l S w1 R r (i+1)):vn P l S w1 R (s :: r) i:=⟨h,f⟩
theorem vh.at{R:Nat->B_->A_->Prop}{g:Fr}{w':A_}:∀(b:C_ (Step×C_ Nat)) (c d:Nat) (e:Step×C_ Nat),vh R g w' b c->b[d]? = some e->R (c+d) (g (mU e)) w'
 | [],_,_,_,_,a=>by cases a
 | h :: b,c,0,e,f,a=>by
  rw[List.getElem?_cons_zero] at a;cases a;exact f.1
 | h :: b,c,d+1,e,f,a=>by
  rw[List.getElem?_cons_succ] at a
  have:=vh.at b (c+1) d e f.2 a
  rw[AH6,AK9 1 d] at this;exact this
def nY{P:D_}{d:Nat}{i:lu}{S:Fr}{w:A_}{R:B_->A_->Prop}(h:lr P i S w λa b=>Ext w b/\R a b):mu P ⟨some d,none,i⟩ S w λe c=>Ext w c/\R (e d) c:=by
 show lr P i S w λa b=>Ext w b/\R (put S (some d) a d) b;have f:∀a,put S (some d) a d=a:=λa=>by rw[jk,bS,if_pos rfl]
 simp only[f];exact h
def ig{P:D_}{d j:Nat}{i:lu}{S:Fr}{w:A_}{R:B_->A_->Prop}(b:S j = .bool true)(h:lr P i S w λc a=>Ext w a/\R c a):mu P ⟨some d,some (j,true),i⟩ S w λf e=>Ext w e/\R (f d) e:=by
 have:=nY (d:=d) h
 show mM (S j) true (lr P i (cz S j (.bool true)) w λc a=>_) _ _;rw[kr S j _ b,b,abL];exact this
end a8
namespace Go.Proofs.R
open Go Go.RowKit a8 o
def kt:Nat->B_->A_->Prop
 | 0,a,b => ∃c:C_ B_,a = .agg c.toArray/\eu b c gJ
 | 1,a,_=>a = .bool true
 | 2,a,b=>cH b a [1,0]
 | 3,a,b=>cH b a [0,1]
 | 4,a,b=>hB b a [[1,0]]
 | 5,a,_=>a = .int .i64 2
 | 6,a,_=>a = .int .i64 3
 | 7,a,_=>a = .int .i64 0
 | 8,a,_ => ∃h i,a = .slice h 2 i
 | _+9,a,b => ∃d e f g,a = .agg #[d,e]/\a4 2 (Flat cV.enc) b d f/\a4 2 (Flat cV.enc) b e g/\CH gJ [] [⟨0,0⟩,⟨3,0⟩] f g 0
theorem kt.ext{v:B_}{w w':A_}(b:Ext w w'):∀d,kt d v w->kt d v w'
 | 0,⟨cs,c,a⟩=>⟨cs,c,a.ext b⟩
 | 1,a=>a
 | 2,a=>a4.ext Flat.ext b a
 | 3,a=>a4.ext Flat.ext b a
 | 4,a=>a4.ext oY.ext b a
 | 5,a=>a
 | 6,a=>a
 | 7,a=>a
 | 8,a=>a
 | _+9,⟨e,f,g,h,c,i,j,k⟩=>⟨e,f,g,h,c,i.ext Flat.ext b,j.ext Flat.ext b,k⟩
def asy:C_ Nat:=[0,2,3,3,1,1,0,3,3,3,1,1,1,0,8,5,1,1,1,0,2,4,2,3,3,1,1,1,0,2,4,6,1,1,1,7,1,1,1,0,9,1,1,1]
def ayU(w:A_)(C:gZ w):EG F.HO #[] w λl a=>l = .bool true/\Ext w a:=by
 refine bm E.HO ?_;refine aa ?_;refine J_ (aik w) ?_;rintro _ bf ⟨⟨q,rfl,X⟩,ax⟩;refine aa ?_;intro N Y bk Z H;replace H:N.heap[Y]? = some (.cells #[.I 0,.I 0,.I 3,.I 0] T.g):=H;have ab:a4 2 (Flat cV.enc) N (.slice (some ⟨Y,0,none⟩) 2 2) [⟨0,0⟩,⟨3,0⟩]:=a4.b0 (enc:=cV.enc) (λ_=>rfl) H rfl Ae λv z az G=>G;have ae:=ax.trans Z;refine aa ?_;refine J_ (avk q _ _ gJ [] _ N (X.ext Z) Di (C.ext ae) a4.nil ab Ae) ?_;rintro _ aA ⟨⟨af,ag,v,I,O,rfl,P,Q,S⟩,aB⟩;have aC:=amP S;subst aC;have aD:=ae.trans aB;have b:=P.form;obtain⟨aE,aF,rfl,_⟩:=b;have b:=Q.form;obtain⟨aG,aH,rfl,_⟩:=b;have ah:kt 9 (.agg #[.slice aE v.length aF,.slice aG I.length aH]) aA:=⟨_,_,v,I,rfl,P,Q,S⟩;clear S P Q ab H X;refine eC ?_;intro bn aI bo ai aJ;have aj:=aD.trans ai;have aK:=kt.ext ai 9 ah;clear ah;simp -dsimp only[cA];refine AF1 (λJ l w=>kt (asy.getD J 1) l w) Cg (λJ l w a f i=>kt.ext f _ i) λaM K=>⟨?_,?_⟩;rotate_left
 .intro c bp aP h ak;have aQ:c 0 = .bool true:=vh.at _ 0 43 _ ak rfl;clear ak h;refine aa ?_;exact⟨aQ,aj.trans (K.trans aP)⟩
 have A:=aj.trans K;have aS:=K.obj aJ;have aT:=kt.ext K 9 aK;have B:∀a,EG F.uU #[] a λl m=>Ext a m/\kt 0 l m:=λa=>(aik a).mono λl m i=>⟨i.2,i.1⟩;have t:∀(z L:Int) (c:Fr) (a:A_),Cy c T.a 2 1 [.I 0,.I 0] [(0,.const (.I z)),(1,.const (.I L))] a λl m=>Ext a m/\cH m l [z,L]:=λz L c a =>
  AL (cs:=[.I z,.I L]) rfl ⟨(Ext.refl a).alloc _,a4.b0 (enc:=da) (λ_=>rfl) (heap_alloc_new a _) rfl (show 2<=maxLen by decide) λv z az G=>G⟩
 have al:∀(c:Fr) (u:Nat) (a:A_),cH a (c u) [1,0]->Cy c T.b 1 1 [.slice none 0 0] [(0,.tmp u)] a λl m=>Ext a m/\kt 4 l m:=λc u a i=>by
  have b:=i.form;obtain⟨x,y,O,_⟩:=b;rw[O] at i;have f:Ext a (a.alloc (.cells [Value.slice x [(1:Int),0].length y].toArray T.b)):=(Ext.refl a).alloc _;refine AL (cs:=[.slice x [(1:Int),0].length y]) ?_ ⟨f,a4.Qh [⟨[.slice x [(1:Int),0].length y],rfl,by simp[Value.oneCell']⟩] (heap_alloc_new a _) rfl rfl rfl (show 1<=maxLen by decide) λJ e j=>?_⟩
  .show gu c [(0,1)] [(0,.tmp u)] [.slice none 0 0]=_;simp[gu,dy,O,lay,Value.cells]
  .have:J=0:=by simp at e;omega
   subst this;exact⟨_,rfl,a4.ext Flat.ext f i⟩
 have U:∀(k n:B_) (r:C_ Int) (a:A_),cH a k r->cH a n r->EG F.d #[k,n] a λl m=>Ext a m/\kt 1 l m:=λk n r a e j=>(BT k n r r a e j).mono λl m i=>⟨i.2,by
  obtain⟨⟨br,rfl,p⟩,_⟩:=i;rw[p.2 rfl];rfl⟩
 have an:∀(k n:B_) (r:C_ Int) (a:A_),Ext w a->kt 0 k a->cH a n r->o.Fits gJ r->fj gJ r=[0,1]->EG F.h #[k,n] a λl m=>Ext a m/\kt 3 l m:=λk n r a f e j h G=>by
  obtain⟨q,rfl,s⟩:=e;refine(au4 q n gJ r a s Di (C.ext f) j).mono λl m i=>⟨i.2,?_⟩;rcases i.1 with ⟨_,p⟩ | ⟨p,_⟩
  .rw[G] at p;exact p
  .exact absurd ⟨xf,h⟩ p
 have aU:∀(k:B_) (a:A_),Ext w a->kt 0 k a->EG F.n #[k] a λl m=>Ext a m/\kt 8 l m:=λk a f e=>by
  obtain⟨q,rfl,s⟩:=e;refine(afX q gJ a s Di (C.ext f)).mono λl m i=>⟨i.2,?_⟩;rcases i.1 with ⟨_,p⟩ | ⟨p,_⟩
  .obtain⟨x,y,rfl,_⟩:=p.form;exact⟨x,y,by rw[amN]⟩
  .exact absurd xf p
 have aW:∀(k:B_) (a:A_),kt 8 k a->Ff k λl=>Ext a a/\kt 5 l a:=λk a i=>by
  obtain⟨x,y,rfl⟩:=i;exact⟨x,2,y,rfl,Ext.refl _,rfl⟩
 have V:∀{ao:F_} {aq ar:G_} (k:B_) (u:Int) (a:A_),k = .I u->oV Tryz.prog .eql ao aq ar k (.I u) λl=>Ext a a/\kt 1 l a:=λ{ao aq ar} k u a i=>by
  subst i;rw[ZP,decide_eq_true rfl];exact⟨Ext.refl _,rfl⟩
 have aX:∀(k n M:B_) (a:A_),Ext w a->kt 0 k a->hB a n [[1,0]]->cH a M [1,0]->EG F.p #[k,n,M] a λl m=>Ext a m/\kt 3 l m:=λk n M a f e j aY=>by
  obtain⟨q,rfl,s⟩:=e;refine(au3 q n M gJ _ _ a s Di (C.ext f) j aY).mono λl m i=>⟨i.2,?_⟩;rcases i.1 with ⟨_,_,p⟩ | ⟨p,_⟩
  .rw[amK] at p;exact p
  .exact absurd ⟨⟨xf,Q5 Ae Ae⟩,abg⟩ p
 have a0:∀(k n:B_) (a:A_),Ext w a->kt 0 k a->hB a n [[1,0]]->EG F.af #[k,n,.I 1] a λl m=>Ext a m/\kt 6 l m:=λk n a f e j=>by
  obtain⟨q,rfl,s⟩:=e;refine(au5 q n gJ _ 1 a s Di (C.ext f) j).mono λl m i=>⟨i.2,?_⟩;rcases i.1 with ⟨_,_,_,p⟩ | ⟨p,_⟩
  .rw[p];exact congrArg (Value.int .i64) amQ
  .exact absurd ⟨xf,abg,Ae,by rw[amR];decide⟩ p
 have a2:∀(k:B_) (a:A_),Ext aM a->k = .pointer (some ⟨aI,0,none⟩)->Fe 2 k a λl=>Ext a a/\kt 9 l a:=λk a f i=>by
  subst i;exact ae5 (gP (f.obj aS)) rfl ⟨Ext.refl _,kt.ext f 9 aT⟩
 have a5:∀(k n:B_) (a:A_),Ext w a->kt 0 k a->kt 9 n a->EG F.Eb #[k,n] a λl m=>Ext a m/\kt 1 l m:=λk n a f e j=>by
  obtain⟨q,rfl,s⟩:=e;obtain⟨af,ag,v,I,rfl,a6,a7,au⟩:=j;obtain⟨W,bt,a9,av,R,aw,ba,bb⟩:=atj au;have bu:=ati au;exact(axb q af ag gJ v I av R _ a s Di W a6 a7 AW AW a9 aw rfl ba bb (abv W v _ av (Ga (g6 W)) aw)).mono λl m i=>⟨i.2,i.1⟩
 repeat' apply vn.cons
 .exact λc a f h d=>nY (B a)
 .exact λc a f h d=>nY (t 1 0 c a)
 .intro c a f h d;have b:=d;obtain⟨e,j,_⟩:=b;exact nY (an (c 12) (c 13) [1,0] a (A.trans f) e j (Q5 Ae Ae) amL)
 .exact λc a f h d=>nY (t 0 1 c a)
 .intro c a f h d;have b:=d;obtain⟨e,j,_⟩:=b;exact nY (U (c 14) (c 15) _ a e j)
 .intro c a f h d;have b:=d;obtain⟨e,_⟩:=b;exact nY ⟨Ext.refl _,e⟩
 .intro c a f h d;have b:=d;obtain⟨g,_⟩:=b;exact ig (j:=17) g (B a)
 .intro c a f h d;have b:=d;obtain⟨g,_⟩:=b;exact ig (j:=17) g (t 0 1 c a)
 .intro c a f h d;have b:=d;obtain⟨e,j,_,g,_⟩:=b;exact ig (j:=17) g (an (c 18) (c 19) [0,1] a (A.trans f) e j (Q5 Ae Ae) amM)
 .intro c a f h d;have b:=d;obtain⟨g,_⟩:=b;exact ig (j:=17) g (t 0 1 c a)
 .intro c a f h d;have b:=d;obtain⟨e,j,_,g,_⟩:=b;exact ig (j:=17) g (U (c 20) (c 21) _ a e j)
 .intro c a f h d;have b:=d;obtain⟨e,j,_⟩:=b;exact nY ⟨true,e,λ_=>⟨Ext.refl _,j⟩,λi=>by cases i⟩
 .intro c a f h d;have b:=d;obtain⟨e,_⟩:=b;exact nY ⟨Ext.refl _,e⟩
 .intro c a f h d;have b:=d;obtain⟨g,_⟩:=b;exact ig (j:=24) g (B a)
 .intro c a f h d;have b:=d;obtain⟨e,_,g,_⟩:=b;exact ig (j:=24) g (aU (c 25) a (A.trans f) e)
 .intro c a f h d;have b:=d;obtain⟨e,g,_⟩:=b;exact ig (j:=24) g (aW (c 26) a e)
 .intro c a f h d;have b:=d;obtain⟨e,g,_⟩:=b;exact ig (j:=24) g (V (c 27) 2 a e)
 .intro c a f h d;have b:=d;obtain⟨e,j,_⟩:=b;exact nY ⟨true,e,λ_=>⟨Ext.refl _,j⟩,λi=>by cases i⟩
 .intro c a f h d;have b:=d;obtain⟨e,_⟩:=b;exact nY ⟨Ext.refl _,e⟩
 .intro c a f h d;have b:=d;obtain⟨g,_⟩:=b;exact ig (j:=30) g (B a)
 .intro c a f h d;have b:=d;obtain⟨g,_⟩:=b;exact ig (j:=30) g (t 1 0 c a)
 .intro c a f h d;have b:=d;obtain⟨e,g,_⟩:=b;exact ig (j:=30) g (al c 32 a e)
 .intro c a f h d;have b:=d;obtain⟨g,_⟩:=b;exact ig (j:=30) g (t 1 0 c a)
 .intro c a f h d;have b:=d;obtain⟨e,j,p,_,g,_⟩:=b;exact ig (j:=30) g (aX (c 31) (c 33) (c 34) a (A.trans f) e j p)
 .intro c a f h d;have b:=d;obtain⟨g,_⟩:=b;exact ig (j:=30) g (t 0 1 c a)
 .intro c a f h d;have b:=d;obtain⟨e,j,_,g,_⟩:=b;exact ig (j:=30) g (U (c 35) (c 36) _ a e j)
 .intro c a f h d;have b:=d;obtain⟨e,j,_⟩:=b;exact nY ⟨true,e,λ_=>⟨Ext.refl _,j⟩,λi=>by cases i⟩
 .intro c a f h d;have b:=d;obtain⟨e,_⟩:=b;exact nY ⟨Ext.refl _,e⟩
 .intro c a f h d;have b:=d;obtain⟨g,_⟩:=b;exact ig (j:=39) g (B a)
 .intro c a f h d;have b:=d;obtain⟨g,_⟩:=b;exact ig (j:=39) g (t 1 0 c a)
 .intro c a f h d;have b:=d;obtain⟨e,g,_⟩:=b;exact ig (j:=39) g (al c 41 a e)
 .intro c a f h d;have b:=d;obtain⟨e,j,_,g,_⟩:=b;exact ig (j:=39) g (a0 (c 40) (c 42) a (A.trans f) e j)
 .intro c a f h d;have b:=d;obtain⟨e,g,_⟩:=b;exact ig (j:=39) g (V (c 43) 3 a e)
 .intro c a f h d;have b:=d;obtain⟨e,j,_⟩:=b;exact nY ⟨true,e,λ_=>⟨Ext.refl _,j⟩,λi=>by cases i⟩
 .intro c a f h d;have b:=d;obtain⟨e,_⟩:=b;exact nY ⟨Ext.refl _,e⟩
 .intro c a f h d;have b:=d;obtain⟨g,_⟩:=b;exact ig (j:=46) g ⟨Ext.refl _,h 2 Cg⟩
 .intro c a f h d;have b:=d;obtain⟨e,g,_⟩:=b;exact ig (j:=46) g (V (c 47) 0 a e)
 .intro c a f h d;have b:=d;obtain⟨e,j,_⟩:=b;exact nY ⟨true,e,λ_=>⟨Ext.refl _,j⟩,λi=>by cases i⟩
 .intro c a f h d;have b:=d;obtain⟨e,_⟩:=b;exact nY ⟨Ext.refl _,e⟩
 .intro c a f h d;have b:=d;obtain⟨g,_⟩:=b;exact ig (j:=50) g (B a)
 .intro c a f h d;have b:=d;obtain⟨g,_⟩:=b;exact ig (j:=50) g (a2 (c 1) a f (h 1 Cg))
 .intro c a f h d;have b:=d;obtain⟨e,j,_,g,_⟩:=b;exact ig (j:=50) g (a5 (c 51) (c 52) a (A.trans f) e j)
 .intro c a f h d;have b:=d;obtain⟨e,j,_⟩:=b;exact nY ⟨true,e,λ_=>⟨Ext.refl _,j⟩,λi=>by cases i⟩
 .intro c a f h d;have b:=d;obtain⟨e,_⟩:=b;exact nY ⟨Ext.refl _,e⟩
 .trivial
attribute [local irreducible] dE bD o.insts o.refs jH fE
def atd(e f:B_)(a b:C_ Int)(w:A_)(j:a4 1 (Flat da) w e a)(k:a4 1 (Flat da) w f b) :
  EG F.d #[e,f] w λg h=>g = .bool (decide (a=b))/\Ext w h :=
 (BT e f a b w j k).mono λg h c=>⟨by
  obtain⟨⟨l,rfl,i⟩,_⟩:=c;congr 1;by_cases d:a=b
  .rw[i.2 d,decide_eq_true d]
  .rw[decide_eq_false d];exact Bool.eq_false_iff.2 λc=>d (i.1 c),c.2⟩
def alc(j v:B_)(s t:C_ (C_ Int))(w:A_)(f:hB w j s)(g:hB w v t) :
  EG F.NQ #[j,v] w λh i=>h = .bool (decide (s=t))/\Ext w i:=by
 obtain⟨H,I,rfl,J⟩:=f.form;obtain⟨K,L,rfl,M⟩:=g.form;refine bm E.NQ ?_;refine aa ?_;apply I_<;>intro N;rotate_left
 .have:s≠t:=λc=>by subst c;omega
  refine aa ?_;exact⟨by rw[decide_eq_false this],Ext.refl _⟩
 have p:s.length=t.length:=AW
 refine aa ?_;refine K_ 5 s.length [0,1] (λ_:Unit=>[]) () (λb _ q=>Ext w q/\∀a (d:a<s.length),a<b->s[a]=t[a]) aV aV ⟨Ext.refl _,λa _ d=>absurd d (Og _)⟩ ?_;rintro b _ O P Q ⟨e,k⟩;refine aa ?_;apply I_<;>intro S
 .have l:b<s.length:=AW
  have r:b<t.length:=AW
  have u:=kW e f;have x:=kW e g;obtain⟨U,rfl⟩:=f.addr;obtain⟨V,rfl⟩:=g.addr;obtain⟨h,y,z⟩:=u.at b l;obtain⟨A,B,C⟩:=x.at b r;refine aa ?_;refine L_ y ?_;refine aa ?_;refine L_ B ?_;refine aa ?_;refine P_ _ (λi c=>atd h A s[b] t[b] i (z.ext Flat.ext c) (C.ext Flat.ext c)) ?_;refine aa ?_;intro W m;refine aa ?_;apply I_<;>intro n
  .refine aa ?_;refine⟨l,aZ,(),trivial,e.trans m,λa d X=>?_⟩;by_cases G:a=b
   .subst G;exact n
   .exact k a d AW
  .have:s≠t:=λc=>by subst c;exact n rfl
   refine aa ?_;exact⟨by rw[decide_eq_false this],e.trans m⟩
 .have:s=t:=List.ext_getElem p λa d _=>k a d AW
  refine aa ?_;exact⟨by rw[decide_eq_true this],e⟩
def asW(cs:C_ B_)(m:o.Model)(w:A_)(h:eu w cs m)(s:m.cS)(M:gZ w) :
  EG F.HN #[.agg cs.toArray] w λg c=>g = .bool true/\Ext w c:=by
 have i:=h;obtain⟨aj,ak,al,bg,an,bj,ao,aq,ar,au,rfl,_⟩:=h.form;have t:∀{a},Ext w a->EG F.HO #[] a λW c=>W = .bool true/\Ext a c:=λj=>ayU _ (M.ext j);refine bm E.HN ?_;refine aa ?_;intro X av aw N k;refine aa ?_;refine J_ (apX _ m X (i.ext N)) ?_;rintro _ ax ⟨Y,O⟩;replace k:=O.obj k;have u:=N.trans O;rcases Y with rfl | ⟨rfl,_⟩
 .refine aa ?_;refine J_ (t u) ?_;rintro _ P ⟨rfl,l⟩;refine aa ?_;exact⟨aZ,u.trans l⟩
 refine aa ?_;intro P l;replace k:=l.obj k;have v:=u.trans l;refine aa ?_;refine J_ (afX _ m P (i.ext v) s (M.ext v)) ?_;rintro g Q ⟨d,x⟩;have n:=v.trans x;rcases d with ⟨y,z⟩ | ⟨y,rfl⟩
 rotate_left
 .refine⟨x,?_⟩;refine aa ?_;refine J_ (aiL _ m Q (i.ext n) s) ?_;rintro g p ⟨d,q⟩;have r:=n.trans q;rcases d with ⟨A,_⟩ | ⟨_,rfl⟩
  .exact absurd A y
  refine aa ?_;refine K_ 5 0 [3,4] (λ_:Unit=>[]) () (λ_ _ a=>Ext p a) aV aV (Ext.refl _) ?_;rintro e _ Z B ab b;have ae:e=0:=AW
  subst ae;refine aa ?_;refine J_ (t (r.trans b)) ?_;rintro _ S ⟨rfl,f⟩;refine aa ?_;exact⟨aZ,(r.trans b).trans f⟩
 obtain⟨az,aA,rfl,_⟩:=z.form;refine⟨x,?_⟩;refine aa ?_;refine J_ (aiL _ m Q (i.ext n) s) ?_;rintro g p ⟨d,q⟩;have r:=n.trans q;rcases d with ⟨_,C⟩ | ⟨A,_⟩
 rotate_left
 .exact absurd y A
 obtain⟨aB,aC,rfl,_⟩:=C.form;have U:q5 p _ _:=a4.ext uq q z;refine aa ?_;refine K_ 5 (dE m.scalars).length [3,4] (λ_:Unit=>[]) () (λ_ _ a=>Ext p a) aV aV (Ext.refl _) ?_;rintro e _ Z B ab b;have V:=r.trans b;refine aa ?_;apply I_<;>intro aD;rotate_left
 .refine aa ?_;refine J_ (t V) ?_;rintro _ S ⟨rfl,f⟩;refine aa ?_;exact⟨aZ,V.trans f⟩
 have G:e<(dE m.scalars).length:=AW
 have H:q5 B _ _:=a4.ext uq b U;have I:q5 B _ _:=a4.ext uq b C;have J:=H.addr;obtain⟨aE,rfl⟩:=J;have J:=I.addr;obtain⟨aF,rfl⟩:=J;have K:=a4.at H e G;have L:=a4.at I e G;obtain⟨af,K,ag⟩:=K;obtain⟨ah,L,ai⟩:=L;clear z C U H I;refine aa ?_;refine L_ K ?_;refine aa ?_;refine L_ L ?_;refine aa ?_;refine P_ _ (λc j=>alc af ah _ _ c (kW j ag) (kW j ai)) ?_;refine aa ?_;intro S f;refine aa ?_;exact⟨G,aZ,(),trivial,b.trans f⟩
end Go.Proofs.R
namespace o
open Go
open Classical in
noncomputable def AH(m:Model)(g:C_ (C_ Int))(s:C_ Int):C_ Int:=if nm m s/\hi m.scalars g then hK m g s else []
open Classical in
noncomputable def awx(m:Model)(g:C_ (C_ Int))(x:Int):Int:=if (check m).bN=0/\hi m.scalars g/\(0<=x/\x<(refs m).length) then Ab m (gI g) x.toNat else -1
end o
namespace Go.Proofs.R
open Go Go.RowKit a8 o
attribute [local irreducible] dE bD o.insts o.refs jH fE
end Go.Proofs.R
namespace o
open Go
structure azq(n:Nat)(L:List Int)(af:List Bool):Prop where
 len:af.length=n
 at_:∀(c:Nat) (h:c<af.length),af[c]=decide ((c:Int)∈L)
def ajc(s:Scope)(x:Node):Prop:=x.op=3->∃a,s.vars[x.n.toNat]? = some a/\a.over≠0
structure azp(m:Model)(x:Node):Prop where
 node:PJ (fw m) x
 over:ajc (fw m) x
end o
namespace Go.Proofs.R
open Go Go.RowKit a8 o
attribute [local irreducible] dE bD o.insts o.refs jH fE
attribute [local irreducible] o.runM k6 p9 jU dp gB eP
end Go.Proofs.R
namespace o
open Go
def atO(a b:C_ Int):C_ Int:=if af4 a=true/\af4 b=true/\a.length=b.length then BX a b else []
def atP(g:C_ (C_ Int)):C_ (C_ Int):=g.map λa=>atO a a
structure azt(m:Model)(g:List (List Int))(s:List Int):Prop where
 right:nm m (AH m g s)
 len:(eP m (AH m g s)).length=(eP m s).length
 step:∀x∈eP m s,mK m (AH m g s) ⟨if 0<=x.cmd then awx m g x.cmd else x.cmd,x.eM⟩=some (AH m g x.to)
 aCa:AH m g (AH m g s)=AH m (atP g) s
end o
namespace Go.Proofs.R
open Go Go.RowKit a8 o
attribute [local irreducible] dE bD o.insts o.refs jH fE eP
end Go.Proofs.R
namespace o
open Go
structure azl(m:Model)(de loop a b:List cV)(L:List cV):Prop where
 ok:(check m).bN=0
 len:(a++b).length=L.length
 g2:L.length<=de.length+577*loop.length
 mod:b.length % loop.length=0
 run:a++b=(runM m L (dp m)).1
 along:∃d,gB m L (fj m (dp m))=some d
 ahW:∀i (h:i<L.length) (U:i<de.length),L[i]=de[i]
 afi:∀i (h:i<L.length),de.length<=i->∃U:(i - de.length) % loop.length<loop.length,L[i]=loop[(i - de.length) % loop.length]
end o
namespace Go.Proofs.R
open Go Go.RowKit a8 o
attribute [local irreducible] dE bD o.insts o.refs jH fE eP dp o.runM gB
end Go.Proofs.R
namespace a8
open Go Go.RowKit Go.ChangeShapes Go.WideShapes Go.Deep
section
variable{H:Type}{enc:TypeId×Value->H}{P:Program}{w:World}{base:Nat}{spare:Nat->Bool}{held:Bool}
def xg{t:F_}{b:Array Field}{n:Nat}{cs:C_ B_}{y:DataW H×C_ MemPlace}(k:P.underlying t=some (.struct b))(l:oneCellFields P b=true)(v:P.cellsOf t=b.size)
  (h:DataW.trod enc P w base spare held n t cs=some y):cs.length=b.size/\∃d g,y.1 = .agg g/\∀(a:Nat) (c:Field),b[a]? = some c->∃i j,cs[a]? = some i/\DataW.trod enc P w base spare held d c.type [i]=some j/\g[a]? = some j.1:=by
 obtain⟨ys,d,x,m,z,A,p⟩:=DataW.trod_struct k h;refine⟨AW,d,_,by rw[m],λa c e=>?_⟩;obtain⟨q,r⟩:=hone_of l a c e;have B:a<b.size:=(Array.getElem?_eq_some_iff.1 e).1;have s:cs[a]? = some (cs[a]' AW):=List.getElem?_eq_getElem AW;have f:=p a c e;rw[q,r] at f;have u:(cs.drop a).take 1=[cs[a]' AW]:=by
  rw[AF9 AW];rfl
 rw[u,List.getElem?_eq_getElem (l:=ys) AW] at f;exact⟨_,_,s,f,by rw[List.getElem?_map,List.getElem?_eq_getElem AW];rfl⟩
def nX{c:Array Field}{n:Nat}{cs:C_ B_}{ds:C_ (DataW H)}(d:∀(j:Nat) (f:Field),c[j]? = some f->∃b a,cs[j]? = some b/\DataW.trod enc P w base spare held n f.type [b]=some a/\ds[j]? = some a.1)(j:Nat){f:Field}(e:c[j]? = some f)
  (g:P.underlying f.type=some (.int .i64):=by kernel_rfl):∃a,cs[j]? = some (.I a)/\(Lit.int .i64 a).wf=true:=by
 obtain⟨b,a,h,i,_⟩:=d j f e;obtain⟨k,l,_,m⟩:=DataW.trod_int (k:=.i64) g i;cases l;exact⟨k,h,m⟩
def Small(P:D_)(t:F_)(d:DataW H):Prop := ∀a∈d.weights P t,a<=reachBytes
theorem Small.field{t a:F_}{b:Array Field}{ds:C_ (DataW H)}{j:Nat}{d:DataW H}{f:Field}(h:Small P t (.agg ds))(e:P.underlying t=some (.struct b))(g:b[j]? = some f)(i:f.type=a)(k:ds[j]? = some d):Small P a d:=by
 subst i;intro c l;refine h c ?_;simp only[DataW.weights,e];exact DataW.weights_mem_each (j:=j) (by simp[g]) k c l
end
end a8
namespace Go.Proofs.R
open Go Go.RowKit a8 Go.ChangeShapes
variable{H:Type}{enc:TypeId×Value->H}{w:World}{cs:List Value}{n:Nat}{y:DataW H×List MemPlace}{v:Value}
def oe{a:Int}(h:(Lit.int .i64 a).wf=true):o.eA a:=by
 simp only[Lit.wf,Bool.and_eq_true,decide_eq_true_eq] at h;exact⟨h.1,h.2⟩
theorem aub(h:DataW.trod enc Tryz.prog w 0 (λ_=>true) true n T.j cs=some y):∃a:o.Node,cs=a.enc/\a.ok:=by
 obtain⟨c,k,l,_,b⟩:=xg (t:=T.j) rfl Cg Cg h
 match cs,c with
 | [m,bg],_ =>
  obtain⟨d,e,f⟩:=nX b 0 rfl;obtain⟨g,i,j⟩:=nX b 1 rfl;cases e;cases i;exact⟨⟨d,g⟩,rfl,oe f,oe j⟩
end Go.Proofs.R
namespace a8
open Go Go.RowKit Go.ChangeShapes Go.WideShapes Go.Deep
section
variable{H:Type}{enc:TypeId×Value->H}{P:Program}{w:World}{base:Nat}{spare:Nat->Bool}{held:Bool}
theorem aiB{e:F_}:∀{d:C_ (DataW H)} {b:DataW H},b∈d->∀c∈b.weights P e,c∈DataW.weightsAll P e d
 | [],_,a=>by cases a
 | g :: h,b,a=>λc f=>by
  simp only[DataW.weightsAll];rcases List.mem_cons.1 a with rfl | a
  .exact AI4 _ f
  .exact AI7 _ (aiB a c f)
def y3{α:Type}{R:A_->Addr->α->Prop}{G:α->Prop}{t e:F_}{v:B_}{n:Nat}{m:DataW H×C_ MemPlace}(sz B:Nat)(i:P.underlying t=some (.slice e))(K:P.cellsOf e=sz)(L:P.bytesOf e=B)
  (M:∀(c:Addr) (j:C_ B_) (n:Nat) (p:DataW H×C_ MemPlace),fx w c j->j.length=sz->DataW.trod enc P w 0 (λ_=>true) true n e j=some p->∃a,R w c a/\(Small P e p.1->G a))
  (h:DataW.trod enc P w 0 (λ_=>true) true n t [v]=some m):∃d,a4 sz R w v d/\(Small P t m.1->o.eO d.length B/\∀a∈d,G a):=by
 rcases open_slice i h with ⟨f,_⟩ | ⟨c,len,cap,q,n,D,W,f,X,Y,hm,r,g,k⟩
 .simp at f;subst f;exact⟨[],a4.nil,λ_=>⟨by simp[o.eO],λa g=>by cases g⟩⟩
 .simp at f;subst f;simp only[if_true] at r;subst r;obtain⟨d,s,u⟩:=afd len (λb a=>R w (c.add (b*sz)) a/\(Small P e (D b)->G a)) λb x=>by
   obtain⟨N,y,O⟩:=k b AW;rw[K] at y;obtain⟨_,z,Q⟩:=World.cells?_some y;refine M _ N n _ (λA Z C=>?_) z O;have S:A<sz:=z ▸ (List.getElem?_eq_some_iff.1 C).1;rw[<-C];exact Q A S
  refine⟨d,⟨some c,_,by rw[s],AW,hm,λ_=>rfl,λab l b k=>by injection l with l;subst l;exact(u b k).1⟩,λI=>⟨?_,λa U=>?_⟩⟩
  .have ae:=I ((len+(q - len))*P.bytesOf e) (by rw[g];simp[DataW.weights,i]);have af:len*B<=(len+(q - len))*P.bytesOf e:=by rw[L];exact AJ0 _ AW
   have ag:reachBytes=140737488351232:=rfl;unfold o.eO;rw[s];omega
  .obtain⟨b,x,rfl⟩:=List.mem_iff_getElem.1 U;refine(u b x).2 λJ V=>I J ?_;rw[g];simp only[DataW.weights,i];refine AG6 _ (AI4 _ (aiB ?_ J V));exact List.mem_map.2 ⟨b,by simp;omega,rfl⟩
def auH{r:Reach}{b:Nat}{t:F_}{c:Array Field}{v:B_}{d:DataW H}{p:C_ MemPlace}(e:P.underlying t=some (.struct c))
  (f:Value.okWide P w r b t v)(h:DataW.Trod enc P w base spare held t v d p):∃a g,v = .agg a/\DataW.trod enc P w base spare held g t a.toList=some (d,p):=by
 obtain⟨a,rfl,k⟩:=okWide_struct e f;obtain⟨i,j⟩:=h;exact⟨a,i,rfl,j⟩
end
end a8
namespace Go.Proofs.R
open Go Go.RowKit a8 Go.ChangeShapes o
variable{H:Type}{enc:TypeId×Value->H}{w:World}{cs:List Value}{n:Nat}{y:DataW H×List MemPlace}{v:Value}
theorem anT(h:DataW.trod enc Tryz.prog w 0 (λ_=>true) true n T.y cs=some y):∃a:o.Scalar,cs=a.enc/\kq a.name/\a.cS:=by
 obtain⟨d,l,m,_,c⟩:=xg (t:=T.y) rfl Cg Cg h
 match cs,d with
 | [p,bg],_ =>
  obtain⟨_,_,b,e,_⟩:=c 0 _ rfl;cases b;obtain⟨f,b,_,g⟩:=DataW.trod_string Cg e;obtain⟨i,j,k⟩:=nX c 1 rfl;cases b;cases j;exact⟨⟨f,i⟩,rfl,g,⟨oe k⟩⟩
theorem anV(h:DataW.trod enc Tryz.prog w 0 (λ_=>true) true n T.i cs=some y):∃b:o.Var,cs=b.enc/\kq b.name/\b.cS:=by
 obtain⟨d,B,C,_,a⟩:=xg (t:=T.i) rfl Cg Cg h
 match cs,d with
 | [G,bg,bj,H,I,J],_ =>
  obtain⟨_,_,c,e,_⟩:=a 0 _ rfl;cases c;obtain⟨f,c,_,g⟩:=DataW.trod_string Cg e;obtain⟨i,j,k⟩:=nX a 1 rfl;obtain⟨l,m,p⟩:=nX a 2 rfl;obtain⟨q,r,s⟩:=nX a 3 rfl;obtain⟨t,u,v⟩:=nX a 4 rfl;obtain⟨x,z,A⟩:=nX a 5 rfl;cases c;cases j;cases m;cases r;cases u;cases z;exact⟨⟨f,i,l,q,t,x⟩,rfl,g,⟨oe k,oe p,oe s,oe v,oe A⟩⟩
theorem anJ(h:DataW.trod enc Tryz.prog w 0 (λ_=>true) true n T.r cs=some y):∃b:ed,cs=b.enc/\kq b.name/\b.cS:=by
 obtain⟨e,B,C,_,a⟩:=xg (t:=T.r) rfl Cg Cg h
 match cs,e with
 | [G,bg,bj,H,I,J],_ =>
  obtain⟨_,_,c,f,_⟩:=a 0 _ rfl;obtain⟨_,_,d,g,_⟩:=a 5 _ rfl;cases c;cases d;obtain⟨i,c,_,j⟩:=DataW.trod_string Cg f;obtain⟨k,l,m⟩:=nX a 1 rfl;obtain⟨p,q,r⟩:=nX a 2 rfl;obtain⟨s,t,u⟩:=nX a 3 rfl;obtain⟨v,x,z⟩:=nX a 4 rfl;obtain⟨A,d,_⟩:=DataW.trod_bool Cg g;cases c;cases l;cases q;cases t;cases x;cases d;exact⟨⟨i,k,p,s,v,A⟩,rfl,j,⟨oe m,oe r,oe u,oe z⟩⟩
def KE(h:DataW.trod enc Tryz.prog w 0 (λ_=>true) true n T.oy [v]=some y):∃a,fH w v a/\(Small Tryz.prog T.oy y.1->eO a.length 16/\∀b∈a,True) :=
 y3 (G:=λ_=>True) (e:=T.j) 2 16 Cg Cg Cg (λf cs n y c g d=>by obtain⟨b,rfl,e⟩:=aub d;exact⟨b,⟨c,e⟩,λ_=>trivial⟩) h
def anU(h:DataW.trod enc Tryz.prog w 0 (λ_=>true) true n T.s7 [v]=some y):∃a,hC w v a/\(Small Tryz.prog T.s7 y.1->eO a.length 24/\∀b∈a,b.cS) :=
 y3 (e:=T.y) 2 24 Cg Cg Cg (λg cs n y c i d=>by obtain⟨b,rfl,e,f⟩:=anT d;exact⟨b,⟨c,e⟩,λ_=>f⟩) h
def abP(h:DataW.trod enc Tryz.prog w 0 (λ_=>true) true n T.tY [v]=some y):∃a,jO w v a/\(Small Tryz.prog T.tY y.1->eO a.length 56/\∀b∈a,b.cS) :=
 y3 (e:=T.i) 6 56 Cg Cg Cg (λg cs n y c i d=>by obtain⟨b,rfl,e,f⟩:=anV d;exact⟨b,⟨c,e⟩,λ_=>f⟩) h
def anK(h:DataW.trod enc Tryz.prog w 0 (λ_=>true) true n T.s8 [v]=some y):∃a,ot w v a/\(Small Tryz.prog T.s8 y.1->eO a.length 56/\∀b∈a,b.cS) :=
 y3 (e:=T.r) 6 56 Cg Cg Cg (λg cs n y c i d=>by obtain⟨b,rfl,e,f⟩:=anJ d;exact⟨b,⟨c,e⟩,λ_=>f⟩) h
theorem anH{a:Addr}(g:fx w a cs)(h:DataW.trod enc Tryz.prog w 0 (λ_=>true) true n T.w cs=some y):∃f:o.Act,Ay w a f/\(Small Tryz.prog T.w y.1->f.cS):=by
 obtain⟨i,K,L,j,b⟩:=xg (t:=T.w) rfl Cg Cg h
 match cs,i with
 | [M,bg,bj,k,l],_ =>
  obtain⟨_,_,m,c,p⟩:=b 3 _ rfl;obtain⟨_,_,q,d,r⟩:=b 4 _ rfl;cases m;cases q;obtain⟨s,t,u⟩:=nX b 0 rfl;obtain⟨v,x,z⟩:=nX b 1 rfl;obtain⟨A,B,C⟩:=nX b 2 rfl;cases t;cases x;cases B;obtain⟨G,c,H⟩:=KE c;obtain⟨I,d,J⟩:=KE d;exact⟨⟨s,v,A,G,I⟩,⟨k,l,g,c,d⟩,λe=>by
   rw[j] at e;exact⟨oe u,oe z,oe C,(H (e.field rfl rfl rfl p)).1,(J (e.field rfl rfl rfl r)).1⟩⟩
def anI(h:DataW.trod enc Tryz.prog w 0 (λ_=>true) true n T.wW [v]=some y):∃a,oq w v a/\(Small Tryz.prog T.wW y.1->eO a.length 72/\∀b∈a,b.cS) :=
 y3 (e:=T.w) 5 72 Cg Cg Cg (λe cs n y c f d=>anH c d) h
theorem anL(h:DataW.trod enc Tryz.prog w 0 (λ_=>true) true n T.q cs=some y):∃g:et,CC w cs g/\(Small Tryz.prog T.q y.1->g.cS):=by
 obtain⟨k,L,M,l,a⟩:=xg (t:=T.q) rfl Cg Cg h
 match cs,k with
 | [N,bg,bj,m,p,O],_ =>
  obtain⟨_,_,c,q,_⟩:=a 0 _ rfl;obtain⟨_,_,r,d,s⟩:=a 3 _ rfl;obtain⟨_,_,t,e,i⟩:=a 4 _ rfl;obtain⟨_,_,f,u,_⟩:=a 5 _ rfl;cases c;cases r;cases t;cases f;obtain⟨v,c,_,b⟩:=DataW.trod_string Cg q;obtain⟨x,z,A⟩:=nX a 1 rfl;obtain⟨B,C,G⟩:=nX a 2 rfl;obtain⟨H,f,_⟩:=DataW.trod_bool Cg u;cases c;cases z;cases C;cases f;obtain⟨I,d,J⟩:=KE d;obtain⟨K,e,j⟩:=anI e;exact⟨⟨v,x,B,I,K,H⟩,⟨b,m,p,rfl,d,e⟩,λb=>by
   rw[l] at b;exact⟨oe A,oe G,(J (b.field rfl rfl rfl s)).1,(j (b.field rfl rfl rfl i)).1,(j (b.field rfl rfl rfl i)).2⟩⟩
def anM(h:DataW.trod enc Tryz.prog w 0 (λ_=>true) true n T.ap [v]=some y):∃a,sX w v a/\(Small Tryz.prog T.ap y.1->eO a.length 88/\∀b∈a,b.cS) :=
 y3 (e:=T.q) 6 88 Cg Cg Cg (λl cs n y c m d=>by
  obtain⟨b,⟨e,f,g,rfl,i,j⟩,k⟩:=anL d;exact⟨b,⟨e,f,g,c,i,j⟩,k⟩) h
theorem anP(h:DataW.trod enc Tryz.prog w 0 (λ_=>true) true n T.af cs=some y):∃f:ee,yN w cs f/\(Small Tryz.prog T.af y.1->f.cS):=by
 obtain⟨l,I,J,m,b⟩:=xg (t:=T.af) rfl Cg Cg h
 match cs,l with
 | [K,bg,bj,p,q],_ =>
  obtain⟨_,_,c,r,_⟩:=b 0 _ rfl;obtain⟨_,_,s,d,g⟩:=b 3 _ rfl;obtain⟨_,_,t,e,i⟩:=b 4 _ rfl;cases c;cases s;cases t;obtain⟨u,c,_,a⟩:=DataW.trod_string Cg r;obtain⟨v,x,z⟩:=nX b 1 rfl;obtain⟨A,B,C⟩:=nX b 2 rfl;cases c;cases x;cases B;obtain⟨G,d,j⟩:=abP d;obtain⟨H,e,k⟩:=anM e;exact⟨⟨u,v,A,G,H⟩,⟨a,p,q,rfl,d,e⟩,λa=>by
   rw[m] at a;exact⟨oe z,oe C,(j (a.field rfl rfl rfl g)).1,(k (a.field rfl rfl rfl i)).1,(j (a.field rfl rfl rfl g)).2,(k (a.field rfl rfl rfl i)).2⟩⟩
def anQ(h:DataW.trod enc Tryz.prog w 0 (λ_=>true) true n T.am [v]=some y):∃a,r4 w v a/\(Small Tryz.prog T.am y.1->eO a.length 80/\∀b∈a,b.cS) :=
 y3 (e:=T.af) 5 80 Cg Cg Cg (λl cs n y c m d=>by
  obtain⟨b,⟨e,f,g,rfl,i,j⟩,k⟩:=anP d;exact⟨b,⟨e,f,g,c,i,j⟩,k⟩) h
def anR(h:DataW.trod enc Tryz.prog w 0 (λ_=>true) true n T.Zx [v]=some y):∃b,CM w v b/\(Small Tryz.prog T.Zx y.1->eO b.length 40/\∀g∈b,g.cS) :=
 y3 (e:=T.as) 2 40 Cg Cg Cg (λt cs n y i e j=>by
  obtain⟨e,u,x,k,f⟩:=xg (t:=T.as) rfl Cg Cg j
  match cs,e with
  | [z,bg],_ =>
   obtain⟨_,_,c,l,_⟩:=f 0 _ rfl;obtain⟨_,_,m,d,p⟩:=f 1 _ rfl;cases c;cases m;obtain⟨q,c,_,a⟩:=DataW.trod_string Cg l;cases c;obtain⟨r,d,s⟩:=KE d;exact⟨⟨q,r⟩,⟨a,bg,i,d⟩,λa=>by rw[k] at a;exact⟨(s (a.field rfl rfl rfl p)).1⟩⟩) h
theorem auG{r:Reach}{c:Nat}{v:B_}{d:DataW H}{p:C_ MemPlace}(s:Value.okWide Tryz.prog w r c T.h v)(h:DataW.Trod enc Tryz.prog w 0 (λ_=>true) true T.h v d p)(a:Small Tryz.prog T.h d) :
  ∃cs e,v = .agg cs.toArray/\eu w cs e/\e.cS:=by
 obtain⟨cs,n,rfl,t⟩:=auH (t:=T.h) rfl s h;obtain⟨u,aj,ak,rfl,b⟩:=xg (t:=T.h) rfl Cg Cg t;obtain⟨cs⟩:=cs
 match cs,u with
 | [f,bg,bj,g,i],_ =>
  obtain⟨_,_,x,y,z⟩:=b 0 _ rfl;obtain⟨_,_,A,B,C⟩:=b 1 _ rfl;obtain⟨_,_,G,I,J⟩:=b 2 _ rfl;obtain⟨_,_,K,L,M⟩:=b 3 _ rfl;obtain⟨_,_,N,O,P⟩:=b 4 _ rfl;cases x;cases A;cases G;cases K;cases N;obtain⟨Q,S,c⟩:=anU y;obtain⟨U,V,W⟩:=abP B;obtain⟨X,Y,Z⟩:=anK I;obtain⟨ab,ae,af⟩:=anQ L;obtain⟨ag,ah,ai⟩:=anR O;have j:=c (a.field rfl rfl rfl z);have k:=W (a.field rfl rfl rfl C);have l:=Z (a.field rfl rfl rfl J);have m:=af (a.field rfl rfl rfl M);have q:=ai (a.field rfl rfl rfl P);exact⟨[f,bg,bj,g,i],⟨Q,U,X,ab,ag⟩,rfl,⟨⟨f,bg,bj,g,i,rfl,S,V,Y,ae,ah⟩⟩,⟨j.1,k.1,l.1,m.1,q.1,j.2,k.2,l.2,m.2,q.2⟩⟩
end Go.Proofs.R
namespace Go.Proofs.R
open Go Go.RowKit a8 Go.ChangeShapes Go.WideShapes Go.Deep
def aCl{c:Type}{enc:F_×B_->c}{r:Reach}{e:Nat}{d:DataW c}{f:C_ MemPlace}(b:B_)(a:A_)(g:gZ a)
  (h:Value.okWide Tryz.prog a r e T.h b)(i:DataW.Trod enc Tryz.prog a 0 (λ_=>true) true T.h b d f)(j:Small Tryz.prog T.h d) :
  EG F.HN #[b] a λk l=>k = .bool true/\Ext a l:=by
 obtain⟨m,n,rfl,p,q⟩:=auG h i j;exact asW m n a p q g
end Go.Proofs.R
namespace a8
open Go Go.RowKit Go.ChangeShapes
def aBC{P:D_}{f:E_}{a:Func}{s:ChangeSpec}{c:OpenClaim}(d:(c.wf (OpenSpec.ofChange s)&&laidOutB P&&mapsRowed P)=true)
  (e:(a.params.all (P.readableRec ·)&&namedTie P c.named s.vars)=true)(g:((c.stops == [])&&(P.stops == [])&&(c.knobs == [])&&(P.stopKnobs == []))=true)
  (p:(c.inPlace == P.inPlace f)=true)(q:(c.unfollowed == P.unfollowed f)=true)(r:(c.recurses == P.recurses f)=true)(t:(c.named == P.varsNamed f)=true)
  (h:((c.maps == (a.params.toList++s.plain.varTypes P).any (P.mapsRec ·))&&(c.ifaces == (a.params.toList++s.plain.varTypes P).any (P.ifacesRec ·))&&(c.mapsOut == P.mapsAmong a.resultTypes.toList))=true)
  (i:((c.loops == (a.params.toList++s.plain.varTypes P).any (P.loopsFrom ·))&&(c.wideKeys == (a.params.toList++s.plain.varTypes P++a.resultTypes.toList).any (P.wideKeysFrom ·)))=true)
  (j:(s.vars.all (P.varReadable ·)&&a.resultTypes.all (λb=>P.readableRec b&&decide (b<P.types.size))&&(c.ifacesOut == a.resultTypes.toList.any (P.ifacesRec ·))&&(c.loopsOut == a.resultTypes.toList.any (P.loopsFrom ·)))=true)
  (u:(c.plainKeys == P.plainKeys)=true)(k:(c.shortTexts.isNone&&P.stopsHeard)=true)(v:P.mayEnter=true)
  (l:((c.lifted == P.liftsFinal)&&(P.make == some c.make))=true)
  (m:((c.kinds == (if c.domain.isEmpty then [] else a.params.toList.map λb=>match P.underlying b with | some (.int w)=>some w | _=>none))&&(c.pinned == c.pinnedBy))=true)
  (n:((c.veiled == (a.params.toList++s.plain.varTypes P++a.resultTypes.toList).any (P.veiledRec ·))&&c.veiledFits P a.params.toList (a.params.toList++s.plain.varTypes P++a.resultTypes.toList))=true) :
  joinedFacts P f a s c=true:=by
 simp only[Bool.and_eq_true] at d e g h i j k l m n;unfold joinedFacts;simp only[Bool.and_eq_true];obtain⟨⟨x,y⟩,z⟩:=d;obtain⟨A,B⟩:=e;obtain⟨⟨⟨C,G⟩,H⟩,I⟩:=g;obtain⟨⟨J,K⟩,L⟩:=h;obtain⟨M,N⟩:=i;obtain⟨⟨⟨O,Q⟩,S⟩,U⟩:=j;obtain⟨i1,i2⟩:=k;obtain⟨V,W⟩:=l;obtain⟨X,Y⟩:=m;obtain⟨Z,ab⟩:=n;exact⟨⟨⟨⟨⟨⟨⟨⟨⟨⟨⟨⟨⟨⟨⟨⟨⟨⟨⟨⟨⟨⟨⟨⟨⟨⟨⟨⟨⟨⟨⟨x,y⟩,z⟩,A⟩,B⟩,C⟩,G⟩,H⟩,I⟩,p⟩,q⟩,r⟩,t⟩,J⟩,K⟩,L⟩,M⟩,N⟩,O⟩,Q⟩,S⟩,U⟩,u⟩,i1⟩,i2⟩,v⟩,V⟩,W⟩,X⟩,Y⟩,Z⟩,ab⟩
end a8