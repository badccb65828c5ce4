/- Parts. -/
import Derived.Test.YtlhljkikdhblbaaGreatDoorQsmr
set_option linter.all false
set_option maxRecDepth 8000
set_option maxHeartbeats 64000000
namespace Go.Proofs.R
open Go Go.RowKit ba o
attribute [local irreducible] ep bF o.insts o.refs jA fH o.runM k1 p7 jP dn gE
theorem avN(cs:C_ B_)(vs cw:B_)(m:o.Model)(b d:C_ cR)(w:A_)(h:dU w cs m)(J:m.cB)(L:gi w)(ax:a6 2 (Flat cR.enc) w vs b)(bB:a6 2 (Flat cR.enc) w cw d)(fS:b.length+d.length<=12) :
  EL F.JJ #[.agg cs.toArray,.agg #[vs,cw]] w λay V=>(∃ah ai az r f,ay = .tuple #[.agg #[ah,ai],.I f]/\a6 2 (Flat cR.enc) V ah az/\a6 2 (Flat cR.enc) V ai r/\CP m b d az r f)/\Ext w V:=by
 have aY:=h;obtain⟨fV,fW,dz,bg,y,bj,fX,fY,cx,ga,rfl,_⟩:=h.form;obtain⟨gb,gg,rfl,_⟩:=ax.form;obtain⟨gk,gl,rfl,_⟩:=bB.form;refine bn E.JJ ?_;refine aa ?_;intro gr dA bC s i;refine aa ?_;intro gu gw bD t q;refine aa ?_;intro dB cy aZ W z;replace i:=(t.trans W).obj i;replace q:=W.obj q;have cz:=s.trans t;have bE:=cz.trans W;have dC:=cz.size;have gx:=cf i;have gy:=cf q;have gz:=cf z;have gB:=s.size;have gC:dA≠cy:=by have:=t.size;have:=s.size;intro f;subst f;exact absurd (oq i z) Ae
 refine aa ?_;refine J_ (Ic _ m dB (aY.ext bE) J (L.ext bE)) ?_;rintro _ gD ⟨j,G⟩;replace i:=G.obj i;replace q:=G.obj q;replace z:=G.obj z;have bG:=bE.trans G;have gF:=G.size;rcases j with ⟨a,rfl⟩ | ⟨a,r,rfl,cB⟩
 .refine aa ?_;intro bH bI dF;refine aa ?_;exact⟨⟨_,_,[],[],2,aV,a6.nil,a6.nil,λ_=>⟨rfl,rfl,rfl⟩,λh=>absurd h a,λh=>absurd h a,λh=>absurd h a,λh=>absurd h a⟩,bI.ext bG AY⟩
 refine aa ?_;apply I_<;>intro dG
 .have bJ:d=[]:=AF8 AY;refine aa ?_;intro bH bI dF;refine aa ?_;exact⟨⟨_,_,[],[],8,aV,a6.nil,a6.nil,λh=>absurd a h,λ_ _=>⟨rfl,rfl,rfl⟩,λ_ h=>absurd bJ h,λ_ h=>absurd bJ h,λ_ h=>absurd bJ h⟩,bI.ext bG AY⟩
 have bK:d≠[]:=λf=>dG (by rw[f];rfl);have dI:=gA a;have aj:=Gd dI;have dK:=aam a aj;refine aa ?_;intro bH ak;replace i:=ak.obj i;replace q:=ak.obj q;replace z:=ak.obj z;have aB:=bG.trans ak;have a0:=cB.ext ak;clear cB;refine aa ?_;refine J_ (anV _ m bH (aY.ext aB) J (L.ext aB)) ?_;rintro gM dL ⟨⟨aC,_⟩,a1⟩;replace aC:=aC a;have j:=aC.form;obtain⟨gN,gO,rfl,_⟩:=j;refine⟨a1,?_⟩;have gP:=aB.trans a1;refine aa ?_;refine J_ (Ou r _ m _ dL (a0.ext a1) a aC aj) ?_;rintro dN dM ⟨bL,dO⟩;have j:=bL.form;obtain⟨gT,gU,rfl,_⟩:=j;have a3:=a1.trans dO;refine⟨a3,?_⟩;have cE:=aB.trans a3;refine aa ?_;refine J_ (agB r _ _ m _ b dM (a0.ext a3) J (L.ext cE) a bL dK (ax.ext Flat.ext cE)) ?_;rintro _ dP ⟨j,dQ⟩;have al:=a3.trans dQ;have a5:=aB.trans al;replace i:=al.obj i;replace q:=al.obj q;replace z:=al.obj z;have gV:=al.size;have gW:=ak.size;rcases j with ⟨a7,rfl⟩ | ⟨cF,gX,gZ,X,dR,rfl,bM⟩
 .refine aa ?_;intro cG dV g4;refine aa ?_;exact⟨⟨_,_,[],[],17,aV,a6.nil,a6.nil,λh=>absurd a h,λ_ h=>absurd h bK,λ_ _ _=>⟨rfl,rfl,rfl⟩,λ_ _ Y k=>(by rw[a7] at k;cases k),λ_ _ Y k=>(by rw[a7] at k;cases k)⟩,dV.ext a5 AY⟩
 have a8:=a0.ext al;clear bL aC a0;refine aa ?_;refine J_ (agB r _ _ m _ d dP a8 J (L.ext a5) a bM dR (bB.ext Flat.ext a5)) ?_;rintro _ cG ⟨j,N⟩;have cI:=a5.trans N;replace i:=N.obj i;replace q:=N.obj q;replace z:=N.obj z;have g6:=N.size;have bN:∀{n A:A_},Ext w n->dX cy n A->gE m d cF≠some cF->(∃ah ai az r f,(Value.tuple #[.agg #[.slice none 0 0,.slice none 0 0],.I 18]) = .tuple #[.agg #[ah,ai],.I f]/\a6 2 (Flat cR.enc) A ah az/\a6 2 (Flat cR.enc) A ai r/\CP m b d az r f)/\Ext w A:=λ{n A} bO dW bQ =>
  ⟨⟨_,_,[],[],18,rfl,a6.nil,a6.nil,λh=>absurd a h,λ_ h=>absurd h bK,λ_ _ k=>(by rw[X] at k;cases k),λ_ _ _ _ _=>⟨rfl,rfl,rfl⟩,λ_ _ Y k i=>(by rw[X] at k;injection k with k;subst k;exact absurd i bQ)⟩,dW.ext bO AY⟩
 rcases j with ⟨a7,rfl⟩ | ⟨d2,g7,g8,bU,g9,rfl,cK⟩
 .refine aa ?_;intro g dY hc;refine aa ?_;exact bN cI dY (by rw[a7];exact λh=>by cases h)
 refine aa ?_;refine J_ (BX _ _ _ _ cG cK (bM.ext Flat.ext N)) ?_;rintro _ g ⟨⟨dZ,rfl,cL⟩,Z⟩;have aD:=cI.trans Z;replace i:=Z.obj i;replace q:=Z.obj q;replace z:=Z.obj z;have hf:=Z.size;cases dZ with
 | false =>
  refine aa ?_;intro ab ee aE;refine aa ?_;exact bN aD ee (by rw[bU];intro h;injection h with h;have:=cL.2 h;cases this)
 | true =>
 have ef:=cL.1 rfl;subst ef;clear bN bM cK;have a9:∀{n A:A_} {l bV:Nat} {cM:Array B_} {u:H_ Addr} {v:Nat} {y:H_ Addr} {bj:Nat},n.heap[l]? = some (.cells cM T.b)->g.heap.size<=l->aT cR.enc T.g 2 bV n (.slice u (o.runM m b (dn m)).1.length v) (o.runM m b (dn m)).1->g.heap.size<=bV ->
   ji g.heap.size n (.slice y (o.runM m b (dn m)).2.length bj) (o.runM m b (dn m)).2->Ext g n->dX l n A->A.heap[l]? = some (.cells #[.slice y (o.runM m b (dn m)).2.length bj] T.b) ->
   (g.heap.size<=l/\A.heap[l]? = some (.cells #[.slice y (o.runM m b (dn m)).2.length bj] T.b))/\aT cR.enc T.g 2 g.heap.size A (.slice u (o.runM m b (dn m)).1.length v) (o.runM m b (dn m)).1/\ji g.heap.size A (.slice y (o.runM m b (dn m)).2.length bj) (o.runM m b (dn m)).2/\Ext g A :=
  λ{n A l bV cM u v y bj} aF cN cP eg eh ei bW ej=>⟨⟨cN,ej⟩,aT.low eg (aT.mod cP (bW.mod (A:=λbX=>bX=l) rfl) λc a f=>by
   obtain⟨aG,k⟩:=aT.b0 cP c a;subst f;exact absurd (oq aF k) Ae),eh.move (A:=λbX=>bX=l) (bW.mod rfl) (λH eo f=>⟨AY,λY bY b0 a=>by subst f;rw[oq a aF];decide⟩),bW.ext ei cN⟩
 refine eA ?_;refine R_ [2,3,4,6] (λe:ez×ez×Nat=>[(10,.slice e.1.1 e.1.2.1 e.1.2.2),(11,.pointer (some ⟨e.2.2,0,none⟩))]) (λe n=>(g.heap.size<=e.2.2/\n.heap[e.2.2]? = some (.cells #[.slice e.2.1.1 e.2.1.2.1 e.2.1.2.2] T.b))/\aT cR.enc T.g 2 g.heap.size n (.slice e.1.1 e.1.2.1 e.1.2.2) (o.runM m b (dn m)).1/\ji g.heap.size n (.slice e.2.1.1 e.2.1.2.1 e.2.1.2.2) (o.runM m b (dn m)).2/\Ext g n) ?_ ?_
 .refine aa ?_;intro ab x;have er:=x.obj i;have et:=x.obj q;have an:=aD.trans x;have bb:nH ab r m:=a8.ext ((N.trans Z).trans x);have eu:=x.size;refine aa ?_;refine⟨?aga,?auS⟩
  case' aga =>
   refine J_ (Ru _ m ab (aY.ext an) J (L.ext an)) ?_;rintro eB aH ⟨⟨O,_⟩,B⟩;replace O:=O a;have j:=O.form;obtain⟨eC,eE,rfl,_⟩:=j;have cQ:ji g.heap.size aH _ _:=ji.own O;have bf:=an.trans B;have eF:=B.size;refine⟨B,?_⟩;refine aa ?_;refine⟨?auQ,?auR⟩
  case auQ =>
   refine J_ (Oy r _ _ m _ _ b aH (bb.ext B) J (L.ext bf) a cQ AY aj (ax.ext Flat.ext bf) AY X) ?_;rintro _ ae ⟨⟨u,v,y,aI,rfl,eG,b1⟩,C⟩;have b3:=C.size;have I:=B.trans C;refine aa ?_;intro cS l aJ M aK;refine⟨I.trans M,?_⟩;refine aa ?_;intro cU aL aP;have af:g.heap.size<=l:=AY
   have ag:g.heap.size<=aH.heap.size:=AY
   refine aa ?_;exact⟨((u,_,v),(y,_,aI),l),aW,a9 aK af (aT.ext M eG) ag (b1.ext M) (x.trans (I.trans M)) aL aP⟩
  case auR =>
   refine aa ?_;intro ae l aJ C b4;have I:=B.trans C;have b3:=C.size;refine⟨I,?_⟩;refine aa ?_;refine J_ (Oy r _ _ m _ _ b ae (bb.ext I) J (L.ext (bf.trans C)) a (cQ.ext C) AY aj (ax.ext Flat.ext (bf.trans C)) AY X) ?_;rintro _ cS ⟨⟨u,v,y,aI,rfl,b5,b6⟩,M⟩;have aK:=M.obj b4;refine aa ?_;intro cU aL aP;have af:g.heap.size<=l:=AY
   have ag:g.heap.size<=ae.heap.size:=AY
   refine aa ?_;exact⟨((u,_,v),(y,_,aI),l),aW,a9 aK af b5 ag b6 (x.trans (I.trans M)) aL aP⟩
  case auS =>
   refine aa ?_;intro aH l aJ B eH;have eF:=B.size;refine⟨B,?_⟩;refine aa ?_;refine J_ (Ru _ m aH (aY.ext (an.trans B)) J (L.ext (an.trans B))) ?_;rintro eB ae ⟨⟨O,_⟩,C⟩;replace O:=O a;have j:=O.form;obtain⟨eC,eE,rfl,_⟩:=j;have b1:ji g.heap.size ae _ _:=ji.own O;have I:=B.trans C;have cV:=an.trans I;have b3:=C.size;have b4:=C.obj eH;refine⟨I,?_⟩;refine aa ?_;refine J_ (Oy r _ _ m _ _ b ae (bb.ext I) J (L.ext cV) a b1 AY aj (ax.ext Flat.ext cV) AY X) ?_;rintro _ cS ⟨⟨u,v,y,aI,rfl,b5,b6⟩,M⟩;have aK:=M.obj b4;refine aa ?_;intro cU aL aP;have af:g.heap.size<=l:=AY
   have ag:g.heap.size<=ae.heap.size:=AY
   refine aa ?_;exact⟨((u,_,v),(y,_,aI),l),aW,a9 aK af b5 ag b6 (x.trans (I.trans M)) aL aP⟩
 rintro⟨⟨u,eK,v⟩,⟨cW,eL,cX⟩,l⟩ eM ab ⟨⟨aJ,aE⟩,bk,bl,x⟩;dsimp only at aJ aE bk bl;clear a9;have j:=bk.form;obtain⟨bo,bp,P,_⟩:=j;injection P with Q S U
 subst Q S U;have j:=bl.qN.form;obtain⟨bo,bp,P,_⟩:=j;injection P with Q S U
 subst Q S U;have er:=x.obj i;have et:=x.obj q;have eu:=x.size;have hg:=cf aE;have hk:=aD.trans x;have bb:nH ab r m:=a8.ext ((N.trans Z).trans x);have eP:=Iu a b _ _ aj X;obtain⟨cY,eQ⟩:=eP;have b8:gE m d (fb m (o.runM m b (dn m)).2)=some (fb m (o.runM m b (dn m)).2):=by rw[eQ];exact bU
 have hl:=Ch m b (dn m);refine aa ?_;refine _W [2,3,4,6,11] (λe:ez×ez×ez×Nat=>[(10,.slice e.1.1 e.1.2.1 e.1.2.2),(12,.slice e.2.1.1 e.2.1.2.1 e.2.1.2.2)]) ((u,_,v),(none,0,0),(cW,_,cX),0)
  (λe n=>n.heap[l]? = some (.cells #[.slice e.2.2.1.1 e.2.2.1.2.1 e.2.2.1.2.2] T.b)/\aT cR.enc T.g 2 g.heap.size n (.slice e.1.1 e.1.2.1 e.1.2.2) (o.runM m (b++hq d e.2.2.2) (dn m)).1/\oh g.heap.size ab.heap.size n (.slice e.2.1.1 e.2.1.2.1 e.2.1.2.2) (jP m d (o.runM m b (dn m)).2 e.2.2.2) /\
   ji g.heap.size n (.slice e.2.2.1.1 e.2.2.1.2.1 e.2.2.1.2.2) (jy m d (o.runM m b (dn m)).2 e.2.2.2)/\(jP m d (o.runM m b (dn m)).2 e.2.2.2).Nodup/\Ext g n/\ab.heap.size<=n.heap.size) (λe=>577 - e.2.2.2) aW
  ⟨aE,by rw[atO];exact bk,by rw[adg];exact oh.nil _ _ _,by rw[axr];exact bl,by rw[adg];exact AK9,x,EM _⟩ ?_
 clear aE bk bl;rintro⟨⟨u,eK,v⟩,⟨eR,hn,eS⟩,⟨cW,eL,cX⟩,p⟩ eM n ⟨aQ,aR,ao,aq,b9,ar,ho⟩;dsimp only at aQ aR ao aq b9;have hp:=ade a cY b8 b9;have ca:=aqo b9;have j:=aR.form;obtain⟨bo,bp,P,_⟩:=j;injection P with Q S U
 subst Q S U;have j:=ao.form;obtain⟨bo,bp,P,_⟩:=j;injection P with Q S U
 subst Q S U;have j:=aq.qN.form;obtain⟨bo,bp,P,_⟩:=j;injection P with Q S U
 subst Q S U;have au:=afF m b d (dn m) p;have c0:=SA m d (o.runM m b (dn m)).2 p;have bO:=aD.trans ar;refine aa ?_;refine J_ ((TV (R:=oT) kv E.J _ (jP m d (o.runM m b (dn m)).2 p) n ao.UP F.as Cl [] [.pointer (some ⟨l,0,none⟩)] (λh=>decide (h=jy m d (o.runM m b (dn m)).2 p)) (λH eo ay V f eU=>by
  obtain⟨ht,cb,bQ⟩:=eU;injection cb with cb
  subst cb;exact atJ _ _ _ _ l V (f.obj aQ) (aq.qN.ext Flat.ext f) bQ)).mono (R':=λay V=>(∃aS:Int,ay = .I aS/\aS=hd (λh=>decide (h=jy m d (o.runM m b (dn m)).2 p)) (jP m d (o.runM m b (dn m)).2 p) 0)/\Ext n V) λay V ⟨af,ag⟩=>⟨⟨_,af,rfl⟩,ag⟩) ?_
 rintro _ g3 ⟨⟨aS,rfl,cc⟩,s⟩;have ch:=s.obj aQ;have eV:=bO.trans s;rcases ca with ⟨H,c1,c2,eW⟩ | ⟨c2,eX⟩
 .rw[c2] at cc;have eY:p*d.length<=576*12:=AI9 AY AY;have hx:H*d.length<=576*12:=AI9 AY AY;have c3:(b.length:Int)+aS*(d.length:Int)=((b.length+H*d.length:Nat):Int):=by rw[cc];simp
  have hB:aS*(d.length:Int)=((H*d.length:Nat):Int):=by rw[cc];simp
  have hC:H*d.length<=p*d.length:=AJ2 _ AY;have bq:a6 2 (Flat cR.enc) g3 _ _:=aT.lF (enc:=cR.enc) (λ_=>rfl) (aT.ext s aR);have eZ:=(ar.trans s).obj q;have e0:=(ar.trans s).obj z;have hD:=(ar.trans s).size;clear ao aq aQ ch;refine aa ?_;intro c4 bt;have c5:=a6.ext Flat.ext bt bq;have e4:=bt.obj e0;have e7:=eV.trans bt;have hJ:=bt.size;clear eZ;refine aa ?_;refine AB0 (k:=.i64) (b.length+H*d.length) c5 ?_ ?_ λdz bg c8=>?_
  .exact congrArg (Value.int .i64) c3
  .rw[au];omega
  refine aa ?_;refine _m (k:=.i64) (b.length+H*d.length) c5 ?_ ?_ λy bj e8=>?_
  .exact congrArg (Value.int .i64) c3
  .rw[au];omega
  have db:((o.runM m (b++hq d p) (dn m)).1.take (b.length+H*d.length)).length=b.length+H*d.length:=by rw[IP,au];omega
  rw[afG m b d (dn m) (Nat.le_of_lt c1)] at c8 db;refine aa ?_;refine J_ (ahZ _ _ c4 c8 (by rw[db];omega)) ?_;rintro ah eT ⟨dc,t⟩;refine aa ?_;refine J_ (ahZ _ _ eT (e8.ext Flat.ext t) (by rw[AG7,au];omega)) ?_;rintro ai iX ⟨dd,W⟩;have j:=dc.form;obtain⟨hK,hL,rfl,_⟩:=j;have j:=dd.form;obtain⟨hM,hN,rfl,_⟩:=j;have hO:=(t.trans W).obj e4;have b3:=(t.trans W).size;have e9:=aT.ext W dc;have bu:=e7.trans (t.trans W);refine aa ?_;intro oY cj hP;have fa:aT cR.enc T.g 2 c4.heap.size oY _ _:=aT.wr cj AY e9;have fc:aT cR.enc T.g 2 eT.heap.size oY _ _:=aT.wr cj (by have:=t.size;omega) dd;refine aa ?_;refine⟨⟨_,_,_,_,0,aV,aT.lF (enc:=cR.enc) (λ_=>rfl) fa,aT.lF (enc:=cR.enc) (λ_=>rfl) fc,λh=>absurd a h,λ_ h=>absurd h bK,λ_ _ k=>(by rw[X] at k;cases k),λ_ _ Y k i=>(by rw[X] at k;injection k with k;subst k;exact absurd bU i),λ_ _ Y k i=>⟨rfl,H,p,eW,rfl,?_⟩⟩,cj.ext bu AY⟩;rw[<-afG m b d (dn m) (Nat.le_of_lt c1),AH6]
 .have eY:p*d.length<=576*12:=AI9 AY AY;have bq:=aT.ext s aR;have de:=ao.ext s;have df:=aq.ext s;have fe:=ar.trans s;have hR:=s.size;have ff:=VA a cY b8 p;obtain⟨ca,fh⟩:=ff;have fi:gE m d (fb m (jy m d (o.runM m b (dn m)).2 p))=some (fb m (o.runM m b (dn m)).2):=by rw[fh];exact b8
  have di:=Ch m d (jy m d (o.runM m b (dn m)).2 p);have fj:nH g r m:=a8.ext (N.trans Z);clear aR ao aq aQ s ar;refine aa ?_;intro eT hT hW t dj;have fk:=fe.trans t;have dC:=t.size;have cm:=aT.ext t bq;have bC:=t.obj ch;have cp:=de.ext t;have cq:=df.ext t;have bw:=cp.b0;clear bq de df ch;refine K.aku cp dj cq (by simp[Value.oneCell']) (by rw[c0];omega) (by rw[c0];unfold maxLen;omega) AY AY λhX iX cr dk=>?_;have j:=cr.form;obtain⟨fl,fo,rfl,_⟩:=j;have av:Mod (λc=>(Value.slice eR (jP m d (o.runM m b (dn m)).2 p).length eS).ownBlock=some c) eT iX:=Mod.grown dk λc a=>a;have bD:iX.heap[l]? = _:=av.obj (λf=>by have:=(bw l f).1;omega) bC;have dp:aT cR.enc T.g 2 g.heap.size iX _ _:=aT.mod cm av λc a f=>by
   obtain⟨aG,k⟩:=aT.b0 cm c a;obtain⟨_,_,bx,i⟩:=bw c f;exact absurd (oq k i) Ae
  have dq:ji g.heap.size iX _ _:=cq.move av λc a f=>by
   obtain⟨aF,_,bx,i⟩:=bw c f;exact⟨AY,λY bY b0 a=>by rw[oq a i];decide⟩
  have bz:Ext g iX:=av.ext fk λc a f=>by have:=(bw c f).1;omega
  have hY:=av.size;have bu:=aD.trans bz;have fr:=bz.obj q;clear cm cp cq bC dj dk av;refine aa ?_;refine J_ (Oy r _ _ m _ _ d iX (fj.ext bz) J (L.ext bu) a dq AY ca (bB.ext Flat.ext bu) AY fi) ?_;rintro _ oY ⟨⟨hZ,h1,cx,fu,rfl,dr,du⟩,G⟩;have aZ:=G.obj bD;have bA:=aT.ext G dp;have ct:=cr.ext G;have fw:=bz.trans G;have h2:=G.size;clear bD dp cr fr dq;refine aa ?_;refine _Z (enc:=cR.enc) bA (aT.lF (enc:=cR.enc) (λ_=>rfl) dr) (λ_=>rfl) cR.one (by rw[au,di];omega) (by rw[au,di];unfold maxLen;omega) AY λh3 j2 cu dv=>?_;have j:=cu.form;obtain⟨fx,fA,rfl,_⟩:=j;have aw:Mod (λc=>(Value.slice u (o.runM m (b++hq d p) (dn m)).1.length v).ownBlock=some c) oY j2:=Mod.grown dv λc a=>a;have aU:∀c,(Value.slice u (o.runM m (b++hq d p) (dn m)).1.length v).ownBlock=some c->g.heap.size<=c/\∃aG,oY.heap[c]? = some (.cells aG T.g):=λc a=>⟨(aT.lt bA c a).1,aT.b0 bA c a⟩;have cv:∀c,c<oY.heap.size->(Value.slice u (o.runM m (b++hq d p) (dn m)).1.length v).ownBlock=some c->tH g.heap.size oY c:=λc _ f=>by
   obtain⟨aF,bx,i⟩:=aU c f;exact⟨aF,λY bY b0 a=>by rw[oq a i];decide⟩
  have fC:j2.heap[l]? = _:=aw.obj (λf=>by obtain⟨_,bx,i⟩:=aU l f;exact absurd (oq aZ i) Ae) aZ;have dw:=ct.move aw cv λc a f=>by
   obtain⟨_,_,aG,k⟩:=ct.b0 c a;obtain⟨_,bx,i⟩:=aU c f;exact absurd (oq k i) Ae
  have fD:ji g.heap.size j2 _ _:=du.move aw cv;have fE:Ext g j2:=aw.ext fw λc a f=>by have:=(aU c f).1;omega
  have h4:=aw.size;clear bA dr ct du dv aw cv aU aZ;refine aa ?_;intro j3 aX fF;have dx:=fC;have dy:∀c,c<j2.heap.size->c=l->tH g.heap.size j2 c:=λc _ f=>⟨AY,λY bY b0 a=>by subst f;rw[oq a dx];decide⟩;have fK:=dw.move (A:=λc=>c=l) (aX.mod rfl) dy λc a f=>by have:=(dw.b0 c a).1;omega
  have fM:ji g.heap.size j3 _ _:=fD.move (A:=λc=>c=l) (aX.mod rfl) dy;have fN:aT cR.enc T.g 2 g.heap.size j3 _ _:=aT.mod cu (aX.mod (A:=λc=>c=l) rfl) λc a f=>by
   obtain⟨aG,k⟩:=aT.b0 cu c a;subst f;exact absurd (oq k dx) Ae
  have fP:Ext g j3:=aX.ext fE aJ;have h5:=aX.size;refine aa ?_;exact⟨((fx,_,fA),(fl,_,fo),(cx,_,fu),p+1),aW,⟨fF,by rw[atN];exact fN,by rw[adf];exact fK,by rw[axq];exact fM,eX,fP,AY⟩,by dsimp only;omega⟩
end Go.Proofs.R
namespace o
open Go
def re(m:Model):C_ cR->C_ Int->H_ (C_ (C_ Int))
 | [],_=>some []
 | b :: c,d=>match lG m d b with
  | none=>none
  | some a=>(re m c a).map (a :: ·)
theorem Gh(m:Model):∀(b:C_ cR) (c:C_ Int) (d:C_ (C_ Int)),re m b c=some d->d.length=b.length
 | [],c,d,a=>by injection a with a;subst a;rfl
 | f :: b,c,d,a=>by
  unfold re at a;cases e:lG m c f with
  | none=>rw[e] at a;cases a
  | some g =>
   rw[e] at a;simp only at a;obtain⟨h,i,rfl⟩:=Option.map_eq_some_iff.1 a;simp[Gh m b g h i]
end o
namespace Go.Proofs.R
open Go Go.RowKit ba o
attribute [local irreducible] ep bF o.insts o.refs ek
def ag8(K:C_ B_)(v:B_)(m:o.Model)(s:C_ Int)(x:cR)(w:A_)(h:oj w K m)(ag:m.cB)(ah:(o.check m).bK=0)(L:cl w v s)(ai:o.Fits m s) :
  EL F.NY #[.agg K.toArray,v,.agg x.enc.toArray] w λr n=>((lG m s x=none/\r = .tuple #[.slice none 0 0,.bool false])\/(∃p M N,lG m s x=some p/\r = .tuple #[.slice M p.length N,.bool true]/\ec w (λj=>ft 0 j (.slice M p.length N) p) n))/\Ext w n:=by
 have aj:=h;obtain⟨aE,aF,aG,aH,aI,aJ,aK,aL,aP,aQ,aR,aS,aU,ak,aX,t,aY,u,aZ,a0,a1,a3,a5,a7,rfl,_⟩:=h.form;obtain⟨a8,a9,rfl,_⟩:=L.form;unfold lG cR.enc;refine bn E.NY ?_;refine aa ?_;intro bb bf bk al y;refine aa ?_;intro an bl bo O ao;have g:=al.trans O;replace y:=O.obj y;refine aa ?_;refine J_ (ag6 _ _ m s an (aj.ext g) ag ah (L.ext Flat.ext g) ai) ?_;rintro r aq ⟨P,Q⟩;have d:=P.form;obtain⟨bp,bq,rfl,ar⟩:=d;unfold maxLen at ar;have au:=Q.obj ao;have av:=g.trans Q;have bt:=g.size;clear y;obtain⟨c,z⟩:∃c:jE->Bool,c=λS=>decide (S.cmd=x.cmd/\S.eH=x.eH):=⟨_,rfl⟩;rw[<-z];refine aa ?_;refine K_ 9 (ek m s).length [5,8] (λ_:Unit=>[]) () (λa _ n=>((ek m s).drop a).find? c=(ek m s).find? c/\Ext aq n) aW aW ⟨rfl,Ext.refl _⟩ ?_;rintro a - bu A bw ⟨e,k⟩;have bx:=k.obj au;have B:=av.trans k;have C:=P.ext k;have U:a6 3 Yf A _ _:=C.im;refine aa ?_;apply I_<;>intro ak;rotate_left
 .rw[VQ AY] at e;rw[<-e];refine aa ?_;exact⟨.inl ⟨rfl,aV⟩,B⟩
 have b:a<(ek m s).length:=AY
 rw[AG0 b,List.find?_cons] at e;have d:=U.addr;obtain⟨aw,rfl⟩:=d;have d:=C.ex;obtain⟨ax,bz,V,W⟩:=d;have G:=W a AY b;have d:=G.here;obtain⟨bA,H,X⟩:=d;have d:=X.form;obtain⟨Y,Z,rfl,_⟩:=d;have q:fy A (aw.add (a*3)) (ax[a]' AY).1:=a6.at (aT.im iZ V) a AY;rw[H] at q;have I:ec w (λj=>ft 0 j (.slice Y ((ek m s)[a]'b).to.length Z) ((ek m s)[a]'b).to) A:=λj ay=>by
  obtain⟨bB,f,g⟩:=(G.mono (A:=λa=>a<w.heap.size) λbC _ bD=>.inr AY) j ay;rw[H] at f;injection f with _ f
  injection f with _ f
  injection f with f
  subst f;exact g
 have ab:=q 0 _ rfl;have az:=q 1 _ rfl;have ae:=q 2 _ rfl;have l:c ((ek m s)[a]'b)=true↔((ek m s)[a]'b).cmd=x.cmd/\((ek m s)[a]'b).eH=x.eH:=by rw[z,decide_eq_true_eq]
 have af:c ((ek m s)[a]'b)=true\/c ((ek m s)[a]'b)=false:=by cases c ((ek m s)[a]'b)<;>simp
 replace l:=i_ l trivial;have I:=i_ I trivial;rw[add_zero] at ab;clear W G V U C H X z;refine aa ?_;apply I_<;>intro t;rotate_left
 .have J:c ((ek m s)[a]'b)=false:=af.resolve_left λh=>t (l.1.1 h).1;rw[J] at e;refine aa ?_;intro aB i;refine aa ?_;exact⟨b,aV,(),trivial,e,k.trans i⟩
 refine aa ?_;intro aB i;apply I_<;>intro u;rotate_left
 .have J:c ((ek m s)[a]'b)=false:=af.resolve_left λh=>u (l.1.1 h).2;rw[J] at e;refine aa ?_;exact⟨b,aV,(),trivial,e,k.trans i⟩
 have aC:c ((ek m s)[a]'b)=true:=l.1.2 ⟨t,u⟩;rw[aC] at e;rw[<-e];have bE:=i.cell ae;have aD:=ec.ext I.1 i B.size;clear ab az ae;refine aa ?_;exact⟨.inr ⟨_,Y,Z,rfl,aV,aD⟩,B.trans i⟩
def ag4(cs:C_ B_)(v N:B_)(m:o.Model)(s:C_ Int)(l:C_ cR)(Q:C_ (C_ Int))(w:A_)(h:dU w cs m)(O:m.cB)(d:(o.check m).bK=0)(r:cl w v s)(P:o.Fits m s)(t:a6 2 (Flat cR.enc) w N l)(bk:l.length<=20000)(S:re m l s=some Q) :
  EL F.NS #[.agg cs.toArray,v,N] w λao U=>(∃V,ao = .tuple #[V,.I 0]/\gS U V Q)/\Ext w U:=by
 have aq:=h;obtain⟨bl,bo,ar,bg,bp,bj,bq,bt,bu,bw,rfl,_⟩:=h.form;obtain⟨au,av,rfl,_⟩:=r.form;obtain⟨bx,bz,rfl,bA⟩:=t.form;have bB:=Gh m l s Q S;refine bn E.NS ?_;refine aa ?_;intro aw bC bD W ax;refine aa ?_;refine J_ (Vl _ m aw (aq.ext W) O) ?_;rintro _ bE ⟨c,ay⟩;have az:=W.trans ay;rcases c with ⟨aB,_⟩ | ⟨_,bG,rfl,u⟩
 .exact absurd d aB
 have x:=u;obtain⟨bH,bI,bJ,bK,bL,bM,bN,bO,bQ,bU,bV,bW,bX,aC,bY,b0,b1,b3,b4,b5,b6,b8,b9,ca,rfl,_⟩:=u.form;refine aa ?_;intro aD cb cc y X;have Y:=az.trans y;have aE:=gA d;refine aa ?_;refine J_ (Vm _ _ m s aD (x.ext y) aE (r.ext Flat.ext Y)) ?_;rintro _ Z ⟨⟨e,rfl,aF⟩,z⟩;have aG:=aF.2 P;subst aG;have ab:=Y.trans z;have aH:=z.obj X;have aI:=x.ext (y.trans z);clear u x X ax;refine aa ?_;refine K_ 11 l.length [2,8] (λa:ez×ez=>[(1,.slice a.1.1 a.1.2.1 a.1.2.2),(10,.slice a.2.1 a.2.2.1 a.2.2.2)]) ((au,s.length,av),(none,0,0)) (λb a A=>(∃k,o.Fits m k/\re m (l.drop b) k=some (Q.drop b)/\cl A (.slice a.1.1 a.1.2.1 a.1.2.2) k)/\ey q3 T.b 1 Z.heap.size A (.slice a.2.1 a.2.2.1 a.2.2.2) (Q.take b)/\Ext Z A) aW aW ⟨⟨s,P,S,r.ext Flat.ext ab⟩,ey.nil _ _ _ _ _,Ext.refl _⟩ ?_;rintro b ⟨⟨ar,ch,bg⟩,⟨cj,cm,cp⟩⟩ cq aJ cr ⟨⟨k,ae,f,B⟩,n,p⟩;dsimp only at f B n;have aK:=p.obj aH;have af:=ab.trans p;have C:=t.ext Flat.ext af;have c:=B.form;obtain⟨aL,aP,ag,_⟩:=c;injection ag with aQ aR aS
 subst aQ aR aS;refine aa ?_;apply I_<;>intro aC;rotate_left
 .rw[IA AY] at n;have c:=n.form;obtain⟨aL,aP,ag,_⟩:=c;refine aa ?_;exact⟨⟨_,aV,n.im⟩,af⟩
 have j:b<l.length:=AY
 have ah:b<Q.length:=AY
 rw[AG0 j,AG0 ah,re] at f;have c:=C.addr;obtain⟨aU,rfl⟩:=c;have ai:fy aJ (aU.add (b*2)) [.I (l[b]'j).cmd,.I (l[b]'j).eH]:=a6.at C b j;clear C t;refine aa ?_;intro aX g;have ct:=g.obj aK;have cu:=ai.ext g;clear ai;refine aa ?_;refine J_ (ag8 _ _ m k (l[b]'j) aX (aI.ext (p.trans g)) O d (B.ext Flat.ext g) ae) ?_;rintro _ cv ⟨c,G⟩;have H:=n.ext g;have q:=H.ext G;have h7:=(p.trans g).trans G;have cw:=p.size;have cx:=g.size;have cy:=G.size;rcases c with ⟨aY,_⟩ | ⟨e,I,J,aj,rfl,K⟩
 .rw[aY] at f;cases f
 rw[aj] at f;simp only at f;obtain⟨cz,aZ,L⟩:=Option.map_eq_some_iff.1 f;injection L with L a0
 subst a0;have a1:=VZ d ae aj;refine aa ?_;intro a3 cB cE i a5;have cF:=i.size;have cG:cl a3 _ _:=ha (ec.ext K i AY).here;refine _A (x:=e) (cs:=[.slice I e.length J]) (q.ext i) (g5 a5) (((ec.own K H AY).imp λw h=>⟨_,rfl,ha h⟩).ext i λM a7 d=>by have:=q.under AY M d;omega) rfl (by simp[Value.oneCell']) (by rw[IP];omega) (by rw[IP];unfold maxLen;omega) AY λcI ak al an=>?_;have iW:=(q.ext i).h9 (h7.trans i) an (EM _);have c:=al.form;obtain⟨a8,a9,rfl,_⟩:=c;have bb:=(ec.own K H AY).ext i λM a7 d=>by have:=q.under AY M d;omega
 have bf:cl ak (.slice I e.length J) e:=ha (bb ak (Mod.grown an λb d=>.inl d));refine aa ?_;refine⟨j,aV,((I,e.length,J),(a8,_,a9)),aW,⟨e,a1,aZ,bf⟩,?_,iW⟩;rw[Oi ah,<-L];exact al
end Go.Proofs.R
namespace o
open Go
theorem RE{m:Model}(h:(check m).bK=0):∀(c:C_ cR) (a d:C_ Int),Fits m a->gE m c (fb m a)=some d->∃e,re m (runM m c a).1 a=some e/\(e.getLast?).getD a=(runM m c a).2
 | [],a,d,_,_=>⟨[],rfl,rfl⟩
 | j :: c,a,d,k,b=>by
  rw[gE] at b;cases f:lG m (fb m a) j with
  | none =>
   unfold wu at b;rw[f] at b;cases b
  | some t =>
   obtain⟨g,l,i,n,p,_⟩:=Qz h k f;have q:gE m c (fb m g)=some d:=by
    unfold wu at b;rw[f] at b;rw[p];exact b
   obtain⟨e,r,s⟩:=RE h c g d n q;refine⟨g :: e,?_,?_⟩
   .simp only[runM,re,l,i,r,Option.map_some]
   .simp only[runM,i,List.getLast?_cons,Option.getD_some];exact s
theorem Vy(l:C_ cR)(i:Nat):∀a,hq l (i+a)=hq l i++hq l a
 | 0=>by simp[hq]
 | a+1=>by rw[<-AH4,hq,Vy l i a,hq,Vh]
theorem atM{m:Model}{d c a b:C_ cR}(h:CP m d c a b 0):(check m).bK=0/\c≠[]/\b≠[]/\∃j R,re m a (dn m)=some j/\re m b ((j.getLast?).getD (dn m))=some R/\R.getLast? = some ((j.getLast?).getD (dn m)):=by
 have f:(check m).bK=0:=Classical.byContradiction λq=>by have:=(h.arg q).2.2;omega
 have k:c≠[]:=λq=>by have:=(h.none_ f q).2.2;omega
 have v:=Gd (gA f);cases l:gE m d (fb m (dn m)) with
 | none=>have:=(h.air f k l).2.2;omega
 | some g =>
  by_cases n:gE m c g=some g;rotate_left
  .have:=(h.afL f k g l n).2.2
   omega
  obtain⟨_,e,w,x,y,z⟩:=h.VH f k g l n;obtain⟨I,A⟩:=Iu f d _ _ v l;have J:gE m c (fb m (runM m d (dn m)).2)=some (fb m (runM m d (dn m)).2):=by rw[A];exact n
  obtain⟨K,L⟩:=VA f I J e;have Q:=x.lt;obtain⟨i,rfl⟩:∃i,w=e+i:=⟨w - e,AY⟩;have B:(runM m (d++hq c e) (dn m)).2=jy m c (runM m d (dn m)).2 e:=by rw[u5];rfl
  have C:b=(runM m (hq c i) (jy m c (runM m d (dn m)).2 e)).1:=by
   rw[Vy,<-Vh,u5,<-y,B] at z;exact List.append_cancel_left z
  have M:(runM m (hq c i) (jy m c (runM m d (dn m)).2 e)).2=jy m c (runM m d (dn m)).2 e:=by
   have p:=x.same;unfold jy at p ⊢;rw[Vy,u5] at p;exact p
  have N:gE m (d++hq c e) (fb m (dn m))=some g:=by
   rw[JB,l];exact JC n e
  have O:gE m (hq c i) (fb m (jy m c (runM m d (dn m)).2 e))=some g:=by
   rw[L,A];exact JC n i
  obtain⟨j,G,r⟩:=RE f _ _ _ v N;obtain⟨R,s,t⟩:=RE f _ _ _ K O;rw[<-y] at G;rw[B] at r;rw[<-C] at s;rw[M] at t;have H:0<b.length:=by
   rw[C,Ch,OL];exact Nat.mul_pos AY (List.length_pos_iff.2 k)
  have P:=Gh m b _ R s;refine⟨f,k,λp=>by rw[p] at H;exact absurd H Ah,j,R,G,by rw[r];exact s,?_⟩;rw[r];cases u:R.getLast? with
  | none=>rw[List.getLast?_eq_none_iff] at u;subst u;simp at P;omega
  | some S=>rw[u] at t;exact congrArg some t
end o
namespace Go.Proofs.R
open Go Go.RowKit ba o
attribute [local irreducible] ep bF o.insts o.refs ek dn
def axE(cs:C_ B_)(z A:B_)(m:o.Model)(a b:C_ cR)(Q R:C_ (C_ Int))(d:C_ Int)(w:A_)(h:dU w cs m)(l:m.cB)(i:(o.check m).bK=0)(B:a6 2 (Flat cR.enc) w z a)(C:a6 2 (Flat cR.enc) w A b)(ab:a.length<=20000)(ae:b.length<=20000)
  (af:b≠[])(G:re m a (dn m)=some Q)(H:(Q.getLast?).getD (dn m)=d)(I:re m b d=some R)(J:R.getLast? = some d)(ag:o.Fits m d) :
  EL F.Ei #[.agg cs.toArray,.agg #[z,A]] w λah ai=>ah = .bool true/\Ext w ai:=by
 have n:=h;obtain⟨aR,aS,aU,bg,aX,bj,aY,aZ,a0,a1,rfl,_⟩:=h.form;obtain⟨a3,a5,rfl,a7⟩:=B.form;obtain⟨a8,a9,rfl,bb⟩:=C.form;have aj:=gA i;have ak:=Gd aj;have bf:=Gh m a _ Q G;have bk:=Gh m b _ R I;have bl:0<b.length:=List.length_pos_iff.2 af;refine bn E.Ei ?_;refine aa ?_;intro bo bp bq al K;refine aa ?_;intro an bt bu L M;have N:=al.trans L;have O:=L.obj K;refine aa ?_;refine J_ (axe _ m an (n.ext N) l) ?_;rintro bw ao ⟨⟨g,_⟩,p⟩;replace g:=g i;have c:=g.form;obtain⟨aq,ar,rfl,_⟩:=c;have q:=N.trans p;have P:=p.obj O;have S:=p.obj M;refine aa ?_;refine J_ (ag4 _ _ _ m _ a Q ao (n.ext q) l i g ak (B.ext Flat.ext q) ab G) ?_;rintro _ au ⟨⟨bx,rfl,r⟩,j⟩;have c:=r.form;obtain⟨bz,bA,rfl,bB⟩:=c;have av:=q.trans j;have U:=j.obj P;have V:=j.obj S;clear K M O P S;have bC:(b.length:Int)≠0:=AY
 refine eA ?_;simp -dsimp only[cD];refine eA ?_;refine R_ [2,3] (λe:ez=>[(5,.slice e.1 e.2.1 e.2.2)]) (λe W=>cl W (.slice e.1 e.2.1 e.2.2) d/\Ext au W) ?_ ?_
 .refine aa ?_;apply I_<;>intro bD
  .have s:0<Q.length:=AY
   have aw:=a6.addr r s;obtain⟨bE,rfl⟩:=aw;have t:=a6.at r (Q.length - 1) AY;obtain⟨ax,u,f⟩:=t;have ay:Q[Q.length - 1]' AY=d:=by
    rw[<-H,List.getLast?_eq_getElem?,List.getElem?_eq_getElem AY];rfl
   rw[ay] at f;have c:=f.form;obtain⟨X,Y,rfl,_⟩:=c;refine aa ?_;refine M_ (Q.length - 1) AY AY ?_;refine aa ?_;refine L_ u ?_;refine aa ?_;exact⟨(X,d.length,Y),aW,f,Ext.refl _⟩
  .have s:Q=[]:=List.length_eq_zero_iff.1 AY;have az:dn m=d:=by rw[<-H,s];rfl
   refine aa ?_;exact⟨(aq,(dn m).length,ar),aW,az ▸ g.ext Flat.ext j,Ext.refl _⟩
 rintro⟨bG,bH,bI⟩ bJ aB ⟨k,v⟩;dsimp only at k;have c:=k.form;obtain⟨bK,bL,aC,_⟩:=c;injection aC with aD aE aF
 subst aD aE aF;have x:=av.trans v;have bM:=v.obj U;have bN:=v.obj V;clear U V;refine aa ?_;refine J_ (ag4 _ _ _ m d b R aB (n.ext x) l i k ag (C.ext Flat.ext x) ae I) ?_;rintro _ aG ⟨⟨bO,rfl,y⟩,Z⟩;have c:=y.form;obtain⟨bQ,bU,rfl,bV⟩:=c;have aH:=x.trans Z;have aI:0<R.length:=AY
 have aJ:=a6.addr y aI;obtain⟨bW,rfl⟩:=aJ;have t:=a6.at y (R.length - 1) AY;obtain⟨ax,u,f⟩:=t;refine aa ?_;refine M_ (R.length - 1) AY AY ?_;refine aa ?_;have aK:R[R.length - 1]' AY=d:=by
  rw[List.getLast?_eq_getElem?,List.getElem?_eq_getElem AY] at J;exact Option.some.inj J
 rw[aK] at f;have c:=f.form;obtain⟨X,Y,rfl,_⟩:=c;refine L_ u ?_;refine aa ?_;refine J_ (BX _ _ _ _ aG f (k.ext Flat.ext Z)) ?_;rintro _ bX ⟨⟨bY,rfl,aL⟩,aP⟩;have aQ:=aL.2 rfl;subst aQ;refine aa ?_;exact⟨aV,aH.trans aP⟩
end Go.Proofs.R
namespace o
open Go
def yl:ew:=⟨⟨#[103,111]⟩,0,1,[],[],false⟩
def yk:ew:=⟨⟨#[98,97,99,107]⟩,1,0,[],[],false⟩
def ahX:Scalar:=⟨⟨#[83]⟩,2⟩
def Ad:ed:=⟨⟨#[97]⟩,1,2,[],[yl,yk]⟩
def gL:Model:=⟨[ahX],[],[],[Ad],[]⟩
def xh:(check gL).bK=0:=by decide +kernel
def Dp:gL.cB:=by
 refine⟨by simp[gL,eO],by simp[gL,eO],by simp[gL,eO],by simp[gL,eO],by simp[gL,eO],?_,?_,?_,?_,by simp[gL]⟩
 .intro c a;simp[gL] at a;subst a;exact⟨BO (by simp[ahX])⟩
 .simp[gL]
 .simp[gL]
 .intro c a;simp[gL] at a;subst a;refine⟨BO (by simp[Ad]),BO (by simp[Ad]),by simp[Ad,eO],by simp[Ad,eO],by simp[Ad],?_⟩;intro d b;simp[Ad] at b;rcases b with rfl | rfl
  .exact⟨BO (by simp[yl]),BO (by simp[yl]),by simp[yl,eO],by simp[yl,eO],by simp[yl]⟩
  .exact⟨BO (by simp[yk]),BO (by simp[yk]),by simp[yk,eO],by simp[yk,eO],by simp[yk]⟩
def anp:(bF gL).map (λa=>(a.aQ,a.ab))=[(0,1),(0,1)]:=by decide +kernel
theorem Ro{x y:Int}(f:0<=x/\x<=1)(g:0<=y/\y<=1):Fits gL [x,y]:=by
 refine⟨by have:cH gL=2:=(by decide +kernel);rw[this];rfl,λc b=>absurd b (Od _),λc b d=>?_⟩;have a:=congrArg (λe=>e[c]?) anp;simp only[List.getElem?_map,List.getElem?_eq_getElem d,Option.map_some] at a
 match c,b,d,a with
 | 0,_,_,a=>simp at a;simp[a.1,a.2];omega
 | 1,_,_,a=>simp at a;simp[a.1,a.2];omega
 | h+2,b,_,_=>simp at b;omega
def anm:fb gL [1,0]=[0,1]:=by decide +kernel
def ann:fb gL [0,1]=[0,1]:=by decide +kernel
def ano:(ep gL.scalars).length=2:=by decide +kernel
def anl:hj gL [[1,0]] [1,0]=[0,1]:=by decide +kernel
def anr:Aa gL (gK [[1,0]]) 1=3:=by decide +kernel
def ans:(refs gL).length=4:=by decide +kernel
def abv:fU gL.scalars [[1,0]]:=(uT (jX xh)).1 (by decide +kernel)
def Rn:gE gL [⟨0,0⟩,⟨3,0⟩] (fb gL (dn gL))=some (fb gL (dn gL)):=by decide +kernel
def anq{a b:C_ cR}{e:Int}(h:CP gL [] [⟨0,0⟩,⟨3,0⟩] a b e):e=0:=(h.VH xh Ah _ rfl Rn).1
theorem abL{m:Model}(g:(check m).bK=0):∀(d:C_ cR) (b:C_ Int) (c:C_ (C_ Int)),Fits m b->re m d b=some c->Fits m ((c.getLast?).getD b)
 | [],b,c,e,a=>by
  injection a with a
  subst a;exact e
 | h :: d,b,c,e,a=>by
  rw[re] at a;cases f:lG m b h with
  | none=>rw[f] at a;cases a
  | some i =>
   rw[f] at a;simp only at a;obtain⟨j,k,l⟩:=Option.map_eq_some_iff.1 a;subst l
   have:=abL g d i j (VZ g e f) k
   rw[List.getLast?_cons,Option.getD_some];exact this
def atL{a b:C_ cR}{e:Int}(h:CP gL [] [⟨0,0⟩,⟨3,0⟩] a b e):a.length+b.length<=1152:=by
 obtain⟨_,g,i,d,_,f⟩:=h.VH xh Ah _ rfl Rn;have j:=ade xh (Gd (gA xh)) Rn d.nodup;have c:=congrArg List.length f;rw[JM,Ch,JM,OL] at c;simp only[List.length_cons,List.length_nil] at c;omega
end o
namespace Go.Proofs.R
open Go Go.RowKit ba o
def aiQ(w:A_):EL F.uS #[] w λm h=>(∃i,m = .agg i.toArray/\dU h i gL)/\Ext w h:=by
 refine bn E.uS ?_;refine aa ?_;intro G H n p j;refine aa ?_;intro I q J e r;refine aa ?_;intro K k L c s;refine aa ?_;intro M t N a u;have O:=cf j;have P:=((e.trans c).trans a).obj j;refine aa ?_;intro f d Q;have S:=e.size;have U:=c.size;have V:=a.size;have v:=d.obj ((c.trans a).obj r) AY;have x:=d.obj (a.obj s) AY;have y:=d.obj u AY;have z:hI f (.slice (some ⟨q,0,none⟩) 1 1) gL.scalars:=hI.b0 v rfl Ae (by intro W l;simp only[gL,List.mem_singleton] at l;subst l;decide);have A:sM f (.slice (some ⟨k,0,none⟩) 2 2) [yl,yk]:=a6.Qy [⟨yl.enc (.slice none 0 0) (.slice none 0 0),rfl,by simp[ew.enc,Value.oneCell']⟩,⟨yk.enc (.slice none 0 0) (.slice none 0 0),rfl,by simp[ew.enc,Value.oneCell']⟩] x rfl rfl rfl Ae (by
  intro g b B
  match g,b with
  | 0,_=>exact⟨(show kl yl.name by decide),_,_,rfl,a6.nil,a6.nil⟩
  | 1,_=>exact⟨(show kl yk.name by decide),_,_,rfl,a6.nil,a6.nil⟩
  | X+2,b=>simp at b;omega)
 have C:sP f (.slice (some ⟨t,0,none⟩) 1 1) gL.procs:=a6.Qy [⟨Ad.enc (.slice none 0 0) (.slice (some ⟨k,0,none⟩) 2 2),rfl,by simp[ed.enc,Value.oneCell']⟩] y rfl rfl rfl Ae (by
  intro g b B
  have:g=0:=by simp at b;omega
  subst this;exact⟨(show kl ⟨#[97]⟩ by decide),_,_,rfl,a6.nil,A⟩)
 refine aa ?_;exact⟨⟨_,rfl,⟨_,_,_,_,_,rfl,z,a6.nil,a6.nil,C,a6.nil⟩⟩,d.ext (((p.trans e).trans c).trans a) n⟩
end Go.Proofs.R
namespace ba
open Go Go.RowKit
def mS(s:Step×C_ Nat):Nat:=match s.1.dst with | some a=>a | none=>0
def agn(l:C_ (Step×C_ Nat)):Bool:=l.all (λa=>a.1.dst.isSome)&&decide (l.map mS).Nodup
section
variable(P:Program)(l:List (Step×List Nat))(S:Fr)(w1:World)(R:Nat->Value->World->Prop)
def yE(a:Fr)(w':A_):C_ Nat->Prop
 | []=>True
 | b :: c=>(match l[b]? with | some d=>R b (a (mS d)) w' | none=>True)/\yE a w' c
def vj:C_ (Step×C_ Nat)->Nat->Prop
 | [],_=>True
 | b :: g,e=>(∀c a,Ext w1 a->(∀d,(l.map mS).contains d=false->c d=S d)->yE l R c a b.2->mm P b.1 c a λh f=>Ext a f/\R e (h (mS b)) f)/\vj g (e+1)
theorem vj.get:∀(d:C_ (Step×C_ Nat)) (b:Nat),vj P l S w1 R d b->∀(c:Nat) (a:Step×C_ Nat),d[c]? = some a->∀h f,Ext w1 f->(∀i,(l.map mS).contains i=false->h i=S i)->yE l R h f a.2->mm P a.1 h f λk j=>Ext f j/\R (b+c) (k (mS a)) j
 | [],_,_,c,a,e=>by simp at e
 | m :: d,b,e,0,a,g=>by
  simp only[List.getElem?_cons_zero,Option.some.injEq] at g;subst g;exact e.1
 | m :: d,b,e,c+1,a,g=>by
  have:=vj.get d (b+1) e.2 c a (by simpa using g)
  rw[show b+1+c=b+(c+1) from AY] at this;exact this
def ve(a:Fr)(w':A_):C_ (Step×C_ Nat)->Nat->Prop
 | [],_=>True
 | c :: d,b=>R b (a (mS c)) w'/\ve a w' d (b+1)
end
theorem ve.of{R:Nat->B_->A_->Prop}{e:Fr}{w':A_}:∀(c:C_ (Step×C_ Nat)) (a:Nat),(∀b d,c[b]? = some d->R (a+b) (e (mS d)) w')->ve R e w' c a
 | [],_,_=>trivial
 | g :: c,a,f=>⟨f 0 g rfl,ve.of c (a+1) λb d h=>by
  have:=f (b+1) d (by simpa using h)
  rw[show a+1+b=a+(b+1) from AY];exact this⟩
theorem yE.of{l:C_ (Step×C_ Nat)}{R:Nat->B_->A_->Prop}{c:Fr}{w':A_}:∀(d:C_ Nat),(∀a∈d,∀b,l[a]? = some b->R a (c (mS b)) w')->yE l R c w' d
 | [],_=>trivial
 | a :: f,e=>⟨by
   cases g:l[a]? with
   | none=>trivial
   | some b=>exact e a (AG3 ..) b g,yE.of f λh i=>e h (AG4 _ i)⟩
def AE9{P:D_}{w:A_}{S:Fr}{Q:fI->Fr->A_->Prop}{l:C_ (Step×C_ Nat)}{A}(R:Nat->B_->A_->Prop)(t:agn l=true)(B:∀c p w b,Ext w b->R c p w->R c p b)
  (C:∀i,Ext w i->vj P l S i R l 0/\∀d b,Ext i b->(∀a,(l.map mS).contains a=false->d a=S a)->ve R d b l 0->Q .normal d b):e5 P (.ye l) Q S w A:=by
 unfold e5;show dN P (.ye l) _ S w;intro i G;obtain⟨H,I⟩:=C i G;simp only[agn,Bool.and_eq_true,List.all_eq_true,decide_eq_true_eq] at t;obtain⟨J,q⟩:=t;refine⟨λD d b=>Ext i b/\(∀a,(l.map mS).contains a=false->d a=S a)/\∀c∈D,∀f,l[c]? = some f->R c (d (mS f)) b,⟨Ext.refl _,λ_ _=>rfl,λc r=>by cases r⟩,λD d b K k=>?_,λD d b c f k g r L=>?_⟩
 .refine I d b k.1 k.2.1 (ve.of l 0 λu f g=>?_);rw[ZQ];exact k.2.2 u (K u (List.getElem?_eq_some_iff.1 g).1) f g
 .obtain⟨i1,i2,i3⟩:=k;have v:=List.mem_of_getElem? g;obtain⟨n,x⟩:=Option.isSome_iff_exists.1 (J f v);have y:mS f=n:=by unfold mS;rw[x]
  have M:(l.map mS).contains n=true:=by simpa using⟨_,_,v,y⟩
  have:=vj.get P l S i R l 0 H c f g d b i1 i2 (yE.of _ λh j a e=>i3 h (L h j) a e)
  rw[ZQ] at this;refine Gi (λp V m=>?_) this;rw[x] at m ⊢;simp only[ba.put] at m ⊢;refine⟨i1.trans m.1,λa e=>?_,λh j a e=>?_⟩
  .have s:a≠n:=by
    rintro rfl;rw[M] at e;cases e
   simp only[cC,if_neg s];exact i2 a e
  .rcases List.mem_cons.1 j with rfl | j
   .obtain rfl:=Option.some.inj (g.symm.trans e);exact m.2
   .have s:mS a≠n:=by
     intro N;refine r ?_;have O:=(List.getElem?_eq_some_iff.1 e).1;have U:=(List.getElem?_eq_some_iff.1 g).1;have z:(l.map mS)[h]'(by simpa using O)=(l.map mS)[c]'(by simpa using U):=by
      rw[AK8,AK8,(List.getElem?_eq_some_iff.1 e).2,(List.getElem?_eq_some_iff.1 g).2,N,y]
     rw[List.Nodup,AK0] at q;rcases AK6 h c with aL | aL | aL
     .exact absurd z (q h c _ _ aL)
     .rw[<-aL];exact j
     .exact absurd z.symm (q c h _ _ aL)
    simp only[cC,if_neg s];exact B _ _ _ _ m.1 (i3 h j a e)
end ba
namespace ba
open Go Go.RowKit
def vj.cons{P:D_}{l:C_ (Step×C_ Nat)}{S:Fr}{w1:A_}{R:Nat->B_->A_->Prop}{s:Step×C_ Nat}{r:C_ (Step×C_ Nat)}{i:Nat}(h:∀b a,Ext w1 a->(∀c,(l.map mS).contains c=false->b c=S c)->yE l R b a s.2->mm P s.1 b a λe d=>Ext a d/\R i (e (mS s)) d)(f:vj P l S w1 R r (i+1)):vj P l S w1 R (s :: r) i:=⟨h,f⟩
theorem ve.at{R:Nat->B_->A_->Prop}{g:Fr}{w':A_}:∀(b:C_ (Step×C_ Nat)) (c d:Nat) (e:Step×C_ Nat),ve R g w' b c->b[d]? = some e->R (c+d) (g (mS e)) w'
 | [],_,_,_,_,a=>by cases a
 | h :: b,c,0,e,f,a=>by
  rw[List.getElem?_cons_zero] at a;cases a;exact f.1
 | h :: b,c,d+1,e,f,a=>by
  rw[List.getElem?_cons_succ] at a
  have:=ve.at b (c+1) d e f.2 a
  rw[AH4,Nat.add_comm 1 d] at this;exact this
def nQ{P:D_}{d:Nat}{i:ll}{S:Fr}{w:A_}{R:B_->A_->Prop}(h:lk P i S w λa b=>Ext w b/\R a b):mm P ⟨some d,none,i⟩ S w λe c=>Ext w c/\R (e d) c:=by
 show lk P i S w λa b=>Ext w b/\R (put S (some d) a d) b;have f:∀a,put S (some d) a d=a:=λa=>by rw[jf,bR,if_pos rfl]
 simp only[f];exact h
def ia{P:D_}{d j:Nat}{i:ll}{S:Fr}{w:A_}{R:B_->A_->Prop}(b:S j = .bool true)(h:lk P i S w λc a=>Ext w a/\R c a):mm P ⟨some d,some (j,true),i⟩ S w λf e=>Ext w e/\R (f d) e:=by
 have:=nQ (d:=d) h
 show mJ (S j) true (lk P i (cC S j (.bool true)) w λc a=>_) _ _;rw[kn S j _ b,b,ab0];exact this
end ba
namespace Go.Proofs.R
open Go Go.RowKit ba o
def kp:Nat->B_->A_->Prop
 | 0,a,b => ∃c:C_ B_,a = .agg c.toArray/\dU b c gL
 | 1,a,_=>a = .bool true
 | 2,a,b=>cl b a [1,0]
 | 3,a,b=>cl b a [0,1]
 | 4,a,b=>gS b a [[1,0]]
 | 5,a,_=>a = .int .i64 2
 | 6,a,_=>a = .int .i64 3
 | 7,a,_=>a = .int .i64 0
 | 8,a,_ => ∃h i,a = .slice h 2 i
 | _+9,a,b => ∃d e f g,a = .agg #[d,e]/\a6 2 (Flat cR.enc) b d f/\a6 2 (Flat cR.enc) b e g/\CP gL [] [⟨0,0⟩,⟨3,0⟩] f g 0
theorem kp.ext{v:B_}{w w':A_}(b:Ext w w'):∀d,kp d v w->kp d v w'
 | 0,⟨cs,c,a⟩=>⟨cs,c,a.ext b⟩
 | 1,a=>a
 | 2,a=>a6.ext Flat.ext b a
 | 3,a=>a6.ext Flat.ext b a
 | 4,a=>a6.ext oT.ext b a
 | 5,a=>a
 | 6,a=>a
 | 7,a=>a
 | 8,a=>a
 | _+9,⟨e,f,g,h,c,i,j,k⟩=>⟨e,f,g,h,c,i.ext Flat.ext b,j.ext Flat.ext b,k⟩
def asY:C_ Nat:=[0,2,3,3,1,1,0,3,3,3,1,1,1,0,8,5,1,1,1,0,2,4,2,3,3,1,1,1,0,2,4,6,1,1,1,7,1,1,1,0,9,1,1,1]
def ajb(w:A_)(C:gi w):EL F.Ej #[] w λl a=>l = .bool true/\Ext w a:=by
 refine bn E.Ej ?_;refine aa ?_;refine J_ (aiQ w) ?_;rintro _ bf ⟨⟨q,rfl,X⟩,ax⟩;refine aa ?_;intro N Y bk Z H;replace H:N.heap[Y]? = some (.cells #[.I 0,.I 0,.I 3,.I 0] T.g):=H;have ab:a6 2 (Flat cR.enc) N (.slice (some ⟨Y,0,none⟩) 2 2) [⟨0,0⟩,⟨3,0⟩]:=a6.b0 (enc:=cR.enc) (λ_=>rfl) H rfl Ae λv z ay G=>G;have ae:=ax.trans Z;refine aa ?_;refine J_ (avN q _ _ gL [] _ N (X.ext Z) Dp (C.ext ae) a6.nil ab Ae) ?_;rintro _ az ⟨⟨af,ag,v,I,O,rfl,P,Q,S⟩,aB⟩;have aC:=anq S;subst aC;have aD:=ae.trans aB;have b:=P.form;obtain⟨aE,aF,rfl,_⟩:=b;have b:=Q.form;obtain⟨aG,aH,rfl,_⟩:=b;have ah:kp 9 (.agg #[.slice aE v.length aF,.slice aG I.length aH]) az:=⟨_,_,v,I,rfl,P,Q,S⟩;clear S P Q ab H X;refine eA ?_;intro bl aI bo ai aJ;have aj:=aD.trans ai;have aK:=kp.ext ai 9 ah;clear ah;simp -dsimp only[cD];refine AE9 (λJ l w=>kp (asY.getD J 1) l w) Cl (λJ l w a f i=>kp.ext f _ i) λaL K=>⟨?_,?_⟩;rotate_left
 .intro c bp aP h ak;have aQ:c 0 = .bool true:=ve.at _ 0 43 _ ak rfl;clear ak h;refine aa ?_;exact⟨aQ,aj.trans (K.trans aP)⟩
 have A:=aj.trans K;have aR:=K.obj aJ;have aS:=kp.ext K 9 aK;have B:∀a,EL F.uS #[] a λl m=>Ext a m/\kp 0 l m:=λa=>(aiQ a).mono λl m i=>⟨i.2,i.1⟩;have t:∀(z L:Int) (c:Fr) (a:A_),CG c T.a 2 1 [.I 0,.I 0] [(0,.const (.I z)),(1,.const (.I L))] a λl m=>Ext a m/\cl m l [z,L]:=λz L c a =>
  AO (cs:=[.I z,.I L]) rfl ⟨(Ext.refl a).alloc _,a6.b0 (enc:=da) (λ_=>rfl) (heap_alloc_new a _) rfl (show 2<=maxLen by decide) λv z ay G=>G⟩
 have al:∀(c:Fr) (u:Nat) (a:A_),cl a (c u) [1,0]->CG c T.b 1 1 [.slice none 0 0] [(0,.tmp u)] a λl m=>Ext a m/\kp 4 l m:=λc u a i=>by
  have b:=i.form;obtain⟨x,y,O,_⟩:=b;rw[O] at i;have f:Ext a (a.alloc (.cells [Value.slice x [(1:Int),0].length y].toArray T.b)):=(Ext.refl a).alloc _;refine AO (cs:=[.slice x [(1:Int),0].length y]) ?_ ⟨f,a6.Qy [⟨[.slice x [(1:Int),0].length y],rfl,by simp[Value.oneCell']⟩] (heap_alloc_new a _) rfl rfl rfl (show 1<=maxLen by decide) λJ e j=>?_⟩
  .show gv c [(0,1)] [(0,.tmp u)] [.slice none 0 0]=_;simp[gv,dE,O,lay,Value.cells]
  .have:J=0:=by simp at e;omega
   subst this;exact⟨_,rfl,a6.ext Flat.ext f i⟩
 have U:∀(k n:B_) (r:C_ Int) (a:A_),cl a k r->cl a n r->EL F.c #[k,n] a λl m=>Ext a m/\kp 1 l m:=λk n r a e j=>(BX k n r r a e j).mono λl m i=>⟨i.2,by
  obtain⟨⟨bq,rfl,p⟩,_⟩:=i;rw[p.2 rfl];rfl⟩
 have an:∀(k n:B_) (r:C_ Int) (a:A_),Ext w a->kp 0 k a->cl a n r->o.Fits gL r->fb gL r=[0,1]->EL F.f #[k,n] a λl m=>Ext a m/\kp 3 l m:=λk n r a f e j h G=>by
  obtain⟨q,rfl,s⟩:=e;refine(agw q n gL r a s Dp (C.ext f) j).mono λl m i=>⟨i.2,?_⟩;rcases i.1 with ⟨_,p⟩ | ⟨p,_⟩
  .rw[G] at p;exact p
  .exact absurd ⟨xh,h⟩ p
 have aU:∀(k:B_) (a:A_),Ext w a->kp 0 k a->EL F.af #[k] a λl m=>Ext a m/\kp 8 l m:=λk a f e=>by
  obtain⟨q,rfl,s⟩:=e;refine(avv q gL a s Dp (C.ext f)).mono λl m i=>⟨i.2,?_⟩;rcases i.1 with ⟨_,p⟩ | ⟨p,_⟩
  .obtain⟨x,y,rfl,_⟩:=p.form;exact⟨x,y,by rw[ano]⟩
  .exact absurd xh p
 have aX:∀(k:B_) (a:A_),kp 8 k a->Fi k λl=>Ext a a/\kp 5 l a:=λk a i=>by
  obtain⟨x,y,rfl⟩:=i;exact⟨x,2,y,rfl,Ext.refl _,rfl⟩
 have V:∀{ao:F_} {aq ar:G_} (k:B_) (u:Int) (a:A_),k = .I u->oQ Tryz.prog .eql ao aq ar k (.I u) λl=>Ext a a/\kp 1 l a:=λ{ao aq ar} k u a i=>by
  subst i;rw[Z6,decide_eq_true rfl];exact⟨Ext.refl _,rfl⟩
 have aY:∀(k n M:B_) (a:A_),Ext w a->kp 0 k a->gS a n [[1,0]]->cl a M [1,0]->EL F.j #[k,n,M] a λl m=>Ext a m/\kp 3 l m:=λk n M a f e j aZ=>by
  obtain⟨q,rfl,s⟩:=e;refine(agv q n M gL _ _ a s Dp (C.ext f) j aZ).mono λl m i=>⟨i.2,?_⟩;rcases i.1 with ⟨_,_,p⟩ | ⟨p,_⟩
  .rw[anl] at p;exact p
  .exact absurd ⟨⟨xh,Ro Ae Ae⟩,abv⟩ p
 have a0:∀(k n:B_) (a:A_),Ext w a->kp 0 k a->gS a n [[1,0]]->EL F.i #[k,n,.I 1] a λl m=>Ext a m/\kp 6 l m:=λk n a f e j=>by
  obtain⟨q,rfl,s⟩:=e;refine(agx q n gL _ 1 a s Dp (C.ext f) j).mono λl m i=>⟨i.2,?_⟩;rcases i.1 with ⟨_,_,_,p⟩ | ⟨p,_⟩
  .rw[p];exact congrArg (Value.int .i64) anr
  .exact absurd ⟨xh,abv,Ae,by rw[ans];decide⟩ p
 have a1:∀(k:B_) (a:A_),Ext aL a->k = .pointer (some ⟨aI,0,none⟩)->Fh 2 k a λl=>Ext a a/\kp 9 l a:=λk a f i=>by
  subst i;exact afx (g5 (f.obj aR)) rfl ⟨Ext.refl _,kp.ext f 9 aS⟩
 have a3:∀(k n:B_) (a:A_),Ext w a->kp 0 k a->kp 9 n a->EL F.Ei #[k,n] a λl m=>Ext a m/\kp 1 l m:=λk n a f e j=>by
  obtain⟨q,rfl,s⟩:=e;obtain⟨af,ag,v,I,rfl,a5,a7,au⟩:=j;obtain⟨W,bt,a8,av,R,aw,a9,bb⟩:=atM au;have bu:=atL au;exact(axE q af ag gL v I av R _ a s Dp W a5 a7 AY AY a8 aw rfl a9 bb (abL W v _ av (Gd (gA W)) aw)).mono λl m i=>⟨i.2,i.1⟩
 repeat' apply vj.cons
 .exact λc a f h d=>nQ (B a)
 .exact λc a f h d=>nQ (t 1 0 c a)
 .intro c a f h d;have b:=d;obtain⟨e,j,_⟩:=b;exact nQ (an (c 12) (c 13) [1,0] a (A.trans f) e j (Ro Ae Ae) anm)
 .exact λc a f h d=>nQ (t 0 1 c a)
 .intro c a f h d;have b:=d;obtain⟨e,j,_⟩:=b;exact nQ (U (c 14) (c 15) _ a e j)
 .intro c a f h d;have b:=d;obtain⟨e,_⟩:=b;exact nQ ⟨Ext.refl _,e⟩
 .intro c a f h d;have b:=d;obtain⟨g,_⟩:=b;exact ia (j:=17) g (B a)
 .intro c a f h d;have b:=d;obtain⟨g,_⟩:=b;exact ia (j:=17) g (t 0 1 c a)
 .intro c a f h d;have b:=d;obtain⟨e,j,_,g,_⟩:=b;exact ia (j:=17) g (an (c 18) (c 19) [0,1] a (A.trans f) e j (Ro Ae Ae) ann)
 .intro c a f h d;have b:=d;obtain⟨g,_⟩:=b;exact ia (j:=17) g (t 0 1 c a)
 .intro c a f h d;have b:=d;obtain⟨e,j,_,g,_⟩:=b;exact ia (j:=17) g (U (c 20) (c 21) _ a e j)
 .intro c a f h d;have b:=d;obtain⟨e,j,_⟩:=b;exact nQ ⟨true,e,λ_=>⟨Ext.refl _,j⟩,λi=>by cases i⟩
 .intro c a f h d;have b:=d;obtain⟨e,_⟩:=b;exact nQ ⟨Ext.refl _,e⟩
 .intro c a f h d;have b:=d;obtain⟨g,_⟩:=b;exact ia (j:=24) g (B a)
 .intro c a f h d;have b:=d;obtain⟨e,_,g,_⟩:=b;exact ia (j:=24) g (aU (c 25) a (A.trans f) e)
 .intro c a f h d;have b:=d;obtain⟨e,g,_⟩:=b;exact ia (j:=24) g (aX (c 26) a e)
 .intro c a f h d;have b:=d;obtain⟨e,g,_⟩:=b;exact ia (j:=24) g (V (c 27) 2 a e)
 .intro c a f h d;have b:=d;obtain⟨e,j,_⟩:=b;exact nQ ⟨true,e,λ_=>⟨Ext.refl _,j⟩,λi=>by cases i⟩
 .intro c a f h d;have b:=d;obtain⟨e,_⟩:=b;exact nQ ⟨Ext.refl _,e⟩
 .intro c a f h d;have b:=d;obtain⟨g,_⟩:=b;exact ia (j:=30) g (B a)
 .intro c a f h d;have b:=d;obtain⟨g,_⟩:=b;exact ia (j:=30) g (t 1 0 c a)
 .intro c a f h d;have b:=d;obtain⟨e,g,_⟩:=b;exact ia (j:=30) g (al c 32 a e)
 .intro c a f h d;have b:=d;obtain⟨g,_⟩:=b;exact ia (j:=30) g (t 1 0 c a)
 .intro c a f h d;have b:=d;obtain⟨e,j,p,_,g,_⟩:=b;exact ia (j:=30) g (aY (c 31) (c 33) (c 34) a (A.trans f) e j p)
 .intro c a f h d;have b:=d;obtain⟨g,_⟩:=b;exact ia (j:=30) g (t 0 1 c a)
 .intro c a f h d;have b:=d;obtain⟨e,j,_,g,_⟩:=b;exact ia (j:=30) g (U (c 35) (c 36) _ a e j)
 .intro c a f h d;have b:=d;obtain⟨e,j,_⟩:=b;exact nQ ⟨true,e,λ_=>⟨Ext.refl _,j⟩,λi=>by cases i⟩
 .intro c a f h d;have b:=d;obtain⟨e,_⟩:=b;exact nQ ⟨Ext.refl _,e⟩
 .intro c a f h d;have b:=d;obtain⟨g,_⟩:=b;exact ia (j:=39) g (B a)
 .intro c a f h d;have b:=d;obtain⟨g,_⟩:=b;exact ia (j:=39) g (t 1 0 c a)
 .intro c a f h d;have b:=d;obtain⟨e,g,_⟩:=b;exact ia (j:=39) g (al c 41 a e)
 .intro c a f h d;have b:=d;obtain⟨e,j,_,g,_⟩:=b;exact ia (j:=39) g (a0 (c 40) (c 42) a (A.trans f) e j)
 .intro c a f h d;have b:=d;obtain⟨e,g,_⟩:=b;exact ia (j:=39) g (V (c 43) 3 a e)
 .intro c a f h d;have b:=d;obtain⟨e,j,_⟩:=b;exact nQ ⟨true,e,λ_=>⟨Ext.refl _,j⟩,λi=>by cases i⟩
 .intro c a f h d;have b:=d;obtain⟨e,_⟩:=b;exact nQ ⟨Ext.refl _,e⟩
 .intro c a f h d;have b:=d;obtain⟨g,_⟩:=b;exact ia (j:=46) g ⟨Ext.refl _,h 2 Cl⟩
 .intro c a f h d;have b:=d;obtain⟨e,g,_⟩:=b;exact ia (j:=46) g (V (c 47) 0 a e)
 .intro c a f h d;have b:=d;obtain⟨e,j,_⟩:=b;exact nQ ⟨true,e,λ_=>⟨Ext.refl _,j⟩,λi=>by cases i⟩
 .intro c a f h d;have b:=d;obtain⟨e,_⟩:=b;exact nQ ⟨Ext.refl _,e⟩
 .intro c a f h d;have b:=d;obtain⟨g,_⟩:=b;exact ia (j:=50) g (B a)
 .intro c a f h d;have b:=d;obtain⟨g,_⟩:=b;exact ia (j:=50) g (a1 (c 1) a f (h 1 Cl))
 .intro c a f h d;have b:=d;obtain⟨e,j,_,g,_⟩:=b;exact ia (j:=50) g (a3 (c 51) (c 52) a (A.trans f) e j)
 .intro c a f h d;have b:=d;obtain⟨e,j,_⟩:=b;exact nQ ⟨true,e,λ_=>⟨Ext.refl _,j⟩,λi=>by cases i⟩
 .intro c a f h d;have b:=d;obtain⟨e,_⟩:=b;exact nQ ⟨Ext.refl _,e⟩
 .trivial
attribute [local irreducible] ep bF o.insts o.refs jA fH
def atG(e f:B_)(a b:C_ Int)(w:A_)(j:a6 1 (Flat da) w e a)(k:a6 1 (Flat da) w f b) :
  EL F.c #[e,f] w λg h=>g = .bool (decide (a=b))/\Ext w h :=
 (BX e f a b w j k).mono λg h c=>⟨by
  obtain⟨⟨l,rfl,i⟩,_⟩:=c;congr 1;by_cases d:a=b
  .rw[i.2 d,decide_eq_true d]
  .rw[decide_eq_false d];exact Bool.eq_false_iff.2 λc=>d (i.1 c),c.2⟩
def ai9(f:B_)(s:C_ (C_ Int))(w:A_)(e:gS w f s) :
  EL F.N7 #[f] w λg m=>(∃h:Bool,g = .bool h/\(h=false->s.length<=10/\∀i∈s,i.length<=20))/\Ext w m:=by
 obtain⟨v,x,rfl,y⟩:=e.form;refine bn E.N7 ?_;refine aa ?_;refine K_ 3 s.length [0] (λ_:Unit=>[]) () (λc _ n=>Ext w n/\∀a (b:a<s.length),a<c->s[a].length<=20) aW aW ⟨Ext.refl _,λa _ b=>absurd b (Od _)⟩ ?_;rintro c _ z A B ⟨d,j⟩;refine aa ?_;apply I_<;>intro C
 .have k:c<s.length:=AY
  have p:=iR d e;obtain⟨G,rfl⟩:=e.addr;obtain⟨g,q,r⟩:=p.at c k;obtain⟨H,I,rfl,_⟩:=r.form;refine aa ?_;refine L_ q ?_;refine aa ?_;apply I_<;>intro J
  .refine aa ?_;exact⟨⟨true,aV,λb=>by cases b⟩,d⟩
  .refine aa ?_;refine⟨k,aV,(),trivial,d,λa b l=>?_⟩;by_cases t:a=c
   .subst t;omega
   .exact j a b AY
 .refine aa ?_;refine⟨⟨_,aV,λb=>⟨by have:=of_decide_eq_false b;omega,λi u=>?_⟩⟩,d⟩;obtain⟨a,l,rfl⟩:=List.getElem_of_mem u;exact j a l AY
end Go.Proofs.R
namespace o
open Go
open Classical in
noncomputable def nI(m:Model)(g:C_ (C_ Int))(s:C_ Int):C_ Int:=if hH m s/\fU m.scalars g then hj m g s else []
open Classical in
noncomputable def JN(m:Model)(s:C_ Int):C_ Int:=if hH m s then fb m s else []
open Classical in
noncomputable def Ab(m:Model)(g:C_ (C_ Int))(x:Int):Int:=if (check m).bK=0/\fU m.scalars g/\(0<=x/\x<(refs m).length) then Aa m (gK g) x.toNat else -1
def yY{m:Model}{g:C_ (C_ Int)}{s:C_ Int}(h:hH m s)(k:fU m.scalars g):nI m g s=hj m g s:=if_pos ⟨h,k⟩
def Fx{m:Model}{g:C_ (C_ Int)}{s:C_ Int}(h:¬(hH m s/\fU m.scalars g)):nI m g s=[]:=if_neg h
def aal{m:Model}{s:C_ Int}(h:hH m s):JN m s=fb m s:=if_pos h
def ak9{m:Model}{s:C_ Int}(h:¬hH m s):JN m s=[]:=if_neg h
def aj3{m:Model}{g:C_ (C_ Int)}{s:C_ Int}(h:hH m s)(k:fU m.scalars g):hH m (hj m g s):=⟨h.1,Qh h.1 k h.2⟩
end o
namespace Go.Proofs.R
open Go Go.RowKit ba o
attribute [local irreducible] ep bF o.insts o.refs jA fH
def afB(a b:B_)(c d:C_ Int)(w:A_)(h:cl w a c)(i:cl w b d)(j:c=d) :
  EL F.c #[a,b] w λe f=>e = .bool true/\Ext w f :=
 (atG a b c d w h i).mono λe f g=>⟨by rw[g.1,decide_eq_true j],g.2⟩
def H8(cs:C_ B_)(v vs:B_)(m:o.Model)(g:C_ (C_ Int))(s:C_ Int)(w:A_)(h:dU w cs m)(e:m.cB)(f:gi w)(i:gS w v g)(j:cl w vs s) :
  EL F.j #[.agg cs.toArray,v,vs] w λc a=>cl a c (nI m g s)/\Ext w a :=
 (agv cs v vs m g s w h e f i j).mono λc a d=>⟨by
  rcases d.1 with ⟨b,k,l⟩ | ⟨b,rfl⟩
  .rw[yY b k];exact l
  .rw[Fx b];exact a6.nil,d.2⟩
def avu(cs:C_ B_)(vs:B_)(m:o.Model)(s:C_ Int)(w:A_)(h:dU w cs m)(e:m.cB)(f:gi w)(g:cl w vs s) :
  EL F.f #[.agg cs.toArray,vs] w λc a=>cl a c (JN m s)/\Ext w a :=
 (agw cs vs m s w h e f g).mono λc a d=>⟨by
  rcases d.1 with ⟨b,i⟩ | ⟨b,rfl⟩
  .rw[aal b];exact i
  .rw[ak9 b];exact a6.nil,d.2⟩
def avw(cs:C_ B_)(v:B_)(m:o.Model)(g:C_ (C_ Int))(x:Int)(w:A_)(h:dU w cs m)(e:m.cB)(f:gi w)(i:gS w v g) :
  EL F.i #[.agg cs.toArray,v,.I x] w λb c=>b = .I (Ab m g x)/\Ext w c :=
 (agx cs v m g x w h e f i).mono λb c d=>⟨by
  rcases d.1 with ⟨a,j,k,rfl⟩ | ⟨a,rfl⟩
  .unfold Ab;rw[if_pos ⟨a,j,k⟩]
  .unfold Ab;rw[if_neg a],d.2⟩
end Go.Proofs.R
namespace o
open Go
def aaB{m:Model}(h:(check m).bK=0):(data m).bK=0/\(nw m).bK=0/\(qP m).bK=0:=by
 unfold check at h;by_cases a:(data m).bK≠0
 .rw[if_pos a] at h;exact absurd h a
 rw[if_neg a] at h;by_cases b:(nw m).bK≠0
 .rw[if_pos b] at h;exact absurd h b
 rw[if_neg b] at h;exact⟨by simpa using a,by simpa using b,h⟩
def sw:C_ Bool->Nat
 | []=>0
 | a :: b=>a.toNat+2*sw b
theorem Uy:∀a:C_ Bool,sw a<2 ^ a.length
 | []=>Nat.one_pos
 | b :: c=>by
  have d:=Uy c;have e:b.toNat<=1:=by cases b<;>decide
  simp only[sw,List.length_cons,Nat.pow_succ];omega
theorem Ux:∀(c:C_ Bool) (a:Bool),sw (c++[a])=sw c+a.toNat*2 ^ c.length
 | [],a=>by simp[sw]
 | e :: b,a=>by
  have d:=Ux b a;simp only[List.cons_append,sw,d,List.length_cons,Nat.pow_succ];rw[Nat.mul_add,<-Nat.mul_assoc,AI0 (a.toNat) (2 ^ b.length*2),AI0 (2*a.toNat),AI0 (2 ^ b.length) 2];rw[AI0 2 (2 ^ b.length),Nat.mul_assoc,<-AH4]
def at3(l:C_ Bool):sw l ||| 2 ^ l.length=sw (l++[true]):=by
 rw[Ux,Nat.or_comm];have a:=Nat.two_pow_add_eq_or_of_lt (Uy l) 1;rw[AH2] at a;rw[<-a];simp[Nat.add_comm]
def at4(l:C_ Bool):sw l=sw (l++[false]):=by rw[Ux];simp
def Cr(m:Model)(s:C_ Int)(e:C_ Node):Bool:=decide ((eval e (bZ m s (-1))).2=0/\(eval e (bZ m s (-1))).1≠0)
def yw(m:Model)(s:C_ Int):C_ Bool:=m.props.map λa=>Cr m s a.expr
def told(m:Model)(s:C_ Int):Nat:=sw (yw m s)
def sH(m:Model)(s:C_ Int)(k:Nat):Nat:=sw ((yw m s).take k)
def aiz(m:Model)(s:C_ Int):(yw m s).length=m.props.length:=by simp[yw]
def ayA(m:Model)(s:C_ Int):sH m s m.props.length=told m s:=by
 unfold sH told;rw[IA (by rw[aiz];exact EM _)]
theorem aiF{m:Model}{s:C_ Int}{k:Nat}(h:k<m.props.length):sH m s (k+1)=if Cr m s m.props[k].expr then sH m s k ||| 2 ^ k else sH m s k:=by
 have a:k<(yw m s).length:=by rw[aiz];exact h
 have b:((yw m s).take k).length=k:=by rw[IP];omega
 have c:(yw m s)[k]=Cr m s m.props[k].expr:=by simp[yw]
 unfold sH;rw[Oi a,c];cases Cr m s m.props[k].expr with
 | true =>
  rw[if_pos rfl,<-at3,b]
 | false =>
  rw[if_neg Ah,<-at4]
def ayB(m:Model)(s:C_ Int)(k:Nat):sH m s k<2 ^ k:=by
 refine AI3 (Uy _) (Nat.pow_le_pow_right Ae ?_);rw[IP];omega
noncomputable def sn(m:Model)(s:C_ Int):Nat×Int:=open Classical in if (check m).bK≠0 then (0,2) else if Fits m s then (told m s,0) else (0,3)
def av1{m:Model}(h:(check m).bK=0):m.props.length<=8:=by
 obtain⟨_,_,b⟩:=aaB h;have c:=Vc b;refine Classical.byContradiction λd=>?_;have a:=c 8 AY;rw[Ku AY,if_pos AY] at a;cases a
def atj{m:Model}{s:C_ Int}(h:¬(check m).bK=0):sn m s=(0,2):=by unfold sn;rw[if_pos h]
def atk{m:Model}{s:C_ Int}(h:(check m).bK=0)(a:¬Fits m s):sn m s=(0,3):=by unfold sn;rw[if_neg (by simpa using h),if_neg a]
def MA{m:Model}{s:C_ Int}(h:(check m).bK=0)(a:Fits m s):sn m s=(told m s,0):=by unfold sn;rw[if_neg (by simpa using h),if_pos a]
structure azQ(n:Nat)(L:List Int)(af:List Bool):Prop where
 len:af.length=n
 at_:∀(c:Nat) (h:c<af.length),af[c]=decide ((c:Int)∈L)
end o
namespace ba
open Go Go.RowKit
section
variable{P:Program}{bb:Value->Prop}{ty:TypeId}{dy dO:Operand}
def AF0{n:Nat}{k:IntKind}{t}(a:n<64)(b:bb (.int .u64 ((2 ^ n:Nat):Int))):h6 P .shl ty dy dO (.int .u64 1) (.int k (n:Int)) bb t:=by
 refine _J (v:=.int .u64 ((2 ^ n:Nat):Int)) (λg=>?_) b;have c:(2:Nat) ^ n<2 ^ 64:=Nat.pow_lt_pow_right Ae a;have d:IntKind.u64.wrap ((2:Int) ^ n)=((2 ^ n:Nat):Int):=by
  rw[show(2:Int) ^ n=((2 ^ n:Nat):Int) from Ah];generalize (2:Nat) ^ n=h at c;exact IntWalk.u64_in _ AY
 have e:¬(n:Int)<0:=AY
 have f:min n 64=n:=AY
 simp[eqGuard,binOp,Op.shift,IntKind.bits,e,f,d]
def AF1{x y:Nat}{t}(a:x<18446744073709551616)(b:y<18446744073709551616)(c:bb (.int .u64 ((x ||| y:Nat):Int))):h6 P .or ty dy dO (.int .u64 (x:Int)) (.int .u64 (y:Int)) bb t:=by
 refine _J (v:=.int .u64 ((x ||| y:Nat):Int)) (λe=>?_) c;have d:=bits_or_u64_nat x y a b;rw[<-d];simp[eqGuard,binOp,Op.intBits,bits]
end
end ba
namespace o
open Go
def ayC{m:Model}{s:C_ Int}{k:Nat}(h:k<=8):sH m s k<256:=AI3 (ayB m s k) (by
 have:=Nat.pow_le_pow_right (n:=2) Ae h
 exact this)
def avX{k:Nat}(h:k<8):2 ^ k<256:=by
 have:=Nat.pow_lt_pow_right (a:=2) Ae h
 exact this
def ayD{m:Model}{s:C_ Int}{k:Nat}(h:k<m.props.length)(a:(eval m.props[k].expr (bZ m s (-1))).2=0/\(eval m.props[k].expr (bZ m s (-1))).1≠0):sH m s (k+1)=sH m s k ||| 2 ^ k:=by
 rw[aiF h,if_pos];unfold Cr;exact decide_eq_true a
def aiE{m:Model}{s:C_ Int}{k:Nat}(h:k<m.props.length)(a:¬((eval m.props[k].expr (bZ m s (-1))).2=0/\(eval m.props[k].expr (bZ m s (-1))).1≠0)):sH m s (k+1)=sH m s k:=by
 rw[aiF h,if_neg];unfold Cr;simpa using a
def auJ{α:Type}(l:C_ α):nth l (-1)=none:=by unfold nth;rw[if_neg AY]
def ana{m:Model}(e:gh m){s:C_ Int}(h:Fits m s):PF (bZ m s (-1)):=by
 have f:=abI e h;have n:=aeZ e;have g:EO m s (-1)=([],0):=by unfold EO;rw[auJ]
 refine⟨λi b c a=>?_,λc a=>?_,λc a=>?_,λi b c a=>?_,?_⟩
 .simp only[bZ,List.mem_map] at b;obtain⟨d,_,rfl⟩:=b;exact f c (AL2 (AJ8 a))
 .simp only[bZ,List.mem_map] at a;obtain⟨d,_,rfl⟩:=a;rw[List.getElem!_eq_getElem?_getD];cases j:s[bS m d]? with
  | none=>simp[ev]
  | some k=>exact f k (List.mem_of_getElem? j)
 .simp only[bZ,g] at a;cases a
 .simp only[bZ,List.mem_map] at b;obtain⟨d,_,rfl⟩:=b;unfold jI at a;obtain⟨l,_,rfl⟩:=List.mem_map.1 a
  have:=JE m s d l (insts m).length
  unfold ev;omega
 .simp only[bZ,g];unfold ev;omega
end o
namespace Go.Proofs.R
open Go Go.RowKit ba o
def awz(cs ys:C_ B_)(m:o.Model)(v:B_)(s:C_ Int)(w:A_)(h:dU w cs m)(K:m.cB)(p:lM w ys (o.layout m))(f:hH m s)(L:cl w v s) :
  EL F.N5 #[.agg cs.toArray,.agg ys.toArray,v] w λe i=>e = .int .u64 (o.told m s:Nat)/\Ext w i:=by
 have M:=h;have N:=p;obtain⟨af,ag,ah,bg,ai,bj,aj,ak,al,an,rfl,ao,aq,ar,au,q,av,aw,ax,ay,az⟩:=h.form;obtain⟨aB,aC,aD,aE,aF,aG,aH,aI,aJ,aK,rfl,_⟩:=p.form;have r:=gA f.1;have aL:=av1 f.1;have O:=ana r f.2;refine bn E.N5 ?_;refine aa ?_;intro aP aQ aR P b;refine aa ?_;intro Q aS aU t aX;replace b:=t.obj b;have g:=P.trans t;refine aa ?_;refine J_ (VF _ _ v m s (-1) Q (M.ext g) K r (N.ext g) (L.ext Flat.ext g) f.2 AY AY) ?_;rintro _ aY ⟨⟨aZ,rfl,S⟩,u⟩;have x:=S.here;have U:=Kq x O;obtain⟨a0,a1,a3,a5,rfl,y,z,A,B⟩:=x.ex;obtain⟨_,_,rfl,_⟩:=y.form;obtain⟨_,_,rfl,_⟩:=z.form;obtain⟨_,_,rfl,_⟩:=A.form;obtain⟨_,_,rfl,_⟩:=B.form;clear y z A B;have V:=g.trans u;replace b:=u.obj b;refine aa ?_;intro W a7 a8 j X;have Y:=V.trans j;replace b:=j.obj b;have Z:=U.ext j;refine aa ?_;refine K_ 9 m.props.length [3,7] (λe:Nat=>[(8,.int .u64 (e:Nat))]) 0 (λa e ab=>e=sH m s a/\Ext W ab) aW aW ⟨rfl,Ext.refl _⟩ ?_;rintro a e a9 bb bf ⟨rfl,c⟩;have bk:=c.obj b;have bl:=c.obj X;have k:=Y.trans c;refine aa ?_;apply I_<;>intro bo
 .have d:a<m.props.length:=AY
  obtain⟨bp,rfl⟩:=q.addr;obtain⟨bq,bt,C,G⟩:=q.at a d;obtain⟨bu,bw,rfl,_⟩:=G.form;unfold mL.enc at C;have bx:=C.ext k;refine aa ?_;refine P_ (.tuple #[.I (o.eval m.props[a].expr (bZ m s (-1))).1,.I (o.eval m.props[a].expr (bZ m s (-1))).2]) (λi H=>OJ _ m.props[a].expr _ (bZ m s (-1)) i (G.ext (k.trans H)) (Z.ext (c.trans H))) ?_;refine aa ?_;intro bz l;refine aa ?_;apply I_<;>intro I
  .refine aa ?_;apply I_<;>intro J
   .refine aa ?_;refine⟨d,aV,_,⟨rfl,trivial⟩,(aiE d (λn=>n.2 J)).symm,c.trans l⟩
   .refine aa ?_;refine AD7 a rfl AY ?_;refine aa ?_;refine AF0 AY ?_;refine aa ?_;refine AF1 (by have:=ayC (m:=m) (s:=s) (k:=a) AY;omega) (by have:=avX (k:=a) AY;omega) ?_;refine aa ?_;refine⟨d,aV,_,⟨rfl,trivial⟩,(ayD d ⟨I,J⟩).symm,c.trans l⟩
  .refine aa ?_;refine⟨d,aV,_,⟨rfl,trivial⟩,(aiE d (λn=>I n.1)).symm,c.trans l⟩
 .have ae:a=m.props.length:=AY
  refine aa ?_;exact⟨by rw[ae,ayA],k⟩
theorem aww(cs:C_ B_)(m:o.Model)(v:B_)(s:C_ Int)(w:A_)(h:dU w cs m)(g:m.cB)(l:cl w v s) :
  EL F.HT #[.agg cs.toArray,v] w λz A=>z = .tuple #[.int .u64 ((sn m s).1:Nat),.I (sn m s).2]/\Ext w A:=by
 have c:=h;obtain⟨O,P,Q,bg,S,bj,U,V,W,X,rfl,_⟩:=h.form;refine bn E.HT ?_;refine aa ?_;intro B Y Z n a;refine aa ?_;refine J_ (Uz _ m B (c.ext n) g) ?_;rintro _ C ⟨rfl,p⟩;replace a:=p.obj a;have i:=n.trans p;refine aa ?_;apply I_<;>intro b;rotate_left
 .refine aa ?_;exact⟨by rw[atj b]<;>rfl,i⟩
 refine aa ?_;refine J_ (ahf _ m C (c.ext i) g) ?_;rintro _ ab ⟨⟨ys,rfl,q⟩,r⟩;have G:=i.trans r;replace a:=r.obj a;have H:=gA b;have I:lyz m=o.layout m:=by unfold lyz;rw[if_pos b]
 rw[I] at q;have t:=q.here;obtain⟨ae,af,ag,ah,ai,aj,ak,al,an,ao,rfl,_⟩:=t.form;refine aa ?_;intro J aq ar j u;have k:=G.trans j;replace a:=j.obj a;have x:=t.ext j;refine aa ?_;refine J_ (Vj _ _ m v s J (c.ext k) x H (l.ext Flat.ext k)) ?_;rintro _ K ⟨⟨L,rfl,y⟩,d⟩;have e:=k.trans d;replace a:=d.obj a;replace u:=d.obj u;cases L with
 | false =>
  have M:¬o.Fits m s:=λf=>by have:=y.2 f;cases this
  refine aa ?_;exact⟨by rw[atk b M]<;>rfl,e⟩
 | true =>
  have f:=y.1 rfl;refine aa ?_;refine J_ (awz _ _ m v s K (c.ext e) g (x.ext d) ⟨b,f⟩ (l.ext Flat.ext e)) ?_;rintro _ au ⟨rfl,N⟩;refine aa ?_;exact⟨by rw[MA b f]<;>rfl,e.trans N⟩
end Go.Proofs.R
namespace o
open Go
def ajK(s:Scope)(x:Node):Prop:=x.op=3->∃a,s.vars[x.n.toNat]? = some a/\a.over≠0
def av2{m:Model}(h:(check m).bK=0){j:Nat}(b:j<m.props.length):(kind m.props[j].expr (fm m)).2=0:=by
 obtain⟨_,_,c⟩:=aaB h;have a:=Vc c j b;rw[Ku b] at a;refine Classical.byContradiction λd=>?_
 repeat' split at a
 all_goals first | omega | (exact absurd a d) | skip
 all_goals contradiction
structure azP(m:Model)(x:Node):Prop where
 node:P3 (fm m) x
 over:ajK (fm m) x
def ayE{m:Model}(g:(check m).bK=0){f b:Int->Int->Int}(a:eD m.scalars f b){s t:C_ Int}(h:fB m f s t):told m t=told m s:=by
 unfold told yw;congr 1;refine AI4 λn i=>?_;obtain⟨j,k,rfl⟩:=List.mem_iff_getElem.1 i;have l:=Rm (s:=fm m) a (anb a h) (av2 g k);unfold Cr;rw[l];refine decide_eq_decide.2 ⟨λ⟨d,e⟩=>⟨d,λc=>e ?_⟩,λ⟨d,e⟩=>⟨d,λc=>e ?_⟩⟩
 .simp only at c ⊢;rw[c,wA a]
 .simp only at c;exact Vv (k:=(kind m.props[j].expr (fm m)).1) a (c.trans (wA a _).symm)
def afn{m:Model}{g:C_ (C_ Int)}{s:C_ Int}(h:hH m s)(k:fU m.scalars g):sn m (hj m g s)=(told m s,0):=by
 rw[MA h.1 (Qh h.1 k h.2),ayE h.1 (k.pz (jX h.1)) (yX h.1 k h.2.len)]
def atl{m:Model}{s:C_ Int}(h:hH m s):sn m (JN m s)=(told m s,0):=by
 obtain⟨⟨c,a,b⟩,_⟩:=AT h.1 h.2.len;rw[aal h,b,afn h a]
def aj6{m:Model}{g:C_ (C_ Int)}{s:C_ Int}(h:hH m s)(k:(nI m g s).length=s.length):sn m (nI m g s)=(told m s,0):=by
 by_cases a:fU m.scalars g
 .rw[yY h a,afn h a]
 .rw[Fx λb=>a b.2] at k ⊢
  have:s=[]:=AF8 k.symm
  rw[<-this,MA h.1 h.2]
end o
namespace Go.Proofs.R
open Go Go.RowKit ba o
attribute [local irreducible] ep bF o.insts o.refs jA fH
def Vk(cs:C_ B_)(m:o.Model)(v:B_)(s:C_ Int)(n:Nat)(w:A_)(h:dU w cs m)(d:m.cB)(e:cl w v s)(f:sn m s=(n,0)) :
  EL F.HT #[.agg cs.toArray,v] w λa b=>a = .tuple #[.int .u64 (n:Int),.I 0]/\Ext w b :=
 (aww cs m v s w h d e).mono λa b c=>⟨by rw[c.1,f],c.2⟩
theorem atq(cs:C_ B_)(v vs:B_)(m:o.Model)(g:C_ (C_ Int))(s:C_ Int)(w:A_)(h:dU w cs m)(d:m.cB)(u:gi w)(x:gS w v g)(i:cl w vs s) :
  EL F.HX #[.agg cs.toArray,v,vs] w λY y=>Y = .bool true/\Ext w y:=by
 have b:=h;obtain⟨aw,ax,ay,bg,az,bj,aB,aC,aD,aE,rfl,_⟩:=h.form;obtain⟨aF,aG,rfl,_⟩:=x.form;obtain⟨aH,aI,rfl,_⟩:=i.form;have e:∀{z},Ext w z->EL F.Ej #[] z λv y=>v = .bool true/\Ext z y:=λZ=>ajb _ (u.ext Z);refine bn E.HX ?_;refine aa ?_;intro ab aJ aK I a;refine aa ?_;refine J_ (adp _ m ab (b.ext I)) ?_;rintro _ ae ⟨af,J⟩;replace a:=J.obj a;have l:=I.trans J;rcases af with rfl | ⟨rfl,aL⟩
 .refine aa ?_;refine J_ (e l) ?_;rintro _ K ⟨rfl,n⟩;refine aa ?_;exact⟨aV,l.trans n⟩
 refine aa ?_;refine J_ (ai9 _ g ae (iR l x)) ?_;rintro _ K ⟨⟨ag,rfl,aP⟩,n⟩;replace a:=n.obj a;have c:=l.trans n;cases ag with
 | true =>
  refine aa ?_;refine J_ (e c) ?_;rintro _ A ⟨rfl,f⟩;refine aa ?_;exact⟨aV,c.trans f⟩
 | false =>
 refine aa ?_;apply I_<;>intro aQ
 .refine aa ?_;refine J_ (e c) ?_;rintro _ A ⟨rfl,f⟩;refine aa ?_;exact⟨aV,c.trans f⟩
 refine aa ?_;refine J_ (ag7 _ m _ s K (b.ext c) d (i.ext Flat.ext c)) ?_;rintro _ A ⟨⟨ah,rfl,ai⟩,f⟩;replace a:=f.obj a;have j:=c.trans f;cases ah with
 | false =>
  refine aa ?_;refine J_ (e j) ?_;rintro _ aj ⟨rfl,p⟩;refine aa ?_;exact⟨aV,j.trans p⟩
 | true =>
 have q:=ai.1 rfl;have L:sn m s=(o.told m s,0):=MA q.1 q.2;have M:=atl q;have N:=λak=>aj6 (g:=g) q ak;generalize o.told m s=B at L M N;refine aa ?_;refine J_ (Vk _ m _ s B A (b.ext j) d (i.ext Flat.ext j) L) ?_;rintro _ aj ⟨rfl,p⟩;replace a:=p.obj a;have al:=j.trans p;refine aa ?_;intro an O;have r:=al.trans O;refine aa ?_;refine J_ (avu _ _ m s an (b.ext r) d (u.ext r) (i.ext Flat.ext r)) ?_;rintro _ ao ⟨P,C⟩;have G:=P.form;obtain⟨aR,aS,rfl,_⟩:=G;refine⟨C,?_⟩;have Q:=r.trans C;refine aa ?_;refine J_ (Vk _ m _ _ B ao (b.ext Q) d P M) ?_;rintro _ aq ⟨rfl,S⟩;have k:=Q.trans S;have U:=(O.trans (C.trans S)).obj a;clear a;refine aa ?_;refine J_ (H8 _ _ _ m g s aq (b.ext k) d (u.ext k) (iR k x) (i.ext Flat.ext k)) ?_;rintro _ ar ⟨V,W⟩;have aU:=W.obj U;have G:=V.form;obtain⟨aX,aY,rfl,_⟩:=G;have t:=k.trans W;clear U;refine aa ?_;apply I_<;>intro aZ
 .refine aa ?_;refine J_ (Vk _ m _ _ B ar (b.ext t) d V (N AY)) ?_;rintro _ au ⟨rfl,H⟩;have X:=t.trans H;refine aa ?_;refine J_ (e X) ?_;rintro _ a0 ⟨rfl,av⟩;refine aa ?_;exact⟨aV,X.trans av⟩
 .refine aa ?_;refine J_ (e t) ?_;rintro _ au ⟨rfl,H⟩;refine aa ?_;exact⟨aV,t.trans H⟩
attribute [local irreducible] o.runM k1 p7 jP dn gE ek
end Go.Proofs.R
namespace o
open Go
def wm(a b:C_ Int):C_ Int:=if qO a=true/\qO b=true/\a.length=b.length then qM a b else []
def wo(g:C_ (C_ Int)):C_ (C_ Int):=g.map λa=>wm a a
def auk(g:C_ (C_ Int)):(wo g).length=g.length:=by simp[wo]
def aul{s:C_ Scalar}(e:qk s){g:C_ (C_ Int)}(h:fU s g):wo g=uV g g:=by
 unfold wo uV;rw[List.zipWith_self];refine AI4 λj a=>?_;obtain⟨b,f,rfl⟩:=List.getElem_of_mem a;have k:=h.len;have c:b<s.length:=AY
 have a:=h.perm b f c;have l:=e.2 _ (FA c);have i:=a.len;have d:qO g[b]=true:=agE.2 ⟨AY,by rw[i];exact a⟩;exact if_pos ⟨d,d,rfl⟩
def aj7{m:Model}{g:C_ (C_ Int)}{s:C_ Int}(h:hH m s)(k:(nI m g s).length≠s.length):(nI m g s).length=0:=by
 by_cases a:fU m.scalars g
 .rw[yY h a,C2] at k;exact absurd h.2.len.symm k
 .rw[Fx λb=>a b.2];rfl
structure ajV(m:Model)(g:List (List Int))(s:List Int):Prop where
 right:hH m (nI m g s)
 len:(ek m (nI m g s)).length=(ek m s).length
 step:∀x∈ek m s,lG m (nI m g s) ⟨if 0<=x.cmd then Ab m g x.cmd else x.cmd,x.eH⟩=some (nI m g x.to)
 aCW:nI m g (nI m g s)=nI m (wo g) s
def aym{m:Model}{g:C_ (C_ Int)}{s:C_ Int}(b:hH m s)(j:(nI m g s).length=s.length):ajV m g s:=by
 by_cases a:fU m.scalars g
 .have c:=b.1;have k:=jX c;have l:=a.pz k;have n:=yX c a b.2.len;have e:=aj3 b a;have i:=yY b a;refine⟨by rw[i];exact e,by rw[i];exact aug l c n,λp f=>?_,by rw[i,yY e a,Jx c a a b.2.len,aul k a,yY b (B2 a a)]⟩;rw[i];obtain⟨J,u,v,w,x⟩:=afV l c n f;rw[yY ⟨c,Ob c b.2 f⟩ a,<-C1 c a w,<-V0 c u,v];rcases x with ⟨bg,bj⟩ | ⟨K,y,h,L,z,A,bg,bj,e⟩
  .rw[if_neg AY,bg,bj]
  .have B:=e.a.ab;rw[AG2] at B;have C:Ab m g p.cmd=(y:Nat):=by
    unfold Ab;rw[if_pos ⟨c,a,AY,AY⟩,bg,AG2,e.g]
   rw[if_pos AY,C,bj]
 .have d:∀q,nI m g q=[]:=λq=>Fx λh=>a h.2;rw[d] at j;have G:s=[]:=AF8 j.symm;subst G;have r:cH m=0:=b.2.len.symm;refine⟨by rw[d];exact b,by rw[d],λp f=>?_,?_⟩
  .rcases Oc b.1 f with ⟨bg,bj,H⟩ | ⟨h,z,A,M,I⟩
   .have:=V0 b.1 f
    rw[if_neg AY,d,d,this,H]
   .have N:=(List.getElem?_eq_some_iff.1 (ps (j:=0) I.at_.inst AY)).1;unfold cH at r;omega
  .rw[d];by_cases t:fU m.scalars (wo g)
   .rw[yY b t];exact(AF8 (by rw[C2];exact r)).symm
   .exact(Fx λh=>t h.2).symm
end o
namespace Go.Proofs.R
open Go Go.RowKit ba o
attribute [local irreducible] ep bF o.insts o.refs jA fH ek
def aaA(v:B_)(p:C_ Int)(w:A_)(h:cl w v p):EL F.HN #[v] w λa b=>(∃c:Bool,a = .bool c/\c=qO p)/\Ext w b :=
 (al0 v p w h).mono λa b d=>⟨⟨_,d.1,rfl⟩,d.2⟩
theorem auj(y z:B_)(a b:C_ Int)(w:A_)(n:cl w y a)(p:cl w z b):EL F.MO #[y,z] w λG A=>ft w.heap.size A G (wm a b)/\Ext w A:=by
 obtain⟨X,bg,rfl,Y⟩:=n.form;obtain⟨Z,bj,rfl,ab⟩:=p.form;have h:¬(qO a=true/\qO b=true/\a.length=b.length)->∀{f:A_},ft w.heap.size f (.slice none 0 0) (wm a b):=λe f=>by
  unfold wm;rw[if_neg e];exact aT.nil _ _ _ _ _
 refine bn E.MO ?_;refine aa ?_;refine J_ (aaA _ a w n) ?_;rintro _ H ⟨⟨I,rfl,g⟩,q⟩;cases I with
 | false =>
  refine aa ?_;exact⟨h λe=>(by rw[e.1] at g;cases g),q⟩
 | true =>
 refine aa ?_;refine J_ (aaA _ b H (p.ext Flat.ext q)) ?_;rintro _ ae ⟨⟨J,rfl,i⟩,K⟩;have r:=q.trans K;cases J with
 | false =>
  refine aa ?_;exact⟨h λe=>(by rw[e.2.1] at i;cases i),r⟩
 | true =>
 have s:=agE.1 g.symm;obtain⟨af,s⟩:=s;refine aa ?_;apply I_<;>intro L;rotate_left
 .refine aa ?_;exact⟨h λe=>L AY,r⟩
 have M:a.length=b.length:=AY
 have N:wm a b=qM a b:=if_pos ⟨g.symm,i.symm,M⟩;have ag:(qM a b).length=a.length:=by simp[qM]
 rw[N];clear h g i;refine aa ?_;refine K_ 6 a.length [0,1] (λd:ez=>[(5,.slice d.1 d.2.1 d.2.2)]) (none,0,0) (λc d f=>ft w.heap.size f (.slice d.1 d.2.1 d.2.2) ((qM a b).take c)/\Ext w f) aW aW ⟨aT.nil _ _ _ _ _,r⟩ ?_;rintro c ⟨ah,ai,aj⟩ ak al an ⟨j,t⟩;dsimp only at j;refine aa ?_;apply I_<;>intro ao;rotate_left
 .rw[IA AY] at j;refine aa ?_;exact⟨j,t⟩
 have k:c<a.length:=AY
 have aq:((qM a b).take c).length=c:=by rw[IP];omega
 have l:=s.get k;obtain⟨m,l,ar⟩:=l;have B:a[c]'k=(m:Int):=by rw[List.getElem?_eq_getElem k] at l;exact Option.some.inj l
 have u:m<b.length:=AY
 have O:(qM a b)[c]' AY=b[m]'u:=by
  simp only[qM,List.getElem_map];rw[B,AG2,List.getD_eq_getElem?_getD,List.getElem?_eq_getElem u];rfl
 have v:=n.addr;obtain⟨au,rfl⟩:=v;have v:=p.addr;obtain⟨av,rfl⟩:=v;have aw:=t.size;refine aa ?_;refine M_ m B u ?_;refine aa ?_;intro ax ay az x P;have aB:=x.size;have C:=j.ext x;refine aa ?_;refine T_ (y:=(qM a b)[c]' AY) C P (by rw[O];rfl) (λ_=>rfl) j8 AY (by unfold maxLen;omega) AY λQ S U aC V W=>?_;refine aa ?_;refine⟨k,aV,(Q,S,U),aW,?_,C.h9 (t.trans x) W (EM _)⟩;rw[Oi AY];exact V
def azv(cs:C_ B_)(v:B_)(m:o.Model)(s:C_ Int)(x:cR)(w:A_)(h:dU w cs m)(j:m.cB)(d:cl w v s)(b:hH m s) :
  EL F.NV #[.agg cs.toArray,v,.agg x.enc.toArray] w λk l=>((lG m s x=none/\k = .tuple #[.slice none 0 0,.bool false])\/(∃a n p,lG m s x=some a/\k = .tuple #[.slice n a.length p,.bool true]/\cl l (.slice n a.length p) a))/\Ext w l:=by
 have J:=h;obtain⟨af,ag,ah,bg,ai,bj,aj,ak,al,an,rfl,_⟩:=h.form;obtain⟨ao,aq,rfl,ar⟩:=d.form;have K:=gA b.1;unfold cR.enc;refine bn E.NV ?_;refine aa ?_;intro au av aw L q;refine aa ?_;intro M ax ay r t;have u:=L.trans r;have N:=r.obj q;refine aa ?_;refine J_ (Vl _ m M (J.ext u) j) ?_;rintro _ az ⟨e,y⟩;have z:=y.obj t;have O:=u.trans y;rcases e with ⟨f,rfl⟩ | ⟨f,aB,rfl,A⟩
 .exact absurd b.1 f
 have P:=A;obtain⟨aC,aD,aE,aF,aG,aH,aI,aJ,aK,aL,aP,aQ,aR,aS,aU,aX,aY,aZ,a0,a1,a3,a5,a7,a8,rfl,_⟩:=A.form;clear q N t;refine aa ?_;intro Q a9 bb g B;have C:=P.ext g;have G:=O.trans g;have H:=g.obj z;refine aa ?_;refine J_ (Vm _ _ m s Q C K (d.ext Flat.ext G)) ?_;rintro _ S ⟨⟨a,rfl,U⟩,c⟩;have V:=U.2 b.2;subst V;have bf:=c.obj B;have bk:=c.obj H;have W:=C.ext c;have i:=G.trans c;clear z H B;refine aa ?_;refine J_ (ag8 _ _ m s x S W j f (d.ext Flat.ext i) b.2) ?_;rintro _ bl ⟨e,I⟩;rcases e with ⟨X,rfl⟩ | ⟨a,Y,Z,ab,rfl,ae⟩
 .refine aa ?_;exact⟨.inl ⟨X,aV⟩,i.trans I⟩
 .refine aa ?_;exact⟨.inr ⟨a,Y,Z,ab,aV,ha ae.here⟩,i.trans I⟩
theorem atr(cs:C_ B_)(v vs:B_)(m:o.Model)(g:C_ (C_ Int))(s:C_ Int)(w:A_)(h:dU w cs m)(n:m.cB)(A:gi w)(U:gS w v g)(L:cl w vs s) :
  EL F.HY #[.agg cs.toArray,v,vs] w λaE ai=>aE = .bool true/\Ext w ai:=by
 have j:=h;obtain⟨cx,cy,cz,bg,cB,bj,cE,cF,cG,cI,rfl,_⟩:=h.form;obtain⟨cK,cL,rfl,_⟩:=U.form;obtain⟨cM,cN,rfl,_⟩:=L.form;have B:∀{i},Ext w i->EL F.Ej #[] i λv ai=>v = .bool true/\Ext i ai:=λaj=>ajb _ (A.ext aj);refine bn E.HY ?_;refine aa ?_;intro bD cP cQ aF k;refine aa ?_;refine J_ (adp _ m bD (j.ext aF)) ?_;rintro _ bE ⟨bG,aG⟩;replace k:=aG.obj k;have V:=aF.trans aG;rcases bG with rfl | ⟨rfl,cS⟩
 .refine aa ?_;refine J_ (B V) ?_;rintro _ aH ⟨rfl,W⟩;refine aa ?_;exact⟨aV,V.trans W⟩
 refine aa ?_;refine J_ (ai9 _ g bE (iR V U)) ?_;rintro _ aH ⟨⟨aI,rfl,aJ⟩,W⟩;replace k:=W.obj k;have x:=V.trans W;cases aI with
 | true =>
  refine aa ?_;refine J_ (B x) ?_;rintro _ ak ⟨rfl,C⟩;refine aa ?_;exact⟨aV,x.trans C⟩
 | false =>
 have cU:=(aJ rfl).1;clear aJ;refine aa ?_;apply I_<;>intro cV
 .refine aa ?_;refine J_ (B x) ?_;rintro _ ak ⟨rfl,C⟩;refine aa ?_;exact⟨aV,x.trans C⟩
 refine aa ?_;refine J_ (ag7 _ m _ s aH (j.ext x) n (L.ext Flat.ext x)) ?_;rintro _ ak ⟨⟨bH,rfl,aK⟩,C⟩;replace k:=C.obj k;have y:=x.trans C;cases bH with
 | false =>
  refine aa ?_;refine J_ (B y) ?_;rintro _ aL ⟨rfl,X⟩;refine aa ?_;exact⟨aV,y.trans X⟩
 | true =>
 have al:=aK.1 rfl;clear aK;refine aa ?_;refine J_ (H8 _ _ _ m g s ak (j.ext y) n (A.ext y) (iR y U) (L.ext Flat.ext y)) ?_;rintro _ aL ⟨an,X⟩;replace k:=X.obj k;have a:=an.form;obtain⟨cW,cX,rfl,_⟩:=a;have M:=y.trans X;refine aa ?_;apply I_<;>intro cY;rotate_left
 .have c0:=aj7 (g:=g) al AY;refine aa ?_;refine J_ (B M) ?_;rintro _ aP ⟨rfl,N⟩;refine aa ?_;exact⟨aV,M.trans N⟩
 have bI:=aym (g:=g) al AY;obtain⟨aQ,c1,aR,bJ⟩:=bI;refine aa ?_;refine J_ (ag5 _ _ m s aL (j.ext M) n (L.ext Flat.ext M) al) ?_;rintro _ aP ⟨Y,N⟩;have bK:=N.obj k;have a:=Y.form;obtain⟨c2,c3,rfl,c4⟩:=a;have ao:=M.trans N;have aq:=an.ext Flat.ext N;have Z:=iR ao U;have aS:=L.ext Flat.ext ao;clear k an;refine aa ?_;refine K_ 9 (ek m s).length [1,2,3,7,8] (λ_:Unit=>[]) () (λ_ _ i=>Ext aP i) aW aW (Ext.refl _) ?_;rintro z _ c5 G aU t;have ab:=t.obj bK;have ar:=ao.trans t;refine aa ?_;apply I_<;>intro aX
 .have O:z<(ek m s).length:=AY
  have au:Yg G _ _:=a6.ext (R:=sO) (λ_ _ _ _ aj h=>sO.ext aj h) t Y;have a:=a6.addr au AY;obtain⟨bL,rfl⟩:=a;have aY:sO G (bL.add (z*3)) ((ek m s)[z]'O):=a6.at au z O;have ae:=aR _ (FA O);clear Y au;generalize (ek m s)[z]'O=c at aY ae;obtain⟨c8,av,aZ⟩:=aY;have a:=aZ.form;obtain⟨db,dc,rfl,_⟩:=a;refine aa ?_;intro aw l;have bM:=av.ext l;refine aa ?_;intro P bN dd f bO;refine⟨f,?_⟩;refine eA ?_;intro H bQ ax;have bU:=l.size;have p:Ext G H:=bQ.ext (l.trans f) AY;have bV:=p.obj ab;have I:=ar.trans p;clear bO bM;refine eA ?_;refine R_ [1,2,3,7,8,9,10] (λ_:Unit=>[]) (λ_ i=>i.heap[bN]? = some (.cells #[.I (if 0<=c.cmd then Ab m g c.cmd else c.cmd),.I c.eH] T.g)/\Ext G i) ?_ ?_
  .refine aa ?_;apply I_<;>intro de
   .refine aa ?_;refine J_ (avw _ _ m g c.cmd H (j.ext I) n (A.ext I) (iR (t.trans p) Z)) ?_;rintro _ Q ⟨rfl,b⟩;have af:=b.obj ax;refine aa ?_;intro ag bW bX;refine aa ?_;exact⟨(),trivial,by rw[if_pos AY];exact bX,bW.ext (p.trans b) AY⟩
   .refine aa ?_;exact⟨(),trivial,by rw[if_neg AY];exact ax,p⟩
  rintro _ bY Q ⟨af,b⟩;have a0:=b.obj ab;have a1:=av.ext b;have J:=ar.trans b;have ay:=t.trans b;clear ax bV av;refine aa ?_;refine J_ (azv _ _ m (nI m g s) ⟨if 0<=c.cmd then Ab m g c.cmd else c.cmd,c.eH⟩ Q (j.ext J) n (aq.ext Flat.ext ay) aQ) ?_;rintro _ ag ⟨a,q⟩;rcases a with ⟨b0,_⟩ | ⟨aI,b1,b3,b4,rfl,b5⟩
  .rw[b0] at ae;cases ae
  have b6:=Option.some.inj (b4.symm.trans ae);subst b6;have df:=q.obj a0;have a3:=a1.ext q;have az:=J.trans q;clear af a0 a1;refine aa ?_;intro a5 u;have di:=a3.ext u;clear a3;have S:=az.trans u;refine aa ?_;refine J_ (H8 _ _ _ m g c.to a5 (j.ext S) n (A.ext S) (iR ((ay.trans q).trans u) Z) (aZ.ext Flat.ext ((b.trans q).trans u))) ?_;rintro _ a7 ⟨a8,ah⟩;have a:=a8.form;obtain⟨dj,dk,rfl,_⟩:=a;refine aa ?_;refine J_ (afB _ _ _ _ a7 (b5.ext Flat.ext (u.trans ah)) a8 rfl) ?_;rintro _ dp ⟨rfl,b8⟩;refine aa ?_;exact⟨O,aV,(),trivial,(((ay.trans q).trans u).trans ah).trans b8⟩
 have a9:=iR t Z;have b9:=aS.ext Flat.ext t;have bb:=aq.ext Flat.ext t;have dq:=auk g;clear aR Z aS aq Y aX;refine aa ?_;refine K_ 14 g.length [1,2,3,7,8] (λc:ez=>[(13,.slice c.1 c.2.1 c.2.2)]) (none,0,0) (λz c i=>ey q3 T.b 1 G.heap.size i (.slice c.1 c.2.1 c.2.2) ((wo g).take z)/\Ext G i) aW aW ⟨ey.nil _ _ _ _ _,Ext.refl _⟩ ?_;rintro d ⟨dr,du,dv⟩ bY aw dw ⟨K,l⟩;dsimp only at K;have dx:=l.obj ab;have ca:=ar.trans l;clear ab;refine aa ?_;apply I_<;>intro aX
 .have e:d<g.length:=AY
  have aB:=iR l a9;have a:=a6.addr aB AY;obtain⟨cb,rfl⟩:=a;have cc:oT aw (cb.add (d*1)) (g[d]'e):=a6.at aB d e;obtain⟨dy,bf,aC⟩:=cc;have a:=aC.form;obtain⟨dz,dA,rfl,_⟩:=a;clear aB;refine aa ?_;intro P f;have bk:=f.cell bf;clear bf;refine aa ?_;refine L_ bk ?_;refine aa ?_;refine L_ bk ?_;refine aa ?_;refine J_ (auj _ _ (g[d]'e) (g[d]'e) P (aC.ext Flat.ext f) (aC.ext Flat.ext f)) ?_;rintro aE H ⟨bl,r⟩;have a:=bl.form;obtain⟨bo,bp,rfl,_⟩:=a;have bq:=K.ext f;have aD:=bq.ext r;have bU:=l.size;have dB:=f.size;have dC:=r.size;have ch:ec P (λw=>cl w (.slice bo (wm (g[d]'e) (g[d]'e)).length bp) (wm (g[d]'e) (g[d]'e))) H:=aT.new (enc:=da) (λ_=>rfl) bl;refine aa ?_;intro Q dF dG b af;have dI:=b.size;refine _A (x:=wm (g[d]'e) (g[d]'e)) (cs:=[.slice bo (wm (g[d]'e) (g[d]'e)).length bp]) (aD.ext b) (g5 af) (((ec.own ch bq AY).imp λw h=>⟨_,rfl,h⟩).ext b λcj dK aU=>by have:=aD.under AY cj aU;omega) rfl (by simp[Value.oneCell']) (by rw[IP];omega) (by rw[IP];unfold maxLen;omega) AY λdL ag bt cm=>?_;have cp:=(aD.ext b).h9 (((l.trans f).trans r).trans b) cm (EM _);have a:=bt.form;obtain⟨bu,bw,rfl,_⟩:=a;refine aa ?_;refine⟨e,aV,(bu,_,bw),aW,?_,cp⟩;rw[Oi AY,show(wo g)[d]' AY=wm (g[d]'e) (g[d]'e) from by simp[wo]];exact bt
 rw[IA AY] at K;have a:=K.form;obtain⟨bu,bw,cq,_⟩:=a;injection cq with cr ct cu
 subst cr ct cu;have cv:gS aw _ _:=K.im;clear K;refine aa ?_;intro P f;have bx:=ca.trans f;have bz:=l.trans f;refine aa ?_;refine J_ (ag5 _ _ m (nI m g s) P (j.ext bx) n (bb.ext Flat.ext bz) aQ) ?_;rintro _ H ⟨bA,r⟩;have a:=bA.form;obtain⟨dM,dO,rfl,dP⟩:=a;refine⟨r,?_⟩;have I:=bx.trans r;have p:=bz.trans r;clear bA;refine aa ?_;refine J_ (H8 _ _ _ m g (nI m g s) H (j.ext I) n (A.ext I) (iR p a9) (bb.ext Flat.ext p)) ?_;rintro _ Q ⟨bB,b⟩;have a:=bB.form;obtain⟨b1,b3,rfl,_⟩:=a;refine⟨r.trans b,?_⟩;have J:=I.trans b;have cw:=p.trans b;refine aa ?_;refine J_ (H8 _ _ _ m (wo g) s Q (j.ext J) n (A.ext J) (iR (f.trans (r.trans b)) cv) (b9.ext Flat.ext cw)) ?_;rintro _ ag ⟨bC,q⟩;have a:=bC.form;obtain⟨dQ,dR,rfl,_⟩:=a;have az:=J.trans q;refine aa ?_;refine J_ (afB _ _ _ _ ag (bB.ext Flat.ext q) bC bJ) ?_;rintro _ a5 ⟨rfl,u⟩;have S:=az.trans u;refine aa ?_;refine J_ (B S) ?_;rintro _ a7 ⟨rfl,ah⟩;refine aa ?_;exact⟨aV,S.trans ah⟩
end Go.Proofs.R
namespace o
open Go
structure azM(m:Model)(dd loop a b:List cR)(L:List cR):Prop where
 ok:(check m).bK=0
 len:(a++b).length=L.length
 gT:L.length<=dd.length+577*loop.length
 mod:b.length % loop.length=0
 run:a++b=(runM m L (dn m)).1
 along:∃d,gE m L (fb m (dn m))=some d
 air:∀i (h:i<L.length) (U:i<dd.length),L[i]=dd[i]
 afL:∀i (h:i<L.length),dd.length<=i->∃U:(i - dd.length) % loop.length<loop.length,L[i]=loop[(i - dd.length) % loop.length]
end o
namespace Go.Proofs.R
open Go Go.RowKit ba o
attribute [local irreducible] ep bF o.insts o.refs jA fH ek dn o.runM gE
end Go.Proofs.R