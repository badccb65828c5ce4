/- Parts. -/
import Derived.Test.YtakmdjclehkglaaGreatDoorQamq
set_option linter.all false
set_option maxRecDepth 8000
set_option maxHeartbeats 32000000
namespace Go.Proofs.R
open Go Go.RowKit ba o
def akj{w0:A_}(cz dp g c q p base:Nat)(m:o.Model)(s:C_ Int)(a:o.Act)(bK bY:B_)(w:A_)(gr:B_->A_->Prop){t}(bR:lT w0 w cz dp g c q base m s)(fx:(o.check m).cJ=0)(ax:o.Fits m s)(hIn:fL m q p)
  (aY:nR (o.inner (m.procs[p]'(hIn.au)) (eC m)) a)(U:eW w bK a.index)(aH:eW w bY a.value)
  (jx:∀u w',kO base g (.slice (some ⟨g,0,none⟩) s.length c) (h9 m s q a) u w w'->gr u w') :
  B6 Tryz.prog (.iface (qU a.kind) (.agg (a.enc bK bY).toArray)) "lariat/fire.do" [.pointer (some ⟨cz,0,none⟩)] w gr t:=by
 obtain⟨cM,vL⟩:=aY.kind;by_cases bG:a.kind=1
 .rw[show qU a.kind=T.yy from by unfold qU;rw[if_pos bG]];exact _s (f:=F.cU) Cx (λw'=>Cx) (akH cz dp g c q p base m s a bK bY w bR fx ax hIn aY bG U aH) jx
 by_cases aD:a.kind=2
 .rw[show qU a.kind=T.a0 from by unfold qU;rw[if_neg bG,if_pos aD]];exact _s (f:=F.Fj) Cx (λw'=>Cx) (akr cz dp g c q p base m s a bK bY w bR fx ax hIn aY aD U aH) jx
 by_cases aO:a.kind=3
 .rw[show qU a.kind=T.db from by unfold qU;rw[if_neg bG,if_neg aD,if_pos aO]];exact _s (f:=F.wJ) Cx (λw'=>Cx) (akA cz dp g c q p base m s a bK bY w bR fx ax hIn aY aO U aH) jx
 by_cases bo:a.kind=4
 .rw[show qU a.kind=T.a2 from by unfold qU;rw[if_neg bG,if_neg aD,if_neg aO,if_pos bo]];exact _s (f:=F.Fl) Cx (λw'=>Cx) (akG cz dp g c q p base m s a bK bY w bR fx ax hIn aY bo U aH) jx
 .rw[show qU a.kind=T.a3 from by unfold qU;rw[if_neg bG,if_neg aD,if_neg aO,if_neg bo]];exact _s (f:=F.nZ) Cx (λw'=>Cx) (akC cz dp g c q p base m s a bK bY w bR fx ax hIn aY Aw U aH) jx
def aki(b:Nat)(m:o.Model)(ref:Int)(q p k:Nat)(w:A_)(h:qa w b m)(br:fe m ref q p k) :
  ∃fE fN aN fh,eW w (.slice fE (bM m p k).guard.length fN) (bM m p k).guard/\lP w (.slice aN (bM m p k).bL.length fh) (bM m p k).bL /\
   ∀W,Ext w W->Ei F.ae #[.pointer (some ⟨b,0,none⟩),.I ref] W λu w'=>u = .agg ((bM m p k).enc (.slice fE (bM m p k).guard.length fN) (.slice aN (bM m p k).bL.length fh)).toArray/\Ext W w':=by
 obtain⟨zs,ak,h⟩:=h;obtain⟨eD,d0,dI,d1,ec,d2,ep,d3,eM,d4,bZ,bz,bN,c1,bT,c2,bW,bw,b1,bD,ca,ci,e1,gh,rfl,_,_,_,_,_,_,_,_,_,_,ab,aP,bA⟩:=h.form;have av:=br.at_.U;have au:=br.at_.au;have hz:=br.at_.hk;have kc:=br.at_.ip;obtain⟨r,rfl⟩:=Nb br.aV;have aT:r<(o.refs m).length:=br.U;have fm:(o.refs m)[r].inst=(q:Int):=br.at_.nk;have ke:(o.refs m)[r].cmd=(k:Int):=br.at_.pU;obtain⟨iN,rfl⟩:=bA.addr;obtain⟨gu,rfl⟩:=aP.addr;obtain⟨a3,rfl⟩:=ab.addr;obtain⟨kC,bY,dQ,c5,eU,eA⟩:=ab.at p au;obtain⟨vT,u4,rfl,vP⟩:=eA.form;obtain⟨ac,rfl⟩:=eA.addr;obtain⟨eI,eY,va,e0,ga,e2⟩:=eA.at k hz;obtain⟨fE,fN,rfl,_⟩:=ga.form;obtain⟨oC,n2,rfl,_⟩:=e2.form;unfold dv.enc at c5;unfold dG.enc at e0;have ha:=sJ au hz;refine⟨fE,fN,oC,n2,by rw[ha];exact ga,by rw[ha];exact e2,λW tX=>?_⟩;replace ak:=tX.obj ak;replace bA:=bA.ext Flat.ext tX;replace aP:=aP.ext Flat.ext tX;replace c5:=c5.ext tX;replace e0:=e0.ext tX;refine bk E.ae ?_;refine I ?_;intro w1 bP c8 af ao;replace ak:=af.obj ak;have Qx:=bA.ext Flat.ext af;refine I ?_;intro az cQ fD ai bn;have tP:(o.refs m)[r].enc=[.I q,.I k]:=by unfold o.Ref.enc;rw[fm,ke]
 rw[tP] at bn;have z4:=cq ao;replace ao:=ai.obj ao;replace ak:=ai.obj ak;have aD:=af.trans ai;have AN:=aP.ext Flat.ext aD;have DE:=c5.ext aD;have Gf:=e0.ext aD;clear Qx;refine I ?_;intro aM ag;replace ao:=ag.obj ao;replace bn:=ag.obj bn;replace ak:=ag.obj ak;replace AN:=AN.ext Flat.ext ag;replace DE:=DE.ext ag;replace Gf:=Gf.ext ag;refine I ?_;refine K_ p (by rw[kc]) au ?_;refine I ?_;intro aR dT bI;refine I ?_;exact⟨by rw[ha];rfl,dT.ext (aD.trans ag) Aw⟩
def akh(dp:Nat)(v:B_)(m:o.Model)(s:C_ Int)(ref:Int)(q p k:Nat)(w:A_)(ew:qa w dp m)(aj:c3 w v s)(ax:o.Fits m s)(br:fe m ref q p k) :
  Ei F.jt #[.pointer (some ⟨dp,0,none⟩),v,.I ref] w λu w'=>((hS m s q (bM m p k)=none/\u = .tuple #[.slice none 0 0,.bool false])\/(∃t ae c,hS m s q (bM m p k)=some t/\u = .tuple #[.slice ae t.length c,.bool true]/\iy w.heap.size w' (.slice ae t.length c) t))/\Ext w w':=by
 have fx:=br.ok;have aL:=gU fx;have hIn:=br.inst;have jf:=br.cin;have qk:=jf.gj;have av:=hIn.av;have hlen:=ax.len;have jN:di m<=64:=iH aL;have vv:=hIn.room;obtain⟨f6,f7,f8⟩:=pT m;obtain⟨sU,iD⟩:=ow av;have y2:=ew;obtain⟨zs,ak,iC⟩:=ew;obtain⟨eD,d0,dI,d1,ec,d2,ep,d3,eM,d4,bZ,bz,bN,c1,bT,c2,bW,bw,b1,bD,zD,yE,e1,gh,rfl,_,_,dF,cR,cA,eN,fs,ad,h1,J,ab,aP,bA⟩:=iC.form;obtain⟨ei,eZ,rfl,fa⟩:=aj.form;obtain⟨r,rfl⟩:=Nb br.aV;have aT:r<(o.refs m).length:=br.U;have fm:(o.refs m)[r].inst=(q:Int):=br.at_.nk;obtain⟨iN,rfl⟩:=bA.addr;obtain⟨a2,rfl⟩:=cA.addr;obtain⟨IS,rfl⟩:=aj.addr;obtain⟨c,tW⟩:∃c,c=bM m p k:=⟨_,rfl⟩;obtain⟨fE,fN,aN,fh,ga,e2,ha⟩:=aki dp m r q p k w y2 br;rw[<-tW] at jf qk ⊢;simp only[<-tW] at ha ga e2;clear dF cR eN fs ad h1 J ab aP iC;have DK:∀{W},Ext w W->W.heap[dp]? = _:=λe=>e.obj ak;refine bk E.jt ?_;simp -dsimp only[cK];refine dV ?_;refine R_ [0,1,2] (λj6:Nat=>[(8,.pointer (some ⟨j6,0,none⟩)),(9,.I q)]) (λj6 W=>w.heap.size<=j6/\Ext w W/\W.heap[j6]? = some (.cells (c.enc (.slice fE c.guard.length fN) (.slice aN c.bL.length fh)).toArray T.q)) ?_ ?_
 .refine I ?_;intro w1 af;replace ak:=af.obj ak;replace bA:=bA.ext Flat.ext af;refine I ?_;refine⟨?_,?_⟩
  .refine J_ (ha w1 af) ?_;rintro _ az ⟨rfl,ai⟩;refine⟨ai,?_⟩;refine I ?_;intro aM j6 mv ag cF;refine⟨ai.trans ag,?_⟩;refine U_ cF rfl rfl (by simp[Value.oneCell',dG.enc]) λaR dT bn=>?_;have aq:Ext az aR:=dT.ext ag mv;refine⟨ai.trans aq,?_⟩;refine I ?_
   have:=af.size
   have:=ai.size
   exact⟨j6,⟨rfl,by first | trivial | (rw[fm];trivial) | simp[fm,Has],trivial⟩,Aw,af.trans (ai.trans aq),bn⟩
  .refine I ?_;intro az j6 mv ai cF;refine⟨ai,?_⟩;refine I ?_;refine J_ (ha az (af.trans ai)) ?_;rintro _ aM ⟨rfl,ag⟩;replace cF:=ag.obj cF;have Y7:=ai.trans ag;refine⟨Y7,?_⟩;refine I ?_;intro aR dT bn;have aq:Ext w1 aR:=dT.ext Y7 mv;refine⟨aq,?_⟩;refine I ?_
   have:=af.size
   exact⟨j6,⟨rfl,by first | trivial | (rw[fm];trivial) | simp[fm,Has],trivial⟩,Aw,af.trans aq,bn⟩
 clear ha ak;rintro j6 S w1 ⟨mv,af,cF⟩;have ayY:=cq cF;have ak:=DK af;have fo:=aj.ext Flat.ext af;have sX:s[cV m q]? = some (s[cV m q]' Aw):=List.getElem?_eq_getElem Aw;refine I ?_;refine J_ (SL _ s w1 fo (by unfold ev;omega)) ?_;rintro u az ⟨dy,ai⟩;replace ak:=ai.obj ak;replace cF:=ai.obj cF;have aD:=af.trans ai;obtain⟨aqJ,Fq,rfl,_⟩:=(kF dy).form;obtain⟨g,rfl⟩:∃g,aqJ=some ⟨g,0,none⟩:=by
  rcases dy.2 with ⟨aw,ad⟩ | ⟨g,cap,cur,h1,_⟩
  .exfalso;injection aw with _ J _;omega
  .injection h1 with h1 _ _;exact⟨g,h1⟩
 refine I ?_;intro aM pF sR ag gZ;have aO:=aD.trans ag;have aam:lT w1 aM pF dp g Fq q w1.heap.size m s:=⟨ai.trans ag,E1 _,y2.ext af,gZ,dy.ext ag⟩;replace ak:=ag.obj ak;replace cF:=ag.obj cF;have gT:=aj.ext Flat.ext aO;have ar8:=cA.ext Flat.ext aO;clear fo dy;refine dV ?_;refine AA0 ak (Ext.refl _) rfl ?_;refine dV ?_;simp -dsimp only[cK];refine dV ?_;refine K_ (cV m q) (by rw[iD]) Aw ?_;refine dV ?_;intro aR aq;have AR:=aam.ext aq;replace cF:=aq.obj cF;replace ak:=aq.obj ak;have bo:=aO.trans aq;clear gT ar8 aam gZ;refine dV ?_;apply I_<;>intro g1;rotate_left
 .refine I ?_;exact⟨.inl ⟨by unfold hS;rw[sX,if_pos (by simpa using g1)],aJ⟩,bo⟩
 have r0:hS m s q c=if 0<c.guard.length/\((o.eval c.guard (cX m s q)).2≠0\/(o.eval c.guard (cX m s q)).1=0) then none else (lu m q c.bL s).map λt=>t.set (cV m q) c.to:=by
  unfold hS;rw[sX,if_neg (by simpa using g1)]
 have aaC:=cF;refine dV ?_;refine R_ [0,2,8,9,10,11] (λ_:Unit=>[]) (λ_ W=>Ext aR W/\¬(0<c.guard.length/\((o.eval c.guard (cX m s q)).2≠0\/(o.eval c.guard (cX m s q)).1=0))) ?_ ?_
 .refine I ?_;apply I_<;>intro g2;rotate_left
  .refine I ?_;exact⟨(),trivial,Ext.refl _,λcI=>Aw⟩
  refine I ?_;refine J_ (C0 pF dp g Fq q p w1.heap.size m s _ c.guard aR AR fx ax hIn (ga.ext bo)) ?_;rintro _ bg ⟨rfl,ar⟩;obtain⟨n,pO⟩:∃n,n=(o.eval c.guard (cX m s q)).1:=⟨_,rfl⟩;obtain⟨e,o5⟩:∃e,e=(o.eval c.guard (cX m s q)).2:=⟨_,rfl⟩;rw[<-pO,<-o5];rw[<-pO,<-o5] at r0;refine I ?_;refine I_ (λkh=>?_) (λkh=>?_);rotate_left
  .refine I ?_;exact⟨.inl ⟨by rw[r0,if_pos ⟨Aw,.inl kh⟩],aJ⟩,bo.trans ar⟩
  refine I ?_;refine I_ (λh2=>?_) (λh2=>?_)
  .refine I ?_;exact⟨.inl ⟨by rw[r0,if_pos ⟨Aw,.inr h2⟩],aJ⟩,bo.trans ar⟩
  .refine I ?_;exact⟨(),trivial,ar,λcI=>by rcases cI.2 with h | h;exact h kh;exact h2 h⟩
 clear cF ak;rintro _ S bg ⟨ar,uc⟩;have hV:hS m s q c=(lu m q c.bL s).map λt=>t.set (cV m q) c.to:=by rw[r0,if_neg uc]
 rw[hV];clear r0 uc hV;have cF:=ar.obj aaC;have QE:=AR.ext ar;have bC:=bo.trans ar;refine I ?_;refine J_ (akk _ c.bL bg (e2.ext af) (ai.trans (ag.trans (aq.trans ar))) (λx ah=>(IQ jf x ah).kind) Aw) ?_;rintro u bp ⟨⟨cb,kA,RO,gv⟩,aC⟩;obtain⟨pj,oU,rfl,_⟩:=(aK.iR k8 RO).form;have alK:=QE.ext aC;have QV:=aC.obj cF;have b5:=bC.trans aC;have Du:=QE.Fa;have z5:=aC.size;clear cF aaC AR QE;refine I ?_;refine L_ 69 cb.length [0,2,8,9,10,11,67,68] (λ_:C_ Int=>[]) s (λn t W=>Mod (λi=>i=g) bp W/\lu m q (c.bL.take n) s=some t/\o.Fits m t/\lT w1 W pF dp g Fq q w1.heap.size m t) a6 a6 ⟨Mod.refl _ _,rfl,ax,alK⟩ ?_;rintro n t aZ bH aw ⟨hl,aB,r3,F1⟩;have am9:g≠j6:=Aw
 have Dj:=hl.obj (λh=>am9 h.symm) QV;have anU:=aK.mod RO hl λi U h=>by have:=(aK.lt RO i U).1;omega
 refine I ?_;apply I_<;>intro g2
 .have hn:n<cb.length:=Aw
  have ze:n<c.bL.length:=Aw
  have aak:=aK.iR k8 anU;obtain⟨ac,rfl⟩:=aak.addr;obtain⟨bK,bY,gx,ot,qo⟩:=gv n hn ze;have gI:bH.cell? (ac.add (n*1))=some (.iface (qU c.bL[n].kind) (.agg (c.bL[n].enc bK bY).toArray)):=by
   have:=aak.at n hn 0 _ (by show(cb[n].1)[0]? = _;rw[gx];rfl)
   rwa[add_zero] at this
  have sO:Ext w1 bH:=hl.ext (ai.trans (ag.trans (aq.trans (ar.trans aC)))) λi U h=>Aw
  have sS:=F1.box;refine I ?_;refine M_ gI ?_;refine I ?_;refine akj pF dp g Fq q p w1.heap.size m t c.bL[n] bK bY bH _ F1 fx r3 hIn (IQ jf _ (E2 ze)) (ot.ext sO) (qo.ext sO) λu cB bA=>?_;obtain⟨bA,jh⟩:=bA;have abz:Mod (λi=>i=g) bp cB:=hl.trans jh;rcases bA with ⟨t2,h1,rfl,J⟩ | ⟨h1,rfl⟩
  .have aba:=XT aL hIn (IQ jf _ (E2 ze)) r3 h1;refine I ?_;exact⟨hn,aJ,t2,trivial,abz,by rw[O1 m q c.bL s ze,aB];exact h1,aba,F1.mod jh J (by rw[aba.len,r3.len])⟩
  .have ey:lu m q c.bL s=none:=O0 m q c.bL s (n+1) (by rw[O1 m q c.bL s ze,aB];exact h1);refine I ?_;exact⟨.inl ⟨by rw[ey];rfl,aJ⟩,abz.ext b5 λi U h=>by have:=af.size;omega⟩
 have qn:n=c.bL.length:=Aw
 rw[qn,AE8] at aB;rw[aB];have sS:=F1.box;have cu:=r3.len;have gd:Ext w bH:=hl.ext b5 λi U h=>by have:=af.size;omega
 have fT:=af.size;refine I ?_;intro cB bt;have QF:=F1.ext bt;have aww:=QF.box;replace Dj:=bt.obj Dj;clear sS;refine I ?_;refine K_ (cV m q) (by rw[iD]) Aw ?_;refine I ?_;refine _z (k:=cV m q) QF.own Aw λcD gA fy=>?_;have alL:=QF.mod (gA.mod rfl) fy (X4 ..);have al3:=alL.box;rw[X4] at al3;refine I ?_;refine⟨.inr ⟨_,some ⟨g,0,none⟩,Fq,rfl,by rw[X4],by rw[X4];exact aK.low fT fy⟩,gA.ext (gd.trans bt) (by show w.heap.size<=g;omega)⟩
def tr(w:A_)(cs:C_ B_)(x:kK):Prop := ∃v,cs=[.int .i64 x.cmd,.int .i64 x.k0,v]/\c3 w v x.to
def yo(w:A_)(a:Addr)(x:kK):Prop := ∃v,ff w a [.int .i64 x.cmd,.int .i64 x.k0,v]/\c3 w v x.to
instance axB:Rel yo tr 3 where
 out h:=by
  obtain⟨v,h1,J⟩:=h;exact⟨_,h1,v,rfl,J⟩
 pb h k:=by
  obtain⟨v,rfl,k⟩:=k;exact⟨v,h,k⟩
 len h:=by obtain⟨v,rfl,_⟩:=h;rfl
 one h:=by obtain⟨v,rfl,h⟩:=h;simpa[Value.oneCell'] using h.one
 ext e h:=let ⟨v,h1,J⟩:=h; ⟨v,h1,J.ext Flat.ext e⟩
theorem yo.ext{w w':A_}{a:Addr}{x:kK}(he:Ext w w')(h:yo w a x):yo w' a x :=
 let ⟨v,h1,J⟩:=h; ⟨v,h1.ext he,J.ext Flat.ext he⟩
abbrev lR(w:A_)(v:B_)(l:C_ kK):Prop:=bm 3 yo w v l
def ase(cs:C_ B_)(v:B_)(m:o.Model)(s:C_ Int)(w:A_)(h:pC w cs m)(aG:m.cr)(hk:(o.check m).cJ=0)(aj:c3 w v s)(ax:o.Fits m s) :
  Ei F.Mo #[.agg cs.toArray,v] w λu w'=>lR w' u (fz m s)/\Ext w w':=by
 have ew:=h;have aL:=gU hk;have ck:=aL.lim;have hM:=pn ck;obtain⟨eD,d0,dI,d1,ec,d2,ep,d3,eM,d4,Er,g0,Es,g1,wb,g2,NM,g3,x7,g4,ca,ci,e1,gh,rfl,_,_,_,_,_,_,_,_,_,J,_⟩:=ew.form;obtain⟨os,oX,rfl,DT⟩:=aj.form;refine bk E.Mo ?_;refine I ?_;intro w1 bP c8 af ao;refine I ?_;refine L_ 6 (o.refs m).length [1,2] (λv:fk=>[(5,.slice v.1 v.2.1 v.2.2)]) (none,0,0) (λk v W=>Ext w1 W/\eO tr T.j 3 w1.heap.size W (.slice v.1 v.2.1 v.2.2) (ki m s k)) a6 a6 ⟨Ext.refl _,eO.nil _ _ _ _ _⟩ ?_;rintro k v S az a1 ⟨ai,dy⟩;have aD:=af.trans ai;have pK:=ai.obj ao;have l4:=MS m s k;obtain⟨adL,co,RN,_⟩:=dy.form;refine I ?_;refine I_ (λkh=>?_) (λkh=>?_)
 .have ue:k<(o.refs m).length:=Aw
  obtain⟨q,p,kY,br⟩:=mn (m:=m) (ref:=k) ⟨hk,Aw,Aw⟩;refine I ?_;refine J_ (aem _ _ m s k q p kY az (ew.ext aD) aG (aj.ext Flat.ext aD) ax br) ?_;rintro u aM ⟨bR,ag⟩;have amc:=ag.obj pK;have aO:=aD.trans ag;rcases bR with ⟨ey,rfl⟩ | ⟨t,kp,hX,rfl,lH⟩
  .refine I ?_;exact⟨ue,aJ,v,⟨rfl,trivial⟩,ai.trans ag,by rw[Hp,br.off ey,S5];exact dy.ext ag⟩
  obtain⟨qs,oW,rfl,_⟩:=lH.form;have aqp:=kF lH;have GK:=aK.new (enc:=bX) (λ_=>rfl) lH;have ez:=dy.ext ag;have z2:=ai.size;have z3:=ag.size;refine I ?_;intro aR cQ fD aq bn;have dj:=ez.ext aq;have z4:=aq.size;refine _F (x:=(⟨k,0,t⟩:kK)) (cs:=[.I k,.I 0,.slice qs t.length oW]) dj (hK bn)
   (((er.own (w1:=aM) GK dy Aw).imp λw h=>⟨_,rfl,h⟩).ext aq λi U hk=>by have:=dy.under Aw i hk;omega) rfl (by simp[Value.oneCell']) Aw (by unfold maxLen;omega) Aw λbU bg uh kS=>?_
  have zX:=dj.jL ((ai.trans ag).trans aq) kS (E1 _);have bC:=af.trans zX;have anN:=(GK.ext aq Aw).grown kS λk hk=>(dy.lt k hk).2;have z5:=zX.size;have y4:=zX.obj ao;obtain⟨aqA,ahQ,rfl,_⟩:=uh.form;have aqq:=anN.here;have z25:az.heap.size<=bg.heap.size:=by have:=kS.size;omega
  clear pK amc bn dj ez GK kS lH aqp;refine I ?_;intro bp aC;have awz:=aC.obj y4;have b5:=bC.trans aC;refine I ?_;refine J_ (TO _ m k q p kY bp (ew.ext b5) br) ?_;rintro _ bH ⟨⟨eY,va,rfl,ga,e2⟩,bc⟩;have cL:=b5.trans bc;refine⟨bc,?_⟩;refine I ?_;refine J_ (atf _ _ _ _ m.aA bH (e2.ext bc) (J.ext cL)) ?_;rintro _ cB ⟨rfl,bt⟩;have eK:=cL.trans bt;have Cb:=(aC.trans bc).trans bt;have amd:=Cb.obj y4;have abV:=uh.ext Cb;obtain⟨avh,Sx⟩:∃x,x=o.ways (bM m p kY) m.aA:=⟨_,rfl⟩;rw[<-Sx];refine I ?_;refine I_ (λh2=>?_) (λh2=>?_);rotate_left
  .refine I ?_;exact⟨ue,aJ,(aqA,_,ahQ),⟨rfl,trivial⟩,zX.trans Cb,by rw[Hp,br.Tq hX Aw];exact abV⟩
  have ov:o.ways (bM m p kY) m.aA=2:=Aw
  obtain⟨j,ay,vx⟩:=afU ov;have cu:=YD br ax hX;have dN:(o.chanOf m s j).length=1+gF m j:=u5 (by rw[ax.len];exact n1 vx);refine I ?_;refine J_ (TO _ m k q p kY cB (ew.ext eK) br) ?_;rintro _ cD ⟨⟨eY,va,rfl,ga,e2⟩,b0⟩;have fO:=eK.trans b0;have q3:=b0.obj amd;refine I ?_;refine J_ (aep _ _ _ cD (e2.ext b0)) ?_;rintro _ et ⟨rfl,cd⟩;have j8:=fO.trans cd;have amb:=cd.obj q3;rw[ay];refine I ?_;intro ft ef;have awy:=ef.obj amb;have qV:=j8.trans ef;refine I ?_;refine J_ (TU _ _ m s j ft (ew.ext qV) aL (aj.ext Flat.ext qV) ax.len vx) ?_;rintro u hf ⟨hu,dH⟩;obtain⟨rr,mT,rfl,_⟩:=hu.form;have oc:=qV.trans dH;have Is:=((b0.trans cd).trans ef).trans dH;refine⟨dH,?_⟩;refine I ?_;refine J_ (T2 _ _ _ m t (o.chanOf m s j) j hf (ew.ext oc) aL (aqq.ext Flat.ext (Cb.trans Is)) hu cu vx dN) ?_;rintro u jX ⟨vD,fW⟩;obtain⟨D3,CK,rfl,_⟩:=vD.form;have anM:=aK.new (enc:=bX) (λ_=>rfl) vD;have Bl:=abV.ext Is;have avi:=fW.size;have z12:=(Cb.trans Is).size;refine I ?_;intro sm tG Dh lD o2;have ayF:=lD.size;have KJ:=Bl.ext (fW.trans lD);have awU:(ki m s k++[(⟨k,0,t⟩:kK)]).length<=2*k+1:=by rw[HO];simp only[List.length_cons,List.length_nil];omega
  have hA:o.lost m s t (bM m p kY)=h0 t (b6 m j) (o.chanOf m s j):=by unfold o.lost;rw[ay,AG8]
  refine _F (x:=(⟨k,1,h0 t (b6 m j) (o.chanOf m s j)⟩:kK)) (cs:=[.I k,.I 1,.slice D3 (h0 t (b6 m j) (o.chanOf m s j)).length CK]) KJ (hK o2)
   (((er.own (w1:=jX) anM Bl Aw).imp λw h=>⟨_,rfl,h⟩).ext lD λi U hk=>by have:=Bl.under Aw i hk;omega) rfl (by simp[Value.oneCell']) Aw (by unfold maxLen;omega) Aw λbU NV abU am8=>?_
  have agm:=KJ.jL (((zX.trans (Cb.trans Is)).trans fW).trans lD) am8 (E1 _);obtain⟨rq,tK,rfl,_⟩:=abU.form;have aoq:ki m s (k+1)=ki m s k++[(⟨k,0,t⟩:kK)]++[(⟨k,1,h0 t (b6 m j) (o.chanOf m s j)⟩:kK)]:=by rw[Hp,br.adK hX ov,hA,NC];rfl
  refine I ?_;exact⟨ue,aJ,(rq,_,tK),⟨rfl,trivial⟩,agm,by rw[aoq];exact abU⟩
 .have gO:k=(o.refs m).length:=Aw
  subst gO;obtain⟨ei,zC,eZ⟩:=v;cases RN;refine I ?_;refine I_ (λh2=>?_) (λh2=>?_)
  .have Bf:ki m s (o.refs m).length=[]:=AF7 Aw;have nI:fz m s=ki m s (o.refs m).length++[⟨-1,0,s⟩]:=by unfold fz;rw[Bf];rfl
   replace dy:eO tr T.j 3 w1.heap.size az (.slice ei (ki m s (o.refs m).length).length eZ) (ki m s (o.refs m).length):=dy;have GA:(ki m s (o.refs m).length).length=0:=by rw[Bf];rfl
   have eo:=aj.ext Flat.ext aD;have z2:=ai.size;refine I ?_;intro aM bV eX ag a8;have ez:iy az.heap.size aM (.slice (some ⟨bV,0,none⟩) 0 0) []:=aK.empty eX a8;have z3:=ag.size;have jN:di m<=64:=iH aL;have lF:=ax.len;refine I ?_;refine _r ez (eo.ext Flat.ext ag) (λ_=>rfl) ht (by simp only[List.length_nil];omega) (by simp only[List.length_nil];unfold maxLen;omega) ag.size λv4 aR dj mY=>?_;have dX:Ext az aR:=ag.grown mY λi U=>(ez.lt i U).1;rw[AF8] at dj;obtain⟨gW,x7,rfl,_⟩:=dj.form;have RK:=aK.new (enc:=bX) (λ_=>rfl) dj;have R2:=dy.ext dX;have z4:=dX.size;refine I ?_;intro bg dJ jc ar bI;have uh:=R2.ext ar;have z5:=ar.size;refine _F (x:=(⟨-1,0,s⟩:kK)) (cs:=[.I (-1),.I 0,.slice gW s.length x7]) uh (hK bI)
    (((er.own (w1:=aR) RK dy Aw).imp λw h=>⟨_,rfl,h⟩).ext ar λi U hk=>by have:=dy.under Aw i hk;omega) rfl (by simp[Value.oneCell']) Aw (by unfold maxLen;omega) Aw λbU bp ui ie=>?_
   have Oj:=uh.jL ((ai.trans dX).trans ar) ie (E1 _);obtain⟨rq,tK,rfl,_⟩:=ui.form;refine I ?_;exact⟨by rw[nI];exact ui.iR,af.trans Oj⟩
  .have nI:fz m s=ki m s (o.refs m).length:=by
    unfold fz;split
    .rename_i aw;rw[aw] at h2;simp at h2
    .rfl
   refine I ?_;exact⟨by rw[nI];exact dy.iR,aD⟩
def asc(cs:C_ B_)(v:B_)(m:o.Model)(s:C_ Int)(w:A_)(h:dh w cs m)(aG:m.cr)(aj:c3 w v s)(bA:gE m s) :
  Ei F.DS #[.agg cs.toArray,v] w λu w'=>lR w' u (fz m s)/\Ext w w':=by
 have b2:=h;obtain⟨bZ,bz,bN,c1,bT,c2,bW,bw,b1,bD,rfl,_⟩:=h.form;obtain⟨os,oX,rfl,DT⟩:=aj.form;have aL:=gU bA.1;refine bk E.DS ?_;refine I ?_;intro w1 cQ fD af bn;refine I ?_;refine J_ (TQ _ m w1 (b2.ext af) aG) ?_;rintro _ az ⟨hO,ai⟩;replace bn:=ai.obj bn;have aD:=af.trans ai;rcases hO with ⟨hk,rfl⟩ | ⟨hk,zs,rfl,ew⟩
 .exact absurd bA.1 hk
 have w7:=ew;obtain⟨eD,d0,dI,d1,ec,d2,ep,d3,eM,d4,Er,g0,Es,g1,wb,g2,NM,g3,x7,g4,ca,ci,e1,gh,rfl,_⟩:=ew.form;refine I ?_;intro aM pF sR ag gZ;have AS:=w7.ext ag;have aO:=aD.trans ag;refine I ?_;refine J_ (TS _ _ m s aM AS aL (aj.ext Flat.ext aO)) ?_;rintro _ bg ⟨⟨t,rfl,aB⟩,ar⟩;obtain rfl:=aB.2 bA.2;replace gZ:=ar.obj gZ;have aap:=AS.ext ar;have bC:=aO.trans ar;refine I ?_;refine J_ (ase _ _ m s bg aap aG hk (aj.ext Flat.ext bC) bA.2) ?_;rintro _ bp ⟨qm,aC⟩;obtain⟨adL,co,rfl,_⟩:=qm.form;refine I ?_;exact⟨qm,bC.trans aC⟩
end Go.Proofs.R
namespace o
open Go
def j9(m:Model)(s:C_ Int)(q:Nat)(c:dG):C_ (C_ Int):=match hS m s q c with
 | none=>[]
 | some t=>t :: if ways c m.aA=2 then [lost m s t c] else []
theorem ajs(m:Model)(s:C_ Int)(q:Nat)(c:dG):(j9 m s q c).length<=2:=by
 unfold j9;cases hS m s q c with
 | none=>simp
 | some t=>by_cases h:ways c m.aA=2<;>simp[h]
theorem fe.ends{m:Model}{r q p k:Nat}(h:fe m r q p k)(s:C_ Int):(o.l7 m s r).length=(j9 m s q (bM m p k)).length/\∀j (h1:j<(o.l7 m s r).length) (J:j<(j9 m s q (bM m p k)).length),(o.l7 m s r)[j]=⟨r,j,(j9 m s q (bM m p k))[j]⟩:=by
 have e:=h.l7 s;cases an:hS m s q (bM m p k) with
 | none =>
  rw[an] at e;have aD:j9 m s q (bM m p k)=[]:=by unfold j9;rw[an]
  rw[e,aD];exact⟨rfl,λj h1=>absurd h1 (E3 _)⟩
 | some t =>
  rw[an] at e;by_cases hw:ways (bM m p k) m.aA=2
  .have aD:j9 m s q (bM m p k)=[t,lost m s t (bM m p k)]:=by unfold j9;rw[an];simp[hw]
   have aO:o.l7 m s r=[⟨r,0,t⟩,⟨r,1,lost m s t (bM m p k)⟩]:=by rw[e];simp[hw]
   rw[aD,aO];refine⟨rfl,λj h1 J=>?_⟩
   match j,h1 with
   | 0,_=>rfl
   | 1,_=>rfl
   | j+2,h1=>exact absurd h1 CC
  .have aD:j9 m s q (bM m p k)=[t]:=by unfold j9;rw[an];simp[hw]
   have aO:o.l7 m s r=[⟨r,0,t⟩]:=by rw[e];simp[hw]
   rw[aD,aO];refine⟨rfl,λj h1 J=>?_⟩
   match j,h1 with
   | 0,_=>rfl
   | j+1,h1=>exact absurd h1 CC
end o
namespace Go.Proofs.R
open Go Go.RowKit ba o
structure yi(base:Nat)(w:World)(u:Value)(cb:List (fv 1))(l:List (List Int)):Prop where
 len:cb.length=l.length
 row:pA T.b 1 base w u cb
 at_:∀i (h1:i<cb.length) (J:i<l.length),∃ae c,cb[i].1=[.slice ae l[i].length c]/\iy base w (.slice ae l[i].length c) l[i]
theorem yi.ext{base:Nat}{w w':A_}{u:B_}{cb:C_ (fv 1)}{l:C_ (C_ Int)}(he:Ext w w')(h:yi base w u cb l):yi base w' u cb l :=
 ⟨h.len,h.row.ext he,λi h1 J=>let ⟨ae,c,e,k⟩:=h.at_ i h1 J; ⟨ae,c,e,k.ext he⟩⟩
def yi.mod{base:Nat}{w w':A_}{u:B_}{cb:C_ (fv 1)}{l:C_ (C_ Int)}{A:Nat->Prop}(h:yi base w u cb l)(hm:Mod A w w')(dd:∀k (x:Array B_) (e:F_),base<=k->w.heap[k]? = some (.cells x e)->e=T.b\/e=T.a->¬A k):yi base w' u cb l :=
 ⟨h.len,aK.mod h.row hm λk hk=>let ⟨x,q⟩:=aK.cy h.row k hk;dd k x _ (aK.lt h.row k hk).1 q (.inl rfl),λi h1 J=>let ⟨ae,c,e,k⟩:=h.at_ i h1 J; ⟨ae,c,e,aK.mod k hm λj ay=>let ⟨x,q⟩:=aK.cy k j ay;dd j x _ (aK.lt k j ay).1 q (.inr rfl)⟩⟩
def akx(dp:Nat)(va iS:B_)(m:o.Model)(s t:C_ Int)(ref:Int)(q p k:Nat)(w:A_)(ew:qa w dp m)(aj:c3 w va s)(aB:c3 w iS t)(aw1:s.length=di m)(cu:t.length=di m)(br:fe m ref q p k)(ov:o.ways (bM m p k) m.aA=2) :
  Ei F.Jx #[.pointer (some ⟨dp,0,none⟩),va,iS,.I ref] w λu w'=>iy w.heap.size w' u (o.lost m s t (bM m p k))/\Ext w w':=by
 obtain⟨j,ay,vx⟩:=afU ov;have aL:=gU br.ok;have s3:=n1 vx;have jN:di m<=64:=iH aL;have dN:(o.chanOf m s j).length=1+gF m j:=u5 Aw;obtain⟨bN,c1,rfl,_⟩:=aj.form;obtain⟨bT,c2,rfl,_⟩:=aB.form;refine bk E.Jx ?_;refine I ?_;refine J_ (Zy dp m ref q p k w ew br) ?_;rintro _ w1 ⟨⟨fE,fN,aN,fh,rfl,ga,e2⟩,af⟩;refine I ?_;refine J_ (YH (bM m p k) _ _ w1 (e2.ext af)) ?_;rintro _ az ⟨rfl,ai⟩;rw[ay];have aD:=af.trans ai;refine I ?_;refine J_ (SL _ t az (aB.ext Flat.ext aD) (by unfold ev;omega)) ?_;rintro u aM ⟨ez,ag⟩;have aO:=aD.trans ag;obtain⟨aqK,avS,rfl,_⟩:=(kF ez).form;obtain⟨g,rfl⟩:∃g,aqK=some ⟨g,0,none⟩:=by
  rcases ez.2 with ⟨aw,ad⟩ | ⟨g,cap,cur,h1,_⟩
  .exfalso;injection aw with _ J _;omega
  .injection h1 with h1 _ _;exact⟨g,h1⟩
 refine I ?_;refine J_ (P4 dp m j aM (ew.ext aO) aL vx) ?_;rintro _ aR ⟨rfl,aq⟩;have bo:=aO.trans aq;have dj:=ez.ext aq;refine I ?_;intro bg ar;have bC:=bo.trans ar;have dC:=dj.ext ar;have rf:=aj.ext Flat.ext bC;refine I ?_;refine _a (k:=.i64) (k':=.i64) (b6 m j) (b6 m j+(1+gF m j)) (kF dC) (by simp[dc,bE]) (by simp[dc,bE]) Aw Aw λTn tI amN _=>?_;refine I ?_;refine _W (k:=.i64) (k':=.i64) (b6 m j) (b6 m j+(1+gF m j)) rf (by simp[dc,bE]) (by simp[dc,bE]) Aw Aw λaxW qR vE=>?_;rw[Pt] at vE;refine I ?_;refine _b (p:=b6 m j) dC vE (by simp only[dc,bE];rfl) (by simp only[dc,bE];rfl) amN Aw Cx Cx λu bp gJ dk=>?_;rw[MT Aw] at dk;have aG:=(aK.lt dC g rfl).1
 have:=aD.size
 refine I ?_;refine⟨?_,gJ.ext bC Aw⟩;have hA:o.lost m s t (bM m p k)=h0 t (b6 m j) (o.chanOf m s j):=by unfold o.lost;rw[ay,AG8]
 rw[hA];exact aK.low aD.size dk
theorem ZR(dp:Nat)(v:B_)(m:o.Model)(s:C_ Int)(ref:Int)(q p k:Nat)(w:A_)(ew:qa w dp m)(aj:c3 w v s)(ax:o.Fits m s)(br:fe m ref q p k) :
  Ei F.Jf #[.pointer (some ⟨dp,0,none⟩),v,.I ref] w λu w'=>(∃cb:C_ (fv 1),yi w.heap.size w' u cb (j9 m s q (bM m p k)))/\Ext w w':=by
 have aL:=gU br.ok;obtain⟨ei,eZ,rfl,fa⟩:=aj.form;have y2:=ew;obtain⟨zs,ak,iC⟩:=ew;obtain⟨eD,d0,dI,d1,ec,d2,ep,d3,eM,d4,bZ,bz,bN,c1,bT,c2,bW,bw,b1,bD,zD,yE,e1,gh,rfl,_,_,dF,cR,cA,eN,fs,ad,h1,J,ab,aP,bA⟩:=iC.form;clear dF cR cA eN fs ad h1 ab aP bA iC;refine bk E.Jf ?_;refine I ?_;refine J_ (akh dp _ m s ref q p k w y2 aj ax br) ?_;rintro _ w1 ⟨gP,af⟩;have fT:=af.size;rcases gP with ⟨ey,rfl⟩ | ⟨t,qs,oW,hX,rfl,lH⟩
 .have he:j9 m s q (bM m p k)=[]:=by unfold j9;rw[ey]
  refine I ?_;exact⟨⟨[],⟨by rw[he];rfl,aK.nil _ _ _ _ _,λi h=>absurd h (E3 _)⟩⟩,af⟩
 have cu:=YD br ax hX;replace ak:=af.obj ak;refine I ?_;intro az bP c8 ai ao;have aD:=af.trans ai;replace ak:=ai.obj ak;have z2:=ai.size;have dy:pA T.b 1 w.heap.size az (.slice (some ⟨bP,0,none⟩) 1 1) [(⟨[.slice qs t.length oW],rfl,by simp[Value.oneCell']⟩:fv 1)]:=aK.sF _ ao Aw rfl k8 rfl (by show 1<=maxLen;unfold maxLen;decide);clear ao;refine I ?_;intro aM ag;replace ak:=ag.obj ak;have ez:=dy.ext ag;have aO:=aD.trans ag;refine I ?_;refine J_ (Zy dp m ref q p k aM (y2.ext aO) br) ?_;rintro _ aR ⟨⟨fE,fN,aN,fh,rfl,ga,e2⟩,aq⟩;refine⟨aq,?_⟩;have bo:=aO.trans aq;refine I ?_;refine J_ (au1 (bM m p k) _ _ _ m.aA aR (e2.ext aq) (J.ext bo)) ?_;rintro _ bg ⟨rfl,ar⟩;have bC:=bo.trans ar;have dC:=ez.ext (aq.trans ar);have RS:=((lH.ext ai).ext ag).ext (aq.trans ar);obtain⟨avh,Sx⟩:∃x,x=o.ways (bM m p k) m.aA:=⟨_,rfl⟩;have Sw:=au0 (bM m p k) m.aA;rw[<-Sx] at Sw ⊢;refine I ?_;refine I_ (λh2=>?_) (λh2=>?_);rotate_left
 .have he:j9 m s q (bM m p k)=[t]:=by unfold j9;rw[hX];simp only;rw[if_neg Aw]
  refine I ?_;refine⟨⟨_,⟨by rw[he];rfl,dC,λi c7 dE=>?_⟩⟩,bC⟩
  have:i=0:=by simp at c7;omega
  subst this;simp only[he,List.getElem_cons_zero];exact⟨_,_,rfl,RS⟩
 have ov:o.ways (bM m p k) m.aA=2:=Aw
 have he:j9 m s q (bM m p k)=[t,o.lost m s t (bM m p k)]:=by unfold j9;rw[hX];simp only;rw[if_pos ov]
 refine I ?_;refine J_ (akx dp _ _ m s t ref q p k bg (y2.ext bC) (aj.ext Flat.ext bC) (kF RS) ax.len cu br ov) ?_;rintro u bp ⟨dk,aC⟩;obtain⟨D3,CK,rfl,_⟩:=(kF dk).form;have b5:=bC.trans aC;have z5:=bC.size;have tk:=aC.size;refine I ?_;intro bH ia hi bc b3;have cL:=b5.trans bc;have dY:=dC.ext (aC.trans bc);refine S_ (enc:=lA) (y:=(⟨[.slice D3 (o.lost m s t (bM m p k)).length CK],rfl,by simp[Value.oneCell']⟩:fv 1)) dY b3 rfl k8 yN CC (by unfold maxLen;simp) (by have:=cL.size;omega) λaxZ n8 Yo cB gy ua=>?_;refine I ?_;have anx:∀i,(Value.slice (some ⟨bP,0,none⟩) 1 1).ownBlock=some i->w.heap.size<=i:=λi U=>(aK.lt dY i U).1;have key:∀{v:B_} {l:C_ Int},iy w.heap.size bH v l->iy w.heap.size cB v l:=λh=>aK.mod h (Mod.grown ua λk hk=>hk) λk hk av=>by
  obtain⟨ir,h1⟩:=aK.cy h k hk;obtain⟨jn,J⟩:=aK.cy dY k av;rw[h1] at J;injection J with J
  injection J with _ J
  revert J;decide
 have db:=key (RS.ext (aC.trans bc));have a2:=key ((aK.low z5 dk).ext bc);refine⟨⟨_,⟨by rw[he];rfl,gy,λi c7 dE=>?_⟩⟩,cL.grown ua anx⟩
 match i,c7 with
 | 0,_ =>
  simp only[he,List.getElem_cons_zero];exact⟨_,_,rfl,db⟩
 | 1,_ =>
  simp only[he,List.getElem_cons_succ,List.getElem_cons_zero];exact⟨_,_,rfl,a2⟩
 | i+2,c7=>exact absurd c7 CC
def aky(dp:Nat)(v:B_)(m:o.Model)(s:C_ Int)(w:A_)(ew:qa w dp m)(hk:(o.check m).cJ=0)(aj:c3 w v s)(ax:o.Fits m s) :
  Ei F.c1 #[.pointer (some ⟨dp,0,none⟩),v] w λu w'=>eO tr T.j 3 w.heap.size w' u (fz m s)/\Ext w w':=by
 have aL:=gU hk;have hM:=pn aL.lim;obtain⟨ei,eZ,rfl,fa⟩:=aj.form;have y2:=ew;obtain⟨zs,ak,iC⟩:=ew;obtain⟨eD,d0,dI,d1,ec,d2,ep,d3,eM,d4,bZ,bz,bN,c1,bT,c2,bW,bw,b1,bD,zD,yE,e1,gh,rfl,_,_,dF,cR,cA,eN,fs,ad,h1,J,ab,aP,bA⟩:=iC.form;clear dF cR cA eN fs ad h1 J ab aP bA iC;refine bk E.c1 ?_;refine I ?_;refine L_ 14 (o.refs m).length [0,1,13] (λv:fk=>[(5,.slice v.1 v.2.1 v.2.2)]) (none,0,0) (λk v W=>Ext w W/\eO tr T.j 3 w.heap.size W (.slice v.1 v.2.1 v.2.2) (ki m s k)) a6 a6 ⟨Ext.refl _,eO.nil _ _ _ _ _⟩ ?_;clear ak;rintro k nr S az a1 ⟨ai,dy⟩;have l4:=MS m s k;refine I ?_;refine I_ (λkh=>?_) (λkh=>?_)
 .have ue:k<(o.refs m).length:=Aw
  obtain⟨q,p,kY,br⟩:=mn (m:=m) (ref:=k) ⟨hk,Aw,Aw⟩;obtain⟨av8,FT⟩:=br.ends s;have tY:=ajs m s q (bM m p kY);refine I ?_;refine J_ (ZR dp _ m s k q p kY az (y2.ext ai) (aj.ext Flat.ext ai) ax br) ?_;rintro u aM ⟨⟨cb,J2⟩,ag⟩;have z2:=ai.size;have z3:=ag.size;have kA:=J2.len;obtain⟨pj,oU,rfl,_⟩:=(aK.iR k8 J2.row).form;have ez:=dy.ext ag;have aO:=ai.trans ag;refine I ?_;refine L_ 22 cb.length [0,1,6,13,14,20,21] (λv:fk=>[(5,.slice v.1 v.2.1 v.2.2)]) nr (λj v W=>Ext w W/\yi az.heap.size W (.slice pj cb.length oU) cb (j9 m s q (bM m p kY))/\eO tr T.j 3 w.heap.size W (.slice v.1 v.2.1 v.2.2) (ki m s k++(l7 m s k).take j)) a6 a6 ⟨aO,J2,by simpa using ez⟩ ?_;clear J2 ez dy;rintro j v S aR ay ⟨aq,Qo,dj⟩;have aal:=aK.iR k8 Qo.row;refine I ?_;refine I_ (λh2=>?_) (λh2=>?_);rotate_left
  .have abl:j=cb.length:=Aw
   rw[MT Aw,<-Hp] at dj;refine I ?_;exact⟨ue,aJ,v,⟨aJ,trivial⟩,aq,dj⟩
  have eT:j<cb.length:=Aw
  obtain⟨ac,rfl⟩:=aal.addr;obtain⟨Tt,PJ,gx,gz⟩:=Qo.at_ j eT Aw;have gI:aR.cell? (ac.add (j*1))=some (.slice Tt (j9 m s q (bM m p kY))[j].length PJ):=by
   have:=aal.at j eT 0 (.slice Tt (j9 m s q (bM m p kY))[j].length PJ) (by show(cb[j].1)[0]? = _;rw[gx];rfl)
   rwa[add_zero] at this
  refine I ?_;refine M_ gI ?_;refine I ?_;intro bg dJ jc ar bI;have dC:=dj.ext ar;have RT:=gz.ext ar;have AL:=Qo.ext ar;have z4:=aq.size;have z5:=ar.size;have hlen:(ki m s k++(l7 m s k).take j).length<=2*k+2:=by rw[HO,H5];omega
  have Si:∀i,(Value.slice v.1 v.2.1 v.2.2).ownBlock=some i->∃x,bg.heap[i]? = some (.cells x T.j):=λi U=>by
   obtain⟨aiW,_,Bh,_⟩:=dC.ex;exact aK.cy Bh i U
  have cv:∀(k:Nat) (x:Array B_) (e:F_),bg.heap[k]? = some (.cells x e)->e=T.b\/e=T.a->(Value.slice v.1 v.2.1 v.2.2).ownBlock=some k->False:=λk x e h1 J ab=>by
   obtain⟨jn,dE⟩:=Si k ab;rw[h1] at dE;injection dE with dE
   injection dE with _ dE
   subst dE
   revert J;decide
  refine _F (x:=(⟨k,j,(j9 m s q (bM m p kY))[j]⟩:kK)) (cs:=[.I k,.I j,.slice Tt (j9 m s q (bM m p kY))[j].length PJ]) dC (hK bI)
   (λW ew=>⟨_,rfl,kF (aK.mod RT ew λi U av=>by
    obtain⟨ir,c7⟩:=aK.cy RT i U;rcases av with av | av
    .exact cv i _ _ c7 (.inr rfl) av
    .have:=(aK.lt RT i U).1
     omega)⟩) rfl (by simp[Value.oneCell']) Aw (by unfold maxLen;omega) Aw λbU bp ui ie=>?_
  have hg:=dC.jL (aq.trans ar) ie (E1 _);have FP:=AL.mod (Mod.grown ie λk hk=>hk) λk x e _ h1 J ab=>cv k x e h1 J ab;obtain⟨rq,tK,rfl,_⟩:=ui.form;refine I ?_;refine⟨eT,aJ,(rq,_,tK),⟨rfl,trivial⟩,hg,FP,?_⟩;rw[MR Aw,<-NC,FT j Aw Aw];exact ui
 .have gO:k=(o.refs m).length:=Aw
  subst gO;obtain⟨adL,co,RN,_⟩:=dy.form;obtain⟨aq3,axV,aiX⟩:=nr;cases RN;refine I ?_;refine I_ (λh2=>?_) (λh2=>?_)
  .have Bf:ki m s (o.refs m).length=[]:=AF7 Aw;have nI:fz m s=ki m s (o.refs m).length++[⟨-1,0,s⟩]:=by unfold fz;rw[Bf];rfl
   replace dy:eO tr T.j 3 w.heap.size az (.slice aq3 (ki m s (o.refs m).length).length aiX) (ki m s (o.refs m).length):=dy;have GA:(ki m s (o.refs m).length).length=0:=by rw[Bf];rfl
   have eo:=aj.ext Flat.ext ai;have z2:=ai.size;have jN:di m<=64:=iH aL;have lF:=ax.len;refine I ?_;refine J_ (SL _ s az eo (by unfold ev;omega)) ?_;rintro u aR ⟨dj,dX⟩;obtain⟨gW,x7,rfl,_⟩:=(kF dj).form;have RK:=aK.new (enc:=bX) (λ_=>rfl) dj;have R2:=dy.ext dX;have z4:=dX.size;refine I ?_;intro bg dJ jc ar bI;have uh:=R2.ext ar;have z5:=ar.size;refine _F (x:=(⟨-1,0,s⟩:kK)) (cs:=[.I (-1),.I 0,.slice gW s.length x7]) uh (hK bI)
    (((er.own (w1:=aR) RK dy Aw).imp λw h=>⟨_,rfl,h⟩).ext ar λi U hk=>by have:=dy.under Aw i hk;omega) rfl (by simp[Value.oneCell']) Aw (by unfold maxLen;omega) Aw λbU bp ui ie=>?_
   have Oj:=uh.jL ((ai.trans dX).trans ar) ie (E1 _);obtain⟨rq,tK,rfl,_⟩:=ui.form;refine I ?_;exact⟨by rw[nI];exact ui,Oj⟩
  .have nI:fz m s=ki m s (o.refs m).length:=by
    unfold fz;split
    .rename_i aw;rw[aw] at h2;simp at h2
    .rfl
   refine I ?_;exact⟨by rw[nI];exact dy,ai⟩
def asi(cs:C_ B_)(v:B_)(m:o.Model)(s:C_ Int)(ref:Int)(q p k:Nat)(w:A_)(h:pC w cs m)(aG:m.cr)(aj:c3 w v s)(ax:o.Fits m s)(br:fe m ref q p k) :
  Ei F.Mp #[.agg cs.toArray,v,.I ref] w λu w'=>(∃t:Bool,u = .bool t/\(t=true↔hS m s q (bM m p k)≠none))/\Ext w w':=by
 have w7:=h;obtain⟨eD,d0,dI,d1,ec,d2,ep,d3,eM,d4,Er,g0,Es,g1,wb,g2,NM,g3,x7,g4,ca,ci,e1,gh,rfl,_⟩:=h.form;obtain⟨os,oX,rfl,_⟩:=aj.form;refine bk E.Mp ?_;refine I ?_;intro w1 bV eX af a8;refine I ?_;refine J_ (aem _ _ m s ref q p k w1 (w7.ext af) aG (aj.ext Flat.ext af) ax br) ?_;rintro u az ⟨bR,ai⟩;have aD:=af.trans ai;rcases bR with ⟨ey,rfl⟩ | ⟨t,kp,hX,rfl,lH⟩
 .refine I ?_;exact⟨⟨false,aJ,by rw[ey];simp⟩,aD⟩
 .obtain⟨qs,oW,rfl,_⟩:=lH.form;refine I ?_;exact⟨⟨true,aJ,by rw[hX];simp⟩,aD⟩
def z6(m:o.Model)(s:C_ Int)(ref:Int)(t:Bool):Prop:=t=true↔(gE m s/\o.Told m ref/\∀q p k,fe m ref q p k->hS m s q (bM m p k)≠none)
theorem asf(cs:C_ B_)(v:B_)(m:o.Model)(s:C_ Int)(ref:Int)(w:A_)(h:dh w cs m)(aG:m.cr)(aj:c3 w v s) :
  Ei F.Ml #[.agg cs.toArray,v,.I ref] w λu w'=>(∃t:Bool,u = .bool t/\z6 m s ref t)/\Ext w w':=by
 have b2:=h;obtain⟨bZ,bz,bN,c1,bT,c2,bW,bw,b1,bD,rfl,_⟩:=h.form;obtain⟨os,oX,rfl,_⟩:=aj.form;have no:∀{P:Prop},¬P->(false=true↔P):=λh=>⟨λk=>(by cases k),λk=>absurd k h⟩;refine bk E.Ml ?_;refine I ?_;intro w1 cQ fD af bn;refine I ?_;refine J_ (TQ _ m w1 (b2.ext af) aG) ?_;rintro _ az ⟨hO,ai⟩;have aD:=af.trans ai;clear bn;rcases hO with ⟨hk,rfl⟩ | ⟨hk,zs,rfl,ew⟩
 .unfold UQ;refine I ?_;intro aM pF sR ag gZ;refine I ?_;exact⟨⟨false,aJ,no λh=>hk h.1.1⟩,aD.trans ag⟩
 have aL:=gU hk;have w7:=ew;obtain⟨eD,d0,dI,d1,ec,d2,ep,d3,eM,d4,Er,g0,Es,g1,wb,g2,NM,g3,x7,g4,ca,ci,e1,gh,rfl,_⟩:=ew.form;refine I ?_;intro aM pF sR ag gZ;have AS:=w7.ext ag;have aO:=aD.trans ag;refine I ?_;refine J_ (TS _ _ m s aM AS aL (aj.ext Flat.ext aO)) ?_;rintro _ aR ⟨⟨t,rfl,aB⟩,aq⟩;replace gZ:=aq.obj gZ;have alO:=AS.ext aq;have bo:=aO.trans aq;cases t with
 | false =>
  refine I ?_;exact⟨⟨false,aJ,no λh=>by have:=aB.2 h.1.2;cases this⟩,bo⟩
 | true =>
  have bA:gE m s:=⟨hk,aB.1 rfl⟩;refine I ?_;apply I_<;>intro g1;rotate_left
  .refine I ?_;exact⟨⟨false,aJ,no λh=>by have:=h.2.1.2;omega⟩,bo⟩
  refine I ?_;apply I_<;>intro g2;rotate_left
  .refine I ?_;exact⟨⟨false,aJ,no λh=>by have:=h.2.1.2;omega⟩,bo⟩
  have bR:o.Told m ref:=⟨hk,Aw,Aw⟩;obtain⟨q,p,k,br⟩:=mn bR;refine I ?_;refine J_ (asi _ _ m s ref q p k aR alO aG (aj.ext Flat.ext bo) bA.2 br) ?_;rintro _ bg ⟨⟨t,rfl,aB⟩,ar⟩;refine I ?_;refine⟨⟨t,aJ,aB.trans ⟨λh=>⟨bA,bR,λeQ gC k' qX=>?_⟩,λh=>h.2.2 q p k br⟩⟩,bo.trans ar⟩;obtain⟨rfl,rfl,rfl⟩:=br.one qX;exact h
end Go.Proofs.R
namespace ba
open Go Go.RowKit
def eO.low{α:Type}{C:A_->C_ B_->α->Prop}{e:F_}{sz base wI:Nat}{w:A_}{v:B_}{xs:C_ α}(ak:wI<=base)(h:eO C e sz base w v xs):eO C e sz wI w v xs:=by
 obtain⟨cb,h1,J,ab⟩:=h.ex;exact⟨cb,h1,aK.low ak J,λi c7 dE=>(ab i c7 dE).mono λk _ hk=>by
  rcases hk with hk | hk
  .exact .inl hk
  .exact .inr Aw⟩
end ba
namespace Go.Proofs.R
open Go Go.RowKit ba o
theorem Zx(cs:C_ B_)(v:B_)(m:o.Model)(s:C_ Int)(w:A_)(h:dh w cs m)(aG:m.cr)(aS:gQ w)(aj:c3 w v s) :
  Ei F.mT #[.agg cs.toArray,v] w λu w'=>((gE m s/\∃b,u = .tuple #[.pointer (some ⟨b,0,none⟩),.bool true]/\qa w' b m)\/(¬gE m s/\∃ae,u = .tuple #[.pointer ae,.bool false]))/\Ext w w':=by
 have b2:=h;obtain⟨bZ,bz,bN,c1,bT,c2,bW,bw,b1,bD,rfl,_⟩:=h.form;obtain⟨os,oX,rfl,_⟩:=aj.form;refine bk E.mT ?_;refine I ?_;intro w1 bP c8 af ao;refine I ?_;refine J_ (akz _ m w1 (b2.ext af) aG (aS.ext af)) ?_;rintro _ az ⟨hO,ai⟩;replace ao:=ai.obj ao;have aD:=af.trans ai;rcases hO with ⟨hk,rfl⟩ | ⟨hk,b,rfl,ak,ew⟩
 .refine I ?_;exact⟨.inr ⟨λbA=>hk bA.1,_,aJ⟩,aD⟩
 refine I ?_;refine J_ (aft _ m _ s az (b2.ext aD) aG (aS.ext aD) (aj.ext Flat.ext aD)) ?_;rintro _ aM ⟨⟨t,rfl,aB⟩,ag⟩;have aO:=aD.trans ag;cases t with
 | false =>
  refine I ?_;exact⟨.inr ⟨λbA=>(by have:=aB.2 bA;cases this),_,aJ⟩,aO⟩
 | true =>
  refine I ?_;exact⟨.inl ⟨aB.1 rfl,b,aJ,ew.ext ag⟩,aO⟩
def akm(dp:Nat)(m:o.Model)(ref:Int)(w:A_)(ew:qa w dp m) :
  Ei F.eZ #[.pointer (some ⟨dp,0,none⟩),.I ref] w λu w'=>(∃t:Bool,u = .bool t/\(t=true↔0<=ref/\ref<(o.refs m).length))/\Ext w w':=by
 obtain⟨zs,ak,iC⟩:=ew;obtain⟨eD,d0,dI,d1,ec,d2,ep,d3,eM,d4,bZ,bz,bN,c1,bT,c2,bW,bw,b1,bD,zD,yE,e1,gh,rfl,_⟩:=iC.form;clear iC;refine bk E.eZ ?_;refine I ?_;refine I_ (λg=>?_) (λg=>?_)
 .refine I ?_;exact⟨⟨_,aJ,by rw[decide_eq_true_eq];exact⟨λh=>⟨Aw,h⟩,λh=>h.2⟩⟩,Ext.refl _⟩
 .refine I ?_;exact⟨⟨false,aJ,by simp only[Bool.false_eq_true,false_iff];omega⟩,Ext.refl _⟩
theorem akf(cs:C_ B_)(v:B_)(m:o.Model)(s:C_ Int)(ref:Int)(w:A_)(h:dh w cs m)(aG:m.cr)(aS:gQ w)(aj:c3 w v s) :
  Ei F.cQ #[.agg cs.toArray,v,.I ref] w λu w'=>(∃t:Bool,u = .bool t/\z6 m s ref t)/\Ext w w':=by
 have b2:=h;obtain⟨bZ,bz,bN,c1,bT,c2,bW,bw,b1,bD,rfl,_⟩:=h.form;obtain⟨os,oX,rfl,_⟩:=aj.form;have no:∀{P:Prop},¬P->(false=true↔P):=λh=>⟨λk=>(by cases k),λk=>absurd k h⟩;refine bk E.cQ ?_;refine I ?_;intro w1 bV eX af a8;refine I ?_;refine J_ (Zx _ _ m s w1 (b2.ext af) aG (aS.ext af) (aj.ext Flat.ext af)) ?_;rintro _ az ⟨dd,ai⟩;have aD:=af.trans ai;rcases dd with ⟨bA,b,rfl,ew⟩ | ⟨bA,ae,rfl⟩
 rotate_left
 .refine I ?_;exact⟨⟨false,aJ,no λcI=>bA cI.1⟩,aD⟩
 refine I ?_;refine J_ (akm b m ref az ew) ?_;rintro _ aM ⟨⟨t,rfl,aB⟩,ag⟩;have aO:=aD.trans ag;cases t with
 | false =>
  refine I ?_;exact⟨⟨false,aJ,no λcI=>by have:=aB.2 cI.2.1.2;cases this⟩,aO⟩
 | true =>
 have bR:o.Told m ref:=⟨bA.1,aB.1 rfl⟩;obtain⟨q,p,k,br⟩:=mn bR;refine I ?_;refine J_ (ZR b _ m s ref q p k aM (ew.ext ag) (aj.ext Flat.ext aO) bA.2 br) ?_;rintro u aR ⟨⟨cb,de⟩,aq⟩;obtain⟨pj,oU,rfl,_⟩:=(aK.iR k8 de.row).form;have kA:=de.len;refine I ?_;refine⟨⟨_,aJ,?_⟩,aO.trans aq⟩;unfold z6;rw[decide_eq_true_eq];constructor
 .intro Dt;refine⟨bA,bR,λeQ gC k' qX aw=>?_⟩;obtain⟨rfl,rfl,rfl⟩:=br.one qX
  have:j9 m s q (bM m p k)=[]:=by unfold j9;rw[aw]
  have ad:cb.length=0:=by rw[kA,this];rfl
  omega
 .rintro⟨_,_,ab⟩;have aF:=ab q p k br;cases an:hS m s q (bM m p k) with
  | none=>exact absurd an aF
  | some t =>
   have:0<(j9 m s q (bM m p k)).length:=by unfold j9;rw[an];simp
   omega
def ake(cs:C_ B_)(v:B_)(m:o.Model)(s:C_ Int)(w:A_)(h:dh w cs m)(aG:m.cr)(aS:gQ w)(aj:c3 w v s) :
  Ei F.dm #[.agg cs.toArray,v] w λu w'=>((gE m s/\eO tr T.j 3 w.heap.size w' u (fz m s))\/(¬gE m s/\u = .slice none 0 0))/\Ext w w':=by
 have b2:=h;obtain⟨bZ,bz,bN,c1,bT,c2,bW,bw,b1,bD,rfl,_⟩:=h.form;obtain⟨os,oX,rfl,_⟩:=aj.form;refine bk E.dm ?_;refine I ?_;intro w1 bV eX af a8;refine I ?_;refine J_ (Zx _ _ m s w1 (b2.ext af) aG (aS.ext af) (aj.ext Flat.ext af)) ?_;rintro _ az ⟨dd,ai⟩;have aD:=af.trans ai;rcases dd with ⟨bA,b,rfl,ew⟩ | ⟨bA,ae,rfl⟩
 rotate_left
 .refine I ?_;exact⟨.inr ⟨bA,aJ⟩,aD⟩
 refine I ?_;refine J_ (aky b _ m s az ew bA.1 (aj.ext Flat.ext aD) bA.2) ?_;rintro u aM ⟨aT,ag⟩;obtain⟨aN,fh,rfl,_⟩:=aT.form;refine I ?_;exact⟨.inl ⟨bA,eO.low aD.size aT⟩,aD.trans ag⟩
structure avx(w:World)(wJ n base:Nat)(bs:List Nat)(M:List (List Bool)):Prop where
 len:bs.length=M.length
 le:bs.length<=n
 row:w.heap[wJ]? = some (.cells (bs.map (λb=>Value.slice (some ⟨b,0,none⟩) n n)++List.replicate (n - bs.length) (Value.slice none 0 0)).toArray T.gu)
 rows:∀j (h:j<bs.length) (bq:j<M.length),w.heap[bs[j]]? = some (.cells (mQ M[j]).toArray T.k)/\M[j].length=n
 low:∀b∈bs,base<=b
end Go.Proofs.R
namespace o
open Go
def kM.lM{m:Model}{ref:Int}{a b:C_ Int}(h:kM m ref a b):a.Pairwise (· < ·)/\b.Pairwise (· < ·):=by
 by_cases aB:Told m ref
 .obtain⟨q,p,k,br⟩:=mn aB;obtain⟨h1,J⟩:=h.there q p k br;exact⟨h1.lM,J.lM⟩
 .obtain⟨rfl,rfl⟩:=h.none aB;exact⟨List.Pairwise.nil,List.Pairwise.nil⟩
end o
namespace ba
open Go Go.RowKit
def ajr(b:Bool):C_ B_:=[.bool b]
end ba
namespace Go.Proofs.R
open Go Go.RowKit ba
def amW(n:Nat)(vs:Nat->H_ Addr×Nat×Nat):C_ B_:=(List.range n).map λj=>cm (vs j)
structure avy(w:World)(wJ n base:Nat)(vs:Nat->Option Addr×Nat×Nat)(xs:Nat->List Bool):Prop where
 head:w.heap[wJ]? = some (.cells (amW n vs).toArray T.gu)
 rows:iW ajr T.k 1 base w n vs xs
end Go.Proofs.R
section
def o.mj.go{m:o.Model}{ref:Int}{q p k:Nat}(br:o.fe m ref q p k)(h:(o.bM m p k).to<=(o.bM m p k).from_):o.mj m ref true :=
 ⟨λaw=>absurd br.told aw,λeQ gC k' cx fV qX _=>by
  obtain⟨rfl,rfl,rfl⟩:=br.one qX;exact⟨λ_=>.inl h,λ_=>rfl⟩⟩
namespace Go.Proofs.R
open Go Go.RowKit ba o
theorem asu(cs:C_ B_)(m:o.Model)(ref:Int)(w:A_)(h:dh w cs m)(aG:m.cr) :
  Ei F.MH #[.agg cs.toArray,.I ref] w λu w'=>(∃t,u = .bool t/\mj m ref t)/\Ext w w':=by
 have b2:=h;obtain⟨bZ,bz,bN,c1,bT,c2,bW,bw,b1,bD,rfl,ad,h1,J,ab,aF,eB,dD,dO,dU,eg⟩:=h.form;refine bk E.MH ?_;refine I ?_;intro w1 bP c8 af ao;refine I ?_;refine J_ (MQ _ m w1 (b2.ext af) aG) ?_;rintro _ az ⟨rfl,ai⟩;replace ao:=ai.obj ao;have aD:=af.trans ai;refine I ?_;apply I_<;>intro g1;rotate_left
 .refine I ?_;exact⟨⟨false,aJ,mj.no λh=>g1 h.1⟩,aD⟩
 have gN:=gU g1;have hM:=pn gN.lim;refine I ?_;refine J_ (zJ _ m az (b2.ext aD) aG gN.lim) ?_;rintro vr aM ⟨fp,ag⟩;obtain⟨e1,mS,rfl,_⟩:=fp.form;have iB:bm 2 (Flat o.Ref.enc) aM _ _:=aK.e4 (enc:=o.Ref.enc) (λ_=>rfl) fp;replace ao:=ag.obj ao;have aO:=aD.trans ag;clear fp;refine I ?_;apply I_<;>intro g2
 .refine I ?_;exact⟨⟨false,aJ,mj.no λh=>by have:=h.2.1;omega⟩,aO⟩
 refine I ?_;apply I_<;>intro g3
 .refine I ?_;exact⟨⟨false,aJ,mj.no λh=>by have:=h.2.2;omega⟩,aO⟩
 obtain⟨q,p,k,br⟩:=mn (m:=m) (ref:=ref) ⟨g1,Aw,Aw⟩;obtain⟨r,rfl⟩:=Nb (show 0<=ref by omega);have aT:r<(o.refs m).length:=Aw
 have fm:(o.refs m)[r].inst=(q:Int):=br.at_.nk;have ke:(o.refs m)[r].cmd=(k:Int):=br.at_.pU;obtain⟨iN,rfl⟩:=iB.addr;have av:=br.at_.U;have au:=br.at_.au;have hz:=br.at_.hk;have kc:=br.at_.ip;obtain⟨a3,rfl⟩:=ab.addr;obtain⟨kC,bY,dQ,c5,eU,eA⟩:=ab.at p au;obtain⟨vT,u4,rfl,vP⟩:=eA.form;obtain⟨ac,rfl⟩:=eA.addr;obtain⟨eI,eY,va,e0,ga,e2⟩:=eA.at k hz;obtain⟨fE,fN,rfl,_⟩:=ga.form;obtain⟨oC,n2,rfl,_⟩:=e2.form;have ha:=sJ au hz;rw[<-ha] at e0;unfold dv.enc at c5;unfold dG.enc at e0;have zi:=c5.ext aO;have AX:=e0.ext aO;refine dV ?_;refine R_ [1,2] (λdm:Nat=>[(6,.pointer (some ⟨dm,0,none⟩))]) (λdm W=>(∃fE fN aN fh,W.heap[dm]? = some (.cells #[.string (bM m p k).name,.I (bM m p k).from_,.I (bM m p k).to,.slice fE (bM m p k).guard.length fN,.slice aN (bM m p k).bL.length fh,.bool (bM m p k).fair] T.q))/\Ext aM W) ?_ ?_
 .have sV:∀{W},Ext aM W->Ei F.Hj #[.agg #[.slice bZ m.scalars.length bz,.slice bN m.vars.length c1,.slice bT m.aA.length c2,.slice (some a3) m.procs.length bw,.slice b1 m.props.length bD]] W λv w'=>(∃gu ci,v = .slice (some gu) (o.insts m).length ci/\ix w' v (o.insts m))/\Ext W w':=λ{W} he=>(tf _ m W (b2.ext (aO.trans he)) aG).mono λv w' ⟨aH,hx⟩=>by
   have aP:ix w' v (o.insts m):=aK.e4 (enc:=cP.enc) (λ_=>rfl) aH;obtain⟨ca,ci,rfl,_⟩:=aP.form;obtain⟨gu,rfl⟩:=aP.addr;exact⟨⟨gu,ci,rfl,aP⟩,hx⟩
  refine I ?_;intro aR aq;replace ao:=aq.obj ao;have alH:=iB.ext Flat.ext aq;have bo:=aO.trans aq;refine I ?_;refine⟨?_,?_⟩
  .refine J_ (sV aq) ?_;rintro _ bg ⟨⟨gu,ci,rfl,aP⟩,ar⟩;have Az:=aq.trans ar;have bC:=aO.trans Az;refine⟨ar,?_⟩;refine I ?_;refine K_ q (by rw[fm]) av ?_;have KH:=zi.ext Az;have QY:=AX.ext Az;refine I ?_;refine⟨?_,?_⟩
   .refine I ?_;refine⟨ar,?_⟩;refine I ?_;refine K_ p (by rw[kc]) au ?_;refine I ?_;refine⟨?_,?_⟩
    .refine I ?_;refine⟨ar,?_⟩;refine I ?_;refine K_ k (by rw[ke]) hz ?_;refine I ?_;refine⟨?_,?_⟩
     .refine I ?_;refine⟨ar,?_⟩;refine I ?_;intro bp dm e8 aC bS;refine⟨ar.trans aC,?_⟩;refine U_ bS rfl rfl yF λbH dz b3=>?_;have cL:=dz.ext aC e8;refine I ?_;exact⟨dm,⟨aJ,trivial⟩,⟨_,_,_,_,b3⟩,Az.trans cL⟩
     .refine O_ ?_;intro bp dm e8 aC bS;refine⟨ar.trans aC,?_⟩;have tV:=QY.ext aC;refine I ?_;refine⟨ar.trans aC,?_⟩;refine U_ bS rfl rfl yF λcD gA cG=>?_;have fO:=gA.ext aC e8;refine I ?_;exact⟨dm,⟨aJ,trivial⟩,⟨_,_,_,_,cG⟩,Az.trans fO⟩
    .refine O_ ?_;intro bp dm e8 aC bS;refine⟨ar.trans aC,?_⟩;have xp:=KH.ext aC;have tV:=QY.ext aC;refine I ?_;refine⟨ar.trans aC,?_⟩;refine I ?_;refine K_ k (by rw[ke]) hz ?_;refine I ?_;refine⟨ar.trans aC,?_⟩;refine U_ bS rfl rfl yF λcD gA cG=>?_;have fO:=gA.ext aC e8;refine I ?_;exact⟨dm,⟨aJ,trivial⟩,⟨_,_,_,_,cG⟩,Az.trans fO⟩
   .refine O_ ?_;intro bp dm e8 aC bS;refine⟨ar.trans aC,?_⟩;have xp:=KH.ext aC;have tV:=QY.ext aC;have av9:=aP.ext Flat.ext aC;refine I ?_;refine⟨ar.trans aC,?_⟩;refine I ?_;refine K_ p (by rw[kc]) au ?_;refine I ?_;refine⟨ar.trans aC,?_⟩;refine I ?_;refine K_ k (by rw[ke]) hz ?_;refine I ?_;refine⟨ar.trans aC,?_⟩;refine U_ bS rfl rfl yF λcD gA cG=>?_;have fO:=gA.ext aC e8;refine I ?_;exact⟨dm,⟨aJ,trivial⟩,⟨_,_,_,_,cG⟩,Az.trans fO⟩
  .refine O_ ?_;intro bg dm e8 ar bS;refine⟨ar,?_⟩;refine I ?_;refine J_ (sV (aq.trans ar)) ?_;rintro _ bp ⟨⟨gu,ci,rfl,aP⟩,aC⟩;have Zd:=(aq.trans ar).trans aC;refine⟨ar.trans aC,?_⟩;refine I ?_;refine K_ q (by rw[fm]) av ?_;have xp:=zi.ext Zd;have tV:=AX.ext Zd;refine I ?_;refine⟨ar.trans aC,?_⟩;refine I ?_;refine K_ p (by rw[kc]) au ?_;refine I ?_;refine⟨ar.trans aC,?_⟩;refine I ?_;refine K_ k (by rw[ke]) hz ?_;refine I ?_;refine⟨ar.trans aC,?_⟩;refine U_ (aC.obj bS) rfl rfl yF λcD gA cG=>?_;have fO:=gA.ext (ar.trans aC) e8;refine I ?_;exact⟨dm,⟨aJ,trivial⟩,⟨_,_,_,_,cG⟩,aq.trans fO⟩
 rintro dm S aR ⟨⟨ax0,avR,iQ,avO,bS⟩,aq⟩;replace ao:=aq.obj ao;have bo:=aO.trans aq;refine I ?_;apply I_<;>intro g5
 .refine I ?_;exact⟨⟨true,aJ,mj.go br g5⟩,bo⟩
 refine I ?_;refine J_ (as7 _ m aR (b2.ext bo) aG) ?_;rintro auX bg ⟨⟨b9,n,aH⟩,ar⟩;have bC:=bo.trans ar;replace ao:=ar.obj ao;have hlen:=ae7 g1;have jT:∃p,auX = .slice p n n/\(0<(jH m).length->p=some ⟨b9,0,none⟩/\n=(jH m).length/\bg.heap[b9]? = some (.cells (mQ (jH m)).toArray T.k)):=by
  rcases aH with ⟨aj,rfl,rfl⟩ | ⟨rfl,aw,_,kV⟩
  .exact⟨none,rfl,λak=>by rw[aj] at ak;simp at ak⟩
  .exact⟨_,rfl,λ_=>⟨rfl,aw,kV⟩⟩
 obtain⟨arj,rfl,RV⟩:=jT;refine I ?_;refine J_ (ael _ m (r:Int) bg (b2.ext bC) aG) ?_;rintro _ bp ⟨⟨fu,kI,a,b,rfl,dd,gP,bA⟩,aC⟩;have b5:=bC.trans aC;have eh:=af5 br bA;have Qn:bm 1 (Flat bX) bp kI b:=aK.e4 (enc:=bX) (λ_=>rfl) gP;obtain⟨ph,sG,rfl,hC⟩:=Qn.form;clear ao bS;refine I ?_;refine L_ 10 b.length [1,7,9] (λ_:Unit=>[]) () (λi _ W=>Ext bp W/\∀j (ay:j<b.length),j<i->pW (jH m) b[j]=false) a6 a6 ⟨Ext.refl _,λj _ ay=>Aw⟩ ?_;rintro i _ j3 bH U ⟨bc,ey⟩;have av7:=Qn.ext Flat.ext bc;refine I ?_;apply I_<;>intro g6;rotate_left
 .refine I ?_;refine⟨⟨false,aJ,mj.of br bA ?_⟩,b5.trans bc⟩;refine⟨λh=>(by cases h),λh=>?_⟩;rcases h with h | h
  .omega
  .obtain⟨x,ah,aj⟩:=List.any_eq_true.1 ((Uf g1 eh).2 h);obtain⟨j,ay,rfl⟩:=List.mem_iff_getElem.1 ah;rw[ey j ay Aw] at aj;cases aj
 have Rv:i<b.length:=Aw
 obtain⟨wA,rfl⟩:=Qn.addr;obtain⟨pk,c7⟩:=eh _ (E2 Rv);obtain⟨rfl,rfl,kV⟩:=RV Aw;have dN:bH.cell? (Addr.add ⟨b9,0,none⟩ ((b[i]).toNat*1))=some (.bool (pW (jH m) b[i])):=fP ((aC.trans bc).obj kV) (by rw[AG2];simp[mQ,pW,show(b[i]).toNat<(jH m).length by omega]);refine I ?_;refine K_ (b[i]).toNat Aw Aw ?_;refine I ?_;refine M_ dN ?_;refine I ?_;cases g7:pW (jH m) b[i] with
 | true =>
  refine I ?_;exact⟨⟨true,aJ,mj.of br bA ⟨λ_=>.inr ((Uf g1 eh).1 (List.any_eq_true.2 ⟨_,E2 Rv,g7⟩)),λ_=>rfl⟩⟩,b5.trans bc⟩
 | false =>
  refine I ?_;refine⟨Rv,aJ,(),trivial,bc,λj ay hy=>?_⟩;rcases AF6 j i with h | h
  .exact ey j ay h
  .obtain rfl:j=i:=Aw
   exact g7
def ast(cs:C_ B_)(m:o.Model)(q l:Int)(w:A_)(h:dh w cs m)(aG:m.cr) :
  Ei F.MG #[.agg cs.toArray,.I q,.I l] w λu w'=>(∃t,u = .bool t/\k4 m q l t)/\Ext w w':=by
 have b2:=h;obtain⟨bZ,bz,bN,c1,bT,c2,bW,bw,b1,bD,rfl,ad,h1,J,ab,aF,eB,dD,dO,dU,eg⟩:=h.form;refine bk E.MG ?_;refine I ?_;intro w1 bV eX af a8;refine I ?_;refine J_ (MQ _ m w1 (b2.ext af) aG) ?_;rintro _ az ⟨rfl,ai⟩;replace a8:=ai.obj a8;have aD:=af.trans ai;refine I ?_;apply I_<;>intro g1;rotate_left
 .refine I ?_;exact⟨⟨false,aJ,k4.no λk=>g1 k.1⟩,aD⟩
 have gN:=gU g1;refine I ?_;refine J_ (tf _ m az (b2.ext aD) aG) ?_;rintro vr aM ⟨fp,ag⟩;have aP:ix aM vr (o.insts m):=aK.e4 (enc:=cP.enc) (λ_=>rfl) fp;obtain⟨ca,ci,rfl,_⟩:=aP.form;replace a8:=ag.obj a8;have aO:=aD.trans ag;clear fp;refine I ?_;apply I_<;>intro g2
 .refine I ?_;exact⟨⟨false,aJ,k4.no λk=>by have:=k.aV;omega⟩,aO⟩
 refine I ?_;apply I_<;>intro g3
 .refine I ?_;exact⟨⟨false,aJ,k4.no λk=>by have:=k.aV;omega⟩,aO⟩
 obtain⟨lN,rfl⟩:=Nb (show 0<=q by omega);have av:lN<(o.insts m).length:=Aw
 obtain⟨p,hIn⟩:=Bs av;have au:=hIn.au;have kc:=hIn.eq;obtain⟨gu,rfl⟩:=aP.addr;obtain⟨a3,rfl⟩:=ab.addr;obtain⟨kC,bY,dQ,c5,eU,eA⟩:=ab.at p au;obtain⟨ei,eZ,rfl,_⟩:=eU.form;obtain⟨vT,u4,rfl,vP⟩:=eA.form;unfold dv.enc at c5;have zi:=c5.ext aO;refine I ?_;intro aR aq;have bo:=aO.trans aq;have yW:=aP.ext Flat.ext aq;have abN:=zi.ext aq;replace a8:=aq.obj a8;refine I ?_;refine K_ p (by rw[kc]) au ?_;refine I ?_;intro bg j6 mv ar cF;refine⟨ar,?_⟩;refine I ?_;intro bp gJ bS;have aC:=gJ.ext ar mv;have axj:=cq a8;replace a8:=aC.obj a8;have b5:=bo.trans aC;clear cF aP yW abN zi;refine I ?_;apply I_<;>intro g4
 .refine I ?_;exact⟨⟨false,aJ,k4.no λk=>by have:=k.aV;omega⟩,b5⟩
 refine I ?_;apply I_<;>intro g5
 .refine I ?_;exact⟨⟨false,aJ,k4.no λk=>by have:=k.lt hIn;omega⟩,b5⟩
 have dd:pz m lN l:=DQ g1 hIn Aw Aw;have hM:=pn gN.lim;refine I ?_;intro bH bc;have cL:=b5.trans bc;replace a8:=bc.obj a8;refine I ?_;refine J_ (zJ _ m bH (b2.ext cL) aG gN.lim) ?_;rintro vr cB ⟨fp,bt⟩;obtain⟨e1,mS,rfl,_⟩:=fp.form;have iB:bm 2 (Flat o.Ref.enc) cB _ _:=aK.e4 (enc:=o.Ref.enc) (λ_=>rfl) fp;clear fp;have eK:=cL.trans bt;refine⟨bt,?_⟩;refine I ?_;refine J_ (atd _ m cB (b2.ext eK) aG gN.lim) ?_;rintro _ cD ⟨⟨L,base,gS,rZ,alW,bA⟩,b0⟩;obtain⟨aqy,ahO,rfl,_⟩:=bA.form;have y0:bm 2 OO cD _ L:=bA.iR;have fO:=eK.trans b0;have ajf:=(bc.trans bt).trans b0;have QH:=gS.len;have cG:=ajf.obj bS;have J8:=iB.ext Flat.ext b0;clear a8 bS bA iB;refine I ?_;refine L_ 11 (o.refs m).length [1,2,8,9,10] (λ_:Unit=>[]) () (λi _ W=>Ext cD W/\∀j,j<i->mL m lN l j->∀k (hk:k<(o.refs m).length),(o.refs m)[k].inst≠lN->∀x y,L[j]? = some x->L[k]? = some y->¬nA x.1 x.2 y.1 y.2) a6 a6 ⟨Ext.refl _,λj h=>absurd h (E3 _)⟩ ?_;rintro i _ S et U ⟨cd,ey⟩;have j8:=fO.trans cd;have gZ:=cd.obj cG;have alG:=J8.ext Flat.ext cd;refine I ?_;apply I_<;>intro g6;rotate_left
 .refine I ?_;exact⟨⟨true,aJ,k4.of dd gS ⟨λ_ j ay=>ey j (by have:=ay.lt;omega) ay,λ_=>rfl⟩⟩,j8⟩
 have vv:i<(o.refs m).length:=Aw
 obtain⟨eQ,gC,k',br⟩:=mn (m:=m) (ref:=i) ⟨g1,Aw,Aw⟩;have fm:(o.refs m)[i].inst=(eQ:Int):=br.at_.nk;have ke:(o.refs m)[i].cmd=(k':Int):=br.at_.pU;have A2:=Qd (q:=lN) (l:=l) br;obtain⟨iN,rfl⟩:=J8.addr;have skip:(¬mL m lN l i)->∀j,j<i+1->mL m lN l j->∀k (hk:k<(o.refs m).length),(o.refs m)[k].inst≠lN->∀x y,L[j]? = some x->L[k]? = some y->¬nA x.1 x.2 y.1 y.2:=λaw j ay ax=>by
  rcases AF6 j i with h | h
  .exact ey j h ax
  .obtain rfl:j=i:=Aw
   exact absurd ax aw
 refine I ?_;apply I_<;>intro g7;rotate_left
 .refine I ?_;intro ft ef;refine I ?_;exact⟨vv,aJ,(),trivial,cd.trans ef,skip λax=>by rw[A2] at ax;rw[fm] at g7;omega⟩
 have an9:eQ=lN:=by rw[fm] at g7;omega
 subst an9;obtain rfl:=hIn.one br.inst;have hz:=br.at_.hk;obtain⟨ac,rfl⟩:=eA.addr;obtain⟨eI,eY,va,e0,ga,e2⟩:=eA.at k' hz;obtain⟨fE,fN,rfl,_⟩:=ga.form;obtain⟨oC,n2,rfl,_⟩:=e2.form;have ha:=sJ au hz;rw[<-ha] at e0;unfold dG.enc at e0;have amz:=e0.ext j8;refine I ?_;refine K_ k' (by rw[ke]) hz ?_;refine I ?_;intro ft ef;refine I ?_;apply I_<;>intro g8;rotate_left
 .refine I ?_;exact⟨vv,aJ,(),trivial,cd.trans ef,skip λax=>by rw[A2] at ax;omega⟩
 have qV:=j8.trans ef;have VL:=cd.trans ef;have awb:=J8.ext Flat.ext VL;have Ru:i<L.length:=Aw
 obtain⟨agN,rfl⟩:=y0.addr;obtain⟨ir,jn,jQ,SD,SE⟩:=y0.at i Ru;clear e0 amz gZ c5 alG;refine I ?_;refine L_ 12 (o.refs m).length [1,2,8,9,10,11] (λ_:Unit=>[]) () (λj _ W=>Ext cD W/\∀k,k<j->∀(hk:k<(o.refs m).length),(o.refs m)[k].inst≠(eQ:Int)->∀y,L[k]? = some y->¬nA L[i].1 L[i].2 y.1 y.2) a6 a6 ⟨VL,λk h=>absurd h (E3 _)⟩ ?_;rintro j _ j3 hf ay ⟨dH,DD⟩;have oc:=fO.trans dH;have awc:=J8.ext Flat.ext dH;refine I ?_;apply I_<;>intro g9;rotate_left
 .refine I ?_;refine⟨vv,aJ,(),trivial,dH,λk hk ax b ak cv x y ah bF=>?_⟩;rcases AF6 k i with h | h
  .exact ey k h ax b ak cv x y ah bF
  .obtain rfl:k=i:=Aw
   rw[List.getElem?_eq_getElem Ru] at ah;injection ah with ah
   subst ah;exact DD b Aw ak cv y bF
 have zb:j<(o.refs m).length:=Aw
 have sW:j<L.length:=Aw
 refine I ?_;apply I_<;>intro g10
 .refine I ?_;intro jX fW;refine I ?_;refine⟨zb,aJ,(),trivial,dH.trans fW,λk hk ue cv y bF=>?_⟩;rcases AF6 k j with h | h
  .exact DD k h ue cv y bF
  .obtain rfl:k=j:=Aw
   exact absurd g10 cv
 obtain⟨jY,jK,Ra,SG,SH⟩:=y0.at j sW;have awF:=jQ.ext dH;have awH:=Ra.ext dH;refine I ?_;refine P_ (.bool (decide (nA L[i].1 L[i].2 L[j].1 L[j].2))) (λw' e=>auy ir jn jY jK _ _ _ _ w' (SD.ext Flat.ext (dH.trans e)) (SE.ext Flat.ext (dH.trans e)) (SG.ext Flat.ext (dH.trans e)) (SH.ext Flat.ext (dH.trans e))) ?_;refine I ?_;intro jX fW;refine I ?_;apply I_<;>intro g11
 .refine I ?_;refine⟨⟨false,aJ,k4.of dd gS ⟨(λh=>by cases h),λh=>?_⟩⟩,oc.trans fW⟩;exact absurd g11 (h i (A2.2 ⟨rfl,Aw⟩) j zb g10 _ _ (List.getElem?_eq_getElem Ru) (List.getElem?_eq_getElem sW))
 .refine I ?_;refine⟨zb,aJ,(),trivial,dH.trans fW,λk hk ue cv y bF=>?_⟩;rcases AF6 k j with h | h
  .exact DD k h ue cv y bF
  .obtain rfl:k=j:=Aw
   rw[List.getElem?_eq_getElem sW] at bF;injection bF with bF
   subst bF;exact g11
end Go.Proofs.R
end
namespace ba
open Go Go.RowKit
section
variable{P:Program}{S:Fr}{w:World}
def gL.as1{α:Type}{enc:α->B_}{g:G_}{p:Nat}{a b:e6}{Q:H_ Nat->fM->Fr->A_->Prop}{k9:Nat}{hC:Array B_}{iL:A_->A_->Prop}{oO qM:C_ α->Prop}{N:Nat}{w0:A_}
  (aG:bu S g = .func (.func k9) #[] hC)(c9:okF P k9=true)(uk:SeqStopsK Fence.wide 0 P k9 hC (λx=>#[enc x]) iL oO qM N w0)(he:Ext w0 w)(tS:EL iL w.heap.size)
  (da Iy:C_ α->A_->Prop)(aP:OwnFrom w.heap.size da)(alk:OwnFrom w.heap.size Iy)(ad:da [] w)
  (GQ:∀pre x W,da pre W->pre.length<N->e5 P a (jI (λuY iX=>KeepsFrom w.heap.size W iX/\iL W iX/\∀e9,uX w.heap.size iX e9 ->
   e5 P b (jI (λ_ b4=>KeepsFrom w.heap.size e9 b4/\iL e9 b4/\da (pre++[x]) b4) (λe _ b4=>e = .ret/\KeepsFrom w.heap.size e9 b4/\Iy (pre++[x]) b4) ⟨⟩) uY e9 ⟨⟩) (λ_ _ _=>False) ⟨⟩) (cg S p (enc x)) W ⟨⟩)
  (AZ:∀D xs W,w.heap.size<=D->oO xs->da xs W->W.heap[D]? = some (.deferred (some []))->Q (some D) .normal S W)
  (aoe:∀D xs W,w.heap.size<=D->Iy xs W->W.heap[D]? = some (.deferred (some []))->Q (some D) .ret S W):pq P (.uI g p a b) Q S w:=by
 refine⟨α,enc,k9,hC,iL,oO,qM,N,w0,aG,c9,uk,he,tS,da,λe xs W=>e = .ret/\Iy xs W,aP,λe s A B row aj r4 aT=>⟨aj.1,alk s A B row aj.2 r4 aT⟩,ad,λpre x W U aE=>?_,AZ,λD e pre W _ gv _ h bb=>?_⟩
 .have h:=GQ pre x W U aE;unfold e5 jI at h;refine qF a _ _ _ W (λe uY iX _ h1=>?_) h;cases e with
  | normal =>
   obtain⟨cM,cW,fr⟩:=h1;refine⟨cM,cW,λe9 aT=>?_⟩;have J:=fr e9 aT;refine qF b _ _ _ e9 (λe j3 oQ _ ab=>?_) J;cases e with
   | normal=>exact ab
   | exit _=>exact absurd ab.1 CC
   | ret=>exact⟨ab.2.1,rfl,ab.2.2⟩
   | hD _=>exact absurd ab.1 CC
  | exit _=>exact h1.elim
  | ret=>exact h1.elim
  | hD _=>exact h1.elim
 .obtain⟨rfl,U⟩:=h;exact aoe D pre W gv U bb
theorem gL.gR{β:Type}{a:e6}{b:tt}{Q:H_ Nat->fM->Fr->A_->Prop}(cH:C_ Nat)(M:β->C_ (Nat×B_))(N:β->A_->Prop)(h1:e5 P a (jI (λgf bO => ∃x,Has gf (M x)/\N x bO) (Q none) ⟨⟩) S w ⟨⟩)
  (J:∀x aZ w',N x w'->pq P b Q (v7 (M x) (vM S cH aZ)) w')(bb:(cH.all λt => !a.gi.contains t)=true:=by rfl):pq P (.jj a b) Q S w:=by
 unfold e5 jI at h1;show dQ P a (wa (λS w=>pq P b Q S w) (Q none)) S w;refine qF a _ _ _ w (λe uY iX hk h=>?_) h1;cases e with
 | normal =>
  obtain⟨x,aL,fl⟩:=h;have h:=J x uY iX fl;rw[Hc cH λt aB=>hk t (MY bb t aB),HP _ aL] at h;exact h
 | exit _=>exact h
 | ret=>exact h
 | hD _=>exact h
def nx.mod{h3:Nat}{cH:C_ F_}{W b4:A_}(h:nx h3 cH W b4):Mod (λk => ¬∃c t f,W.heap[k]? = some (.cells c t f)/\t∈cH) W b4 :=
 ⟨h.1.os,h.1.tape,h.1.output,h.1.size,λk _ aw=>by
  obtain⟨c,t,f,h1,J⟩:=Classical.not_not.1 aw;exact h.2 k c t f h1 J⟩
theorem nx.ext{w:A_}{cH:C_ F_}{W b4:A_}(h:nx w.heap.size cH W b4)(he:Ext w W):Ext w b4:=Below.trans he h.1
def nx.own{α:Type}{enc:α->C_ B_}{e:F_}{sz base h3:Nat}{cH:C_ F_}{W b4:A_}{v:B_}{xs:C_ α}(h:nx h3 cH W b4)(aS:aK enc e sz base W v xs)(he:e∈cH):aK enc e sz base b4 v xs :=
 aS.mod h.mod λk hk a=>by
  obtain⟨cur,an⟩:=aS.cy k hk;exact a ⟨_,_,_,an,he⟩
theorem nx.obj{h3:Nat}{cH:C_ F_}{W b4:A_}(h:nx h3 cH W b4){k:Nat}{c:Array B_}{t:F_}{f:Nat×Nat}(hk:W.heap[k]? = some (.cells c t f))(aB:t∈cH):b4.heap[k]? = some (.cells c t f):=(h.2 k c t f hk aB).trans hk
end
end ba
namespace o
open Go
abbrev EY(m:Model)(q l:Int):={i:Nat // i<(refs m).length/\mL m q l i}
end o
namespace Go.Proofs.R
open Go Go.RowKit ba o
abbrev akE:C_ F_:=[T.c,T.d,T.a,T.f]
def akF{pY w0:A_}{cU nZ qb:Nat}{cs:C_ B_}{m:o.Model}{q l:Int}(oi:w0.heap[cU]? = some (.cells cs.toArray T.f))(Gi:w0.heap[nZ]? = some (.cells #[.I q] T.a))(dN:w0.heap[qb]? = some (.cells #[.I l] T.a))
  (h:dh pY cs m)(re:Ext pY w0)(aG:m.cr)(fx:(o.check m).cJ=0) :
  SeqStopsK Fence.wide 0 Tryz.prog F.w #[.pointer (some ⟨cU,0,none⟩),.pointer (some ⟨nZ,0,none⟩),.pointer (some ⟨qb,0,none⟩)] (λx:EY m q l=>#[.I (x.1:Nat)]) (nx pY.heap.size akE) (λxs => ∀i,mL m q l i->i∈xs.map Subtype.val) (λ_=>True) (o.refs m).length w0:=by
 intro xL jo Ox W ak rX alm bF Kz;have Dl:Ext pY W:=re.trans ak;have aaS:=Ext.obj (w:=w0) ak oi;have aaW:=Ext.obj (w:=w0) ak Gi;have aaP:=Ext.obj (w:=w0) ak dN;have b2:=h;have gN:=gU fx;have hM:=pn gN.lim;obtain⟨bZ,bz,bN,c1,bT,c2,bW,bw,b1,bD,rfl,ad,h1,J,ab,aF,eB,dD,dO,dU,eg⟩:=h.form;refine callsIn_wide.2 (Calls.mono (show Ei F.w #[.func (.yield xL) #[] #[],.pointer (some ⟨cU,0,none⟩),.pointer (some ⟨nZ,0,none⟩),.pointer (some ⟨qb,0,none⟩)] W (λ_ b4=>(∃xs,(∀i,mL m q l i->i∈xs.map Subtype.val)/\jo xs b4)\/(∃pre:C_ (EY m q l),True/\Ox pre b4)) from ?_) λe b4 ⟨v,bG,aD⟩=>⟨⟨v,bG⟩,aD⟩);have C8:∀{pre:C_ (EY m q l)} {w w':A_},jo pre w->Ext w w'->jo pre w':=λ{pre w w'} ay e=>rX pre w w' none ay e.ZU (λr e=>by cases e);clear oi Gi dN;refine bk E.w ?_;refine I ?_;refine J_ (xA _ m W (b2.ext Dl) aG) ?_;rintro bK w1 ⟨dP,af⟩;obtain⟨ca,ci,rfl,_⟩:=dP.form;have bG:=Dl.trans af;refine I ?_;refine J_ (zK _ m w1 (b2.ext bG) gN.lim) ?_;rintro vr az ⟨fp,ai⟩;obtain⟨e1,mS,rfl,_⟩:=fp.form;have aD:=bG.trans ai;have oc:=af.trans ai;have Km:=oc.obj aaS;have Kn:=oc.obj aaW;have Kl:=oc.obj aaP;have ab4:=dP.ext ai;have jy:=C8 Kz oc;clear aaS aaW aaP dP Kz;refine I ?_;refine L_ 13 (o.refs m).length [0,1,2,3,5,11,12] (λ_=>[]) ([]:C_ (EY m q l)) (λk pre w'=>(Ext pY w'/\w'.heap[cU]? = az.heap[cU]? /\ w'.heap[nZ]? = az.heap[nZ]? /\ w'.heap[qb]? = az.heap[qb]? /\ aK cP.enc T.d 2 W.heap.size w' (.slice ca (o.insts m).length ci) (o.insts m)/\aK o.Ref.enc T.c 2 w1.heap.size w' (.slice e1 (o.refs m).length mS) (o.refs m)/\jo pre w')/\pre.length<=k/\∀i,i<k->mL m q l i->i∈pre.map Subtype.val) a6 a6
  ⟨⟨aD,rfl,rfl,rfl,ab4,fp,jy⟩,E1 _,λi h=>absurd h (E3 _)⟩ ?_
 rintro k pre S aM hk ⟨⟨aO,Q3,Q8,Q1,Sm,Sq,sW⟩,sZ,eh⟩;rw[Km] at Q3;rw[Kn] at Q8;rw[Kl] at Q1;refine I ?_;apply I_<;>intro g1;rotate_left
 .refine I ?_;exact .inl ⟨pre,λi U=>eh i (by have:=U.lt;omega) U,sW⟩
 have b8:k<(o.refs m).length:=Aw
 have iB:bm 2 (Flat o.Ref.enc) aM _ _:=aK.e4 (enc:=o.Ref.enc) (λ_=>rfl) Sq;have aaa:ix aM _ (o.insts m):=aK.e4 (enc:=cP.enc) (λ_=>rfl) Sm;obtain⟨iN,rfl⟩:=iB.addr;obtain⟨eQ,gC,k',br⟩:=mn (m:=m) (ref:=k) ⟨fx,Aw,Aw⟩;have fm:(o.refs m)[k].inst=(eQ:Int):=br.at_.nk;have ke:(o.refs m)[k].cmd=(k':Int):=br.at_.pU;have A2:=Qd (q:=q) (l:=l) br;have gI:=iB.at k b8;obtain⟨x,ah⟩:∃x,x=(o.refs m)[k]:=⟨_,rfl⟩;rw[<-ah] at fm ke gI;have gI:ff aM (iN.add (k*2)) x.enc:=gI;unfold o.Ref.enc at gI;refine I ?_;intro wn ia hi fc eI;refine I ?_;intro aR dT b3;replace b3:aR.heap[ia]? = some (.cells #[.I x.inst,.I x.cmd] T.c):=by rw[ah];exact b3
 have aq:Ext aM aR:=dT.ext fc hi;have bo:=aO.trans aq;have aaQ:=aq.obj Q3;have aaU:=aq.obj Q8;have aaN:=aq.obj Q1;have aab:=aaa.ext Flat.ext aq;clear eI fc Q3 Q8 Q1;refine I ?_;intro bg ar;have bC:=bo.trans ar;have Q4:=ar.obj aaQ;have Q9:=ar.obj aaU;have Q2:=ar.obj aaN;have y5:=ar.obj b3;have aac:=aab.ext Flat.ext ar;have Og:=aq.trans ar;have Gw:=C8 sW Og;have Sn:=Sm.ext Og;have Sr:=Sq.ext Og;clear aaQ aaU aaN b3 aab Sm Sq;have skip:¬mL m q l k->∀i,i<k+1->mL m q l i->i∈pre.map Subtype.val:=λaw i U ax=>by
  rcases AF6 i k with h | h
  .exact eh i h ax
  .obtain rfl:i=k:=Aw
   exact absurd ax aw
 refine I ?_;apply I_<;>intro g2;rotate_left
 .refine I ?_;exact⟨b8,aJ,pre,trivial,⟨bC,Q4.trans Km.symm,Q9.trans Kn.symm,Q2.trans Kl.symm,Sn,Sr,Gw⟩,Aw,skip λax=>by rw[A2] at ax;omega⟩
 refine I ?_;have dK:Ei F.t #[.agg #[.slice bZ m.scalars.length bz,.slice bN m.vars.length c1,.slice bT m.aA.length c2,.slice bW m.procs.length bw,.slice b1 m.props.length bD],.slice ca (o.insts m).length ci,.agg #[.I x.inst,.I x.cmd]] bg λu w'=>(∃fE fN aN fh,u = .agg #[.string (bM m gC k').name,.I (bM m gC k').from_,.I (bM m gC k').to,.slice fE (bM m gC k').guard.length fN,.slice aN (bM m gC k').bL.length fh,.bool (bM m gC k').fair])/\Ext bg w':=(YX _ _ m k eQ gC k' bg (b2.ext bC) aac br x fm ke).mono λu w' ⟨⟨eY,va,hu,aw,aY⟩,hx⟩=>by
  obtain⟨fE,fN,rfl,_⟩:=aw.form;obtain⟨aN,fh,rfl,_⟩:=aY.form;exact⟨⟨fE,fN,aN,fh,hu⟩,hx⟩
 refine J_ dK ?_;clear dK;rintro _ bp ⟨⟨fE,fN,aN,fh,rfl⟩,aC⟩;have b5:=bC.trans aC;have Dy:=C8 Gw aC;have aaR:=aC.obj Q4;have aaV:=aC.obj Q9;have aaO:=aC.obj Q2;have ab6:=Sn.ext aC;have G0:=Sr.ext aC;refine⟨aC,?_⟩;clear Q4 Q9 Q2 y5 Sn Sr aac iB aaa gI;refine I ?_;refine Y_ (v:=.I (bM m gC k').from_) rfl ?_;refine I ?_;apply I_<;>intro g3;rotate_left
 .refine I ?_;exact⟨b8,aJ,pre,trivial,⟨b5,aaR.trans Km.symm,aaV.trans Kn.symm,aaO.trans Kl.symm,ab6,G0,Dy⟩,Aw,skip λax=>by rw[A2] at ax;omega⟩
 have ax:mL m q l k:=A2.2 ⟨Aw,g3⟩;refine I ?_;refine _2 (bF pre ⟨k,b8,ax⟩ bp Dy Aw) ?_;rintro e bH (⟨rfl,Rz,A7⟩ | ⟨rfl,Rz⟩)
 .refine⟨.bool true,rfl,?_⟩;refine I ?_;refine⟨b8,aJ,pre++[⟨k,b8,ax⟩],trivial,⟨A7.ext b5,(A7.obj aaR BS).trans Km.symm,(A7.obj aaV BS).trans Kn.symm,(A7.obj aaO BS).trans Kl.symm,A7.own ab6 BS,A7.own G0 BS,Rz⟩,by simp;omega,λi U Rn=>?_⟩;rw[AF1,AG0];rcases AF6 i k with h | h
  .exact .inl (eh i h Rn)
  .obtain rfl:i=k:=Aw
   exact .inr CC
 .refine⟨.bool false,rfl,?_⟩;refine I ?_;exact .inr ⟨_,trivial,Rz⟩
def apN(x:o.Ref)(nZ:Nat)(q:Int)(w:A_)(h:w.heap[nZ]? = some (.cells #[.I q] T.a)) :
  Ei F.s #[.agg #[.I x.inst,.I x.cmd],.pointer (some ⟨nZ,0,none⟩)] w λv w'=>v = .bool (!decide (x.inst=q))/\Ext w w':=by
 refine bk E.s ?_;refine I ?_;intro w1 bx cN af al;have abS:=af.obj h;refine I ?_;exact⟨aJ,af⟩
def akD(cs:C_ B_)(m:o.Model)(q l:Int)(w:A_)(h:dh w cs m) :
  Ei F.yy #[.agg cs.toArray,.I q,.I l] w λv w'=>(∃cU nZ qb,v = .func (.func F.w) #[] #[.pointer (some ⟨cU,0,none⟩),.pointer (some ⟨nZ,0,none⟩),.pointer (some ⟨qb,0,none⟩)]/\w'.heap[cU]? = some (.cells cs.toArray T.f)/\w'.heap[nZ]? = some (.cells #[.I q] T.a)/\w'.heap[qb]? = some (.cells #[.I l] T.a))/\Ext w w':=by
 obtain⟨bZ,bz,bN,c1,bT,c2,bW,bw,b1,bD,rfl,_⟩:=h.form;refine bk E.yy ?_;refine I ?_;intro w1 bV eX af al;refine I ?_;intro az cQ fD ai ao;refine I ?_;intro aM dJ jc ag a8;refine I ?_;exact⟨⟨_,_,_,aJ,(ai.trans ag).obj al,ag.obj ao,a8⟩,(af.trans ai).trans ag⟩
def agn(m:o.Model)(q:Int)(L:C_ (C_ Int×C_ Int))(i:Nat):Prop := ∀j (ay:j<(o.refs m).length),(o.refs m)[j].inst≠q->∀x y,L[i]? = some x->L[j]? = some y->¬nA x.1 x.2 y.1 y.2
def ai3(cs:C_ B_)(m:o.Model)(q l:Int)(w:A_)(h:dh w cs m)(aG:m.cr)(aS:gQ w) :
  Ei F.bP #[.agg cs.toArray,.I q,.I l] w λu w'=>(∃t,u = .bool t/\k4 m q l t)/\Ext w w':=by
 have b2:=h;obtain⟨bZ,bz,bN,c1,bT,c2,bW,bw,b1,bD,rfl,ad,h1,J,ab,aF,eB,dD,dO,dU,eg⟩:=h.form;refine gL.start l3 EI.bP (args:=[_,_,_]) (Nat.le_of_ble_eq_true rfl) ?_;dsimp only[D.bP,aQ,cE,kI,cS,p0,du,iv,hG,ee,aU,fK,fu,eJ,iw,ys,mg,dR,iT,B3,iU,ks,yd,pv,cT,kr,iu,qG,N5,EA,oG,wg,we,sq,mf,yc,List.map_cons,List.map_nil];refine gL.jj ?_;refine I ?_;intro w1 bV eX af a8;refine I ?_;intro az cQ fD ai bn;refine I ?_;intro aM dm e8 ag bS;have aO:=(af.trans ai).trans ag;replace a8:=(ai.trans ag).obj a8;replace bn:=ag.obj bn;have jY:=af.size;have jK:=ai.size;have xb:w.heap.size<=dm:=Aw
 refine I ?_;refine gL.jj ?_;refine I ?_;refine J_ (zx _ m aM (b2.ext aO) aG (aS.ext aO)) ?_;rintro _ aR ⟨rfl,aq⟩;replace a8:=aq.obj a8;replace bn:=aq.obj bn;replace bS:=aq.obj bS;have bo:=aO.trans aq;refine I ?_;refine Y_ (v:=.I (o.check m).cJ) rfl ?_;refine I ?_;apply I_<;>intro g1;rotate_left
 .refine I ?_;intro bg e3 bI;have ar:=e3.ext bo xb;refine gL.Fz ?_;refine I ?_;exact⟨⟨false,aJ,k4.no λk=>g1 k.1⟩,ar⟩
 have gN:=gU g1;have hM:=pn gN.lim;refine I ?_;refine gL.gR [1,2,3,4,6] (λx:(H_ Addr×Nat)×Nat=>[(7,.slice x.1.1 (o.insts m).length x.1.2),(8,.pointer (some ⟨x.2,0,none⟩))]) (λx W=>(∃e1 mS,W.heap[x.2]? = some (.cells #[.slice e1 (o.refs m).length mS] T.g)/\tu W (.slice e1 (o.refs m).length mS) (o.refs m))/\ix W (.slice x.1.1 (o.insts m).length x.1.2) (o.insts m)/\Ext aR W) ?_ ?_
 .have sV:∀{W},Ext aR W->Ei F.c #[.agg #[.slice bZ m.scalars.length bz,.slice bN m.vars.length c1,.slice bT m.aA.length c2,.slice bW m.procs.length bw,.slice b1 m.props.length bD]] W λv w'=>(∃ca ci,v = .slice ca (o.insts m).length ci/\aK cP.enc T.d 2 W.heap.size w' v (o.insts m))/\Ext W w':=λ{W} he=>(xA _ m W (b2.ext (bo.trans he)) aG).mono λv w' ⟨aH,hx⟩=>by
   obtain⟨ca,ci,rfl,_⟩:=aH.form;exact⟨⟨ca,ci,rfl,aH⟩,hx⟩
  have R7:∀{W},Ext aR W->Ei F.d #[.agg #[.slice bZ m.scalars.length bz,.slice bN m.vars.length c1,.slice bT m.aA.length c2,.slice bW m.procs.length bw,.slice b1 m.props.length bD]] W λv w'=>(∃ca ci,v = .slice ca (o.refs m).length ci/\aK o.Ref.enc T.c 2 W.heap.size w' v (o.refs m))/\Ext W w':=λ{W} he=>(zK _ m W (b2.ext (bo.trans he)) gN.lim).mono λv w' ⟨aH,hx⟩=>by
   obtain⟨ca,ci,rfl,_⟩:=aH.form;exact⟨⟨ca,ci,rfl,aH⟩,hx⟩
  have TP:∀{W v base},aK cP.enc T.d 2 base W v (o.insts m)->ix W v (o.insts m):=λh=>aK.e4 (enc:=cP.enc) (λ_=>rfl) h;have TR:∀{W v base},aK o.Ref.enc T.c 2 base W v (o.refs m)->tu W v (o.refs m):=λh=>aK.e4 (enc:=o.Ref.enc) (λ_=>rfl) h;refine I ?_;intro bg ar;replace a8:=ar.obj a8;refine I ?_;refine⟨?_,?_⟩
  .refine J_ (sV ar) ?_;rintro _ bp ⟨⟨ca,ci,rfl,aP⟩,aC⟩;have b5:=ar.trans aC;refine⟨aC,?_⟩;refine I ?_;refine⟨?_,?_⟩
   .refine J_ (R7 b5) ?_;rintro _ bH ⟨⟨e1,mS,rfl,bA⟩,bc⟩;have cL:=b5.trans bc;refine I ?_;intro cB j6 mv bt cF;refine⟨(aC.trans bc).trans bt,?_⟩;refine I ?_;intro cD gA cG;have b0:=gA.ext bt mv;refine I ?_;exact⟨((ca,ci),j6),⟨aJ,aJ,trivial⟩,⟨_,_,cG,TR (bA.ext b0)⟩,TP (aP.ext (bc.trans b0)),cL.trans b0⟩
   .refine O_ ?_;intro bH j6 mv bc cF;refine⟨aC.trans bc,?_⟩;have cL:=b5.trans bc;refine I ?_;refine J_ (R7 cL) ?_;rintro _ cB ⟨⟨e1,mS,rfl,bA⟩,bt⟩;have Dj:=cF;replace cF:=bt.obj cF;refine I ?_;intro cD gA cG;have b0:Ext bp cD:=gA.ext (bc.trans bt) mv;have S1:=cq Dj;refine I ?_;exact⟨((ca,ci),j6),⟨aJ,aJ,trivial⟩,⟨_,_,cG,TR (bA.wr gA S1)⟩,TP (aP.ext b0),b5.trans b0⟩
  .refine O_ ?_;intro bp j6 mv aC cF;have b5:=ar.trans aC;refine⟨aC,?_⟩;refine I ?_;refine J_ (sV b5) ?_;rintro _ bH ⟨⟨ca,ci,rfl,aP⟩,bc⟩;have cL:=b5.trans bc;refine⟨aC.trans bc,?_⟩;refine I ?_;refine J_ (R7 cL) ?_;rintro _ cB ⟨⟨e1,mS,rfl,bA⟩,bt⟩;have QV:=cF;have Dj:=bc.obj cF;replace cF:=(bc.trans bt).obj cF;refine I ?_;intro cD gA cG;have apj:=cq QV;have S1:=cq Dj;have b0:Ext bg cD:=gA.ext ((aC.trans bc).trans bt) mv;refine I ?_;exact⟨((ca,ci),j6),⟨aJ,aJ,trivial⟩,⟨_,_,cG,TR (bA.wr gA S1)⟩,TP ((aP.ext bt).wr gA apj),ar.trans b0⟩
 rintro⟨⟨ca,ci⟩,j6⟩ S bg ⟨⟨e1,mS,cF,bA⟩,aP,ar⟩;dsimp only at cF aP;replace a8:=ar.obj a8;replace bn:=ar.obj bn;replace bS:=ar.obj bS;have bC:=bo.trans ar;refine gL.jj ?_;have bad:∀{W:A_} {aZ:Fr},Ext bg W->¬pz m q l->True:=λ_ _=>trivial;have axk:=cq bS;refine I ?_;apply I_<;>intro g2
 .refine I ?_;intro bp aC;replace bS:=aC.obj bS;refine I ?_;intro bH dz b3;refine gL.Fz ?_;refine I ?_;exact⟨⟨false,aJ,k4.no λk=>by have:=k.aV;omega⟩,dz.ext (bC.trans aC) xb⟩
 refine I ?_;apply I_<;>intro g3
 .refine I ?_;intro bp aC;replace bS:=aC.obj bS;refine I ?_;intro bH dz b3;refine gL.Fz ?_;refine I ?_;exact⟨⟨false,aJ,k4.no λk=>by have:=k.aV;omega⟩,dz.ext (bC.trans aC) xb⟩
 refine I ?_;apply I_<;>intro g4
 .refine I ?_;intro bp aC;replace bS:=aC.obj bS;refine I ?_;intro bH dz b3;refine gL.Fz ?_;refine I ?_;exact⟨⟨false,aJ,k4.no λk=>by have:=k.aV;omega⟩,dz.ext (bC.trans aC) xb⟩
 obtain⟨lN,rfl⟩:=Nb (show 0<=q by omega);have av:lN<(o.insts m).length:=Aw
 obtain⟨p,hIn⟩:=Bs av;have au:=hIn.au;have kc:=hIn.eq;obtain⟨gu,rfl⟩:=aP.addr;obtain⟨a3,rfl⟩:=ab.addr;obtain⟨kC,bY,dQ,c5,eU,eA⟩:=ab.at p au;obtain⟨ei,eZ,rfl,_⟩:=eU.form;obtain⟨vT,u4,rfl,vP⟩:=eA.form;unfold dv.enc at c5;have KH:=c5.ext bC;refine I ?_;refine K_ p (by rw[kc]) au ?_;refine I ?_;intro bp aC;replace a8:=aC.obj a8;replace bn:=aC.obj bn;replace bS:=aC.obj bS;replace cF:=aC.obj cF;have sQ:=bA.ext Flat.ext aC;have b5:=bC.trans aC;apply I_<;>intro g5
 .refine I ?_;intro bH dz b3;refine gL.Fz ?_;refine I ?_;exact⟨⟨false,aJ,k4.no λk=>by have:=k.lt hIn;omega⟩,dz.ext b5 xb⟩
 have dd:pz m lN l:=DQ g1 hIn Aw Aw;clear c5 KH aP bA;refine I ?_;refine gL.jj ?_;refine I ?_;refine J_ (auG _ m bp (b2.ext b5) aG (aS.ext b5) gN.lim) ?_;rintro _ bH ⟨⟨L,base,gS,rZ,alW,QB⟩,bc⟩;obtain⟨aqy,ahO,rfl,_⟩:=QB.form;have y0:bm 2 OO bH _ L:=QB.iR;have QH:=gS.len;have cL:=b5.trans bc;replace a8:=bc.obj a8;replace bn:=bc.obj bn;replace bS:=bc.obj bS;replace cF:=bc.obj cF;have alC:=sQ.ext Flat.ext bc;clear QB sQ;refine I ?_;intro wn b9 lZ fc eI;refine I ?_;intro cB ji cG;have bt:Ext bH cB:=ji.ext fc lZ;clear eI;have eK:=cL.trans bt;replace a8:=bt.obj a8;replace bn:=bt.obj bn;replace bS:=bt.obj bS;replace cF:=bt.obj cF;refine I ?_;refine gL.uK (gL.jj ?_);refine I ?_;refine J_ (akD _ m lN l cB (b2.ext eK)) ?_;rintro _ cD ⟨⟨cU,nZ,qb,rfl,am4,am5,lF⟩,b0⟩;have fO:=eK.trans b0;replace bn:=b0.obj bn;replace bS:=b0.obj bS;replace cF:=b0.obj cF;replace cG:=b0.obj cG;have alD:=alC.ext Flat.ext (bt.trans b0);have ajg:=bt.trans b0;clear a8;have tk:=cq bS;have z4:=cq bn;have Ic:=cq cF;have z9:=cq cG;refine I ?_;refine gL.cy (gL.as1 (w0:=cD) (enc:=λx:EY m lN l=>.I (x.1:Nat)) (by simp[dc,bE]) Cx (akF am4 am5 lF h fO aG g1) (Ext.refl _) (nx.ok _ fO.size)
  (λpre W=>Ext cD W/\∀x∈pre,agn m lN L x.1) (λ_ W=>Mod (λk=>k=dm) cD W/\W.heap[dm]? = some (.cells #[.bool false] T.k)/\¬Ce m L lN l) ?_ ?_ ⟨Ext.refl _,λx ah=>by cases ah⟩ ?_ ?_ ?_)
 .rintro pre W b4 row ⟨he,FV⟩ r4 aT;exact⟨he.grown r4 λk hk=>(aT k hk).1,FV⟩
 .rintro _ W b4 row ⟨hm,an,aw⟩ r4 aT;have fX:Mod (λk=>row=some k) W b4:=Mod.grown r4 λk hk=>hk;refine⟨hm.comp fX (λ_ _ a=>a) λk hk a=>?_,fX.obj (λa=>?_) an,aw⟩
  .have:=(aT k a).1;omega
  .have:=(aT dm a).1;omega
 .rintro pre x W ⟨tX,FV⟩ cu;refine dV ?_;refine⟨(Ext.refl W).keeps _,(Ext.refl W).iG (Ns fO.size tX.size),λe9 xr=>?_⟩;have ai:Ext cD e9:=xr.ext tX (E1 _);have gW:=ai.obj bn;have D4:=ai.obj cF;have TI:=ai.obj cG;have Qy:=alD.ext Flat.ext ai;have xx:=x.2.1;have KZ:x.1<L.length:=Aw
  have aai:tu e9 _ (o.refs m):=Qy;have awd:=y0;have agk:=ajg.trans ai;obtain⟨agN,rfl⟩:=y0.addr;obtain⟨ir,jn,jQ,SD,SE⟩:=y0.at x.1 KZ;obtain⟨arR,arS⟩:=(gS.is x.1 KZ).lM;refine I ?_;refine L_ 58 (o.refs m).length [4,6,9,10,11,56,57] (λ_:Unit=>[]) () (λj _ b4=>Ext e9 b4/\∀k,k<j->∀(hk:k<(o.refs m).length),(o.refs m)[k].inst≠(lN:Int)->∀y,L[k]? = some y->¬nA L[x.1].1 L[x.1].2 y.1 y.2) a6 a6 ⟨Ext.refl _,λk h=>absurd h (E3 _)⟩ ?_;rintro j _ j3 et ay ⟨cd,DD⟩;refine I ?_;apply I_<;>intro g6;rotate_left
  .refine I ?_;refine⟨cd.keeps _,cd.iG (Ns fO.size ai.size),ai.trans cd,λv aH=>?_⟩;rcases List.mem_append.1 aH with aH | aH
   .exact FV v aH
   .rw[AF2] at aH;subst aH;intro k hk cv a b aY ak;rw[List.getElem?_eq_getElem KZ] at aY;injection aY with aY
    subst aY;exact DD k Aw hk cv b ak
  have zb:j<(o.refs m).length:=Aw
  have KA:j<L.length:=Aw
  obtain⟨iN,rfl⟩:=aai.addr;have gI:=(aai.ext Flat.ext cd).at j zb;obtain⟨r,aT⟩:∃r,r=(o.refs m)[j]:=⟨_,rfl⟩;rw[<-aT] at gI;have gI:ff et (iN.add (j*2)) r.enc:=gI;unfold o.Ref.enc at gI;have next:∀{W},Ext e9 W->(r.inst≠(lN:Int)->¬nA L[x.1].1 L[x.1].2 L[j].1 L[j].2)->Ext e9 W/\∀k,k<j+1->∀(hk:k<(o.refs m).length),(o.refs m)[k].inst≠(lN:Int)->∀y,L[k]? = some y->¬nA L[x.1].1 L[x.1].2 y.1 y.2:=λe aw=>⟨e,λk hk ue cv y bF=>by
   rcases AF6 k j with h | h
   .exact DD k h ue cv y bF
   .obtain rfl:k=j:=Aw
    rw[List.getElem?_eq_getElem KA] at bF;injection bF with bF
    subst bF;exact aw (by rw[aT];exact cv)⟩
  have aec:=cd.obj gW;have aed:=cd.obj TI;refine I ?_;intro wn b13 F5 fc eI;refine I ?_;intro ft hZ gw;replace gw:ft.heap[b13]? = some (.cells #[.I r.inst,.I r.cmd] T.c):=by first | exact gw | (rw[aT];exact gw)
  have ef:Ext et ft:=hZ.ext fc F5;have arX:=ef.obj aec;have aya:=ef.obj aed;have j1:=cd.trans ef;clear eI gI aec aed;have call:∀{w':A_},Ext ft w'->Ei F.s #[.agg #[.I r.inst,.I r.cmd],.pointer (some ⟨cQ,0,none⟩)] w' λv bO=>v = .bool (!decide (r.inst=(lN:Int)))/\Ext w' bO:=λe=>apN r cQ lN _ (e.obj arX);by_cases g7:r.inst=(lN:Int)
  .refine I ?_;refine _w (.bool false) (λw' e=>_d (first:=[]) (cap:=[.pointer (some ⟨cQ,0,none⟩)]) Cx (call e) λv bO ⟨h1,J⟩=>⟨by rw[h1,decide_eq_true g7];rfl,J⟩) ?_;refine I ?_;intro hf dH;refine I ?_;exact⟨zb,aJ,(),trivial,next (j1.trans dH) λh=>absurd g7 h⟩
  .obtain⟨jY,jK,Ra,SG,SH⟩:=y0.at j KA;obtain⟨arU,arV⟩:=(gS.is j KA).lM;have Cc:=agk.trans j1;have awE:=jQ.ext Cc;have awG:=Ra.ext Cc;refine I ?_;refine _w (.bool true) (λw' e=>_d (first:=[]) (cap:=[.pointer (some ⟨cQ,0,none⟩)]) Cx (call e) λv bO ⟨h1,J⟩=>⟨by rw[h1,decide_eq_false g7];rfl,J⟩) ?_;refine I ?_;refine P_ (.bool (decide (nA L[x.1].1 L[x.1].2 L[j].1 L[j].2))) (λw' e=>aqN ir jn jY jK _ _ _ _ w' (SD.ext Flat.ext (Cc.trans e)) (SE.ext Flat.ext (Cc.trans e)) (SG.ext Flat.ext (Cc.trans e)) (SH.ext Flat.ext (Cc.trans e)) arR arS arU arV) ?_;refine I ?_;intro hf dH;have mI:=j1.trans dH;have ax9:=(ai.trans mI).obj bS;apply I_<;>intro g8
   .refine I ?_;intro jX kD QQ;have uf:Mod (λk=>k=dm) hf jX:=kD.mod rfl;refine I ?_;refine⟨aJ,?_,?_,QQ,λaE=>aE x.1 x.2.2 j zb (by rw[<-aT];exact g7) _ _ (List.getElem?_eq_getElem KZ) (List.getElem?_eq_getElem KA) g8⟩
    .exact⟨Ns mI.size uf.size,λk ae gP hk an=>uf.obj (λa=>by subst a;omega) (mI.obj hk)⟩
    .exact Mod.comp (A':=λk=>k=dm) (ai.trans mI).mod uf (λ_ _ a=>a) λk hk a=>a
   .refine I ?_;exact⟨zb,aJ,(),trivial,next mI λ_=>g8⟩
 .rintro D xs W gv b7 ⟨tX,FV⟩ bb;have uG:=tX.obj bS;refine I ?_;intro et pR gZ;have J4:D≠dm:=Aw
  refine gL.ret (pR.obj bb J4) ?_;have aj:dw D et (fJ et D (.deferred none)):=dw.fJ _ _ _;have aeb:=aj.obj gZ (Ne.symm J4);have alr:Ce m L lN l:=λi U j ay cv x y ah bF=>by
   obtain⟨v,aH,rfl⟩:=List.mem_map.1 (b7 i U);exact FV v aH j ay cv x y ah bF
  refine I ?_;exact⟨⟨true,aJ,k4.of dd gS ⟨λ_=>alr,λ_=>rfl⟩⟩,aj.ext (pR.ext (fO.trans tX) xb) (Ns fO.size gv)⟩
 .rintro D xs W gv ⟨hm,an,aw⟩ bb;have J4:D≠dm:=Aw
  refine I ?_;refine gL.ret bb ?_;have aj:dw D W (fJ W D (.deferred none)):=dw.fJ _ _ _;have aeb:=aj.obj an (Ne.symm J4);refine I ?_;exact⟨⟨false,aJ,k4.of dd gS ⟨(λh=>by cases h),λh=>absurd h aw⟩⟩,aj.ext (hm.ext fO λk hk a=>Aw) (Ns fO.size gv)⟩
end Go.Proofs.R