/- Parts. -/
import Derived.Test.YtakmdjclehkglaaGreatDoorQapq
set_option linter.all false
set_option maxRecDepth 8000
set_option maxHeartbeats 32000000
namespace Go.Proofs.R
open Go Go.RowKit a8
def ajT{w0:A_}(cz dh g c q p base:Nat)(m:o.Model)(s:C_ Int)(a:o.Act)(bK bY:B_)(w:A_)(gn:B_->A_->Prop){t}(bR:lF w0 w cz dh g c q base m s)(ft:(o.check m).cJ=0)(ay:o.Fits m s)(hIn:o.fJ m q p)
  (aY:o.nG (o.inner (m.procs[p]'(hIn.ar)) (o.ev m)) a)(U:o.eS w bK a.index)(aF:o.eS w bY a.value)
  (js:∀u w',kD base g (.slice (some ⟨g,0,none⟩) s.length c) (o.h0 m s q a) u w w'->gn u w') :
  BN Tryz.prog (.iface (qK a.kind) (.agg (a.enc bK bY).toArray)) "lariat/fire.do" [.pointer (some ⟨cz,0,none⟩)] w gn t:=by
 obtain⟨cK,vt⟩:=aY.kind;by_cases bF:a.kind=1
 .rw[show qK a.kind=T.yk from by unfold qK;rw[if_pos bF]];exact _r (f:=F.p0) Ci (λw'=>Ci) (akh cz dh g c q p base m s a bK bY w bR ft ay hIn aY bF U aF) js
 by_cases aH:a.kind=2
 .rw[show qK a.kind=T.a0 from by unfold qK;rw[if_neg bF,if_pos aH]];exact _r (f:=F.cT) Ci (λw'=>Ci) (aj1 cz dh g c q p base m s a bK bY w bR ft ay hIn aY aH U aF) js
 by_cases aR:a.kind=3
 .rw[show qK a.kind=T.db from by unfold qK;rw[if_neg bF,if_neg aH,if_pos aR]];exact _r (f:=F.EU) Ci (λw'=>Ci) (aka cz dh g c q p base m s a bK bY w bR ft ay hIn aY aR U aF) js
 by_cases bn:a.kind=4
 .rw[show qK a.kind=T.a2 from by unfold qK;rw[if_neg bF,if_neg aH,if_neg aR,if_pos bn]];exact _r (f:=F.wo) Ci (λw'=>Ci) (akg cz dh g c q p base m s a bK bY w bR ft ay hIn aY bn U aF) js
 .rw[show qK a.kind=T.a3 from by unfold qK;rw[if_neg bF,if_neg aH,if_neg aR,if_neg bn]];exact _r (f:=F.EW) Ci (λw'=>Ci) (akc cz dh g c q p base m s a bK bY w bR ft ay hIn aY Ad U aF) js
def ajS(b:Nat)(m:o.Model)(ref:Int)(q p k:Nat)(w:A_)(h:pY w b m)(bw:o.fa m ref q p k) :
  ∃fA fL aN fs,o.eS w (.slice fA (o.bN m p k).guard.length fL) (o.bN m p k).guard/\o.mv w (.slice aN (o.bN m p k).bP.length fs) (o.bN m p k).bP /\
   ∀W,Ext w W->Du F.n #[.pointer (some ⟨b,0,none⟩),.I ref] W λu w'=>u = .agg ((o.bN m p k).enc (.slice fA (o.bN m p k).guard.length fL) (.slice aN (o.bN m p k).bP.length fs)).toArray/\Ext W w':=by
 obtain⟨zs,ak,h⟩:=h;obtain⟨eH,d0,dK,d1,eg,d2,eD,d3,eU,d4,b0,bz,bO,c1,bT,c2,bV,bu,b1,bB,b8,ci,e9,gY,rfl,_,_,_,_,_,_,_,_,_,_,ab,aP,bG⟩:=h.form;have au:=bw.at_.U;have ar:=bw.at_.ar;have hp:=bw.at_.hk;have j5:=bw.at_.ip;obtain⟨r,rfl⟩:=Nb bw.aV;have aS:r<(o.refs m).length:=bw.U;have fk:(o.refs m)[r].inst=(q:Int):=bw.at_.mX;have j7:(o.refs m)[r].cmd=(k:Int):=bw.at_.pI;obtain⟨l7,rfl⟩:=bG.addr;obtain⟨gp,rfl⟩:=aP.addr;obtain⟨a3,rfl⟩:=ab.addr;obtain⟨kr,bY,dV,c3,eQ,er⟩:=ab.at p ar;obtain⟨vC,uQ,rfl,vy⟩:=er.form;obtain⟨ac,rfl⟩:=er.addr;obtain⟨eC,fi,va,e2,gi,fb⟩:=er.at k hp;obtain⟨fA,fL,rfl,_⟩:=gi.form;obtain⟨oq,nP,rfl,_⟩:=fb.form;unfold o.dt.enc at c3;unfold o.dI.enc at e2;have gR:=o.sv ar hp;refine⟨fA,fL,oq,nP,by rw[gR];exact gi,by rw[gR];exact fb,λW tJ=>?_⟩;replace ak:=tJ.obj ak;replace bG:=bG.ext Flat.ext tJ;replace aP:=aP.ext Flat.ext tJ;replace c3:=c3.ext tJ;replace e2:=e2.ext tJ;refine bl E.n ?_;refine J ?_;intro w1 bQ c7 ag ao;replace ak:=ag.obj ak;have Qh:=bG.ext Flat.ext ag;refine J ?_;intro aA c6 fT ai bo;have pt:(o.refs m)[r].enc=[.I q,.I k]:=by unfold o.Ref.enc;rw[fk,j7]
 rw[pt] at bo;have z4:=cq ao;replace ao:=ai.obj ao;replace ak:=ai.obj ak;have aH:=ag.trans ai;have As:=aP.ext Flat.ext aH;have Dk:=c3.ext aH;have FV:=e2.ext aH;clear Qh;refine J ?_;intro aM ah;replace ao:=ah.obj ao;replace bo:=ah.obj bo;replace ak:=ah.obj ak;replace As:=As.ext Flat.ext ah;replace Dk:=Dk.ext ah;replace FV:=FV.ext ah;refine J ?_;refine K_ p (by rw[j5]) ar ?_;refine J ?_;intro aU dQ bI;refine J ?_;exact⟨by rw[gR];rfl,dQ.ext (aH.trans ah) Ad⟩
def ajR(dh:Nat)(v:B_)(m:o.Model)(s:C_ Int)(ref:Int)(q p k:Nat)(w:A_)(fg:pY w dh m)(aj:c9 w v s)(ay:o.Fits m s)(bw:o.fa m ref q p k) :
  Du F.d3 #[.pointer (some ⟨dh,0,none⟩),v,.I ref] w λu w'=>((o.hJ m s q (o.bN m p k)=none/\u = .tuple #[.slice none 0 0,.bool false])\/(∃t ae c,o.hJ m s q (o.bN m p k)=some t/\u = .tuple #[.slice ae t.length c,.bool true]/\iE w.heap.size w' (.slice ae t.length c) t))/\Ext w w':=by
 have ft:=bw.ok;have aL:=o.hE ft;have hIn:=bw.inst;have iW:=bw.cin;have p9:=iW.gf;have au:=hIn.au;have hlen:=ay.len;have j4:o.di m<=64:=o.iG aL;have ve:=hIn.room;obtain⟨f6,f7,f8⟩:=o.pH m;obtain⟨sG,iv⟩:=o.oe au;have yO:=fg;obtain⟨zs,ak,iu⟩:=fg;obtain⟨eH,d0,dK,d1,eg,d2,eD,d3,eU,d4,b0,bz,bO,c1,bT,c2,bV,bu,b1,bB,zm,yr,e9,gY,rfl,_,_,dB,cP,cA,eI,fp,ad,h1,I,ab,aP,bG⟩:=iu.form;obtain⟨ei,eW,rfl,e6⟩:=aj.form;obtain⟨r,rfl⟩:=Nb bw.aV;have aS:r<(o.refs m).length:=bw.U;have fk:(o.refs m)[r].inst=(q:Int):=bw.at_.mX;obtain⟨l7,rfl⟩:=bG.addr;obtain⟨a2,rfl⟩:=cA.addr;obtain⟨Iv,rfl⟩:=aj.addr;obtain⟨c,tI⟩:∃c,c=o.bN m p k:=⟨_,rfl⟩;obtain⟨fA,fL,aN,fs,gi,fb,gR⟩:=ajS dh m r q p k w yO bw;rw[<-tI] at iW p9 ⊢;simp only[<-tI] at gR gi fb;clear dB cP eI fp ad h1 I ab aP iu;have Dq:∀{W},Ext w W->W.heap[dh]? = _:=λe=>e.obj ak;refine bl E.d3 ?_;simp -dsimp only[cH];refine dS ?_;refine R_ [0,1,2] (λjZ:Nat=>[(8,.pointer (some ⟨jZ,0,none⟩)),(9,.I q)]) (λjZ W=>w.heap.size<=jZ/\Ext w W/\W.heap[jZ]? = some (.cells (c.enc (.slice fA c.guard.length fL) (.slice aN c.bP.length fs)).toArray T.q)) ?_ ?_
 .refine J ?_;intro w1 ag;replace ak:=ag.obj ak;replace bG:=bG.ext Flat.ext ag;refine J ?_;refine⟨?_,?_⟩
  .refine J_ (gR w1 ag) ?_;rintro _ aA ⟨rfl,ai⟩;refine⟨ai,?_⟩;refine J ?_;intro aM jZ mc ah cD;refine⟨ai.trans ah,?_⟩;refine U_ cD rfl rfl (by simp[Value.oneCell',o.dI.enc]) λaU dQ bo=>?_;have aq:Ext aA aU:=dQ.ext ah mc;refine⟨ai.trans aq,?_⟩;refine J ?_
   have:=ag.size
   have:=ai.size
   exact⟨jZ,⟨rfl,by first | trivial | (rw[fk];trivial) | simp[fk,Has],trivial⟩,Ad,ag.trans (ai.trans aq),bo⟩
  .refine J ?_;intro aA jZ mc ai cD;refine⟨ai,?_⟩;refine J ?_;refine J_ (gR aA (ag.trans ai)) ?_;rintro _ aM ⟨rfl,ah⟩;replace cD:=ah.obj cD;have YK:=ai.trans ah;refine⟨YK,?_⟩;refine J ?_;intro aU dQ bo;have aq:Ext w1 aU:=dQ.ext YK mc;refine⟨aq,?_⟩;refine J ?_
   have:=ag.size
   exact⟨jZ,⟨rfl,by first | trivial | (rw[fk];trivial) | simp[fk,Has],trivial⟩,Ad,ag.trans aq,bo⟩
 clear gR ak;rintro jZ S w1 ⟨mc,ag,cD⟩;have ayq:=cq cD;have ak:=Dq ag;have fl:=aj.ext Flat.ext ag;have sJ:s[o.cU m q]? = some (s[o.cU m q]' Ad):=List.getElem?_eq_getElem Ad;refine J ?_;refine J_ (Sv _ s w1 fl (by unfold o.ep;omega)) ?_;rintro u aA ⟨ed,ai⟩;replace ak:=ai.obj ak;replace cD:=ai.obj cD;have aH:=ag.trans ai;obtain⟨aqd,E0,rfl,_⟩:=(kR ed).form;obtain⟨g,rfl⟩:∃g,aqd=some ⟨g,0,none⟩:=by
  rcases ed.2 with ⟨aw,ad⟩ | ⟨g,cap,cur,h1,_⟩
  .exfalso;injection aw with _ I _;omega
  .injection h1 with h1 _ _;exact⟨g,h1⟩
 refine J ?_;intro aM rD wT ah h4;have aR:=aH.trans ah;have Z0:lF w1 aM rD dh g E0 q w1.heap.size m s:=⟨ai.trans ah,EC _,yO.ext ag,h4,ed.ext ah⟩;replace ak:=ah.obj ak;replace cD:=ah.obj cD;have gN:=aj.ext Flat.ext aR;have arD:=cA.ext Flat.ext aR;clear fl ed;refine dS ?_;refine AA0 ak (Ext.refl _) rfl ?_;refine dS ?_;simp -dsimp only[cH];refine dS ?_;refine K_ (o.cU m q) (by rw[iv]) Ad ?_;refine dS ?_;intro aU aq;have Ax:=Z0.ext aq;replace cD:=aq.obj cD;replace ak:=aq.obj ak;have bn:=aR.trans aq;clear gN arD Z0 h4;refine dS ?_;apply I_<;>intro g1;rotate_left
 .refine J ?_;exact⟨.inl ⟨by unfold o.hJ;rw[sJ,if_pos (by simpa using g1)],aK⟩,bn⟩
 have rP:o.hJ m s q c=if 0<c.guard.length/\((o.eval c.guard (o.cW m s q)).2≠0\/(o.eval c.guard (o.cW m s q)).1=0) then none else (o.lf m q c.bP s).map λt=>t.set (o.cU m q) c.to:=by
  unfold o.hJ;rw[sJ,if_neg (by simpa using g1)]
 have aag:=cD;refine dS ?_;refine R_ [0,2,8,9,10,11] (λ_:Unit=>[]) (λ_ W=>Ext aU W/\¬(0<c.guard.length/\((o.eval c.guard (o.cW m s q)).2≠0\/(o.eval c.guard (o.cW m s q)).1=0))) ?_ ?_
 .refine J ?_;apply I_<;>intro g2;rotate_left
  .refine J ?_;exact⟨(),trivial,Ext.refl _,λcR=>Ad⟩
  refine J ?_;refine J_ (CH rD dh g E0 q p w1.heap.size m s _ c.guard aU Ax ft ay hIn (gi.ext bn)) ?_;rintro _ bh ⟨rfl,av⟩;obtain⟨n,pC⟩:∃n,n=(o.eval c.guard (o.cW m s q)).1:=⟨_,rfl⟩;obtain⟨e,oU⟩:∃e,e=(o.eval c.guard (o.cW m s q)).2:=⟨_,rfl⟩;rw[<-pC,<-oU];rw[<-pC,<-oU] at rP;refine J ?_;refine I_ (λkO=>?_) (λkO=>?_);rotate_left
  .refine J ?_;exact⟨.inl ⟨by rw[rP,if_pos ⟨Ad,.inl kO⟩],aK⟩,bn.trans av⟩
  refine J ?_;refine I_ (λjM=>?_) (λjM=>?_)
  .refine J ?_;exact⟨.inl ⟨by rw[rP,if_pos ⟨Ad,.inr jM⟩],aK⟩,bn.trans av⟩
  .refine J ?_;exact⟨(),trivial,av,λcR=>by rcases cR.2 with h | h;exact h kO;exact jM h⟩
 clear cD ak;rintro _ S bh ⟨av,tO⟩;have hN:o.hJ m s q c=(o.lf m q c.bP s).map λt=>t.set (o.cU m q) c.to:=by rw[rP,if_neg tO]
 rw[hN];clear rP tO hN;have cD:=av.obj aag;have Qo:=Ax.ext av;have bC:=bn.trans av;refine J ?_;refine J_ (ajU _ c.bP bh (fb.ext ag) (ai.trans (ah.trans (aq.trans av))) (λx af=>(o.It iW x af).kind) Ad) ?_;rintro u bq ⟨⟨cn,nx,Rx,gq⟩,aD⟩;obtain⟨o6,oM,rfl,_⟩:=(aJ.jN lM Rx).form;have alj:=Qo.ext aD;have QF:=aD.obj cD;have b6:=bC.trans aD;have Da:=Qo.EK;have z5:=aD.size;clear cD aag Ax Qo;refine J ?_;refine L_ 69 cn.length [0,2,8,9,10,11,67,68] (λ_:C_ Int=>[]) s (λn t W=>Mod (λi=>i=g) bq W/\o.lf m q (c.bP.take n) s=some t/\o.Fits m t/\lF w1 W rD dh g E0 q w1.heap.size m t) a6 a6 ⟨Mod.refl _ _,rfl,ay,alj⟩ ?_;rintro n t aZ bH aw ⟨hb,aB,rS,FD⟩;have amG:g≠jZ:=Ad
 have C0:=hb.obj (λh=>amG h.symm) QF;have anp:=aJ.mod Rx hb λi U h=>by have:=(aJ.lt Rx i U).1;omega
 refine J ?_;apply I_<;>intro g2
 .have hc:n<cn.length:=Ad
  have y0:n<c.bP.length:=Ad
  have ZY:=aJ.jN lM anp;obtain⟨ac,rfl⟩:=ZY.addr;obtain⟨bK,bY,gu,ob,qd⟩:=gq n hc y0;have gM:bH.cell? (ac.add (n*1))=some (.iface (qK c.bP[n].kind) (.agg (c.bP[n].enc bK bY).toArray)):=by
   have:=ZY.at n hc 0 _ (by show(cn[n].1)[0]? = _;rw[gu];rfl)
   rwa[add_zero] at this
  have sB:Ext w1 bH:=hb.ext (ai.trans (ah.trans (aq.trans (av.trans aD)))) λi U h=>Ad
  have sD:=FD.box;refine J ?_;refine M_ gM ?_;refine J ?_;refine ajT rD dh g E0 q p w1.heap.size m t c.bP[n] bK bY bH _ FD ft rS hIn (o.It iW _ (ED y0)) (ob.ext sB) (qd.ext sB) λu cB bG=>?_;obtain⟨bG,iY⟩:=bG;have abb:Mod (λi=>i=g) bq cB:=hb.trans iY;rcases bG with ⟨t2,h1,rfl,I⟩ | ⟨h1,rfl⟩
  .have aaN:=o.Xz aL hIn (o.It iW _ (ED y0)) rS h1;refine J ?_;exact⟨hc,aK,t2,trivial,abb,by rw[o.OI m q c.bP s y0,aB];exact h1,aaN,FD.mod iY I (by rw[aaN.len,rS.len])⟩
  .have eG:o.lf m q c.bP s=none:=o.OH m q c.bP s (n+1) (by rw[o.OI m q c.bP s y0,aB];exact h1);refine J ?_;exact⟨.inl ⟨by rw[eG];rfl,aK⟩,abb.ext b6 λi U h=>by have:=ag.size;omega⟩
 have qc:n=c.bP.length:=Ad
 rw[qc,AE8] at aB;rw[aB];have sD:=FD.box;have cu:=rS.len;have fZ:Ext w bH:=hb.ext b6 λi U h=>by have:=ag.size;omega
 have fQ:=ag.size;refine J ?_;intro cB bt;have Qp:=FD.ext bt;have avZ:=Qp.box;replace C0:=bt.obj C0;clear sD;refine J ?_;refine K_ (o.cU m q) (by rw[iv]) Ad ?_;refine J ?_;refine _z (k:=o.cU m q) Qp.own Ad λcG gy fu=>?_;have alk:=Qp.mod (gy.mod rfl) fu (XK ..);have alE:=alk.box;rw[XK] at alE;refine J ?_;refine⟨.inr ⟨_,some ⟨g,0,none⟩,E0,rfl,by rw[XK],by rw[XK];exact aJ.low fQ fu⟩,gy.ext (fZ.trans bt) (by show w.heap.size<=g;omega)⟩
def x9(w:A_)(cs:C_ B_)(x:o.oC):Prop := ∃v,cs=[.int .i64 x.cmd,.int .i64 x.k9,v]/\c9 w v x.to
def zH(w:A_)(a:Addr)(x:o.oC):Prop := ∃v,fc w a [.int .i64 x.cmd,.int .i64 x.k9,v]/\c9 w v x.to
instance awZ:Rel zH x9 3 where
 out h:=by
  obtain⟨v,h1,I⟩:=h;exact⟨_,h1,v,rfl,I⟩
 oZ h k:=by
  obtain⟨v,rfl,k⟩:=k;exact⟨v,h,k⟩
 len h:=by obtain⟨v,rfl,_⟩:=h;rfl
 one h:=by obtain⟨v,rfl,h⟩:=h;simpa[Value.oneCell'] using h.one
 ext e h:=let ⟨v,h1,I⟩:=h; ⟨v,h1,I.ext Flat.ext e⟩
theorem zH.ext{w w':A_}{a:Addr}{x:o.oC}(he:Ext w w')(h:zH w a x):zH w' a x :=
 let ⟨v,h1,I⟩:=h; ⟨v,h1.ext he,I.ext Flat.ext he⟩
abbrev ya(w:A_)(v:B_)(l:C_ o.oC):Prop:=bm 3 zH w v l
end Go.Proofs.R
namespace o
open Go
def j1(m:Model)(s:C_ Int)(q:Nat)(c:dI):C_ (C_ Int):=match hJ m s q c with
 | none=>[]
 | some t=>t :: if ways c m.ax=2 then [lost m s t c] else []
theorem ai2(m:Model)(s:C_ Int)(q:Nat)(c:dI):(j1 m s q c).length<=2:=by
 unfold j1;cases hJ m s q c with
 | none=>simp
 | some t=>by_cases h:ways c m.ax=2<;>simp[h]
theorem fa.ends{m:Model}{r q p k:Nat}(h:fa m r q p k)(s:C_ Int):(o.lU m s r).length=(j1 m s q (bN m p k)).length/\∀j (h1:j<(o.lU m s r).length) (I:j<(j1 m s q (bN m p k)).length),(o.lU m s r)[j]=⟨r,j,(j1 m s q (bN m p k))[j]⟩:=by
 have e:=h.lU s;cases an:hJ m s q (bN m p k) with
 | none =>
  rw[an] at e;have aH:j1 m s q (bN m p k)=[]:=by unfold j1;rw[an]
  rw[e,aH];exact⟨rfl,λj h1=>absurd h1 (HI _)⟩
 | some t =>
  rw[an] at e;by_cases hw:ways (bN m p k) m.ax=2
  .have aH:j1 m s q (bN m p k)=[t,lost m s t (bN m p k)]:=by unfold j1;rw[an];simp[hw]
   have aR:o.lU m s r=[⟨r,0,t⟩,⟨r,1,lost m s t (bN m p k)⟩]:=by rw[e];simp[hw]
   rw[aH,aR];refine⟨rfl,λj h1 I=>?_⟩
   match j,h1 with
   | 0,_=>rfl
   | 1,_=>rfl
   | j+2,h1=>exact absurd h1 CC
  .have aH:j1 m s q (bN m p k)=[t]:=by unfold j1;rw[an];simp[hw]
   have aR:o.lU m s r=[⟨r,0,t⟩]:=by rw[e];simp[hw]
   rw[aH,aR];refine⟨rfl,λj h1 I=>?_⟩
   match j,h1 with
   | 0,_=>rfl
   | j+1,h1=>exact absurd h1 CC
end o
namespace Go.Proofs.R
open Go Go.RowKit a8
structure x3(base:Nat)(w:World)(u:Value)(cn:List (fC 1))(l:List (List Int)):Prop where
 len:cn.length=l.length
 row:pV T.b 1 base w u cn
 at_:∀i (h1:i<cn.length) (I:i<l.length),∃ae c,cn[i].1=[.slice ae l[i].length c]/\iE base w (.slice ae l[i].length c) l[i]
theorem x3.ext{base:Nat}{w w':A_}{u:B_}{cn:C_ (fC 1)}{l:C_ (C_ Int)}(he:Ext w w')(h:x3 base w u cn l):x3 base w' u cn l :=
 ⟨h.len,h.row.ext he,λi h1 I=>let ⟨ae,c,e,k⟩:=h.at_ i h1 I; ⟨ae,c,e,k.ext he⟩⟩
def x3.mod{base:Nat}{w w':A_}{u:B_}{cn:C_ (fC 1)}{l:C_ (C_ Int)}{A:Nat->Prop}(h:x3 base w u cn l)(hm:Mod A w w')(dd:∀k (x:Array B_) (e:F_),base<=k->w.heap[k]? = some (.cells x e)->e=T.b\/e=T.a->¬A k):x3 base w' u cn l :=
 ⟨h.len,aJ.mod h.row hm λk hk=>let ⟨x,q⟩:=aJ.cy h.row k hk;dd k x _ (aJ.lt h.row k hk).1 q (.inl rfl),λi h1 I=>let ⟨ae,c,e,k⟩:=h.at_ i h1 I; ⟨ae,c,e,aJ.mod k hm λj az=>let ⟨x,q⟩:=aJ.cy k j az;dd j x _ (aJ.lt k j az).1 q (.inr rfl)⟩⟩
def aj7(dh:Nat)(va iJ:B_)(m:o.Model)(s t:C_ Int)(ref:Int)(q p k:Nat)(w:A_)(fg:pY w dh m)(aj:c9 w va s)(aB:c9 w iJ t)(awr:s.length=o.di m)(cu:t.length=o.di m)(bw:o.fa m ref q p k)(qf:o.ways (o.bN m p k) m.ax=2) :
  Du F.d5 #[.pointer (some ⟨dh,0,none⟩),va,iJ,.I ref] w λu w'=>iE w.heap.size w' u (o.lost m s t (o.bN m p k))/\Ext w w':=by
 obtain⟨j,az,Df⟩:=o.aut qf;have aL:=o.hE bw.ok;have sO:=o.oK Df;have j4:o.di m<=64:=o.iG aL;have dL:(o.chanOf m s j).length=1+o.gF m j:=o.wz Ad;obtain⟨bO,c1,rfl,_⟩:=aj.form;obtain⟨bT,c2,rfl,_⟩:=aB.form;refine bl E.d5 ?_;refine J ?_;refine J_ (Zc dh m ref q p k w fg bw) ?_;rintro _ w1 ⟨⟨fA,fL,aN,fs,rfl,gi,fb⟩,ag⟩;refine J ?_;refine J_ (Yk (o.bN m p k) _ _ w1 (fb.ext ag)) ?_;rintro _ aA ⟨rfl,ai⟩;rw[az];have aH:=ag.trans ai;refine J ?_;refine J_ (Sv _ t aA (aB.ext Flat.ext aH) (by unfold o.ep;omega)) ?_;rintro u aM ⟨eT,ah⟩;have aR:=aH.trans ah;obtain⟨aqe,avl,rfl,_⟩:=(kR eT).form;obtain⟨g,rfl⟩:∃g,aqe=some ⟨g,0,none⟩:=by
  rcases eT.2 with ⟨aw,ad⟩ | ⟨g,cap,cur,h1,_⟩
  .exfalso;injection aw with _ I _;omega
  .injection h1 with h1 _ _;exact⟨g,h1⟩
 refine J ?_;refine J_ (PN dh m j aM (fg.ext aR) aL Df) ?_;rintro _ aU ⟨rfl,aq⟩;have bn:=aR.trans aq;have dD:=eT.ext aq;refine J ?_;intro bh av;have bC:=bn.trans av;have dM:=dD.ext av;have q1:=aj.ext Flat.ext bC;refine J ?_;refine _a (k:=.i64) (k':=.i64) (o.b7 m j) (o.b7 m j+(1+o.gF m j)) (kR dM) (by simp[dc,bD]) (by simp[dc,bD]) Ad Ad λS7 tu aml _=>?_;refine J ?_;refine _W (k:=.i64) (k':=.i64) (o.b7 m j) (o.b7 m j+(1+o.gF m j)) q1 (by simp[dc,bD]) (by simp[dc,bD]) Ad Ad λaxl qH vk=>?_;rw[o.Pa] at vk;refine J ?_;refine _b (p:=o.b7 m j) dM vk (by simp only[dc,bD];rfl) (by simp only[dc,bD];rfl) aml Ad Ci Ci λu bq gE dn=>?_;rw[MC Ad] at dn;have aG:=(aJ.lt dM g rfl).1
 have:=aH.size
 refine J ?_;refine⟨?_,gE.ext bC Ad⟩;have hQ:o.lost m s t (o.bN m p k)=o.jb t (o.b7 m j) (o.chanOf m s j):=by unfold o.lost;rw[az,AH1]
 rw[hQ];exact aJ.low aH.size dn
theorem Zv(dh:Nat)(v:B_)(m:o.Model)(s:C_ Int)(ref:Int)(q p k:Nat)(w:A_)(fg:pY w dh m)(aj:c9 w v s)(ay:o.Fits m s)(bw:o.fa m ref q p k) :
  Du F.IT #[.pointer (some ⟨dh,0,none⟩),v,.I ref] w λu w'=>(∃cn:C_ (fC 1),x3 w.heap.size w' u cn (o.j1 m s q (o.bN m p k)))/\Ext w w':=by
 have aL:=o.hE bw.ok;obtain⟨ei,eW,rfl,e6⟩:=aj.form;have yO:=fg;obtain⟨zs,ak,iu⟩:=fg;obtain⟨eH,d0,dK,d1,eg,d2,eD,d3,eU,d4,b0,bz,bO,c1,bT,c2,bV,bu,b1,bB,zm,yr,e9,gY,rfl,_,_,dB,cP,cA,eI,fp,ad,h1,I,ab,aP,bG⟩:=iu.form;clear dB cP cA eI fp ad h1 ab aP bG iu;refine bl E.IT ?_;refine J ?_;refine J_ (ajR dh _ m s ref q p k w yO aj ay bw) ?_;rintro _ w1 ⟨hK,ag⟩;have fQ:=ag.size;rcases hK with ⟨eG,rfl⟩ | ⟨t,ui,yy,iZ,rfl,od⟩
 .have he:o.j1 m s q (o.bN m p k)=[]:=by unfold o.j1;rw[eG]
  refine J ?_;exact⟨⟨[],⟨by rw[he];rfl,aJ.nil _ _ _ _ _,λi h=>absurd h (HI _)⟩⟩,ag⟩
 have cu:=o.aih bw ay iZ;replace ak:=ag.obj ak;refine J ?_;intro aA bQ c7 ai ao;have aH:=ag.trans ai;replace ak:=ai.obj ak;have z2:=ai.size;have ed:pV T.b 1 w.heap.size aA (.slice (some ⟨bQ,0,none⟩) 1 1) [(⟨[.slice ui t.length yy],rfl,by simp[Value.oneCell']⟩:fC 1)]:=aJ.ss _ ao Ad rfl lM rfl (by show 1<=maxLen;unfold maxLen;decide);clear ao;refine J ?_;intro aM ah;replace ak:=ah.obj ak;have eT:=ed.ext ah;have aR:=aH.trans ah;refine J ?_;refine J_ (Zc dh m ref q p k aM (yO.ext aR) bw) ?_;rintro _ aU ⟨⟨fA,fL,aN,fs,rfl,gi,fb⟩,aq⟩;refine⟨aq,?_⟩;have bn:=aR.trans aq;refine J ?_;refine J_ (auv (o.bN m p k) _ _ _ m.ax aU (fb.ext aq) (I.ext bn)) ?_;rintro _ bh ⟨rfl,av⟩;have bC:=bn.trans av;have dM:=eT.ext (aq.trans av);have RB:=((od.ext ai).ext ah).ext (aq.trans av);obtain⟨ax1,aob⟩:∃x,x=o.ways (o.bN m p k) m.ax:=⟨_,rfl⟩;have Sg:=o.auu (o.bN m p k) m.ax;rw[<-aob] at Sg ⊢;refine J ?_;refine I_ (λjM=>?_) (λjM=>?_);rotate_left
 .have he:o.j1 m s q (o.bN m p k)=[t]:=by unfold o.j1;rw[iZ];simp only;rw[if_neg Ad]
  refine J ?_;refine⟨⟨_,⟨by rw[he];rfl,dM,λi c5 dA=>?_⟩⟩,bC⟩
  have:i=0:=by simp at c5;omega
  subst this;simp only[he,List.getElem_cons_zero];exact⟨_,_,rfl,RB⟩
 have qf:o.ways (o.bN m p k) m.ax=2:=Ad
 have he:o.j1 m s q (o.bN m p k)=[t,o.lost m s t (o.bN m p k)]:=by unfold o.j1;rw[iZ];simp only;rw[if_pos qf]
 refine J ?_;refine J_ (aj7 dh _ _ m s t ref q p k bh (yO.ext bC) (aj.ext Flat.ext bC) (kR RB) ay.len cu bw qf) ?_;rintro u bq ⟨dn,aD⟩;obtain⟨MP,IV,rfl,_⟩:=(kR dn).form;have b6:=bC.trans aD;have z5:=bC.size;have uz:=aD.size;refine J ?_;intro bH h2 gZ bc bZ;have cM:=b6.trans bc;have dU:=dM.ext (aD.trans bc);refine S_ (enc:=lL) (y:=(⟨[.slice MP (o.lost m s t (o.bN m p k)).length IV],rfl,by simp[Value.oneCell']⟩:fC 1)) dU bZ rfl lM Ai CC (by unfold maxLen;simp) (by have:=cM.size;omega) λaxp n8 X3 cB gw tM=>?_;refine J ?_;have am3:∀i,(Value.slice (some ⟨bQ,0,none⟩) 1 1).ownBlock=some i->w.heap.size<=i:=λi U=>(aJ.lt dU i U).1;have key:∀{v:B_} {l:C_ Int},iE w.heap.size bH v l->iE w.heap.size cB v l:=λh=>aJ.mod h (Mod.grown tM λk hk=>hk) λk hk au=>by
  obtain⟨ie,h1⟩:=aJ.cy h k hk;obtain⟨ji,I⟩:=aJ.cy dU k au;rw[h1] at I;injection I with I
  injection I with _ I
  revert I;decide
 have db:=key (RB.ext (aD.trans bc));have a2:=key ((aJ.low z5 dn).ext bc);refine⟨⟨_,⟨by rw[he];rfl,gw,λi c5 dA=>?_⟩⟩,cM.grown tM am3⟩
 match i,c5 with
 | 0,_ =>
  simp only[he,List.getElem_cons_zero];exact⟨_,_,rfl,db⟩
 | 1,_ =>
  simp only[he,List.getElem_cons_succ,List.getElem_cons_zero];exact⟨_,_,rfl,a2⟩
 | i+2,c5=>exact absurd c5 CC
def aj8(dh:Nat)(v:B_)(m:o.Model)(s:C_ Int)(w:A_)(fg:pY w dh m)(hk:(o.check m).cJ=0)(aj:c9 w v s)(ay:o.Fits m s) :
  Du F.nU #[.pointer (some ⟨dh,0,none⟩),v] w λu w'=>eV x9 T.n 3 w.heap.size w' u (o.jc m s)/\Ext w w':=by
 have aL:=o.hE hk;have hR:=o.qo aL.lim;obtain⟨ei,eW,rfl,e6⟩:=aj.form;have yO:=fg;obtain⟨zs,ak,iu⟩:=fg;obtain⟨eH,d0,dK,d1,eg,d2,eD,d3,eU,d4,b0,bz,bO,c1,bT,c2,bV,bu,b1,bB,zm,yr,e9,gY,rfl,_,_,dB,cP,cA,eI,fp,ad,h1,I,ab,aP,bG⟩:=iu.form;clear dB cP cA eI fp ad h1 I ab aP bG iu;refine bl E.nU ?_;refine J ?_;refine L_ 14 (o.refs m).length [0,1,13] (λv:fy=>[(5,.slice v.1 v.2.1 v.2.2)]) (none,0,0) (λk v W=>Ext w W/\eV x9 T.n 3 w.heap.size W (.slice v.1 v.2.1 v.2.2) (o.o4 m s k)) a6 a6 ⟨Ext.refl _,eV.nil _ _ _ _ _⟩ ?_;clear ak;rintro k pb S aA a7 ⟨ai,ed⟩;have mi:=o.ac0 m s k;refine J ?_;refine I_ (λkO=>?_) (λkO=>?_)
 .have AP:k<(o.refs m).length:=Ad
  obtain⟨q,p,oi,bw⟩:=o.mI (m:=m) (ref:=k) ⟨hk,Ad,Ad⟩;obtain⟨avA,Fv⟩:=bw.ends s;have tK:=o.ai2 m s q (o.bN m p oi);refine J ?_;refine J_ (Zv dh _ m s k q p oi aA (yO.ext ai) (aj.ext Flat.ext ai) ay bw) ?_;rintro u aM ⟨⟨cn,JS⟩,ah⟩;have z2:=ai.size;have z3:=ah.size;have nx:=JS.len;obtain⟨o6,oM,rfl,_⟩:=(aJ.jN lM JS.row).form;have eT:=ed.ext ah;have aR:=ai.trans ah;refine J ?_;refine L_ 22 cn.length [0,1,6,13,14,20,21] (λv:fy=>[(5,.slice v.1 v.2.1 v.2.2)]) pb (λj v W=>Ext w W/\x3 aA.heap.size W (.slice o6 cn.length oM) cn (o.j1 m s q (o.bN m p oi))/\eV x9 T.n 3 w.heap.size W (.slice v.1 v.2.1 v.2.2) (o.o4 m s k++(o.lU m s k).take j)) a6 a6 ⟨aR,JS,by simpa using eT⟩ ?_;clear JS eT ed;rintro j v S aU az ⟨aq,P8,dD⟩;have ZZ:=aJ.jN lM P8.row;refine J ?_;refine I_ (λjM=>?_) (λjM=>?_);rotate_left
  .have aaY:j=cn.length:=Ad
   rw[MC Ad,<-o.ac1] at dD;refine J ?_;exact⟨AP,aK,v,⟨aK,trivial⟩,aq,dD⟩
  have eP:j<cn.length:=Ad
  obtain⟨ac,rfl⟩:=ZZ.addr;obtain⟨Tc,Ps,gu,gx⟩:=P8.at_ j eP Ad;have gM:aU.cell? (ac.add (j*1))=some (.slice Tc (o.j1 m s q (o.bN m p oi))[j].length Ps):=by
   have:=ZZ.at j eP 0 (.slice Tc (o.j1 m s q (o.bN m p oi))[j].length Ps) (by show(cn[j].1)[0]? = _;rw[gu];rfl)
   rwa[add_zero] at this
  refine J ?_;refine M_ gM ?_;refine J ?_;intro bh dF jt av bI;have dM:=dD.ext av;have RC:=gx.ext av;have akO:=P8.ext av;have z4:=aq.size;have z5:=av.size;have hlen:(o.o4 m s k++(o.lU m s k).take j).length<=2*k+2:=by rw[MD,Hs];omega
  have R2:∀i,(Value.slice v.1 v.2.1 v.2.2).ownBlock=some i->∃x,bh.heap[i]? = some (.cells x T.n):=λi U=>by
   obtain⟨aiw,_,AX,_⟩:=dM.ex;exact aJ.cy AX i U
  have ct:∀(k:Nat) (x:Array B_) (e:F_),bh.heap[k]? = some (.cells x e)->e=T.b\/e=T.a->(Value.slice v.1 v.2.1 v.2.2).ownBlock=some k->False:=λk x e h1 I ab=>by
   obtain⟨ji,dA⟩:=R2 k ab;rw[h1] at dA;injection dA with dA
   injection dA with _ dA
   subst dA
   revert I;decide
  refine _U (x:=(⟨k,j,(o.j1 m s q (o.bN m p oi))[j]⟩:o.oC)) (cs:=[.I k,.I j,.slice Tc (o.j1 m s q (o.bN m p oi))[j].length Ps]) dM (im bI)
   (λW fg=>⟨_,rfl,kR (aJ.mod RC fg λi U au=>by
    obtain⟨ie,c5⟩:=aJ.cy RC i U;rcases au with au | au
    .exact ct i _ _ c5 (.inr rfl) au
    .have:=(aJ.lt RC i U).1
     omega)⟩) rfl (by simp[Value.oneCell']) Ad (by unfold maxLen;omega) Ad λbU bq y5 iF=>?_
  have gV:=dM.kG (aq.trans av) iF (EC _);have Fs:=akO.mod (Mod.grown iF λk hk=>hk) λk x e _ h1 I ab=>ct k x e h1 I ab;obtain⟨ug,yo,rfl,_⟩:=y5.form;refine J ?_;refine⟨eP,aK,(ug,_,yo),⟨rfl,trivial⟩,gV,Fs,?_⟩;rw[Iu Ad,<-MV,Fv j Ad Ad];exact y5
 .have gS:k=(o.refs m).length:=Ad
  subst gS;obtain⟨axv,co,ano,_⟩:=ed.form;obtain⟨aqy,axk,aix⟩:=pb;cases ano;refine J ?_;refine I_ (λjM=>?_) (λjM=>?_)
  .have Ky:o.o4 m s (o.refs m).length=[]:=AF7 Ad;have qe:o.jc m s=o.o4 m s (o.refs m).length++[⟨-1,0,s⟩]:=by unfold o.jc;rw[Ky];rfl
   replace ed:eV x9 T.n 3 w.heap.size aA (.slice aqy (o.o4 m s (o.refs m).length).length aix) (o.o4 m s (o.refs m).length):=ed;have Kr:(o.o4 m s (o.refs m).length).length=0:=by rw[Ky];rfl
   have et:=aj.ext Flat.ext ai;have z2:=ai.size;have j4:o.di m<=64:=o.iG aL;have mf:=ay.len;refine J ?_;refine J_ (Sv _ s aA et (by unfold o.ep;omega)) ?_;rintro u aU ⟨dD,ec⟩;obtain⟨hg,Nw,rfl,_⟩:=(kR dD).form;have ani:=aJ.new (enc:=bX) (λ_=>rfl) dD;have anJ:=ed.ext ec;have z4:=ec.size;refine J ?_;intro bh dF jt av bI;have Gr:=anJ.ext av;have z5:=av.size;refine _U (x:=(⟨-1,0,s⟩:o.oC)) (cs:=[.I (-1),.I 0,.slice hg s.length Nw]) Gr (im bI)
    (((eL.own (w1:=aU) ani ed Ad).imp λw h=>⟨_,rfl,h⟩).ext av λi U hk=>by have:=ed.under Ad i hk;omega) rfl (by simp[Value.oneCell']) Ad (by unfold maxLen;omega) Ad λbU bq y5 iF=>?_
   have afW:=Gr.kG ((ai.trans ec).trans av) iF (EC _);obtain⟨ug,yo,rfl,_⟩:=y5.form;refine J ?_;exact⟨by rw[qe];exact y5,afW⟩
  .have qe:o.jc m s=o.o4 m s (o.refs m).length:=by
    unfold o.jc;split
    .rename_i aw;rw[aw] at jM;simp at jM
    .rfl
   refine J ?_;exact⟨by rw[qe];exact ed,ai⟩
def arN(cs:C_ B_)(v:B_)(m:o.Model)(s:C_ Int)(ref:Int)(q p k:Nat)(w:A_)(h:pZ w cs m)(aG:m.cv)(aj:c9 w v s)(ay:o.Fits m s)(bw:o.fa m ref q p k) :
  Du F.Mc #[.agg cs.toArray,v,.I ref] w λu w'=>(∃t:Bool,u = .bool t/\(t=true↔o.hJ m s q (o.bN m p k)≠none))/\Ext w w':=by
 have FF:=h;obtain⟨eH,d0,dK,d1,eg,d2,eD,d3,eU,d4,Un,g0,afm,g1,BF,g2,at3,g3,Nw,g4,b8,ci,e9,gY,rfl,_⟩:=h.form;obtain⟨os,rG,rfl,_⟩:=aj.form;refine bl E.Mc ?_;refine J ?_;intro w1 bW eX ag ba;refine J ?_;refine J_ (arM _ _ m s ref q p k w1 (FF.ext ag) aG (aj.ext Flat.ext ag) ay bw) ?_;rintro u aA ⟨bR,ai⟩;have aH:=ag.trans ai;rcases bR with ⟨eG,rfl⟩ | ⟨t,lC,iZ,rfl,od⟩
 .refine J ?_;exact⟨⟨false,aK,by rw[eG];simp⟩,aH⟩
 .obtain⟨ui,yy,rfl,_⟩:=od.form;refine J ?_;exact⟨⟨true,aK,by rw[iZ];simp⟩,aH⟩
def zK(m:o.Model)(s:C_ Int)(ref:Int)(t:Bool):Prop:=t=true↔(o.iN m s/\o.Told m ref/\∀q p k,o.fa m ref q p k->o.hJ m s q (o.bN m p k)≠none)
theorem arI(cs:C_ B_)(v:B_)(m:o.Model)(s:C_ Int)(ref:Int)(w:A_)(h:o.dj w cs m)(aG:m.cv)(aj:c9 w v s) :
  Du F.L9 #[.agg cs.toArray,v,.I ref] w λu w'=>(∃t:Bool,u = .bool t/\zK m s ref t)/\Ext w w':=by
 have b4:=h;obtain⟨b0,bz,bO,c1,bT,c2,bV,bu,b1,bB,rfl,_⟩:=h.form;obtain⟨os,rG,rfl,_⟩:=aj.form;have no:∀{P:Prop},¬P->(false=true↔P):=λh=>⟨λk=>(by cases k),λk=>absurd k h⟩;refine bl E.L9 ?_;refine J ?_;intro w1 c6 fT ag bo;refine J ?_;refine J_ (arJ _ m w1 (b4.ext ag) aG) ?_;rintro _ aA ⟨hO,ai⟩;have aH:=ag.trans ai;clear bo;rcases hO with ⟨hk,rfl⟩ | ⟨hk,zs,rfl,fg⟩
 .unfold afF;refine J ?_;intro aM rD wT ah h4;refine J ?_;exact⟨⟨false,aK,no λh=>hk h.1.1⟩,aH.trans ah⟩
 have aL:=o.hE hk;have FF:=fg;obtain⟨eH,d0,dK,d1,eg,d2,eD,d3,eU,d4,Un,g0,afm,g1,BF,g2,at3,g3,Nw,g4,b8,ci,e9,gY,rfl,_⟩:=fg.form;refine J ?_;intro aM rD wT ah h4;have Z3:=FF.ext ah;have aR:=aH.trans ah;refine J ?_;refine J_ (arL _ _ m s aM Z3 aL (aj.ext Flat.ext aR)) ?_;rintro _ aU ⟨⟨t,rfl,aB⟩,aq⟩;replace h4:=aq.obj h4;have alo:=Z3.ext aq;have bn:=aR.trans aq;cases t with
 | false =>
  refine J ?_;exact⟨⟨false,aK,no λh=>by have:=aB.2 h.1.2;cases this⟩,bn⟩
 | true =>
  have bG:o.iN m s:=⟨hk,aB.1 rfl⟩;refine J ?_;apply I_<;>intro g1;rotate_left
  .refine J ?_;exact⟨⟨false,aK,no λh=>by have:=h.2.1.2;omega⟩,bn⟩
  refine J ?_;apply I_<;>intro g2;rotate_left
  .refine J ?_;exact⟨⟨false,aK,no λh=>by have:=h.2.1.2;omega⟩,bn⟩
  have bR:o.Told m ref:=⟨hk,Ad,Ad⟩;obtain⟨q,p,k,bw⟩:=o.mI bR;refine J ?_;refine J_ (arN _ _ m s ref q p k aU alo aG (aj.ext Flat.ext bn) bG.2 bw) ?_;rintro _ bh ⟨⟨t,rfl,aB⟩,av⟩;refine J ?_;refine⟨⟨t,aK,aB.trans ⟨λh=>⟨bG,bR,λeK gA k' qM=>?_⟩,λh=>h.2.2 q p k bw⟩⟩,bn.trans av⟩;obtain⟨rfl,rfl,rfl⟩:=bw.one qM;exact h
end Go.Proofs.R
namespace a8
open Go Go.RowKit
def eV.low{α:Type}{C:A_->C_ B_->α->Prop}{e:F_}{sz base wm:Nat}{w:A_}{v:B_}{xs:C_ α}(ak:wm<=base)(h:eV C e sz base w v xs):eV C e sz wm w v xs:=by
 obtain⟨cn,h1,I,ab⟩:=h.ex;exact⟨cn,h1,aJ.low ak I,λi c5 dA=>(ab i c5 dA).mono λk _ hk=>by
  rcases hk with hk | hk
  .exact .inl hk
  .exact .inr Ad⟩
end a8
namespace Go.Proofs.R
open Go Go.RowKit a8
theorem Za(cs:C_ B_)(v:B_)(m:o.Model)(s:C_ Int)(w:A_)(h:o.dj w cs m)(aG:m.cv)(aQ:gJ w)(aj:c9 w v s) :
  Du F.Co #[.agg cs.toArray,v] w λu w'=>((o.iN m s/\∃b,u = .tuple #[.pointer (some ⟨b,0,none⟩),.bool true]/\pY w' b m)\/(¬o.iN m s/\∃ae,u = .tuple #[.pointer ae,.bool false]))/\Ext w w':=by
 have b4:=h;obtain⟨b0,bz,bO,c1,bT,c2,bV,bu,b1,bB,rfl,_⟩:=h.form;obtain⟨os,rG,rfl,_⟩:=aj.form;refine bl E.Co ?_;refine J ?_;intro w1 bQ c7 ag ao;refine J ?_;refine J_ (aj9 _ m w1 (b4.ext ag) aG (aQ.ext ag)) ?_;rintro _ aA ⟨hO,ai⟩;replace ao:=ai.obj ao;have aH:=ag.trans ai;rcases hO with ⟨hk,rfl⟩ | ⟨hk,b,rfl,ak,fg⟩
 .refine J ?_;exact⟨.inr ⟨λbG=>hk bG.1,_,aK⟩,aH⟩
 refine J ?_;refine J_ (ae3 _ m _ s aA (b4.ext aH) aG (aQ.ext aH) (aj.ext Flat.ext aH)) ?_;rintro _ aM ⟨⟨t,rfl,aB⟩,ah⟩;have aR:=aH.trans ah;cases t with
 | false =>
  refine J ?_;exact⟨.inr ⟨λbG=>(by have:=aB.2 bG;cases this),_,aK⟩,aR⟩
 | true =>
  refine J ?_;exact⟨.inl ⟨aB.1 rfl,b,aK,fg.ext ah⟩,aR⟩
def ajW(dh:Nat)(m:o.Model)(ref:Int)(w:A_)(fg:pY w dh m) :
  Du F.co #[.pointer (some ⟨dh,0,none⟩),.I ref] w λu w'=>(∃t:Bool,u = .bool t/\(t=true↔0<=ref/\ref<(o.refs m).length))/\Ext w w':=by
 obtain⟨zs,ak,iu⟩:=fg;obtain⟨eH,d0,dK,d1,eg,d2,eD,d3,eU,d4,b0,bz,bO,c1,bT,c2,bV,bu,b1,bB,zm,yr,e9,gY,rfl,_⟩:=iu.form;clear iu;refine bl E.co ?_;refine J ?_;refine I_ (λg=>?_) (λg=>?_)
 .refine J ?_;exact⟨⟨_,aK,by rw[decide_eq_true_eq];exact⟨λh=>⟨Ad,h⟩,λh=>h.2⟩⟩,Ext.refl _⟩
 .refine J ?_;exact⟨⟨false,aK,by simp only[Bool.false_eq_true,false_iff];omega⟩,Ext.refl _⟩
theorem ajP(cs:C_ B_)(v:B_)(m:o.Model)(s:C_ Int)(ref:Int)(w:A_)(h:o.dj w cs m)(aG:m.cv)(aQ:gJ w)(aj:c9 w v s) :
  Du F.np #[.agg cs.toArray,v,.I ref] w λu w'=>(∃t:Bool,u = .bool t/\zK m s ref t)/\Ext w w':=by
 have b4:=h;obtain⟨b0,bz,bO,c1,bT,c2,bV,bu,b1,bB,rfl,_⟩:=h.form;obtain⟨os,rG,rfl,_⟩:=aj.form;have no:∀{P:Prop},¬P->(false=true↔P):=λh=>⟨λk=>(by cases k),λk=>absurd k h⟩;refine bl E.np ?_;refine J ?_;intro w1 bW eX ag ba;refine J ?_;refine J_ (Za _ _ m s w1 (b4.ext ag) aG (aQ.ext ag) (aj.ext Flat.ext ag)) ?_;rintro _ aA ⟨dd,ai⟩;have aH:=ag.trans ai;rcases dd with ⟨bG,b,rfl,fg⟩ | ⟨bG,ae,rfl⟩
 rotate_left
 .refine J ?_;exact⟨⟨false,aK,no λcR=>bG cR.1⟩,aH⟩
 refine J ?_;refine J_ (ajW b m ref aA fg) ?_;rintro _ aM ⟨⟨t,rfl,aB⟩,ah⟩;have aR:=aH.trans ah;cases t with
 | false =>
  refine J ?_;exact⟨⟨false,aK,no λcR=>by have:=aB.2 cR.2.1.2;cases this⟩,aR⟩
 | true =>
 have bR:o.Told m ref:=⟨bG.1,aB.1 rfl⟩;obtain⟨q,p,k,bw⟩:=o.mI bR;refine J ?_;refine J_ (Zv b _ m s ref q p k aM (fg.ext ah) (aj.ext Flat.ext aR) bG.2 bw) ?_;rintro u aU ⟨⟨cn,de⟩,aq⟩;obtain⟨o6,oM,rfl,_⟩:=(aJ.jN lM de.row).form;have nx:=de.len;refine J ?_;refine⟨⟨_,aK,?_⟩,aR.trans aq⟩;unfold zK;rw[decide_eq_true_eq];constructor
 .intro C9;refine⟨bG,bR,λeK gA k' qM aw=>?_⟩;obtain⟨rfl,rfl,rfl⟩:=bw.one qM
  have:o.j1 m s q (o.bN m p k)=[]:=by unfold o.j1;rw[aw]
  have ad:cn.length=0:=by rw[nx,this];rfl
  omega
 .rintro⟨_,_,ab⟩;have aC:=ab q p k bw;cases an:o.hJ m s q (o.bN m p k) with
  | none=>exact absurd an aC
  | some t =>
   have:0<(o.j1 m s q (o.bN m p k)).length:=by unfold o.j1;rw[an];simp
   omega
def ajO(cs:C_ B_)(v:B_)(m:o.Model)(s:C_ Int)(w:A_)(h:o.dj w cs m)(aG:m.cv)(aQ:gJ w)(aj:c9 w v s) :
  Du F.bQ #[.agg cs.toArray,v] w λu w'=>((o.iN m s/\eV x9 T.n 3 w.heap.size w' u (o.jc m s))\/(¬o.iN m s/\u = .slice none 0 0))/\Ext w w':=by
 have b4:=h;obtain⟨b0,bz,bO,c1,bT,c2,bV,bu,b1,bB,rfl,_⟩:=h.form;obtain⟨os,rG,rfl,_⟩:=aj.form;refine bl E.bQ ?_;refine J ?_;intro w1 bW eX ag ba;refine J ?_;refine J_ (Za _ _ m s w1 (b4.ext ag) aG (aQ.ext ag) (aj.ext Flat.ext ag)) ?_;rintro _ aA ⟨dd,ai⟩;have aH:=ag.trans ai;rcases dd with ⟨bG,b,rfl,fg⟩ | ⟨bG,ae,rfl⟩
 rotate_left
 .refine J ?_;exact⟨.inr ⟨bG,aK⟩,aH⟩
 refine J ?_;refine J_ (aj8 b _ m s aA fg bG.1 (aj.ext Flat.ext aH) bG.2) ?_;rintro u aM ⟨aS,ah⟩;obtain⟨aN,fs,rfl,_⟩:=aS.form;refine J ?_;exact⟨.inl ⟨bG,eV.low aH.size aS⟩,aH.trans ah⟩
structure au0(w:World)(wo n base:Nat)(bs:List Nat)(M:List (List Bool)):Prop where
 len:bs.length=M.length
 le:bs.length<=n
 row:w.heap[wo]? = some (.cells (bs.map (λb=>Value.slice (some ⟨b,0,none⟩) n n)++List.replicate (n - bs.length) (Value.slice none 0 0)).toArray T.gp)
 rows:∀j (h:j<bs.length) (br:j<M.length),w.heap[bs[j]]? = some (.cells (mG M[j]).toArray T.j)/\M[j].length=n
 low:∀b∈bs,base<=b
end Go.Proofs.R
namespace o
open Go
def kB.lz{m:Model}{ref:Int}{a b:C_ Int}(h:kB m ref a b):a.Pairwise (· < ·)/\b.Pairwise (· < ·):=by
 by_cases aB:Told m ref
 .obtain⟨q,p,k,bw⟩:=mI aB;obtain⟨h1,I⟩:=h.there q p k bw;exact⟨h1.lz,I.lz⟩
 .obtain⟨rfl,rfl⟩:=h.none aB;exact⟨List.Pairwise.nil,List.Pairwise.nil⟩
end o
namespace a8
open Go Go.RowKit
def ai1(b:Bool):C_ B_:=[.bool b]
end a8
namespace Go.Proofs.R
open Go Go.RowKit a8
def amu(n:Nat)(vs:Nat->H_ Addr×Nat×Nat):C_ B_:=(List.range n).map λj=>ck (vs j)
structure au1(w:World)(wo n base:Nat)(vs:Nat->Option Addr×Nat×Nat)(xs:Nat->List Bool):Prop where
 head:w.heap[wo]? = some (.cells (amu n vs).toArray T.gp)
 rows:iO ai1 T.j 1 base w n vs xs
end Go.Proofs.R
section
def o.l5.go{m:o.Model}{ref:Int}{q p k:Nat}(bw:o.fa m ref q p k)(h:(o.bN m p k).to<=(o.bN m p k).from_):o.l5 m ref true :=
 ⟨λaw=>absurd bw.told aw,λeK gA k' cx fS qM _=>by
  obtain⟨rfl,rfl,rfl⟩:=bw.one qM;exact⟨λ_=>.inl h,λ_=>rfl⟩⟩
namespace Go.Proofs.R
open Go Go.RowKit a8
theorem arY(cs:C_ B_)(m:o.Model)(ref:Int)(w:A_)(h:o.dj w cs m)(aG:m.cv) :
  Du F.Mu #[.agg cs.toArray,.I ref] w λu w'=>(∃t,u = .bool t/\o.l5 m ref t)/\Ext w w':=by
 have b4:=h;obtain⟨b0,bz,bO,c1,bT,c2,bV,bu,b1,bB,rfl,ad,h1,I,ab,aC,eu,dz,dJ,dR,ee⟩:=h.form;refine bl E.Mu ?_;refine J ?_;intro w1 bQ c7 ag ao;refine J ?_;refine J_ (MB _ m w1 (b4.ext ag) aG) ?_;rintro _ aA ⟨rfl,ai⟩;replace ao:=ai.obj ao;have aH:=ag.trans ai;refine J ?_;apply I_<;>intro g1;rotate_left
 .refine J ?_;exact⟨⟨false,aK,o.l5.no λh=>g1 h.1⟩,aH⟩
 have gQ:=o.hE g1;have hR:=o.qo gQ.lim;refine J ?_;refine J_ (Bs _ m aA (b4.ext aH) aG gQ.lim) ?_;rintro vr aM ⟨fD,ah⟩;obtain⟨e9,mJ,rfl,_⟩:=fD.form;have jI:bm 2 (Flat o.Ref.enc) aM _ _:=aJ.e3 (enc:=o.Ref.enc) (λ_=>rfl) fD;replace ao:=ah.obj ao;have aR:=aH.trans ah;clear fD;refine J ?_;apply I_<;>intro g2
 .refine J ?_;exact⟨⟨false,aK,o.l5.no λh=>by have:=h.2.1;omega⟩,aR⟩
 refine J ?_;apply I_<;>intro g3
 .refine J ?_;exact⟨⟨false,aK,o.l5.no λh=>by have:=h.2.2;omega⟩,aR⟩
 obtain⟨q,p,k,bw⟩:=o.mI (m:=m) (ref:=ref) ⟨g1,Ad,Ad⟩;obtain⟨r,rfl⟩:=Nb (show 0<=ref by omega);have aS:r<(o.refs m).length:=Ad
 have fk:(o.refs m)[r].inst=(q:Int):=bw.at_.mX;have j7:(o.refs m)[r].cmd=(k:Int):=bw.at_.pI;obtain⟨l7,rfl⟩:=jI.addr;have au:=bw.at_.U;have ar:=bw.at_.ar;have hp:=bw.at_.hk;have j5:=bw.at_.ip;obtain⟨a3,rfl⟩:=ab.addr;obtain⟨kr,bY,dV,c3,eQ,er⟩:=ab.at p ar;obtain⟨vC,uQ,rfl,vy⟩:=er.form;obtain⟨ac,rfl⟩:=er.addr;obtain⟨eC,fi,va,e2,gi,fb⟩:=er.at k hp;obtain⟨fA,fL,rfl,_⟩:=gi.form;obtain⟨oq,nP,rfl,_⟩:=fb.form;have gR:=o.sv ar hp;rw[<-gR] at e2;unfold o.dt.enc at c3;unfold o.dI.enc at e2;have y4:=c3.ext aR;have AD:=e2.ext aR;refine dS ?_;refine R_ [1,2] (λdC:Nat=>[(6,.pointer (some ⟨dC,0,none⟩))]) (λdC W=>(∃fA fL aN fs,W.heap[dC]? = some (.cells #[.string (o.bN m p k).name,.I (o.bN m p k).from_,.I (o.bN m p k).to,.slice fA (o.bN m p k).guard.length fL,.slice aN (o.bN m p k).bP.length fs,.bool (o.bN m p k).fair] T.q))/\Ext aM W) ?_ ?_
 .have sH:∀{W},Ext aM W->Du F.GX #[.agg #[.slice b0 m.scalars.length bz,.slice bO m.vars.length c1,.slice bT m.ax.length c2,.slice (some a3) m.procs.length bu,.slice b1 m.props.length bB]] W λv w'=>(∃gp ci,v = .slice (some gp) (o.insts m).length ci/\ik w' v (o.insts m))/\Ext W w':=λ{W} he=>(s0 _ m W (b4.ext (aR.trans he)) aG).mono λv w' ⟨aF,hn⟩=>by
   have aP:ik w' v (o.insts m):=aJ.e3 (enc:=o.cO.enc) (λ_=>rfl) aF;obtain⟨b8,ci,rfl,_⟩:=aP.form;obtain⟨gp,rfl⟩:=aP.addr;exact⟨⟨gp,ci,rfl,aP⟩,hn⟩
  refine J ?_;intro aU aq;replace ao:=aq.obj ao;have alg:=jI.ext Flat.ext aq;have bn:=aR.trans aq;refine J ?_;refine⟨?_,?_⟩
  .refine J_ (sH aq) ?_;rintro _ bh ⟨⟨gp,ci,rfl,aP⟩,av⟩;have Ag:=aq.trans av;have bC:=aR.trans Ag;refine⟨av,?_⟩;refine J ?_;refine K_ q (by rw[fk]) au ?_;have KA:=y4.ext Ag;have QI:=AD.ext Ag;refine J ?_;refine⟨?_,?_⟩
   .refine J ?_;refine⟨av,?_⟩;refine J ?_;refine K_ p (by rw[j5]) ar ?_;refine J ?_;refine⟨?_,?_⟩
    .refine J ?_;refine⟨av,?_⟩;refine J ?_;refine K_ k (by rw[j7]) hp ?_;refine J ?_;refine⟨?_,?_⟩
     .refine J ?_;refine⟨av,?_⟩;refine J ?_;intro bq dC e5 aD bS;refine⟨av.trans aD,?_⟩;refine U_ bS rfl rfl yt λbH dw bZ=>?_;have cM:=dw.ext aD e5;refine J ?_;exact⟨dC,⟨aK,trivial⟩,⟨_,_,_,_,bZ⟩,Ag.trans cM⟩
     .refine O_ ?_;intro bq dC e5 aD bS;refine⟨av.trans aD,?_⟩;have tH:=QI.ext aD;refine J ?_;refine⟨av.trans aD,?_⟩;refine U_ bS rfl rfl yt λcG gy cE=>?_;have fW:=gy.ext aD e5;refine J ?_;exact⟨dC,⟨aK,trivial⟩,⟨_,_,_,_,cE⟩,Ag.trans fW⟩
    .refine O_ ?_;intro bq dC e5 aD bS;refine⟨av.trans aD,?_⟩;have xb:=KA.ext aD;have tH:=QI.ext aD;refine J ?_;refine⟨av.trans aD,?_⟩;refine J ?_;refine K_ k (by rw[j7]) hp ?_;refine J ?_;refine⟨av.trans aD,?_⟩;refine U_ bS rfl rfl yt λcG gy cE=>?_;have fW:=gy.ext aD e5;refine J ?_;exact⟨dC,⟨aK,trivial⟩,⟨_,_,_,_,cE⟩,Ag.trans fW⟩
   .refine O_ ?_;intro bq dC e5 aD bS;refine⟨av.trans aD,?_⟩;have xb:=KA.ext aD;have tH:=QI.ext aD;have avB:=aP.ext Flat.ext aD;refine J ?_;refine⟨av.trans aD,?_⟩;refine J ?_;refine K_ p (by rw[j5]) ar ?_;refine J ?_;refine⟨av.trans aD,?_⟩;refine J ?_;refine K_ k (by rw[j7]) hp ?_;refine J ?_;refine⟨av.trans aD,?_⟩;refine U_ bS rfl rfl yt λcG gy cE=>?_;have fW:=gy.ext aD e5;refine J ?_;exact⟨dC,⟨aK,trivial⟩,⟨_,_,_,_,cE⟩,Ag.trans fW⟩
  .refine O_ ?_;intro bh dC e5 av bS;refine⟨av,?_⟩;refine J ?_;refine J_ (sH (aq.trans av)) ?_;rintro _ bq ⟨⟨gp,ci,rfl,aP⟩,aD⟩;have YQ:=(aq.trans av).trans aD;refine⟨av.trans aD,?_⟩;refine J ?_;refine K_ q (by rw[fk]) au ?_;have xb:=y4.ext YQ;have tH:=AD.ext YQ;refine J ?_;refine⟨av.trans aD,?_⟩;refine J ?_;refine K_ p (by rw[j5]) ar ?_;refine J ?_;refine⟨av.trans aD,?_⟩;refine J ?_;refine K_ k (by rw[j7]) hp ?_;refine J ?_;refine⟨av.trans aD,?_⟩;refine U_ (aD.obj bS) rfl rfl yt λcG gy cE=>?_;have fW:=gy.ext (av.trans aD) e5;refine J ?_;exact⟨dC,⟨aK,trivial⟩,⟨_,_,_,_,cE⟩,aq.trans fW⟩
 rintro dC S aU ⟨⟨axq,avk,iI,avh,bS⟩,aq⟩;replace ao:=aq.obj ao;have bn:=aR.trans aq;refine J ?_;apply I_<;>intro g5
 .refine J ?_;exact⟨⟨true,aK,o.l5.go bw g5⟩,bn⟩
 refine J ?_;refine J_ (asC _ m aU (b4.ext bn) aG) ?_;rintro auq bh ⟨⟨b9,n,aF⟩,av⟩;have bC:=bn.trans av;replace ao:=av.obj ao;have hlen:=aeH g1;have jL:∃p,auq = .slice p n n/\(0<(o.jC m).length->p=some ⟨b9,0,none⟩/\n=(o.jC m).length/\bh.heap[b9]? = some (.cells (mG (o.jC m)).toArray T.j)):=by
  rcases aF with ⟨aj,rfl,rfl⟩ | ⟨rfl,aw,_,kM⟩
  .exact⟨none,rfl,λak=>by rw[aj] at ak;simp at ak⟩
  .exact⟨_,rfl,λ_=>⟨rfl,aw,kM⟩⟩
 obtain⟨aqN,rfl,RE⟩:=jL;refine J ?_;refine J_ (adV _ m (r:Int) bh (b4.ext bC) aG) ?_;rintro _ bq ⟨⟨fq,ky,a,b,rfl,dd,hK,bG⟩,aD⟩;have b6:=bC.trans aD;have en:=o.afE bw bG;have P7:bm 1 (Flat bX) bq ky b:=aJ.e3 (enc:=bX) (λ_=>rfl) hK;obtain⟨qi,uP,rfl,hr⟩:=P7.form;clear ao bS;refine J ?_;refine L_ 10 b.length [1,7,9] (λ_:Unit=>[]) () (λi _ W=>Ext bq W/\∀j (az:j<b.length),j<i->pK (o.jC m) b[j]=false) a6 a6 ⟨Ext.refl _,λj _ az=>Ad⟩ ?_;rintro i _ jW bH U ⟨bc,eG⟩;have avz:=P7.ext Flat.ext bc;refine J ?_;apply I_<;>intro g6;rotate_left
 .refine J ?_;refine⟨⟨false,aK,o.l5.of bw bG ?_⟩,b6.trans bc⟩;refine⟨λh=>(by cases h),λh=>?_⟩;rcases h with h | h
  .omega
  .obtain⟨x,af,aj⟩:=List.any_eq_true.1 ((TT g1 en).2 h);obtain⟨j,az,rfl⟩:=List.mem_iff_getElem.1 af;rw[eG j az Ad] at aj;cases aj
 have Rf:i<b.length:=Ad
 obtain⟨pn,rfl⟩:=P7.addr;obtain⟨o7,c5⟩:=en _ (ED Rf);obtain⟨rfl,rfl,kM⟩:=RE Ad;have dL:bH.cell? (Addr.add ⟨b9,0,none⟩ ((b[i]).toNat*1))=some (.bool (pK (o.jC m) b[i])):=fM ((aD.trans bc).obj kM) (by rw[AG2];simp[mG,pK,show(b[i]).toNat<(o.jC m).length by omega]);refine J ?_;refine K_ (b[i]).toNat Ad Ad ?_;refine J ?_;refine M_ dL ?_;refine J ?_;cases g7:pK (o.jC m) b[i] with
 | true =>
  refine J ?_;exact⟨⟨true,aK,o.l5.of bw bG ⟨λ_=>.inr ((TT g1 en).1 (List.any_eq_true.2 ⟨_,ED Rf,g7⟩)),λ_=>rfl⟩⟩,b6.trans bc⟩
 | false =>
  refine J ?_;refine⟨Rf,aK,(),trivial,bc,λj az ho=>?_⟩;rcases AF5 j i with h | h
  .exact eG j az h
  .obtain rfl:j=i:=Ad
   exact g7
def arX(cs:C_ B_)(m:o.Model)(q l:Int)(w:A_)(h:o.dj w cs m)(aG:m.cv) :
  Du F.Mt #[.agg cs.toArray,.I q,.I l] w λu w'=>(∃t,u = .bool t/\o.kW m q l t)/\Ext w w':=by
 have b4:=h;obtain⟨b0,bz,bO,c1,bT,c2,bV,bu,b1,bB,rfl,ad,h1,I,ab,aC,eu,dz,dJ,dR,ee⟩:=h.form;refine bl E.Mt ?_;refine J ?_;intro w1 bW eX ag ba;refine J ?_;refine J_ (MB _ m w1 (b4.ext ag) aG) ?_;rintro _ aA ⟨rfl,ai⟩;replace ba:=ai.obj ba;have aH:=ag.trans ai;refine J ?_;apply I_<;>intro g1;rotate_left
 .refine J ?_;exact⟨⟨false,aK,o.kW.no λk=>g1 k.1⟩,aH⟩
 have gQ:=o.hE g1;refine J ?_;refine J_ (s0 _ m aA (b4.ext aH) aG) ?_;rintro vr aM ⟨fD,ah⟩;have aP:ik aM vr (o.insts m):=aJ.e3 (enc:=o.cO.enc) (λ_=>rfl) fD;obtain⟨b8,ci,rfl,_⟩:=aP.form;replace ba:=ah.obj ba;have aR:=aH.trans ah;clear fD;refine J ?_;apply I_<;>intro g2
 .refine J ?_;exact⟨⟨false,aK,o.kW.no λk=>by have:=k.aV;omega⟩,aR⟩
 refine J ?_;apply I_<;>intro g3
 .refine J ?_;exact⟨⟨false,aK,o.kW.no λk=>by have:=k.aV;omega⟩,aR⟩
 obtain⟨lA,rfl⟩:=Nb (show 0<=q by omega);have au:lA<(o.insts m).length:=Ad
 obtain⟨p,hIn⟩:=o.A7 au;have ar:=hIn.ar;have j5:=hIn.eq;obtain⟨gp,rfl⟩:=aP.addr;obtain⟨a3,rfl⟩:=ab.addr;obtain⟨kr,bY,dV,c3,eQ,er⟩:=ab.at p ar;obtain⟨ei,eW,rfl,_⟩:=eQ.form;obtain⟨vC,uQ,rfl,vy⟩:=er.form;unfold o.dt.enc at c3;have y4:=c3.ext aR;refine J ?_;intro aU aq;have bn:=aR.trans aq;have yI:=aP.ext Flat.ext aq;have abo:=y4.ext aq;replace ba:=aq.obj ba;refine J ?_;refine K_ p (by rw[j5]) ar ?_;refine J ?_;intro bh jZ mc av cD;refine⟨av,?_⟩;refine J ?_;intro bq gE bS;have aD:=gE.ext av mc;have awH:=cq ba;replace ba:=aD.obj ba;have b6:=bn.trans aD;clear cD aP yI abo y4;refine J ?_;apply I_<;>intro g4
 .refine J ?_;exact⟨⟨false,aK,o.kW.no λk=>by have:=k.aV;omega⟩,b6⟩
 refine J ?_;apply I_<;>intro g5
 .refine J ?_;exact⟨⟨false,aK,o.kW.no λk=>by have:=k.lt hIn;omega⟩,b6⟩
 have dd:o.pj m lA l:=o.Dx g1 hIn Ad Ad;have hR:=o.qo gQ.lim;refine J ?_;intro bH bc;have cM:=b6.trans bc;replace ba:=bc.obj ba;refine J ?_;refine J_ (Bs _ m bH (b4.ext cM) aG gQ.lim) ?_;rintro vr cB ⟨fD,bt⟩;obtain⟨e9,mJ,rfl,_⟩:=fD.form;have jI:bm 2 (Flat o.Ref.enc) cB _ _:=aJ.e3 (enc:=o.Ref.enc) (λ_=>rfl) fD;clear fD;have eN:=cM.trans bt;refine⟨bt,?_⟩;refine J ?_;refine J_ (asI _ m cB (b4.ext eN) aG gQ.lim) ?_;rintro _ cG ⟨⟨L,base,gL,rN,alx,bG⟩,b2⟩;obtain⟨ap4,aho,rfl,_⟩:=bG.form;have yM:bm 2 Ox cG _ L:=bG.jN;have fW:=eN.trans b2;have aiP:=(bc.trans bt).trans b2;have Qr:=gL.len;have cE:=aiP.obj bS;have JY:=jI.ext Flat.ext b2;clear ba bS bG jI;refine J ?_;refine L_ 11 (o.refs m).length [1,2,8,9,10] (λ_:Unit=>[]) () (λi _ W=>Ext cG W/\∀j,j<i->o.mB m lA l j->∀k (hk:k<(o.refs m).length),(o.refs m)[k].inst≠lA->∀x y,L[j]? = some x->L[k]? = some y->¬o.nm x.1 x.2 y.1 y.2) a6 a6 ⟨Ext.refl _,λj h=>absurd h (HI _)⟩ ?_;rintro i _ S ew U ⟨cj,eG⟩;have kF:=fW.trans cj;have h4:=cj.obj cE;have alf:=JY.ext Flat.ext cj;refine J ?_;apply I_<;>intro g6;rotate_left
 .refine J ?_;exact⟨⟨true,aK,o.kW.of dd gL ⟨λ_ j az=>eG j (by have:=az.lt;omega) az,λ_=>rfl⟩⟩,kF⟩
 have ve:i<(o.refs m).length:=Ad
 obtain⟨eK,gA,k',bw⟩:=o.mI (m:=m) (ref:=i) ⟨g1,Ad,Ad⟩;have fk:(o.refs m)[i].inst=(eK:Int):=bw.at_.mX;have j7:(o.refs m)[i].cmd=(k':Int):=bw.at_.pI;have AI:=o.PX (q:=lA) (l:=l) bw;obtain⟨l7,rfl⟩:=JY.addr;have skip:(¬o.mB m lA l i)->∀j,j<i+1->o.mB m lA l j->∀k (hk:k<(o.refs m).length),(o.refs m)[k].inst≠lA->∀x y,L[j]? = some x->L[k]? = some y->¬o.nm x.1 x.2 y.1 y.2:=λaw j az ay=>by
  rcases AF5 j i with h | h
  .exact eG j h ay
  .obtain rfl:j=i:=Ad
   exact absurd ay aw
 refine J ?_;apply I_<;>intro g7;rotate_left
 .refine J ?_;intro fB ek;refine J ?_;exact⟨ve,aK,(),trivial,cj.trans ek,skip λay=>by rw[AI] at ay;rw[fk] at g7;omega⟩
 have anF:eK=lA:=by rw[fk] at g7;omega
 subst anF;obtain rfl:=hIn.one bw.inst;have hp:=bw.at_.hk;obtain⟨ac,rfl⟩:=er.addr;obtain⟨eC,fi,va,e2,gi,fb⟩:=er.at k' hp;obtain⟨fA,fL,rfl,_⟩:=gi.form;obtain⟨oq,nP,rfl,_⟩:=fb.form;have gR:=o.sv ar hp;rw[<-gR] at e2;unfold o.dI.enc at e2;have al7:=e2.ext kF;refine J ?_;refine K_ k' (by rw[j7]) hp ?_;refine J ?_;intro fB ek;refine J ?_;apply I_<;>intro g8;rotate_left
 .refine J ?_;exact⟨ve,aK,(),trivial,cj.trans ek,skip λay=>by rw[AI] at ay;omega⟩
 have uU:=kF.trans ek;have Vq:=cj.trans ek;have avD:=JY.ext Flat.ext Vq;have Re:i<L.length:=Ad
 obtain⟨agn,rfl⟩:=yM.addr;obtain⟨ie,ji,kJ,Sm,Sn⟩:=yM.at i Re;clear e2 al7 h4 c3 alf;refine J ?_;refine L_ 12 (o.refs m).length [1,2,8,9,10,11] (λ_:Unit=>[]) () (λj _ W=>Ext cG W/\∀k,k<j->∀(hk:k<(o.refs m).length),(o.refs m)[k].inst≠(eK:Int)->∀y,L[k]? = some y->¬o.nm L[i].1 L[i].2 y.1 y.2) a6 a6 ⟨Vq,λk h=>absurd h (HI _)⟩ ?_;rintro j _ jW hx az ⟨dW,Dj⟩;have ps:=fW.trans dW;have avE:=JY.ext Flat.ext dW;refine J ?_;apply I_<;>intro g9;rotate_left
 .refine J ?_;refine⟨ve,aK,(),trivial,dW,λk hk ay b ak ct x y af bE=>?_⟩;rcases AF5 k i with h | h
  .exact eG k h ay b ak ct x y af bE
  .obtain rfl:k=i:=Ad
   rw[List.getElem?_eq_getElem Re] at af;injection af with af
   subst af;exact Dj b Ad ak ct y bE
 have yW:j<(o.refs m).length:=Ad
 have sI:j<L.length:=Ad
 refine J ?_;apply I_<;>intro g10
 .refine J ?_;intro kx gv;refine J ?_;refine⟨yW,aK,(),trivial,dW.trans gv,λk hk AP ct y bE=>?_⟩;rcases AF5 k j with h | h
  .exact Dj k h AP ct y bE
  .obtain rfl:k=j:=Ad
   exact absurd g10 ct
 obtain⟨jR,jF,QU,Sq,Sr⟩:=yM.at j sI;have av6:=kJ.ext dW;have av8:=QU.ext dW;refine J ?_;refine P_ (.bool (decide (o.nm L[i].1 L[i].2 L[j].1 L[j].2))) (λw' e=>atY ie ji jR jF _ _ _ _ w' (Sm.ext Flat.ext (dW.trans e)) (Sn.ext Flat.ext (dW.trans e)) (Sq.ext Flat.ext (dW.trans e)) (Sr.ext Flat.ext (dW.trans e))) ?_;refine J ?_;intro kx gv;refine J ?_;apply I_<;>intro g11
 .refine J ?_;refine⟨⟨false,aK,o.kW.of dd gL ⟨(λh=>by cases h),λh=>?_⟩⟩,ps.trans gv⟩;exact absurd g11 (h i (AI.2 ⟨rfl,Ad⟩) j yW g10 _ _ (List.getElem?_eq_getElem Re) (List.getElem?_eq_getElem sI))
 .refine J ?_;refine⟨yW,aK,(),trivial,dW.trans gv,λk hk AP ct y bE=>?_⟩;rcases AF5 k j with h | h
  .exact Dj k h AP ct y bE
  .obtain rfl:k=j:=Ad
   rw[List.getElem?_eq_getElem sI] at bE;injection bE with bE
   subst bE;exact g11
end Go.Proofs.R
end
namespace a8
open Go Go.RowKit
section
variable{P:Program}{S:Fr}{w:World}
def gH.asw{α:Type}{enc:α->B_}{g:G_}{p:Nat}{a b:e0}{Q:H_ Nat->fK->Fr->A_->Prop}{jr:Nat}{hr:Array B_}{iC:A_->A_->Prop}{oF qE:C_ α->Prop}{N:Nat}{w0:A_}
  (aG:bp S g = .func (.func jr) #[] hr)(c8:okF P jr=true)(tT:SeqStopsK Fence.wide 0 P jr hr (λx=>#[enc x]) iC oF qE N w0)(he:Ext w0 w)(tD:Em iC w.heap.size)
  (da H8:C_ α->A_->Prop)(aP:OwnFrom w.heap.size da)(akV:OwnFrom w.heap.size H8)(ad:da [] w)
  (Gt:∀pre x W,da pre W->pre.length<N->eZ P a (jD (λuJ iP=>KeepsFrom w.heap.size W iP/\iC W iP/\∀e4,uI w.heap.size iP e4 ->
   eZ P b (jD (λ_ b3=>KeepsFrom w.heap.size e4 b3/\iC e4 b3/\da (pre++[x]) b3) (λe _ b3=>e = .ret/\KeepsFrom w.heap.size e4 b3/\H8 (pre++[x]) b3) ⟨⟩) uJ e4 ⟨⟩) (λ_ _ _=>False) ⟨⟩) (cc S p (enc x)) W ⟨⟩)
  (AF:∀D xs W,w.heap.size<=D->oF xs->da xs W->W.heap[D]? = some (.deferred (some []))->Q (some D) .normal S W)
  (anM:∀D xs W,w.heap.size<=D->H8 xs W->W.heap[D]? = some (.deferred (some []))->Q (some D) .ret S W):o9 P (.ur g p a b) Q S w:=by
 refine⟨α,enc,jr,hr,iC,oF,qE,N,w0,aG,c8,tT,he,tD,da,λe xs W=>e = .ret/\H8 xs W,aP,λe s A B row aj rT aS=>⟨aj.1,akV s A B row aj.2 rT aS⟩,ad,λpre x W U aE=>?_,AF,λD e pre W _ gq _ h bb=>?_⟩
 .have h:=Gt pre x W U aE;unfold eZ jD at h;refine qx a _ _ _ W (λe uJ iP _ h1=>?_) h;cases e with
  | normal =>
   obtain⟨cK,cV,fo⟩:=h1;refine⟨cK,cV,λe4 aS=>?_⟩;have I:=fo e4 aS;refine qx b _ _ _ e4 (λe jW oH _ ab=>?_) I;cases e with
   | normal=>exact ab
   | exit _=>exact absurd ab.1 CC
   | ret=>exact⟨ab.2.1,rfl,ab.2.2⟩
   | ht _=>exact absurd ab.1 CC
  | exit _=>exact h1.elim
  | ret=>exact h1.elim
  | ht _=>exact h1.elim
 .obtain⟨rfl,U⟩:=h;exact anM D pre W gq U bb
theorem gH.gK{β:Type}{a:e0}{b:te}{Q:H_ Nat->fK->Fr->A_->Prop}(cF:C_ Nat)(M:β->C_ (Nat×B_))(N:β->A_->Prop)(h1:eZ P a (jD (λga bM => ∃x,Has ga (M x)/\N x bM) (Q none) ⟨⟩) S w ⟨⟩)
  (I:∀x aZ w',N x w'->o9 P b Q (vK (M x) (vu S cF aZ)) w')(bb:(cF.all λt => !a.gd.contains t)=true:=by rfl):o9 P (.je a b) Q S w:=by
 unfold eZ jD at h1;show dV P a (vM (λS w=>o9 P b Q S w) (Q none)) S w;refine qx a _ _ _ w (λe uJ iP hk h=>?_) h1;cases e with
 | normal =>
  obtain⟨x,aL,fj⟩:=h;have h:=I x uJ iP fj;rw[GP cF λt aB=>hk t (MI bb t aB),Ht _ aL] at h;exact h
 | exit _=>exact h
 | ret=>exact h
 | ht _=>exact h
def nh.mod{hU:Nat}{cF:C_ F_}{W b3:A_}(h:nh hU cF W b3):Mod (λk => ¬∃c t f,W.heap[k]? = some (.cells c t f)/\t∈cF) W b3 :=
 ⟨h.1.os,h.1.tape,h.1.output,h.1.size,λk _ aw=>by
  obtain⟨c,t,f,h1,I⟩:=Classical.not_not.1 aw;exact h.2 k c t f h1 I⟩
theorem nh.ext{w:A_}{cF:C_ F_}{W b3:A_}(h:nh w.heap.size cF W b3)(he:Ext w W):Ext w b3:=Below.trans he h.1
def nh.own{α:Type}{enc:α->C_ B_}{e:F_}{sz base hU:Nat}{cF:C_ F_}{W b3:A_}{v:B_}{xs:C_ α}(h:nh hU cF W b3)(aQ:aJ enc e sz base W v xs)(he:e∈cF):aJ enc e sz base b3 v xs :=
 aQ.mod h.mod λk hk a=>by
  obtain⟨cur,an⟩:=aQ.cy k hk;exact a ⟨_,_,_,an,he⟩
theorem nh.obj{hU:Nat}{cF:C_ F_}{W b3:A_}(h:nh hU cF W b3){k:Nat}{c:Array B_}{t:F_}{f:Nat×Nat}(hk:W.heap[k]? = some (.cells c t f))(aB:t∈cF):b3.heap[k]? = some (.cells c t f):=(h.2 k c t f hk aB).trans hk
end
end a8
namespace o
open Go
abbrev Ez(m:Model)(q l:Int):={i:Nat // i<(refs m).length/\mB m q l i}
end o
namespace Go.Proofs.R
open Go Go.RowKit a8
abbrev ake:C_ F_:=[T.c,T.d,T.a,T.f]
def akf{pM w0:A_}{cT oJ p0:Nat}{cs:C_ B_}{m:o.Model}{q l:Int}(nZ:w0.heap[cT]? = some (.cells cs.toArray T.f))(FY:w0.heap[oJ]? = some (.cells #[.I q] T.a))(dL:w0.heap[p0]? = some (.cells #[.I l] T.a))
  (h:o.dj pM cs m)(q0:Ext pM w0)(aG:m.cv)(ft:(o.check m).cJ=0) :
  SeqStopsK Fence.wide 0 Tryz.prog F.v #[.pointer (some ⟨cT,0,none⟩),.pointer (some ⟨oJ,0,none⟩),.pointer (some ⟨p0,0,none⟩)] (λx:o.Ez m q l=>#[.I (x.1:Nat)]) (nh pM.heap.size ake) (λxs => ∀i,o.mB m q l i->i∈xs.map Subtype.val) (λ_=>True) (o.refs m).length w0:=by
 intro xx jj Oc W ak rL akW bE Kp;have C2:Ext pM W:=q0.trans ak;have aaw:=Ext.obj (w:=w0) ak nZ;have aaA:=Ext.obj (w:=w0) ak FY;have aat:=Ext.obj (w:=w0) ak dL;have b4:=h;have gQ:=o.hE ft;have hR:=o.qo gQ.lim;obtain⟨b0,bz,bO,c1,bT,c2,bV,bu,b1,bB,rfl,ad,h1,I,ab,aC,eu,dz,dJ,dR,ee⟩:=h.form;refine callsIn_wide.2 (Calls.mono (show Du F.v #[.func (.yield xx) #[] #[],.pointer (some ⟨cT,0,none⟩),.pointer (some ⟨oJ,0,none⟩),.pointer (some ⟨p0,0,none⟩)] W (λ_ b3=>(∃xs,(∀i,o.mB m q l i->i∈xs.map Subtype.val)/\jj xs b3)\/(∃pre:C_ (o.Ez m q l),True/\Oc pre b3)) from ?_) λe b3 ⟨v,bF,aH⟩=>⟨⟨v,bF⟩,aH⟩);have CQ:∀{pre:C_ (o.Ez m q l)} {w w':A_},jj pre w->Ext w w'->jj pre w':=λ{pre w w'} az e=>rL pre w w' none az e.Zy (λr e=>by cases e);clear nZ FY dL;refine bl E.v ?_;refine J ?_;refine J_ (xl _ m W (b4.ext C2) aG) ?_;rintro bK w1 ⟨dP,ag⟩;obtain⟨b8,ci,rfl,_⟩:=dP.form;have bF:=C2.trans ag;refine J ?_;refine J_ (zt _ m w1 (b4.ext bF) gQ.lim) ?_;rintro vr aA ⟨fD,ai⟩;obtain⟨e9,mJ,rfl,_⟩:=fD.form;have aH:=bF.trans ai;have ps:=ag.trans ai;have Kc:=ps.obj aaw;have Kd:=ps.obj aaA;have Kb:=ps.obj aat;have abF:=dP.ext ai;have ju:=CQ Kp ps;clear aaw aaA aat dP Kp;refine J ?_;refine L_ 13 (o.refs m).length [0,1,2,3,5,11,12] (λ_=>[]) ([]:C_ (o.Ez m q l)) (λk pre w'=>(Ext pM w'/\w'.heap[cT]? = aA.heap[cT]? /\ w'.heap[oJ]? = aA.heap[oJ]? /\ w'.heap[p0]? = aA.heap[p0]? /\ aJ o.cO.enc T.d 2 W.heap.size w' (.slice b8 (o.insts m).length ci) (o.insts m)/\aJ o.Ref.enc T.c 2 w1.heap.size w' (.slice e9 (o.refs m).length mJ) (o.refs m)/\jj pre w')/\pre.length<=k/\∀i,i<k->o.mB m q l i->i∈pre.map Subtype.val) a6 a6
  ⟨⟨aH,rfl,rfl,rfl,abF,fD,ju⟩,EC _,λi h=>absurd h (HI _)⟩ ?_
 rintro k pre S aM hk ⟨⟨aR,QN,QS,QL,R7,Sa,sI⟩,sM,en⟩;rw[Kc] at QN;rw[Kd] at QS;rw[Kb] at QL;refine J ?_;apply I_<;>intro g1;rotate_left
 .refine J ?_;exact .inl ⟨pre,λi U=>en i (by have:=U.lt;omega) U,sI⟩
 have cb:k<(o.refs m).length:=Ad
 have jI:bm 2 (Flat o.Ref.enc) aM _ _:=aJ.e3 (enc:=o.Ref.enc) (λ_=>rfl) Sa;have ZO:ik aM _ (o.insts m):=aJ.e3 (enc:=o.cO.enc) (λ_=>rfl) R7;obtain⟨l7,rfl⟩:=jI.addr;obtain⟨eK,gA,k',bw⟩:=o.mI (m:=m) (ref:=k) ⟨ft,Ad,Ad⟩;have fk:(o.refs m)[k].inst=(eK:Int):=bw.at_.mX;have j7:(o.refs m)[k].cmd=(k':Int):=bw.at_.pI;have AI:=o.PX (q:=q) (l:=l) bw;have gM:=jI.at k cb;obtain⟨x,af⟩:∃x,x=(o.refs m)[k]:=⟨_,rfl⟩;rw[<-af] at fk j7 gM;have gM:fc aM (l7.add (k*2)) x.enc:=gM;unfold o.Ref.enc at gM;refine J ?_;intro wn h2 gZ e8 eC;refine J ?_;intro aU dQ bZ;replace bZ:aU.heap[h2]? = some (.cells #[.I x.inst,.I x.cmd] T.c):=by rw[af];exact bZ
 have aq:Ext aM aU:=dQ.ext e8 gZ;have bn:=aR.trans aq;have aau:=aq.obj QN;have aay:=aq.obj QS;have aar:=aq.obj QL;have ZP:=ZO.ext Flat.ext aq;clear eC e8 QN QS QL;refine J ?_;intro bh av;have bC:=bn.trans av;have QO:=av.obj aau;have QT:=av.obj aay;have QM:=av.obj aar;have yQ:=av.obj bZ;have ZQ:=ZP.ext Flat.ext av;have N0:=aq.trans av;have Gb:=CQ sI N0;have R8:=R7.ext N0;have Sb:=Sa.ext N0;clear aau aay aar bZ ZP R7 Sa;have skip:¬o.mB m q l k->∀i,i<k+1->o.mB m q l i->i∈pre.map Subtype.val:=λaw i U ay=>by
  rcases AF5 i k with h | h
  .exact en i h ay
  .obtain rfl:i=k:=Ad
   exact absurd ay aw
 refine J ?_;apply I_<;>intro g2;rotate_left
 .refine J ?_;exact⟨cb,aK,pre,trivial,⟨bC,QO.trans Kc.symm,QT.trans Kd.symm,QM.trans Kb.symm,R8,Sb,Gb⟩,Ad,skip λay=>by rw[AI] at ay;omega⟩
 refine J ?_;have dH:Du F.s #[.agg #[.slice b0 m.scalars.length bz,.slice bO m.vars.length c1,.slice bT m.ax.length c2,.slice bV m.procs.length bu,.slice b1 m.props.length bB],.slice b8 (o.insts m).length ci,.agg #[.I x.inst,.I x.cmd]] bh λu w'=>(∃fA fL aN fs,u = .agg #[.string (o.bN m gA k').name,.I (o.bN m gA k').from_,.I (o.bN m gA k').to,.slice fA (o.bN m gA k').guard.length fL,.slice aN (o.bN m gA k').bP.length fs,.bool (o.bN m gA k').fair])/\Ext bh w':=(YA _ _ m k eK gA k' bh (b4.ext bC) ZQ bw x fk j7).mono λu w' ⟨⟨fi,va,hu,aw,aY⟩,hn⟩=>by
  obtain⟨fA,fL,rfl,_⟩:=aw.form;obtain⟨aN,fs,rfl,_⟩:=aY.form;exact⟨⟨fA,fL,aN,fs,hu⟩,hn⟩
 refine J_ dH ?_;clear dH;rintro _ bq ⟨⟨fA,fL,aN,fs,rfl⟩,aD⟩;have b6:=bC.trans aD;have De:=CQ Gb aD;have aav:=aD.obj QO;have aaz:=aD.obj QT;have aas:=aD.obj QM;have abH:=R8.ext aD;have GC:=Sb.ext aD;refine⟨aD,?_⟩;clear QO QT QM yQ R8 Sb ZQ jI ZO gM;refine J ?_;refine Y_ (v:=.I (o.bN m gA k').from_) rfl ?_;refine J ?_;apply I_<;>intro g3;rotate_left
 .refine J ?_;exact⟨cb,aK,pre,trivial,⟨b6,aav.trans Kc.symm,aaz.trans Kd.symm,aas.trans Kb.symm,abH,GC,De⟩,Ad,skip λay=>by rw[AI] at ay;omega⟩
 have ay:o.mB m q l k:=AI.2 ⟨Ad,g3⟩;refine J ?_;refine _2 (bE pre ⟨k,cb,ay⟩ bq De Ad) ?_;rintro e bH (⟨rfl,Rj,AN⟩ | ⟨rfl,Rj⟩)
 .refine⟨.bool true,rfl,?_⟩;refine J ?_;refine⟨cb,aK,pre++[⟨k,cb,ay⟩],trivial,⟨AN.ext b6,(AN.obj aav By).trans Kc.symm,(AN.obj aaz By).trans Kd.symm,(AN.obj aas By).trans Kb.symm,AN.own abH By,AN.own GC By,Rj⟩,by simp;omega,λi U Q6=>?_⟩;rw[AF1,AG0];rcases AF5 i k with h | h
  .exact .inl (en i h Q6)
  .obtain rfl:i=k:=Ad
   exact .inr CC
 .refine⟨.bool false,rfl,?_⟩;refine J ?_;exact .inr ⟨_,trivial,Rj⟩
def apj(x:o.Ref)(oJ:Nat)(q:Int)(w:A_)(h:w.heap[oJ]? = some (.cells #[.I q] T.a)) :
  Du F.r #[.agg #[.I x.inst,.I x.cmd],.pointer (some ⟨oJ,0,none⟩)] w λv w'=>v = .bool (!decide (x.inst=q))/\Ext w w':=by
 refine bl E.r ?_;refine J ?_;intro w1 bx cN ag al;have abu:=ag.obj h;refine J ?_;exact⟨aK,ag⟩
def akd(cs:C_ B_)(m:o.Model)(q l:Int)(w:A_)(h:o.dj w cs m) :
  Du F.yj #[.agg cs.toArray,.I q,.I l] w λv w'=>(∃cT oJ p0,v = .func (.func F.v) #[] #[.pointer (some ⟨cT,0,none⟩),.pointer (some ⟨oJ,0,none⟩),.pointer (some ⟨p0,0,none⟩)]/\w'.heap[cT]? = some (.cells cs.toArray T.f)/\w'.heap[oJ]? = some (.cells #[.I q] T.a)/\w'.heap[p0]? = some (.cells #[.I l] T.a))/\Ext w w':=by
 obtain⟨b0,bz,bO,c1,bT,c2,bV,bu,b1,bB,rfl,_⟩:=h.form;refine bl E.yj ?_;refine J ?_;intro w1 bW eX ag al;refine J ?_;intro aA c6 fT ai ao;refine J ?_;intro aM dF jt ah ba;refine J ?_;exact⟨⟨_,_,_,aK,(ai.trans ah).obj al,ah.obj ao,ba⟩,(ag.trans ai).trans ah⟩
def afX(m:o.Model)(q:Int)(L:C_ (C_ Int×C_ Int))(i:Nat):Prop := ∀j (az:j<(o.refs m).length),(o.refs m)[j].inst≠q->∀x y,L[i]? = some x->L[j]? = some y->¬o.nm x.1 x.2 y.1 y.2
def aiD(cs:C_ B_)(m:o.Model)(q l:Int)(w:A_)(h:o.dj w cs m)(aG:m.cv)(aQ:gJ w) :
  Du F.bL #[.agg cs.toArray,.I q,.I l] w λu w'=>(∃t,u = .bool t/\o.kW m q l t)/\Ext w w':=by
 have b4:=h;obtain⟨b0,bz,bO,c1,bT,c2,bV,bu,b1,bB,rfl,ad,h1,I,ab,aC,eu,dz,dJ,dR,ee⟩:=h.form;refine gH.start lR Ej.bL (args:=[_,_,_]) (Nat.le_of_ble_eq_true rfl) ?_;dsimp only[D.bL,aO,cC,ky,cQ,pO,dr,ih,hy,eb,aT,fI,fq,eE,ij,ys,l2,dN,iK,BK,iL,ki,xY,pe,cS,kh,ig,qy,NP,Eb,ow,vQ,vP,sd,l1,xX,List.map_cons,List.map_nil];refine gH.je ?_;refine J ?_;intro w1 bW eX ag ba;refine J ?_;intro aA c6 fT ai bo;refine J ?_;intro aM dC e5 ah bS;have aR:=(ag.trans ai).trans ah;replace ba:=(ai.trans ah).obj ba;replace bo:=ah.obj bo;have jR:=ag.size;have jF:=ai.size;have wV:w.heap.size<=dC:=Ad
 refine J ?_;refine gH.je ?_;refine J ?_;refine J_ (zh _ m aM (b4.ext aR) aG (aQ.ext aR)) ?_;rintro _ aU ⟨rfl,aq⟩;replace ba:=aq.obj ba;replace bo:=aq.obj bo;replace bS:=aq.obj bS;have bn:=aR.trans aq;refine J ?_;refine Y_ (v:=.I (o.check m).cJ) rfl ?_;refine J ?_;apply I_<;>intro g1;rotate_left
 .refine J ?_;intro bh eY bI;have av:=eY.ext bn wV;refine gH.E8 ?_;refine J ?_;exact⟨⟨false,aK,o.kW.no λk=>g1 k.1⟩,av⟩
 have gQ:=o.hE g1;have hR:=o.qo gQ.lim;refine J ?_;refine gH.gK [1,2,3,4,6] (λx:(H_ Addr×Nat)×Nat=>[(7,.slice x.1.1 (o.insts m).length x.1.2),(8,.pointer (some ⟨x.2,0,none⟩))]) (λx W=>(∃e9 mJ,W.heap[x.2]? = some (.cells #[.slice e9 (o.refs m).length mJ] T.g)/\tf W (.slice e9 (o.refs m).length mJ) (o.refs m))/\ik W (.slice x.1.1 (o.insts m).length x.1.2) (o.insts m)/\Ext aU W) ?_ ?_
 .have sH:∀{W},Ext aU W->Du F.c #[.agg #[.slice b0 m.scalars.length bz,.slice bO m.vars.length c1,.slice bT m.ax.length c2,.slice bV m.procs.length bu,.slice b1 m.props.length bB]] W λv w'=>(∃b8 ci,v = .slice b8 (o.insts m).length ci/\aJ o.cO.enc T.d 2 W.heap.size w' v (o.insts m))/\Ext W w':=λ{W} he=>(xl _ m W (b4.ext (bn.trans he)) aG).mono λv w' ⟨aF,hn⟩=>by
   obtain⟨b8,ci,rfl,_⟩:=aF.form;exact⟨⟨b8,ci,rfl,aF⟩,hn⟩
  have RR:∀{W},Ext aU W->Du F.d #[.agg #[.slice b0 m.scalars.length bz,.slice bO m.vars.length c1,.slice bT m.ax.length c2,.slice bV m.procs.length bu,.slice b1 m.props.length bB]] W λv w'=>(∃b8 ci,v = .slice b8 (o.refs m).length ci/\aJ o.Ref.enc T.c 2 W.heap.size w' v (o.refs m))/\Ext W w':=λ{W} he=>(zt _ m W (b4.ext (bn.trans he)) gQ.lim).mono λv w' ⟨aF,hn⟩=>by
   obtain⟨b8,ci,rfl,_⟩:=aF.form;exact⟨⟨b8,ci,rfl,aF⟩,hn⟩
  have Tx:∀{W v base},aJ o.cO.enc T.d 2 base W v (o.insts m)->ik W v (o.insts m):=λh=>aJ.e3 (enc:=o.cO.enc) (λ_=>rfl) h;have Ty:∀{W v base},aJ o.Ref.enc T.c 2 base W v (o.refs m)->tf W v (o.refs m):=λh=>aJ.e3 (enc:=o.Ref.enc) (λ_=>rfl) h;refine J ?_;intro bh av;replace ba:=av.obj ba;refine J ?_;refine⟨?_,?_⟩
  .refine J_ (sH av) ?_;rintro _ bq ⟨⟨b8,ci,rfl,aP⟩,aD⟩;have b6:=av.trans aD;refine⟨aD,?_⟩;refine J ?_;refine⟨?_,?_⟩
   .refine J_ (RR b6) ?_;rintro _ bH ⟨⟨e9,mJ,rfl,bG⟩,bc⟩;have cM:=b6.trans bc;refine J ?_;intro cB jZ mc bt cD;refine⟨(aD.trans bc).trans bt,?_⟩;refine J ?_;intro cG gy cE;have b2:=gy.ext bt mc;refine J ?_;exact⟨((b8,ci),jZ),⟨aK,aK,trivial⟩,⟨_,_,cE,Ty (bG.ext b2)⟩,Tx (aP.ext (bc.trans b2)),cM.trans b2⟩
   .refine O_ ?_;intro bH jZ mc bc cD;refine⟨aD.trans bc,?_⟩;have cM:=b6.trans bc;refine J ?_;refine J_ (RR cM) ?_;rintro _ cB ⟨⟨e9,mJ,rfl,bG⟩,bt⟩;have C0:=cD;replace cD:=bt.obj cD;refine J ?_;intro cG gy cE;have b2:Ext bq cG:=gy.ext (bc.trans bt) mc;have SJ:=cq C0;refine J ?_;exact⟨((b8,ci),jZ),⟨aK,aK,trivial⟩,⟨_,_,cE,Ty (bG.wr gy SJ)⟩,Tx (aP.ext b2),b6.trans b2⟩
  .refine O_ ?_;intro bq jZ mc aD cD;have b6:=av.trans aD;refine⟨aD,?_⟩;refine J ?_;refine J_ (sH b6) ?_;rintro _ bH ⟨⟨b8,ci,rfl,aP⟩,bc⟩;have cM:=b6.trans bc;refine⟨aD.trans bc,?_⟩;refine J ?_;refine J_ (RR cM) ?_;rintro _ cB ⟨⟨e9,mJ,rfl,bG⟩,bt⟩;have QF:=cD;have C0:=bc.obj cD;replace cD:=(bc.trans bt).obj cD;refine J ?_;intro cG gy cE;have aoR:=cq QF;have SJ:=cq C0;have b2:Ext bh cG:=gy.ext ((aD.trans bc).trans bt) mc;refine J ?_;exact⟨((b8,ci),jZ),⟨aK,aK,trivial⟩,⟨_,_,cE,Ty (bG.wr gy SJ)⟩,Tx ((aP.ext bt).wr gy aoR),av.trans b2⟩
 rintro⟨⟨b8,ci⟩,jZ⟩ S bh ⟨⟨e9,mJ,cD,bG⟩,aP,av⟩;dsimp only at cD aP;replace ba:=av.obj ba;replace bo:=av.obj bo;replace bS:=av.obj bS;have bC:=bn.trans av;refine gH.je ?_;have bad:∀{W:A_} {aZ:Fr},Ext bh W->¬o.pj m q l->True:=λ_ _=>trivial;have awI:=cq bS;refine J ?_;apply I_<;>intro g2
 .refine J ?_;intro bq aD;replace bS:=aD.obj bS;refine J ?_;intro bH dw bZ;refine gH.E8 ?_;refine J ?_;exact⟨⟨false,aK,o.kW.no λk=>by have:=k.aV;omega⟩,dw.ext (bC.trans aD) wV⟩
 refine J ?_;apply I_<;>intro g3
 .refine J ?_;intro bq aD;replace bS:=aD.obj bS;refine J ?_;intro bH dw bZ;refine gH.E8 ?_;refine J ?_;exact⟨⟨false,aK,o.kW.no λk=>by have:=k.aV;omega⟩,dw.ext (bC.trans aD) wV⟩
 refine J ?_;apply I_<;>intro g4
 .refine J ?_;intro bq aD;replace bS:=aD.obj bS;refine J ?_;intro bH dw bZ;refine gH.E8 ?_;refine J ?_;exact⟨⟨false,aK,o.kW.no λk=>by have:=k.aV;omega⟩,dw.ext (bC.trans aD) wV⟩
 obtain⟨lA,rfl⟩:=Nb (show 0<=q by omega);have au:lA<(o.insts m).length:=Ad
 obtain⟨p,hIn⟩:=o.A7 au;have ar:=hIn.ar;have j5:=hIn.eq;obtain⟨gp,rfl⟩:=aP.addr;obtain⟨a3,rfl⟩:=ab.addr;obtain⟨kr,bY,dV,c3,eQ,er⟩:=ab.at p ar;obtain⟨ei,eW,rfl,_⟩:=eQ.form;obtain⟨vC,uQ,rfl,vy⟩:=er.form;unfold o.dt.enc at c3;have KA:=c3.ext bC;refine J ?_;refine K_ p (by rw[j5]) ar ?_;refine J ?_;intro bq aD;replace ba:=aD.obj ba;replace bo:=aD.obj bo;replace bS:=aD.obj bS;replace cD:=aD.obj cD;have sC:=bG.ext Flat.ext aD;have b6:=bC.trans aD;apply I_<;>intro g5
 .refine J ?_;intro bH dw bZ;refine gH.E8 ?_;refine J ?_;exact⟨⟨false,aK,o.kW.no λk=>by have:=k.lt hIn;omega⟩,dw.ext b6 wV⟩
 have dd:o.pj m lA l:=o.Dx g1 hIn Ad Ad;clear c3 KA aP bG;refine J ?_;refine gH.je ?_;refine J ?_;refine J_ (at7 _ m bq (b4.ext b6) aG (aQ.ext b6) gQ.lim) ?_;rintro _ bH ⟨⟨L,base,gL,rN,alx,Ql⟩,bc⟩;obtain⟨ap4,aho,rfl,_⟩:=Ql.form;have yM:bm 2 Ox bH _ L:=Ql.jN;have Qr:=gL.len;have cM:=b6.trans bc;replace ba:=bc.obj ba;replace bo:=bc.obj bo;replace bS:=bc.obj bS;replace cD:=bc.obj cD;have alb:=sC.ext Flat.ext bc;clear Ql sC;refine J ?_;intro wn b9 lN e8 eC;refine J ?_;intro cB ja cE;have bt:Ext bH cB:=ja.ext e8 lN;clear eC;have eN:=cM.trans bt;replace ba:=bt.obj ba;replace bo:=bt.obj bo;replace bS:=bt.obj bS;replace cD:=bt.obj cD;refine J ?_;refine gH.uv (gH.je ?_);refine J ?_;refine J_ (akd _ m lA l cB (b4.ext eN)) ?_;rintro _ cG ⟨⟨cT,oJ,p0,rfl,amC,amD,mf⟩,b2⟩;have fW:=eN.trans b2;replace bo:=b2.obj bo;replace bS:=b2.obj bS;replace cD:=b2.obj cD;replace cE:=b2.obj cE;have alc:=alb.ext Flat.ext (bt.trans b2);have aiQ:=bt.trans b2;clear ba;have uz:=cq bS;have z4:=cq bo;have HP:=cq cD;have z9:=cq cE;refine J ?_;refine gH.cy (gH.asw (w0:=cG) (enc:=λx:o.Ez m lA l=>.I (x.1:Nat)) (by simp[dc,bD]) Ci (akf amC amD mf h fW aG g1) (Ext.refl _) (nh.ok _ fW.size)
  (λpre W=>Ext cG W/\∀x∈pre,afX m lA L x.1) (λ_ W=>Mod (λk=>k=dC) cG W/\W.heap[dC]? = some (.cells #[.bool false] T.j)/\¬o.BU m L lA l) ?_ ?_ ⟨Ext.refl _,λx af=>by cases af⟩ ?_ ?_ ?_)
 .rintro pre W b3 row ⟨he,Fx⟩ rT aS;exact⟨he.grown rT λk hk=>(aS k hk).1,Fx⟩
 .rintro _ W b3 row ⟨hm,an,aw⟩ rT aS;have fU:Mod (λk=>row=some k) W b3:=Mod.grown rT λk hk=>hk;refine⟨hm.comp fU (λ_ _ a=>a) λk hk a=>?_,fU.obj (λa=>?_) an,aw⟩
  .have:=(aS k a).1;omega
  .have:=(aS dC a).1;omega
 .rintro pre x W ⟨tJ,Fx⟩ cu;refine dS ?_;refine⟨(Ext.refl W).keeps _,(Ext.refl W).iy (Nn fW.size tJ.size),λe4 xd=>?_⟩;have ai:Ext cG e4:=xd.ext tJ (EC _);have hg:=ai.obj bo;have DI:=ai.obj cD;have Tr:=ai.obj cE;have Qi:=alc.ext Flat.ext ai;have xi:=x.2.1;have KP:x.1<L.length:=Ad
  have ZW:tf e4 _ (o.refs m):=Qi;have avF:=yM;have afU:=aiQ.trans ai;obtain⟨agn,rfl⟩:=yM.addr;obtain⟨ie,ji,kJ,Sm,Sn⟩:=yM.at x.1 KP;obtain⟨ark,arl⟩:=(gL.is x.1 KP).lz;refine J ?_;refine L_ 58 (o.refs m).length [4,6,9,10,11,56,57] (λ_:Unit=>[]) () (λj _ b3=>Ext e4 b3/\∀k,k<j->∀(hk:k<(o.refs m).length),(o.refs m)[k].inst≠(lA:Int)->∀y,L[k]? = some y->¬o.nm L[x.1].1 L[x.1].2 y.1 y.2) a6 a6 ⟨Ext.refl _,λk h=>absurd h (HI _)⟩ ?_;rintro j _ jW ew az ⟨cj,Dj⟩;refine J ?_;apply I_<;>intro g6;rotate_left
  .refine J ?_;refine⟨cj.keeps _,cj.iy (Nn fW.size ai.size),ai.trans cj,λv aF=>?_⟩;rcases List.mem_append.1 aF with aF | aF
   .exact Fx v aF
   .rw[AF2] at aF;subst aF;intro k hk ct a b aY ak;rw[List.getElem?_eq_getElem KP] at aY;injection aY with aY
    subst aY;exact Dj k Ad hk ct b ak
  have yW:j<(o.refs m).length:=Ad
  have Kq:j<L.length:=Ad
  obtain⟨l7,rfl⟩:=ZW.addr;have gM:=(ZW.ext Flat.ext cj).at j yW;obtain⟨r,aS⟩:∃r,r=(o.refs m)[j]:=⟨_,rfl⟩;rw[<-aS] at gM;have gM:fc ew (l7.add (j*2)) r.enc:=gM;unfold o.Ref.enc at gM;have next:∀{W},Ext e4 W->(r.inst≠(lA:Int)->¬o.nm L[x.1].1 L[x.1].2 L[j].1 L[j].2)->Ext e4 W/\∀k,k<j+1->∀(hk:k<(o.refs m).length),(o.refs m)[k].inst≠(lA:Int)->∀y,L[k]? = some y->¬o.nm L[x.1].1 L[x.1].2 y.1 y.2:=λe aw=>⟨e,λk hk AP ct y bE=>by
   rcases AF5 k j with h | h
   .exact Dj k h AP ct y bE
   .obtain rfl:k=j:=Ad
    rw[List.getElem?_eq_getElem Kq] at bE;injection bE with bE
    subst bE;exact aw (by rw[aS];exact ct)⟩
  have adM:=cj.obj hg;have adN:=cj.obj Tr;refine J ?_;intro wn b13 FI e8 eC;refine J ?_;intro fB hT gr;replace gr:fB.heap[b13]? = some (.cells #[.I r.inst,.I r.cmd] T.c):=by first | exact gr | (rw[aS];exact gr)
  have ek:Ext ew fB:=hT.ext e8 FI;have ars:=ek.obj adM;have axA:=ek.obj adN;have jU:=cj.trans ek;clear eC gM adM adN;have call:∀{w':A_},Ext fB w'->Du F.r #[.agg #[.I r.inst,.I r.cmd],.pointer (some ⟨c6,0,none⟩)] w' λv bM=>v = .bool (!decide (r.inst=(lA:Int)))/\Ext w' bM:=λe=>apj r c6 lA _ (e.obj ars);by_cases g7:r.inst=(lA:Int)
  .refine J ?_;refine _v (.bool false) (λw' e=>_d (first:=[]) (cap:=[.pointer (some ⟨c6,0,none⟩)]) Ci (call e) λv bM ⟨h1,I⟩=>⟨by rw[h1,decide_eq_true g7];rfl,I⟩) ?_;refine J ?_;intro hx dW;refine J ?_;exact⟨yW,aK,(),trivial,next (jU.trans dW) λh=>absurd g7 h⟩
  .obtain⟨jR,jF,QU,Sq,Sr⟩:=yM.at j Kq;obtain⟨aro,arp⟩:=(gL.is j Kq).lz;have BS:=afU.trans jU;have av5:=kJ.ext BS;have av7:=QU.ext BS;refine J ?_;refine _v (.bool true) (λw' e=>_d (first:=[]) (cap:=[.pointer (some ⟨c6,0,none⟩)]) Ci (call e) λv bM ⟨h1,I⟩=>⟨by rw[h1,decide_eq_false g7];rfl,I⟩) ?_;refine J ?_;refine P_ (.bool (decide (o.nm L[x.1].1 L[x.1].2 L[j].1 L[j].2))) (λw' e=>aqi ie ji jR jF _ _ _ _ w' (Sm.ext Flat.ext (BS.trans e)) (Sn.ext Flat.ext (BS.trans e)) (Sq.ext Flat.ext (BS.trans e)) (Sr.ext Flat.ext (BS.trans e)) ark arl aro arp) ?_;refine J ?_;intro hx dW;have my:=jU.trans dW;have axz:=(ai.trans my).obj bS;apply I_<;>intro g8
   .refine J ?_;intro kx ks QA;have tQ:Mod (λk=>k=dC) hx kx:=ks.mod rfl;refine J ?_;refine⟨aK,?_,?_,QA,λaE=>aE x.1 x.2.2 j yW (by rw[<-aS];exact g7) _ _ (List.getElem?_eq_getElem KP) (List.getElem?_eq_getElem Kq) g8⟩
    .exact⟨Nn my.size tQ.size,λk ae hK hk an=>tQ.obj (λa=>by subst a;omega) (my.obj hk)⟩
    .exact Mod.comp (A':=λk=>k=dC) (ai.trans my).mod tQ (λ_ _ a=>a) λk hk a=>a
   .refine J ?_;exact⟨yW,aK,(),trivial,next my λ_=>g8⟩
 .rintro D xs W gq b5 ⟨tJ,Fx⟩ bb;have uo:=tJ.obj bS;refine J ?_;intro ew pF h4;have JU:D≠dC:=Ad
  refine gH.ret (pF.obj bb JU) ?_;have aj:du D ew (fH ew D (.deferred none)):=du.fH _ _ _;have adL:=aj.obj h4 (Ne.symm JU);have ak1:o.BU m L lA l:=λi U j az ct x y af bE=>by
   obtain⟨v,aF,rfl⟩:=List.mem_map.1 (b5 i U);exact Fx v aF j az ct x y af bE
  refine J ?_;exact⟨⟨true,aK,o.kW.of dd gL ⟨λ_=>ak1,λ_=>rfl⟩⟩,aj.ext (pF.ext (fW.trans tJ) wV) (Nn fW.size gq)⟩
 .rintro D xs W gq ⟨hm,an,aw⟩ bb;have JU:D≠dC:=Ad
  refine J ?_;refine gH.ret bb ?_;have aj:du D W (fH W D (.deferred none)):=du.fH _ _ _;have adL:=aj.obj an (Ne.symm JU);refine J ?_;exact⟨⟨false,aK,o.kW.of dd gL ⟨(λh=>by cases h),λh=>absurd h aw⟩⟩,aj.ext (hm.ext fW λk hk a=>Ad) (Nn fW.size gq)⟩
end Go.Proofs.R
namespace a8
open Go Go.RowKit
theorem ahF{w:A_}{b:Nat}{v:B_}{e:F_}{a:Addr}{n:Int}(ak:w.heap[b]? = some (.cells #[v] e))(aF:∀k:Int,v≠.I k)(h:w.cell? a=some (.I n)):a.block≠b:=λhe=>by
 unfold World.cell? at h;rw[he,ak] at h;simp only at h;cases aj:a.spot with
 | some x=>simp[aj] at h
 | none =>
  simp[aj] at h
  have:a.off=0:=by
   cases aQ:a.off with
   | zero=>rfl
   | succ k=>rw[aQ] at h;simp at h
  rw[this] at h;simp at h;exact aF n h
def Na{α:Type}{enc:α->C_ B_}{sz b:Nat}{w w':A_}{v u:B_}{e:F_}{xs:C_ α}(hint:∀x,∀y∈enc x,∃n,y = .I n)(h:bm sz (Flat enc) w v xs)(ak:w.heap[b]? = some (.cells #[u] e))(hu:∀k:Int,u≠.I k)(hw:du b w w'):bm sz (Flat enc) w' v xs:=by
 obtain⟨aN,cap,bF,h1,I,ab,aC⟩:=h;refine⟨aN,cap,bF,h1,I,ab,λa aY i U j y az=>?_⟩;have an:=aC a aY i U j y az;obtain⟨n,rfl⟩:=hint _ y (List.mem_of_getElem? az);exact hw.cell an (ahF ak hu an)
end a8
namespace Go.Proofs.R
open Go Go.RowKit a8
def ac6(x:Int):∀y∈bX x,∃n,y = .I n:=by simp[bX]
def ash(x:o.Ref):∀y∈x.enc,∃n,y = .I n:=by simp[o.Ref.enc]
def aon(x:o.cO):∀y∈x.enc,∃n,y = .I n:=by simp[o.cO.enc]
abbrev ady:C_ Nat:=[5,6,7,26,28,30,31]
def vF(b:Bool)(v:B_):B_:=if b then v else .slice none 0 0
structure jV(gb:Fr)(w0:World)(m:o.Model)(D:List Nat)(S:Fr)(w:World):Prop where
 ext:Ext w0 w
 jq:∀t,¬t∈ady->S t=gb t
 f26:26∈D->tf w (S 26) (o.refs m)
 f28:28∈D->ik w (S 28) (o.insts m)
 f30:30∈D->∃(ys:List Value) (v:Value),S 30 = .agg ys.toArray/\ys[2]? = some v/\bm 1 (Flat bX) w v (o.layout m).insts
 f31:31∈D->bm 1 (Flat bX) w (S 31) (o.layout m).insts
 f7:7∈D->bm 1 (Flat bX) w (S 7) (o.layout m).insts
 f5:5∈D->∃b,w0.heap.size<=b/\S 5 = .pointer (some ⟨b,0,none⟩)/\w.heap[b]? = some (.cells #[vF (decide (1<=D.count 100000)) (S 26)] T.g)
 f6:6∈D->∃b,w0.heap.size<=b/\S 6 = .pointer (some ⟨b,0,none⟩)/\w.heap[b]? = some (.cells #[vF (decide (2<=D.count 100000)) (S 28)] T.p)
 qH:7∈D->2<=D.count 100000
def xE{S:Fr}{D:C_ Nat}{d t:Nat}{v:B_}(h:t∈D)(bb:¬d∈D):cc S d v t=S t:=by
 have ct:t≠d:=λe=>bb (e ▸ h);unfold cc;rw[if_neg ct]
section
variable{gb:Fr}{w0 w w':World}{m:o.Model}{D:List Nat}{S:Fr}
def jV.lT(h:jV gb w0 m D S w){d:Nat}{v:B_}(e:Ext w w')(aj:d∈ady)(bb:¬d∈D)(an:D.count 100000=0/\d≠7\/(d=7/\26∈D/\28∈D/\2<=D.count 100000))
  (n26:d=26->tf w' v (o.refs m))(n28:d=28->ik w' v (o.insts m))(n30:d=30->∃(ys:C_ B_) (u:B_),v = .agg ys.toArray/\ys[2]? = some u/\bm 1 (Flat bX) w' u (o.layout m).insts)
  (n31:d=31->bm 1 (Flat bX) w' v (o.layout m).insts)(n7:d=7->bm 1 (Flat bX) w' v (o.layout m).insts)
  (n5:d=5->∃b,w0.heap.size<=b/\v = .pointer (some ⟨b,0,none⟩)/\w'.heap[b]? = some (.cells #[.slice none 0 0] T.g))
  (n6:d=6->∃b,w0.heap.size<=b/\v = .pointer (some ⟨b,0,none⟩)/\w'.heap[b]? = some (.cells #[.slice none 0 0] T.p)):jV gb w0 m (d :: D) (cc S d v) w':=by
 have ct:d≠100000:=λe=>by rw[e] at aj;exact absurd aj By
 have FW:(d :: D).count 100000=D.count 100000:=List.count_cons_of_ne (by simpa using ct);refine⟨h.ext.trans e,λt aB=>?_,λa=>?_,λa=>?_,λa=>?_,λa=>?_,λa=>?_,λa=>?_,λa=>?_,λa=>?_⟩
 .have ct:t≠d:=λe=>aB (e ▸ aj);rw[<-h.jq t aB];unfold cc;rw[if_neg ct]
 .by_cases q:d=26
  .subst q;simpa[cc] using n26 rfl
  .have cx:26∈D:=by simpa[Ne.symm q] using a
   rw[xE cx bb];exact bm.ext Flat.ext e (h.f26 cx)
 .by_cases q:d=28
  .subst q;simpa[cc] using n28 rfl
  .have cx:28∈D:=by simpa[Ne.symm q] using a
   rw[xE cx bb];exact bm.ext Flat.ext e (h.f28 cx)
 .by_cases q:d=30
  .subst q;simpa[cc] using n30 rfl
  .have cx:30∈D:=by simpa[Ne.symm q] using a
   rw[xE cx bb];obtain⟨ys,u,h1,I,ab⟩:=h.f30 cx;exact⟨ys,u,h1,I,bm.ext Flat.ext e ab⟩
 .by_cases q:d=31
  .subst q;simpa[cc] using n31 rfl
  .have cx:31∈D:=by simpa[Ne.symm q] using a
   rw[xE cx bb];exact bm.ext Flat.ext e (h.f31 cx)
 .by_cases q:d=7
  .subst q;simpa[cc] using n7 rfl
  .have cx:7∈D:=by simpa[Ne.symm q] using a
   rw[xE cx bb];exact bm.ext Flat.ext e (h.f7 cx)
 .by_cases q:d=5
  .subst q;rw[FW];have ad:D.count 100000=0:=by rcases an with ⟨ad,_⟩ | ⟨ad,_⟩;exact ad;cases ad
   rw[ad];simpa[cc,vF] using n5 rfl
  .have cx:5∈D:=by simpa[Ne.symm q] using a
   obtain⟨b,h1,I,ab⟩:=h.f5 cx;rw[xE cx bb,FW];refine⟨b,h1,I,?_⟩;rcases an with ⟨ad,_⟩ | ⟨_,mL,_⟩
   .rw[ad] at ab ⊢;simpa[vF] using e.obj ab
   .rw[xE mL bb];exact e.obj ab
 .by_cases q:d=6
  .subst q;rw[FW];have ad:D.count 100000=0:=by rcases an with ⟨ad,_⟩ | ⟨ad,_⟩;exact ad;cases ad
   rw[ad];simpa[cc,vF] using n6 rfl
  .have cx:6∈D:=by simpa[Ne.symm q] using a
   obtain⟨b,h1,I,ab⟩:=h.f6 cx;rw[xE cx bb,FW];refine⟨b,h1,I,?_⟩;rcases an with ⟨ad,_⟩ | ⟨_,_,P2,_⟩
   .rw[ad] at ab ⊢;simpa[vF] using e.obj ab
   .rw[xE P2 bb];exact e.obj ab
 .rw[FW];rcases an with ⟨ad,q⟩ | ⟨_,_,_,q⟩
  .have cx:7∈D:=by simpa[Ne.symm q] using a
   exact h.qH cx
  .exact q
variable{cs:List Value}
def aqG(bb:¬26∈D)(an:D.count 100000=0)(aL:o.dj w0 cs m)(aE:o.uF m)(b5:gb 25 = .agg cs.toArray):tg Tryz.prog w0 (jV gb w0 m) D ⟨some 26,none,.c (.fn F.d [.tmp 25])⟩:=⟨rfl,λS w h=>by
 show Du F.d #[S 25] w λv w'=>Ext w0 w'/\jV gb w0 m (26 :: D) (cc S 26 v) w';rw[h.jq 25 By,b5];exact(zt _ m w (aL.ext h.ext) aE).mono λv w' ⟨h1,I⟩=>⟨h.ext.trans I,h.lT I By bb (.inl ⟨an,By⟩) (λ_=>aJ.e3 (enc:=o.Ref.enc) (λ_=>rfl) h1) (λq=>by cases q) (λq=>by cases q) (λq=>by cases q) (λq=>by cases q) (λq=>by cases q) (λq=>by cases q)⟩⟩
def aqH(bb:¬28∈D)(an:D.count 100000=0)(aL:o.dj w0 cs m)(aG:m.cv)(b5:gb 27 = .agg cs.toArray):tg Tryz.prog w0 (jV gb w0 m) D ⟨some 28,none,.c (.fn F.c [.tmp 27])⟩:=⟨rfl,λS w h=>by
 show Du F.c #[S 27] w λv w'=>Ext w0 w'/\jV gb w0 m (28 :: D) (cc S 28 v) w';rw[h.jq 27 By,b5];exact(xl _ m w (aL.ext h.ext) aG).mono λv w' ⟨h1,I⟩=>⟨h.ext.trans I,h.lT I By bb (.inl ⟨an,By⟩) (λq=>by cases q) (λ_=>aJ.e3 (enc:=o.cO.enc) (λ_=>rfl) h1) (λq=>by cases q) (λq=>by cases q) (λq=>by cases q) (λq=>by cases q) (λq=>by cases q)⟩⟩
def aqI(bb:¬30∈D)(an:D.count 100000=0)(aL:o.dj w0 cs m)(aG:m.cv)(aQ:gJ w0)(hk:(o.check m).cJ=0)(b5:gb 29 = .agg cs.toArray):tg Tryz.prog w0 (jV gb w0 m) D ⟨some 30,none,.c (.fn F.l [.tmp 29])⟩:=⟨rfl,λS w h=>by
 show Du F.l #[S 29] w λv w'=>Ext w0 w'/\jV gb w0 m (30 :: D) (cc S 30 v) w';rw[h.jq 29 By,b5];exact(GR _ m w (aL.ext h.ext) aG (aQ.ext h.ext)).mono λv w' ⟨⟨ys,h1,ch⟩,I⟩=>⟨h.ext.trans I,h.lT I By bb (.inl ⟨an,By⟩) (λq=>by cases q) (λq=>by cases q) (λ_=>by
  rw[o.zg hk] at ch;obtain⟨eH,d0,dK,d1,eg,d2,eD,d3,eU,d4,rfl,_,_,cA,_⟩:=ch.here.form;exact⟨_,_,h1,rfl,cA⟩) (λq=>by cases q) (λq=>by cases q) (λq=>by cases q) (λq=>by cases q)⟩⟩
def aqJ(bb:¬31∈D)(an:D.count 100000=0)(ar:30∈D):RunT Tryz.prog w0 (jV gb w0 m) D ⟨some 31,none,.p (.ln 2 (.tmp 30))⟩:=⟨rfl,λS w h=>by
 obtain⟨ys,v,h1,I,ab⟩:=h.f30 ar;show H6 2 (S 30) λv=>jV gb w0 m (31 :: D) (cc S 31 v) w;rw[h1];refine⟨ys.toArray,v,rfl,by simpa using I,h.lT (Ext.refl _) By bb (.inl ⟨an,By⟩) (λq=>by cases q) (λq=>by cases q) (λq=>by cases q) (λ_=>ab) (λq=>by cases q) (λq=>by cases q) (λq=>by cases q)⟩⟩
def aqK(bb:¬5∈D)(an:D.count 100000=0):tg Tryz.prog w0 (jV gb w0 m) D ⟨some 5,none,.e (.new T.g (.slice none 0 0))⟩:=⟨rfl,λS w h=>by
 show Ext w0 (w.alloc (.cells #[.slice none 0 0] T.g))/\jV gb w0 m (5 :: D) (cc S 5 (.pointer (some ⟨w.heap.size,0,none⟩))) (w.alloc (.cells #[.slice none 0 0] T.g));exact⟨h.ext.alloc _,h.lT ((Ext.refl w).alloc _) By bb (.inl ⟨an,By⟩) (λq=>by cases q) (λq=>by cases q) (λq=>by cases q) (λq=>by cases q) (λq=>by cases q) (λ_=>⟨_,h.ext.size,rfl,heap_alloc_new w _⟩) (λq=>by cases q)⟩⟩
def aqL(bb:¬6∈D)(an:D.count 100000=0):tg Tryz.prog w0 (jV gb w0 m) D ⟨some 6,none,.e (.new T.p (.slice none 0 0))⟩:=⟨rfl,λS w h=>by
 show Ext w0 (w.alloc (.cells #[.slice none 0 0] T.p))/\jV gb w0 m (6 :: D) (cc S 6 (.pointer (some ⟨w.heap.size,0,none⟩))) (w.alloc (.cells #[.slice none 0 0] T.p));exact⟨h.ext.alloc _,h.lT ((Ext.refl w).alloc _) By bb (.inl ⟨an,By⟩) (λq=>by cases q) (λq=>by cases q) (λq=>by cases q) (λq=>by cases q) (λq=>by cases q) (λq=>by cases q) (λ_=>⟨_,h.ext.size,rfl,heap_alloc_new w _⟩)⟩⟩
def aqM(bb:¬7∈D)(ar:31∈D/\26∈D/\28∈D/\2<=D.count 100000):RunT Tryz.prog w0 (jV gb w0 m) D ⟨some 7,none,.p (.lv (.tmp 31))⟩:=⟨rfl,λS w h=>by
 show jV gb w0 m (7 :: D) (cc S 7 (S 31)) w;exact h.lT (Ext.refl _) By bb (.inr ⟨rfl,ar.2⟩) (λq=>by cases q) (λq=>by cases q) (λq=>by cases q) (λq=>by cases q) (λ_=>h.f31 ar.1) (λq=>by cases q) (λq=>by cases q)⟩
def jV.store(h:jV gb w0 m D S w){b:Nat}{u:B_}{e:F_}(ak:w.heap[b]? = some (.cells #[u] e))(hu:∀k:Int,u≠.I k)(hQ:w0.heap.size<=b)(hw:du b w w')(cr:¬7∈D)
  (n5:5∈D->∃b,w0.heap.size<=b/\S 5 = .pointer (some ⟨b,0,none⟩)/\w'.heap[b]? = some (.cells #[vF (decide (1<=(100000 :: D).count 100000)) (S 26)] T.g))
  (n6:6∈D->∃b,w0.heap.size<=b/\S 6 = .pointer (some ⟨b,0,none⟩)/\w'.heap[b]? = some (.cells #[vF (decide (2<=(100000 :: D).count 100000)) (S 28)] T.p)):jV gb w0 m (100000 :: D) S w':=by
 have mem:∀{t:Nat},t≠100000->t∈100000 :: D->t∈D:=λaB h=>by
  rcases List.mem_cons.1 h with e | e
  .exact absurd e aB
  .exact e
 refine⟨hw.ext h.ext hQ,h.jq,λa=>Na ash (h.f26 (mem By a)) ak hu hw,λa=>Na aon (h.f28 (mem By a)) ak hu hw,λa=>?_,λa=>Na ac6 (h.f31 (mem By a)) ak hu hw,λa=>absurd (mem By a) cr,λa=>n5 (mem By a),λa=>n6 (mem By a),λa=>absurd (mem By a) cr⟩;obtain⟨ys,v,h1,I,ab⟩:=h.f30 (mem By a);exact⟨ys,v,h1,I,Na ac6 ab ak hu hw⟩
def adz(b:Bool){v:B_}(aF:∃aN n c,v = .slice aN n c):∀k:Int,vF b v≠.I k:=λk=>by
 obtain⟨aN,n,c,rfl⟩:=aF;cases b<;>simp[vF]
def XZ{w:A_}{b fS:Nat}{c iQ:Array B_}{e e':F_}(h:w.heap[b]? = some (.cells c e))(br:w.heap[fS]? = some (.cells iQ e'))(he:e≠e'):b≠fS:=λak=>by
 rw[ak,br] at h;injection h with h
 injection h with _ h
 exact he h.symm
def aqO(an:D.count 100000=0)(ar:5∈D/\6∈D/\26∈D)(cr:¬7∈D):tg Tryz.prog w0 (jV gb w0 m) D ⟨none,none,.e (.st (.tmp 5) (.tmp 26))⟩:=⟨rfl,λS w h=>by
 obtain⟨b,h1,I,ab⟩:=h.f5 ar.1;obtain⟨dC,cK,cV,fo⟩:=h.f6 ar.2.1;obtain⟨aN,n,aF,_⟩:=(h.f26 ar.2.2).form;have ct:dC≠b:=XZ fo ab By;have al:(100000 :: D).count 100000=1:=by rw[List.count_cons_self,an]
 show wa (S 5) (S 26) w λw'=>Ext w0 w'/\jV gb w0 m (100000 :: D) S w';rw[I];have key:=_V (KW:=λw'=>Ext w0 w'/\jV gb w0 m (100000 :: D) S w') (t:=⟨⟩) (v:=S 26) ab (Nat.zero_lt_one) (by rw[aF];rfl) λw1 ix cN=>⟨ix.ext h.ext h1,h.store ab (adz _ ⟨_,_,_,aF⟩) h1 ix cr (λ_=>⟨b,h1,I,by rw[al];exact cN⟩) (λ_=>⟨dC,cK,cV,by rw[al];rw[an] at fo;exact ix.obj fo ct⟩)⟩;unfold sl at key;exact key⟩
def aqP(an:D.count 100000=1)(ar:5∈D/\6∈D/\28∈D)(cr:¬7∈D):tg Tryz.prog w0 (jV gb w0 m) D ⟨none,none,.e (.st (.tmp 6) (.tmp 28))⟩:=⟨rfl,λS w h=>by
 obtain⟨b,h1,I,ab⟩:=h.f6 ar.2.1;obtain⟨dF,cK,cV,fo⟩:=h.f5 ar.1;obtain⟨aN,n,aF,_⟩:=(h.f28 ar.2.2).form;have ct:dF≠b:=XZ fo ab By;have al:(100000 :: D).count 100000=2:=by rw[List.count_cons_self,an]
 show wa (S 6) (S 28) w λw'=>Ext w0 w'/\jV gb w0 m (100000 :: D) S w';rw[I];have key:=_V (KW:=λw'=>Ext w0 w'/\jV gb w0 m (100000 :: D) S w') (t:=⟨⟩) (v:=S 28) ab (Nat.zero_lt_one) (by rw[aF];rfl) λw1 ix cN=>⟨ix.ext h.ext h1,h.store ab (adz _ ⟨_,_,_,aF⟩) h1 ix cr (λ_=>⟨dF,cK,cV,by rw[al];rw[an] at fo;exact ix.obj fo ct⟩) (λ_=>⟨b,h1,I,by rw[al];exact cN⟩)⟩;unfold sl at key;exact key⟩
end
def aqX(cs:C_ B_)(bK vr:B_)(m:o.Model)(r bQ dC dF:Nat)(w:A_)(h:o.dj w cs m)(aP:ik w bK (o.insts m))(jI:tf w vr (o.refs m))(ft:(o.check m).cJ=0)(aS:r<(o.refs m).length)
  (ao:w.heap[bQ]? = some (.cells cs.toArray T.f))(bS:w.heap[dC]? = some (.cells #[bK] T.p))(bI:w.heap[dF]? = some (.cells #[vr] T.g)) :
  Du F.q #[.I r,.pointer (some ⟨bQ,0,none⟩),.pointer (some ⟨dC,0,none⟩),.pointer (some ⟨dF,0,none⟩)] w λu w'=>u = .I (o.CF m r)/\Ext w w':=by
 obtain⟨b0,bz,bO,c1,bT,c2,bV,bu,b1,bB,rfl,ad,h1,I,ab,aC,eu,dz,dJ,dR,ee⟩:=h.form;obtain⟨b8,ci,rfl,_⟩:=aP.form;obtain⟨e9,gY,rfl,_⟩:=jI.form;obtain⟨Bp,p,k,bw⟩:=o.mI (m:=m) (ref:=r) ⟨ft,Ad,Ad⟩;obtain⟨Bt,Bu⟩:=bw.rel;have au:=bw.at_.U;have ar:=bw.at_.ar;have hp:=bw.at_.hk;have j5:=bw.at_.ip;have fk:(o.refs m)[r].inst=(Bp:Int):=bw.at_.mX;have j7:(o.refs m)[r].cmd=(k:Int):=bw.at_.pI;obtain⟨l7,rfl⟩:=jI.addr;obtain⟨gp,rfl⟩:=aP.addr;obtain⟨a3,rfl⟩:=ab.addr;obtain⟨kr,bY,dV,c3,eQ,er⟩:=ab.at p ar;obtain⟨vC,uQ,rfl,vy⟩:=er.form;obtain⟨ac,rfl⟩:=er.addr;obtain⟨eC,fi,va,e2,gi,fb⟩:=er.at k hp;obtain⟨fA,fL,rfl,_⟩:=gi.form;obtain⟨oq,nP,rfl,_⟩:=fb.form;unfold o.dt.enc at c3;unfold o.dI.enc at e2;have gR:=o.sv ar hp;refine bl E.q ?_;refine J ?_;refine K_ Bp (by rw[fk]) Ad ?_;refine J ?_;refine K_ p (by rw[j5]) ar ?_;refine J ?_;refine K_ k (by rw[j7]) Ad ?_;refine J ?_;intro w1 ag;refine J ?_;exact⟨by rw[Bu,gR],ag⟩
end Go.Proofs.R