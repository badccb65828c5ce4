/- Parts. -/
import Derived.Test.YtakmdjclehkglaaGreatDoorQask
import Derived.Lib.SlKeysI
import Derived.Maps.OwnSet
set_option linter.all false
set_option maxRecDepth 8000
set_option maxHeartbeats 16000000
section
namespace ba
open Go Go.RowKit
theorem aS.zn{α:Type}{enc:α->C_ B_}{e:F_}{sz base b n:Nat}{w:A_}{cs:C_ B_}(xs:C_ α)(h:w.heap[b]? = some (.cells cs.toArray e))(ao:base<=b)(fx:cs=xs.flatMap enc)(dr:∀x,(enc x).length=sz)(az:n=xs.length)(hm:xs.length<=maxLen):aS enc e sz base w (.slice (some ⟨b,0,none⟩) n n) xs:=by
 subst az;have aC:cs.length=xs.length*sz:=by rw[fx,x8 dr]
 exact⟨by rw[x8 dr],.inr ⟨b,xs.length,cs.toArray,rfl,ao,h,GA _,hm,by simpa using aC,by simp only;rw[<-aC,AF3,fx]⟩⟩
theorem AC9{P:D_}{cT:B_->A_->Prop}{α:Type}{enc:α->C_ B_}{e:F_}{sz base:Nat}{w:A_}{v:B_}{xs:C_ α}{ty:F_}{hd b:Nat}{y:α}{cs:C_ B_}{t}(ak:aS enc e sz base w v xs)(an:w.heap[b]? = some (.cells cs.toArray e))(fx:cs=enc y)(dr:∀x,(enc x).length=sz)(h1:∀y,∀u∈enc y,u.oneCell'=true)
  (ao:(xs.length+1)*hd<=140737488355328)(lp:xs.length+1<=maxLen)(kC:base<=w.heap.size)
  (hk:∀aQ n c w',aS enc e sz base w' (.slice aQ n c) (xs++[y])->w.grownBy w' v.ownBlock->((Value.slice aQ n c).ownBlock=v.ownBlock\/(Value.slice aQ n c).ownBlock=some w.heap.size)->cT (.slice aQ n c) w'):ml P ty e sz hd v (.slice (some ⟨b,0,none⟩) 1 1) w cT t:=by
 refine _X (ys:=[y]) ak dr (by subst fx;simpa using gT an) rfl h1 ao lp kC fun b0 w' aO aK kB=>?_;obtain⟨aQ,cap,rfl,_⟩:=aO.form;exact hk _ _ _ _ aO aK kB
end ba
namespace o
open Go Go.RowKit ba
structure kK(w:World)(cs:List Value)(x:xH):Prop where
 ex:∃v0 v1 v2 v3 v4,cs=[v0,v1,v2,.int .i64 x.cells,v3,v4]/\bn 1 (Flat cL) w v0 x.vars/\bn 1 (Flat cL) w v1 x.aw/\bn 1 (Flat cL) w v2 x.insts/\bn 1 (Flat cL) w v3 x.aR/\bn 1 (Flat cL) w v4 x.U
theorem kK.ext{w w':A_}{cs:C_ B_}{x:xH}(he:Ext w w')(h:kK w cs x):kK w' cs x :=
 let ⟨v0,v1,v2,v3,v4,e,af,h1,I,ab,aH⟩:=h.ex
 ⟨v0,v1,v2,v3,v4,e,af.ext Flat.ext he,h1.ext Flat.ext he,I.ext Flat.ext he,ab.ext Flat.ext he,aH.ext Flat.ext he⟩
theorem kK.form{w:A_}{cs:C_ B_}{x:xH}(h:kK w cs x):∃b6 bx bR c1 bX c2 bZ bu ca bC,cs=[.slice b6 x.vars.length bx,.slice bR x.aw.length c1,.slice bX x.insts.length c2,.I x.cells,.slice bZ x.aR.length bu,.slice ca x.U.length bC] /\
  bn 1 (Flat cL) w (.slice b6 x.vars.length bx) x.vars/\bn 1 (Flat cL) w (.slice bR x.aw.length c1) x.aw/\bn 1 (Flat cL) w (.slice bX x.insts.length c2) x.insts/\bn 1 (Flat cL) w (.slice bZ x.aR.length bu) x.aR/\bn 1 (Flat cL) w (.slice ca x.U.length bC) x.U:=by
 obtain⟨v0,v1,v2,v3,v4,rfl,af,h1,I,ab,aH⟩:=h.ex;obtain⟨b6,bx,rfl,_⟩:=af.form;obtain⟨bR,c1,rfl,_⟩:=h1.form;obtain⟨bX,c2,rfl,_⟩:=I.form;obtain⟨bZ,bu,rfl,_⟩:=ab.form;obtain⟨ca,bC,rfl,_⟩:=aH.form;exact⟨b6,bx,bR,c1,bX,c2,bZ,bu,ca,bC,rfl,af,h1,I,ab,aH⟩
theorem LX{v:Var}{s:C_ Scalar}(h:Dz v s)(ak:s.length<=2):0<=v.scalar/\v.scalar<=2:=by
 rcases h.kZ with e | e
 .omega
 .unfold size at e;split at e
  .rename_i x ag
   have:=(List.getElem?_eq_some_iff.1 ag).1
   split at e<;>omega
  .exact absurd rfl e
theorem Nb{v:dB}{s:C_ Scalar}(h:Dc v s)(ak:s.length<=2):0<=v.scalar/\v.scalar<=2:=by
 rcases h.kZ with e | e
 .omega
 .unfold size at e;split at e
  .rename_i x ag
   have:=(List.getElem?_eq_some_iff.1 ag).1
   split at e<;>omega
  .exact absurd rfl e
theorem LQ(m:Model)(h:eX m)(k:Nat):total ((c0 m).take k)<=64:=by
 have h1:=J7 h;have I:=h.cells;have ab:=FH m;have e:total (c0 m)=total ((c0 m).take k)+total ((c0 m).drop k):=by rw[<-GL,AH3]
 omega
theorem R6(m:Model)(h:eX m)(k:Nat):total (c0 m)+total ((dK m).take k)<=64:=by
 have h1:=J7 h;have I:=h.cells;have ab:=FH m;have e:total (dK m)=total ((dK m).take k)+total ((dK m).drop k):=by rw[<-GL,AH3]
 omega
theorem acS(m:Model)(h:eX m)(k:Nat):total (c0 m)+total (dK m)+total ((fE m).take k)<=64:=by
 have h1:=J7 h;have I:=h.cells;have ab:=FH m;have e:total (fE m)=total ((fE m).take k)+total ((fE m).drop k):=by rw[<-GL,AH3]
 omega
end o
namespace Go.Proofs.R
open Go Go.RowKit ba
theorem ams(cs:C_ B_)(m:o.Model)(w:A_)(h:o.eh w cs m)(aK:m.cK)(aW:o.eX m) :
  DD F.la #[.agg cs.toArray] w fun v w'=>(∃xs u,v = .tuple #[.agg xs.toArray,u]/\ey w (fun w=>o.kK w xs (o.layout m)) w'/\ey w (fun w=>bn 4 (Flat o.Cell.slot) w u (o.b1 m)) w')/\Ext w w':=by
 obtain⟨b6,bx,bR,c1,bX,c2,bZ,bu,ca,bC,rfl,af,h1,I,ab,aH,e2,eE,eJ,er,eH⟩:=h.form;have gM:=aW.gM;refine br E.la ?_;refine aa ?_;intro L3 bw cM rl al;have cZ:=cA al;refine aa ?_;intro L4 bS dm qw av;have dt:=cA av;replace al:=qw.obj al;refine aa ?_;intro yW bM ow nK lq;have au7:=cA lq;replace al:=nK.obj al;replace av:=nK.obj av;refine aa ?_;intro w1 bs ED qx fx;have au6:=cA fx;replace al:=qx.obj al;replace av:=qx.obj av;replace lq:=qx.obj lq;have ks:=rl.size;have jE:=qw.size;have rR:=nK.size;have C5:=qx.size;have bB:=((rl.trans qw).trans nK).trans qx;clear rl qw nK qx;have cz:bM≠bs:=AK
 have hN:bM<w1.heap.size/\bs<w1.heap.size:=⟨AK,AK⟩;have kr:k6 w1 bM bs (o.ho.of [] [] [] []) w1:=⟨Mod.refl _ _,fun _=>(none,0,0),(none,0,0),lq,⟨fun i U=>by
   have e:(o.ho.of [] [] [] []).rows i=[]:=by unfold o.ho.rows; (repeat' split)<;>rfl
   rw[e];exact aS.nil _ _ _ _ _,fun i j k _ _ _ e=>by cases e⟩,fx,aS.nil _ _ _ _ _⟩
 have oF:∀{s W},k6 w1 bM bs s W->W.heap[bw]? = w1.heap[bw]? := fun h=>h.mod.block _ AK AK;have gW:∀{s W},k6 w1 bM bs s W->W.heap[bS]? = w1.heap[bS]? := fun h=>h.mod.block _ AK AK;have dW:∀{s W},k6 w1 bM bs s W->Ext w W:=fun h=>h.mod.ext bB fun i U e=>AK
 rw[al] at oF;rw[av] at gW;refine aa ?_;refine L_ 24 m.vars.length [1,2,4,5,6,22,23] (fun _:Unit=>[]) () (fun k _ W=>k6 w1 bM bs (o.ho.of (o.ib 0 ((o.c0 m).take k)) [] [] (o.cellsOf 1 ((o.c0 m).take k) 0)) W) bc bc (by simpa[o.ib,o.cellsOf] using kr) ?_;clear kr lq fx al av;rintro k _ S aD hk ak;have al:=oF ak;have da:=dW ak;refine aa ?_;apply I_<;>intro g1
 .have a1:k<m.vars.length:=AK
  obtain⟨a,rfl⟩:=h1.addr;have ej:=((h1.at k a1).cells).ext da;have dh:=aW.var _ (GR a1);have mb:=o.LX dh gM.1;refine aa ?_;intro wn iI ov fC eU;refine aa ?_;intro aN gg bl;have ah:Ext aD aN:=gg.ext fC ov;replace bl:aN.heap[iI]? = some (.cells m.vars[k].enc.toArray T.n):=bl;replace al:=ah.obj al;clear gg fC eU ej;have fJ:=da.trans ah;refine aa ?_;refine J_ (BC m.vars[k] _ m.scalars aN (af.ext fJ)) ?_;rintro _ aU ⟨rfl,ax⟩;have dY:=o.r7 m.vars[k] m.scalars;have eo:=fJ.trans ax;have si:=ax.obj al;have ai6:=ax.obj bl;refine aa ?_;refine L_ 33 (o.cells m.vars[k] m.scalars).toNat [1,2,4,5,6,7,8,22,23,24,32] (fun v:gA=>[(9,.slice v.1 v.2.1 v.2.2)]) (none,0,0) (fun j v W=>Ext aU W/\aS o.ed.enc T.j 3 aU.heap.size W (.slice v.1 v.2.1 v.2.2) (List.replicate j (o.eY m.vars[k].scalar m.vars[k].aR m.vars[k].U m.scalars))) bc bc ⟨Ext.refl _,aS.nil _ _ _ _ _⟩ ?_;clear al bl;rintro j v S bt aF ⟨aI,dF⟩;have al:=aI.obj si;have bl:=aI.obj ai6;refine aa ?_;apply I_<;>intro g2
  .have ek:j<(o.cells m.vars[k] m.scalars).toNat:=AK
   refine aa ?_;refine J_ (QF m.vars[k] _ m.scalars bt (af.ext (eo.trans aI)) (by unfold o.ee;omega)) ?_;rintro _ bz ⟨rfl,aM⟩;have wI:=o.xR (o.eY m.vars[k].scalar m.vars[k].aR m.vars[k].U m.scalars);refine aa ?_;intro bK aer atm bq ct;replace ct:bK.heap[aer]? = some (.cells (o.eY m.vars[k].scalar m.vars[k].aR m.vars[k].U m.scalars).enc.toArray T.j):=ct;have ec:=dF.ext (aM.trans bq);have Jr:=(aI.trans aM).trans bq;have aC:(List.replicate j (o.eY m.vars[k].scalar m.vars[k].aR m.vars[k].U m.scalars)).length=j:=AF5;refine U_ (y:=o.eY m.vars[k].scalar m.vars[k].aR m.vars[k].U m.scalars) ec ct rfl (fun _=>rfl) o.xR (by rw[aC];omega) (by rw[aC];unfold maxLen;omega) Jr.size fun aQ n c c4 hB zX=>?_;refine aa ?_;exact⟨ek,aL,(aQ,n,c),bc,ec.ln Jr zX (GA _),by rw[List.replicate_succ'];exact hB⟩
  .have nc:j=(o.cells m.vars[k] m.scalars).toNat:=AK
   have rA:=ak.ext ((ah.trans ax).trans aI);replace dF:aS o.ed.enc T.j 3 aU.heap.size bt (.slice v.1 v.2.1 v.2.2) (o.AU m.scalars m.vars[k]):=by rw[nc] at dF;exact dF
   have eU:=o.lf 1 ((o.c0 m).take k) 0;have tE:=o.LQ m aW k;refine aa ?_;intro bz aM;refine _v (M5 (n:=43) (x:=7) (y:=9) (off:=0) (so:=1) BN BN BN BN cz hN (by simp[bN]) (by simp[bN]) (by simp[bN];rfl) (by simp[bN]) (rA.ext aM) (dF.ext aM) (by rw[eU,o.C0];omega) ⟨by rw[o.ud,K9];omega,Bs,Bs⟩ fun a6 bK ay cj wX=>?_);have wi:a6 24 = .I k:=by rw[ay 24 BN];simp[bN]
   refine aa ?_;rw[wi];refine aa ?_;refine⟨a1,aL,(),trivial,?_⟩;have aG:k<(o.c0 m).length:=by simpa[o.c0] using a1
   have e:(o.c0 m)[k]=o.AU m.scalars m.vars[k]:=by simp[o.c0]
   rw[Ly aG,e,o.LL,o.zr];have aJ:(0+((o.c0 m).take k).length:Nat)=k:=by rw[K9];omega
   rw[aJ,AE8,<-eU];exact cj
 have l8:m.vars.length<=k:=AK
 rw[LJ (by simpa[o.c0] using l8)] at ak;have R7:=o.LQ m aW m.vars.length;rw[LJ (by simp[o.c0])] at R7;refine aa ?_;refine L_ 56 m.aw.length [1,2,4,5,6,54,55] (fun _:Unit=>[]) () (fun k _ W=>k6 w1 bM bs (o.ho.of (o.ib 0 (o.c0 m)) (o.ib (o.total (o.c0 m)) ((o.dK m).take k)) [] (o.cellsOf 1 (o.c0 m) 0++o.cellsOf 2 ((o.dK m).take k) 0)) W) bc bc (by simpa[o.ib,o.cellsOf] using ak) ?_;clear ak al da;rintro k _ S aD hk ak;have al:=oF ak;have da:=dW ak;refine aa ?_;apply I_<;>intro g2
 .have a1:k<m.aw.length:=AK
  obtain⟨a,rfl⟩:=I.addr;have ej:=((I.at k a1).cells).ext da;have dh:=aW.chan _ (GR a1);have mb:=o.Nb dh gM.1;have iu:=dh.cap;refine aa ?_;intro wn o0 zP fC eU;refine aa ?_;intro aN gg bl;have ah:Ext aD aN:=gg.ext fC zP;replace bl:aN.heap[o0]? = some (.cells m.aw[k].enc.toArray T.t):=bl;replace al:=ah.obj al;clear gg fC eU ej;have Oz:=al;have ai7:=bl;have fJ:=da.trans ah;refine aa ?_;intro aU HJ aiR ax EG;replace EG:aU.heap[HJ]? = some (.cells ([(⟨0,m.aw[k].cap,0⟩:o.ed)].flatMap o.ed.enc).toArray T.j):=EG;have dO:aS o.ed.enc T.j 3 aN.heap.size aU (.slice (some ⟨HJ,0,none⟩) 1 1) [(⟨0,m.aw[k].cap,0⟩:o.ed)]:=aS.zn _ EG aiR rfl (fun _=>rfl) rfl (by simp[maxLen]);replace al:=ax.obj al;replace bl:=ax.obj bl;have eo:=fJ.trans ax;have X3:=EG;clear EG;refine aa ?_;refine J_ (QF ⟨⟨#[]⟩,m.aw[k].scalar,0,min m.aw[k].aR 0,max m.aw[k].U 0,0⟩ _ m.scalars aU (af.ext eo) (by unfold o.ee;simp only;omega)) ?_;rintro _ bt ⟨rfl,aI⟩;have wI:=o.xR (o.eY m.aw[k].scalar (min m.aw[k].aR 0) (max m.aw[k].U 0) m.scalars);refine aa ?_;intro bz uw I8 aM jK;replace jK:bz.heap[uw]? = some (.cells (o.lg m.scalars m.aw[k]).enc.toArray T.j):=jK;replace al:=(aI.trans aM).obj al;replace bl:=(aI.trans aM).obj bl;have dn:=dO.ext (aI.trans aM);have ajE:=(ax.trans aI).trans aM;clear dO;refine aa ?_;have atf:HJ<uw:=by have:=cA X3;have:=aI.size;omega
  refine L_ 79 m.aw[k].cap.toNat [1,2,4,5,6,10,11,13,54,55,56,78] (fun v:gA=>[(12,.slice v.1 v.2.1 v.2.2)]) (some ⟨HJ,0,none⟩,1,1) (fun j v W=>Ext aN W/\W.heap[uw]? = bz.heap[uw]? /\ aS o.ed.enc T.j 3 aN.heap.size W (.slice v.1 v.2.1 v.2.2) (⟨0,m.aw[k].cap,0⟩ :: List.replicate j (o.lg m.scalars m.aw[k]))/\(Value.slice v.1 v.2.1 v.2.2).ownBlock≠some uw) bc bc ⟨ajE,rfl,dn,by simp[Value.ownBlock];omega⟩ ?_;rw[jK];have asa:=cA jK;clear al bl jK dn X3;rintro j v S bK aF ⟨Ju,jK,ec,fD⟩;have al:=Ju.obj Oz;have bl:=Ju.obj ai7;refine aa ?_;apply I_<;>intro g3
  .have ek:j<m.aw[k].cap.toNat:=AK
   have wI:=o.xR (o.lg m.scalars m.aw[k]);refine aa ?_;intro c4 aes ato bG OE;replace OE:c4.heap[aes]? = some (.cells (o.lg m.scalars m.aw[k]).enc.toArray T.j):=OE;have hB:=ec.ext bG;have aC:((⟨0,m.aw[k].cap,0⟩:o.ed) :: List.replicate j (o.lg m.scalars m.aw[k])).length=j+1:=Bs
   have Ys:=Ju.trans bG;have z138:=cA (bG.obj jK);refine AC9 (y:=o.lg m.scalars m.aw[k]) hB OE rfl (fun _=>rfl) o.xR (by rw[aC];omega) (by rw[aC];unfold maxLen;omega) Ys.size fun aQ n c c6 gU YB kB=>?_;have ng:c6.heap[uw]? = _:=(Mod.grown (A:=fun i=>(Value.slice v.1 v.2.1 v.2.2).ownBlock=some i) YB fun k hk=>hk).obj fD (bG.obj jK);refine aa ?_;refine⟨ek,aL,(aQ,n,c),bc,hB.ln Ys YB (GA _),ng,by rw[List.replicate_succ'];exact gU,fun e=>?_⟩;rcases kB with a | a
   .exact fD (a.symm.trans e)
   .rw[a] at e;injection e with e;omega
  .have nc:j=m.aw[k].cap.toNat:=AK
   have ko:=ak.ext (ah.trans Ju);replace ec:aS o.ed.enc T.j 3 aN.heap.size bK (.slice v.1 v.2.1 v.2.2) (o.nB m.scalars m.aw[k]):=by rw[nc] at ec;exact ec
   have eU:=o.lf 1 (o.c0 m) 0;have OP:=o.lf 2 ((o.dK m).take k) 0;have hlen:(o.cellsOf 1 (o.c0 m) 0++o.cellsOf 2 ((o.dK m).take k) 0).length=o.total (o.c0 m)+o.total ((o.dK m).take k):=by rw[Ln,eU,OP]
   have tE:=o.R6 m aW k;refine aa ?_;intro c4 bG;refine _v (M5 (n:=86) (x:=10) (y:=12) (off:=1) (so:=2) BN BN BN BN cz hN (by simp[bN]) (by simp[bN]) (by simp[bN];rfl) (by simp[bN]) (ko.ext bG) (ec.ext bG) (by rw[hlen,o.vT];omega) ⟨by rw[o.ud];simp[o.c0];omega,by rw[o.ud,K9];omega,Bs⟩ fun a6 bK ay cj wX=>?_);have wi:a6 56 = .I k:=by rw[ay 56 BN];simp[bN]
   refine aa ?_;rw[wi];refine aa ?_;refine⟨a1,aL,(),trivial,?_⟩;have aG:k<(o.dK m).length:=by simpa[o.dK] using a1
   have e:(o.dK m)[k]=o.nB m.scalars m.aw[k]:=by simp[o.dK]
   rw[Ly aG,e,o.LL,o.zr];have aJ:(0+((o.dK m).take k).length:Nat)=k:=by rw[K9];omega
   rw[aJ,<-Vq,<-hlen];exact cj
 have rp:m.aw.length<=k:=AK
 rw[LJ (by simpa[o.dK] using rp)] at ak;have arb:=o.R6 m aW m.aw.length;rw[LJ (by simp[o.dK])] at arb;refine aa ?_;refine J_ (wU _ m aD (h.ext da) aK) ?_;rintro bL qM ⟨eV,uO⟩;obtain⟨cn,ci,rfl,_⟩:=eV.form;have Fm:=ak.ext uO;have jX:(o.insts m).length<=30:=by have:=o.tH m;have:=aW.procs;omega
 refine aa ?_;refine L_ 99 (o.insts m).length [1,2,4,5,6,97,98] (fun _:Unit=>[]) () (fun k _ W=>k6 w1 bM bs (o.ho.of (o.ib 0 (o.c0 m)) (o.ib (o.total (o.c0 m)) (o.dK m)) (o.ib (o.total (o.c0 m)+o.total (o.dK m)) ((o.fE m).take k)) (o.cellsOf 1 (o.c0 m) 0++o.cellsOf 2 (o.dK m) 0++o.cellsOf 3 ((o.fE m).take k) 0)) W/\eM tK qM W) bc bc ⟨by simpa[o.ib,o.cellsOf] using Fm,eM.refl⟩ ?_;clear ak Fm al da;rintro k _ S aD hk ⟨ak,oH⟩;have al:=oF ak;have da:=dW ak;have fs:ku aD (.slice cn (o.insts m).length ci) (o.insts m):=aS.hE (enc:=o.cX.enc) (fun _=>rfl) (eV.iB oH BN);refine aa ?_;apply I_<;>intro g3
 .have a1:k<(o.insts m).length:=AK
  obtain⟨ij,rfl⟩:=fs.addr;have nj:=o.rC _ (GR a1);obtain⟨p,au,h7,qo⟩:=o.Am nj;have dh:=aW.proc _ (GR au);have YT:=dh.cp;have sj:=dh.gM.1;refine aa ?_;intro wn zk EB fC eU;refine aa ?_;intro aN gg bl;have ah:Ext aD aN:=gg.ext fC EB;replace bl:aN.heap[zk]? = some (.cells #[.I p,.I (o.insts m)[k].elem] T.e):=by rw[<-h7];exact bl
  replace al:=ah.obj al;clear gg fC eU fs;have fJ:=da.trans ah;obtain⟨a,rfl⟩:=ab.addr;obtain⟨mc,b2,dV,dP,e7,fy⟩:=ab.at p au;obtain⟨eF,fB,rfl,fm⟩:=e7.form;obtain⟨oJ,lb,rfl,lc⟩:=fy.form;replace dP:=dP.ext fJ;refine aa ?_;intro aU MT XW ax o4;replace o4:aU.heap[MT]? = some (.cells (m.procs[p].enc (.slice eF m.procs[p].vars.length fB) (.slice oJ m.procs[p].cQ.length lb)).toArray T.l):=o4;unfold o.dJ.enc at o4;have eo:=fJ.trans ax;replace al:=ax.obj al;clear dP;refine aa ?_;intro bt MS aiP aI Jf;replace Jf:bt.heap[MS]? = some (.cells ([(⟨0,m.procs[p].cp - 1,0⟩:o.ed)].flatMap o.ed.enc).toArray T.j):=Jf;have dF:aS o.ed.enc T.j 3 aU.heap.size bt (.slice (some ⟨MS,0,none⟩) 1 1) [(⟨0,m.procs[p].cp - 1,0⟩:o.ed)]:=aS.zn _ Jf aiP rfl (fun _=>rfl) rfl (by simp[maxLen]);have Oz:=al;have ai0:=o4;replace o4:=aI.obj o4;clear Jf al;refine aa ?_;refine L_ 118 m.procs[p].vars.length [1,2,4,5,6,14,16,97,98,99,116,117] (fun v:gA=>[(17,.slice v.1 v.2.1 v.2.2)]) (some ⟨MS,0,none⟩,1,1) (fun j v W=>Ext aU W/\aS o.ed.enc T.j 3 aU.heap.size W (.slice v.1 v.2.1 v.2.2) (⟨0,m.procs[p].cp - 1,0⟩ :: (m.procs[p].vars.take j).map fun v=>o.eY v.scalar v.aR v.U m.scalars)) bc bc ⟨aI,by simpa using dF⟩ ?_;clear o4 dF;rintro j v S bz aF ⟨B7,dn⟩;have al:=B7.obj Oz;have o4:=B7.obj ai0;have iE:=eo.trans B7;refine aa ?_;apply I_<;>intro g4
  .have ek:j<m.procs[p].vars.length:=AK
   obtain⟨q1,rfl⟩:=e7.addr;have ej:=((e7.at j ek).cells).ext iE;have P0:=dh.var _ (GR ek);have mb:=o.LX P0 gM.1;refine aa ?_;intro bK aeq ath bq EE;replace EE:bK.heap[aeq]? = some (.cells m.procs[p].vars[j].enc.toArray T.n):=EE;replace al:=bq.obj al;have gR:=iE.trans bq;clear ej;refine aa ?_;refine J_ (QF m.procs[p].vars[j] _ m.scalars bK (af.ext gR) (by unfold o.ee;omega)) ?_;rintro _ c4 ⟨rfl,bG⟩;have wI:=o.xR (o.eY m.procs[p].vars[j].scalar m.procs[p].vars[j].aR m.procs[p].vars[j].U m.scalars);refine aa ?_;intro c6 aep ate b5 OA;replace OA:c6.heap[aep]? = some (.cells (o.eY m.procs[p].vars[j].scalar m.procs[p].vars[j].aR m.procs[p].vars[j].U m.scalars).enc.toArray T.j):=OA;have gU:=dn.ext ((bq.trans bG).trans b5);have Yt:=((B7.trans bq).trans bG).trans b5;have aC:((⟨0,m.procs[p].cp - 1,0⟩:o.ed) :: (m.procs[p].vars.take j).map fun v=>o.eY v.scalar v.aR v.U m.scalars).length=j+1:=by simp;omega
   refine U_ (y:=o.eY m.procs[p].vars[j].scalar m.procs[p].vars[j].aR m.procs[p].vars[j].U m.scalars) gU OA rfl (fun _=>rfl) o.xR (by rw[aC];omega) (by rw[aC];unfold maxLen;omega) Yt.size fun aQ n c eO pW o7=>?_;refine aa ?_;exact⟨ek,aL,(aQ,n,c),bc,gU.ln Yt o7 (GA _),by rw[Ly ek,AF4];exact pW⟩
  .have Cl:=ak.ext ((ah.trans ax).trans B7);have Qu:eM tK aD bz:=eM.ext ((ah.trans ax).trans B7);replace dn:aS o.ed.enc T.j 3 aU.heap.size bz (.slice v.1 v.2.1 v.2.2) (o.me m (o.insts m)[k]):=by rw[LJ AK] at dn;rw[qo];exact dn
   have eU:=o.lf 1 (o.c0 m) 0;have OP:=o.lf 2 (o.dK m) 0;have ajr:=o.lf 3 ((o.fE m).take k) 0;have hlen:(o.cellsOf 1 (o.c0 m) 0++o.cellsOf 2 (o.dK m) 0++o.cellsOf 3 ((o.fE m).take k) 0).length=o.total (o.c0 m)+o.total (o.dK m)+o.total ((o.fE m).take k):=by rw[Ln,Ln,eU,OP,ajr]
   have tE:=o.acS m aW k;have Je:(o.me m (o.insts m)[k]).length<=10:=by rw[qo,o.AG];omega
   refine aa ?_;intro c4 bG;refine _v (M5 (n:=130) (x:=14) (y:=17) (off:=2) (so:=3) BN BN BN BN cz hN (by simp[bN]) (by simp[bN]) (by simp[bN];rfl) (by simp[bN]) (Cl.ext bG) (dn.ext bG) (by rw[hlen];omega) ⟨by rw[o.ud];simp[o.c0];omega,by rw[o.ud];simp[o.dK];omega,by rw[o.ud,K9];omega⟩ fun a6 bK ay cj wX=>?_);have wi:a6 99 = .I k:=by rw[ay 99 BN];simp[bN]
   refine aa ?_;rw[wi];refine aa ?_;refine⟨a1,aL,(),trivial,?_,((oH.trans Qu).trans (eM.ext bG)).trans wX⟩;have aG:k<(o.fE m).length:=by simpa[o.fE] using a1
   have e:(o.fE m)[k]=o.me m (o.insts m)[k]:=by simp[o.fE]
   rw[Ly aG,e,o.LL,o.zr];have aJ:(0+((o.fE m).take k).length:Nat)=k:=by rw[K9];omega
   rw[aJ,<-Vq,<-hlen];exact cj
 have lL:(o.insts m).length<=k:=AK
 rw[LJ (by simpa[o.fE] using lL)] at ak;have av:=gW ak;obtain⟨vs,u,g1,g2,g3,g4⟩:=ak.ex;have fin:∀{aN W},Ext aD aN->dy bS aN W->(∃xs kH,Value.tuple #[.agg #[cw (vs 0),cw (vs 1),cw (vs 2),.I (o.b1 m).length,cw (vs 3),cw (vs 4)],cw u] = .tuple #[.agg xs.toArray,kH]/\ey w (fun w=>o.kK w xs (o.layout m)) W/\ey w (fun w=>bn 4 (Flat o.Cell.slot) w kH (o.b1 m)) W)/\Ext w W:=by
  intro aN W he hw;have dm:=he.obj av;have ahN:=(g2.ext he).mod (hw.mod (A:=fun i=>i=bS) rfl) fun i k U hk e=>by subst e;exact(g2.ext he).not dm BN i U hk
  have ahO:=(g4.ext he).mod (hw.mod (A:=fun i=>i=bS) rfl) fun k hk e=>by
   subst e;obtain⟨cur,hI⟩:=(g4.ext he).cx k hk;rw[dm] at hI;injection hI with hI;injection hI with _ e;exact absurd e BN
  have bI:w.heap.size<=w1.heap.size:=AK
  have tQ:=fun(i:Nat) (U:i<5)=>aS.new (e:=T.a) (enc:=cL) (fun _=>rfl) (aS.low bI (ahN.own i U));refine⟨⟨[_,_,_,_,_,_],_,rfl,fun e5 tM=>⟨⟨_,_,_,_,_,rfl,tQ 0 BN e5 tM,tQ 1 BN e5 tM,tQ 2 BN e5 tM,tQ 3 BN e5 tM,tQ 4 BN e5 tM⟩⟩,aS.new (e:=T.r) (enc:=o.Cell.slot) (fun _=>rfl) (aS.low bI ahO)⟩,hw.ext (da.trans he) AK⟩
 replace g1:aD.heap[bM]? = some (.cells #[cw (vs 0),cw (vs 1),cw (vs 2),.I (o.b1 m).length,cw (vs 3),cw (vs 4)] T.i):=g1;refine aa ?_;intro aN ah;replace g1:=ah.obj g1;replace g3:=ah.obj g3;replace av:=ah.obj av;dsimp only[cw] at g1 g3;refine aa ?_;refine⟨?_,?_⟩
 .refine aa ?_;refine⟨?_,?_⟩
  .refine aa ?_;intro aU dE bp;refine aa ?_;exact fin ah dE
  .refine aa ?_;intro aU dE bp;replace g3:=dE.obj g3 AK;refine aa ?_;exact fin ah dE
 .refine aa ?_;intro aU dE bp;refine aa ?_;exact fin ah dE
end Go.Proofs.R
end
section
namespace o
theorem FJ{m:Model}(h:(check m).cN=0):lay m=layout m:=by unfold lay;rw[if_pos h]
theorem amr{m:Model}(h:¬(check m).cN=0):lay m=QQ:=by unfold lay;rw[if_neg h]
theorem jd{m:Model}(h:eX m):(b1 m).length<=64:=by
 have:=J7 h
 have:=h.cells
 omega
open Go Go.RowKit ba in
theorem kK.zero(w:A_):kK w [.slice none 0 0,.slice none 0 0,.slice none 0 0,.I 0,.slice none 0 0,.slice none 0 0] QQ:=⟨_,_,_,_,_,rfl,bn.nil,bn.nil,bn.nil,bn.nil,bn.nil⟩
end o
namespace Go.Proofs.R
open Go Go.RowKit ba
theorem FI(cs:C_ B_)(m:o.Model)(w:A_)(h:o.eh w cs m)(aK:m.cK)(aO:gK w) :
  DD F.a #[.agg cs.toArray] w fun v w'=>(∃xs,v = .agg xs.toArray/\ey w (fun w=>o.kK w xs (o.lay m)) w')/\Ext w w':=by
 have aW:=h;obtain⟨b6,bx,bR,c1,bX,c2,bZ,bu,ca,bC,rfl,_⟩:=h.form;refine br E.a ?_;refine aa ?_;intro w1 bw cM ai al;refine aa ?_;intro aD bS dm aj av;have gz:=cA al;replace al:=aj.obj al;have z2:=cA av;have z3:=ai.size;have aJ:=ai.trans aj;refine aa ?_;refine J_ (amS _ m aD (aW.ext aJ) aK (aO.ext aJ)) ?_;rintro _ aN ⟨rfl,ah⟩;replace al:=ah.obj al;replace av:=ah.obj av;have a7:=aJ.trans ah;by_cases hk:(o.check m).cN=0
 .rw[decide_eq_true hk];refine aa ?_;refine J_ (ams _ m aN (aW.ext a7) aK (o.j3 hk)) ?_;rintro _ aU ⟨⟨xs,u,rfl,cY,ak⟩,ax⟩;obtain⟨mj,d0,ka,d1,k3,d2,pq,d3,oQ,d4,rfl,_⟩:=cY.here.form;obtain⟨xd,uC,rfl,_⟩:=ak.here.form;replace av:=ax.obj av;have bD:=a7.trans ax;have z4:=ah.size;refine aa ?_;intro bt bW fe aI bl;replace av:=aI.obj av;refine aa ?_;intro bz gV cb;have az:=(cY.ext aI ax.size).wr gV AK;refine aa ?_;exact⟨⟨_,rfl,by rw[o.FJ hk];exact az.low a7.size⟩,gV.ext (bD.trans aI) AK⟩
 .rw[decide_eq_false hk];refine aa ?_;intro aU dE bp;refine aa ?_;exact⟨⟨[_,_,_,_,_,_],rfl,by rw[o.amr hk];exact hc.of fun _=>o.kK.zero _⟩,dE.ext a7 AK⟩
end Go.Proofs.R
end
section
namespace o
theorem afr{c:dB}{s:C_ Scalar}(h:Dc c s)(af:c.scalar≠0):∃i,∃U:i<s.length,c.scalar=(i:Int)+1/\s[i].size=size c.scalar s:=by
 have e:=h.kZ.resolve_left af;unfold size at e ⊢;split at e
 .rename_i x ag;obtain⟨cg,uW⟩:=List.getElem?_eq_some_iff.1 ag;split at e
  .rename_i h1;refine⟨(c.scalar - 1).toNat,cg,AK,?_⟩;rw[uW,if_pos h1]
  .exact absurd rfl e
 .exact absurd rfl e
theorem Qy(so jj:Int)(l:C_ ed)(b:ed):fH so jj (l++[b]) 0=fH so jj l 0++[⟨so,jj,(l.length:Nat),b.aR,b.U,b.kind⟩]:=by
 rw[Qx,AE8]
end o
namespace Go.Proofs.R
open Go Go.RowKit ba
theorem aah{α:Type}{enc:α->C_ B_}{e:F_}{sz base:Nat}{w w':A_}{v:B_}{xs:C_ α}(aO:aS enc e sz base w v xs)(aK:w.grownBy w' v.ownBlock):eM [e] w w':=eM.mod (A:=fun k=>v.ownBlock=some k) (Mod.grown aK fun k hk=>hk) fun k c t an a=>by
 obtain⟨cur,h⟩:=aO.cx k a;rw[an] at h;injection h with h;injection h with _ h;rw[h];simp
theorem apw(cs:C_ B_)(m:o.Model)(w:A_)(h:o.eh w cs m)(aK:m.cK)(aW:o.eX m) :
  DD F.KT #[.agg cs.toArray] w fun v w'=>aS o.Cell.enc T.tJ 6 w.heap.size w' v (o.b1 m)/\Ext w w':=by
 obtain⟨b6,bx,bR,c1,bX,c2,bZ,bu,ca,bC,rfl,af,h1,I,ab,aH,e2,eE,eJ,er,eH⟩:=h.form;have gM:=aW.gM;refine br E.KT ?_;refine aa ?_;intro w1 bw cM ai al;refine aa ?_;refine L_ 4 m.vars.length [1] (fun v:gA=>[(3,.slice v.1 v.2.1 v.2.2)]) (none,0,0) (fun k v W=>Ext w1 W/\aS o.Cell.enc T.tJ 6 w1.heap.size W (.slice v.1 v.2.1 v.2.2) (o.cellsOf 1 ((o.c0 m).take k) 0)) bc bc ⟨Ext.refl _,aS.nil _ _ _ _ _⟩ ?_;have si:=al;clear al;rintro k v S aD hk ⟨aj,dA⟩;have al:=aj.obj si;have aJ:=ai.trans aj;refine aa ?_;apply I_<;>intro g1
 .have a1:k<m.vars.length:=AK
  obtain⟨a,rfl⟩:=h1.addr;have ej:=((h1.at k a1).cells).ext aJ;have dh:=aW.var _ (GR a1);have mb:=o.LX dh gM.1;have aG:k<(o.c0 m).length:=by simpa[o.c0] using a1
  have tE:=o.LQ m aW (k+1);rw[o.GN aG] at tE;have x6:(o.c0 m)[k]=o.AU m.scalars m.vars[k]:=by simp[o.c0]
  rw[x6,o.C0] at tE;have dY:=o.r7 m.vars[k] m.scalars;refine aa ?_;refine P_ (.tuple #[.I (o.bounds m.vars[k] m.scalars).1,.I (o.bounds m.vars[k] m.scalars).2]) (fun w' e=>Rq m.vars[k] _ m.scalars w' (af.ext (aJ.trans e))) ?_;refine aa ?_;intro aN ah;have dT:=dA.ext ah;have bl:=ah.obj al;have hL:=aj.trans ah;clear al ej;refine aa ?_;refine L_ 7 (o.cells m.vars[k] m.scalars).toNat [1,4,5,6] (fun v:gA=>[(3,.slice v.1 v.2.1 v.2.2)]) v (fun j v W=>Ext w1 W/\aS o.Cell.enc T.tJ 6 w1.heap.size W (.slice v.1 v.2.1 v.2.2) (o.cellsOf 1 ((o.c0 m).take k) 0++o.fH 1 k (List.replicate j (o.eY m.vars[k].scalar m.vars[k].aR m.vars[k].U m.scalars)) 0)) bc bc ⟨hL,by simpa[o.fH] using dT⟩ ?_;clear bl dT dA aj ah hL;rintro j v S aU aF ⟨ax,dO⟩;have al:=ax.obj si;have bD:=ai.trans ax;have ej:=((h1.at k a1).cells).ext bD;refine aa ?_;refine P_ _ (fun w' e=>Rr m.vars[k] _ m.scalars w' (af.ext (bD.trans e))) ?_;refine aa ?_;intro bt aI;replace al:=aI.obj al;replace ej:=ej.ext aI;have dF:=dO.ext aI;have qu:=ax.trans aI;refine aa ?_;apply I_<;>intro g2
  .have ek:j<(o.cells m.vars[k] m.scalars).toNat:=AK
   refine aa ?_;refine J_ (Rt m.vars[k].scalar bt (by unfold o.ee;omega)) ?_;rintro _ oO ⟨rfl,rfl⟩;refine aa ?_;intro bz ez gm aM cb;have dn:=dF.ext aM;have B5:=qu.trans aM;have aC:(o.cellsOf 1 ((o.c0 m).take k) 0++o.fH 1 k (List.replicate j (o.eY m.vars[k].scalar m.vars[k].aR m.vars[k].U m.scalars)) 0).length=o.total ((o.c0 m).take k)+j:=by
    rw[Ln,o.lf,o.u3,AF5]
   refine U_ (y:=⟨1,k,j,(o.bounds m.vars[k] m.scalars).1,(o.bounds m.vars[k] m.scalars).2,o.kindOf m.vars[k].scalar⟩) dn cb rfl (fun _=>rfl) o.DV (by rw[aC];omega) (by rw[aC];unfold maxLen;omega) B5.size fun aQ n c bK ec kU=>?_;refine aa ?_;refine⟨ek,aL,(aQ,n,c),bc,dn.ln B5 kU (GA _),?_⟩;rw[List.replicate_succ',o.Qy,<-Vq,AF5,o.zm];rw[o.zm] at ec;exact ec
  .have nc:j=(o.cells m.vars[k] m.scalars).toNat:=AK
   refine aa ?_;refine⟨a1,aL,v,bc,qu,?_⟩;have aJ:(0+((o.c0 m).take k).length:Nat)=k:=by rw[K9];omega
   rw[Ly aG,x6,o.zr,aJ];rw[nc] at dF;exact dF
 have l8:m.vars.length<=k:=AK
 rw[LJ (by simpa[o.c0] using l8)] at dA;have R7:=o.LQ m aW m.vars.length;rw[LJ (by simp[o.c0])] at R7;refine aa ?_;refine L_ 8 m.aw.length [1] (fun v:gA=>[(3,.slice v.1 v.2.1 v.2.2)]) v (fun k v W=>Ext w1 W/\aS o.Cell.enc T.tJ 6 w1.heap.size W (.slice v.1 v.2.1 v.2.2) (o.cellsOf 1 (o.c0 m) 0++o.cellsOf 2 ((o.dK m).take k) 0)) bc bc ⟨aj,by simpa[o.cellsOf] using dA⟩ ?_;clear al dA aj aJ;rintro k v S aD hk ⟨aj,dA⟩;have al:=aj.obj si;have aJ:=ai.trans aj;refine aa ?_;apply I_<;>intro g2
 .have a1:k<m.aw.length:=AK
  obtain⟨a,rfl⟩:=I.addr;have ej:=((I.at k a1).cells).ext aJ;have dh:=aW.chan _ (GR a1);have mb:=o.Nb dh gM.1;have iu:=dh.cap;have aG:k<(o.dK m).length:=by simpa[o.dK] using a1
  have tE:=o.R6 m aW (k+1);rw[o.GN aG] at tE;have x6:(o.dK m)[k]=o.nB m.scalars m.aw[k]:=by simp[o.dK]
  rw[x6,o.vT] at tE;have zT:(o.cellsOf 1 (o.c0 m) 0++o.cellsOf 2 ((o.dK m).take k) 0).length=o.total (o.c0 m)+o.total ((o.dK m).take k):=by rw[Ln,o.lf,o.lf]
  refine aa ?_;intro aN ik l6 ah dD;replace dD:aN.heap[ik]? = some (.cells m.aw[k].enc.toArray T.t):=dD;replace al:=ah.obj al;have dT:=dA.ext ah;clear ej;have hL:=aj.trans ah;refine aa ?_;intro aU cC ff ax bp;have dO:=dT.ext ax;have lr:=hL.trans ax;refine U_ (y:=⟨2,k,0,0,m.aw[k].cap,0⟩) dO bp rfl (fun _=>rfl) o.DV (by rw[zT];omega) (by rw[zT];unfold maxLen;omega) lr.size fun aQ n c bt dF hg=>?_;have al:=dO.box hg (ax.obj al) BN;have dD:=dO.box hg (ax.obj dD) BN;have qu:=dO.ln lr hg (GA _);have bJ:=ai.trans qu;have avL:=cA dD;clear dA dT bp ff ax ah l6;refine eb ?_;simp -dsimp only[cB];refine eb ?_;intro bz aM;replace al:=aM.obj al;replace dD:=aM.obj dD;have dn:=dF.ext aM;have cv:=bJ.trans aM;have B5:=qu.trans aM;refine S_ [1,3,8,9] (fun _:Unit=>[(10,.I (o.lg m.scalars m.aw[k]).aR),(11,.I (o.lg m.scalars m.aw[k]).U)]) (fun _ W=>Ext bz W) ?_ ?_
  .refine aa ?_;apply I_<;>intro g3
   .obtain⟨i,U,Fm,PO⟩:=o.afr dh AK;obtain⟨a0,rfl⟩:=af.addr;have fx:=((af.at i U).cells).ext cv;refine aa ?_;refine K_ i AK U ?_;refine aa ?_;intro bK bq;refine aa ?_;have e:o.lg m.scalars m.aw[k]=⟨0,m.scalars[i].size,m.aw[k].scalar+1⟩:=by unfold o.lg o.eY;rw[if_neg AK,PO]
    rw[e];exact⟨(),bc,bq⟩
   .have hr:m.aw[k].scalar=0:=AK
    refine aa ?_;have e:o.lg m.scalars m.aw[k]=⟨min 0 m.aw[k].aR,max 0 m.aw[k].U,0⟩:=by unfold o.lg o.eY;rw[if_pos hr,Int.min_comm,Int.max_comm]
    rw[e];exact⟨(),bc,Ext.refl _⟩
  rintro _ S bK bq;replace al:=bq.obj al;replace dD:=bq.obj dD;have ec:=dn.ext bq;have B6:=B5.trans bq;have z1:o.lg m.scalars m.aw[k]=⟨(o.lg m.scalars m.aw[k]).aR,(o.lg m.scalars m.aw[k]).U,o.kindOf m.aw[k].scalar⟩:=by
   unfold o.lg o.eY o.kindOf;split<;>rfl
  have JX:∀{W:A_},W.heap[ik]? = bK.heap[ik]? -> _:=fun e=>e.trans dD;refine aa ?_;refine _P [1,8,9,10,11] (fun x:gA×Nat=>[(3,.slice x.1.1 x.1.2.1 x.1.2.2),(12,.I ((x.2:Int)+1))]) ((aQ,n,c),0) (fun x W=>(Ext w1 W/\W.heap[ik]? = bK.heap[ik]? /\ (x.2:Int)<=m.aw[k].cap)/\aS o.Cell.enc T.tJ 6 w1.heap.size W (.slice x.1.1 x.1.2.1 x.1.2.2) (o.cellsOf 1 (o.c0 m) 0++o.cellsOf 2 ((o.dK m).take k) 0++o.fH 2 k (⟨0,m.aw[k].cap,0⟩ :: List.replicate x.2 (o.lg m.scalars m.aw[k])) 0)) (fun x=>(m.aw[k].cap - x.2).toNat) bc ⟨⟨B6,rfl,by simp only;omega⟩,by simpa[o.fH] using ec⟩ ?_;clear al dD ec dn dF;rintro⟨v,j⟩ S c4 ⟨⟨EO,l6,aF⟩,hB⟩;have al:=EO.obj si;have dD:=JX l6;simp only at aF;refine aa ?_;apply I_<;>intro g4
  .refine aa ?_;refine J_ (Rt m.aw[k].scalar c4 (by unfold o.ee;omega)) ?_;rintro _ oO ⟨rfl,rfl⟩;refine aa ?_;intro c6 r4 yf b5 kk;have gU:=hB.ext b5;have EP:=EO.trans b5;have aC:(o.cellsOf 1 (o.c0 m) 0++o.cellsOf 2 ((o.dK m).take k) 0++o.fH 2 k (⟨0,m.aw[k].cap,0⟩ :: List.replicate j (o.lg m.scalars m.aw[k])) 0).length=o.total (o.c0 m)+o.total ((o.dK m).take k)+(j+1):=by
    rw[Ln,zT,o.u3,AG2,AF5]
   refine U_ (y:=⟨2,k,(j:Int)+1,(o.lg m.scalars m.aw[k]).aR,(o.lg m.scalars m.aw[k]).U,o.kindOf m.aw[k].scalar⟩) gU kk rfl (fun _=>rfl) o.DV (by rw[aC];omega) (by rw[aC];unfold maxLen;omega) EP.size fun aQ n c eO pW o7=>?_;have ajg:=gU.box o7 (b5.obj dD) BN;refine aa ?_;refine⟨((aQ,n,c),j+1),bc,⟨⟨gU.ln EP o7 (GA _),ajg.trans (JX rfl).symm,by simp only;omega⟩,?_⟩,by simp only;omega⟩;rw[List.replicate_succ',<-List.cons_append,o.Qy,<-Vq,AG2,AF5];rw[z1] at pW ⊢;exact pW
  .refine aa ?_;refine⟨a1,aL,v,bc,EO,?_⟩;have aJ:(0+((o.dK m).take k).length:Nat)=k:=by rw[K9];omega
   have zA:j=m.aw[k].cap.toNat:=AK
   rw[Ly aG,x6,o.zr,aJ,<-Vq];rw[zA] at hB;exact hB
 have rp:m.aw.length<=k:=AK
 rw[LJ (by simpa[o.dK] using rp)] at dA;refine aa ?_;refine J_ (Gs _ m aD (h.ext aJ) aK) ?_;rintro bL qM ⟨eV,uO⟩;obtain⟨cn,ci,rfl,_⟩:=eV.form;have Pd:∀{W:A_},eM [T.tJ] qM W->ku W (.slice cn (o.insts m).length ci) (o.insts m):=fun k=>aS.hE (enc:=o.cX.enc) (fun _=>rfl) (eV.iB k BN);have jX:(o.insts m).length<=30:=by have:=o.tH m;have:=aW.procs;omega
 have Y9:=dA.ext uO;have Yr:=aj.trans uO;have avC:=uO.size;refine aa ?_;refine L_ 14 (o.insts m).length [1,13] (fun v:gA=>[(3,.slice v.1 v.2.1 v.2.2)]) v (fun k v W=>(Ext w1 W/\eM [T.tJ] qM W)/\aS o.Cell.enc T.tJ 6 w1.heap.size W (.slice v.1 v.2.1 v.2.2) (o.cellsOf 1 (o.c0 m) 0++o.cellsOf 2 (o.dK m) 0++o.cellsOf 3 ((o.fE m).take k) 0)) bc bc ⟨⟨Yr,eM.refl⟩,by simpa[o.cellsOf] using Y9⟩ ?_;clear al dA aj aJ Y9 uO Yr;rintro k v S aD hk ⟨⟨aj,oH⟩,dA⟩;have fs:=Pd oH;have al:=aj.obj si;have aJ:=ai.trans aj;refine aa ?_;apply I_<;>intro g3
 .have a1:k<(o.insts m).length:=AK
  obtain⟨ij,rfl⟩:=fs.addr;have nj:=o.rC _ (GR a1);obtain⟨p,au,h7,qo⟩:=o.Am nj;have dh:=aW.proc _ (GR au);have YT:=dh.cp;have sj:=dh.gM.1;obtain⟨a,rfl⟩:=ab.addr;obtain⟨mc,b2,dV,dP,e7,fy⟩:=ab.at p au;obtain⟨eF,fB,rfl,fm⟩:=e7.form;obtain⟨oJ,lb,rfl,lc⟩:=fy.form;replace dP:=dP.ext aJ;have aG:k<(o.fE m).length:=by simpa[o.fE] using a1
  have tE:=o.acS m aW (k+1);rw[o.GN aG] at tE;have x6:(o.fE m)[k]=o.vd m.scalars m.procs[p]:=by simp[o.fE,qo]
  rw[x6,o.AG] at tE;have zT:(o.cellsOf 1 (o.c0 m) 0++o.cellsOf 2 (o.dK m) 0++o.cellsOf 3 ((o.fE m).take k) 0).length=o.total (o.c0 m)+o.total (o.dK m)+o.total ((o.fE m).take k):=by rw[Ln,Ln,o.lf,o.lf,o.lf]
  refine aa ?_;intro aN ah;replace dP:=dP.ext ah;replace al:=ah.obj al;replace fs:=fs.ext Flat.ext ah;have dT:=dA.ext ah;have hL:=aj.trans ah;refine aa ?_;refine K_ p h7 au ?_;refine aa ?_;intro wn zk EB fC eU;refine⟨fC,?_⟩;refine aa ?_;intro aU dE bp;have Jt:Ext aN aU:=dE.ext fC EB;replace bp:aU.heap[zk]? = some (.cells (m.procs[p].enc (.slice eF m.procs[p].vars.length fB) (.slice oJ m.procs[p].cQ.length lb)).toArray T.l):=bp;unfold o.dJ.enc at bp;replace al:=Jt.obj al;have dO:=dT.ext Jt;have lr:=hL.trans Jt;clear dE fC eU dP dT dA fs;refine aa ?_;intro bt dR kT aI b9;have dF:=dO.ext aI;have qu:=lr.trans aI;refine U_ (y:=⟨3,k,0,0,m.procs[p].cp - 1,0⟩) dF b9 rfl (fun _=>rfl) o.DV (by rw[zT];omega) (by rw[zT];unfold maxLen;omega) qu.size fun aQ n c bz dn iJ=>?_;have al:=dF.box iJ (aI.obj al) BN;have zQ:=dF.box iJ (aI.obj bp) BN;have B5:=dF.ln qu iJ (GA _);have Qu:eM [T.tJ] qM bz:=((oH.trans (eM.ext (ah.trans Jt))).trans (eM.ext aI)).trans (aah dF iJ);clear bp dO;have Zv:∀{W:A_},W.heap[zk]? = bz.heap[zk]? -> _:=fun e=>e.trans zQ;refine aa ?_;refine L_ 16 m.procs[p].vars.length [1,13,14,15] (fun v:gA=>[(3,.slice v.1 v.2.1 v.2.2)]) (aQ,n,c) (fun j v W=>((Ext w1 W/\eM [T.tJ] qM W)/\W.heap[zk]? = bz.heap[zk]?)/\aS o.Cell.enc T.tJ 6 w1.heap.size W (.slice v.1 v.2.1 v.2.2) (o.cellsOf 1 (o.c0 m) 0++o.cellsOf 2 (o.dK m) 0++o.cellsOf 3 ((o.fE m).take k) 0++o.fH 3 k (⟨0,m.procs[p].cp - 1,0⟩ :: (m.procs[p].vars.take j).map fun v=>o.eY v.scalar v.aR v.U m.scalars) 0)) bc bc ⟨⟨⟨B5,Qu⟩,rfl⟩,by simpa[o.fH] using dn⟩ ?_;clear al zQ dn;rintro j v S bK aF ⟨⟨⟨B6,u2⟩,EB⟩,ec⟩;have al:=B6.obj si;have zQ:=Zv EB;have dz:=ai.trans B6;refine aa ?_;apply I_<;>intro g4
  .have ek:j<m.procs[p].vars.length:=AK
   obtain⟨q1,rfl⟩:=e7.addr;have ej:=((e7.at j ek).cells).ext dz;have P0:=dh.var _ (GR ek);have mb:=o.LX P0 gM.1;refine aa ?_;refine P_ (.tuple #[.I (o.bounds m.procs[p].vars[j] m.scalars).1,.I (o.bounds m.procs[p].vars[j] m.scalars).2]) (fun w' e=>Rq m.procs[p].vars[j] _ m.scalars w' (af.ext (dz.trans e))) ?_;refine aa ?_;intro c4 bG;replace al:=bG.obj al;replace zQ:=bG.obj zQ;replace ej:=ej.ext bG;have hB:=ec.ext bG;have EO:=B6.trans bG;refine aa ?_;refine J_ (Rt m.procs[p].vars[j].scalar c4 (by unfold o.ee;omega)) ?_;rintro _ oO ⟨rfl,rfl⟩;refine aa ?_;intro c6 ik l6 b5 dD;have gU:=hB.ext b5;have EP:=EO.trans b5;have aC:(o.cellsOf 1 (o.c0 m) 0++o.cellsOf 2 (o.dK m) 0++o.cellsOf 3 ((o.fE m).take k) 0++o.fH 3 k (⟨0,m.procs[p].cp - 1,0⟩ :: (m.procs[p].vars.take j).map fun v=>o.eY v.scalar v.aR v.U m.scalars) 0).length=o.total (o.c0 m)+o.total (o.dK m)+o.total ((o.fE m).take k)+(j+1):=by
    rw[Ln,zT,o.u3,AG2,AK0,K9];omega
   have cg:((m.procs[p].vars.take j).map fun v=>o.eY v.scalar v.aR v.U m.scalars).length=j:=by simp;omega
   refine U_ (y:=⟨3,k,1+(j:Int),(o.bounds m.procs[p].vars[j] m.scalars).1,(o.bounds m.procs[p].vars[j] m.scalars).2,o.kindOf m.procs[p].vars[j].scalar⟩) gU dD rfl (fun _=>rfl) o.DV (by rw[aC];omega) (by rw[aC];unfold maxLen;omega) EP.size fun aQ n c eO pW o7=>?_;have aiZ:=gU.box o7 (b5.obj zQ) BN;refine aa ?_;refine⟨ek,aL,(aQ,n,c),bc,⟨⟨gU.ln EP o7 (GA _),(u2.trans (eM.ext (bG.trans b5))).trans (aah gU o7)⟩,aiZ.trans (Zv rfl).symm⟩,?_⟩;rw[Ly ek,AF4,<-List.cons_append,AG1,AJ6,o.Qy,<-Vq,AG2,cg,o.zm m.procs[p].vars[j],show((j+1:Nat):Int)=1+(j:Int) from AK];exact pW
  .refine aa ?_;refine⟨a1,aL,v,bc,⟨B6,u2⟩,?_⟩;have aJ:(0+((o.fE m).take k).length:Nat)=k:=by rw[K9];omega
   rw[LJ (l:=m.procs[p].vars) AK] at ec;rw[Ly aG,x6,o.zr,aJ,<-Vq];exact ec
 .rw[LJ (by simp[o.fE];omega)] at dA;refine aa ?_;exact⟨aS.low ai.size dA,aJ⟩
end Go.Proofs.R
end
section
namespace ba
open Go Go.RowKit
theorem _p{P:D_}{cT:B_->A_->Prop}{α:Type}{enc:α->C_ B_}{e:F_}{sz base n:Nat}{w:A_}{vs:Nat->H_ Addr×Nat×Nat}{xs:Nat->C_ α}{ty:F_}{b:Nat}{a:Addr}{c:Nat}{y:α}{t}(i:Nat)(U:i<n)(h:iT enc e sz base w n vs xs)(dr:∀x,(enc x).length=sz)(an:fi w a (enc y))(h1:∀y,∀u∈enc y,u.oneCell'=true)
  (ao:((xs i).length+1)*b<=140737488355328)(lp:(xs i).length+1<=maxLen)(kC:base<=w.heap.size)
  (hk:∀b0 w',iT enc e sz base w' n (dZ vs i b0) (dZ xs i (xs i++[y]))->w.grownBy w' (cw (vs i)).ownBlock->cT (cw b0) w'):ml P ty e sz b (cw (vs i)) (.slice (some a) 1 c) w cT t:=by
 unfold ml;exact iT.app i U h dr an h1 ao lp kC fun b0 w' a b _=>hk b0 w' a b
end ba
namespace o
theorem NV{s:Int}{l:C_ Cell}{k:Nat}(h:k<l.length):jo s (l.take (k+1)) 0=jo s (l.take k) 0++(if l[k].place=0/\l[k].sort=s then [(k:Int)] else []):=by
 rw[Ly h,Ea];simp only[jo,List.append_nil,List.length_take,Nat.zero_add];rw[show min k l.length=k from AK]
theorem W5(s:Int):∀(l:C_ Cell) (i:Nat),(jo s l i).length<=l.length
 | [],_=>by simp[jo]
 | x :: r,i=>by
  have:=W5 s r (i+1)
  simp only[jo,List.length_append,List.length_cons];split<;>simp<;>omega
def ft(l:C_ Cell)(k:Nat):Nat->C_ Int:=fun i=>if i=0 then jo 1 (l.take k) 0 else if i=1 then jo 2 (l.take k) 0 else if i=2 then jo 3 (l.take k) 0 else if i=3 then (l.take k).map (·.aR) else (l.take k).map (·.U)
end o
namespace Go.Proofs.R
open Go Go.RowKit ba
def CL:C_ F_:=[T.a,T.i]
def mA(vs:Nat->gA)(n:Int):Array B_:=#[cw (vs 0),cw (vs 1),cw (vs 2),.int .i64 n,cw (vs 3),cw (vs 4)]
structure ps(w1:World)(b:Nat)(xs:Nat->List Int)(n:Int)(W:World):Prop where
 mod:Mod (fun k=>k=b) w1 W
 ex:∃vs:Nat->gA,W.heap[b]? = some (.cells (mA vs n) T.i)/\iT cL T.a 1 w1.heap.size W 5 vs xs
theorem ps.congr{w1:A_}{b:Nat}{xs GU:Nat->C_ Int}{n:Int}{W:A_}(h:ps w1 b xs n W)(ag:∀i,i<5->xs i=GU i):ps w1 b GU n W :=
 let ⟨vs,g1,g2⟩:=h.ex; ⟨h.mod,vs,g1,g2.congr (fun _ _=>rfl) ag⟩
theorem F4{w1:A_}{b:Nat}{xs:Nat->C_ Int}{n y:Int}{W qj lF r1:A_}{vs:Nat->gA}{b0:gA}{i:Nat}(U:i<5)(hm:Mod (fun k=>k=b) w1 W)(g1:W.heap[b]? = some (.cells (mA vs n) T.i))(g2:iT cL T.a 1 w1.heap.size W 5 vs xs)
  (he:Ext W qj)(aK:qj.grownBy lF (cw (vs i)).ownBlock)(aO:iT cL T.a 1 w1.heap.size lF 5 (dZ vs i b0) (dZ xs i (xs i++[y])))(hw:dy b lF r1)(an:r1.heap[b]? = some (.cells (mA (dZ vs i b0) n) T.i)) :
  ps w1 b (dZ xs i (xs i++[y])) n r1/\eM CL W r1:=by
 have yD:Mod (fun k=>(cw (vs i)).ownBlock=some k) qj lF:=Mod.grown aK fun k hk=>hk;have g5:=he.obj g1;have g6:lF.heap[b]? = some (.cells (mA vs n) T.i):=yD.obj ((g2.ext he).not g5 BN i U) g5;refine⟨⟨?_,_,an,aO.mod (hw.mod (A:=fun k=>k=b) rfl) fun j k aF hk e=>?_⟩,?_⟩
 .have h1:Mod (fun k=>k=b) w1 qj:=hm.comp (A':=fun _=>False) he.mod (fun _ _ a=>a) fun _ _ a=>a.elim;have I:Mod (fun k=>k=b) w1 lF:=h1.comp yD (fun _ _ a=>a) fun j aF a=>by have:=(g2.lt i j U a).1;omega
  exact I.trans (hw.mod rfl)
 .subst e;exact aO.not g6 BN j aF hk
 .refine((eM.ext he).trans (eM.mod yD fun k c t an a=>?_)).trans (eM.wr hw g6 BN);obtain⟨cur,h⟩:=((g2.ext he).own i U).cx k a;rw[an] at h;injection h with h;injection h with _ h;rw[h];decide
theorem apx(cs:C_ B_)(m:o.Model)(w:A_)(h:o.eh w cs m)(aK:m.cK)(aW:o.eX m) :
  DD F.FV #[.agg cs.toArray] w fun v w'=>(∃xs,v = .agg xs.toArray/\ey w (fun w=>o.kK w xs (o.layout m)) w')/\Ext w w':=by
 have dc:=h;obtain⟨b6,bx,bR,c1,bX,c2,bZ,bu,ca,bC,rfl,_⟩:=h.form;have kA:=o.jd aW;refine br E.FV ?_;refine aa ?_;intro L3 bw cM rl al;have cZ:=cA al;refine aa ?_;intro L4 bS dm qw av;have dt:=cA av;replace al:=qw.obj al;refine aa ?_;intro w1 bW fe nK bl;replace al:=nK.obj al;replace av:=nK.obj av;have ef:=cA bl;have ks:=rl.size;have jE:=qw.size;have rR:=nK.size;have n13:bw≠bW:=AK
 have bB:=(rl.trans qw).trans nK;refine aa ?_;refine J_ (apw _ m w1 (dc.ext bB) aK aW) ?_;rintro dV yW ⟨dY,qx⟩;obtain⟨anC,ae2,rfl,_⟩:=dY.form;have kr:ps w1 bW (o.ft (o.b1 m) 0) 0 yW:=⟨qx.mod,fun _=>(none,0,0),qx.obj bl,⟨fun i U=>by
   have e:o.ft (o.b1 m) 0 i=[]:=by unfold o.ft; (repeat' split)<;>simp[o.jo]
   rw[e];exact aS.nil _ _ _ _ _,fun i j k _ _ _ e=>by cases e⟩⟩
 have oF:∀{xs n W},ps w1 bW xs n W->W.heap[bw]? = w1.heap[bw]? := fun h=>h.mod.block _ AK n13;have gW:∀{xs n W},ps w1 bW xs n W->W.heap[bS]? = w1.heap[bS]? := fun h=>h.mod.block _ AK AK;have dW:∀{xs n W},ps w1 bW xs n W->Ext w W:=fun h=>h.mod.ext bB fun i U e=>AK
 have lq:∀{W:A_},eM CL yW W->bn 6 (Flat o.Cell.enc) W (.slice anC (o.b1 m).length ae2) (o.b1 m):=fun k=>aS.hE (enc:=o.Cell.enc) (fun _=>rfl) (dY.iB k BN);rw[av] at gW;clear al av bl dY;refine aa ?_;refine L_ 5 (o.b1 m).length [1,2,3,4] (fun _:Unit=>[]) () (fun k _ W=>ps w1 bW (o.ft (o.b1 m) k) 0 W/\eM CL yW W) bc bc ⟨kr,eM.refl⟩ ?_;clear kr;rintro k _ S aD hk ⟨ak,oH⟩;have dY:=lq oH;obtain⟨arO,g1,g2⟩:=ak.ex;refine aa ?_;apply I_<;>intro g0
 .have a1:k<(o.b1 m).length:=AK
  obtain⟨a,rfl⟩:=dY.addr;clear g1 g2;obtain⟨x,ag⟩:∃x,x=(o.b1 m)[k]:=⟨_,rfl⟩;have ix:∀i,(o.ft (o.b1 m) k i).length<=100:=fun i=>by
   unfold o.ft;have q:=fun s=>o.W5 s ((o.b1 m).take k) 0;have cZ:=q 1;have dt:=q 2;have ef:=q 3
   (repeat' split)<;>simp only[List.length_map,List.length_take] at * <;> omega
  refine eb ?_;simp -dsimp only[cB];refine eb ?_;refine S_ [1,2,3,4,5] (fun _:Unit=>[]) (fun _ W=>ps w1 bW (dZ (o.ft (o.b1 m) k) 0 ((o.ft (o.b1 m) k) 0++if x.place=0/\x.sort=1 then [(k:Int)] else [])) 0 W/\eM CL yW W) ?_ ?_
  .have dY:=lq oH;obtain⟨vs,g1,g2⟩:=ak.ex;have nH:=g1;unfold mA at g1;dsimp only[cw] at g1;have same:¬(x.place=0/\x.sort=1)->ps w1 bW (dZ (o.ft (o.b1 m) k) 0 ((o.ft (o.b1 m) k) 0++if x.place=0/\x.sort=1 then [(k:Int)] else [])) 0 aD:=fun e=>ak.congr fun j aF=>by
    unfold dZ;by_cases a:j=0
    .subst a;simp[e]
    .simp[a]
   refine aa ?_;rw[<-ag];apply I_<;>intro g3
   .refine aa ?_;rw[<-ag];apply I_<;>intro g4
    .refine aa ?_;intro bt dR kT aI b9;have gz:=ak.mod.size;have z2:=aI.size;have hlen:((o.ft (o.b1 m) k) 0).length<=100:=ix 0;have o2:=g2.ext aI;have g15:=aI.obj nH;refine _p (y:=(k:Int)) 0 BN o2 (fun _=>rfl) (gT b9) l3 AK (by unfold maxLen;omega) AK fun b0 bz dn iJ=>?_;have gm:bz.heap[bW]? = some (.cells (mA vs 0) T.i):=(Mod.grown (A:=fun k=>(cw (vs 0)).ownBlock=some k) iJ fun k hk=>hk).obj (o2.not g15 BN 0 BN) g15;have wu:=gm;unfold mA at gm;refine aa ?_;intro bK dL ct;obtain⟨ko,u2⟩:=F4 BN ak.mod nH g2 aI iJ dn dL ct;refine aa ?_;refine⟨(),trivial,ko.congr fun j aF=>?_,oH.trans u2⟩;have e:(if x.place=0/\x.sort=1 then [(k:Int)] else [])=[(k:Int)]:=if_pos ⟨g3,g4⟩;rw[e]
    .refine aa ?_;exact⟨(),trivial,same fun e=>g4 e.2,oH⟩
   .refine aa ?_;exact⟨(),trivial,same fun e=>g3 e.1,oH⟩
  rintro _ S eO ⟨JP,J5⟩;refine eb ?_;refine S_ [1,2,3,4,5] (fun _:Unit=>[]) (fun _ W=>ps w1 bW (dZ (dZ (o.ft (o.b1 m) k) 0 ((o.ft (o.b1 m) k) 0++if x.place=0/\x.sort=1 then [(k:Int)] else [])) 1 ((dZ (o.ft (o.b1 m) k) 0 ((o.ft (o.b1 m) k) 0++if x.place=0/\x.sort=1 then [(k:Int)] else [])) 1++if x.place=0/\x.sort=2 then [(k:Int)] else [])) 0 W/\eM CL yW W) ?_ ?_
  .have dY:=lq J5;obtain⟨vs,g1,g2⟩:=JP.ex;have nH:=g1;unfold mA at g1;dsimp only[cw] at g1;have same:¬(x.place=0/\x.sort=2)->ps w1 bW (dZ (dZ (o.ft (o.b1 m) k) 0 ((o.ft (o.b1 m) k) 0++if x.place=0/\x.sort=1 then [(k:Int)] else [])) 1 ((dZ (o.ft (o.b1 m) k) 0 ((o.ft (o.b1 m) k) 0++if x.place=0/\x.sort=1 then [(k:Int)] else [])) 1++if x.place=0/\x.sort=2 then [(k:Int)] else [])) 0 eO:=fun e=>JP.congr fun j aF=>by
    unfold dZ;by_cases a:j=1
    .subst a;simp[e]
    .simp[a]
   refine aa ?_;rw[<-ag];apply I_<;>intro g3
   .refine aa ?_;rw[<-ag];apply I_<;>intro g4
    .refine aa ?_;intro bt dR kT aI b9;have gz:=JP.mod.size;have z2:=aI.size;have hlen:((dZ (o.ft (o.b1 m) k) 0 ((o.ft (o.b1 m) k) 0++if x.place=0/\x.sort=1 then [(k:Int)] else [])) 1).length<=100:=ix 1;have o2:=g2.ext aI;have g15:=aI.obj nH;refine _p (y:=(k:Int)) 1 BN o2 (fun _=>rfl) (gT b9) l3 AK (by unfold maxLen;omega) AK fun b0 bz dn iJ=>?_;have gm:bz.heap[bW]? = some (.cells (mA vs 0) T.i):=(Mod.grown (A:=fun k=>(cw (vs 1)).ownBlock=some k) iJ fun k hk=>hk).obj (o2.not g15 BN 1 BN) g15;have wu:=gm;unfold mA at gm;refine aa ?_;intro bK dL ct;obtain⟨ko,u2⟩:=F4 BN JP.mod nH g2 aI iJ dn dL ct;refine aa ?_;refine⟨(),trivial,ko.congr fun j aF=>?_,J5.trans u2⟩;have e:(if x.place=0/\x.sort=2 then [(k:Int)] else [])=[(k:Int)]:=if_pos ⟨g3,g4⟩;rw[e]
    .refine aa ?_;exact⟨(),trivial,same fun e=>g4 e.2,J5⟩
   .refine aa ?_;exact⟨(),trivial,same fun e=>g3 e.1,J5⟩
  rintro _ S gy ⟨JQ,J6⟩;refine eb ?_;refine S_ [1,2,3,4,5] (fun _:Unit=>[]) (fun _ W=>ps w1 bW (dZ (dZ (dZ (o.ft (o.b1 m) k) 0 ((o.ft (o.b1 m) k) 0++if x.place=0/\x.sort=1 then [(k:Int)] else [])) 1 ((dZ (o.ft (o.b1 m) k) 0 ((o.ft (o.b1 m) k) 0++if x.place=0/\x.sort=1 then [(k:Int)] else [])) 1++if x.place=0/\x.sort=2 then [(k:Int)] else [])) 2 ((dZ (dZ (o.ft (o.b1 m) k) 0 ((o.ft (o.b1 m) k) 0++if x.place=0/\x.sort=1 then [(k:Int)] else [])) 1 ((dZ (o.ft (o.b1 m) k) 0 ((o.ft (o.b1 m) k) 0++if x.place=0/\x.sort=1 then [(k:Int)] else [])) 1++if x.place=0/\x.sort=2 then [(k:Int)] else [])) 2++if x.place=0/\x.sort=3 then [(k:Int)] else [])) 0 W/\eM CL yW W) ?_ ?_
  .have dY:=lq J6;obtain⟨vs,g1,g2⟩:=JQ.ex;have nH:=g1;unfold mA at g1;dsimp only[cw] at g1;have same:¬(x.place=0/\x.sort=3)->ps w1 bW (dZ (dZ (dZ (o.ft (o.b1 m) k) 0 ((o.ft (o.b1 m) k) 0++if x.place=0/\x.sort=1 then [(k:Int)] else [])) 1 ((dZ (o.ft (o.b1 m) k) 0 ((o.ft (o.b1 m) k) 0++if x.place=0/\x.sort=1 then [(k:Int)] else [])) 1++if x.place=0/\x.sort=2 then [(k:Int)] else [])) 2 ((dZ (dZ (o.ft (o.b1 m) k) 0 ((o.ft (o.b1 m) k) 0++if x.place=0/\x.sort=1 then [(k:Int)] else [])) 1 ((dZ (o.ft (o.b1 m) k) 0 ((o.ft (o.b1 m) k) 0++if x.place=0/\x.sort=1 then [(k:Int)] else [])) 1++if x.place=0/\x.sort=2 then [(k:Int)] else [])) 2++if x.place=0/\x.sort=3 then [(k:Int)] else [])) 0 gy:=fun e=>JQ.congr fun j aF=>by
    unfold dZ;by_cases a:j=2
    .subst a;simp[e]
    .simp[a]
   refine aa ?_;rw[<-ag];apply I_<;>intro g3
   .refine aa ?_;rw[<-ag];apply I_<;>intro g4
    .refine aa ?_;intro bt dR kT aI b9;have gz:=JQ.mod.size;have z2:=aI.size;have hlen:((dZ (dZ (o.ft (o.b1 m) k) 0 ((o.ft (o.b1 m) k) 0++if x.place=0/\x.sort=1 then [(k:Int)] else [])) 1 ((dZ (o.ft (o.b1 m) k) 0 ((o.ft (o.b1 m) k) 0++if x.place=0/\x.sort=1 then [(k:Int)] else [])) 1++if x.place=0/\x.sort=2 then [(k:Int)] else [])) 2).length<=100:=ix 2;have o2:=g2.ext aI;have g15:=aI.obj nH;refine _p (y:=(k:Int)) 2 BN o2 (fun _=>rfl) (gT b9) l3 AK (by unfold maxLen;omega) AK fun b0 bz dn iJ=>?_;have gm:bz.heap[bW]? = some (.cells (mA vs 0) T.i):=(Mod.grown (A:=fun k=>(cw (vs 2)).ownBlock=some k) iJ fun k hk=>hk).obj (o2.not g15 BN 2 BN) g15;have wu:=gm;unfold mA at gm;refine aa ?_;intro bK dL ct;obtain⟨ko,u2⟩:=F4 BN JQ.mod nH g2 aI iJ dn dL ct;refine aa ?_;refine⟨(),trivial,ko.congr fun j aF=>?_,J6.trans u2⟩;have e:(if x.place=0/\x.sort=3 then [(k:Int)] else [])=[(k:Int)]:=if_pos ⟨g3,g4⟩;rw[e]
    .refine aa ?_;exact⟨(),trivial,same fun e=>g4 e.2,J6⟩
   .refine aa ?_;exact⟨(),trivial,same fun e=>g3 e.1,J6⟩
  rintro _ S ji ⟨PS,aai⟩;have dY:=lq aai;obtain⟨vs,g1,g2⟩:=PS.ex;have nH:=g1;unfold mA at g1;dsimp only[cw] at g1;refine aa ?_;intro bt aI;replace dY:=dY.ext Flat.ext aI;replace g1:=aI.obj g1;refine aa ?_;intro bz ez gm aM cb;refine⟨aM,?_⟩;have wB:=aI.trans aM;have gz:=PS.mod.size;have z2:=wB.size;have hlen:(o.ft (o.b1 m) k 3).length<=100:=ix 3;have o2:=g2.ext wB;have g15:=wB.obj nH;refine _p (y:=(o.b1 m)[k].aR) 3 BN o2 (fun _=>rfl) (gT cb) l3 (by rw[show(dZ _ 2 _ 3:C_ Int)=o.ft (o.b1 m) k 3 from rfl];omega) (by rw[show(dZ _ 2 _ 3:C_ Int)=o.ft (o.b1 m) k 3 from rfl];unfold maxLen;omega) AK fun b0 bK ec kU=>?_;have ir:bK.heap[bW]? = some (.cells (mA vs 0) T.i):=(Mod.grown (A:=fun k=>(cw (vs 3)).ownBlock=some k) kU fun k hk=>hk).obj (o2.not g15 BN 3 BN) g15;have Ox:=ir;unfold mA at ir;refine aa ?_;intro avp jc cG;obtain⟨PJ,ama⟩:=F4 BN PS.mod nH g2 wB kU ec jc cG;clear g1 g2 nH o2 g15 ec ir Ox cG cb dY;have aag:=aai.trans ama;have dY:=lq aag;obtain⟨vs,g1,g2⟩:=PJ.ex;have nH:=g1;unfold mA at g1;dsimp only[cw] at g1;refine aa ?_;intro bt aI;replace dY:=dY.ext Flat.ext aI;replace g1:=aI.obj g1;refine aa ?_;intro bz ez gm aM cb;refine⟨aM,?_⟩;have wB:=aI.trans aM;have gz:=PJ.mod.size;have z2:=wB.size;have hlen:(o.ft (o.b1 m) k 4).length<=100:=ix 4;have o2:=g2.ext wB;have g15:=wB.obj nH;refine _p (y:=(o.b1 m)[k].U) 4 BN o2 (fun _=>rfl) (gT cb) l3 (by rw[show(dZ _ 3 _ 4:C_ Int)=o.ft (o.b1 m) k 4 from rfl];omega) (by rw[show(dZ _ 3 _ 4:C_ Int)=o.ft (o.b1 m) k 4 from rfl];unfold maxLen;omega) AK fun b0 bK ec kU=>?_;have ir:bK.heap[bW]? = some (.cells (mA vs 0) T.i):=(Mod.grown (A:=fun k=>(cw (vs 4)).ownBlock=some k) kU fun k hk=>hk).obj (o2.not g15 BN 4 BN) g15;have Ox:=ir;unfold mA at ir;refine aa ?_;intro avq jc cG;obtain⟨ak8,amb⟩:=F4 BN PJ.mod nH g2 wB kU ec jc cG;clear g1 g2 nH o2 g15 ec ir Ox cG cb dY;have amc:=aag.trans amb;refine aa ?_;refine⟨a1,aL,(),trivial,ak8.congr fun j aF=>?_,amc⟩;subst ag;have a:j=0\/j=1\/j=2\/j=3\/j=4:=AK
  rcases a with rfl | rfl | rfl | rfl | rfl
  .exact(o.NV (s:=1) a1).symm
  .exact(o.NV (s:=2) a1).symm
  .exact(o.NV (s:=3) a1).symm
  .show(_:C_ Int)=((o.b1 m).take (k+1)).map (·.aR);rw[Ly a1,AF4];rfl
  .show(_:C_ Int)=((o.b1 m).take (k+1)).map (·.U);rw[Ly a1,AF4];rfl
 have oD:k=(o.b1 m).length:=AK
 subst oD;have da:=dW ak;have av:=gW ak;clear g1 g2;obtain⟨vs,g1,g2⟩:=ak.ex;have nH:=g1;unfold mA at g1;dsimp only[cw] at g1;refine aa ?_;intro aN gg bl;have g23:=g2.mod (gg.mod (A:=fun k=>k=bW) rfl) fun i k U hk e=>by subst e;exact g2.not nH BN i U hk
 replace av:=gg.obj av AK;replace bl:aN.heap[bW]? = some (.cells #[cw (vs 0),cw (vs 1),cw (vs 2),.I (o.b1 m).length,cw (vs 3),cw (vs 4)] T.i):=bl;dsimp only[cw] at bl;refine aa ?_;intro aU dE bp;have g24:=g23.mod (dE.mod (A:=fun k=>k=bS) rfl) fun i k U hk e=>by subst e;exact g23.not av BN i U hk
 have bI:w.heap.size<=w1.heap.size:=AK
 have tQ:=fun(i:Nat) (U:i<5)=>aS.new (e:=T.a) (enc:=cL) (fun _=>rfl) (aS.low bI (g24.own i U));obtain⟨f1,f2,f3⟩:=o.ahu aW;have en:o.ft (o.b1 m) (o.b1 m).length 0=(o.layout m).vars:=by show o.jo 1 ((o.b1 m).take _) 0=_;rw[AF3,f1];rfl
 have dU:o.ft (o.b1 m) (o.b1 m).length 1=(o.layout m).aw:=by show o.jo 2 ((o.b1 m).take _) 0=_;rw[AF3,f2];rfl
 have du:o.ft (o.b1 m) (o.b1 m).length 2=(o.layout m).insts:=by show o.jo 3 ((o.b1 m).take _) 0=_;rw[AF3,f3];rfl
 have eW:o.ft (o.b1 m) (o.b1 m).length 3=(o.layout m).aR:=by show((o.b1 m).take _).map _=_;rw[AF3];rfl
 have fQ:o.ft (o.b1 m) (o.b1 m).length 4=(o.layout m).U:=by show((o.b1 m).take _).map _=_;rw[AF3];rfl
 refine aa ?_;refine⟨⟨[_,_,_,_,_,_],rfl,fun e5 tM=>⟨⟨_,_,_,_,_,rfl,?_,?_,?_,?_,?_⟩⟩⟩,dE.ext (gg.ext da AK) AK⟩
 .rw[<-en];exact tQ 0 BN e5 tM
 .rw[<-dU];exact tQ 1 BN e5 tM
 .rw[<-du];exact tQ 2 BN e5 tM
 .rw[<-eW];exact tQ 3 BN e5 tM
 .rw[<-fQ];exact tQ 4 BN e5 tM
end Go.Proofs.R
end
section
namespace o
open Go
def hn(m:Model)(i:Nat):Nat:=total ((c0 m).take i)
def cm(m:Model)(i:Nat):Nat:=total (c0 m)+total ((dK m).take i)
def dG(m:Model)(i:Nat):Nat:=total (c0 m)+total (dK m)+total ((fE m).take i)
theorem LK(n:Nat):∀(ls:C_ (C_ ed)) (i:Nat) (h:i<(ib n ls).length),(ib n ls)[i]=((n+total (ls.take i):Nat):Int)
 | [],i,h=>by simp[ib] at h
 | l :: r,0,h=>by simp[ib,total]
 | l :: r,i+1,h=>by
  simp only[ib,List.getElem_cons_succ,List.take_succ_cons,GM];rw[LK (n+l.length) r i (by simpa[ib] using h)];congr 1;omega
def dN(m:Model):Nat:=(b1 m).length
theorem mZ(m:Model):dN m=total (c0 m)+total (dK m)+total (fE m):=FH m
theorem xr{m:Model}{i:Nat}(h:i<m.vars.length):∃bo:i<(layout m).vars.length,(layout m).vars[i]=(hn m i:Int):=by
 have bo:i<(ib 0 (c0 m)).length:=by rw[ud];simpa[c0] using h
 exact⟨bo,by have:=LK 0 (c0 m) i bo;rw[AE8] at this;exact this⟩
theorem s8{m:Model}{i:Nat}(h:i<m.aw.length):∃bo:i<(layout m).aw.length,(layout m).aw[i]=(cm m i:Int):=by
 have bo:i<(ib (total (c0 m)) (dK m)).length:=by rw[ud];simpa[dK] using h
 exact⟨bo,LK _ _ i bo⟩
theorem rB{m:Model}{i:Nat}(h:i<(insts m).length):∃bo:i<(layout m).insts.length,(layout m).insts[i]=(dG m i:Int):=by
 have bo:i<(ib (total (c0 m)+total (dK m)) (fE m)).length:=by rw[ud];simpa[fE] using h
 exact⟨bo,LK _ _ i bo⟩
theorem rQ{m:Model}{i:Nat}(h:i<m.vars.length):hn m i+(cells m.vars[i] m.scalars).toNat<=total (c0 m):=by
 have bo:i<(c0 m).length:=by simpa[c0] using h
 have:=RY bo
 have e:(c0 m)[i].length=(cells m.vars[i] m.scalars).toNat:=by simp[c0,C0]
 rw[e] at this;exact this
theorem vR{m:Model}{i:Nat}(h:i<m.aw.length):cm m i+(1+m.aw[i].cap.toNat)<=total (c0 m)+total (dK m):=by
 have bo:i<(dK m).length:=by simpa[dK] using h
 have:=RY bo
 have e:(dK m)[i].length=1+m.aw[i].cap.toNat:=by simp[dK,vT]
 rw[e] at this;unfold cm;omega
theorem Qi{m:Model}{i:Nat}(h:i<(insts m).length):dG m i+(me m (insts m)[i]).length<=dN m:=by
 have bo:i<(fE m).length:=by simpa[fE] using h
 have:=RY bo
 have e:(fE m)[i].length=(me m (insts m)[i]).length:=by simp[fE]
 rw[e] at this;rw[mZ];unfold dG;omega
def lZ(s:C_ Scalar)(c:dB)(l:C_ Int):Prop :=
 ∃n,l[0]? = some n/\0<=n/\n<=c.cap/\∀k:Nat,(k:Int)<c.cap->∃x,l[k+1]? = some x/\((k:Int)<n->(eY c.scalar c.aR c.U s).aR<=x/\x<=(eY c.scalar c.aR c.U s).U)/\(n<=k->x=0)
def nC(m:Model)(i:Nat)(c:dB)(s:C_ Int):C_ Int:=(s.drop (cm m i)).take (1+c.cap.toNat)
structure Fits(m:Model)(s:List Int):Prop where
 len:s.length=dN m
 queue:∀i (h:i<m.aw.length),lZ m.scalars m.aw[i] (nC m i m.aw[i] s)
 cell:∀i (h:i<s.length) (bo:i<(b1 m).length),(b1 m)[i].aR<=s[i]/\s[i]<=(b1 m)[i].U
def gL(m:Model)(s:C_ Int):Prop:=(check m).cN=0/\Fits m s
def vJ(m:Model)(s:C_ Int)(p:Int)(l:Int)(k:Nat):Nat:=((List.range k).filter fun i=>decide (((insts m)[i]?.map (·.proc))=some p/\s[dG m i]? = some l)).length
def kz(m:Model)(s:C_ Int)(p:Nat)(n:Int)(k:Nat):C_ Int:=(List.range n.toNat).map fun(l:Nat)=>((vJ m s (p:Int) (l:Int) k:Nat):Int)
def LC(m:Model)(s:C_ Int)(inst:Int):C_ Int×Int :=
 match nth (insts m) inst with
 | some x=>((s.drop (dG m inst.toNat+1)).take ((me m x).length - 1),x.elem)
 | none=>([],0)
def cR(m:Model)(s:C_ Int)(inst:Int):Env :=
 ⟨(List.range m.vars.length).map fun i=>(s.drop (hn m i)).take (c0 m)[i]!.length,
  (List.range m.aw.length).map fun i=>s[cm m i]!,
  (LC m s inst).1,
  (List.range m.procs.length).map fun i=>kz m s i (m.procs[i]?.map (·.cp) |>.getD 0) (insts m).length,
  (LC m s inst).2⟩
def val:C_ Nat->Nat
 | []=>0
 | d :: r=>d+256*val r
def H4(n:Nat):C_ Nat:=if h:n=0 then [] else n % 256 :: H4 (n / 256)
termination_by n
decreasing_by omega
def aaT:C_ Cell->C_ Int->Nat->Nat
 | x :: r,v :: s,n=>aaT r s (n*(x.U - x.aR+1).toNat+(v - x.aR).toNat)
 | _,_,n=>n
def num(m:Model)(s:C_ Int):Nat:=aaT (b1 m) s 0
def fP(m:Model):Nat:=num m ((b1 m).map (·.U))
def aeO(m:Model):Nat:=(H4 (fP m)).length
def fixed(k n:Nat):C_ Nat:=H4 n++List.replicate (k - (H4 n).length) 0
def bytes(m:Model)(s:C_ Int):C_ Nat:=(fixed (aeO m) (num m s)).reverse
end o
end
section
namespace Go.Proofs.R
open Go Go.RowKit ba
abbrev dw(w:A_)(v:B_)(l:C_ Int):Prop:=bn 1 (Flat cL) w v l
structure xL(w:World)(b:Nat)(m:o.Model):Prop where
 ex:∃xs cs bL,w.heap[b]? = some (.cells (xs++cs++[bL]).toArray T.uv)/\o.kK w xs (o.layout m)/\o.eh w cs m/\ku w bL (o.insts m)
theorem xL.ext{w w':A_}{b:Nat}{m:o.Model}(he:Ext w w')(h:xL w b m):xL w' b m :=
 let ⟨xs,cs,bL,af,h1,I,ab⟩:=h.ex; ⟨xs,cs,bL,he.obj af,h1.ext he,I.ext he,ab.ext Flat.ext he⟩
theorem apm(cs:C_ B_)(m:o.Model)(w:A_)(h:o.eh w cs m)(aK:m.cK)(aO:gK w) :
  DD F.bu #[.agg cs.toArray] w fun v w'=>((v = .pointer none/\¬(o.check m).cN=0)\/(∃b,v = .pointer (some ⟨b,0,none⟩)/\(o.check m).cN=0/\xL w' b m))/\Ext w w':=by
 have aW:=h;obtain⟨b6,bx,bR,c1,bX,c2,bZ,bu,ca,bC,rfl,_⟩:=h.form;refine br E.bu ?_;refine aa ?_;intro w1 bw cM ai al;refine aa ?_;refine J_ (yC _ m w1 (aW.ext ai) aK (aO.ext ai)) ?_;rintro _ aD ⟨rfl,aj⟩;replace al:=aj.obj al;have aJ:=ai.trans aj;refine aa ?_;refine _K (v:=.I (o.check m).cN) rfl ?_;refine aa ?_;refine I_ (fun hk=>?_) (fun hk=>?_);rotate_left
 .refine aa ?_;exact⟨.inl ⟨aL,hk⟩,aJ⟩
 refine aa ?_;intro aN ah;replace al:=ah.obj al;have a7:=aJ.trans ah;refine aa ?_;refine J_ (FI _ m aN (aW.ext a7) aK (aO.ext a7)) ?_;rintro _ aU ⟨⟨xs,rfl,cY⟩,ax⟩;replace cY:=cY.here;rw[o.FJ hk] at cY;obtain⟨mj,d0,ka,d1,k3,d2,pq,d3,oQ,d4,rfl,_⟩:=cY.form;have bD:=a7.trans ax;refine⟨ax,?_⟩;refine aa ?_;refine J_ (wU _ m aU (aW.ext bD) aK) ?_;rintro bL bt ⟨eV,aI⟩;obtain⟨cn,ci,rfl,_⟩:=eV.form;have bJ:=bD.trans aI;refine⟨ax.trans aI,?_⟩;refine aa ?_;intro bz ez gm aM cb;refine aa ?_;exact⟨.inr ⟨ez,rfl,hk,⟨_,_,_,cb,cY.ext (aI.trans aM),aW.ext (bJ.trans aM),aS.hE (enc:=o.cX.enc) (fun _=>rfl) (eV.ext aM)⟩⟩,bJ.trans aM⟩
end Go.Proofs.R
end
section
namespace o
theorem Kb(m:Model):(layout m).aR.length=(b1 m).length:=by simp[layout,As]
theorem J9(m:Model):(layout m).U.length=(b1 m).length:=by simp[layout,As]
theorem Ka{m:Model}{c:Nat}(h:c<(layout m).aR.length)(bo:c<(b1 m).length):(layout m).aR[c]=(b1 m)[c].aR:=by simp[layout,As]
theorem J8{m:Model}{c:Nat}(h:c<(layout m).U.length)(bo:c<(b1 m).length):(layout m).U[c]=(b1 m)[c].U:=by simp[layout,As]
theorem tI(m:Model):(layout m).vars.length=m.vars.length/\(layout m).aw.length=m.aw.length/\(layout m).insts.length=(insts m).length:=by
 refine⟨?_,?_,?_⟩<;>simp[layout,As,ud,c0,dK,fE]
end o
end
section
namespace ba
open Go Go.RowKit
structure Hp(es:Array MapEntry)(c:Nat)(L:List Int):Prop where
 Aq:∃l:List (Int×Value),iQ (Value.int .i64) es.toList l/\(l.map (·.1)).Nodup/\(∀x,x∈l.map (·.1)↔x∈L)/\l.length<=L.length/\∀p∈l,∃z,p.2 = .int .i64 z
 born:∀e∈es.toList,e.born<c
 nodup:(es.toList.map (·.born)).Nodup
structure fu(w:World)(b:Nat)(L:List Int):Prop where
 ok:∀x∈L,-9223372036854775808<=x/\x<=9223372036854775807
 ex:∃es c,w.heap[b]? = some (.map es c)/\Hp es c L
theorem fu.of{w w':A_}{b:Nat}{L:C_ Int}(h:fu w b L)(e:w'.heap[b]? = w.heap[b]?):fu w' b L:=let ⟨es,c,h1,I⟩:=h.ex; ⟨h.ok,es,c,e.trans h1,I⟩
theorem fu.lt{w:A_}{b:Nat}{L:C_ Int}(h:fu w b L):b<w.heap.size:=let ⟨_,_,h1,_⟩:=h.ex;cA h1
theorem fu.ext{w w':A_}{b:Nat}{L:C_ Int}(h:fu w b L)(e:Ext w w'):fu w' b L:=h.of (e.heap h.lt)
theorem fu.mod{A:Nat->Prop}{w w':A_}{b:Nat}{L:C_ Int}(h:fu w b L)(e:Mod A w w')(hk:¬A b):fu w' b L:=h.of (e.block b h.lt hk)
theorem Hp.empty:Hp #[] 0 []:=⟨⟨[],rfl,Bs,fun _=>Iff.rfl,GA _,fun p h=>by simp at h⟩,fun e he=>by simp at he,Bs⟩
theorem fu.empty{w:A_}{b:Nat}(h:w.heap[b]? = some (.map #[] 0)):fu w b []:=⟨fun _ h=>by simp at h,_,_,h,Hp.empty⟩
theorem iQ.len{oT:Type}{enc:oT->B_}{es:C_ MapEntry}{l:C_ (oT×B_)}(h:iQ enc es l):es.length=l.length:=by
 have:=congrArg List.length h
 simpa using this
theorem iQ.at{oT:Type}{enc:oT->B_}{es:C_ MapEntry}{l:C_ (oT×B_)}(h:iQ enc es l)(i:Nat):es[i]?.map (fun e=>(e.key,e.val))=l[i]?.map (fun p=>(enc p.1,p.2)):=by
 have:=congrArg (fun q=>q[i]?) h
 simpa using this
theorem fu.look{w:A_}{b:Nat}{L:C_ Int}(h:fu w b L)(x:Int):∃es r z,rX w (.map (some b)) es/\Instr.findNow (.int .i64) (.I x) es.toList 0=some r/\nn (.I 0) false r = .I z:=by
 obtain⟨es,c,h1,hm⟩:=h.ex;obtain⟨l,I,ab,aH,a8,bE⟩:=hm.Aq;obtain⟨r,nk,kn⟩:=zD (Lt .i64 .i64) x es.toList _ 0 I;cases r with
 | none=>exact⟨es,none,0,.inr ⟨b,c,rfl,h1⟩,nk,rfl⟩
 | some q =>
  cases ay:l.find? (fun p=>decide (x=p.1)) with
  | none=>rw[ay] at kn;cases kn
  | some p =>
   rw[ay] at kn;obtain⟨z,bI⟩:=bE p (List.mem_of_find?_eq_some ay);simp only[Option.map_some,Option.some.injEq] at kn;exact⟨es,some q,z,.inr ⟨b,c,rfl,h1⟩,nk,by simp[nn,kn,bI]⟩
theorem amf{x z:Int}{l:C_ (Int×B_)}{es:C_ MapEntry}{j:Nat}(h:iQ (Value.int .i64) es l)(hk:∀p,l[j]? = some p->p.1=x):iQ (Value.int .i64) (es.modify j fun e=>{ e with key:=.I x,val:=.I z }) (l.modify j fun p=>(p.1,.I z)):=by
 unfold iQ;apply List.ext_getElem?;intro i;have U:=h.at i;simp only[List.getElem?_map,List.getElem?_modify] at *;by_cases e:j=i
 .subst e;simp only[if_true] at *;cases he:es[j]? with
  | none=>rw[he] at U;cases au:l[j]? with
   | none=>simp
   | some p=>rw[au] at U;cases U
  | some q =>
   rw[he] at U;cases au:l[j]? with
   | none=>rw[au] at U;cases U
   | some p=>simp[hk p au]
 .simp only[if_neg e];cases he:es[i]? with
  | none=>rw[he] at U;cases au:l[i]? with
   | none=>simp
   | some p=>rw[au] at U;cases U
  | some q =>
   rw[he] at U;cases au:l[i]? with
   | none=>rw[au] at U;cases U
   | some p=>rw[au] at U;simpa using U
theorem Xg{z:B_}(l:C_ (Int×B_))(j:Nat):(l.modify j fun p=>(p.1,z)).map (·.1)=l.map (·.1):=by
 apply List.ext_getElem?;intro i;simp only[List.getElem?_map,List.getElem?_modify];by_cases e:j=i
 .subst e;cases l[j]? <;> simp
 .simp[e]
theorem VG{k v:B_}(es:C_ MapEntry)(j:Nat):(es.modify j fun e=>{ e with key:=k,val:=v }).map (·.born)=es.map (·.born):=by
 apply List.ext_getElem?;intro i;simp only[List.getElem?_map,List.getElem?_modify];by_cases e:j=i
 .subst e;cases es[j]? <;> simp
 .simp[e]
theorem fu.put{w:A_}{b:Nat}{L:C_ Int}(h:fu w b L)(x z:Int)(ag : -9223372036854775808<=x/\x<=9223372036854775807):∃es c q,w.heap[b]? = some (.map es c)/\Instr.findNow (.int .i64) (.I x) es.toList 0=some q /\
  ∀w':A_,w'.heap[b]? = some (su es c (.I x) (.I z) q)->fu w' b (L++[x]):=by
 obtain⟨es,c,h1,hm⟩:=h.ex;obtain⟨l,I,ab,aH,a8,bE⟩:=hm.Aq;obtain⟨r,nk,kn⟩:=zD (Lt .i64 .i64) x es.toList _ 0 I;have dh:∀y∈L++[x],-9223372036854775808<=y/\y<=9223372036854775807:=fun y bV=>by
  rcases List.mem_append.1 bV with bV | bV
  .exact h.ok y bV
  .simp only[List.mem_singleton] at bV;subst bV;exact ag
 refine⟨es,c,r,h1,nk,fun w' hw=>?_⟩;cases r with
 | none =>
  have az:∀p∈l,p.1≠x:=by
   cases ay:l.find? (fun p=>decide (x=p.1)) with
   | none =>
    intro p au e
    have:=List.find?_eq_none.1 ay p au
    simp[e] at this
   | some p=>rw[ay] at kn;cases kn
  refine⟨dh,_,_,hw,⟨⟨l++[(x,.I z)],iQ.push I x (.I z) c,?_,fun y=>?_,?_,fun p au=>?_⟩,?_,?_⟩⟩
  .rw[AF4,AG1,AJ6,AK1];refine⟨ab,Bs,fun a aV b ao=>?_⟩;obtain⟨p,au,rfl⟩:=List.mem_map.1 aV;simp only[List.mem_singleton] at ao;rw[ao];exact az p au
  .rw[AF4,AH7,AH7,aH y];simp
  .rw[Ln,Ln];simp;exact a8
  .rcases List.mem_append.1 au with au | au
   .exact bE p au
   .simp only[List.mem_singleton] at au;subst au;exact⟨z,rfl⟩
  .intro e he;simp only[Array.toList_push,List.mem_append,List.mem_singleton] at he;rcases he with he | rfl
   .have:=hm.born e he;omega
   .show c<c+1;omega
  .simp only[Array.toList_push,List.map_append,List.map_cons,List.map_nil];rw[AK1];refine⟨hm.nodup,Bs,fun a aV gS BY=>?_⟩;obtain⟨e,he,rfl⟩:=List.mem_map.1 aV;simp only[List.mem_singleton] at BY
   have:=hm.born e he
   omega
 | some Qq =>
  obtain⟨j,v⟩:=Qq;obtain⟨_,e,he,ak⟩:=NT nk;rw[Nat.sub_zero] at he;have YO:∀p,l[j]? = some p->p.1=x:=fun p au=>by
   have:=I.at j
   rw[he,au] at this;simp only[Option.map_some,Option.some.injEq,Prod.mk.injEq] at this;rw[this.1,Lt] at ak;have ak:=Option.some.inj ak;simp only[decide_eq_true_eq] at ak;exact ak.symm
  have wS:x∈L:=by
   have aF:=I.at j;rw[he] at aF;cases au:l[j]? with
   | none=>rw[au] at aF;cases aF
   | some p =>
    rw[<-aH x,<-YO p au];exact List.mem_map.2 ⟨p,List.mem_of_getElem? au,rfl⟩
  have nR:w'.heap[b]? = some (.map (es.modify j fun e=>{ e with key:=.I x,val:=.I z }) c):=hw;refine⟨dh,_,_,nR,⟨⟨l.modify j fun p=>(p.1,.I z),?_,by rw[Xg];exact ab,fun y=>?_,?_,fun p au=>?_⟩,?_,?_⟩⟩
  .rw[AK5];exact amf I YO
  .rw[Xg,aH y,AH7,AG0];exact⟨.inl,fun q=>q.elim id fun q=>q ▸ wS⟩
  .rw[List.length_modify,Ln];omega
  .obtain⟨i,U,rfl⟩:=List.mem_iff_getElem.1 au;rw[List.getElem_modify];split
   .exact⟨z,rfl⟩
   .exact bE _ (GR _)
  .rw[AK5];intro e' iY
   have:e'.born∈es.toList.map (·.born):=by rw[<-VG (k:=.I x) (v:=.I z) es.toList j];exact List.mem_map.2 ⟨e',iY,rfl⟩
   obtain⟨ei,af,hr⟩:=List.mem_map.1 this
   have:=hm.born ei af
   omega
  .rw[AK5,VG];exact hm.nodup
section
variable{P:Program}{KW:World->Prop}{aE:Value->Prop}{w:World}
theorem AD0{b:Nat}{L:C_ Int}{x:Int}{t}(h:fu w b L)(hk:∀z,aE (.I z)):Ba (.int .i64) (.I 0) false (.map (some b)) (.I x) w aE t:=by
 obtain⟨es,r,z,h1,I,ab⟩:=h.look x;exact _m h1 I (by rw[ab];exact hk z)
theorem AD1{b:Nat}{L:C_ Int}{x z:Int}{t}(h:fu w b L)(ag : -9223372036854775808<=x/\x<=9223372036854775807)(hk:∀w1,dy b w w1->fu w1 b (L++[x])->KW w1):y3 (.int .i64) (.map (some b)) (.I x) (.I z) w KW t:=by
 obtain⟨es,c,q,h1,I,ab⟩:=h.put x z ag;exact _t h1 I (hk _ (dy.fF w b _) (ab _ (CR (cA h1))))
end
theorem wf_i64{x:Int}(h : -9223372036854775808<=x/\x<=9223372036854775807):(Lit.int .i64 x).wf=true:=by
 have h1:IntKind.i64.min = -9223372036854775808:=BN
 have I:IntKind.i64.max=9223372036854775807:=BN
 simp only[Lit.wf,h1,I,Bool.and_eq_true,decide_eq_true_eq];exact h
theorem fu.own{P:D_}{k:F_}{w:A_}{b:Nat}{L:C_ Int}(hk:P.underlying k=some (.int .i64))(h:fu w b L)(cY:L.length<=maxLen) :
  ∃uf:DataW Unit,w.ownsMap P k (fun _=>some (.lit (.bool true),[])) b L.length uf/\Maps.size uf<=L.length/\∀b7:C_ Int,b7.Perm (intKeys uf)->b7.Nodup/\∀x,x∈b7↔x∈L:=by
 obtain⟨es,c,h1,hm⟩:=h.ex;obtain⟨l,I,ab,aH,a8,bE⟩:=hm.Aq;have hlen:es.toList.length=l.length:=I.len;have rz:∀e∈es.toList,∃x,e.key = .I x/\WideElems.rd P k (fun _=>some ((.lit (.bool true):DataW Unit),[])) e=some (.int .i64 x,.lit (.bool true)):=fun e he=>by
  obtain⟨i,U,rfl⟩:=List.mem_iff_getElem.1 he;have kB:=I.at i;rw[List.getElem?_eq_getElem U,List.getElem?_eq_getElem AK] at kB;simp only[Option.map_some,Option.some.injEq,Prod.mk.injEq] at kB;refine⟨_,kB.1,?_⟩;have hw:=wf_i64 (h.ok l[i].1 ((aH _).1 (List.mem_map.2 ⟨l[i],GR _,rfl⟩)));unfold WideElems.rd;rw[kB.1,Maps.keyOf_int_mk hk hw];rfl
 have BT:WideElems.Fit P k (fun _=>some ((.lit (.bool true):DataW Unit),[])) es c:=⟨by simp at hlen;omega,⟨hm.born,hm.nodup,by
  have:es.toList.map (·.key)=(l.map (·.1)).map (Value.int .i64):=by
   apply List.ext_getElem?;intro i;rw[List.getElem?_map,List.getElem?_map,List.getElem?_map]
   have:=I.at i
   cases he:es.toList[i]? with
   | none=>rw[he] at this;cases au:l[i]? with
    | none=>rfl
    | some p=>rw[au] at this;cases this
   | some q =>
    rw[he] at this;cases au:l[i]? with
    | none=>rw[au] at this;cases this
    | some p =>
     rw[au] at this;simp only[Option.map_some,Option.some.injEq,Prod.mk.injEq] at this;simp only[Option.map_some,this.1]
  rw[this];exact List.pairwise_map.2 (ab.imp fun {a b} cz e=>cz (by injection e))⟩,fun x ag=>let ⟨y,_,bV⟩:=rz x ag; ⟨_,bV⟩⟩
 refine⟨_,World.ownsMap.mono (World.ownsMap_of_fit h1 BT (fun _ _ _ q=>q)) (by simp at hlen;omega),?_,fun b7 au=>?_⟩
 .rw[Maps.size_eq,length_sorted];simp at hlen ⊢;omega
 .have aj5:(intKeys (.map ((es.toList.map (WideElems.rg P k (fun _=>some ((.lit (.bool true):DataW Unit),[])))).foldr DataW.insert []))).Perm (l.map (·.1)):=by
   refine((WideShapes.sorted_perm _).map _).trans ?_;rw[List.map_map]
   have:es.toList.map ((fun p:Lit×DataW Unit=>intOf p.1)∘WideElems.rg P k (fun _=>some ((.lit (.bool true):DataW Unit),[])))=l.map (·.1):=by
    apply List.ext_getElem?;intro i;rw[List.getElem?_map,List.getElem?_map];cases he:es.toList[i]? with
    | none =>
     have:=I.at i
     rw[he] at this;cases au:l[i]? with
     | none=>rfl
     | some p=>rw[au] at this;cases this
    | some e =>
     obtain⟨x,ag,bV⟩:=rz e (List.mem_of_getElem? he)
     have:=I.at i
     rw[he] at this;cases au:l[i]? with
     | none=>rw[au] at this;cases this
     | some p =>
      rw[au] at this;simp only[Option.map_some,Option.some.injEq,Prod.mk.injEq] at this;rw[ag] at this;have bB:x=p.1:=by have:=this.1;injection this
      simp only[Option.map_some,Function.comp,WideElems.rg_of bV,bB];rfl
   rw[this]
  have wK:=au.trans aj5;exact⟨wK.nodup_iff.2 ab,fun x=>by rw[wK.mem_iff];exact aH x⟩
theorem aqK{b7:C_ Int}(h:b7.Nodup):(b7.mergeSort fun x y=>decide (x<=y)).Pairwise (· < ·):=by
 have ark:∀a b c:Int,decide (a<=b)=true->decide (b<=c)=true->decide (a<=c)=true:=fun a b c h1 I=>by simp only[decide_eq_true_eq] at *;omega
 have to:∀a b:Int,(decide (a<=b)||decide (b<=a))=true:=fun a b=>by simp only[Bool.or_eq_true,decide_eq_true_eq];omega
 have h1:=List.pairwise_mergeSort ark to b7;have I:(b7.mergeSort fun x y=>decide (x<=y)).Nodup:=(List.mergeSort_perm b7 _).nodup_iff.2 h;refine(h1.and I).imp fun {a b} q=>?_;simp only[decide_eq_true_eq] at q;omega
end ba
end
section
namespace o
open Go
theorem abh{p:dJ}{s:Scope}(h:(h9 p s).2.2=0):whole p s=0/\(lS p s).2=0/\(l1 (inner p s) p.cp p.cQ p.cQ 0).2.2=0:=by
 unfold h9 at h;by_cases h1:whole p s≠0
 .rw[if_pos h1] at h;exact absurd h h1
 rw[if_neg h1] at h;by_cases I:(lS p s).2≠0
 .rw[if_pos I] at h;exact absurd h I
 rw[if_neg I] at h;exact⟨by simpa using h1,by simpa using I,h⟩
theorem Nj{own:Scope}{cp:Int}{all:C_ ea}:∀(l:C_ ea) (i:Nat),(l1 own cp all l i).2.2=0->∀k (h:k<l.length),(jU l[k] cp own).2=0/\(all.take (i+k)).any (fun x=>decide (x.name=l[k].name))=false
 | [],_,_,k,h=>by simp at h
 | c :: r,i,dW,k,h=>by
  simp only[l1] at dW;by_cases h1:(jU c cp own).2≠0
  .rw[if_pos h1] at dW;exact absurd dW h1
  rw[if_neg h1] at dW;by_cases I:(all.take i).any (fun x=>decide (x.name=c.name))=true
  .rw[if_pos I] at dW;cases dW
  rw[if_neg I] at dW;cases k with
  | zero=>exact⟨by simpa using h1,by simpa using I⟩
  | succ k =>
   have:=Nj r (i+1) dW k (by simpa using h)
   simpa[Nat.add_assoc,Nat.add_comm 1 k] using this
theorem xb{α:Type}{l:C_ α}{n:Int}{x:α}(h:nth l n=some x):0<=n/\l[n.toNat]? = some x/\n.toNat<l.length:=by
 unfold nth at h;by_cases af:0<=n
 .rw[if_pos af] at h;exact⟨af,h,(List.getElem?_eq_some_iff.1 h).1⟩
 .rw[if_neg af] at h;cases h
theorem aac{n:Int}{s:Scope}(h:(hC n s).2=true):0<=n/\n<=s.scalars.length/\(hC n s).1=if n=0 then 0 else 1+n:=by
 unfold hC at h ⊢;by_cases h1:n=0
 .subst h1;simp
 .rw[if_neg h1] at h ⊢;by_cases I:n<0\/(s.scalars.length:Int)<n
  .rw[if_pos I] at h;cases h
  .rw[if_neg I,if_neg h1];exact⟨AK,AK,rfl⟩
theorem aak{l:C_ Var}{n:Int}{s:Scope}(h:(gn l n s).2.2=true):∃v,nth l n=some v/\l[n.toNat]? = some v/\0<=n/\gn l n s=((hC v.scalar s).1,(hC v.over s).1,true)/\(hC v.scalar s).2=true/\(hC v.over s).2=true:=by
 unfold gn at h ⊢;cases az:nth l n with
 | none=>rw[az] at h;cases h
 | some v =>
  rw[az] at h;simp only[Bool.and_eq_true] at h;obtain⟨af,h1,_⟩:=xb az;exact⟨v,rfl,h1,af,by simp only[h.1,h.2,Bool.and_self],h.1,h.2⟩
theorem CJ:∀(a b:C_ Int),a.Pairwise (· < ·)->b.Pairwise (· < ·)->(∀x,x∈a↔x∈b)->a=b
 | [],[],_,_,_=>rfl
 | [],y :: b,_,_,h=>by have:=(h y).2 (AG6 ..);cases this
 | x :: a,[],_,_,h=>by have:=(h x).1 (AG6 ..);cases this
 | x :: a,y :: b,aV,ao,h=>by
  rw[AJ1] at aV ao;have e:x=y:=by
   rcases List.mem_cons.1 ((h x).1 (AG6 ..)) with e | e
   .exact e
   .rcases List.mem_cons.1 ((h y).2 (AG6 ..)) with aJ | aJ
    .exact aJ.symm
    .have:=ao.1 x e;have:=aV.1 y aJ;omega
  subst e;congr 1;refine CJ a b aV.2 ao.2 fun z=>⟨fun bI=>?_,fun bI=>?_⟩
  .rcases List.mem_cons.1 ((h z).1 (AI2 _ bI)) with e | e
   .subst e;have:=aV.1 z bI;omega
   .exact e
  .rcases List.mem_cons.1 ((h z).2 (AI2 _ bI)) with e | e
   .subst e;have:=ao.1 z bI;omega
   .exact e
def gQ(a n:Nat):C_ Int:=(List.range n).map fun(k:Nat)=>((a+k:Nat):Int)
theorem apV(a n:Nat):(gQ a n).length=n:=by simp[gQ]
theorem abZ(a:Nat):gQ a 0=[]:=rfl
theorem Gu(a:Nat):gQ a 1=[(a:Int)]:=by simp[gQ]
theorem apW(a n:Nat):gQ a (n+1)=gQ a n++[((a+n:Nat):Int)]:=by simp[gQ,List.range_succ]
theorem tZ{a n:Nat}{x:Int}:x∈gQ a n↔(a:Int)<=x/\x<((a+n:Nat):Int):=by
 constructor
 .intro h;obtain⟨k,hk,rfl⟩:=List.mem_map.1 h
  have:=List.mem_range.1 hk
  omega
 .intro h;refine List.mem_map.2 ⟨(x - a).toNat,List.mem_range.2 AK,AK⟩
structure asu(l:List Int)(last:Int)(out:List Int):Prop where
 ns:out.Pairwise (· < ·)
 mem:∀x,x∈out↔x∈l/\x<=last
 last : -1<=last
structure sR(l r:List Int):Prop where
 ns:r.Pairwise (· < ·)
 mem:∀x,x∈r↔x∈l
theorem sR.eq{l w2 r hv:C_ Int}(h:sR l r)(k:sR w2 hv)(e:∀x,x∈l↔x∈w2):r=hv :=
 CJ r hv h.ns k.ns fun x=>by rw[h.mem,k.mem,e]
def ph(m:Model)(v:Nat):Nat:=match m.vars[v]? with | some x=>(cells x m.scalars).toNat | none=>0
def Ig(m:Model)(q:Nat):Nat:=match (insts m)[q]? with | some x=>x.elem.toNat | none=>0
def gE(m:Model)(c:Nat):Nat:=match m.aw[c]? with | some x=>x.cap.toNat | none=>0
def rD(m:Model)(q v:Nat)(own:Bool):C_ Int:=if own then gQ (hn m v+Ig m q - 1) 1 else gQ (hn m v) (ph m v)
def s5(m:Model)(p:Int)(n:Nat):C_ Int:=(List.range n).flatMap fun j=>if (insts m)[j]?.map (·.proc)=some p then gQ (dG m j) 1 else []
def hW(m:Model)(q:Nat)(own:Bool)(x:Node):C_ Int :=
 if x.op=2 then gQ (hn m x.n.toNat) 1
 else if x.op=3 then rD m q x.n.toNat own
 else if x.op=4 then gQ (dG m q+1+x.n.toNat) 1
 else if x.op=6 then gQ (cm m x.n.toNat) 1
 else if x.op=7 then s5 m (x.n.tdiv 16) (insts m).length
 else []
def CD(e:C_ Node):Nat->Bool
 | 0=>false
 | k+1=>match e[k]? with | some x=>decide (x.op=5) | none=>false
def sc(m:Model)(q:Nat)(e:C_ Node)(n:Nat):C_ Int:=(List.range n).flatMap fun k=>match e[k]? with | some x=>hW m q (CD e k) x | none=>[]
def xV(m:Model)(c:Nat):C_ Int:=gQ (cm m c) (1+gE m c)
def sE(a:Act):Bool:=match a.index with | [x]=>decide (x.op=5) | _=>false
def vH(m:Model)(q:Nat)(a:Act):C_ Int :=
 if a.kind=5 then xV m a.to.toNat
 else (if a.kind=2 then sc m q a.index a.index.length else if a.kind=4 then gQ (cm m a.to.toNat) 1 else [])++sc m q a.value a.value.length
def oj(m:Model)(q:Nat)(a:Act):C_ Int :=
 if a.kind=1 then gQ (hn m a.to.toNat) 1
 else if a.kind=2 then rD m q a.to.toNat (sE a)
 else if a.kind=3 then gQ (dG m q+1+a.to.toNat) 1
 else if a.kind=4 then xV m a.to.toNat
 else if a.kind=5 then xV m a.to.toNat++gQ (dG m q+1+a.loc.toNat) 1
 else []
def IS(m:Model)(q:Nat)(c:ea):C_ Int:=gQ (dG m q) 1++sc m q c.guard c.guard.length
def rL(m:Model)(q:Nat)(c:ea)(n:Nat):C_ Int:=IS m q c++(c.bQ.take n).flatMap (vH m q)
def oP(m:Model)(q:Nat)(c:ea)(n:Nat):C_ Int:=gQ (dG m q) 1++(c.bQ.take n).flatMap (oj m q)
theorem abH{m:Model}{q:Nat}{c:ea}{n:Nat}(h:n<c.bQ.length):rL m q c (n+1)=rL m q c n++vH m q c.bQ[n]:=by
 unfold rL;rw[Ly h,AG8,AK2,Vq]
theorem adj{m:Model}{q:Nat}{c:ea}{n:Nat}(h:n<c.bQ.length):oP m q c (n+1)=oP m q c n++oj m q c.bQ[n]:=by
 unfold oP;rw[Ly h,AG8,AK2,Vq]
theorem WQ{m:Model}{q:Nat}{e:C_ Node}{n:Nat}(h:n<e.length):sc m q e (n+1)=sc m q e n++hW m q (CD e n) e[n]:=by
 unfold sc;rw[AH5,AG8,AK2,List.getElem?_eq_getElem h]
theorem aa3{e:C_ Node}{n:Nat}(h:n<e.length):CD e (n+1)=decide (e[n].op=5):=by
 simp only[CD,List.getElem?_eq_getElem h]
theorem DG{m:Model}{p:Int}{n:Nat}(h:n<(insts m).length):s5 m p (n+1)=s5 m p n++if (insts m)[n].proc=p then gQ (dG m n) 1 else []:=by
 unfold s5;rw[AH5,AG8,AK2,List.getElem?_eq_getElem h];simp only[Option.map_some,Option.some.injEq]
structure Dp(s:Scope)(x:Node):Prop where
 var:x.op=2->0<=x.n/\∃v,s.vars[x.n.toNat]? = some v/\v.over=0
 item:x.op=3->0<=x.n/\x.n.toNat<s.vars.length
 loc:x.op=4->0<=x.n/\x.n.toNat<s.locals.length
 self:x.op=5->1<=s.self/\s.self<=s.scalars.length
 len:x.op=6->0<=x.n/\x.n.toNat<s.aw.length
 at_:x.op=7->0<=x.n/\(x.n.tdiv 16).toNat<s.procs.length
structure ug(s:Scope)(e:List Node):Prop where
 node:∀k (h:k<e.length),Dp s e[k]/\(e[k].op=3->0<k)
 len:e.length<=24
theorem amw{s:Scope}{x:Node}{top:Int}(h:(jw x s top).2=0):Dp s x:=by
 unfold jw at h;by_cases h1:x.op=1
 .exact⟨AK,AK,AK,AK,AK,AK⟩
 rw[if_neg h1] at h;by_cases I:x.op=2\/x.op=3\/x.op=4
 .rw[if_pos I] at h;simp only at h;by_cases ar:(gn (if x.op=4 then s.locals else s.vars) x.n s).2.2=false
  .rw[if_pos ar] at h;cases h
  rw[if_neg ar] at h;obtain⟨v,cE,cW,fz,iA,u0,Cq⟩:=aak (by simpa using ar);obtain⟨bR,bX,bZ⟩:=aac Cq;rw[iA] at h;simp only at h;have cg:=(List.getElem?_eq_some_iff.1 cW).1;by_cases ab:(x.op=3/\((hC v.over s).1=0\/top≠(hC v.over s).1))\/(x.op≠3/\(hC v.over s).1≠0)
  .rw[if_pos ab] at h;cases h
  .refine⟨fun e=>⟨fz,v,?_,?_⟩,fun e=>⟨fz,?_⟩,fun e=>⟨fz,?_⟩,AK,AK,AK⟩
   .rw[if_neg AK] at cW;exact cW
   .have:(hC v.over s).1=0:=Classical.byContradiction fun az=>ab (.inr ⟨AK,az⟩)
    rw[bZ] at this;split at this
    .assumption
    .omega
   .rw[if_neg AK] at cg;exact cg
   .rw[if_pos e] at cg;exact cg
 .rw[if_neg I] at h;unfold mJ at h;refine⟨AK,AK,AK,fun e=>?_,fun e=>?_,fun e=>?_⟩
  .rw[if_pos e] at h;by_cases q:1<=s.self/\s.self<=s.scalars.length
   .exact q
   .rw[if_neg q] at h;cases h
  .rw[if_neg AK,if_pos e] at h;unfold kD at h;cases az:nth s.aw x.n with
   | none=>rw[az] at h;cases h
   | some c=>exact⟨(xb az).1,(xb az).2.2⟩
  .rw[if_neg AK,if_neg AK,if_pos e] at h;unfold Cr at h;by_cases q:0<=x.n
   .rw[if_pos q] at h;cases az:nth s.procs (x.n.tdiv 16) with
    | none=>rw[az] at h;cases h
    | some c=>exact⟨q,(xb az).2.2⟩
   .rw[if_neg q] at h;cases h
theorem aaa{e:C_ Node}{s:Scope}(h:(kind e s).2=0):ug s e:=by
 unfold kind mN at h;by_cases h1:e.length > 24
 .rw[if_pos h1] at h;cases h
 rw[if_neg h1] at h;by_cases I:e.length=0
 .exact⟨fun k hk=>AK,AK⟩
 rw[if_neg I] at h;by_cases ab:(gi (fw s) e []).1≠0
 .rw[if_pos ab] at h;exact absurd h ab
 have ab:(gi (fw s) e []).1=0:=by simpa using ab
 refine⟨fun k hk=>?_,AK⟩;have sn:∀j,(gi (fw s) (e.take j) []).1=0:=fun j=>Classical.byContradiction fun az=>by
  have:=RE (f:=fw s) (e:=e) (k:=j) rfl az
  rw[this] at ab;exact az ab
 have iL:gi (fw s) (e.take k) []=(0,(gi (fw s) (e.take k) []).2):=Prod.ext (sn k) rfl;have aH:=CM hk iL;have a8:=sn (k+1);rw[aH] at a8;unfold stepG at a8;by_cases cZ:fI e[k].op<0
 .rw[if_pos cZ] at a8;cases a8
 rw[if_neg cZ] at a8;by_cases dt:((gi (fw s) (e.take k) []).2.length:Int)<fI e[k].op
 .rw[if_pos dt] at a8;cases a8
 rw[if_neg dt] at a8;by_cases ef:(fw s e[k] (gi (fw s) (e.take k) []).2).2≠0
 .rw[if_pos ef] at a8;exact absurd a8 ef
 have ef:(fw s e[k] (gi (fw s) (e.take k) []).2).2=0:=by simpa using ef
 constructor
 .by_cases aO:yx e[k].op=false
  .unfold fw at ef;rw[QY aO] at ef;exact amw ef
  .have:9<=e[k].op:=by
    simp only[yx,decide_eq_false_iff_not] at aO;omega
   exact⟨AK,AK,AK,AK,AK,AK⟩
 .intro a7;apply Classical.byContradiction;intro az;have gr:k=0:=AK
  subst gr;rw[a7] at dt;simp[gi,fI] at dt
theorem HI{e:C_ Node}{k:Int}{s:Scope}(h:asked e k s=0):ug s e:=by
 unfold asked at h;by_cases h1:(kind e s).2≠0
 .rw[if_pos h1] at h;exact absurd h h1
 .exact aaa (by simpa using h1)
structure n0(s:Scope)(a:Act):Prop where
 set:a.kind=1->0<=a.to/\∃v,s.vars[a.to.toNat]? = some v/\v.over=0
 item:a.kind=2->0<=a.to/\a.to.toNat<s.vars.length/\ug s a.index
 loc:a.kind=3->0<=a.to/\a.to.toNat<s.locals.length
 chan:a.kind=4\/a.kind=5->0<=a.to/\a.to.toNat<s.aw.length
 recv:a.kind=5->0<=a.loc/\a.loc.toNat<s.locals.length
 val:a.kind≠5->ug s a.value
 kind:1<=a.kind/\a.kind<=5
theorem Nv{l:C_ Var}{n:Int}{s:Scope}{q:Var×Int}(h:declared l n s=some q):0<=n/\l[n.toNat]? = some q.1/\n.toNat<l.length:=by
 unfold declared at h;cases az:nth l n with
 | none=>rw[az] at h;cases h
 | some v =>
  rw[az] at h;simp only at h;split at h
  .injection h with h
   subst h;exact xb az
  .cases h
theorem MF{a:Act}{s:Scope}(h:kL a s=0):n0 s a:=by
 unfold kL at h;by_cases h1:a.kind=1\/a.kind=2\/a.kind=3
 .rw[if_pos h1] at h;cases bb:declared (if a.kind=3 then s.locals else s.vars) a.to s with
  | none=>rw[bb] at h;cases h
  | some q =>
   rw[bb] at h;obtain⟨v,k⟩:=q;obtain⟨d1,d2,d3⟩:=Nv bb;simp only at h;by_cases I:(v.over≠0)≠(a.kind=2)
   .rw[if_pos I] at h;cases h
   rw[if_neg I] at h;have I:(v.over≠0)=(a.kind=2):=Classical.byContradiction fun q=>I q;by_cases ab:a.kind=2/\asked a.index (1+v.over) s≠0
   .rw[if_pos ab] at h;exact absurd h ab.2
   rw[if_neg ab] at h;refine⟨fun e=>⟨d1,v,?_,?_⟩,fun e=>⟨d1,?_,?_⟩,fun e=>⟨d1,?_⟩,AK,AK,fun _=>HI h,AK⟩
   .rw[if_neg AK] at d2;exact d2
   .apply Classical.byContradiction;intro az
    have:a.kind=2:=I ▸ az
    omega
   .rw[if_neg AK] at d3;exact d3
   .exact HI (Classical.byContradiction fun az=>ab ⟨e,az⟩)
   .rw[if_pos e] at d3;exact d3
 .rw[if_neg h1] at h;by_cases I:a.kind=4\/a.kind=5
  .rw[if_pos I] at h;cases an:channel a.to s with
   | none=>rw[an] at h;cases h
   | some k =>
    rw[an] at h;simp only at h;have wx:0<=a.to/\a.to.toNat<s.aw.length:=by
     unfold channel at an;cases az:nth s.aw a.to with
     | none=>rw[az] at an;cases an
     | some c=>exact⟨(xb az).1,(xb az).2.2⟩
    refine⟨AK,AK,AK,fun _=>wx,fun e=>?_,fun e=>?_,AK⟩
    .rw[if_pos e] at h;unfold Gr at h;cases bb:declared s.locals a.loc s with
     | none=>rw[bb] at h;cases h
     | some q =>
      obtain⟨d1,d2,d3⟩:=Nv bb;exact⟨d1,d3⟩
    .rw[if_neg e] at h;exact HI h
  .rw[if_neg I] at h;cases h
structure xz(s:Scope)(c:ea):Prop where
 guard:ug s c.guard
 act:∀k (h:k<c.bQ.length),n0 s c.bQ[k]
 gM:c.bQ.length<=6
theorem Vi{s:Scope}:∀(l:C_ Act) (i:Nat) (t:Bool),(k9 s l i t).2=0->∀k (h:k<l.length),n0 s l[k]
 | [],_,_,_,k,h=>by simp at h
 | a :: r,i,t,h,k,hk=>by
  unfold k9 at h;by_cases h1:(hx a&&t)=true
  .rw[if_pos h1] at h;cases h
  rw[if_neg h1] at h;by_cases I:kL a s≠0
  .rw[if_pos I] at h;exact absurd h I
  rw[if_neg I] at h;cases k with
  | zero=>exact MF (by simpa using I)
  | succ k=>exact Vi r _ _ h k (by simpa using hk)
theorem afI{c:ea}{cp:Int}{s:Scope}(h:(jU c cp s).2=0):xz s c:=by
 unfold jU at h;by_cases h1:head c cp≠0
 .rw[if_pos h1] at h;exact absurd h h1
 rw[if_neg h1] at h;by_cases I:c.guard.length > 0/\asked c.guard 1 s≠0
 .rw[if_pos I] at h;exact absurd h I.2
 rw[if_neg I] at h;refine⟨?_,Vi _ _ _ h,?_⟩
 .by_cases aK:c.guard.length > 0
  .exact HI (Classical.byContradiction fun az=>I ⟨aK,az⟩)
  .exact⟨fun k hk=>AK,AK⟩
 .apply Classical.byContradiction;intro az;apply h1;unfold head;by_cases cZ:isName c.name=false
  .rw[if_pos cZ];decide
  rw[if_neg cZ];by_cases dt:c.from_<0\/cp<=c.from_\/c.to<0\/cp<=c.to
  .rw[if_pos dt];decide
  rw[if_neg dt,if_pos AK];decide
theorem VX{m:Model}(h:(check m).cN=0):(mL m).cN=0:=by
 unfold check at h;by_cases bb:(data m).cN≠0
 .rw[if_pos bb] at h;exact absurd h bb
 rw[if_neg bb] at h;apply Classical.byContradiction;intro au;rw[if_pos au] at h;exact au h
theorem afL{m:Model}(h:(check m).cN=0){p k:Nat}(au:p<m.procs.length)(hk:k<m.procs[p].cQ.length):xz (inner m.procs[p] (eR m)) m.procs[p].cQ[k]:=by
 obtain⟨dM,_,_⟩:=Ra (VX h);obtain⟨_,cE,_,_⟩:=D6 au (dM p au);obtain⟨_,_,iA⟩:=abh cE;have e:ht m (p:Int)=inner m.procs[p] (eR m):=by
  unfold ht;rw[iM AK AK];rfl
 have a8:=(Nj _ _ iA k hk).1;rw[e] at a8;exact afI a8
theorem x8{L:C_ (C_ Int)}{B:C_ (C_ ed)}(h:L.map List.length=B.map List.length):L.flatten.length=total B:=by
 rw[List.length_flatten,h];rfl
def pre(Bo:C_ Int)(d:Nat):C_ Int:=Bo.take d++List.replicate (Bo.length - d) 0
theorem CW{Bo:C_ Int}{d:Nat}{x:Int}(h:Bo[d]? = some x):Bo.take (d+1)=Bo.take d++[x]:=by
 obtain⟨bb,rfl⟩:=List.getElem?_eq_some_iff.1 h;exact Ly bb
theorem aeT{m:Model}{i:Nat}(h:i<m.aw.length):cm m (i+1)=cm m i+(1+m.aw[i].cap.toNat):=by
 have bo:i<(dK m).length:=by simpa[dK] using h
 unfold cm;rw[GN bo];simp[dK,vT];omega
theorem aeU(m:Model):cm m 0=total (c0 m):=by simp[cm,total]
end o
end