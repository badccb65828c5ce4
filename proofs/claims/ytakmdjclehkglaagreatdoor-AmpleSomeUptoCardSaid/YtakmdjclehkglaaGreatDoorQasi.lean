/- Parts. -/
import Derived.Test.YtakmdjclehkglaaGreatDoorQash
set_option linter.all false
set_option maxRecDepth 8000
set_option maxHeartbeats 4000000
section
namespace ba
open Go Go.RowKit
theorem aS.map{α β:Type}{enc:β->C_ B_}{g:α->β}{e:F_}{sz base:Nat}{w:A_}{v:B_}{xs:C_ α}(h:aS (fun x=>enc (g x)) e sz base w v xs):aS enc e sz base w v (xs.map g):=by
 unfold aS at *;rw[AK0,List.flatMap_map];exact h
theorem aS.hE{α:Type}{enc:α->C_ B_}{e:F_}{sz base:Nat}{w:A_}{v:B_}{xs:C_ α}(dr:∀x,(enc x).length=sz)(h:aS enc e sz base w v xs):bn sz (Flat enc) w v xs:=aS.jD dr h
theorem aS.new{α:Type}{enc:α->C_ B_}{e:F_}{sz:Nat}{w w':A_}{v:B_}{xs:C_ α}(dr:∀x,(enc x).length=sz)(h:aS enc e sz w.heap.size w' v xs):ey w (fun w=>bn sz (Flat enc) w v xs) w':=fun aD m =>
 aS.jD dr (aS.mod h m fun k hk a=>by have:=(h.lt k hk).1;omega)
end ba
namespace Go.Proofs.R
open Go Go.RowKit ba
abbrev ku(w:A_)(v:B_)(l:C_ o.cX):Prop:=bn 2 (Flat o.cX.enc) w v l
abbrev sQ(w:A_)(v:B_)(l:C_ o.Ref):Prop:=bn 2 (Flat o.Ref.enc) w v l
theorem ZZ(cs:C_ B_)(m:o.Model)(w:A_)(h:o.eh w cs m) :
  DD F.gD #[.agg cs.toArray] w fun v w'=>(∃b,v = .func (.func F.ny) #[] #[.pointer (some ⟨b,0,none⟩)]/\w'.heap[b]? = some (.cells cs.toArray T.d))/\Ext w w':=by
 obtain⟨b6,bx,bR,c1,bX,c2,bZ,bu,ca,bC,rfl,_⟩:=h.form;refine br E.gD ?_;refine aa ?_;intro w1 bw cM ai al;refine aa ?_;exact⟨⟨bw,rfl,al⟩,ai⟩
theorem wU(cs:C_ B_)(m:o.Model)(w:A_)(h:o.eh w cs m)(aK:m.cK) :
  DD F.b #[.agg cs.toArray] w fun v w'=>aS o.cX.enc T.e 2 w.heap.size w' v (o.insts m)/\Ext w w':=by
 obtain⟨b6,bx,bR,c1,bX,c2,bZ,bu,ca,bC,rfl,_⟩:=h.form;have au:=aK.procs;have aC:=o.tH m;unfold o.ew at au;refine br E.b ?_;refine aa ?_;intro w1 bw cM ai al;refine aa ?_;refine J_ (ZZ _ m w1 (h.ext ai)) ?_;rintro _ aD ⟨⟨b,rfl,av⟩,aj⟩;have da:Ext w aD:=ai.trans aj;refine aa ?_;refine J_ (f:=F.r5) (R:=fun v w'=>aS o.cX.enc T.e 2 aD.heap.size w' v (o.insts m)/\Ext aD w') ?_ ?_
 .refine vA E.r5 ?_;refine oh ?_;refine aa ?_;refine J_ (aek (α:=o.xO m) (enc:=fun x=>x.1.enc) lN Dg.BR rfl (fun _=>rfl) (fun x u hu=>by simp[o.cX.enc] at hu;rcases hu with rfl | rfl<;>rfl) BN Ct
   (ZO av h da) (Ext.refl _) da.size BN BN BN AK (by unfold maxLen;omega)) ?_
  rintro v aN ⟨⟨xs,tF,aO⟩,ah⟩;refine aa ?_;exact⟨by rw[<-tF];exact aO.map,ah⟩
 .rintro v aN ⟨aO,ah⟩;refine aa ?_;exact⟨aO.low da.size,da.trans ah⟩
structure mv(w1:World)(bW cC dR:Nat)(s:Int×o.cX×List o.Ref)(W:World):Prop where
 mod:Mod (fun k=>k∈[bW,cC,dR]) w1 W
 ex:∃aQ n c,W.heap[bW]? = some (.cells #[.slice aQ n c] T.c)/\aS o.Ref.enc T.f 2 w1.heap.size W (.slice aQ n c) s.2.2
 aH:W.heap[cC]? = some (.cells #[.int .i64 s.1] T.a)
 a8:W.heap[dR]? = some (.cells s.2.1.enc.toArray T.e)
theorem mv.move{w1:A_}{bW cC dR:Nat}{s:Int×o.cX×C_ o.Ref}{W b8:A_}{A:Nat->Prop}(h:mv w1 bW cC dR s W)(m:Mod A W b8)(dg:∀k c t f,W.heap[k]? = some (.cells c t f)->¬A k)(hN:∀k,A k->w1.heap.size<=k):mv w1 bW cC dR s b8:=by
 obtain⟨aQ,n,c,e,aO⟩:=h.ex;refine⟨h.mod.comp m (fun _ _ a=>a) fun k hk a=>absurd (hN k a) AK,⟨aQ,n,c,m.obj (dg _ _ _ _ e) e,aO.mod m fun k hk a=>?_⟩,m.obj (dg _ _ _ _ h.aH) h.aH,m.obj (dg _ _ _ _ h.a8) h.a8⟩;obtain⟨cur,ab⟩:=aO.cx k hk;exact dg _ _ _ _ ab a
theorem mv.ext{w1:A_}{bW cC dR:Nat}{s:Int×o.cX×C_ o.Ref}{W b8:A_}(h:mv w1 bW cC dR s W)(e:Ext W b8):mv w1 bW cC dR s b8:=h.move (A:=fun _=>False) e.mod (fun _ _ _ _ _ h=>h) fun _ h=>h.elim
theorem xU{W:A_}{k:Nat}{c kN:Array B_}{t hY:F_}{f uG:Nat×Nat}(h:W.heap[k]? = some (.cells c t f))(bo:W.heap[k]? = some (.cells kN hY uG)):t=hY:=by
 rw[h] at bo;injection bo with bo;injection bo
theorem mv.lB{w1:A_}{bW cC dR:Nat}{s:Int×o.cX×C_ o.Ref}{W b8:A_}{n:Int}(h:mv w1 bW cC dR s W)(hw:dy cC W b8)(an:b8.heap[cC]? = some (.cells #[.I n] T.a))(n34:bW≠cC)(n45:dR≠cC):mv w1 bW cC dR (n,s.2) b8:=by
 obtain⟨aQ,k,c,e,aO⟩:=h.ex;refine⟨h.mod.comp (A':=fun k=>k=cC) (hw.mod rfl) (fun _ _ a=>a) fun k hk a=>by simp[a],⟨aQ,k,c,hw.obj e n34,aO.mod (hw.mod (A:=fun k=>k=cC) rfl) fun k hk a=>?_⟩,an,hw.obj h.a8 n45⟩;subst a;obtain⟨cur,ab⟩:=aO.cx k hk;exact absurd (xU ab h.aH) BN
theorem mv.iD{w1:A_}{bW cC dR:Nat}{s:Int×o.cX×C_ o.Ref}{W b8:A_}{x:o.cX}(h:mv w1 bW cC dR s W)(hw:dy dR W b8)(an:b8.heap[dR]? = some (.cells x.enc.toArray T.e))(n35:bW≠dR)(n45:dR≠cC):mv w1 bW cC dR (s.1,x,s.2.2) b8:=by
 obtain⟨aQ,k,c,e,aO⟩:=h.ex;refine⟨h.mod.comp (A':=fun k=>k=dR) (hw.mod rfl) (fun _ _ a=>a) fun k hk a=>by simp[a],⟨aQ,k,c,hw.obj e n35,aO.mod (hw.mod (A:=fun k=>k=dR) rfl) fun k hk a=>?_⟩,hw.obj h.aH (Ne.symm n45),an⟩;subst a;obtain⟨cur,ab⟩:=aO.cx k hk;exact absurd (xU ab h.a8) BN
theorem mv.app{w1:A_}{bW cC dR:Nat}{s:Int×o.cX×C_ o.Ref}{W b8 HD:A_}{aQ kY:H_ Addr}{n c je kN:Nat}{l:C_ o.Ref}(h:mv w1 bW cC dR s W)(he:W.heap[bW]? = some (.cells #[.slice aQ n c] T.c))
  (aO:aS o.Ref.enc T.f 2 w1.heap.size W (.slice aQ n c) s.2.2)(nh:aS o.Ref.enc T.f 2 w1.heap.size b8 (.slice kY je kN) l)(aK:W.grownBy b8 (Value.slice aQ n c).ownBlock)(hw:dy bW b8 HD)
  (an:HD.heap[bW]? = some (.cells #[.slice kY je kN] T.c))(n34:bW≠cC)(n35:bW≠dR):mv w1 bW cC dR (s.1,s.2.1,l) HD/\e9 w1.heap.size [bW,cC,dR] [T.f] W HD:=by
 have bF:e9 w1.heap.size [bW,cC,dR] [T.f] W b8:=e9.grown aO aK Bs;have nm:∀{k:Nat} {c:Array B_} {t:F_},W.heap[k]? = some (.cells c t)->t≠T.f->b8.heap[k]? = some (.cells c t):=fun {k c t} hk aB=>by
  rw[aK.block k (cA hk) fun e=>?_]
  .exact hk
  .obtain⟨cur,ab⟩:=aO.cx k e.symm;exact aB (xU hk ab)
 have IU:=bF.trans (hw.BD Bs);refine⟨⟨e9.from h.mod IU,⟨kY,je,kN,an,nh.mod (hw.mod (A:=fun k=>k=bW) rfl) fun k hk a=>?_⟩,hw.obj (nm h.aH BN) (Ne.symm n34),hw.obj (nm h.a8 BN) (Ne.symm n35)⟩,IU⟩;subst a;obtain⟨cur,ab⟩:=nh.cx k hk;exact absurd (xU ab (nm he BN)) BN
theorem yN(cs:C_ B_)(m:o.Model)(w:A_)(h:o.eh w cs m)(cY:o.vB m) :
  DD F.c #[.agg cs.toArray] w fun v w'=>aS o.Ref.enc T.f 2 w.heap.size w' v (o.refs m)/\Ext w w':=by
 obtain⟨b6,bx,bR,c1,bX,c2,bZ,bu,ca,bC,rfl,af,h1,I,ab,aH,e2,eE,eJ,er,eH⟩:=h.form;have jX:=o.tH m;have sm:=cY.procs;refine gC.start lN Dg.c (args:=[_]) (Nat.le_of_ble_eq_true rfl) ?_;dsimp only[D.c,ad,cf,iO,bA,dQ,bP,bY,e8,b3,aq,fc,bd,bk,dq,ys,jP,cu,ch,qO,fR,gH,qa,oS,cO,kb,ig,p9,Mc,C6,nZ,vr,vq,rS,lW,xw,List.map_cons,List.map_nil];refine gC.jg ?_;refine aa ?_;intro L3 bw cM rl EH;refine aa ?_;refine gC.jg ?_;refine aa ?_;intro L4 bW fe qw o5;refine aa ?_;refine gC.jg ?_;refine aa ?_;intro yW cC ff nK gF;refine aa ?_;intro wd dR kT qx Yd;have I9:dR≠cC:=by have:=cA gF;omega
 replace gF:=qx.obj gF;refine aa ?_;intro arV JV e0;have ajk:=JV.obj Yd I9;refine aa ?_;intro wf JW Jk;replace Jk:wf.heap[dR]? = some (.cells (⟨-1,0⟩:o.cX).enc.toArray T.e):=Jk;have GX:=cA EH;have GY:=cA o5;have avX:=cA gF;have NG:Ext L3 wf:=JW.ext (JV.ext ((qw.trans nK).trans qx) (by have:=qw.size;omega)) (by have:=qw.size;have:=nK.size;omega);have WC:Ext L4 arV:=JV.ext (nK.trans qx) AK;have WD:Ext L4 wf:=JW.ext WC (by have:=nK.size;omega);have XY:=WD.obj o5;have aiM:=NG.obj EH;replace e0:=JW.obj e0 (Ne.symm I9);have n34:bW≠cC:=AK
 have n35:bW≠dR:=by have:=nK.size;omega
 have avR:=qw.size;have avW:=nK.size;clear ajk Yd gF JV JW WC WD o5 EH qw nK qx;refine gC.ub (gC.jg ?_);refine aa ?_;refine J_ (ZZ _ m wf (h.ext (rl.trans NG))) ?_;rintro _ sH ⟨⟨asG,rfl,OG⟩,ES⟩;have xD:∀{w'},Ext sH w'->Ext w w':=fun e=>((rl.trans NG).trans ES).trans e;have Jd:=ES.obj XY;have Ov:=ES.obj aiM;have N5:=ES.obj e0;have N7:=ES.obj Jk;have auG:=cA Jd;have auH:=cA N5;have auI:=cA N7;simp -dsimp only[c7,cB,Nat.reduceAdd,Nat.reduceEqDiff,reduceIte,reduceCtorEq,df];refine gC.cx (gC.tY (w0:=sH) (enc:=fun x:o.xO m=>ZG x.1) (by simp[de,bN]) Ct (ZO OG h (xD (Ext.refl _))) (Ext.refl _) (mV.ok _ (xD (Ext.refl _)).size)
  (fun pre W=>mv sH bW cC dR ((pre.map Subtype.val).foldl (o.mM m) (-1,⟨-1,0⟩,[])) W) ?_ ⟨Mod.refl _ _,⟨none,0,0,Jd,aS.nil _ _ _ _ _⟩,N5,N7⟩ ?_ ?_)
 .rintro pre W b8 row iL aK aP;refine iL.move (A:=fun k=>row=some k) (Mod.grown aK fun k e=>e) (fun k c t f hk a=>?_) fun k a=>(aP k a).1;obtain⟨ae,h1,I⟩:=(aP k a).2;rw[hk] at h1;injection h1 with h1;subst h1;cases I
 .rintro pre x W iL cg;have qn:=o.Xc cY (pre.map Subtype.val) (-1,⟨-1,0⟩,[]);simp only[List.length_map,List.length_nil] at qn;have key:((pre++[x]).map Subtype.val).foldl (o.mM m) (-1,⟨-1,0⟩,[])=o.mM m ((pre.map Subtype.val).foldl (o.mM m) (-1,⟨-1,0⟩,[])) x.1:=by
   rw[AF4,List.foldl_append];rfl
  generalize (pre.map Subtype.val).foldl (o.mM m) (-1,⟨-1,0⟩,[])=s at iL qn key;have Fa:=o.QN cY x.1;have Aj:=x.2;refine eb ?_;intro iU ez gm ai cb;refine eb ?_;refine⟨ai.keeps _,ai.iB (QB (xD (Ext.refl _)).size iL.mod.size),fun e5 wN=>?_⟩;obtain⟨l,aC,lx,fN⟩:=wN.mod;replace cb:=wN.cells cb;have wO:mv sH bW cC dR s e5:=(iL.ext ai).move fN (fun k c t f hk a=>by subst a;exact lx _ _ _ hk) fun k a=>AK
  have agn:sH.heap.size<=e5.heap.size:=wO.mod.size;have atb:e5.heap[bw]? = sH.heap[bw]? := wO.mod.block bw (cA Ov) (by simp;omega);have YW:ez∉[bW,cC,dR]:=by have:=iL.mod.size;simp;omega
  clear iL wN fN lx N5 N7 Jd e0 XY Jk;generalize kB:(if x.1≠s.2.1 then s.1+1 else s.1)=at' at key;refine eb ?_;refine S_ [1,3,4,5,6] (fun _=>[]) (fun(_:Unit) b8=>mv sH bW cC dR (at',s.2) b8/\e9 sH.heap.size [bW,cC,dR] [T.f] e5 b8) ?_ ?_
  .have as4:=wO.aH;have Xt:=wO.a8;refine aa ?_;refine _9 (sig:=o.acq) Ct (o.Wa _) (o.Wa _) fun r aP=>?_;refine aa ?_;refine N_ (fun g1=>?_) (fun g1=>?_)
   .have cz:x.1≠s.2.1:=fun e=>aP.1 g1 (by rw[e]);rw[if_pos cz] at kB;subst kB;refine aa ?_;intro og gg bl;refine aa ?_;exact⟨(),trivial,wO.lB gg bl n34 I9,gg.BD Bs⟩
   .have heq:x.1=s.2.1:=o.alN _ _ (Classical.byContradiction fun az=>by rw[aP.2 az] at g1;cases g1);rw[if_neg (by simp[heq])] at kB;subst kB;refine aa ?_;exact⟨(),trivial,wO,(Ext.refl e5).BD⟩
  rintro _ S og ⟨PQ,Ye⟩;replace cb:=e9.obj Ye cb YW BN;have Ow:=PQ.mod.block bw (cA Ov) (by simp;omega);rw[Ov] at Ow;have Xt:=PQ.a8;have Ws:∀b∈[bW,cC,dR],w.heap.size<=b:=fun b ao=>by
   have:=rl.size
   simp at ao;rcases ao with rfl | rfl | rfl<;>omega
  refine eb ?_;simp -dsimp only[cB];refine eb ?_;intro Bn dE bp;have Zo:=PQ.iD dE bp n35 I9;have ajn:=e9.trans Ye (dE.BD Bs);have atc:=dE.obj Ow AK;replace cb:=dE.obj cb (by simp at YW;omega);have D0:Ext w Bn:=Zo.mod.ext (xD (Ext.refl _)) fun k hk a=>by have:=Ws k a;omega
  clear Ow Xt;obtain⟨qH,uQ⟩:=QA Aj.aR;have oD:qH<m.procs.length:=by have:=Aj.U;omega
  obtain⟨a,rfl⟩:=ab.addr;obtain⟨ak,b2,dV,dP,e7,fy⟩:=ab.at qH oD;obtain⟨_,_,rfl,_⟩:=e7.form;obtain⟨_,_,rfl,lc⟩:=fy.form;have mF:o.qJ m x.1=m.procs[qH].cQ.length:=by
   unfold o.qJ;rw[uQ,o.iM AK AK];simp
  rw[mF] at Fa;refine aa ?_;refine K_ qH uQ oD ?_;refine aa ?_;refine L_ 26 m.procs[qH].cQ.length [1,3,4,5,6,25] (fun _=>[]) () (fun j _ b8=>mv sH bW cC dR (at',x.1,s.2.2++o.refsOf at' j) b8/\e9 sH.heap.size [bW,cC,dR] [T.f] e5 b8) bc bc ⟨by simpa[o.refsOf] using Zo,ajn⟩ ?_;rintro j _ S lF aF ⟨Fo,OK⟩;refine aa ?_;apply I_<;>intro g2
  .obtain⟨aQ,n,c,a7,aO⟩:=Fo.ex;have bD:=Fo.aH;have aue:=Fo.mod.size;refine aa ?_;intro r1 asE ir bq ct;refine aa ?_;have hlen:(s.2.2++o.refsOf at' j).length+1<=5000:=by
    simp only[List.length_append,o.refsOf,List.length_map,List.length_range];omega
   refine _X (ys:=[(⟨at',(j:Int)⟩:o.Ref)]) (aO.ext bq) (fun _=>rfl) (by simpa[o.Ref.enc] using gT ct) rfl (by intro y u hu;simp[o.Ref.enc] at hu;rcases hu with rfl | rfl<;>rfl)
    (by simp only[List.length_cons,List.length_nil];omega) (by simp only[List.length_cons,List.length_nil];unfold maxLen;omega) (by have:=bq.size;omega) fun b0 adX hB zX _=>?_
   obtain⟨kY,pI,rfl,_⟩:=hB.form;have as0:adX.heap[bW]? = some (.cells #[.slice aQ n c] T.c):=by
    rw[zX.block bW (cA (bq.obj a7)) fun e=>?_]
    .exact bq.obj a7
    .obtain⟨cur,ab⟩:=(aO.ext bq).cx bW e.symm;exact absurd (xU ab (bq.obj a7)) BN
   refine aa ?_;intro asw hQ dD;obtain⟨alg,ajo⟩:=(Fo.ext bq).app (bq.obj a7) (aO.ext bq) hB zX hQ dD n34 n35;refine aa ?_;exact⟨AK,aL,(),trivial,by rw[o.abP,<-Vq];exact alg,e9.trans OK (e9.trans bq.BD ajo)⟩
  .have nc:j=m.procs[qH].cQ.length:=AK
   refine aa ?_;refine⟨e9.keeps OK (fun b ao=>?_),e9.iB OK (QB (xD (Ext.refl _)).size agn) (xD (Ext.refl _)).size (fun b ao=>⟨Ws b ao,fun c t f hk aB=>?_⟩) BN,?_⟩
   .simp at ao;rcases ao with rfl | rfl | rfl<;>omega
   .simp at ao;rcases ao with rfl | rfl | rfl
    .obtain⟨_,_,_,e,_⟩:=wO.ex
     have:=xU hk e;subst this;revert aB;decide
    .have:=xU hk wO.aH;subst this;revert aB;decide
    .have:=xU hk wO.a8;subst this;revert aB;decide
   .show mv sH bW cC dR _ lF;rw[key]
    have:o.mM m s x.1=(at',x.1,s.2.2++o.refsOf at' j):=by unfold o.mM;rw[kB,mF,nc]
    rw[this];exact Fo
 .rintro D xs W im cc iL bb;obtain⟨aQ,n,c,a7,aO⟩:=iL.ex;have tt:=o.apJ m;rw[cc] at aO;rw[tt] at aO;simp -dsimp only[c7,cB,Nat.reduceAdd,Nat.reduceEqDiff,reduceIte,reduceCtorEq,df];refine _C a7 (Ext.refl _) rfl ?_;simp -dsimp only[c7,cB,Nat.reduceAdd,Nat.reduceEqDiff,reduceIte,reduceCtorEq,df];refine gC.ret bb ?_;simp -dsimp only[c7,cB,Nat.reduceAdd,Nat.reduceEqDiff,reduceIte,reduceCtorEq,df];have wc:w.heap.size<=sH.heap.size:=(xD (Ext.refl _)).size;have bB:Ext w W:=iL.mod.ext (xD (Ext.refl _)) fun k hk a=>by
   have:=rl.size
   simp at a;rcases a with rfl | rfl | rfl<;>omega
  refine⟨(aO.mod (A:=fun k=>k=D) ((dy.fF _ _ _).mod rfl) fun k hk a=>?_).low wc,bB.fF (QB wc im) _⟩;subst a;obtain⟨cur,ab⟩:=aO.cx k hk;rw[bb] at ab;injection ab with ab;cases ab
end Go.Proofs.R
end
section
namespace o
theorem ZH:∀(y:cX),∀u∈y.enc,u.oneCell'=true:=by intro y u hu;simp[cX.enc] at hu;rcases hu with rfl | rfl<;>rfl
theorem apG:∀(y:Ref),∀u∈y.enc,u.oneCell'=true:=by intro y u hu;simp[Ref.enc] at hu;rcases hu with rfl | rfl<;>rfl
end o
namespace Go.Proofs.R
open Go Go.RowKit ba
theorem Gs(cs:C_ B_)(m:o.Model)(w:A_)(h:o.eh w cs m)(aK:m.cK) :
  DD F.FT #[.agg cs.toArray] w fun v w'=>aS o.cX.enc T.e 2 w.heap.size w' v (o.insts m)/\Ext w w':=by
 obtain⟨b6,bx,bR,c1,bX,c2,bZ,bu,ca,bC,rfl,af,h1,I,ab,aH,e2,eE,eJ,er,eH⟩:=h.form;have au:=aK.procs;have aC:=o.tH m;unfold o.ew at au;refine br E.FT ?_;refine aa ?_;intro w1 bw cM ai al;refine aa ?_;refine L_ 4 m.procs.length [1] (fun x:gA×C_ o.cX=>[(3,.slice x.1.1 x.1.2.1 x.1.2.2)]) ((none,0,0),[]) (fun k x w'=>(Ext w w'/\w'.heap[bw]? = w1.heap[bw]?)/\aS o.cX.enc T.e 2 w.heap.size w' (.slice x.1.1 x.1.2.1 x.1.2.2) x.2/\x.2++o.j1 m (m.procs.drop k) k=o.insts m) bc bc ⟨⟨ai,rfl⟩,aS.nil _ _ _ _ _,by simp[o.insts]⟩ ?_;rw[al];clear al;rintro k ⟨v,l⟩ S aD hk ⟨⟨aj,av⟩,dA,rq⟩;refine aa ?_;apply I_<;>intro g1
 .have a1:k<m.procs.length:=AK
  obtain⟨a,rfl⟩:=ab.addr;obtain⟨ak,b2,dV,dP,e7,fy⟩:=ab.at k a1;obtain⟨_,_,rfl,_⟩:=e7.form;obtain⟨_,_,rfl,_⟩:=fy.form;rw[o.ZI a1] at rq;have qC:=congrArg List.length rq;simp only[List.length_append] at qC;have uP:=o.D1 m m.procs[k];refine eb ?_;simp -dsimp only[cB];refine eb ?_;refine S_ [1,4] (fun x:gA=>[(3,.slice x.1 x.2.1 x.2.2)]) (fun x w'=>(Ext w w'/\w'.heap[bw]? = aD.heap[bw]?)/\aS o.cX.enc T.e 2 w.heap.size w' (.slice x.1 x.2.1 x.2.2) (l++o.jA k m.procs[k])) ?_ ?_
  .refine aa ?_;apply I_<;>intro g2
   .have bB:o.jA k m.procs[k]=[⟨(k:Int),0⟩]:=by unfold o.jA;rw[if_pos g2]
    rw[bB] at qC ⊢;simp only[List.length_cons,List.length_nil] at qC;refine aa ?_;intro aN bW fe ah bl;have dT:=dA.ext ah;have o5:=ah.obj av;refine aa ?_;refine U_ (y:=⟨(k:Int),0⟩) dT bl rfl (fun _=>rfl) o.ZH (by simp only;omega) (by unfold maxLen;simp only;omega) (aj.trans ah).size fun aQ n c aU dO nM=>?_;refine aa ?_;exact⟨(aQ,n,c),bc,⟨dT.ln (aj.trans ah) nM (GA _),by rw[av];exact dT.box nM o5 BN⟩,dO⟩
   .have bB:o.jA k m.procs[k]=[]:=by unfold o.jA;rw[if_neg g2]
    refine aa ?_;exact⟨v,bc,⟨aj,aL⟩,by rw[bB,AF1];exact dA⟩
  rintro v3 S aN ⟨⟨ah,bl⟩,dT⟩;rw[av] at bl;clear av;refine aa ?_;refine _P [1,4] (fun x:gA×Nat=>[(3,.slice x.1.1 x.1.2.1 x.1.2.2),(5,.I ((x.2:Int)+1))]) (v3,0) (fun x w'=>(x.2<=o.elems m m.procs[k]/\Ext w w'/\w'.heap[bw]? = aN.heap[bw]?)/\aS o.cX.enc T.e 2 w.heap.size w' (.slice x.1.1 x.1.2.1 x.1.2.2) (l++o.jA k m.procs[k]++o.j6 k x.2)) (fun x=>4 - x.2) bc ⟨⟨AF6 _,ah,rfl⟩,by simpa[o.j6] using dT⟩ ?_;rw[bl];clear bl;rintro⟨v4,j⟩ S aU ⟨⟨aF,ax,bp⟩,dO⟩;refine aa ?_;refine P_ _ (fun w' e=>apv _ m m.procs[k] _ _ w' (h.ext (ax.trans e))) ?_;refine aa ?_;intro bt aI;have b9:=aI.obj bp;have dF:=dO.ext aI;refine aa ?_;apply I_<;>intro g2
  .have ek:j<o.elems m m.procs[k]:=AK
   refine aa ?_;intro bz ez gm aM cb;have dn:=dF.ext aM;have o5:=aM.obj b9;have wA:=(ax.trans aI).trans aM;refine aa ?_;have hN:(l++o.jA k m.procs[k]++o.j6 k j).length+1<=(o.insts m).length:=by
    simp only[List.length_append,o.j6,List.length_map,List.length_range] at qC ⊢;omega
   refine U_ (y:=⟨(k:Int),(j:Int)+1⟩) dn cb rfl (fun _=>rfl) o.ZH (QB (AI9 16 hN) AK) (QB hN (by unfold maxLen;omega)) wA.size fun aQ n c bK ec kU=>?_;refine aa ?_;exact⟨((aQ,n,c),j+1),bc,⟨⟨by show j+1<=_;omega,dn.ln wA kU (GA _),dn.box kU o5 BN⟩,by rw[o.aa2,<-Vq];exact ec⟩,by show 4 - (j+1)<4 - j;omega⟩
  .have nc:j=o.elems m m.procs[k]:=by simp only at aF;omega
   refine aa ?_;exact⟨a1,aL,(v4,l++(o.jA k m.procs[k]++o.j6 k j)),bc,⟨ax.trans aI,b9⟩,by rw[<-Vq];exact dF,by rw[nc,<-rq];simp⟩
 .rw[AF0 AK] at rq;refine aa ?_;refine⟨?_,aj⟩;simp only[o.j1,List.append_nil] at rq;rw[<-rq];exact dA
theorem abL(cs:C_ B_)(m:o.Model)(w:A_)(h:o.eh w cs m)(aK:m.cK)(ix:(o.refs m).length*16<=140737488351232) :
  DD F.Cv #[.agg cs.toArray] w fun v w'=>aS o.Ref.enc T.f 2 w.heap.size w' v (o.refs m)/\Ext w w':=by
 obtain⟨b6,bx,bR,c1,bX,c2,bZ,bu,ca,bC,rfl,af,h1,I,ab,aH,e2,eE,eJ,er,eH⟩:=h.form;refine br E.Cv ?_;refine aa ?_;intro w1 bw cM ai al;refine aa ?_;refine J_ (Gs _ m w1 (h.ext ai) aK) ?_;rintro bL aD ⟨U,aj⟩;have av:=aj.obj al;have kp:ku aD bL (o.insts m):=aS.hE (enc:=o.cX.enc) (fun _=>rfl) U;obtain⟨cn,ci,rfl,bi⟩:=kp.form;have Ny:=ai.trans aj;refine aa ?_;refine L_ 5 (o.insts m).length [1,3] (fun x:gA×C_ o.Ref=>[(4,.slice x.1.1 x.1.2.1 x.1.2.2)]) ((none,0,0),[]) (fun k x w'=>(Ext aD w'/\aS o.Ref.enc T.f 2 aD.heap.size w' (.slice x.1.1 x.1.2.1 x.1.2.2) x.2)/\x.2++o.nX m ((o.insts m).drop k) k=o.refs m) bc bc ⟨⟨Ext.refl _,aS.nil _ _ _ _ _⟩,by simp[o.refs]⟩ ?_;rintro k ⟨v,l⟩ S aN hk ⟨⟨ah,dT⟩,Cg⟩;have bl:=ah.obj av;refine aa ?_;apply I_<;>intro g1
 .have a1:k<(o.insts m).length:=AK
  have Aj:=o.rC (o.insts m)[k] (GR _);obtain⟨qH,uQ⟩:=QA Aj.aR;have oD:qH<m.procs.length:=by have:=Aj.U;omega
  obtain⟨a,rfl⟩:=ab.addr;obtain⟨ij,rfl⟩:=kp.addr;obtain⟨ak,b2,dV,dP,e7,fy⟩:=ab.at qH oD;obtain⟨_,_,rfl,_⟩:=e7.form;obtain⟨_,_,rfl,lc⟩:=fy.form;have mF:o.qJ m (o.insts m)[k]=m.procs[qH].cQ.length:=by
   unfold o.qJ;rw[uQ,o.iM AK AK];simp
  rw[o.apH a1,mF] at Cg;have qC:=congrArg List.length Cg;simp only[List.length_append] at qC;refine aa ?_;refine L_ 6 m.procs[qH].cQ.length [1,3,5] (fun x:gA=>[(4,.slice x.1 x.2.1 x.2.2)]) v (fun j x w'=>Ext aD w'/\aS o.Ref.enc T.f 2 aD.heap.size w' (.slice x.1 x.2.1 x.2.2) (l++o.refsOf k j)) bc bc ⟨ah,by simpa[o.refsOf] using dT⟩ ?_;clear bl;rintro j v4 S aU aF ⟨ax,dO⟩;have bp:=ax.obj av;have Cj:=dP.ext Ny;refine aa ?_;refine K_ qH uQ oD ?_;refine aa ?_;intro bt aI;have dF:=dO.ext aI;refine aa ?_;apply I_<;>intro g2
  .have ek:j<m.procs[qH].cQ.length:=AK
   refine aa ?_;intro bz ez gm aM cb;have dn:=dF.ext aM;have wA:=(ax.trans aI).trans aM;refine aa ?_;have hN:(l++o.refsOf k j).length+1<=(o.refs m).length:=by
    simp only[List.length_append,o.refsOf,List.length_map,List.length_range] at qC ⊢;omega
   refine U_ (y:=⟨(k:Int),(j:Int)⟩) dn cb rfl (fun _=>rfl) o.apG AK (by unfold maxLen;omega) wA.size fun aQ n c bK ec kU=>?_;refine aa ?_;exact⟨ek,aL,(aQ,n,c),bc,dn.ln wA kU (GA _),by rw[o.abP,<-Vq];exact ec⟩
  .have nc:j=m.procs[qH].cQ.length:=AK
   refine aa ?_;exact⟨a1,aL,(v4,l++o.refsOf k j),bc,⟨ax.trans aI,dF⟩,by rw[nc,<-Cg];simp⟩
 .rw[AF0 AK] at Cg;refine aa ?_;refine⟨?_,Ny.trans ah⟩;simp only[o.nX,List.append_nil] at Cg;rw[<-Cg];exact dT.low Ny.size
theorem apB(cs:C_ B_)(m:o.Model)(w:A_)(h:o.eh w cs m)(aK:m.cK)(cY:o.vB m) :
  DD F.Cv #[.agg cs.toArray] w fun v w'=>aS o.Ref.enc T.f 2 w.heap.size w' v (o.refs m)/\Ext w w' :=
 abL cs m w h aK (by have:=o.ve cY;omega)
end Go.Proofs.R
end
section
namespace ba
open Go
def cL(n:Int):C_ B_:=[.int .i64 n]
theorem l3:∀(y:Int),∀u∈cL y,u.oneCell'=true:=by intro y u hu;simp[cL] at hu;subst hu;rfl
instance auj:oV (Flat cL) (fun n=>[Value.int .i64 n]):=⟨fun _ _ _ h=>h⟩
end ba
end
section
namespace Go.Proofs.R
open Go Go.RowKit ba
abbrev encI:Int->C_ B_:=fun n=>[Value.int .i64 n]
abbrev nw(base:Nat)(w:A_)(v:B_)(xs:C_ Int):Prop:=aS encI T.a 1 base w v xs
structure qS(base b:Nat)(w:World)(m:Value)(st:List Int):Prop where
 ex:∃AN,w.heap[b]? = some (.cells #[AN,m] T.ny)/\nw base w AN st
 lt:b<base
 le:base<=w.heap.size
theorem qS.ext{base b:Nat}{w w':A_}{m:B_}{st:C_ Int}(h:qS base b w m st)(he:Ext w w'):qS base b w' m st :=
 let ⟨AN,h1,I⟩:=h.ex
 ⟨⟨AN,he.obj h1,I.ext he⟩,h.lt,QB h.le he.size⟩
theorem Ed(st:C_ Int)(h:0<st.length):st.getLastD 0=st[st.length - 1]:=by
 rw[List.getLastD_eq_getLast?,List.getLast?_eq_getElem?,List.getElem?_eq_getElem AK];rfl
theorem acP(base b:Nat)(w:A_)(m:B_)(st:C_ Int)(h:qS base b w m st)(af:0<st.length) :
  DD F.IE #[.pointer (some ⟨b,0,none⟩)] w fun v w'=>v = .I (st.getLastD 0)/\Ext w w':=by
 obtain⟨AN,c3,aO⟩:=h.ex;obtain⟨aQ,cap,rfl,an,hm⟩:=aO.form;have U:Ints w _ st:=aS.jD (enc:=encI) (sz:=1) (fun _=>rfl) aO;obtain⟨a,rfl⟩:=U.addr af;unfold maxLen at hm;refine br E.IE ?_;refine aA ?_;refine K_ (st.length - 1) AK AK ?_;refine aA ?_;intro w1 he;refine aA ?_;rw[Ed _ af];exact cd
theorem al7(x:o.Node)(cs:C_ B_)(s:o.Scope)(base b:Nat)(w:A_)(m:B_)(st:C_ Int)(ag:x.ok)(h:o.fZ w cs s)(hm:qS base b w m st)(ab:x.op=3->0<st.length) :
  DD F.Io #[.pointer (some ⟨b,0,none⟩),.agg x.enc.toArray,.agg cs.toArray] w fun v w'=>v = .tuple #[.I (o.jw x s (st.getLastD 0)).1,.I (o.jw x s (st.getLastD 0)).2]/\Ext w w':=by
 obtain⟨a0,bx,db,c1,a2,c2,a3,bu,a4,bC,rfl,pj,cZ,dt,ef,gP,e2,eE,eJ,er,eH⟩:=h.form;refine br E.Io ?_;simp -dsimp only[cB];refine q0 ?_;refine O_ fun w1 bw cM ai al=>?_;refine q0 ?_;refine O_ fun aD bS dm aj av=>?_;have he:=ai.trans aj;have cE:aD.heap[bw]? = some (.cells #[.I x.op,.I x.n] T.h):=aj.obj al;clear al;refine q0 ?_;simp -dsimp only[cB];refine q0 ?_;refine _u (fun a6 w'=>a6 0 = .pointer (some ⟨b,0,none⟩)/\a6 4 = .pointer (some ⟨bw,0,none⟩)/\a6 5 = .pointer (some ⟨bS,0,none⟩)/\w'=aD/\(x.op=2\/x.op=3\/x.op=4) /\
  a6 8=if x.op=4 then .slice a4 s.locals.length bC else .slice db s.vars.length c1) ?_ ?_
 .refine aA ?_;apply I_<;>intro g1
  .refine aA ?_;refine J_ (MK x.n 0 aD) ?_;rintro _ aN ⟨rfl,ah⟩;have hk:o.jw x s (st.getLastD 0)=if o.within x.n then (0,0) else (0,10):=by rw[o.jw,if_pos g1]
   have aB:(o.tell (· + ·) x.n 0).2=o.within x.n:=by
    unfold o.tell
    have:o.within 0=true:=rfl
    simp only[Int.add_zero,this,Bool.and_true,Bool.and_self];split<;>simp_all
   rw[hk,aB];refine aA ?_;refine N_ (fun g2=>?_) (fun g2=>?_)
   all_goals
    refine aA ?_;rw[g2];exact cd
  refine aA ?_;apply I_<;>intro g4
  .refine aA ?_;refine⟨trivial,trivial,trivial,trivial,.inr (.inr g4),by rw[if_pos g4]⟩
  refine aA ?_;apply I_<;>intro g2
  .refine aA ?_;refine⟨trivial,trivial,trivial,trivial,.inl g2,by rw[if_neg g4]⟩
  refine aA ?_;apply I_<;>intro g3
  .refine aA ?_;refine⟨trivial,trivial,trivial,trivial,.inr (.inl g3),by rw[if_neg g4]⟩
  refine aA ?_;refine R_ (c:=[_,_]) cE (Ext.refl _) rfl ?_;refine aA ?_;refine R_ (c:=[_,_,_,_,_,_]) av (Ext.refl _) rfl ?_;refine aA ?_;refine J_ (al8 x _ s aD ag (h.ext he)) ?_;rintro _ aN ⟨rfl,ah⟩;refine aA ?_;have hk:o.jw x s (st.getLastD 0)=o.mJ x s:=by rw[o.jw,if_neg g1,if_neg AK]
  rw[hk];exact cd
 .rintro S w' cc ⟨kr,p5,pn,rfl,mG,ach⟩;have hk:o.jw x s (st.getLastD 0)=(let q:=o.gn (if x.op=4 then s.locals else s.vars) x.n s;if q.2.2=false then (0,8) else if (x.op=3/\(q.2.1=0\/st.getLastD 0≠q.2.1))\/(x.op≠3/\q.2.1≠0) then (0,9) else (q.1,0)):=by
   rw[o.jw,if_neg AK,if_pos mG]
  rw[hk];clear hk;have aG:o.h3 w' (S 8) (if x.op=4 then s.locals else s.vars):=by
   rw[ach];split
   .exact gP.ext he
   .exact cZ.ext he
  generalize (if x.op=4 then s.locals else s.vars)=l at aG ⊢;obtain⟨R8,fk⟩:∃R8,S 8=R8:=⟨_,rfl⟩;rw[fk] at aG;clear ach;refine dx (i_ kr (i_ p5 (i_ pn fk))) ?_;refine R_ (c:=[_,_,_,_,_,_]) av (Ext.refl _) rfl ?_;refine dx (i_ kr (i_ p5 pn)) ?_;refine J_ (arE _ l x.n _ s w' aG (h.ext he)) ?_;rintro _ aN ⟨rfl,ah⟩;generalize o.gn l x.n s=q;obtain⟨yJ,AH,Rf⟩:=q;refine dx (i_ kr (i_ p5 pn)) ?_;refine N_ (fun g1=>?_) (fun g1=>?_);rotate_left
  .refine aA ?_;simp only[g1,if_true];exact cd
  have m3:=(hm.ext he).ext ah;refine dx (i_ kr (i_ p5 pn)) ?_;apply I_<;>intro g2
  .refine dx (i_ kr (i_ p5 pn)) ?_;apply I_<;>intro g3
   .refine dx (i_ kr (i_ p5 pn)) ?_;simp only[g1,Bool.true_eq_false,if_false];rw[if_pos (.inl ⟨g2,.inl g3⟩)];exact cd
   refine dx (i_ kr (i_ p5 pn)) ?_;refine J_ (acP base b aN m st m3 (ab g2)) ?_;rintro _ aU ⟨rfl,ax⟩;refine dx (i_ kr (i_ p5 pn)) ?_;apply I_<;>intro g4
   .refine dx (i_ kr (i_ p5 pn)) ?_;simp only[g1,Bool.true_eq_false,if_false];rw[if_neg AK];exact cd
   .refine aA ?_;simp only[g1,Bool.true_eq_false,if_false];rw[if_pos (.inl ⟨g2,.inr g4⟩)];exact cd
  .refine dx (i_ kr (i_ p5 pn)) ?_;apply I_<;>intro g4
   all_goals
    refine aA ?_;simp only[g1,Bool.true_eq_false,if_false]
   .rw[if_neg AK];exact cd
   .rw[if_pos (.inr ⟨g2,g4⟩)];exact cd
end Go.Proofs.R
end
section
namespace Go.Proofs.R
open Go Go.RowKit ba
theorem _w{P:D_}{x:B_}{args:C_ B_}{w:A_}{aE:B_->Prop}{t}(v:B_)(h:∀w',Ext w w'->vw P x args w' (fun u bO=>u=v/\Ext w' bO) ⟨⟩)(hk:aE v):Dt P x args w aE t:=by
 unfold Dt;refine⟨v,fun w' he=>?_,hk⟩
 have:=h w' he
 unfold vw at this;obtain⟨f,first,cap,e,ay,aP⟩:=this;exact⟨f,first,cap,e,ay,aP.mono fun _ _ ⟨h1,I⟩=>⟨h1,he.trans I⟩⟩
theorem xA.ext{w w':A_}{v:B_}{g:Int->Int->Int×Bool}(he:Ext w w')(h:xA w v g):xA w' v g:=by
 rcases h with h | ⟨c,f,p,h1,I,ab⟩
 .exact .inl h
 .exact .inr ⟨c,f,p,h1,he.obj I,ab⟩
def LM(f:o.Node->C_ Int->Int×Int)(two:o.pv->C_ Int->Int×Int)(leaf:o.Node->C_ Int->Int×Int):Prop :=
 ∀x st,f x st=match o.hj x.op with | some ae=>two ae (st.drop (st.length - ae.parts.toNat)) | none=>leaf x st
theorem QR{x:Int}{ae:o.pv}(h:o.hj x=some ae):1<=ae.parts/\ae.parts<=2:=by
 unfold o.hj at h
 repeat' split at h
 all_goals first | (cases h;exact⟨BN,BN⟩) | cases h
theorem aq2(f:o.Node->C_ Int->Int×Int)(two:o.pv->C_ Int->Int×Int)(leaf:o.Node->C_ Int->Int×Int)(ay:LM f two leaf)
  (x:o.Node)(base b:Nat)(w:A_)(m nu v2:B_)(st:C_ Int)(hm:qS base b w m st)(aO:qT w m)(wi:st.length<=24)
  (Pl:0<=o.fI x.op->o.fI x.op<=st.length->o.hj x.op=none->∀w' cT t,Ext w w'->(∀bO,Ext w' bO->cT (.tuple #[.I (leaf x st).1,.I (leaf x st).2]) bO)->yY Tryz.prog nu [.agg x.enc.toArray] w' cT t)
  (PU:∀ae eF fm w' cT t,Ext w w'->o.hj x.op=some ae->Dq w' ae eF->ae.parts<=st.length->Ints w' fm (st.drop (st.length - ae.parts.toNat)) ->
   (∀bO,Ext w' bO->cT (.tuple #[.I (two ae (st.drop (st.length - ae.parts.toNat))).1,.I (two ae (st.drop (st.length - ae.parts.toNat))).2]) bO)->vw Tryz.prog v2 [eF,fm] w' cT t) :
  DD F.gd #[.pointer (some ⟨b,0,none⟩),.agg x.enc.toArray,nu,v2] w fun v w' =>
   v = .I (o.stepG f x st).1/\Mod (fun k=>k=b\/base<=k) w w'/\((o.stepG f x st).1=0->qS base b w' m (o.stepG f x st).2):=by
 obtain⟨AN,c3,fO⟩:=hm.ex;obtain⟨aQ,cap,rfl,EK,iw⟩:=fO.form;have U:Ints w _ st:=aS.jD (enc:=encI) (sz:=1) (fun _=>rfl) fO;unfold maxLen at iw;refine br E.gd ?_;simp -dsimp only[cB];refine q0 ?_;refine O_ fun w1 bw cM ai al=>?_;refine q0 ?_;simp -dsimp only[cB];refine q0 ?_;refine P_ _ (fun w' e=>aom x.op m w' (aO.ext (ai.trans e))) ?_;refine q0 ?_;intro aD aj;have fb:=ai.trans aj;refine q0 ?_;simp -dsimp only[cB];generalize az:o.fI x.op=n;have j0 : -1<=n/\n<=2:=by rw[<-az];unfold o.fI; (repeat' split)<;>omega
 refine aA ?_;apply I_<;>intro g1
 .refine aA ?_;have ak:o.stepG f x st=(3,st):=by unfold o.stepG;rw[az,if_pos g1]
  rw[ak];exact⟨rfl,fb.mod,fun h=>by cases h⟩
 refine aA ?_;apply I_<;>intro g2
 .refine aA ?_;have ak:o.stepG f x st=(4,st):=by unfold o.stepG;rw[az,if_neg g1,if_pos g2]
  rw[ak];exact⟨rfl,fb.mod,fun h=>by cases h⟩
 refine q0 ?_;simp -dsimp only[cB];refine q0 ?_;simp -dsimp only[cB];refine q0 ?_;have eQ:o.stepG f x st=if (f x st).2≠0 then ((f x st).2,st) else if (st.take (st.length - n.toNat)++[(f x st).1]).length > 12 then (12,st) else (0,st.take (st.length - n.toNat)++[(f x st).1]):=by
  unfold o.stepG;rw[az,if_neg g1,if_neg g2]
 rw[eQ];clear eQ;have yl:=ay x st;generalize aP:f x st=r at yl ⊢;refine _u (fun a6 w'=>a6 0 = .pointer (some ⟨b,0,none⟩)/\a6 9 = .I n/\a6 10 = .I r.1/\a6 11 = .I r.2/\Ext w w') ?_ ?_
 .refine aA ?_;intro aN ah;obtain⟨es,q,j2,hS,wW⟩:=(aO.ext (fb.trans ah)).look x.op;refine aA ?_;refine _m j2 hS ?_;cases mG:o.hj x.op with
  | none =>
   simp only[mG] at wW yl;subst wW;simp only[nn,Option.map_none,Option.getD_none,Option.isSome_none,if_true];refine aA ?_;refine O_ fun aU cC ff ax bp=>?_;refine⟨ax,?_⟩;refine aA ?_;refine T_ (cs:=#[.I 0,.I 0,.I 0,.nilFunc]) bp rfl rfl (by simp[Value.oneCell']) fun bt fg b9=>?_;have aI:Ext aN bt:=fg.ext ax ff;clear bp fg ax;refine aA ?_;refine R_ (c:=[_,_]) (aj.obj al) (fK) rfl ?_;refine aA ?_;refine Pl AK AK mG _ _ _ ((fb.trans ah).trans aI) fun bz aM=>?_;refine aA ?_;rw[yl];exact⟨trivial,trivial,rfl,rfl,((fb.trans ah).trans aI).trans aM⟩
  | some ae =>
   simp only[mG] at wW yl;obtain⟨i,eF,rfl,u,rfl,bb⟩:=wW;obtain⟨bR,bX⟩:=QR mG;have on:=(o.Ge mG).1;simp only[nn,Option.map_some,Option.getD_some,Option.isSome_some,if_true];refine aA ?_;refine O_ fun aU cC ff ax bp=>?_;refine⟨ax,?_⟩;refine aA ?_;refine T_ (cs:=#[.I ae.parts,.I ae.jO,.I ae.makes,u]) bp rfl rfl (by rcases bb with ⟨f,rfl,_⟩ | ⟨c,f,p,rfl,_⟩<;>simp[Value.oneCell']) fun bt fg b9=>?_;have aI:Ext aN bt:=fg.ext ax ff;clear bp fg ax;have OZ:=(fb.trans ah).trans aI;have atE:Dq aN ae (.agg #[.I ae.parts,.I ae.jO,.I ae.makes,u]):=⟨u,rfl,bb⟩;obtain⟨p,rfl⟩:=QA (show 0<=n by omega);have au:ae.parts.toNat=p:=AK
   refine aA ?_;refine R_ (c:=[_,_,_,_]) b9 (Ext.refl _) rfl ?_;refine aA ?_;refine _8 (st.length - p) (by refine aT ?_;rw[Int.ofNat_sub AK]) ⟨AK,AK⟩ ?_;have aB:=U.tail (st.length - p) AK;rw[au] at yl;refine aA ?_;refine _w _ (fun w' e=>PU ae _ _ w' _ _ (OZ.trans e) mG ⟨u,rfl,bb.ext (aI.trans e)⟩ AK (by rw[au];exact aB.ext Flat.ext (OZ.trans e)) fun bO aJ=>⟨rfl,aJ⟩) ?_;refine aA ?_;intro bz aM;refine aA ?_;rw[yl,au];exact⟨trivial,trivial,rfl,rfl,OZ.trans aM⟩
 .clear al ai aj fb;rintro S aN cc ⟨kr,Gy,Gx,CP,ah⟩;simp -dsimp only[cB];refine dx (i_ kr (i_ Gy (i_ Gx CP))) ?_;apply I_<;>intro g3;rotate_left
  .refine dx CP ?_;rw[if_pos g3];exact⟨rfl,ah.mod,fun h=>absurd h g3⟩
  obtain⟨p,rfl⟩:=QA (show 0<=n by omega);have rb:¬r.2≠0:=by simpa using g3
  rw[if_neg rb];have iw:(st.take (st.length - p)++[r.1]).length=st.length - p+1:=by simp[List.length_take]
  have js:=hm.ext ah;have dT:nw base aN (.slice aQ st.length cap) st:=fO.ext ah;refine q0 ?_;simp -dsimp only[cB];refine dx (i_ kr (i_ Gy (i_ Gx CP))) ?_;intro aU ax;have dO:nw base aU (.slice aQ st.length cap) st:=dT.ext ax;refine dx (i_ kr (i_ Gy (i_ Gx CP))) ?_;refine _N (st.length - p) (by refine aT ?_;rw[Int.ofNat_sub AK]) AK ?_;refine dx (i_ kr (i_ Gy (i_ Gx CP))) ?_;refine Y_ (cs:=[r.1].flatMap encI) (by simp[List.range,List.range.loop,fa,lay,de,bN,Value.cells,encI]) fun bt dR kT aI b9=>?_;refine⟨aI,?_⟩;refine aA ?_;have dF:nw base bt (.slice aQ (st.length - p) cap) (st.take (st.length - p)):=aS.head (enc:=encI) (sz:=1) (xs:=st) (fun _=>rfl) (aS.ext aI dO) (st.length - p) (AH6 _ _);have cg:(st.take (st.length - p)).length=st.length - p:=by simp[List.length_take]
  have CF:((st.take (st.length - p)).length+[r.1].length)*8<=140737488355328:=by rw[cg];simp only[List.length_cons,List.length_nil];omega
  have aoW:(st.take (st.length - p)).length+[r.1].length<=maxLen:=by rw[cg];simp only[List.length_cons,List.length_nil,maxLen];omega
  have cZ:∀y,∀u∈encI y,u.oneCell'=true:=fun y u h=>by simp[encI] at h;subst h;rfl
  refine _O (xs:=st.take (st.length - p)) (ys:=[r.1]) dF (fun _=>rfl) (gT b9) rfl cZ CF aoW (by have:=hm.le;have:=ah.size;have:=ax.size;have:=aI.size;omega) fun v6 bz dn iJ=>?_;have EC:bt.heap[b]? = some (.cells #[.slice aQ st.length cap,m] T.ny):=aI.obj (ax.obj (ah.obj c3));have gm:bz.heap[b]? = some (.cells #[.slice aQ st.length cap,m] T.ny):=by
   refine(iJ.block b (cA EC) fun e=>?_).trans EC
   have:=(dF.lt b e.symm).1
   have:=hm.lt
   omega
  refine aA ?_;refine _E gm Bs (by obtain⟨aQ,cap,e,_⟩:=dn.form;rw[e];rfl) fun bK dL ct=>?_;have wG:Mod (fun k=>k=b\/base<=k) w bK :=
   (((ah.trans ax).trans aI).mod.trans (Mod.grown iJ fun k hk=>.inr (dF.lt k hk).1)).trans (dL.mod (.inl rfl))
  have iv:qS base b bK m (st.take (st.length - p)++[r.1]) :=
   ⟨⟨v6,ct,dn.wr dL hm.lt⟩,hm.lt,QB hm.le wG.size⟩
  obtain⟨qK,asO,rfl,cb,_⟩:=dn.form;rw[iw];have atS:((st.take (st.length - p)++[r.1]).length:Int)=st.length - p+1:=by rw[iw];omega
  refine dx (i_ kr (i_ Gy (i_ Gx CP))) ?_;apply I_<;>intro g4
  .refine aA ?_;simp only[Int.toNat_natCast,iw];rw[if_pos AK];exact⟨rfl,wG,fun h=>by cases h⟩
  .refine aA ?_;simp only[Int.toNat_natCast,iw];rw[if_neg AK];exact⟨rfl,wG,fun _=>iv⟩
end Go.Proofs.R
end
section
namespace Go.Proofs.R
open Go Go.RowKit ba
theorem acd(f:o.Node->C_ Int->Int×Int)(two:o.pv->C_ Int->Int×Int)(leaf:o.Node->C_ Int->Int×Int)(ay:LM f two leaf)(cK:Int->Prop)
  (b:Nat)(w0 w:A_)(JS:Ext w0 w)(sg:w0.heap.size<=b)(gZ nu v2:B_)(e:C_ o.Node)(he:o.eS w0 gZ e)(ao:w.heap[b]? = some (.cells #[.slice none 0 0,.map none] T.ny))
  (EV:∀x st,x.ok->(∀z∈st,cK z)->0<=o.fI x.op->o.fI x.op<=st.length->(f x st).2=0->cK (f x st).1)
  (Pl:∀x st base m w',x.ok->Mod (fun k=>k=b) w w'->qS base b w' m st->(∀z∈st,cK z)->0<=o.fI x.op->o.fI x.op<=st.length->o.hj x.op=none->∀w1 cT t,Ext w' w1 ->
   (∀bO,Ext w1 bO->cT (.tuple #[.I (leaf x st).1,.I (leaf x st).2]) bO)->yY Tryz.prog nu [.agg x.enc.toArray] w1 cT t)
  (PU:∀ae eF fm l w' cT t,Mod (fun k=>k=b) w w'->Dq w' ae eF->(∃x,o.hj x=some ae)->ae.parts=l.length->Ints w' fm l ->
   (∀bO,Ext w' bO->cT (.tuple #[.I (two ae l).1,.I (two ae l).2]) bO)->vw Tryz.prog v2 [eF,fm] w' cT t) :
  DD F.Im #[.pointer (some ⟨b,0,none⟩),gZ,nu,v2] w fun v w' =>
   v = .tuple #[.I (o.mN f e).1,.I (o.mN f e).2]/\Mod (fun k=>k=b) w w':=by
 obtain⟨aQ,cap,rfl,hlen⟩:=he.form;refine br E.Im ?_;refine aA ?_;apply I_<;>intro g1
 .refine aA ?_;rw[o.mN,if_pos AK];exact⟨rfl,Mod.refl _ _⟩
 refine aA ?_;apply I_<;>intro g2
 .refine aA ?_;rw[o.mN,if_neg AK,if_pos AK];exact⟨rfl,Mod.refl _ _⟩
 refine aA ?_;refine J_ (anX w) ?_;rintro m w1 ⟨Fe,ai⟩;refine aA ?_;refine _E (ai.obj ao) BN (by obtain⟨r,_,_,_,e,_⟩:=Fe;rw[e];rfl) fun aD nR av=>?_;have EF:aD.heap[b]? = some (.cells #[.slice none 0 0,m] T.ny):=av;clear av;have akE:qT aD m:=Fe.mod (A:=fun k=>k=b) (nR.mod rfl) fun k ae h1 I hk=>by
  subst hk;rw[ai.obj ao] at h1;injection h1 with h1
  rcases I with ⟨es,c,I⟩ | ⟨cs,I⟩
  .rw[I] at h1;cases h1
  .rw[I] at h1;injection h1 with _ h1
   cases h1
 have YU:Mod (fun k=>k=b) w aD:=ai.mod.trans (nR.mod rfl);have cg:b<aD.heap.size:=cA EF;refine aA ?_;refine _i 27 e.length (fun k S w'=>Mod (fun k=>k=b) aD w'/\∃st,o.gi f (e.take k) []=(0,st)/\qS aD.heap.size b w' m st/\(0<k->1<=st.length)/\st.length<=12/\∀z∈st,cK z)
  (by simp -dsimp only[c7,cB,Nat.reduceAdd,Nat.reduceEqDiff,reduceIte,reduceCtorEq,df]) ⟨Mod.refl _ _,[],by simp[o.gi],⟨⟨_,EF,aS.nil _ _ _ _ _⟩,cg,GA _⟩,Bs,Bs,Bs⟩ ?_
 rintro k S aN cc hk o3 ⟨wG,st,h8,z8,Ei,sd,tu⟩;have af:=cc 0 rfl;have h1:=cc 1 rfl;have I:=cc 2 rfl;have ab:=cc 3 rfl;have uJ:=cc 25 rfl;have mB:=cc 26 rfl;simp only[bN,Nat.reduceAdd,Nat.reduceEqDiff,reduceIte,kh,nG] at af h1 I ab uJ mB;clear cc;have JC:Mod (fun k=>k=b) w aN:=YU.trans wG;refine dx (i_ af (i_ h1 (i_ I (i_ ab (i_ uJ (i_ mB o3)))))) ?_;apply I_<;>intro g3
 .have a1:k<e.length:=AK
  have as3:Ext w0 aN:=JC.ext JS fun q ar e=>AK
  obtain⟨a,rfl⟩:=he.addr;have uX:=(he.at k a1).ok;have kV:=fun af=>o.RC (f:=f) (e:=e) AK a1 h8 af;have uT:=o.CM a1 h8;have akF:qT aN m:=akE.mod (A:=fun k=>k=b) wG fun k ae h1 I hk=>by
   subst hk;rw[EF] at h1;injection h1 with h1
   rcases I with ⟨es,c,I⟩ | ⟨cs,I⟩
   .rw[I] at h1;cases h1
   .rw[I] at h1;injection h1 with _ h1
    cases h1
  refine dx (i_ af (i_ h1 (i_ I (i_ ab (i_ uJ (i_ mB o3)))))) ?_;generalize ag:e[k]=x at *;refine _M (vs:=x.enc) (fun _=>by simp -dsimp only[c7,cB,Nat.reduceAdd,Nat.reduceEqDiff,reduceIte,reduceCtorEq,df]) rfl rfl (by simp[o.Node.enc,Value.oneCell']) fun aU cC ff ax bp=>?_;refine dx (i_ af (i_ h1 (i_ I (i_ ab (i_ uJ (i_ mB o3)))))) ?_;refine R_ (c:=x.enc) bp (Ext.refl _) rfl ?_;refine dx (i_ af (i_ h1 (i_ I (i_ ab (i_ uJ (i_ mB o3)))))) ?_;have Po:Mod (fun k=>k=b) w aU:=JC.trans ax.mod;refine J_ (aq2 f two leaf ay x aD.heap.size b aU m nu v2 st (z8.ext ax) (akF.ext ax) AK
   (fun cZ dt ef w' cT t Fu hk=>Pl x st _ m aU uX Po (z8.ext ax) tu cZ dt ef w' cT t Fu hk)
   (fun ae eF fm w' cT t Fu cZ dt ef gP hk=>PU ae eF fm _ w' cT t (Po.trans Fu.mod) dt ⟨_,cZ⟩ (by have:=QR cZ;simp[List.length_drop];omega) gP hk)) ?_
  rintro _ bt ⟨rfl,lM,Zp⟩;have akh:Mod (fun k=>k=b) w bt:=Po.then lM fun i U h=>by
   rcases h with h | h
   .exact h
   .have:=YU.size;omega
  refine dx (i_ af (i_ h1 (i_ I (i_ ab (i_ uJ (i_ mB o3)))))) ?_;apply I_<;>intro g4;rotate_left
  .refine dx (i_ af (i_ h1 (i_ I (i_ ab (i_ uJ (i_ mB o3)))))) ?_;rw[kV g4];exact⟨aL,akh⟩
  have E6:=o.aq1 g4;have ajU:∀z∈(o.stepG f x st).2,cK z:=by
   have aK:=EV x st uX tu;clear kV uT E6 Zp;unfold o.stepG at g4 ⊢;by_cases cZ:o.fI x.op<0
   .rw[if_pos cZ] at g4;cases g4
   by_cases dt:(st.length:Int)<o.fI x.op
   .rw[if_neg cZ,if_pos dt] at g4;cases g4
   by_cases ef:(f x st).2≠0
   .rw[if_neg cZ,if_neg dt,if_pos ef] at g4;exact absurd g4 ef
   by_cases gP:(st.take (st.length - (o.fI x.op).toNat)++[(f x st).1]).length > 12
   .rw[if_neg cZ,if_neg dt,if_neg ef,if_pos gP] at g4;cases g4
   rw[if_neg cZ,if_neg dt,if_neg ef,if_neg gP];intro z bI;rcases List.mem_append.1 bI with bI | bI
   .exact tu z (AJ9 bI)
   .simp at bI;subst bI;exact aK AK AK (by simpa using ef)
  refine dx (i_ af (i_ h1 (i_ I (i_ ab (i_ uJ (i_ mB o3)))))) ?_;refine⟨a1,aL,?_,(o.stepG f x st).2,?_,Zp g4,fun _=>E6.1,E6.2,ajU⟩
  .refine(wG.trans ax.mod).then lM fun i U h=>?_;rcases h with h | h
   .exact h
   .omega
  .rw[uT];exact Prod.ext g4 rfl
 .have a1:k=e.length:=AK
  subst a1;rw[AF3] at h8;obtain⟨AN,c3,fO⟩:=z8.ex;obtain⟨kY,pI,rfl,EK,iw⟩:=fO.form;have U:Ints aN _ st:=aS.jD (enc:=encI) (sz:=1) (fun _=>rfl) fO;have h1:=Ei AK;obtain⟨a,rfl⟩:=U.addr h1;have dW:o.mN f e=if st.length > 1 then (0,5) else (st.headD 0,0):=by
   rw[o.mN,if_neg AK,if_neg AK,h8,if_neg Bs]
  rw[dW];clear dW;refine dx (i_ af (i_ h1 (i_ I (i_ ab (i_ uJ (i_ mB o3)))))) ?_;apply I_<;>intro g4
  .refine aA ?_;rw[if_pos AK];exact⟨rfl,JC⟩
  .refine dx (i_ af (i_ h1 (i_ I (i_ ab (i_ uJ (i_ mB o3)))))) ?_;refine K_ 0 rfl AK ?_;refine aA ?_;rw[if_neg AK]
   have:st.headD 0=st[0]:=by
    cases st with
    | nil=>simp at h1
    | cons z st=>rfl
   rw[this];exact⟨aL,JC⟩
theorem ame(ae:o.pv)(u fm:B_)(l:C_ Int)(w:A_)(aC:Ints w fm l) :
  DD F.ex #[.agg #[.I ae.parts,.I ae.jO,.I ae.makes,u],fm] w fun v w'=>v = .tuple #[.I (o.oI ae l).1,.I (o.oI ae l).2]/\Ext w w':=by
 obtain⟨aQ,cap,rfl,hlen⟩:=aC.form;refine br E.ex ?_;refine aA ?_;refine O_ fun w1 b ao ai al=>?_;refine aA ?_;refine _i 10 l.length (fun k S w'=>w'=w1/\(l.take k).all (fun k=>(decide (ae.jO = -1)||decide (k=ae.jO))&&decide (k=l.headD 0))=true) (by simp -dsimp only[c7,cB,Nat.reduceAdd,Nat.reduceEqDiff,reduceIte,reduceCtorEq,df]) ⟨rfl,Bs⟩ ?_;rintro k S aD cc hk kR ⟨rfl,dI⟩;have h1:=cc 1 rfl;have I:=cc 2 rfl;have dS:=cc 8 rfl;have jI:=cc 9 rfl;simp only[bN,Nat.reduceAdd,Nat.reduceEqDiff,reduceIte,kh,nG] at h1 I dS jI;clear cc;refine dx (i_ h1 (i_ I (i_ dS (i_ jI kR)))) ?_;apply I_<;>intro g1;rotate_left
 .rw[LJ AK] at dI;refine dx (i_ h1 (i_ I (i_ dS (i_ jI kR)))) ?_;rw[o.oI,if_pos dI];exact cd
 have a1:k<l.length:=AK
 obtain⟨a,rfl⟩:=aC.addr;have yr:l.take (k+1)=l.take k++[l[k]]:=Ly a1;have BW:=AJ0 (xs:=l.take (k+1)) (ys:=l.drop (k+1)) (f:=fun k=>(decide (ae.jO = -1)||decide (k=ae.jO))&&decide (k=l.headD 0));rw[AH3,yr,AJ0] at BW;have af:l.headD 0=l[0]:=by
  cases l with
  | nil=>simp at a1
  | cons z l=>rfl
 have XX:((decide (ae.jO = -1)||decide (l[k]=ae.jO))&&decide (l[k]=l.headD 0))=false->o.oI ae l=(0,9):=by
  intro h;rw[o.oI,if_neg (by rw[BW];simp only[List.all_cons,List.all_nil,h];simp)]
 have EV:((decide (ae.jO = -1)||decide (l[k]=ae.jO))&&decide (l[k]=l.headD 0))=true->(l.take (k+1)).all (fun k=>(decide (ae.jO = -1)||decide (k=ae.jO))&&decide (k=l.headD 0))=true:=by
  intro h;rw[yr,AJ0,dI];simp only[List.all_cons,List.all_nil,h];rfl
 rw[af] at XX;clear BW;have au:0<l.length:=AK
 have nf:Ints aD (.slice (some a) l.length cap) l:=aC.ext ai;have B8:=EV;rw[af] at EV dI
 (repeat' first
 | (refine I_ (fun _=>?_) (fun _=>?_)<;>try (exfalso;omega))
 | (refine N_ (fun _=>?_) (fun _=>?_))
 | assumption
 | exact Ext.refl _
 | refine Ext.trans ?_ Bz
 | refine Q_ AK ?_
 | refine _L Bz ?_ rfl ?_
 | refine _C Bz ?_ rfl ?_
 | refine _Q Bz ?_ AK rfl ?_
 | refine _R Bz ?_ AK rfl ?_
 | refine _S Bz ?_ AK rfl ?_
 | refine _V AK ?_
 | refine _T (by first | assumption | omega) ?_
 | refine _U (by first | assumption | omega) ?_
 | refine _F Bz ?_
 | refine _G Bz ?_
 | simp -dsimp only[c7,cB,Nat.reduceAdd,Nat.reduceEqDiff,reduceIte,reduceCtorEq,df,h1,I,dS,jI,kR])
 all_goals first
  | (have c3:=XX (by simp;omega);rw[c3];refine⟨aL,ai⟩)
  | (refine⟨AK,aL,trivial,?_⟩;rw[af];exact EV (by simp;omega))
theorem al4(x:o.Node)(cs:C_ B_)(s:o.Scope)(base b pm dd:Nat)(w:A_)(m:B_)(st:C_ Int)(R3:F_)(ag:x.ok)(h:o.fZ w cs s)(hm:qS base b w m st)(ab:x.op=3->0<st.length)
  (wL:w.heap[pm]? = some (.cells #[.pointer (some ⟨b,0,none⟩)] R3))(tA:w.heap[dd]? = some (.cells cs.toArray T.w)) :
  DD F.aX #[.agg x.enc.toArray,.pointer (some ⟨pm,0,none⟩),.pointer (some ⟨dd,0,none⟩)] w fun v w' =>
   v = .tuple #[.I (o.jw x s (st.getLastD 0)).1,.I (o.jw x s (st.getLastD 0)).2]/\Ext w w':=by
 obtain⟨v0,v1,v2,v3,v4,rfl,_⟩:=h.ex;refine br E.aX ?_;refine aA ?_;refine O_ fun w1 bw cM ai al=>?_;have cE:w1.heap[bw]? = some (.cells x.enc.toArray T.h):=al;refine aA ?_;refine R_ (c:=x.enc) cE (Ext.refl _) rfl ?_;refine aA ?_;refine R_ tA ai rfl ?_;refine aA ?_;refine J_ (al7 x _ s base b w1 m st ag (h.ext ai) (hm.ext ai) ab) ?_;rintro _ aD ⟨rfl,aj⟩;refine aA ?_;exact cd
theorem ahf(s:o.Scope):LM (o.fw s) o.oI fun x st=>o.jw x s (st.getLastD 0):=fun _ _=>rfl
theorem aab(gZ:B_)(e:C_ o.Node)(cs:C_ B_)(s:o.Scope)(w:A_)(he:o.eS w gZ e)(h:o.fZ w cs s) :
  DD F.Ia #[gZ,.agg cs.toArray] w fun v w'=>v = .tuple #[.I (o.kind e s).1,.I (o.kind e s).2]/\Ext w w':=by
 obtain⟨v0,v1,v2,v3,v4,rfl,_⟩:=h.ex;refine br E.Ia ?_;refine aA ?_;refine O_ fun w1 dd tA ai al=>?_;refine aA ?_;refine W_ (cs:=[.slice none 0 0,.map none]) (by simp[fa]) ?_;refine aA ?_;refine O_ fun aD b ao aj av=>?_;refine aA ?_;refine O_ fun aN pm wL ah bl=>?_;refine aA ?_;refine _W bl BN rfl fun aU dE bp=>?_;have OC:aU.heap[pm]? = some (.cells #[.pointer (some ⟨b,0,none⟩)] T.db):=bp;have ax:Ext aD aU:=dE.ext ah wL;have akS:=cA av;have Zf:=cA al;have zW:Ext w aU:=(ai.trans aj).trans ax;clear bp dE ah bl;have ff:=ax.obj av;have ly:=ax.obj (aj.obj al);have gz:=ai.size;refine aA ?_;refine J_ (acd (o.fw s) o.oI (fun x st=>o.jw x s (st.getLastD 0)) (ahf s) (fun _=>True) b w aU zW AK gZ _ _ e he ff (fun _ _ _ _ _ _ _=>trivial) ?_ ?_) ?_
 .intro x st base m w' ag hm z8 _ cZ dt ef Sb cT t iy hk;refine V_ (first:=[]) (cap:=[.pointer (some ⟨pm,0,none⟩),.pointer (some ⟨dd,0,none⟩)]) Ct
   (al4 x _ s base b pm dd Sb m st _ ag (h.ext ((hm.ext zW (by intro k hk e;omega)).trans iy)) (z8.ext iy) ?_ (iy.obj (hm.obj AK OC)) (iy.obj (hm.obj AK ly))) fun v bO ⟨h1,I⟩=>by subst h1;exact hk bO I
  intro ab
  have:o.fI x.op=1:=by rw[ab];rfl
  omega
 .rintro ae eF fm l w' cT t hm ⟨u,rfl,bb⟩ _ aC U hk;exact _e (first:=[]) (cap:=[]) Ct (ame ae u fm l w' U) fun v bO ⟨h1,I⟩=>by subst h1;exact hk bO I
 rintro _ bt ⟨rfl,lM⟩;have aI:Ext w bt:=lM.ext zW (by intro k hk e;omega);refine aA ?_;exact cd
end Go.Proofs.R
end
section
namespace o
open Go Go.RowKit ba
def S9(v:B_):H_ (Var×Int)->Prop
 | some q=>v = .tuple #[.agg q.1.enc.toArray,.int .i64 q.2,.bool true]
 | none => ∃(x:Var) (k:Int),v = .tuple #[.agg x.enc.toArray,.int .i64 k,.bool false]
end o
namespace Go.Proofs.R
open Go Go.RowKit ba
theorem Wd(a b:Int)(cs:C_ B_)(s:o.Scope)(w:A_)(h:o.fZ w cs s) :
  DD F.IJ #[.I a,.I b,.agg cs.toArray] w fun v w'=>v = .tuple #[.I (o.lU a b s).1,.bool (o.lU a b s).2]/\Ext w w':=by
 obtain⟨a0,bx,db,c1,a2,c2,a3,bu,a4,bC,rfl,af,h1,I,ab,aH,e2,eE,eJ,er,eH⟩:=h.form;refine br E.IJ ?_;refine aa ?_;intro w1 b ao ai al;refine aa ?_
 (repeat' (refine aA ?_;first | (refine I_ (fun _=>?_) (fun _=>?_)<;>try (exfalso;omega)) | refine N_ (fun _=>?_) (fun _=>?_)))<;>try refine aA ?_
 all_goals
  refine⟨?_,fK⟩;unfold o.lU
  (repeat' split)<;>first | rfl | (exfalso;omega)
theorem Wj(v:B_)(l:C_ o.Var)(n:Int)(cs:C_ B_)(s:o.Scope)(w:A_)(aC:o.h3 w v l)(h:o.fZ w cs s) :
  DD F.iI #[v,.I n,.agg cs.toArray] w fun v w'=>o.S9 v (o.declared l n s)/\Ext w w':=by
 obtain⟨v0,v1,v2,v3,v4,rfl,_⟩:=h.ex;obtain⟨aQ,cap,rfl,hlen⟩:=aC.form;refine br E.iI ?_;refine aa ?_;intro w1 bw cM ai al;refine aa ?_;intro aD bS dm aj av;have he:=ai.trans aj;refine aa ?_;apply I_<;>intro g1
 .refine aa ?_;intro aN gg bl;refine aa ?_;rw[o.declared,o.gX (.inl g1)];exact⟨⟨(⟨⟨#[]⟩,0,0,0,0,0⟩:o.Var),0,rfl⟩,gg.ext he (by have:=ai.size;omega)⟩
 refine aa ?_;apply I_<;>intro g2
 .refine aa ?_;intro aN gg bl;refine aa ?_;rw[o.declared,o.gX (.inr AK)];exact⟨⟨(⟨⟨#[]⟩,0,0,0,0,0⟩:o.Var),0,rfl⟩,gg.ext he (by have:=ai.size;omega)⟩
 obtain⟨i,rfl⟩:=QA (show 0<=n by omega);have U:i<l.length:=AK
 rw[o.declared,o.iM AK AK];simp only[Int.toNat_natCast];obtain⟨a,rfl⟩:=aC.addr;refine aa ?_;refine P_ _ (fun w' e=>Wd _ _ _ s w' (h.ext (he.trans e))) ?_;refine aa ?_;intro aN ah;have av:=ah.obj av;refine aa ?_;intro aU dE bp;refine aa ?_;refine⟨?_,dE.ext (he.trans ah) (by have:=ai.size;omega)⟩;by_cases ao:(o.lU l[i].scalar l[i].over s).2=true
 .rw[if_pos ao,ao];rfl
 .rw[if_neg ao,Bool.eq_false_iff.2 ao];exact⟨_,_,rfl⟩
theorem aft(n:Int)(cs:C_ B_)(s:o.Scope)(w:A_)(h:o.fZ w cs s) :
  DD F.ik #[.I n,.agg cs.toArray] w fun v w'=>v = .tuple #[.I ((o.channel n s).getD 0),.bool (o.channel n s).isSome]/\Ext w w':=by
 obtain⟨a0,bx,db,c1,a2,c2,a3,bu,a4,bC,rfl,af,h1,I,ab,aH,e2,eE,eJ,er,eH⟩:=h.form;refine br E.ik ?_;refine aa ?_;intro w1 bw cM ai al;refine aa ?_;apply I_<;>intro g1
 .refine aa ?_;rw[o.channel,o.gX (.inl g1)];exact cd
 refine aa ?_;apply I_<;>intro g2
 .refine aa ?_;rw[o.channel,o.gX (.inr AK)];exact cd
 obtain⟨i,rfl⟩:=QA (show 0<=n by omega);have U:i<s.aw.length:=AK
 rw[o.channel,o.iM AK AK];simp only[Int.toNat_natCast];obtain⟨a,rfl⟩:=I.addr;refine aa ?_;refine P_ _ (fun w' e=>Wd _ _ _ s w' (h.ext (ai.trans e))) ?_;refine aa ?_;intro aD aj;refine aa ?_;refine⟨?_,fK⟩;by_cases ao:(o.lU s.aw[i].scalar 0 s).2=true
 .rw[if_pos ao,ao];rfl
 .rw[if_neg ao,Bool.eq_false_iff.2 ao];rw[o.ard (Bool.eq_false_iff.2 ao)];rfl
theorem MQ(gZ:B_)(e:C_ o.Node)(k:Int)(cs:C_ B_)(s:o.Scope)(w:A_)(az:o.eS w gZ e)(h:o.fZ w cs s) :
  DD F.Iu #[gZ,.I k,.agg cs.toArray] w fun v w'=>v = .I (o.asked e k s)/\Ext w w':=by
 obtain⟨v0,v1,v2,v3,v4,rfl,_⟩:=h.ex;refine br E.Iu ?_;refine aa ?_;intro w1 bw cM ai al;refine aa ?_;refine J_ (aab gZ e _ s w1 (az.ext ai) (h.ext ai)) ?_;rintro _ aD ⟨rfl,aj⟩;refine aa ?_;rw[o.asked];apply I_<;>intro g1
 .rw[if_neg (by simpa using g1)];refine aa ?_;apply I_<;>intro g2
  .refine aa ?_;rw[if_neg (by simpa using g2)];exact cd
  refine aa ?_;rw[if_pos g2];exact cd
 refine aa ?_;rw[if_pos g1];exact cd
theorem RZ(a:o.Act)(bL b2:B_)(w:A_):DD F.wg #[.agg (a.enc bL b2).toArray] w fun v w'=>v = .bool (o.hx a)/\Ext w w':=by
 refine br E.wg ?_;refine aa ?_;intro w1 bw cM ai al;refine aa ?_;rw[o.hx];apply I_<;>intro g1
 .refine aa ?_;refine⟨?_,fK⟩;congr 1;simp[g1]
 refine aa ?_;refine⟨?_,fK⟩;congr 1;simp[g1]
theorem apo(a:o.Act)(bL b2:B_)(k:Int)(cs:C_ B_)(s:o.Scope)(w:A_)(h:o.fZ w cs s) :
  DD F.f4 #[.agg (a.enc bL b2).toArray,.I k,.agg cs.toArray] w fun v w'=>v = .I (o.Gr a k s)/\Ext w w':=by
 obtain⟨v0,v1,v2,v3,v4,rfl,af,h1,I,ab,aH,_⟩:=h.ex;refine br E.f4 ?_;refine aa ?_;intro w1 bw cM ai al;refine aa ?_;intro aD bS dm aj av;have he:=ai.trans aj;refine aa ?_;refine J_ (Wj v4 s.locals a.loc _ s aD (aH.ext he) (h.ext he)) ?_;rintro q aN ⟨ar,ah⟩;rw[o.Gr];cases bb:o.declared s.locals a.loc s with
 | none =>
  rw[bb] at ar;obtain⟨x,k',rfl⟩:=ar;refine aa ?_;intro aU cC ff ax bp;refine aa ?_;exact cd
 | some q =>
  obtain⟨x,k'⟩:=q;rw[bb] at ar;subst ar;refine aa ?_;intro aU cC ff ax bp;refine aa ?_;apply I_<;>intro g1
  .refine aa ?_;apply I_<;>intro g2
   .refine aa ?_;simp only[g1,g2,ne_eq,not_true_eq_false,or_self,if_false];exact cd
   refine aa ?_;simp only[g2,ne_eq,not_false_eq_true,or_true,if_true];exact cd
  refine aa ?_;simp only[g1,ne_eq,not_false_eq_true,true_or,if_true];exact cd
end Go.Proofs.R
end
section
namespace o
open Go Go.RowKit ba
theorem MI{s:Scope}{l:C_ Act}{k:Nat}{t:Bool}(h:k<l.length) :
  k9 s (l.drop k) k t=if hx l[k]&&t then (2+(k:Int),7) else if kL l[k] s≠0 then (2+(k:Int),kL l[k] s) else k9 s (l.drop (k+1)) (k+1) (t||hx l[k]):=by
 rw[AF2 h];rfl
end o
namespace Go.Proofs.R
open Go Go.RowKit ba
theorem ME(k:Int)(a:o.Act)(bL b2:B_)(cs:C_ B_)(s:o.Scope)(w:A_)(bw bS:Nat)(cM:w.heap[bw]? = some (.cells (a.enc bL b2).toArray T.y))(dm:w.heap[bS]? = some (.cells cs.toArray T.w))
  (aG:o.eS w b2 a.value)(h:o.fZ w cs s) :
  DD F.f3 #[.I k,.pointer (some ⟨bw,0,none⟩),.pointer (some ⟨bS,0,none⟩)] w fun v w'=>v = .I (o.asked a.value k s)/\Ext w w':=by
 obtain⟨v0,v1,v2,v3,v4,rfl,_⟩:=h.ex;refine br E.f3 ?_;refine aa ?_;refine J_ (MQ b2 a.value k _ s w aG h) ?_;rintro _ aD ⟨rfl,aj⟩;refine aa ?_;exact cd
theorem ad4(a:o.Act)(bL b2:B_)(cs:C_ B_)(s:o.Scope)(w:A_)(U:o.eS w bL a.index)(aG:o.eS w b2 a.value)(h:o.fZ w cs s) :
  DD F.Iv #[.agg (a.enc bL b2).toArray,.agg cs.toArray] w fun v w'=>v = .I (o.kL a s)/\Ext w w':=by
 obtain⟨v0,v1,v2,v3,v4,rfl,af,h1,I,ab,aH,e2⟩:=h.ex;refine br E.Iv ?_;refine aa ?_;intro w1 bw cM ai al;refine aa ?_;intro aD bS dm aj av;have he:=ai.trans aj;have al:=aj.obj al;by_cases q:a.kind=1\/a.kind=2\/a.kind=3
 .rw[o.kL,if_pos q];generalize cY:(if a.kind=3 then s.locals else s.vars)=L;have qs:∀nu n,nu=(if a.kind=3 then v4 else v1)->DD F.iI #[nu,.I n,.agg #[v0,v1,v2,v3,v4,.I s.self]] aD fun v w'=>o.S9 v (o.declared L n s)/\Ext aD w':=by
   rintro nu n rfl;refine Wj _ L n _ s aD ?_ (h.ext he);rw[<-cY];split
   .exact aH.ext he
   .exact h1.ext he
  by_cases rJ:a.kind=2
  .refine aa ?_;refine J_ (qs _ _ (by simp[rJ])) ?_;rintro u aN ⟨ar,ah⟩;have al:=ah.obj al;have av:=ah.obj av;have wz:=he.trans ah;cases bb:o.declared L a.to s with
   | none =>
    rw[bb] at ar;obtain⟨x,k',rfl⟩:=ar;refine aa ?_;intro aU cC ff ax bp;refine aa ?_;exact cd
   | some u =>
    obtain⟨x,k'⟩:=u;rw[bb] at ar;subst ar;have akH:=o.af0 bb;simp only at akH;refine aa ?_;intro aU cC ff ax bp;have al:=ax.obj al;have av:=ax.obj av;have qt:=wz.trans ax;refine aa ?_;refine _7 Ct ?_;refine aa ?_;by_cases dt:x.over=0
    .refine _F (by simp[rJ,dt]) ?_;refine aa ?_;exact⟨by simp[rJ,dt],fK⟩
    refine _G (by simp[rJ,dt]) ?_;refine aa ?_;refine J_ (MQ bL a.index _ _ s aU (U.ext qt) (h.ext qt)) ?_;rintro _ bt ⟨rfl,aI⟩;have al:=aI.obj al;have av:=aI.obj av;have Jq:=qt.trans aI;refine aa ?_;refine I_ (fun ef=>?_) (fun ef=>?_)
    .refine aa ?_;refine V_ (first:=[]) (cap:=[_,_]) Ct (ME k' a bL b2 _ s bt bw bS al av (aG.ext Jq) (h.ext Jq)) ?_;rintro _ bz ⟨rfl,aM⟩;refine aa ?_;exact⟨by simp[rJ,dt,ef],fK⟩
    .refine aa ?_;exact⟨by simp[rJ,dt,ef],fK⟩
  have tW:a.kind=1\/a.kind=3:=AK
  clear q;rcases tW with q | q
  all_goals
   refine aa ?_;refine J_ (qs _ _ (by simp[q])) ?_;rintro u aN ⟨ar,ah⟩;have al:=ah.obj al;have av:=ah.obj av;have wz:=he.trans ah;cases bb:o.declared L a.to s with
   | none =>
    rw[bb] at ar;obtain⟨x,k',rfl⟩:=ar;refine aa ?_;intro aU cC ff ax bp;refine aa ?_;exact cd
   | some u =>
    obtain⟨x,k'⟩:=u;rw[bb] at ar;subst ar;refine aa ?_;intro aU cC ff ax bp;have al:=ax.obj al;have av:=ax.obj av;have qt:=wz.trans ax;refine aa ?_;refine _7 Ct ?_;refine aa ?_;by_cases dt:x.over=0
    .refine _G (by simp[q,dt]) ?_;refine aa ?_;refine V_ (first:=[]) (cap:=[_,_]) Ct (ME k' a bL b2 _ s aU bw bS al av (aG.ext qt) (h.ext qt)) ?_;rintro _ bz ⟨rfl,aM⟩;refine aa ?_;exact⟨by simp[q,dt],fK⟩
    .refine _F (by simp[q,dt]) ?_;refine aa ?_;exact⟨by simp[q,dt],fK⟩
 by_cases gP:a.kind=4\/a.kind=5
 .rw[o.kL,if_neg q,if_pos gP];have Rc:a.kind≠3:=AK
  have CF:a.kind≠1:=AK
  have Re:a.kind≠2:=AK
  have step:∀(w':A_),Ext aD w'->DD F.ik #[.I a.to,.agg #[v0,v1,v2,v3,v4,.I s.self]] w' fun v bO=>v = .tuple #[.I ((o.channel a.to s).getD 0),.bool (o.channel a.to s).isSome]/\Ext w' bO :=
   fun w' e=>aft a.to _ s w' (h.ext (he.trans e))
  rcases gP with gP | gP
  .refine aa ?_;refine J_ (step aD (Ext.refl _)) ?_;rintro _ aN ⟨rfl,ah⟩;have al:=ah.obj al;have av:=ah.obj av;have wz:=he.trans ah;cases bb:o.channel a.to s with
   | none =>
    simp only[Option.isSome_none,Option.getD_none];refine aa ?_;exact cd
   | some k =>
    simp only[Option.isSome_some,Option.getD_some];refine aa ?_;refine V_ (first:=[]) (cap:=[_,_]) Ct (ME k a bL b2 _ s aN bw bS al av (aG.ext wz) (h.ext wz)) ?_;rintro _ bz ⟨rfl,aM⟩;refine aa ?_;exact⟨by simp[gP],fK⟩
  .refine aa ?_;refine J_ (step aD (Ext.refl _)) ?_;rintro _ aN ⟨rfl,ah⟩;have al:=ah.obj al;have av:=ah.obj av;have wz:=he.trans ah;cases bb:o.channel a.to s with
   | none =>
    simp only[Option.isSome_none,Option.getD_none];refine aa ?_;exact cd
   | some k =>
    simp only[Option.isSome_some,Option.getD_some];refine aa ?_;refine J_ (apo a bL b2 k _ s aN (h.ext wz)) ?_;rintro _ bz ⟨rfl,aM⟩;refine aa ?_;exact⟨by simp[gP],fK⟩
 rw[o.kL,if_neg q,if_neg gP];have Rc:a.kind≠3:=AK
 have CF:a.kind≠1:=AK
 have Re:a.kind≠2:=AK
 have abp:a.kind≠4:=AK
 have au3:a.kind≠5:=AK
 refine aa ?_;exact cd
end Go.Proofs.R
end
section
namespace o
open Go
theorem ajH{c:ea}{n:Int}(h:head c n=0):isName c.name=true/\0<=c.from_/\c.from_<n/\0<=c.to/\c.to<n/\c.bQ.length<=6:=by
 unfold head at h;by_cases h1:isName c.name=false
 .rw[if_pos h1] at h;cases h
 rw[if_neg h1] at h;by_cases I:c.from_<0\/n<=c.from_\/c.to<0\/n<=c.to
 .rw[if_pos I] at h;cases h
 rw[if_neg I] at h;by_cases ab:c.bQ.length > 6
 .rw[if_pos ab] at h;cases h
 exact⟨by simpa using h1,AK,AK,AK,AK,AK⟩
end o
end
section
namespace o
open Go Go.RowKit ba
theorem V3{l:C_ Act}{k:Nat}(h:k<l.length):comm (l.drop k)=if hx l[k] then (l[k].kind,l[k].to) else comm (l.drop (k+1)):=by
 rw[AF2 h];rfl
end o
namespace Go.Proofs.R
open Go Go.RowKit ba
theorem Yw(n:Int)(p:o.dJ)(p1 rI:B_)(w:A_)(b:Nat)(ao:w.heap[b]? = some (.cells (p.enc p1 rI).toArray T.l)) :
  DD F.f2 #[.I n,.pointer (some ⟨b,0,none⟩)] w fun v w'=>v = .bool (decide (n<0\/p.cp<=n))/\w'=w:=by
 refine br E.f2 ?_;refine aa ?_;apply I_<;>intro g1
 .refine aa ?_;exact⟨by simp[g1],aL⟩
 refine aa ?_;exact⟨by simp[g1],aL⟩
theorem ajI(c:o.ea)(fq dH:B_)(p:o.dJ)(p1 rI:B_)(w:A_)(aO:gK w)(az:o.jN c.name)(aV:o.lX w dH c.bQ) :
  DD F.Ir #[.agg (c.enc fq dH).toArray,.agg (p.enc p1 rI).toArray] w fun v w'=>v = .I (o.head c p.cp)/\Ext w w':=by
 obtain⟨aQ,cap,rfl,hlen⟩:=aV.form;refine br E.Ir ?_;refine aa ?_;intro w1 bw cM ai al;refine aa ?_;intro aD bS dm aj av;have he:=ai.trans aj;have al:=aj.obj al;refine aa ?_;refine J_ (La c.name aD (aO.ext he) az) ?_;rintro _ aN ⟨rfl,ah⟩;have al:=ah.obj al;have av:=ah.obj av;have wz:=he.trans ah;rw[o.head];refine aa ?_;refine N_ (fun g1=>?_) (fun g1=>?_);rotate_left
 .refine aa ?_;exact⟨by simp[g1],fK⟩
 refine aa ?_;refine V_ (first:=[]) (cap:=[_]) Ct (Yw c.from_ p p1 rI aN bS av) ?_;rintro _ _ ⟨rfl,rfl⟩;refine aa ?_;apply I_<;>intro g2
 .refine aa ?_;refine⟨?_,fK⟩;rw[if_neg (by simp[g1]),if_pos AK]
 refine aa ?_;refine V_ (first:=[]) (cap:=[_]) Ct (Yw c.to p p1 rI _ bS av) ?_;rintro _ _ ⟨rfl,rfl⟩;refine aa ?_;apply I_<;>intro g3
 .refine aa ?_;refine⟨?_,fK⟩;rw[if_neg (by simp[g1]),if_pos AK]
 refine aa ?_;apply I_<;>intro g4
 .refine aa ?_;refine⟨?_,fK⟩;rw[if_neg (by simp[g1]),if_neg AK,if_pos AK]
 .refine aa ?_;refine⟨?_,fK⟩;rw[if_neg (by simp[g1]),if_neg AK,if_neg AK]
theorem V4(c:o.ea)(fq dH:B_)(w:A_)(aV:o.lX w dH c.bQ) :
  DD F.bD #[.agg (c.enc fq dH).toArray] w fun v w'=>v = .tuple #[.I (o.comm c.bQ).1,.I (o.comm c.bQ).2]/\Ext w w':=by
 obtain⟨aQ,cap,rfl,hlen⟩:=aV.form;refine br E.bD ?_;refine aa ?_;intro w1 bw cM ai al;refine aa ?_;refine L_ 9 c.bQ.length [7,8] (fun _=>[]) () (fun k _ w'=>Ext w w'/\o.comm c.bQ=o.comm (c.bQ.drop k)) bc bc ⟨ai,Bs⟩ ?_;rintro k _ S aD hk ⟨aj,aZ⟩;refine aa ?_;apply I_<;>intro g1
 .have a1:k<c.bQ.length:=AK
  obtain⟨a,rfl⟩:=aV.addr;obtain⟨bL,b2,gq,eV,qG⟩:=aV.at k a1;obtain⟨_,_,rfl,_⟩:=eV.form;obtain⟨_,_,rfl,_⟩:=qG.form;rw[o.V3 a1] at aZ;refine aa ?_
  try (refine Z_ (gq.ext aj) rfl ?_;refine aa ?_)
  intro aN bW fe ah bl;refine aa ?_;refine J_ (RZ c.bQ[k] _ _ aN) ?_;rintro _ aU ⟨rfl,ax⟩;refine aa ?_;refine N_ (fun g2=>?_) (fun g2=>?_)
  .refine aa ?_;intro bt aI;refine aa ?_;rw[aZ,if_pos g2];exact cd
  refine aa ?_;rw[if_neg (by simp[g2])] at aZ;exact⟨a1,aL,(),by trivial,fK,aZ⟩
 .refine aa ?_;rw[aZ,AF0 AK];exact cd
theorem afE(c:o.ea)(fq dH:B_)(p:o.dJ)(p1 rI:B_)(cs:C_ B_)(s:o.Scope)(w:A_)(aO:gK w)(az:o.jN c.name)(aK:o.eS w fq c.guard)(aV:o.lX w dH c.bQ)
  (aG:o.h3 w p1 p.vars)(an:o.rV w rI p.cQ)(h:o.fZ w cs s) :
  DD F.es #[.agg (c.enc fq dH).toArray,.agg (p.enc p1 rI).toArray,.agg cs.toArray] w fun v w' =>
   v = .tuple #[.I (o.jU c p.cp s).1,.I (o.jU c p.cp s).2]/\Ext w w':=by
 obtain⟨a0,bx,db,c1,a2,c2,a3,bu,a4,bC,rfl,_⟩:=h.form;obtain⟨aQ,cap,rfl,hlen⟩:=aV.form;obtain⟨gw,ae1,rfl,ake⟩:=aK.form;obtain⟨_,_,rfl,_⟩:=aG.form;obtain⟨_,_,rfl,_⟩:=an.form;refine br E.es ?_;refine aa ?_;intro w1 bw cM ai al;refine aa ?_;intro aD bS dm aj av;refine aa ?_;intro aN bW fe ah bl;have he:=(ai.trans aj).trans ah;have al:=(aj.trans ah).obj al;have av:=ah.obj av;refine aa ?_;refine J_ (ajI c _ _ p _ _ aN (aO.ext he) az (aV.ext he)) ?_;rintro _ aU ⟨rfl,ax⟩;have al:=ax.obj al;have bl:=ax.obj bl;have qt:=he.trans ax;rw[o.jU];refine aa ?_;apply I_<;>intro g1;rotate_left
 .refine aa ?_;exact⟨by simp[g1],fK⟩
 rw[if_neg (by simpa using g1)];have bE:=(o.ajH g1).2.2.2.2.2;refine eb ?_;refine S_ [3,4,5] (fun _=>[]) (fun(_:Unit) w'=>Ext aU w'/\¬(c.guard.length > 0/\o.asked c.guard 1 s≠0)) ?_ ?_
 .refine aa ?_;apply I_<;>intro g2
  .refine aa ?_;refine J_ (MQ _ c.guard 1 _ s aU (aK.ext qt) (h.ext qt)) ?_;rintro _ bt ⟨rfl,aI⟩;refine aa ?_;apply I_<;>intro g3
   .refine aa ?_;exact⟨(),trivial,fK,fun c3=>c3.2 g3⟩
   .refine aa ?_;rw[if_pos ⟨AK,g3⟩];exact cd
  .refine aa ?_;exact⟨(),trivial,fK,fun c3=>g2 AK⟩
 rintro _ S bt ⟨aI,tu⟩;have al:=aI.obj al;have bl:=aI.obj bl;have Jq:=qt.trans aI;rw[if_neg tu];refine aa ?_;refine L_ 34 c.bQ.length [3,4,5,32,33] (fun b=>[(10,.bool b)]) false (fun k b w'=>Ext bt w'/\o.k9 s c.bQ 0 false=o.k9 s (c.bQ.drop k) k b) bc bc ⟨Ext.refl _,Bs⟩ ?_;rintro k b S bz hk ⟨aM,aZ⟩;have wA:=Jq.trans aM;refine aa ?_;apply I_<;>intro g1
 .have a1:k<c.bQ.length:=AK
  obtain⟨a,rfl⟩:=aV.addr;obtain⟨bL,b2,gq,eV,qG⟩:=aV.at k a1;obtain⟨_,_,rfl,_⟩:=eV.form;obtain⟨_,_,rfl,_⟩:=qG.form;rw[o.MI a1] at aZ;refine aa ?_;intro bK hp ir bq ct;refine eb ?_;intro c4 jc cG;have wC:=jc.ext bq ir;have Js:=wA.trans wC;have bl:=(aM.trans wC).obj bl;refine eb ?_;refine S_ [3,5,10,11,12,32,33,34] (fun _=>[]) (fun(_:Unit) w'=>Ext c4 w'/\¬(o.hx c.bQ[k]&&b)=true) ?_ ?_
  .refine aa ?_;refine J_ (RZ c.bQ[k] _ _ c4) ?_;rintro _ c6 ⟨rfl,b5⟩;refine aa ?_;refine N_ (fun g2=>?_) (fun g2=>?_)
   .refine aa ?_;refine N_ (fun g3=>?_) (fun g3=>?_)
    .refine aa ?_;rw[aZ,if_pos (by simp[g2,g3])];exact cd
    .refine aa ?_;exact⟨(),trivial,fK,by simp[g3]⟩
   .refine aa ?_;exact⟨(),trivial,fK,by simp[g2]⟩
  rintro _ S c6 ⟨b5,g2⟩;rw[if_neg g2] at aZ;have cG:=b5.obj cG;have bl:=b5.obj bl;refine eb ?_;refine S_ [3,5,11,12,32,33,34] (fun u=>[(10,.bool u)]) (fun u w'=>Ext c6 w'/\u=(b||o.hx c.bQ[k])) ?_ ?_
  .refine aa ?_;refine N_ (fun g3=>?_) (fun g3=>?_)
   .refine aa ?_;exact⟨true,bc,fK,by simp[g3]⟩
   .refine aa ?_;refine J_ (RZ c.bQ[k] _ _ c6) ?_;rintro _ eO ⟨rfl,cr⟩;refine aa ?_;exact⟨o.hx c.bQ[k],bc,fK,by simp[g3]⟩
  rintro _ S eO ⟨cr,rfl⟩;have cG:=cr.obj cG;have bl:=cr.obj bl;have OY:=(Js.trans b5).trans cr;have atF:=((aM.trans wC).trans b5).trans cr;refine aa ?_;refine J_ (ad4 c.bQ[k] _ _ _ s eO (eV.ext OY) (qG.ext OY) (h.ext OY)) ?_;rintro _ gy ⟨rfl,e6⟩;refine aa ?_;apply I_<;>intro g3
  .refine aa ?_;rw[if_neg (by simpa using g3)] at aZ;exact⟨a1,aL,_,bc,fK,aZ⟩
  .refine aa ?_;rw[aZ,if_pos g3];exact cd
 .refine aa ?_;rw[aZ,AF0 AK];exact cd
theorem arT(c:o.ea)(fq dH dV:B_)(l:C_ o.dB)(w:A_)(aV:o.lX w dH c.bQ)(aC:o.mT w dV l) :
  DD F.nz #[.agg (c.enc fq dH).toArray,dV] w fun v w'=>v = .I (o.ways c l)/\Ext w w':=by
 obtain⟨aQ,cap,rfl,hlen⟩:=aC.form;obtain⟨anA,zq,rfl,E5⟩:=aV.form;refine br E.nz ?_;refine aa ?_;intro w1 bw cM ai al;refine aa ?_;refine J_ (V4 c fq _ w1 (aV.ext ai)) ?_;rintro _ aD ⟨rfl,aj⟩;rw[o.ways];refine aa ?_;apply I_<;>intro g1;rotate_left
 .refine aa ?_;exact⟨by simp[g1],fK⟩
 rw[if_pos g1];refine aa ?_;apply I_<;>intro g2;rotate_left
 .refine aa ?_;rw[o.gX (.inl AK)];exact cd
 refine aa ?_;apply I_<;>intro g3;rotate_left
 .refine aa ?_;rw[o.gX (.inr AK)];exact cd
 rw[o.iM AK AK];obtain⟨a,rfl⟩:=aC.addr;have U:(o.comm c.bQ).2.toNat<l.length:=AK
 refine aa ?_;refine K_ (o.comm c.bQ).2.toNat AK U ?_;refine aa ?_;refine N_ (fun g4=>?_) (fun g4=>?_)
 .refine aa ?_;exact⟨by simp[g4],fK⟩
 .refine aa ?_;exact⟨by simp[g4],fK⟩
end Go.Proofs.R
end
section
namespace o
theorem aay{s:Scope}{l:C_ Var}{k:Nat}(h:k<l.length):qI s (l.drop k) k=if l[k].over≠0 then ((k:Int),9) else if s.vars.any (fun x=>decide (x.name=l[k].name)) then ((k:Int),7) else qI s (l.drop (k+1)) (k+1):=by
 rw[AF2 h];rfl
theorem V1{own:Scope}{cp:Int}{all l:C_ ea}{k:Nat}(h:k<l.length):l1 own cp all (l.drop k) k=if (jU l[k] cp own).2≠0 then (2+(k:Int),(jU l[k] cp own).1,(jU l[k] cp own).2)
  else if (all.take k).any (fun x=>decide (x.name=l[k].name)) then (2+(k:Int),0,7) else l1 own cp all (l.drop (k+1)) (k+1):=by
 rw[AF2 h];rfl
end o
namespace Go.Proofs.R
open Go Go.RowKit ba
theorem arW(p:o.dJ)(bZ ca:H_ Addr)(pY bu bC:Nat)(cs:C_ B_)(s:o.Scope)(w:A_)(aO:gK w)(az:o.jN p.name)(h:o.fZ w cs s) :
  DD F.eq #[.agg (p.enc (.slice bZ pY bu) (.slice ca p.cQ.length bC)).toArray,.agg cs.toArray] w fun v w'=>v = .I (o.whole p s)/\Ext w w':=by
 obtain⟨a0,bx,db,c1,a2,c2,a3,d3,a4,d4,rfl,af,h1,I,ab,aH,e2,eE,eJ,er,eH⟩:=h.form;refine br E.eq ?_;refine aa ?_;intro w1 bw cM ai al;refine aa ?_;intro aD bS dm aj av;have da:∀{w'},Ext aD w'->Ext w w':=fun e=>(ai.trans aj).trans e;have al:=aj.obj al;refine aa ?_;refine J_ (La p.name aD (aO.ext (da (Ext.refl _))) az) ?_;rintro _ aN ⟨rfl,ah⟩;have al:=ah.obj al;have av:=ah.obj av;rw[o.whole];refine aa ?_;refine N_ (fun g1=>?_) (fun g1=>?_);rotate_left
 .refine aa ?_;exact⟨by rw[if_pos g1],da ah⟩
 rw[if_neg (by simp[g1])];refine aa ?_;apply I_<;>intro g2
 .refine aa ?_;exact⟨by rw[if_pos (.inl g2)],da ah⟩
 refine aa ?_;apply I_<;>intro g3
 .refine aa ?_;exact⟨by rw[if_pos (.inr AK)],da ah⟩
 rw[if_neg AK];refine aa ?_;apply I_<;>intro g4
 .refine aa ?_;exact⟨by rw[if_pos (.inl g4)],da ah⟩
 refine aa ?_;apply I_<;>intro g5
 .refine aa ?_;exact⟨by rw[if_pos (.inr AK)],da ah⟩
 rw[if_neg AK];refine aa ?_;apply I_<;>intro g6
 .refine aa ?_;exact⟨by rw[if_pos AK],da ah⟩
 refine aa ?_;exact⟨by rw[if_neg AK],da ah⟩
theorem amL(x v:o.Var)(b:Nat)(w:A_)(an:w.heap[b]? = some (.cells v.enc.toArray T.n)) :
  DD F.hp #[.agg x.enc.toArray,.pointer (some ⟨b,0,none⟩)] w fun u w'=>u = .bool (decide (x.name=v.name))/\Ext w w':=by
 refine br E.hp ?_;refine aa ?_;intro w1 bw cM ai al;refine aa ?_;exact cd
theorem afD(x c:o.ea)(bR bX bZ ca:H_ Addr)(kX j5 pY tP c1 c2 bu bC:Nat)(b:Nat)(w:A_)(an:w.heap[b]? = some (.cells (c.enc (.slice bZ pY bu) (.slice ca tP bC)).toArray T.m)) :
  DD F.bw #[.agg (x.enc (.slice bR kX c1) (.slice bX j5 c2)).toArray,.pointer (some ⟨b,0,none⟩)] w fun u w'=>u = .bool (decide (x.name=c.name))/\Ext w w':=by
 refine br E.bw ?_;refine aa ?_;intro w1 bw cM ai al;refine aa ?_;exact cd
theorem amM(p:o.dJ)(bZ ca:H_ Addr)(bu tP bC:Nat)(cs:C_ B_)(s:o.Scope)(w:A_)(aO:gK w)(aG:o.h3 w (.slice bZ p.vars.length bu) p.vars)(h:o.fZ w cs s) :
  DD F.qm #[.agg (p.enc (.slice bZ p.vars.length bu) (.slice ca tP bC)).toArray,.agg cs.toArray] w fun v w'=>v = .tuple #[.I (o.lS p s).1,.I (o.lS p s).2]/\Ext w w':=by
 obtain⟨a0,bx,db,c1,a2,c2,a3,d3,a4,d4,rfl,af,h1,I,ab,aH,e2,eE,eJ,er,eH⟩:=h.form;have fm:p.vars.length<=9223372036854775807:=by have:=(bn.len aG).2;unfold maxLen at this;omega
 refine br E.qm ?_;refine aa ?_;intro w1 bw cM ai al;refine aa ?_;intro aD bS dm aj av;have da:∀{w'},Ext aD w'->Ext w w':=fun e=>(ai.trans aj).trans e;have al:=aj.obj al;refine aa ?_;refine J_ (ac4 _ _ p.vars s.scalars 4 aD (aO.ext (da (Ext.refl _))) (aG.ext (da (Ext.refl _))) (af.ext (da (Ext.refl _)))) ?_;rintro _ aN ⟨rfl,ah⟩;have al:=ah.obj al;have av:=ah.obj av;rw[o.lS];refine aa ?_;apply I_<;>intro g1;rotate_left
 .refine aa ?_;exact⟨by rw[if_pos g1],da ah⟩
 rw[if_neg (by simpa using g1)];have fJ:∀{w'},Ext aN w'->Ext w w':=fun e=>da (ah.trans e);refine aa ?_;refine L_ 25 p.vars.length [3,23,24] (fun _=>[]) () (fun k _ w'=>Ext aN w'/\o.qI s p.vars 0=o.qI s (p.vars.drop k) k) bc bc ⟨Ext.refl _,Bs⟩ ?_;rintro k _ S aU hk ⟨ax,aZ⟩;refine aa ?_;apply I_<;>intro g2
 .have a1:k<p.vars.length:=AK
  obtain⟨a,rfl⟩:=aG.addr;replace aG:=aG.ext (fJ (Ext.refl _));rw[o.aay a1] at aZ;refine aa ?_;intro C3 ik l6 nJ ri;refine aa ?_;intro bt fg b9;have aI:=fg.ext nJ l6;refine aa ?_;apply I_<;>intro g3;rotate_left
  .refine aa ?_;exact⟨by rw[aZ,if_pos g3],fJ (ax.trans aI)⟩
  rw[if_neg (by simpa using g3)] at aZ;refine aa ?_;refine J_ (Wc lN E.N2 E.go _ s.vars bt (h1.ext (fJ (ax.trans aI))) F.hp Ct [] [_] (fun x=>decide (x.name=p.vars[k].name)) ?_) ?_
  .rintro i U il w' e ⟨rfl,_⟩;exact amL _ _ ik w' (e.obj b9)
  rintro _ bz ⟨rfl,aM⟩;refine aa ?_;refine N_ (fun g4=>?_) (fun g4=>?_)
  .refine aa ?_;exact⟨by rw[aZ,if_pos g4],fJ ((ax.trans aI).trans aM)⟩
  .refine aa ?_;exact⟨a1,aL,(),trivial,(ax.trans aI).trans aM,by rw[aZ,if_neg (by simp[g4])]⟩
 .refine aa ?_;exact⟨by rw[aZ,AF0 AK];rfl,fJ ax⟩
theorem aon(p:o.dJ)(Gf cs:C_ B_)(s:o.Scope)(w:A_)(aO:gK w)(au:o.xK w Gf p)(h:o.fZ w cs s)(aK:s.cK)(pc:p.cK) :
  DD F.cP #[.agg Gf.toArray,.agg cs.toArray] w fun v w'=>v = .tuple #[.I (o.h9 p s).1,.I (o.h9 p s).2.1,.I (o.h9 p s).2.2]/\Ext w w':=by
 obtain⟨a0,bx,db,c1,a2,c2,a3,d3,a4,d4,rfl,af,h1,I,ab,aH,e2,eE,eJ,er,eH⟩:=h.form;obtain⟨az,p1,rI,rfl,aG,mD⟩:=au;obtain⟨bZ,bu,rfl,fm⟩:=aG.form;obtain⟨ca,bC,rfl,lc⟩:=mD.form;have o5:p.cQ.length<=140737488351232:=by have:=pc.cQ;unfold o.ew at this;omega
 refine br E.cP ?_;refine aa ?_;intro w1 bw cM ai al;refine aa ?_;intro aD bS dm aj av;have da:∀{w'},Ext aD w'->Ext w w':=fun e=>(ai.trans aj).trans e;replace al:=aj.obj al;refine aa ?_;refine J_ (arW p _ _ _ _ _ _ s aD (aO.ext (da (Ext.refl _))) az (h.ext (da (Ext.refl _)))) ?_;rintro _ aN ⟨rfl,ah⟩;replace al:=ah.obj al;replace av:=ah.obj av;have fJ:∀{w'},Ext aN w'->Ext w w':=fun e=>da (ah.trans e);rw[o.h9];refine aa ?_;apply I_<;>intro g1;rotate_left
 .refine aa ?_;exact⟨by rw[if_pos g1],fJ (Ext.refl _)⟩
 rw[if_neg (by simpa using g1)];refine aa ?_;refine J_ (amM p _ _ _ _ _ _ s aN (aO.ext (fJ (Ext.refl _))) (aG.ext (fJ (Ext.refl _))) (h.ext (fJ (Ext.refl _)))) ?_;rintro _ aU ⟨rfl,ax⟩;replace al:=ax.obj al;replace av:=ax.obj av;have eo:∀{w'},Ext aU w'->Ext w w':=fun e=>fJ (ax.trans e);refine aa ?_;apply I_<;>intro g2;rotate_left
 .refine aa ?_;exact⟨by rw[if_pos g2],eo (Ext.refl _)⟩
 rw[if_neg (by simpa using g2)];refine aa ?_;refine J_ (ZE p _ _ _ _ _ _ _ _ _ _ _ _ _ _ _ _ _ _ _ _ _ _ aU) ?_;rintro _ bt ⟨rfl,aI⟩;replace al:=aI.obj al;have iP:∀{w'},Ext bt w'->Ext w w':=fun e=>eo (aI.trans e);refine aa ?_;intro bz r4 yf aM cb;replace al:=aM.obj al;have iE:∀{w'},Ext bz w'->Ext w w':=fun e=>iP (aM.trans e);have fs:∀w',Ext w w'->o.fZ w' [.slice a0 s.scalars.length bx,.slice db s.vars.length c1,.slice a2 s.aw.length c2,.slice a3 s.procs.length d3,.slice bZ p.vars.length bu,.I p.over] (o.inner p s):=fun w' e =>
  ⟨(aK.inner pc).rM.1,_,_,_,_,_,rfl,af.ext e,h1.ext e,I.ext e,ab.ext e,aG.ext e,(aK.inner pc).rM.2⟩
 refine aa ?_;refine L_ 37 p.cQ.length [2,10,35,36] (fun _=>[]) () (fun k _ w'=>Ext bz w'/\o.l1 (o.inner p s) p.cp p.cQ p.cQ 0=o.l1 (o.inner p s) p.cp p.cQ (p.cQ.drop k) k) bc bc ⟨Ext.refl _,Bs⟩ ?_;rintro k _ S bK hk ⟨bq,aZ⟩;replace al:=bq.obj al;replace cb:=bq.obj cb;refine aa ?_;apply I_<;>intro g3
 .have a1:k<p.cQ.length:=AK
  obtain⟨a,rfl⟩:=mD.addr;obtain⟨ak,fq,dH,gF,yt,wP⟩:=mD.at k a1;obtain⟨gw,fS,rfl,amD⟩:=yt.form;obtain⟨aQ,eZ,rfl,hT⟩:=wP.form;rw[o.V1 a1] at aZ;replace gF:=gF.ext (iE (Ext.refl _));refine aa ?_;intro C3 Bt tq nJ ri;refine aa ?_;intro c4 jc cG;have bG:=jc.ext nJ tq;replace al:=bG.obj al;replace cb:=bG.obj cb;have iF:∀{w'},Ext c4 w'->Ext w w':=fun e=>iE ((bq.trans bG).trans e);clear ri nJ;refine aa ?_;refine J_ (afE p.cQ[k] _ _ p _ _ _ (o.inner p s) c4 (aO.ext (iF (Ext.refl _))) ak (yt.ext (iF (Ext.refl _))) (wP.ext (iF (Ext.refl _))) (aG.ext (iF (Ext.refl _))) (mD.ext (iF (Ext.refl _))) (fs _ (iF (Ext.refl _)))) ?_;rintro _ c6 ⟨rfl,b5⟩;replace al:=b5.obj al;replace cG:=b5.obj cG;have gk:∀{w'},Ext c6 w'->Ext w w':=fun e=>iF (b5.trans e);refine aa ?_;apply I_<;>intro g4;rotate_left
  .refine aa ?_;exact⟨by rw[aZ,if_pos g4],gk (Ext.refl _)⟩
  rw[if_neg (by simpa using g4)] at aZ;have iu:=(bn.len mD).2.1;refine aa ?_;refine _N (k:=.i64) k (by rfl) AK ?_;refine aa ?_;refine J_ (Wc lN E.N1 E.uI _ (p.cQ.take k) c6 ((mD.head k AK).ext o.zb.ext (gk (Ext.refl _))) F.bw Ct [] [_] (fun x=>decide (x.name=p.cQ[k].name)) ?_) ?_
  .rintro i U il w' e ⟨_,avx,oR,rfl,aly,Qb⟩;obtain⟨_,_,rfl,_⟩:=aly.form;obtain⟨_,_,rfl,_⟩:=Qb.form;exact afD _ _ _ _ _ _ _ _ _ _ _ _ _ _ Bt w' (e.obj cG)
  rintro _ eO ⟨rfl,cr⟩;refine aa ?_;refine N_ (fun g5=>?_) (fun g5=>?_)
  .refine aa ?_;exact⟨by rw[aZ,if_pos g5],gk cr⟩
  .refine aa ?_;exact⟨a1,aL,(),trivial,((bq.trans bG).trans b5).trans cr,by rw[aZ,if_neg (by simp[g5])]⟩
 .refine aa ?_;exact⟨by rw[aZ,AF0 AK];rfl,iE bq⟩
end Go.Proofs.R
end
section
namespace ba
open Go Go.RowKit
theorem bn.MW{α:Type}{R:A_->Addr->α->Prop}{C:A_->C_ B_->α->Prop}{sz:Nat}[Rel R C sz]{w:A_}{b n:Nat}{e:F_}{cells:C_ B_}{xs:C_ α}(cq:C_ (fj sz))(ao:w.heap[b]? = some (.cells cells.toArray e))(ajm:cells=cq.flatMap kf)
  (aC:cq.length=xs.length)(az:n=xs.length)(hm:xs.length<=maxLen)(an:∀i (h1:i<cq.length) (I:i<xs.length),C w cq[i].1 xs[i]):bn sz R w (.slice (some ⟨b,0,none⟩) n n) xs:=by
 subst ajm;exact bn.Gd aC (bn.cx (enc:=kf) kg ao AK AK fun _ _ _ h=>h) an
end ba
namespace o
open Go
theorem pf{n:Int}(h : -1000<=n/\n<=1000):ee n:=by unfold ee;omega
theorem CY(a b:Int)(s:Scope):(lU a b s).2=((hC a s).2&&(hC b s).2)/\((lU a b s).2=true->(lU a b s).1=(if a=0 then 0 else 1+a)):=by
 unfold lU hC;constructor
 ·(repeat' split)<;>first | rfl | (exfalso;omega)
 .intro h
  (repeat' split)<;>first | rfl | (exfalso;omega) | simp_all
theorem Wi{l:C_ Var}{n:Int}{s:Scope}(h:(gn l n s).2.2=false):declared l n s=none:=by
 unfold declared;unfold gn at h;cases az:nth l n with
 | none=>rfl
 | some v =>
  rw[az] at h;simp only at h ⊢;rw[if_neg];rw[(CY _ _ _).1,h];simp
theorem Wk{l:C_ Var}{n:Int}{s:Scope}{x:Var}(h:(gn l n s).2.2=true)(ag:nth l n=some x):declared l n s=some (x,if x.scalar=0 then 0 else 1+x.scalar)/\0<=x.scalar/\x.scalar<=s.scalars.length/\0<=x.over/\x.over<=s.scalars.length:=by
 unfold gn at h;rw[ag] at h;simp only at h;have aB:(lU x.scalar x.over s).2=true:=by rw[(CY _ _ _).1];exact h
 refine⟨?_,?_⟩
 .unfold declared;rw[ag];simp only;rw[if_pos aB,(CY _ _ _).2 aB]
 .unfold lU at aB;split at aB
  .cases aB
  .omega
theorem afs{n:Int}{s:Scope}(h:¬(kD n s).2=0):channel n s=none:=by
 unfold channel;unfold kD at h;cases az:nth s.aw n with
 | none=>rfl
 | some c =>
  rw[az] at h;simp only at h ⊢;rw[if_neg];intro aB;rw[(CY _ _ _).1] at aB;simp only[Bool.and_eq_true] at aB;rw[if_pos aB.1] at h;exact h rfl
theorem afu{n:Int}{s:Scope}{c:dB}(h:(kD n s).2=0)(ag:nth s.aw n=some c):channel n s=some (if c.scalar=0 then 0 else 1+c.scalar)/\0<=c.scalar/\c.scalar<=s.scalars.length:=by
 unfold kD at h;rw[ag] at h;simp only at h;have h1:(hC c.scalar s).2=true:=by
  cases hk:(hC c.scalar s).2 with
  | true=>rfl
  | false=>rw[hk] at h;simp at h
 have aB:(lU c.scalar 0 s).2=true:=by rw[(CY _ _ _).1,h1];simp[hC]
 refine⟨?_,?_⟩
 .unfold channel;rw[ag];simp only;rw[if_pos aB,(CY _ _ _).2 aB]
 .unfold lU at aB;split at aB
  .cases aB
  .omega
def lR(l:C_ Var)(n:Int)(s:Scope):Int×Int:=match declared l n s with | none=>(0,8) | some (v,k)=>if v.over≠0 then (0,9) else (k,0)
def Ao(a:Act)(s:Scope):Int:=match declared s.vars a.to s with | none=>8 | some (v,k)=>if v.over=0 then 9 else if asked a.index (1+v.over) s≠0 then asked a.index (1+v.over) s else asked a.value k s
def lT(a:Act)(s:Scope)(comm:Bool):Int :=
 if a.kind<1\/5<a.kind then 3
 else if a.kind=2 then Ao a s
 else if a.kind=1\/a.kind=3 then (if (lR (if a.kind=3 then s.locals else s.vars) a.to s).2≠0 then (lR (if a.kind=3 then s.locals else s.vars) a.to s).2 else asked a.value (lR (if a.kind=3 then s.locals else s.vars) a.to s).1 s)
 else if comm=true then 7
 else match channel a.to s with
  | none=>8
  | some k=>if a.kind=4 then asked a.value k s else if (lR s.locals a.loc s).2≠0 then (lR s.locals a.loc s).2 else if (lR s.locals a.loc s).1≠k then 9 else 0
theorem ape(a:Act)(s:Scope)(comm:Bool):lT a s comm=if hx a&&comm then 7 else kL a s:=by
 by_cases af:a.kind<1\/5<a.kind
 .have aB:hx a=false:=by unfold hx;rw[decide_eq_false_iff_not];omega
  unfold lT kL;rw[if_pos af,aB,if_neg (by omega:¬(a.kind=1\/a.kind=2\/a.kind=3)),if_neg (by omega:¬(a.kind=4\/a.kind=5))];simp
 by_cases I:a.kind=2
 .have aB:hx a=false:=by unfold hx;rw[decide_eq_false_iff_not];omega
  unfold lT kL;rw[if_neg af,if_pos I,aB,if_pos (by omega:a.kind=1\/a.kind=2\/a.kind=3)];simp only[Bool.false_and,Bool.false_eq_true,if_false];rw[if_neg (by omega:¬a.kind=3)];unfold Ao;cases bb:declared s.vars a.to s with
  | none=>rfl
  | some q =>
   obtain⟨v,k⟩:=q;simp only[I,true_and];by_cases aG:v.over=0
   .simp[aG]
   .simp[aG]
 by_cases h1:a.kind=1\/a.kind=3
 .have aB:hx a=false:=by unfold hx;rw[decide_eq_false_iff_not];omega
  unfold lT kL;rw[if_neg af,if_neg I,if_pos h1,aB,if_pos (by omega:a.kind=1\/a.kind=2\/a.kind=3)];simp only[Bool.false_and,Bool.false_eq_true,if_false];unfold lR;cases bb:declared (if a.kind=3 then s.locals else s.vars) a.to s with
  | none=>simp
  | some q =>
   obtain⟨v,k⟩:=q;simp only[I,false_and,if_false];by_cases aG:v.over=0
   .simp[aG]
   .simp[aG]
 .have aie:a.kind=4\/a.kind=5:=AK
  have aB:hx a=true:=by unfold hx;rw[decide_eq_true_eq];omega
  unfold lT kL;rw[if_neg af,if_neg I,if_neg h1,aB,if_neg (by omega:¬(a.kind=1\/a.kind=2\/a.kind=3)),if_pos aie];simp only[Bool.true_and];cases comm with
  | true=>simp
  | false =>
   simp only[Bool.false_eq_true,if_false];cases an:channel a.to s with
   | none=>rfl
   | some k =>
    simp only;by_cases aH:a.kind=4
    .rw[if_pos aH,if_neg (by omega:¬a.kind=5)]
    .rw[if_neg aH,if_pos (by omega:a.kind=5)];unfold lR Gr;cases bb:declared s.locals a.loc s with
     | none=>simp
     | some q =>
      obtain⟨v,k'⟩:=q;simp only;by_cases aG:v.over=0
      .simp[aG]
      .simp[aG]
end o
end
section
namespace Go.Proofs.R
open Go Go.RowKit ba
theorem acN(op:Int)(w:A_):DD F.Kp #[.I op] w fun v w'=>v = .I (o.fI op)/\w'=w:=by
 have key:∀n:Int,(if op=3 then (1:Int) else if 1<=op/\op<=8 then 0 else if op=9\/op=10 then 1 else if 11<=op/\op<=19 then 2 else -1)=n->o.fI op=n:=fun _ h=>h;refine br E.Kp ?_
 (repeat' (refine aA ?_;first | (refine I_ (fun _=>?_) (fun _=>?_)<;>try (exfalso;omega)) | refine N_ (fun _=>?_) (fun _=>?_)))<;>try refine aA ?_
 all_goals
  refine⟨?_,aL⟩;congr 1;refine(key _ ?_).symm
  (repeat' split)<;>first | rfl | (exfalso;omega)
theorem Le{x:Int}(h:o.fI x=0):1<=x/\x<=8/\x≠3/\o.hj x=none:=by
 have h1:1<=x/\x<=8/\x≠3:=by unfold o.fI at h; (repeat' split at h)<;>omega
 exact⟨h1.1,h1.2.1,h1.2.2,o.QY (by simp[o.yx];omega)⟩
theorem aaS{x:Int}(h:o.fI x=1):x=3\/x=9\/x=10:=by unfold o.fI at h; (repeat' split at h)<;>omega
theorem Lf{x:Int}(h:o.fI x=2):11<=x/\x<=19:=by unfold o.fI at h; (repeat' split at h)<;>omega
theorem aaZ{x:Int}(h:9<=x/\x<=19):∃ae,o.hj x=some ae/\ae.parts=o.fI x:=by
 cases aO:o.hj x with
 | some ae=>exact⟨ae,rfl,(o.Ge aO).1⟩
 | none =>
  exfalso;unfold o.hj at aO
  (repeat' split at aO)
  all_goals first | (cases aO;done) | omega
theorem Nx{st:C_ Int}(h:1<=st.length):st.drop (st.length - 1)=[st[st.length - 1]]:=by
 rw[AF2 AK,AF0 AK]
theorem Wm{st:C_ Int}(h:2<=st.length):st.drop (st.length - 2)=[st[st.length - 2],st[st.length - 1]]:=by
 rw[AF2 AK];have e:st.length - 2+1=st.length - 1:=AK
 congr 1;rw[e];exact Nx AK
theorem sa:∀y,∀u∈encI y,u.oneCell'=true:=fun y u h=>by simp[encI] at h;subst h;rfl
end Go.Proofs.R
end