/- Parts. -/
import Derived.Test.YtakmdjclehkglaaGreatDoorQawl
import Derived.Shelf.SlGeneric
import Derived.Shelf.SlIterI.Nil
import Derived.Shelf.SortM.Plain
import Derived.Shelf.SortM.SortNone
set_option linter.all false
set_option maxRecDepth 8000
set_option maxHeartbeats 16000000
section
namespace Go.Proofs.R
open Go Go.RowKit a7
def aeN(m:o.Model)(ref:Int)(v:B_)(w:A_):Prop :=
 (¬o.Told m ref/\v = .tuple #[.pointer none,.agg WT.toArray,.bool false]) \/
 (∃(b q p k:Nat) (e6 dn:B_),o.ez m ref q p k/\v = .tuple #[.pointer (some ⟨b,0,none⟩),.agg ((o.bx m p k).enc e6 dn).toArray,.bool true]/\pn w b m q/\o.eL w e6 (o.bx m p k).guard/\o.lK w dn (o.bx m p k).bE)
theorem aoR(cs:C_ B_)(m:o.Model)(ref:Int)(w:A_)(h:o.dU w cs m)(aH:m.cA)(aJ:gF w) :
  Dz F.HR #[.agg cs.toArray,.I ref] w fun v w'=>aeN m ref v w'/\Ext w w':=by
 have cX:=h;obtain⟨bW,bu,bI,c1,bO,c2,bQ,bp,bZ,bB,rfl,ad,h1,I,ab,aE,eU,eh,eo,dY,ew⟩:=h.form;refine bl E.HR ?_;refine J ?_;intro w1 bP db ah au;refine J ?_;intro aB dE kI aj bY;have zG:=aj.obj au;have e2:=ah.trans aj;refine J ?_;refine J_ (yy _ m aB (cX.ext e2) aH (aJ.ext e2)) ?_;rintro _ aK ⟨rfl,ag⟩;have a1:=e2.trans ag;replace au:=ag.obj zG;replace bY:=ag.obj bY;have z5:=cr bY;have awW:=ah.size;clear zG;refine J ?_;refine _K (v:=.I (o.check m).cC) rfl ?_;refine J ?_;refine I_ (fun hk=>?_) (fun hk=>?_);rotate_left
 .refine J ?_;intro aR dq bf;refine J ?_;exact⟨.inl ⟨fun aA=>hk aA.1,aL⟩,dq.ext a1 Aw⟩
 have aS:=o.iu hk;have cM:=aS.lim;have iI:=o.tU cM;refine J ?_;refine J_ (yL _ m aK (cX.ext a1) cM) ?_;rintro ho aR ⟨iZ,aw⟩;obtain⟨fm,qb,rfl,_⟩:=iZ.form;have v7:bg 2 (Flat o.Ref.enc) aR (.slice fm (o.refs m).length qb) (o.refs m):=aP.hA (enc:=o.Ref.enc) (fun _=>rfl) iZ;replace au:=aw.obj au;replace bY:=aw.obj bY;have bC:=a1.trans aw;clear iZ;refine J ?_;apply I_<;>intro g1
 .refine J ?_;intro bo e4 BY;refine J ?_;exact⟨.inl ⟨fun aA=>by have:=aA.2;omega,aL⟩,e4.ext bC Aw⟩
 obtain⟨r,rfl⟩:=Rt (show 0<=ref by omega);refine J ?_;apply I_<;>intro g2
 .refine J ?_;intro bo e4 BY;refine J ?_;exact⟨.inl ⟨fun aA=>by have:=aA.2;omega,aL⟩,e4.ext bC Aw⟩
 have aA:o.Told m r:=⟨hk,Aw,Aw⟩;obtain⟨q,p,k,bq⟩:=o.oO aA;have ao:=bq.at_.U;have aq:=bq.at_.aq;have mP:=bq.at_.hk;have gm:(o.refs m)[r].inst=(q:Int):=bq.at_.ox;have o0:(o.refs m)[r].cmd=(k:Int):=bq.at_.sA;have oe:=bq.at_.ip;obtain⟨jI,rfl⟩:=v7.addr;refine J ?_;intro bo aF;replace au:=aF.obj au;replace bY:=aF.obj bY;have Ek:=v7.ext Flat.ext aF;have bF:=bC.trans aF;refine J ?_;refine J_ (FA _ m bo (cX.ext bF) aH (aJ.ext bF)) ?_;rintro _ bt ⟨⟨xs,rfl,zA⟩,aI⟩;rw[o.FB hk] at zA;have IQ:=zA;replace zA:=zA.here;obtain⟨l7,d0,jW,d1,kQ,d2,pa,d3,oD,d4,rfl,_⟩:=zA.form;have cg:=bF.trans aI;refine⟨aI,?_⟩;refine J ?_;refine J_ (wI _ m bt (cX.ext cg) aH) ?_;rintro bH bG ⟨eM,bm⟩;obtain⟨b9,ci,rfl,_⟩:=eM.form;have c8:=cg.trans bm;refine⟨aI.trans bm,?_⟩;refine J ?_;intro cQ jJ nu bA cn;have eY:=c8.trans bA;have Cb:kk cQ (.slice b9 (o.insts m).length ci) (o.insts m):=aP.hA (enc:=o.cR.enc) (fun _=>rfl) (eM.ext bA);have Yw:=zA.ext (bm.trans bA);rw[gm] at cn;have Pe:pn cQ jJ m q:=⟨_,_,_,cn,cX.ext eY,Yw,Cb⟩;have OV:=(aI.trans bm).trans bA;have YB:=Ek.ext Flat.ext OV;replace au:=OV.obj au;replace bY:=OV.obj bY;have Ti:=eY.size;obtain⟨h7,rfl⟩:=Cb.addr;obtain⟨a3,rfl⟩:=ab.addr;obtain⟨lZ,bV,dL,dA,eW,fl⟩:=ab.at p aq;obtain⟨CA,Bs,rfl,Cp⟩:=fl.form;obtain⟨ac,rfl⟩:=fl.addr;obtain⟨eE,e6,dn,fR,hv,fW⟩:=fl.at k mP;replace dA:=dA.ext eY;replace fR:=fR.ext eY;obtain⟨gn,gz,rfl,_⟩:=hv.form;obtain⟨sw,rZ,rfl,_⟩:=fW.form;unfold o.dw.enc at dA;unfold o.dr.enc at fR;clear zA v7 Ek Yw;refine J ?_;intro cS bT;replace au:=bT.obj au;replace bY:=bT.obj bY;replace cn:=bT.obj cn;replace YB:=YB.ext Flat.ext bT;replace Cb:=Cb.ext Flat.ext bT;replace dA:=dA.ext bT;replace fR:=fR.ext bT;refine J ?_;refine K_ p (by rw[oe]) aq ?_;refine J ?_;refine K_ k (by rw[o0]) mP ?_;refine J ?_;intro eG o1 gu;refine J ?_;have jq:Ext w cS:=eY.trans bT;have pR:=aw.size;have o7:=aF.size;have aq7:=aI.size;have awb:=bm.size;have jo:Ext w eG:=o1.ext jq Aw;have ajv:=((IQ.ext ((bm.trans bA).trans bT) aq7).wr o1 Aw).here;have ak3:kk eG (.slice (some h7) (o.insts m).length ci) (o.insts m):=aP.hA (enc:=o.cR.enc) (fun _=>rfl) (aP.wr o1 Aw ((eM.ext bA).ext bT));have j8:=o.vK aq mP;refine⟨.inr ⟨jJ,q,p,k,.slice gn (o.bx m p k).guard.length gz,.slice sw (o.bx m p k).bE.length rZ,bq,by rw[j8];rfl,⟨_,_,_,o1.obj cn Aw,cX.ext jo,ajv,ak3⟩,?_,?_⟩,jo⟩
 .rw[j8];exact hv.ext jo
 .rw[j8];exact fW.ext jo
end Go.Proofs.R
end
section
namespace Go.Proofs
open Go.Shelf
def Tryz.aa1:Go.Shelf.Ren:=⟨fun | 7=>192 | 10=>243 | n=>n,fun | 23=>190 | 26=>3 | 3=>3 | 28=>117 | 0=>0 | 27=>116 | 33=>129 | 4=>4 | n=>n,fun | n=>n⟩
theorem Tryz.Rl:Go.Proofs.SlLaysZI.n7 Tryz.prog Tryz.aa1:={
 mixed:=Cq
 f7:=⟨Tryz.f192.name,BJ,Tryz.func192.trans (congrArg some Cq)⟩
 f10:=⟨Tryz.f243.name,BJ,Tryz.func243.trans (congrArg some Cq)⟩
 t0:=Tryz.underlying0
 a0:=Tryz.isAgg0
 z0:=Tryz.sizeOf0
 v0:=Tryz.zeroValue0
 t4:=Tryz.underlying4
 a4:=Tryz.isAgg4
 z4:=Tryz.sizeOf4
 v4:=Tryz.zeroValue4
 t23:=Tryz.underlying190
 a23:=Tryz.isAgg190
 z23:=Tryz.sizeOf190
 v23:=Tryz.zeroValue190
 t26:=Tryz.underlying3
 a26:=Tryz.isAgg3
 z26:=Tryz.sizeOf3
 v26:=Tryz.zeroValue3
 t27:=Tryz.underlying116
 a27:=Tryz.isAgg116
 z27:=Tryz.sizeOf116
 v27:=Tryz.zeroValue116
 t28:=Tryz.underlying117
 a28:=Tryz.isAgg117
 z28:=Tryz.sizeOf117
 v28:=Tryz.zeroValue117
 t33:=Tryz.underlying129
 a33:=Tryz.isAgg129
 z33:=Tryz.sizeOf129
 v33:=Tryz.zeroValue129 }
def Tryz.adw:Go.Shelf.Ren:=⟨fun | 6=>191 | 8=>241 | 9=>242 | 11=>276 | 13=>245 | 12=>277 | 23=>286 | 24=>287 | 14=>297 | 15=>298 | 16=>299 | 17=>300 | 18=>301 | 19=>302 | 20=>303 | 21=>304 | 22=>305 | 25=>312 | 26=>307 | 27=>308 | 28=>313 | 29=>314 | 30=>315 | 31=>317 | n=>n,fun | 26=>3 | 28=>117 | 24=>29 | 0=>0 | 3=>3 | 37=>169 | 48=>337 | 50=>52 | 4=>4 | 40=>331 | 39=>330 | 45=>249 | 5=>5 | 9=>9 | 51=>346 | 55=>350 | 57=>355 | 58=>89 | 33=>129 | n=>n,fun | n=>n⟩
theorem Tryz.arN:Go.Proofs.SlLaysZI.n6 Tryz.prog Tryz.adw:={
 mixed:=Cq
 f6:=⟨Tryz.f191.name,BJ,Tryz.func191.trans (congrArg some Cq)⟩
 f8:=⟨Tryz.f241.name,BJ,Tryz.func241.trans (congrArg some Cq)⟩
 f11:=⟨Tryz.f276.name,BJ,Tryz.func276.trans (congrArg some Cq)⟩
 t0:=Tryz.underlying0
 a0:=Tryz.isAgg0
 z0:=Tryz.sizeOf0
 v0:=Tryz.zeroValue0
 t24:=Tryz.underlying29
 a24:=Tryz.isAgg29
 z24:=Tryz.sizeOf29
 v24:=Tryz.zeroValue29
 t26:=Tryz.underlying3
 a26:=Tryz.isAgg3
 z26:=Tryz.sizeOf3
 v26:=Tryz.zeroValue3
 t28:=Tryz.underlying117
 a28:=Tryz.isAgg117
 z28:=Tryz.sizeOf117
 v28:=Tryz.zeroValue117
 i26:=by kernel_rfl }
def Tryz.arH:Go.Shelf.Ren:=⟨fun | 5=>242 | 8=>245 | 7=>277 | 19=>286 | 20=>287 | 10=>297 | 11=>298 | 12=>299 | 13=>300 | 14=>301 | 15=>302 | 16=>303 | 17=>304 | 18=>305 | 30=>312 | 31=>307 | 32=>308 | 33=>313 | 34=>314 | 35=>315 | 40=>317 | n=>n,fun | 23=>29 | 25=>3 | 3=>3 | 32=>169 | 22=>29 | 0=>0 | 44=>337 | 46=>52 | 4=>4 | 36=>331 | 35=>330 | 41=>249 | 5=>5 | 9=>9 | 53=>346 | 57=>350 | 63=>355 | 64=>89 | n=>n,fun | n=>n⟩
theorem Tryz.SC:Go.Proofs.SlLaysM.n5 Tryz.prog Tryz.arH:={
 mixed:=Cq
 f5:=⟨Tryz.f242.name,BJ,Tryz.func242.trans (congrArg some Cq)⟩
 f7:=⟨Tryz.f277.name,BJ,Tryz.func277.trans (congrArg some Cq)⟩
 f8:=Tryz.func245.trans (congrArg some Cq)
 f10:=⟨Tryz.f297.name,BJ,Tryz.func297.trans (congrArg some Cq)⟩
 f11:=⟨Tryz.f298.name,BJ,Tryz.func298.trans (congrArg some Cq)⟩
 f12:=⟨Tryz.f299.name,BJ,Tryz.func299.trans (congrArg some Cq)⟩
 f13:=⟨Tryz.f300.name,BJ,Tryz.func300.trans (congrArg some Cq)⟩
 f14:=⟨Tryz.f301.name,BJ,Tryz.func301.trans (congrArg some Cq)⟩
 f15:=⟨Tryz.f302.name,BJ,Tryz.func302.trans (congrArg some Cq)⟩
 f16:=⟨Tryz.f303.name,BJ,Tryz.func303.trans (congrArg some Cq)⟩
 f17:=⟨Tryz.f304.name,BJ,Tryz.func304.trans (congrArg some Cq)⟩
 f18:=⟨Tryz.f305.name,BJ,Tryz.func305.trans (congrArg some Cq)⟩
 f19:=Tryz.func286.trans (congrArg some Cq)
 f20:=Tryz.func287.trans (congrArg some Cq)
 f30:=⟨Tryz.f312.name,BJ,Tryz.func312.trans (congrArg some Cq)⟩
 f31:=Tryz.func307.trans (congrArg some Cq)
 f32:=Tryz.func308.trans (congrArg some Cq)
 f33:=⟨Tryz.f313.name,BJ,Tryz.func313.trans (congrArg some Cq)⟩
 f34:=⟨Tryz.f314.name,BJ,Tryz.func314.trans (congrArg some Cq)⟩
 f35:=⟨Tryz.f315.name,BJ,Tryz.func315.trans (congrArg some Cq)⟩
 f40:=⟨Tryz.f317.name,BJ,Tryz.func317.trans (congrArg some Cq)⟩
 t0:=Tryz.underlying0
 a0:=Tryz.isAgg0
 z0:=Tryz.sizeOf0
 v0:=Tryz.zeroValue0
 t3:=Tryz.underlying3
 a3:=Tryz.isAgg3
 z3:=Tryz.sizeOf3
 v3:=Tryz.zeroValue3
 t4:=Tryz.underlying4
 a4:=Tryz.isAgg4
 z4:=Tryz.sizeOf4
 v4:=Tryz.zeroValue4
 t5:=Tryz.underlying5
 a5:=Tryz.isAgg5
 z5:=Tryz.sizeOf5
 v5:=Tryz.zeroValue5
 t9:=Tryz.underlying9
 a9:=Tryz.isAgg9
 z9:=Tryz.sizeOf9
 v9:=Tryz.zeroValue9
 t22:=Tryz.underlying29
 a22:=Tryz.isAgg29
 z22:=Tryz.sizeOf29
 v22:=Tryz.zeroValue29
 t23:=Tryz.underlying29
 a23:=Tryz.isAgg29
 z23:=Tryz.sizeOf29
 v23:=Tryz.zeroValue29
 t25:=Tryz.underlying3
 a25:=Tryz.isAgg3
 z25:=Tryz.sizeOf3
 v25:=Tryz.zeroValue3
 t32:=Tryz.underlying169
 a32:=Tryz.isAgg169
 z32:=Tryz.sizeOf169
 v32:=Tryz.zeroValue169
 t35:=Tryz.underlying330
 a35:=Tryz.isAgg330
 z35:=Tryz.sizeOf330
 v35:=Tryz.zeroValue330
 t36:=Tryz.underlying331
 a36:=Tryz.isAgg331
 z36:=Tryz.sizeOf331
 v36:=Tryz.zeroValue331
 t41:=Tryz.underlying249
 a41:=Tryz.isAgg249
 z41:=Tryz.sizeOf249
 v41:=Tryz.zeroValue249
 t44:=Tryz.underlying337
 a44:=Tryz.isAgg337
 z44:=Tryz.sizeOf337
 v44:=Tryz.zeroValue337
 t46:=Tryz.underlying52
 a46:=Tryz.isAgg52
 z46:=Tryz.sizeOf52
 v46:=Tryz.zeroValue52
 t53:=Tryz.underlying346
 a53:=Tryz.isAgg346
 z53:=Tryz.sizeOf346
 v53:=Tryz.zeroValue346
 t57:=Tryz.underlying350
 a57:=Tryz.isAgg350
 z57:=Tryz.sizeOf350
 v57:=Tryz.zeroValue350
 t63:=Tryz.underlying355
 a63:=Tryz.isAgg355
 z63:=Tryz.sizeOf355
 v63:=Tryz.zeroValue355
 t64:=Tryz.underlying89
 a64:=Tryz.isAgg89
 z64:=Tryz.sizeOf89
 v64:=Tryz.zeroValue89 }
end Go.Proofs
end
section
namespace Go.Proofs
open Go Go.RowKit Go.Maps Go.Sort Go.Shelf
theorem Tryz.arP(m:Nat):AnyZI.SortsIn Tryz.prog Tryz.adw Fence.wide m :=
 ⟨fun cm off cap ca W hH hblk dd=>callsIn_wide.2 (AnyM.slices_Sort_int Tryz.SC cm off cap ca W hH hblk dd),fun p cap W=>callsIn_wide.2 (AnyM.slices_Sort_int_none Tryz.SC p cap W)⟩
end Go.Proofs
namespace Go.Proofs.R
open Go Go.RowKit Go.Maps Go.Sort Go.Shelf a7
theorem am7(FL:H_ Nat)(w:A_):Dz F.Yc #[.map FL] w fun v w'=>v = .func (.func F.D8) #[] #[.pointer (some ⟨w.heap.size,0,none⟩)]/\w'=w.alloc (.cells #[.map FL] T.r):=by
 have h:CallsIn Fence.wide 5 Tryz.prog F.Yc #[.map FL] w fun e w'=>e = .returned (.func (.func F.D8) #[] #[.pointer (some ⟨w.heap.size,0,none⟩)])/\w'=w.alloc (.cells #[.map FL] T.r):=AnyZI.keys_in Tryz.Rl Fence.wide 5 trivial rfl FL w;exact Calls.mono (callsIn_wide.1 h) fun e w' ⟨h1,I⟩=>⟨_,h1,rfl,I⟩
theorem abx:∀l:C_ Int,l.map encZ=l.flatMap cE
 | []=>rfl
 | x :: l=>by rw[AG5,AH5,abx l];rfl
theorem arO(b:Nat)(L:C_ Int)(w:A_)(h:fi w b L)(cM:L.length<=1000000) :
  Dz F.Yb #[.func (.func F.D8) #[] #[.pointer (some ⟨w.heap.size,0,none⟩)]] (w.alloc (.cells #[.map (some b)] T.r)) fun v w'=>(∃r,aP cE T.a 1 (w.alloc (.cells #[.map (some b)] T.r)).heap.size w' v r/\o.qU L r)/\Ext (w.alloc (.cells #[.map (some b)] T.r)) w':=by
 obtain⟨uc,fK,dd,QF⟩:=h.own (P:=Tryz.prog) (k:=T.a) Cq (by unfold maxLen;omega);have I6:=fK.lt;have tx:SeqGives Fence.wide 2 Tryz.prog F.D8 #[.pointer (some ⟨w.heap.size,0,none⟩)] encZ (fun ca=>ca.Perm (intKeys uc)) (Maps.size uc) (w.alloc (.cells #[.map (some b)] T.r)) :=
  AnyZI.keys_gives (ρ:=Tryz.aa1) { Tryz.Rl with } Fence.wide _ trivial rfl Aw w.heap.size b _ uc _ Bh Bh (by
   obtain⟨es,clock,an,aeE,ak,h8⟩:=fK;exact⟨es,clock,(Below.heap_alloc _ _ b I6).trans an,aeE,ak,h8⟩)
 have WH:=AnyZI.sorted_in Tryz.arN Fence.wide 5 trivial trivial trivial trivial rfl Aw (Tryz.arP _) (Tryz.SC.f5.enters rfl) F.D8 #[.pointer (some ⟨w.heap.size,0,none⟩)] trivial (Tryz.Rl.f10.enters rfl) _ _ (by unfold maxLen;omega) Aw _ tx;change CallsIn _ _ Tryz.prog F.Yb _ _ _ at WH;refine Calls.mono (callsIn_wide.1 WH) ?_;rintro e w' ⟨v,ca,rfl,b3,lX,_,an⟩;obtain⟨h1,I⟩:=QF ca b3;refine⟨v,rfl,⟨ca.mergeSort fun x y=>decide (x<=y),?_,arM h1,fun x=>?_⟩,an⟩
 .unfold aP;rw[<-abx,List.length_mergeSort];exact lX
 .rw[(List.mergeSort_perm ca _).mem_iff];exact I x
theorem acR(b:Nat)(L:C_ Int)(w:A_)(h:fi w b L)(cM:L.length<=1000000) :
  Dz F.HX #[.map (some b)] w fun v w'=>(∃r,aP cE T.a 1 w.heap.size w' v r/\o.qU L r)/\Ext w w':=by
 have he:Ext w (w.alloc (.cells #[.map (some b)] T.r)):=(Ext.refl w).alloc _;have hk:=am7 (some b) w;have ak:=arO b L w h cM;generalize w.alloc (.cells #[.map (some b)] T.r)=w1 at he hk ak;refine bl E.HX ?_;refine J ?_;refine J_ hk ?_;rintro _ _ ⟨rfl,rfl⟩;refine J ?_;refine J_ ak ?_;rintro v aB ⟨⟨r,aJ,aG⟩,aj⟩;refine J ?_;exact⟨⟨r,aP.low he.size aJ,aG⟩,he.trans aj⟩
end Go.Proofs.R
end
section
namespace Go.Proofs.R
open Go Go.RowKit a7
theorem U1(cs:C_ B_)(m:o.Model)(ref:Int)(w:A_)(h:o.dU w cs m)(aH:m.cA)(aJ:gF w) :
  Dz F.xO #[.agg cs.toArray,.I ref] w fun v w'=>(∃dn lH a b,v = .tuple #[dn,lH]/\aP cE T.a 1 w.heap.size w' dn a/\aP cE T.a 1 w.heap.size w' lH b/\o.kz m ref a b)/\Ext w w':=by
 have cX:=h;obtain⟨bW,bu,bI,c1,bO,c2,bQ,bp,bZ,bB,rfl,_⟩:=h.form;refine bl E.xO ?_;refine J ?_;intro w1 bP db ah au;refine J ?_;refine J_ (aoR _ m ref w1 (cX.ext ah) aH (aJ.ext ah)) ?_;rintro _ aB ⟨hO,aj⟩;replace au:=aj.obj au;have e2:=ah.trans aj;rcases hO with ⟨E3,rfl⟩ | ⟨b,q,p,k,e6,dn,bq,rfl,mN,hv,fW⟩
 .unfold WT;refine J ?_;intro wn ee gf fr eE;refine J ?_;intro aK fY b1;refine J ?_;exact⟨⟨_,_,[],[],rfl,aP.nil _ _ _ _ _,aP.nil _ _ _ _ _,o.kz.nil E3⟩,e2.trans (fY.ext fr gf)⟩
 obtain⟨gn,gz,rfl,_⟩:=hv.form;obtain⟨sw,rZ,rfl,_⟩:=fW.form;have aS:=o.iu bq.ok;have aX:=bq.inst;have oT:=bq.cin;have sd:=oT.gG;obtain⟨c,ye⟩:∃c,c=o.bx m p k:=⟨_,rfl⟩;rw[<-ye] at oT sd hv fW ⊢;unfold o.dr.enc;refine J ?_;intro wn iC ia fr eE;refine J ?_;intro aK fY cf;have ag:Ext aB aK:=fY.ext fr ia;clear fr eE fY;have a1:=e2.trans ag;have En:=mN.ext ag;have alz:=hv.ext ag;have Qi:=fW.ext ag;have EN:=o.Fo aS aX.ao;clear au mN hv fW;refine J ?_;refine _g fun aR vD Pn aw EC=>?_;refine J ?_;refine _g fun bo cU auq aF uF=>?_;have tu:=(fi.empty EC).ext aF;have e4:=fi.empty uF;have b8:vD≠cU:=by have:=cr EC;omega
 have ix:=aw.trans aF;have I8:=ix.obj cf;have aj0:aK.heap.size<=cU:=by have:=aw.size;omega
 clear EC uF;refine J ?_;refine J_ (EJ b q m bo (En.ext ix) aX.ao) ?_;rintro _ bt ⟨rfl,aI⟩;refine J ?_;refine J_ (tR vD [] (o.da m q) 1 _ _ bt (tu.ext aI) rfl rfl Aw) ?_;rintro _ bG ⟨Z9,ib⟩;have dy:=(e4.ext aI).mod ib (Ne.symm b8);have gx:=ib.ext (ix.trans aI) fun k hk e=>Aw
 refine J ?_;refine J_ (EJ b q m bG (En.ext gx) aX.ao) ?_;rintro _ cQ ⟨rfl,bA⟩;refine J ?_;refine J_ (tR cU [] (o.da m q) 1 _ _ cQ (dy.ext bA) rfl rfl Aw) ?_;rintro _ cS ⟨hI,mQ⟩;have aab:=(Z9.ext bA).mod mQ b8;have gR:=mQ.ext (gx.trans bA) fun k hk e=>Aw
 have aki:=gR.obj cf;refine J ?_;refine J_ (D3 c.guard _ b vD q p _ m aK cS En gR Pn aab aS aX alz oT.guard) ?_;rintro _ eG ⟨Qu,sg⟩;have o1:=hI.mod sg (Ne.symm b8);have xq:=sg.ext gR fun k hk e=>Aw
 have akh:=xq.obj cf;rw[AF9] at o1 Qu;have Ye:fi eG vD (o.ow m q c 0):=by
  unfold o.ow o.D9;rw[AK8,List.flatMap_nil,AF2];exact Qu
 have Yf:fi eG cU (o.l6 m q c 0):=by
  unfold o.l6;rw[AK8,List.flatMap_nil,AF2];exact o1
 clear tu e4 Z9 dy aab hI Qu o1 I8 aki ib mQ sg aI bA ix gx gR;refine J ?_;refine L_ 40 c.bE.length [6,7,9,10,38,39] (fun _:Unit=>[]) () (fun n _ W=>Ext aK W/\fi W vD (o.ow m q c n)/\fi W cU (o.l6 m q c n)) a8 a8 ⟨xq,Ye,Yf⟩ ?_;clear akh Ye Yf xq;rintro n _ S fN ax ⟨sI,Qv,ie⟩;have alv:=Qi.ext sI;refine J ?_;apply I_<;>intro g1
 .have iH:n<c.bE.length:=Aw
  obtain⟨vy,rfl⟩:=Qi.addr;obtain⟨bH,bV,q8,oX,pG⟩:=Qi.at n iH;have Er:=oT.act n iH;obtain⟨b9,ci,rfl,_⟩:=oX.form;obtain⟨ep,fp,rfl,_⟩:=pG.form;replace q8:=q8.ext sI;clear alv;refine J ?_;intro h2 Bi tj ev iF;have pX:=sI.trans ev;have zZ:=Qv.ext ev;have lB:=ie.ext ev;have jy:¬Bi=vD:=fun e=>by subst e;obtain⟨_,_,h,_⟩:=zZ.ex;rw[iF] at h;cases h
  have ke:¬Bi=cU:=fun e=>by subst e;obtain⟨_,_,h,_⟩:=lB.ex;rw[iF] at h;cases h
  clear q8 Qv ie;refine J ?_;refine J_ (aqm c.bE[n] _ _ b vD q p _ m aK h2 En pX Pn zZ aS aX oX pG Er) ?_;rintro _ l5 ⟨al0,tr⟩;have kc:=lB.mod tr (Ne.symm b8);have xr:=tr.ext pX fun k hk e=>Aw
  replace iF:=tr.obj jy iF;clear zZ lB;refine J ?_;refine J_ (as7 c.bE[n] _ _ b cU q p _ m aK l5 En xr aj0 kc aS aX oX Er) ?_;rintro _ vh ⟨yt,Jv⟩;have JC:=al0.mod Jv b8;have yW:=Jv.ext xr fun k hk e=>Aw
  refine J ?_;exact⟨iH,aL,(),trivial,yW,by rw[o.acG iH];exact JC,by rw[o.aeh iH];exact yt⟩
 .have Jz:c.bE.length=n:=Aw
  have iI:=(o.Sg aS aX oT n Aw).len;have QX:=(o.aej aS aX oT n Aw).len;refine J ?_;refine J_ (acR vD _ fN Qv Aw) ?_;rintro u h2 ⟨⟨aqe,alF,al2⟩,ev⟩;refine J ?_;refine J_ (acR cU _ h2 (ie.ext ev) Aw) ?_;rintro AE l5 ⟨⟨Sd,alG,al3⟩,hd⟩;refine J ?_;have Tg:=(a1.trans sI).size;have z12:=ev.size;refine⟨⟨_,_,aqe,Sd,rfl,aP.ext hd (aP.low Tg alF),aP.low (Ru Tg z12) alG,?_⟩,((a1.trans sI).trans ev).trans hd⟩;subst ye;refine o.kz.of bq ?_ ?_
  .rw[Jz];exact al2
  .rw[Jz];exact al3
theorem aeM(cs:C_ B_)(m:o.Model)(ref:Int)(w:A_)(h:o.dU w cs m)(aH:m.cA)(aJ:gF w) :
  Dz F.xO #[.agg cs.toArray,.I ref] w fun v w'=>(∃dn lH a b,v = .tuple #[dn,lH]/\dc w' dn a/\dc w' lH b/\o.kz m ref a b)/\Ext w w' :=
 (U1 cs m ref w h aH aJ).mono fun v w' ⟨⟨dn,lH,a,b,aD,aU,an,bD⟩,he⟩=>⟨⟨dn,lH,a,b,aD,aP.hA (enc:=cE) (fun _=>rfl) aU,aP.hA (enc:=cE) (fun _=>rfl) an,bD⟩,he⟩
end Go.Proofs.R
end
section
namespace a7
open Go Go.RowKit
structure atg(e:TypeId)(base:Nat)(w:World)(v1:Value)(eh:List Int)(v2:Value)(eo:List Int):Prop where
 dH:aP cE e 1 base w v1 eh
 df:aP cE e 1 base w v2 eo
 ap:∀k,v1.ownBlock=some k->v2.ownBlock≠some k
end a7
end
section
namespace o
open Go
theorem ah3(x:Node)(h : -1000<=x.op/\x.op<=1000 /\ -1000<=x.n/\x.n<=1000):x.ok:=⟨o3 ⟨h.1,h.2.1⟩,o3 h.2.2⟩
end o
end
section
namespace o
theorem acr{s:C_ Scalar}{c:dg}{l:C_ Int}(az:l.length=1+c.cap.toNat)(ad:1<=c.cap):lM s c l↔(0<=l[0]' Aw/\l[0]' Aw<=c.cap/\∀k (h:k+1<l.length),((k:Int)<l[0]' Aw->(eS c.scalar c.aQ c.U s).aQ<=l[k+1]/\l[k+1]<=(eS c.scalar c.aQ c.U s).U)/\(l[0]' Aw<=k->l[k+1]=0)):=by
 unfold lM;constructor
 .rintro⟨n,h1,I,ab,aE⟩;obtain⟨_,rfl⟩:=List.getElem?_eq_some_iff.1 h1;refine⟨I,ab,fun k h=>?_⟩;obtain⟨x,aY,bz⟩:=aE k Aw;obtain⟨_,rfl⟩:=List.getElem?_eq_some_iff.1 aY;exact bz
 .rintro⟨I,ab,aE⟩;exact⟨l[0]' Aw,List.getElem?_eq_getElem _,I,ab,fun k h=>⟨l[k+1]' Aw,List.getElem?_eq_getElem _,aE k Aw⟩⟩
end o
namespace Go.Proofs.R
open Go Go.RowKit a7
theorem xG.form{w:A_}{b:Nat}{m:o.Model}(h:xG w b m):∃bW bu bI c1 bO c2 bQ bp bZ bB eB d0 dB d1 ec d2 er d3 eN d4 b9 ci,
  w.heap[b]? = some (.cells #[.slice bW (o.layout m).vars.length bu,.slice bI (o.layout m).ar.length c1,.slice bO (o.layout m).insts.length c2,.I (o.layout m).cells,.slice bQ (o.layout m).aQ.length bp,.slice bZ (o.layout m).U.length bB,
   .slice eB m.scalars.length d0,.slice dB m.vars.length d1,.slice ec m.ar.length d2,.slice er m.procs.length d3,.slice eN m.props.length d4,.slice b9 (o.insts m).length ci] T.oM) /\
  bg 1 (Flat cE) w (.slice bW (o.layout m).vars.length bu) (o.layout m).vars/\bg 1 (Flat cE) w (.slice bI (o.layout m).ar.length c1) (o.layout m).ar/\bg 1 (Flat cE) w (.slice bO (o.layout m).insts.length c2) (o.layout m).insts /\
  bg 1 (Flat cE) w (.slice bQ (o.layout m).aQ.length bp) (o.layout m).aQ/\bg 1 (Flat cE) w (.slice bZ (o.layout m).U.length bB) (o.layout m).U /\
  o.h5 w (.slice eB m.scalars.length d0) m.scalars/\o.hR w (.slice dB m.vars.length d1) m.vars/\o.mC w (.slice ec m.ar.length d2) m.ar/\o.qQ w (.slice er m.procs.length d3) m.procs /\
  kk w (.slice b9 (o.insts m).length ci) (o.insts m):=by
 obtain⟨xs,cs,bH,an,cM,aS,aX⟩:=h.ex;obtain⟨bW,bu,bI,c1,bO,c2,bQ,bp,bZ,bB,rfl,dV,dH,df,eO,fM⟩:=cM.form;obtain⟨eB,d0,dB,d1,ec,d2,er,d3,eN,d4,rfl,ad,h1,I,ab,aE,_⟩:=aS.form;obtain⟨b9,ci,rfl,_⟩:=aX.form;exact⟨bW,bu,bI,c1,bO,c2,bQ,bp,bZ,bB,eB,d0,dB,d1,ec,d2,er,d3,eN,d4,b9,ci,an,dV,dH,df,eO,fM,ad,h1,I,ab,aX⟩
theorem ap2(b i:Nat)(v:B_)(s:C_ Int)(m:o.Model)(w:A_)(aG:xG w b m)(aS:o.eD m)(U:i<m.ar.length)(ak:dc w v s)(az:s.length=o.c6 m) :
  Dz F.HO #[.pointer (some ⟨b,0,none⟩),.I i,v] w fun u w'=>(∃t:Bool,u = .bool t/\(t=true↔o.lM m.scalars m.ar[i] (o.mM m i m.ar[i] s)))/\Ext w w':=by
 obtain⟨bW,bu,bI,c1,bO,c2,bQ,bp,bZ,bB,eB,d0,dB,d1,ec,d2,er,d3,eN,d4,b9,ci,an,dV,dH,df,eO,fM,ad,h1,I,ab,aX⟩:=aG.form;obtain⟨ep,fp,rfl,fc⟩:=ak.form;have c5:=aS.chan _ (Gy U);have hS:=c5.cap;have gG:=aS.gG;obtain⟨j7,e0⟩:=o.s6 U;have nz:=o.vF U;have eE:=o.mL m;have ko:o.c6 m<=64:=o.iL aS;obtain⟨ac,rfl⟩:=I.addr;obtain⟨cZ,rfl⟩:=dH.addr;have dT:=(I.at i U).cells;refine bl E.HO ?_;refine J ?_;intro w1 iC ia ah cf;replace an:=ah.obj an;replace ad:=ad.ext ah;replace dH:=dH.ext Flat.ext ah;replace ak:=ak.ext Flat.ext ah;clear dT h1 I ab aX dV df eO fM aG;refine J ?_;refine P_ (.tuple #[.I (o.eS m.ar[i].scalar m.ar[i].aQ m.ar[i].U m.scalars).aQ,.I (o.eS m.ar[i].scalar m.ar[i].aQ m.ar[i].U m.scalars).U]) (fun w' e=>by
  rw[show o.eS m.ar[i].scalar m.ar[i].aQ m.ar[i].U m.scalars=_ from o.zc ⟨⟨#[]⟩,m.ar[i].scalar,0,m.ar[i].aQ,m.ar[i].U,0⟩ m.scalars];exact Hl ⟨⟨#[]⟩,m.ar[i].scalar,0,m.ar[i].aQ,m.ar[i].U,0⟩ _ m.scalars w' (ad.ext e)) ?_
 refine J ?_;intro aB aj;replace an:=aj.obj an;replace dH:=dH.ext Flat.ext aj;replace ak:=ak.ext Flat.ext aj;replace cf:=aj.obj cf;have e2:=ah.trans aj;obtain⟨aQ,hf⟩:∃aQ,aQ=(o.eS m.ar[i].scalar m.ar[i].aQ m.ar[i].U m.scalars).aQ:=⟨_,rfl⟩;obtain⟨cw,tq⟩:∃U,U=(o.eS m.ar[i].scalar m.ar[i].aQ m.ar[i].U m.scalars).U:=⟨_,rfl⟩;rw[<-hf,<-tq];refine J ?_;refine _Y (k:=.i64) (k':=.i64) (o.b6 m i) (o.b6 m i+(1+m.ar[i].cap.toNat)) ak (by simp[c0,bL,e0]) (by simp[c0,bL,e0];omega) Aw Aw fun ae c aq=>?_;rw[show o.b6 m i+(1+m.ar[i].cap.toNat) - o.b6 m i=1+m.ar[i].cap.toNat from Aw] at aq ⊢;obtain⟨l,cM⟩:∃l,l=o.mM m i m.ar[i] s:=⟨_,rfl⟩;have aq:bg 1 (Flat cE) aB (.slice ae (1+m.ar[i].cap.toNat) c) l:=by rw[cM];exact aq
 have qv:l.length=1+m.ar[i].cap.toNat:=aq.len.1.symm;rw[<-cM];obtain⟨ap,rfl⟩:=aq.addr;refine J ?_;intro aK ag;replace aq:=aq.ext Flat.ext ag;replace cf:=ag.obj cf;have a1:=e2.trans ag;have ao:=o.acr (s:=m.scalars) (c:=m.ar[i]) (l:=l) qv hS.1;rw[<-hf,<-tq] at ao;refine J ?_;refine K_ 0 rfl Aw ?_;refine J ?_;apply I_<;>intro g1
 .refine J ?_;intro aR aw;exact⟨⟨false,rfl,by simp only[Bool.false_eq_true,false_iff];intro h;exact absurd (ao.1 h).1 Aw⟩,a1.trans aw⟩
 refine J ?_;refine K_ 0 rfl Aw ?_;refine J ?_;intro aR aw;replace aq:=aq.ext Flat.ext aw;replace cf:=aw.obj cf;replace a1:=a1.trans aw;apply I_<;>intro g2
 .refine J ?_;exact⟨⟨false,rfl,by simp only[Bool.false_eq_true,false_iff];intro h;exact absurd (ao.1 h).2.1 Aw⟩,a1⟩
 have aA:=aq.tail 1 Aw;refine J ?_;refine _8 (k:=.i64) 1 (by simp[n2]) ⟨Aw,aq.len.2.1⟩ ?_;obtain⟨ry,het⟩:∃ry,ry=(if c=1 then some ap else (some ap).map (·.add (1*1))):=⟨_,rfl⟩;rw[<-het] at aA ⊢;have au2:(l.drop 1).length=m.ar[i].cap.toNat:=by rw[AF8];omega
 rw[show 1+m.ar[i].cap.toNat - 1=m.ar[i].cap.toNat from Aw] at aA ⊢;refine J ?_;refine L_ 74 m.ar[i].cap.toNat [7,8,9,10,72,73] (fun _:Unit=>[]) () (fun k _ W=>Ext aR W/\∀j (h:j+1<l.length),j<k->((j:Int)<l[0]->aQ<=l[j+1]/\l[j+1]<=cw)/\(l[0]<=j->l[j+1]=0)) a8 a8 ⟨Ext.refl _,fun j _ h=>absurd h (LC _)⟩ ?_;have Ps:=cf;clear cf;rintro k _ S bo hk ⟨aF,du⟩;have cf:=aF.obj Ps;have bC:=a1.trans aF;refine J ?_;apply I_<;>intro g3
 .have aV:k<(l.drop 1).length:=Aw
  have cI:k+1<l.length:=Aw
  obtain⟨at_,rfl⟩:=aA.addr;have aD:(l.drop 1)[k]=l[k+1]:=by simp[Nat.add_comm]
  have bad:¬(((k:Int)<l[0]->aQ<=l[k+1]/\l[k+1]<=cw)/\(l[0]<=k->l[k+1]=0))->(false=true↔o.lM m.scalars m.ar[i] l):=fun h=>by
   simp only[Bool.false_eq_true,false_iff];exact fun cN=>h ((ao.1 cN).2.2 k cI)
  refine J ?_;refine K_ 0 rfl Aw ?_;refine J ?_;apply I_<;>intro g4
  .refine J ?_;apply I_<;>intro g5
   .refine J ?_;exact⟨⟨false,rfl,bad fun h=>by have:=h.1 g4;omega⟩,bC⟩
   refine J ?_;apply I_<;>intro g6
   .refine J ?_;exact⟨⟨false,rfl,bad fun h=>by have:=h.1 g4;omega⟩,bC⟩
   refine J ?_;refine K_ 0 rfl Aw ?_;refine J ?_;refine⟨Aw,aL,(),trivial,aF,fun j h aC=>?_⟩;by_cases gU:j=k
   .subst gU;exact⟨fun _=>Aw,fun _=>Aw⟩
   .exact du j h Aw
  .refine J ?_;refine K_ 0 rfl Aw ?_;refine J ?_;apply I_<;>intro g5
   .refine J ?_;refine⟨Aw,aL,(),trivial,aF,fun j h aC=>?_⟩;by_cases gU:j=k
    .subst gU;exact⟨fun _=>Aw,fun _=>Aw⟩
    .exact du j h Aw
   .refine J ?_;exact⟨⟨false,rfl,bad fun h=>by have:=h.2 Aw;omega⟩,bC⟩
 .refine J ?_;exact⟨⟨true,rfl,by simp only[true_iff];exact ao.2 ⟨Aw,Aw,fun j h=>du j h Aw⟩⟩,bC⟩
theorem aqL(b:Nat)(v:B_)(s:C_ Int)(m:o.Model)(w:A_)(aG:xG w b m)(aS:o.eD m)(ak:dc w v s) :
  Dz F.ci #[.pointer (some ⟨b,0,none⟩),v] w fun u w'=>(∃t:Bool,u = .bool t/\(t=true↔o.Fits m s))/\Ext w w':=by
 obtain⟨bW,bu,bI,c1,bO,c2,bQ,bp,bZ,bB,eB,d0,dB,d1,ec,d2,er,d3,eN,d4,b9,ci,an,dV,dH,df,eO,fM,ad,h1,I,ab,aX⟩:=aG.form;obtain⟨ep,fp,rfl,fc⟩:=ak.form;have XM:(o.layout m).cells=(o.c6 m:Int):=rfl;have f2:=o.J3 m;have f3:=o.J1 m;have ko:o.c6 m<=64:=o.iL aS;have gG:=aS.gG;refine bl E.ci ?_;refine J ?_;apply I_<;>intro g1;rotate_left
 .refine J ?_;exact⟨⟨false,rfl,by simp only[Bool.false_eq_true,false_iff];intro h;have:=h.len;omega⟩,Ext.refl _⟩
 have az:s.length=o.c6 m:=Aw
 clear ad h1 ab aX dV dH df;refine J ?_;refine L_ 22 m.ar.length [0,1,20,21] (fun _:Unit=>[]) () (fun k _ W=>Ext w W/\∀j (h:j<m.ar.length),j<k->o.lM m.scalars m.ar[j] (o.mM m j m.ar[j] s)) a8 a8 ⟨Ext.refl _,fun j _ h=>absurd h (LC _)⟩ ?_;rintro k _ S w1 hk ⟨ah,du⟩;refine J ?_;apply I_<;>intro g2
 .have aV:k<m.ar.length:=Aw
  refine J ?_;refine J_ (ap2 b k _ s m w1 (aG.ext ah) aS aV (ak.ext Flat.ext ah) az) ?_;rintro _ aB ⟨⟨t,rfl,aA⟩,aj⟩;cases t with
  | false =>
   refine J ?_;exact⟨⟨false,rfl,by simp only[Bool.false_eq_true,false_iff];intro h;exact absurd (aA.2 (h.queue k aV)) Bh⟩,ah.trans aj⟩
  | true =>
   refine J ?_;refine⟨aV,aL,(),trivial,ah.trans aj,fun j h aC=>?_⟩;by_cases gU:j=k
   .subst gU;exact aA.1 rfl
   .exact du j h Aw
 have alZ:∀j (h:j<m.ar.length),o.lM m.scalars m.ar[j] (o.mM m j m.ar[j] s):=fun j h=>du j h Aw;have qf:=ah.obj an;refine J ?_;refine L_ 33 s.length [0,1,31,32] (fun _:Unit=>[]) () (fun k _ W=>W=w1/\∀j (h:j<s.length) (bk:j<(o.bU m).length),j<k->(o.bU m)[j].aQ<=s[j]/\s[j]<=(o.bU m)[j].U) a8 a8 ⟨rfl,fun j _ _ h=>absurd h (LC _)⟩ ?_;clear an;rintro k' _ aZ aB cI ⟨rfl,BT⟩;refine J ?_;apply I_<;>intro g3
 .have aV:k'<s.length:=Aw
  have nB:k'<(o.bU m).length:=by unfold o.c6 at az;omega
  have dY:(o.layout m).aQ[k']' Aw=(o.bU m)[k'].aQ:=o.J2 _ nB;have ew:(o.layout m).U[k']' Aw=(o.bU m)[k'].U:=o.J0 _ nB;obtain⟨p8,rfl⟩:=ak.addr;obtain⟨a3,rfl⟩:=eO.addr;obtain⟨a4,rfl⟩:=fM.addr;have bad:¬((o.bU m)[k'].aQ<=s[k']/\s[k']<=(o.bU m)[k'].U)->(false=true↔o.Fits m s):=fun h=>by
   simp only[Bool.false_eq_true,false_iff];exact fun cN=>h (cN.cell k' aV nB)
  refine J ?_;apply I_<;>intro g4
  .refine J ?_;exact⟨⟨false,rfl,bad Aw⟩,ah⟩
  refine J ?_;apply I_<;>intro g5
  .refine J ?_;exact⟨⟨false,rfl,bad Aw⟩,ah⟩
  refine J ?_;refine⟨aV,aL,(),trivial,aL,fun j h bk aC=>?_⟩;by_cases gU:j=k'
  .subst gU;omega
  .exact BT j h bk Aw
 .refine J ?_;exact⟨⟨true,rfl,by simp only[true_iff];exact⟨az,alZ,fun j h bk=>BT j h bk Aw⟩⟩,ah⟩
end Go.Proofs.R
end
section
namespace o
open Classical in
noncomputable def F1(s:C_ Scalar)(c:dg)(l:C_ Int):Bool:=decide (lM s c l)
theorem R8{s:C_ Scalar}{c:dg}{l:C_ Int}:F1 s c l=true↔lM s c l:=by unfold F1;simp
theorem ap0{s:C_ Scalar}{c:dg}{l:C_ Int}{t:Bool}(h:t=true↔lM s c l):t=F1 s c l:=by
 rw[<-R8] at h;cases t<;>cases ao:F1 s c l<;>simp_all
end o
namespace Go.Proofs.R
open Go Go.RowKit a7
theorem adE(cs:C_ B_)(m:o.Model)(v:B_)(s:C_ Int)(w:A_)(h:o.dU w cs m)(aH:m.cA)(aJ:gF w)(ak:dc w v s) :
  Dz F.bv #[.agg cs.toArray,v] w fun u w'=>(∃t:Bool,u = .bool t/\(t=true↔o.hB m s))/\Ext w w':=by
 have aS:=h;obtain⟨bW,bu,bI,c1,bO,c2,bQ,bp,bZ,bB,rfl,_⟩:=h.form;refine bl E.bv ?_;refine J ?_;intro w1 br cF ah al;refine J ?_;refine J_ (aqn _ m w1 (aS.ext ah) aH (aJ.ext ah)) ?_;rintro _ aB ⟨aG,aj⟩;have e2:=ah.trans aj;rcases aG with ⟨rfl,hk⟩ | ⟨b,rfl,hk,aG⟩
 .refine J ?_;refine AB6 Cq ?_;refine J ?_;exact⟨⟨false,rfl,by simp only[Bool.false_eq_true,false_iff];exact fun h=>hk h.1⟩,e2⟩
 .refine J ?_;refine AB7 Cq ?_;refine J ?_;refine J_ (aqL b _ s m aB aG (o.iu hk) (ak.ext Flat.ext e2)) ?_;rintro _ aK ⟨⟨t,rfl,aA⟩,ag⟩;refine J ?_;exact⟨⟨t,by cases t<;>rfl,aA.trans ⟨fun h=>⟨hk,h⟩,fun h=>h.2⟩⟩,e2.trans ag⟩
theorem aqk(cs:C_ B_)(m:o.Model)(v:B_)(l:C_ Int)(i:Nat)(w:A_)(h:o.dU w cs m)(aS:o.eD m)(U:i<m.ar.length)(aq:dc w v l)(qv:l.length=1+m.ar[i].cap.toNat) :
  Dz F.KZ #[.agg cs.toArray,v,.I i] w fun u w'=>(∃t:Bool,u = .bool t/\(t=true↔o.lM m.scalars m.ar[i] l))/\Ext w w':=by
 obtain⟨bW,bu,bI,c1,bO,c2,bQ,bp,bZ,bB,rfl,ad,h1,I,ab,aE,eU,eh,eo,dY,ew⟩:=h.form;obtain⟨ep,fp,rfl,fc⟩:=aq.form;have c5:=aS.chan _ (Gy U);have hS:=c5.cap;have gG:=aS.gG;obtain⟨ac,rfl⟩:=I.addr;obtain⟨ap,rfl⟩:=aq.addr;have dT:=(I.at i U).cells;have ao:=o.acr (s:=m.scalars) (c:=m.ar[i]) (l:=l) qv hS.1;obtain⟨aQ,hf⟩:∃aQ,aQ=(o.eS m.ar[i].scalar m.ar[i].aQ m.ar[i].U m.scalars).aQ:=⟨_,rfl⟩;obtain⟨cw,tq⟩:∃U,U=(o.eS m.ar[i].scalar m.ar[i].aQ m.ar[i].U m.scalars).U:=⟨_,rfl⟩;rw[<-hf,<-tq] at ao;refine bl E.KZ ?_;refine J ?_;intro w1 br cF ah al;replace dT:=dT.ext ah;refine J ?_;intro aB iC ia aj cf;replace al:=aj.obj al;have e2:=ah.trans aj;replace aq:=aq.ext Flat.ext e2;clear dT;refine J ?_;refine K_ 0 rfl Aw ?_;refine J ?_;apply I_<;>intro g1
 .refine J ?_;intro aK ag;refine J ?_;exact⟨⟨false,rfl,by simp only[Bool.false_eq_true,false_iff];intro h;exact absurd (ao.1 h).1 Aw⟩,e2.trans ag⟩
 refine J ?_;refine K_ 0 rfl Aw ?_;refine J ?_;intro aK ag;replace al:=ag.obj al;replace cf:=ag.obj cf;replace aq:=aq.ext Flat.ext ag;have a1:=e2.trans ag;apply I_<;>intro g2
 .refine J ?_;exact⟨⟨false,rfl,by simp only[Bool.false_eq_true,false_iff];intro h;exact absurd (ao.1 h).2.1 Aw⟩,a1⟩
 refine J ?_;refine J_ (Si ⟨⟨#[]⟩,m.ar[i].scalar,0,m.ar[i].aQ,m.ar[i].U,0⟩ _ m.scalars aK (ad.ext a1)) ?_;rintro _ aR ⟨rfl,aw⟩;have Xu:((o.bounds ⟨⟨#[]⟩,m.ar[i].scalar,0,m.ar[i].aQ,m.ar[i].U,0⟩ m.scalars).1=aQ)/\(o.bounds ⟨⟨#[]⟩,m.ar[i].scalar,0,m.ar[i].aQ,m.ar[i].U,0⟩ m.scalars).2=cw:=by
  rw[hf,tq,show o.eS m.ar[i].scalar m.ar[i].aQ m.ar[i].U m.scalars=_ from o.zc ⟨⟨#[]⟩,m.ar[i].scalar,0,m.ar[i].aQ,m.ar[i].U,0⟩ m.scalars];exact⟨rfl,rfl⟩
 rw[Xu.1,Xu.2];have Ps:=aw.obj cf;replace aq:=aq.ext Flat.ext aw;have bC:=a1.trans aw;refine J ?_;refine _P [1,7,8,9] (fun x:Nat=>[(10,.I ((x:Int)+1))]) 0 (fun x W=>Ext aR W/\(x:Int)<=m.ar[i].cap/\∀j (h:j+1<l.length),j<x->((j:Int)<l[0]->aQ<=l[j+1]/\l[j+1]<=cw)/\(l[0]<=j->l[j+1]=0)) (fun x=>(m.ar[i].cap - x).toNat) a8 ⟨Ext.refl _,Aw,fun j _ h=>absurd h (LC _)⟩ ?_;clear al cf;rintro k S bo ⟨aF,hk,du⟩;have cf:=aF.obj Ps;have bF:=bC.trans aF;replace aq:=aq.ext Flat.ext aF;refine J ?_;apply I_<;>intro g3
 .have cI:k+1<l.length:=Aw
  have bad:¬(((k:Int)<l[0]->aQ<=l[k+1]/\l[k+1]<=cw)/\(l[0]<=k->l[k+1]=0))->(false=true↔o.lM m.scalars m.ar[i] l):=fun h=>by
   simp only[Bool.false_eq_true,false_iff];exact fun cN=>h ((ao.1 cN).2.2 k cI)
  refine J ?_;refine K_ 0 rfl Aw ?_;refine J ?_;apply I_<;>intro g4
  .refine J ?_;apply I_<;>intro g5
   .refine J ?_;exact⟨⟨false,rfl,bad fun h=>by have:=h.1 Aw;omega⟩,bF⟩
   refine J ?_;apply I_<;>intro g6
   .refine J ?_;exact⟨⟨false,rfl,bad fun h=>by have:=h.1 Aw;omega⟩,bF⟩
   refine J ?_;refine K_ 0 rfl Aw ?_;refine J ?_;exact⟨k+1,a8,⟨aF,Aw,fun j h aC=>by
    by_cases gU:j=k
    .subst gU;exact⟨fun _=>Aw,fun _=>Aw⟩
    .exact du j h Aw⟩,Aw⟩
  .refine J ?_;refine K_ 0 rfl Aw ?_;refine J ?_;apply I_<;>intro g5
   .refine J ?_;exact⟨k+1,a8,⟨aF,Aw,fun j h aC=>by
     by_cases gU:j=k
     .subst gU;exact⟨fun _=>Aw,fun _=>Aw⟩
     .exact du j h Aw⟩,Aw⟩
   .refine J ?_;exact⟨⟨false,rfl,bad fun h=>by have:=h.2 Aw;omega⟩,bF⟩
 .refine J ?_;exact⟨⟨true,rfl,by simp only[true_iff];exact ao.2 ⟨Aw,Aw,fun j h=>du j h Aw⟩⟩,bF⟩
theorem aqK(xs:C_ B_)(m:o.Model)(v:B_)(s:C_ Int)(w:A_)(cM:o.ky w xs (o.layout m))(aS:o.eD m)(ak:dc w v s)(az:s.length=o.c6 m) :
  Dz F.K0 #[.agg xs.toArray,v] w fun u w'=>(∃t:Bool,u = .bool t/\(t=true↔∀i (h:i<s.length) (bk:i<(o.bU m).length),(o.bU m)[i].aQ<=s[i]/\s[i]<=(o.bU m)[i].U))/\Ext w w':=by
 obtain⟨l7,d0,jW,d1,kQ,d2,pa,d3,oD,d4,rfl,dV,dH,df,eO,fM⟩:=cM.form;obtain⟨ep,fp,rfl,fc⟩:=ak.form;have XM:(o.layout m).cells=(o.c6 m:Int):=rfl;have f2:=o.J3 m;have f3:=o.J1 m;have ko:o.c6 m<=64:=o.iL aS;have la:(o.bU m).length=s.length:=az.symm;refine bl E.K0 ?_;refine J ?_;intro w1 br cF ah al;have sc:=al;clear al;replace ak:=ak.ext Flat.ext ah;replace eO:=eO.ext Flat.ext ah;replace fM:=fM.ext Flat.ext ah;refine J ?_;refine L_ 5 s.length [1,2] (fun _:Unit=>[]) () (fun k _ W=>Ext w1 W/\∀j (h:j<s.length) (bk:j<(o.bU m).length),j<k->(o.bU m)[j].aQ<=s[j]/\s[j]<=(o.bU m)[j].U) a8 a8 ⟨Ext.refl _,fun j _ _ h=>absurd h (LC _)⟩ ?_;rintro k _ S aB hk ⟨aj,du⟩;have al:=aj.obj sc;refine J ?_;apply I_<;>intro g3
 .have aV:k<s.length:=Aw
  have nB:k<(o.bU m).length:=Aw
  have dY:(o.layout m).aQ[k]' Aw=(o.bU m)[k].aQ:=o.J2 _ nB;have ew:(o.layout m).U[k]' Aw=(o.bU m)[k].U:=o.J0 _ nB;obtain⟨p8,rfl⟩:=ak.addr;obtain⟨a3,rfl⟩:=eO.addr;obtain⟨a4,rfl⟩:=fM.addr;have bad:¬((o.bU m)[k].aQ<=s[k]/\s[k]<=(o.bU m)[k].U)->(false=true↔∀i (h:i<s.length) (bk:i<(o.bU m).length),(o.bU m)[i].aQ<=s[i]/\s[i]<=(o.bU m)[i].U):=fun h=>by
   simp only[Bool.false_eq_true,false_iff];exact fun cN=>h (cN k aV nB)
  have e2:=ah.trans aj;refine J ?_;apply I_<;>intro g4
  .refine J ?_;intro aK ag;refine J ?_;exact⟨⟨false,rfl,bad Aw⟩,e2.trans ag⟩
  refine J ?_;intro aK ag;apply I_<;>intro g5
  .refine J ?_;exact⟨⟨false,rfl,bad Aw⟩,e2.trans ag⟩
  refine J ?_;refine⟨aV,aL,(),trivial,aj.trans ag,fun j h bk aC=>?_⟩;by_cases gU:j=k
  .subst gU;omega
  .exact du j h bk Aw
 .refine J ?_;exact⟨⟨true,rfl,by simp only[true_iff];exact fun j h bk=>du j h bk Aw⟩,ah.trans aj⟩
theorem aqa(cs xs:C_ B_)(m:o.Model)(v:B_)(s:C_ Int)(w:A_)(h:o.dU w cs m)(cM:o.ky w xs (o.layout m))(aS:o.eD m)(ak:dc w v s) :
  Dz F.KV #[.agg cs.toArray,.agg xs.toArray,v] w fun u w'=>(∃t:Bool,u = .bool t/\(t=true↔o.Fits m s))/\Ext w w':=by
 have cX:=h;have r9:=cM;obtain⟨bW,bu,bI,c1,bO,c2,bQ,bp,bZ,bB,rfl,ad,h1,I,ab,aE,eU,eh,eo,dY,ew⟩:=h.form;obtain⟨l7,d0,jW,d1,kQ,d2,pa,d3,oD,d4,rfl,dV,dH,df,eO,fM⟩:=cM.form;obtain⟨ep,fp,rfl,fc⟩:=ak.form;have XM:(o.layout m).cells=(o.c6 m:Int):=rfl;have ko:o.c6 m<=64:=o.iL aS;have gG:=aS.gG;refine bl E.KV ?_;refine J ?_;intro w1 br cF ah al;refine J ?_;intro aB bP db aj au;replace al:=aj.obj al;have e2:=ah.trans aj;replace ak:=ak.ext Flat.ext e2;refine J ?_;apply I_<;>intro g1;rotate_left
 .refine J ?_;exact⟨⟨false,rfl,by simp only[Bool.false_eq_true,false_iff];intro h;have:=h.len;omega⟩,e2⟩
 have az:s.length=o.c6 m:=Aw
 have sc:=al;have zF:=au;clear al au;refine J ?_;refine L_ 7 m.ar.length [2,3,4] (fun _:Unit=>[]) () (fun k _ W=>Ext aB W/\∀j (h:j<m.ar.length),j<k->o.lM m.scalars m.ar[j] (o.mM m j m.ar[j] s)) a8 a8 ⟨Ext.refl _,fun j _ h=>absurd h (LC _)⟩ ?_;rintro k _ S aK hk ⟨ag,du⟩;have al:=ag.obj sc;have au:=ag.obj zF;have a1:=e2.trans ag;have gH:=ak.ext Flat.ext ag;refine J ?_;apply I_<;>intro g2
 .have aV:k<m.ar.length:=Aw
  obtain⟨j7,e0⟩:=o.s6 aV;have nz:=o.vF aV;have eE:=o.mL m;have hS:=(aS.chan _ (Gy aV)).cap;obtain⟨cZ,rfl⟩:=dH.addr;obtain⟨a2,rfl⟩:=I.addr;have av6:=dH.ext Flat.ext a1;have dT:=((I.at k aV).cells).ext a1;refine J ?_;refine _Y (k:=.i64) (k':=.i64) (o.b6 m k) (o.b6 m k+(1+m.ar[k].cap.toNat)) gH (by simp[c0,bL,e0]) (by simp[c0,bL,e0];omega) Aw Aw fun ae c aq=>?_;rw[show o.b6 m k+(1+m.ar[k].cap.toNat) - o.b6 m k=1+m.ar[k].cap.toNat from Aw] at aq ⊢;replace aq:bg 1 (Flat cE) aK (.slice ae (1+m.ar[k].cap.toNat) c) (o.mM m k m.ar[k] s):=aq;refine J ?_;refine P_ (.bool (o.F1 m.scalars m.ar[k] (o.mM m k m.ar[k] s))) (fun w' e=>(aqk _ m _ _ k w' (cX.ext (a1.trans e)) aS aV (aq.ext Flat.ext e) aq.len.1.symm).mono fun u bM ⟨⟨t,aA,ao⟩,he⟩=>⟨by rw[aA,o.ap0 ao],he⟩) ?_;refine J ?_;intro aR aw;refine N_ (fun ao=>?_) (fun ao=>?_)
  .refine J ?_;refine⟨aV,aL,(),trivial,ag.trans aw,fun j h aC=>?_⟩;by_cases gU:j=k
   .subst gU;exact o.R8.1 ao
   .exact du j h Aw
  .refine J ?_;exact⟨⟨false,rfl,by simp only[Bool.false_eq_true,false_iff];intro h;have:=o.R8.2 (h.queue k aV);rw[ao] at this;cases this⟩,a1.trans aw⟩
 .refine J ?_;refine J_ (aqK _ m _ s aK (r9.ext a1) aS gH az) ?_;rintro _ aR ⟨⟨t,rfl,aA⟩,aw⟩;refine J ?_;exact⟨⟨t,rfl,aA.trans ⟨fun h=>⟨az,fun j aC=>du j aC Aw,h⟩,fun h=>h.cell⟩⟩,a1.trans aw⟩
end Go.Proofs.R
end
section
namespace a7
open Go Go.RowKit
def nE(l:C_ Int):C_ B_:=l.map (Value.int .i64)
theorem aaJ(l:C_ Int):(nE l).length=l.length:=by simp[nE]
theorem aaK{l:C_ Int}{d j:Nat}{x:Int}(aC:j=d)(h:j<(nE l).toArray.size):(nE l).toArray.set j (.I x) h=(nE (l.set d x)).toArray:=by
 subst aC;simp[nE,List.map_set]
theorem atd(n:Nat):rM (Value.int .i64 0).cells (n*1)=(nE (List.replicate n 0)).toArray:=by
 apply Array.ext_getElem?;intro i;by_cases h:i<n
 .simp[rM,nE,Value.cells,h,Nat.mod_one]
 .simp[rM,nE,h]
theorem _y{cK:B_->A_->Prop}{w:A_}{e:F_}{n:Int}{t}(N:Nat)(ax:n=N)(an:N<=1000000)(hk:∀w1 b,w.heap.size<=b->Ext w w1->w1.heap[b]? = some (.cells (nE (List.replicate N 0)).toArray e)->cK (.slice (some ⟨b,0,none⟩) N N) w1) :
  Dj e 1 8 (.I 0) (.I n) (.I n) w cK t:=by
 subst ax;refine _6 ⟨Aw,Aw,Aw,Aw⟩ ?_;have h:=hk (w.alloc (.cells (nE (List.replicate N 0)).toArray e)) _ (Gf _) ((Ext.refl w).alloc _) (heap_alloc_new w _);rw[AF4,atd];exact h
theorem Fu:∀l:C_ Int,nE l=l.flatMap cE
 | []=>rfl
 | x :: r=>by
  have:=Fu r
  simp only[nE,List.map_cons,List.flatMap_cons] at this ⊢;rw[this];rfl
theorem RL{w:A_}{b n:Nat}{e:F_}{l:C_ Int}(h:w.heap[b]? = some (.cells (nE l).toArray e))(ax:n=l.length)(hm:l.length<=maxLen):bg 1 (Flat cE) w (.slice (some ⟨b,0,none⟩) n n) l :=
 bg.cm (enc:=cE) (fun _=>rfl) (by rw[h,Fu]) ax hm fun _ _ _ h=>h
end a7
namespace Go.Proofs.R
open Go Go.RowKit a7
def G6(w:A_)(a:Addr)(l:C_ Int):Prop := ∃v,w.cell? a=some v/\dc w v l
abbrev xB(w:A_)(v:B_)(l:C_ (C_ Int)):Prop:=bg 1 G6 w v l
theorem aqh(cs ys:C_ B_)(v:B_)(m:o.Model)(s:C_ Int)(p:Nat)(w:A_)(h:o.dU w cs m)(aH:m.cA)(aS:o.eD m)(cM:o.ky w ys (o.layout m))(ak:dc w v s)(av:o.Fits m s)(aq:p<m.procs.length) :
  Dz F.KY #[.agg cs.toArray,.agg ys.toArray,v,.I p] w fun u w'=>aP cE T.a 1 w.heap.size w' u (o.jl m s p m.procs[p].b2 (o.insts m).length)/\Ext w w':=by
 have cX:=h;obtain⟨bW,bu,bI,c1,bO,c2,bQ,bp,bZ,bB,rfl,ad,h1,I,ab,aE,eU,eh,eo,dY,ew⟩:=h.form;obtain⟨l7,d0,jW,d1,kQ,d2,pa,d3,oD,d4,rfl,dV,dH,df,eO,fM,gv,cq,cB,e5⟩:=cM.form;obtain⟨ep,fp,rfl,fc⟩:=ak.form;have hlen:=av.len;have ko:o.c6 m<=64:=o.iL aS;have kq:(o.insts m).length<=30:=by have:=o.uS m;have:=aS.procs;omega
 have c5:=aS.proc _ (Gy aq);have ZK:=c5.b2;obtain⟨f6,f7,f8⟩:=o.tC m;obtain⟨a,rfl⟩:=ab.addr;obtain⟨lZ,bV,dL,dA,eW,fl⟩:=ab.at p aq;refine bl E.KY ?_;refine J ?_;intro w1 br cF ah al;refine J ?_;intro aB bP db aj au;replace al:=aj.obj al;have e2:=ah.trans aj;replace dA:=dA.ext e2;unfold o.dw.enc at dA;refine J ?_;refine _y m.procs[p].b2.toNat Aw Aw ?_;intro aK xP ajX ag ob;rw[<-o.Wo m s p] at ob;replace al:=ag.obj al;replace au:=ag.obj au;have a1:=e2.trans ag;have z2:=e2.size;clear dA;refine J ?_;refine J_ (F7 _ m aK (cX.ext a1) aH) ?_;rintro bH qI ⟨eM,uG⟩;obtain⟨b9,ci,rfl,_⟩:=eM.form;replace au:=uG.obj au;replace ob:=uG.obj ob;have ke:xP≠bP:=by
  intro e;subst e;rw[au] at ob;injection ob with ob;injection ob with _ ob;revert ob;decide
 have ala:∀{W},Mod (fun k=>k=xP) qI W->eC [T.a] qI W:=fun h=>eC.mod h fun k c t ai a=>by
  subst a;rw[ob] at ai;injection ai with ai;injection ai with _ ai;rw[<-ai];simp
 have P3:∀{W:A_},Mod (fun k=>k=xP) qI W->kk W (.slice b9 (o.insts m).length ci) (o.insts m):=fun k=>aP.hA (enc:=o.cR.enc) (fun _=>rfl) (eM.ig (ala k) BJ);have ft:∀{W},Mod (fun k=>k=xP) qI W->W.heap[bP]? = qI.heap[bP]? := fun h=>h.block _ (cr au) (Ne.symm ke);have dI:∀{W},Mod (fun k=>k=xP) qI W->Ext aB W:=fun h=>h.ext (ag.trans uG) fun i U e=>Aw
 rw[au] at ft;clear al au;refine J ?_;refine L_ 11 (o.insts m).length [2,3,5,9,10] (fun _:Unit=>[]) () (fun k _ W=>Mod (fun i=>i=xP) qI W/\W.heap[xP]? = some (.cells (nE (o.jl m s p m.procs[p].b2 k)).toArray T.a)) a8 a8 ⟨Mod.refl _ _,ob⟩ ?_;clear ob;rintro k _ S aR aV ⟨hm,ob⟩;have au:=ft hm;have fs:=P3 hm;have bC:=e2.trans (dI hm);refine J ?_;apply I_<;>intro g1
 .have cI:k<(o.insts m).length:=Aw
  obtain⟨h7,rfl⟩:=fs.addr;have mT:=o.rr _ (Gy cI);obtain⟨q,ao,zY,qh⟩:=o.z8 mT;have B7:(o.insts m)[k]?.map (·.proc)=some (q:Int):=by rw[List.getElem?_eq_getElem cI,AG6,zY]
  obtain⟨d,Fa,akG⟩:=av.loc cI ao qh;obtain⟨kb,Fb⟩:=List.getElem?_eq_some_iff.1 Fa;obtain⟨aam,hG⟩:=o.rq cI;obtain⟨p8,rfl⟩:=ak.addr;obtain⟨a2,rfl⟩:=df.addr;have lb:=ak.ext Flat.ext bC;have yJ:=df.ext Flat.ext bC;refine J ?_;apply I_<;>intro g2
  .have alY:q=p:=Aw
   subst alY;have hE:d<m.procs[q].b2.toNat:=Aw
   have iI:=o.vA m s q m.procs[q].b2 k;have Qx:=o.DC (m:=m) (s:=s) (p:=q) (k:=k) hE;have dv:=o.NA m s q d k;refine J ?_;refine K_ (o.da m k) (by rw[hG]) (by rw[hlen];omega) ?_;refine J ?_;have lX:dc aR (.slice (some ⟨xP,0,none⟩) m.procs[q].b2.toNat m.procs[q].b2.toNat) (o.jl m s q m.procs[q].b2 k):=RL ob iI.symm (by rw[iI];unfold maxLen;omega);have ED:d<(o.jl m s q m.procs[q].b2 k).length:=Aw
   obtain⟨_,Qy⟩:=List.getElem?_eq_some_iff.1 Qx;refine K_ d Fb hE ?_;refine J ?_;rw[Qy];refine J ?_;refine K_ d Fb hE ?_;refine J ?_;refine _E ob (by rw[List.size_toArray,aaJ];omega) rfl fun bo e4 bY=>?_;rw[aaK (AG8 _),<-o.Wn B7 Fa hE] at bY;refine J ?_;exact⟨Aw,aL,(),trivial,hm.trans (e4.mod rfl),bY⟩
  .refine J ?_;refine⟨cI,aL,(),trivial,hm,?_⟩;rw[o.Wm (by rw[B7];intro e;have:=Option.some.inj e;omega)];exact ob
 .have lx:(o.insts m).length=k:=Aw
  refine J ?_;exact⟨by rw[lx];exact aP.low e2.size (aP.zd _ ob ajX (Fu _) (fun _=>rfl) (o.vA _ _ _ _ _).symm (by rw[o.vA];unfold maxLen;omega)),bC⟩
end Go.Proofs.R
end
section
namespace a7
open Go Go.RowKit
section
variable{P:Program}{cK:Value->World->Prop}{e:TypeId}{sz base:Nat}{w:World}{s x:Value}{xs ys:List (e8 sz)}
theorem AA4{ty:F_}{b:Nat}{t}(ak:pj e sz base w s xs)(af:bg sz (Flat j2) w x ys)(an:(xs.length+ys.length)*b<=140737488355328)(k3:xs.length+ys.length<=maxLen)(kp:base<=w.heap.size)
  (hk:∀bS w',pj e sz base w' bS (xs++ys)->w.grownBy w' s.ownBlock->cK bS w'):mB P ty e sz b s x w cK t:=by
 obtain⟨aO,cap,rfl,h1,I,ab,aE⟩:=af.ex;cases aO with
 | some a=>exact _X ak j3 (bg.flat j3 (fun _ _ h=>h) ⟨some a,cap,rfl,h1,I,ab,aE⟩) rfl tf an k3 kp fun bS w' aY bz _=>hk bS w' aY bz
 | none =>
  have:ys=[]:=Classical.byContradiction fun ax=>by have:=ab ax;cases this
  subst this;rw[AF2] at hk;refine _n fun⟨aA,i,z,U,bw,Ck,BX,z7,JI⟩=>?_;refine⟨ty,s,w,?_,hk s w ak ⟨rfl,rfl,rfl,Gf _,fun _ _ _=>rfl⟩⟩;rcases ak.2 with ⟨rfl,ad⟩ | ⟨g,cap,cur,rfl,_,_,E1,_⟩
  .simp[Builtin.append_,run_underlying aA,Go.sizeOf,typeInfo,U,Builtin.lenOf,Builtin.firstCells]
  .simp[Builtin.append_,run_underlying aA,Go.sizeOf,typeInfo,U,Builtin.lenOf,Builtin.firstCells,E1,storeCells]
end
end a7
end
section
namespace a7
open Go Go.RowKit
structure atm{α:Type}(C:World->List Value->α->Prop)(e:TypeId)(sz base:Nat)(v:Value)(w0 ws:World)(xs:List α)(k:Nat)(x:List (e8 sz))(W:World):Prop where
 m:Mod (fun i=>v.ownBlock=some i) ws W
 cm:∀i,v.ownBlock=some i->base<=i/\i<ws.heap.size/\∃cur,ws.heap[i]? = some (.cells cur e)
 len:x.length=xs.length
 own:pj e sz base W v x
 new:∀i (h1:i<x.length) (I:i<xs.length),i<k->gS (fun j=>j<ws.heap.size) (fun w=>C w x[i].1 xs[i]) W
 hz:∀i (h1:i<x.length) (I:i<xs.length),k<=i->C w0 x[i].1 xs[i]
theorem AD2{α:Type}{P:D_}{cK:B_->A_->Prop}{R:A_->Addr->α->Prop}{C:A_->C_ B_->α->Prop}{e:F_}{sz:Nat}[Rel R C sz]{w0 w oC:A_}{x:B_}{xs:C_ α}{ty:F_}{b zb:Nat}{t}
  (af:bg sz R w0 x xs)(dS:Ext w0 w)(I2:w.heap.size<=zb)(zK:Ext w oC)(I9:oC.heap[zb]? = some (.cells #[] e))(av:∀{w w':A_} {cs x},C w cs x->C w' cs x)(an:xs.length*b<=140737488355328)
  (hk:∀aO c w',ed w (fun w=>bg sz R w (.slice aO xs.length c) xs) w'->Ext w w'->Mod (fun i=>i=zb) oC w'->cK (.slice aO xs.length c) w'):mB P ty e sz b (.slice (some ⟨zb,0,none⟩) 0 0) x oC cK t:=by
 obtain⟨cd,az,lv,bq⟩:=af.cells;have aJ:pj e sz w.heap.size oC (.slice (some ⟨zb,0,none⟩) 0 0) []:=aP.empty I2 I9;have hm:cd.length<=maxLen:=by obtain⟨_,_,_,h1,I,_⟩:=lv.ex;omega
 refine AA4 aJ (bg.ext Flat.ext (dS.trans zK) lv) (by rw[AI3,AE9,az];exact an) (by rw[AI3,AE9];exact hm) zK.size fun bS w' mR aH=>?_;rw[AF9] at mR;have ax:ed w (fun w=>bg sz R w bS xs) w':=ed.clone (R:=R) az mR av fun i h1 I=>av (bq i h1 I);obtain⟨aO,c,rfl,_⟩:=ax.here.form;exact hk aO c w' ax (aP.k2 aJ zK aH (Gf _)) (Mod.grown (A:=fun i=>i=zb) aH fun k q=>by injection q with q;exact q.symm)
end a7
end
section
namespace Go.Proofs.R
open Go Go.RowKit a7
def y1(w:A_)(cs:C_ B_)(l:C_ Int):Prop := ∃v,cs=[v]/\dc w v l
instance avs:Rel G6 y1 1 where
 out h:=by
  obtain⟨v,h1,I⟩:=h;exact⟨[v],fun j u aC=>by cases j with | zero=>simp at aC;subst aC;rw[add_zero];exact h1 | succ j=>simp at aC,v,rfl,I⟩
 om h k:=by
  obtain⟨v,rfl,k⟩:=k
  have:=h 0 v rfl
  rw[add_zero] at this;exact⟨v,this,k⟩
 len h:=by obtain⟨v,rfl,_⟩:=h;rfl
 one h:=by obtain⟨v,rfl,h⟩:=h;simpa using h.one
 ext e h:=let ⟨v,h1,I⟩:=h; ⟨v,h1,I.ext Flat.ext e⟩
def aeL(_:A_)(cs:C_ B_)(x:Int):Prop:=cs=cE x
instance avr:Rel (Flat cE) aeL 1 where
 out h:=⟨_,h,rfl⟩
 om h k:=by cases k;exact h
 len h:=by cases h;rfl
 one h:=by cases h;exact lQ _
 ext _ h:=h
theorem _root_.a7.Mod.own{A:Nat->Prop}{a b c:A_}{v:B_}(h:Mod A a b)(aH:b.grownBy c v.ownBlock)(aD:∀k,v.ownBlock=some k->a.heap.size<=k):Mod A a c :=
 h.comp (Mod.grown (A:=fun k=>v.ownBlock=some k) aH fun k hk=>hk) (fun _ _ a=>a) fun i U e=>by have:=aD i e;omega
structure MI(w:World)(cs:List Value)(x:o.Env):Prop where
 ex:∃v0 v1 v2 v3,cs=[v0,v1,v2,v3,.int .i64 x.self]/\xB w v0 x.vars/\dc w v1 x.lens/\dc w v2 x.locals/\xB w v3 x.at_
end Go.Proofs.R
namespace o
open Go
theorem LX(m:Model)(s:C_ Int)(inst:Int):(cc m s inst).vars.length=m.vars.length:=by simp[cc]
theorem Gj{m:Model}{s:C_ Int}{inst:Int}{k:Nat}(h:k<m.vars.length):(cc m s inst).vars[k]? = some ((s.drop (gp m k)).take (cells m.vars[k] m.scalars).toNat):=by
 have e:(cP m)[k]!.length=(cells m.vars[k] m.scalars).toNat:=by
  have bk:k<(cP m).length:=by simpa[cP] using h
  rw[getElem!_pos (cP m) k bk];simp[cP,CY]
 simp only[cc,List.getElem?_map,List.getElem?_range h,Option.map_some,e]
theorem LW(m:Model)(s:C_ Int)(inst:Int):(cc m s inst).lens.length=m.ar.length:=by simp[cc]
theorem adC{m:Model}{s:C_ Int}{inst:Int}{k:Nat}(h:k<m.ar.length)(ak:b6 m k<s.length):(cc m s inst).lens[k]? = some s[b6 m k]:=by
 simp only[cc,List.getElem?_map,List.getElem?_range h,Option.map_some];rw[getElem!_pos s (b6 m k) ak]
theorem SH{m:Model}{s:C_ Int}{inst:Int}(h:inst<0):(cc m s inst).locals=[]/\(cc m s inst).self=0:=by
 simp only[cc,CP,gI (.inl h),and_self]
theorem xa{m:Model}(s:C_ Int){q n:Nat}(h:q<(insts m).length)(ax:n=(l0 m (insts m)[q]).length - 1):(cc m s q).locals=(s.drop (da m q+1)).take n/\(cc m s q).self=(insts m)[q].elem:=by
 simp only[cc,CP,iv (show(0:Int)<=q by omega) (show(q:Int)<(insts m).length by omega),Int.toNat_natCast,ax,and_self]
theorem SG(m:Model)(s:C_ Int)(inst:Int):(cc m s inst).at_.length=m.procs.length:=by simp[cc]
theorem adB{m:Model}{s:C_ Int}{inst:Int}{k:Nat}(h:k<m.procs.length):(cc m s inst).at_[k]? = some (jl m s k m.procs[k].b2 (insts m).length):=by
 simp only[cc,List.getElem?_map,List.getElem?_range h,Option.map_some,List.getElem?_eq_getElem h,Option.getD_some]
end o
namespace Go.Proofs.R
open Go Go.RowKit a7
theorem ac2(cs ys:C_ B_)(v:B_)(m:o.Model)(s:C_ Int)(inst:Int)(w:A_)(h:o.dU w cs m)(aH:m.cA)(aS:o.eD m)(cM:o.ky w ys (o.layout m))(ak:dc w v s)(av:o.Fits m s)(h1 : -1<=inst)(I:inst<(o.insts m).length) :
  Dz F.KX #[.agg cs.toArray,.agg ys.toArray,v,.I inst] w fun u w'=>(∃es,u = .agg es.toArray/\ed w (fun w=>MI w es (o.cc m s inst)) w')/\Ext w w':=by
 have cX:=h;have r9:=cM;have amb:=ak;obtain⟨bW,bu,bI,c1,bO,c2,bQ,bp,bZ,bB,rfl,ad,h1,I,ab,aE,eU,eh,eo,dY,ew⟩:=h.form;obtain⟨l7,d0,jW,d1,kQ,d2,pa,d3,oD,d4,rfl,dV,dH,df,eO,fM⟩:=cM.form;obtain⟨ep,fp,rfl,fc⟩:=ak.form;have hlen:=av.len;have ko:o.c6 m<=64:=o.iL aS;have gG:=aS.gG;have kq:(o.insts m).length<=30:=by have:=o.uS m;have:=aS.procs;omega
 refine bl E.KX ?_;refine J ?_;intro w1 br cF ah al;refine J ?_;intro aB bP db aj au;replace al:=aj.obj al;refine J ?_;intro aK bR e9 ag bh;replace al:=ag.obj al;replace au:=ag.obj au;have a1:=(ah.trans aj).trans ag;refine J ?_;refine J_ (F7 _ m aK (cX.ext a1) aH) ?_;rintro bH aR ⟨eM,aw⟩;obtain⟨b9,ci,rfl,_⟩:=eM.form;have fs:kk aR _ _:=aP.hA (enc:=o.cR.enc) (fun _=>rfl) eM;replace al:=aw.obj al;replace au:=aw.obj au;replace bh:=aw.obj bh;have bC:=a1.trans aw;refine J ?_;intro bo fj ajW aF dJ;have oj:∀{W},Ext aR W->W.heap[br]? = _:=fun e=>e.obj al;have ft:∀{W},Ext aR W->W.heap[bP]? = _:=fun e=>e.obj au;have Tk:=cr dJ;have Eg:∀{W},Mod (fun i=>i=fj) bo W->Ext aR W:=fun h=>h.ext aF fun i U e=>Aw
 refine L_ 11 m.vars.length [2,3,4,5,8,9,10] (fun _:gr=>[]) (none,0,0) (fun k v W=>(Mod (fun i=>i=fj) bo W/\W.heap[fj]? = some (.cells #[.slice v.1 v.2.1 v.2.2,.slice none 0 0,.slice none 0 0,.slice none 0 0,.I 0] T.v))/\eI y1 T.b 1 bo.heap.size W (.slice v.1 v.2.1 v.2.2) (((o.cc m s inst).vars).take k)) a8 a8 ⟨⟨Mod.refl _ _,dJ⟩,by simpa using eI.nil _ _ _ _ _⟩ ?_;clear dJ;rintro k v S bt hk ⟨⟨jN,dJ⟩,c9⟩;have al:=oj (Eg jN);have au:=ft (Eg jN);have hq:=bC.trans (Eg jN);refine J ?_;apply I_<;>intro g1
 .have cI:k<m.vars.length:=Aw
  obtain⟨a,rfl⟩:=h1.addr;have dv:=o.r0 m.vars[k] m.scalars;have nz:=o.rJ cI;have eE:=o.mL m;obtain⟨eM,hG⟩:=o.xf cI;have dT:=((h1.at k cI).cells).ext hq;refine J ?_;refine P_ _ (fun w' e=>Sj m.vars[k] _ m.scalars w' (ad.ext (hq.trans e))) ?_;refine J ?_;intro bG bm;replace al:=bm.obj al;replace au:=bm.obj au;replace dJ:=bm.obj dJ;have dM:=c9.ext bm;have gx:=hq.trans bm;have ib:Mod (fun i=>i=fj) bo bG:=jN.trans bm.mod;have jx:=ak.ext Flat.ext gx;have LD:=dV.ext Flat.ext gx;obtain⟨a0,rfl⟩:=dV.addr;clear dT;refine J ?_;intro cQ bA;replace al:=bA.obj al;replace au:=bA.obj au;replace dJ:=bA.obj dJ;have hx:=dM.ext bA;have hr:=gx.trans bA;have hT:Mod (fun i=>i=fj) bo cQ:=ib.trans bA.mod;have Cj:=jx.ext Flat.ext bA;have av5:=LD.ext Flat.ext bA;clear jx LD c9 dM;refine J ?_;refine _Y (k:=.i64) (k':=.i64) (o.gp m k) (o.gp m k+(o.cells m.vars[k] m.scalars).toNat) Cj (by simp[c0,bL,hG]) (by simp[c0,bL,hG];omega) Aw Aw fun ae c aq=>?_;refine J ?_;intro cS j0 lT bT dp;refine⟨bT,?_⟩;rw[show o.gp m k+(o.cells m.vars[k] m.scalars).toNat - o.gp m k=(o.cells m.vars[k] m.scalars).toNat from Aw] at aq ⊢;have wF:=o.Gj (s:=s) (inst:=inst) cI;refine AD2 aq (Ext.refl _) lT bT dp (fun h=>h) (by simp;omega) fun aO fz eG rl ch _=>?_;refine⟨ch,?_⟩;refine J ?_;intro fN pt BV eg k5;refine⟨ch.trans eg,?_⟩;have z58:=hT.size;have awF:=ch.size;have Mw:=eg.size;have oi:=hx.ext (ch.trans eg);have b4:(((o.cc m s inst).vars).take k).length<=12:=by rw[LQ,o.LX];omega
  refine _I (x:=(s.drop (o.gp m k)).take (o.cells m.vars[k] m.scalars).toNat) (cs:=[.slice aO ((s.drop (o.gp m k)).take (o.cells m.vars[k] m.scalars).toNat).length fz]) oi (gN k5)
   (((ed.own rl hx Aw).imp fun w h=>⟨_,rfl,h⟩).ext eg fun i U hk=>by have:=hx.under Aw i hk;omega) rfl (by simp[Value.oneCell']) Aw (by unfold maxLen;omega) Aw fun bS h2 aG yj=>?_
  have YX:=oi.box yj ((ch.trans eg).obj dJ) BJ;have rj:=((hT.trans ch.mod).trans eg.mod).own yj fun q ao=>(oi.lt q ao).1;obtain⟨kN,p9,rfl,_⟩:=aG.form;clear dJ rl oi hx k5 dp aq;refine J ?_;intro l5 kc jv;refine J ?_;refine⟨cI,aL,(kN,_,p9),trivial,⟨rj.trans (kc.mod rfl),jv⟩,?_⟩;rw[AJ4,wF];exact aG.wr kc Tk
 have lV:m.vars.length=k:=Aw
 rw[Lj (by rw[o.LX];omega)] at c9;have mN:=c9.new (R:=G6);obtain⟨dn,nH,fz⟩:=v;have AO:=cr dJ;have AN:=jN.size;have ath:=Eg jN;have x8:∀{W},Mod (fun i=>i=fj) bt W->Ext aR W:=fun h=>Eg (jN.trans h);clear al au c9;refine J ?_;refine L_ 13 m.ar.length [2,3,4,5,8,9,10] (fun _:gr=>[]) (none,0,0) (fun k v W=>(Mod (fun i=>i=fj) bt W/\W.heap[fj]? = some (.cells #[.slice dn nH fz,.slice v.1 v.2.1 v.2.2,.slice none 0 0,.slice none 0 0,.I 0] T.v))/\aP cE T.a 1 bt.heap.size W (.slice v.1 v.2.1 v.2.2) (((o.cc m s inst).lens).take k)) a8 a8 ⟨⟨Mod.refl _ _,dJ⟩,by simpa using aP.nil _ _ _ _ _⟩ ?_;clear dJ;rintro k v S bG hk ⟨⟨ib,dJ⟩,dM⟩;have al:=oj (x8 ib);have au:=ft (x8 ib);have gx:=bC.trans (x8 ib);refine J ?_;apply I_<;>intro g1
 .have cI:k<m.ar.length:=Aw
  have nz:=o.vF cI;have eE:=o.mL m;obtain⟨eM,e0⟩:=o.s6 cI;obtain⟨cZ,rfl⟩:=dH.addr;obtain⟨afn,rfl⟩:=ak.addr;have jx:=ak.ext Flat.ext gx;have LF:=dH.ext Flat.ext gx;refine J ?_;intro cQ bA;replace au:=bA.obj au;replace dJ:=bA.obj dJ;have hx:=dM.ext bA;have hT:Mod (fun i=>i=fj) bt cQ:=ib.trans bA.mod;have Cj:=jx.ext Flat.ext bA;have av8:=LF.ext Flat.ext bA;clear jx LF dM al;refine J ?_;refine K_ (o.b6 m k) (by rw[e0]) Aw ?_;refine J ?_;intro cS j0 lT bT dp;refine⟨bT,?_⟩;have gk:o.b6 m k<s.length:=Aw
  have wF:=o.adC (inst:=inst) cI gk;have alc:(((o.cc m s inst).lens).take k).length<=12:=by rw[LQ,o.LW];omega
  have gO:=hx.ext bT;have Th:=hT.size;have Mx:=bT.size;refine U_ (y:=s[o.b6 m k]) gO dp rfl (fun _=>rfl) lQ Aw (by unfold maxLen;omega) Aw fun aO n c eG pH oU=>?_;have akl:=gO.box oU (bT.obj dJ) BJ;have sg:=(hT.trans bT.mod).own oU fun q ao=>(gO.lt q ao).1;clear dJ gO hx dp;refine J ?_;intro fN ie k5;refine J ?_;refine⟨cI,aL,(aO,n,c),trivial,⟨sg.trans (ie.mod rfl),k5⟩,?_⟩;rw[AJ4,wF];exact pH.mod (ie.mod (A:=fun i=>i=fj) rfl) fun q ao e=>by have:=(pH.lt q ao).1;omega
 have rh:m.ar.length=k:=Aw
 rw[Lj (by rw[o.LW];omega)] at dM;have YH:gS (fun i=>i<bo.heap.size) (fun w=>xB w (.slice dn nH fz) (o.cc m s inst).vars) bG:=mN.move ib (fun i _ e=>Aw) fun i _ e=>e;have Ej:ed bt (fun w=>dc w (.slice v.1 v.2.1 v.2.2) (o.cc m s inst).lens) bG:=aP.new (fun _=>rfl) dM;clear mN;obtain⟨lH,l1,xT⟩:=v;have aer:=cr dJ;have z67:=ib.size;have zy:∀{W},Mod (fun i=>i=fj) bG W->Ext aR W:=fun h=>x8 (ib.trans h);clear al au dM;refine J ?_;refine L_ 14 m.procs.length [2,3,4,5,8,9,10] (fun _:gr=>[]) (none,0,0) (fun k v W=>(Mod (fun i=>i=fj) bG W/\W.heap[fj]? = some (.cells #[.slice dn nH fz,.slice lH l1 xT,.slice none 0 0,.slice v.1 v.2.1 v.2.2,.I 0] T.v))/\eI y1 T.b 1 bG.heap.size W (.slice v.1 v.2.1 v.2.2) (((o.cc m s inst).at_).take k)) a8 a8 ⟨⟨Mod.refl _ _,dJ⟩,by simpa using eI.nil _ _ _ _ _⟩ ?_;clear dJ;rintro k v S cQ hk ⟨⟨hT,dJ⟩,hx⟩;have al:=oj (zy hT);have au:=ft (zy hT);have hr:=bC.trans (zy hT);refine J ?_;apply I_<;>intro g1
 .have cI:k<m.procs.length:=Aw
  refine J ?_;intro cS bT;replace al:=bT.obj al;replace au:=bT.obj au;replace dJ:=bT.obj dJ;have gO:=hx.ext bT;have gR:=hr.trans bT;have mQ:Mod (fun i=>i=fj) bG cS:=hT.trans bT.mod;clear hx;refine J ?_;refine J_ (aqh _ _ _ m s k cS (cX.ext gR) aH aS (r9.ext gR) (amb.ext Flat.ext gR) av cI) ?_;rintro _ eG ⟨rl,ch⟩;obtain⟨aO,fz,rfl,_⟩:=rl.form;replace rl:ed cS (fun w=>dc w (.slice aO (o.jl m s k m.procs[k].b2 (o.insts m).length).length fz) (o.jl m s k m.procs[k].b2 (o.insts m).length)) eG:=aP.new (enc:=cE) (sz:=1) (fun _=>rfl) rl;refine⟨ch,?_⟩;have wF:=o.adB (s:=s) (inst:=inst) cI;refine J ?_;intro fN pt BV eg k5;refine⟨ch.trans eg,?_⟩;have z79:=mQ.size;have Tj:=ch.size;have Mw:=eg.size;have oi:=gO.ext (ch.trans eg);have b4:(((o.cc m s inst).at_).take k).length<=12:=by rw[LQ,o.SG];have:=aS.procs;omega
  refine _I (x:=o.jl m s k m.procs[k].b2 (o.insts m).length) (cs:=[.slice aO (o.jl m s k m.procs[k].b2 (o.insts m).length).length fz]) oi (gN k5)
   (((ed.own rl gO Aw).imp fun w h=>⟨_,rfl,h⟩).ext eg fun i U hk=>by have:=gO.under Aw i hk;omega) rfl (by simp[Value.oneCell']) Aw (by unfold maxLen;omega) Aw fun bS h2 aG yj=>?_
  have YX:=oi.box yj ((ch.trans eg).obj dJ) BJ;have rj:=((mQ.trans ch.mod).trans eg.mod).own yj fun q ao=>(oi.lt q ao).1;obtain⟨kN,p9,rfl,_⟩:=aG.form;clear dJ rl oi gO k5;refine J ?_;intro l5 kc jv;refine J ?_;refine⟨cI,aL,(kN,_,p9),trivial,⟨rj.trans (kc.mod rfl),jv⟩,?_⟩;rw[AJ4,wF];exact aG.wr kc aer
 have uJ:m.procs.length=k:=Aw
 rw[Lj (by rw[o.SG];omega)] at hx;have Pe:gS (fun i=>i<bo.heap.size) (fun w=>xB w (.slice dn nH fz) (o.cc m s inst).vars) cQ:=YH.move hT (fun i _ e=>Aw) fun i _ e=>e;have Yz:ed bt (fun w=>dc w (.slice lH l1 xT) (o.cc m s inst).lens) cQ:=Ej.move hT (fun i _ e=>Aw) fun i _ e=>e;have vY:=hx.new (R:=G6);clear YH Ej;obtain⟨Mg,RH,DM⟩:=v;have Ti:=cr dJ;have z78:=hT.size;have vZ:∀{W},Mod (fun i=>i=fj) cQ W->Ext aR W:=fun h=>zy (hT.trans h);clear hx;have hr:=bC.trans (vZ (Mod.refl _ _));have z3:=cr bh;have z45:=aF.size;have aww:=(ah.trans aj).size;replace bh:=(vZ (Mod.refl _ _)).obj bh;refine J ?_;apply I_<;>intro g2;rotate_left
 .refine J ?_;intro cS hI dp;refine J ?_;obtain⟨dS,e1⟩:=o.SH (m:=m) (s:=s) (inst:=inst) Aw;refine⟨⟨_,rfl,fun W ek=>⟨_,_,_,_,by rw[e1],?_,?_,?_,?_⟩⟩,hI.ext hr Aw⟩
  .exact(Pe.move (A':=fun i=>i<w.heap.size) (hI.mod (A:=fun i=>i=bR) rfl) (fun i _ e=>Aw) fun i _ e=>Aw) W ek
  .exact(Yz.move (A':=fun i=>i<w.heap.size) (hI.mod (A:=fun i=>i=bR) rfl) (fun i _ e=>Aw) fun i _ e=>Aw) W ek
  .rw[dS];exact bg.nil
  .exact(vY.move (A':=fun i=>i<w.heap.size) (hI.mod (A:=fun i=>i=bR) rfl) (fun i _ e=>Aw) fun i _ e=>Aw) W ek
 .obtain⟨q,rfl⟩:=Rt (show 0<=inst by omega);have ao:q<(o.insts m).length:=Aw
  have nz:=o.Q8 ao;obtain⟨eM,hG⟩:=o.rq ao;obtain⟨a2,rfl⟩:=df.addr;have ap7:=df.ext Flat.ext hr;have al:=oj (vZ (Mod.refl _ _));have au:=ft (vZ (Mod.refl _ _));obtain⟨h7,rfl⟩:=fs.addr;have Cb:=fs.ext Flat.ext (vZ (Mod.refl _ _));have mT:=o.rr _ (Gy ao);obtain⟨p,aq,hU,qh⟩:=o.z8 mT;have I6:(o.l0 m (o.insts m)[q]).length=1+m.procs[p].vars.length:=by rw[qh,o.Ap]
  obtain⟨a,rfl⟩:=ab.addr;obtain⟨lZ,bV,dL,dA,eW,fl⟩:=ab.at p aq;obtain⟨ab1,W7,rfl,abv⟩:=eW.form;obtain⟨abX,WK,rfl,abi⟩:=fl.form;replace dA:=dA.ext hr;unfold o.dw.enc at dA;refine J ?_;refine K_ p hU aq ?_;refine J ?_;intro Mj rb cS akJ;have bT:=rb.trans akJ;replace al:=bT.obj al;replace au:=bT.obj au;replace dJ:=bT.obj dJ;replace bh:=bT.obj bh;have gR:=hr.trans bT;have ama:=ak.ext Flat.ext gR;have Mx:=bT.size;clear dA Cb ap7;refine J ?_;refine _Y (k:=.i64) (k':=.i64) (o.da m q+1) (o.da m q+1+m.procs[p].vars.length) ama (by simp[c0,bL,hG]) (by simp[c0,bL,hG]) Aw Aw fun ae c E6=>?_;rw[show o.da m q+1+m.procs[p].vars.length - (o.da m q+1)=m.procs[p].vars.length from Aw] at E6 ⊢;obtain⟨cd,az,lv,bq⟩:=E6.cells;have dv:cd.length<=64:=by rw[az,LQ,AF8];omega
  refine J ?_;refine AA4 (sz:=1) (base:=cS.heap.size) (aP.nil _ _ _ _ _) lv (by rw[AI3];omega) (by rw[AI3];unfold maxLen;omega) (Gf _) fun bS eG pH oU=>?_;rw[AF9] at pH;have rl:ed cS (fun w=>dc w bS ((s.drop (o.da m q+1)).take m.procs[p].vars.length)) eG:=ed.clone (R:=Flat cE) az pH (fun h=>h) fun i h1 I=>bq i h1 I;have ch:Ext cS eG:=(Ext.refl _).grown oU fun k hk=>by simp[Value.ownBlock] at hk
  replace au:=ch.obj au;replace dJ:=ch.obj dJ;replace bh:=ch.obj bh;have Tj:=ch.size;obtain⟨ol,cl,rfl,_⟩:=rl.here.form;clear al;refine J ?_;intro fN ie k5;have Ce:Mod (fun i=>i=fj) cQ fN:=(bT.mod.trans ch.mod).trans (ie.mod rfl);have auH:=fs.ext Flat.ext (vZ Ce);replace bh:=ie.obj bh Aw;refine J ?_;intro h2 lB iF;have rj:Mod (fun i=>i=fj) cQ h2:=Ce.trans (lB.mod rfl);replace bh:=lB.obj bh Aw;refine J ?_;intro l5 kc jv;refine J ?_;obtain⟨dS,e1⟩:=o.xa s ao (n:=m.procs[p].vars.length) Aw;have Mw:=ie.size;have aeq:=lB.size;refine⟨⟨_,rfl,fun W ek=>⟨_,_,_,_,by rw[e1];rfl,?_,?_,?_,?_⟩⟩,kc.ext (bC.trans (vZ rj)) Aw⟩
  .exact(Pe.move (A':=fun i=>i<w.heap.size) (rj.comp (B:=fun i=>i=fj\/i=bR) (kc.mod (A:=fun i=>i=bR) rfl) (fun i _ e=>.inl e) fun i _ e=>.inr e) (fun i _ e=>Aw) fun i _ e=>Aw) W ek
  .exact(Yz.move (A':=fun i=>i<w.heap.size) (rj.comp (B:=fun i=>i=fj\/i=bR) (kc.mod (A:=fun i=>i=bR) rfl) (fun i _ e=>.inl e) fun i _ e=>.inr e) (fun i _ e=>Aw) fun i _ e=>Aw) W ek
  .rw[dS];exact((((rl.wr ie Aw).wr lB Aw).wr kc Aw).mono fun i _ e=>Aw) W ek
  .exact(vY.move (A':=fun i=>i<w.heap.size) (rj.comp (B:=fun i=>i=fj\/i=bR) (kc.mod (A:=fun i=>i=bR) rfl) (fun i _ e=>.inl e) fun i _ e=>.inr e) (fun i _ e=>Aw) fun i _ e=>Aw) W ek
end Go.Proofs.R
end
section
namespace o
open Go
theorem ac4{f g:Node->C_ Int->Int×Int}{e:C_ Node}(h:∀k (hk:k<e.length) st,eP f (e.take k) []=(0,st)->fe e[k].op<=st.length->f e[k] st=g e[k] st):∀n,n<=e.length->eP f (e.take n) []=eP g (e.take n) []
 | 0,_=>by simp[eP]
 | n+1,ax=>by
  have fb:=ac4 h n Aw;by_cases ad:(eP f (e.take n) []).1=0
  .have e1:eP f (e.take n) []=(0,(eP f (e.take n) []).2):=Prod.ext ad rfl;have e2:eP g (e.take n) []=(0,(eP f (e.take n) []).2):=by rw[<-fb];exact e1
   rw[w4 Aw e1,w4 Aw e2];exact ar3 fun _ az=>by rw[h n Aw _ e1 az];exact⟨rfl,fun _=>rfl⟩
  .rw[L1 Aw,CJ,CJ,<-fb,if_pos ad,if_pos ad]
theorem aq1{f g:Node->C_ Int->Int×Int}{e:C_ Node}(h:∀k (hk:k<e.length) st,eP f (e.take k) []=(0,st)->fe e[k].op<=st.length->f e[k] st=g e[k] st):lh f e=lh g e:=by
 have:=ac4 h e.length (Gf _)
 rw[AF1] at this;unfold lh;rw[this]
def jD(s t:C_ Int)(l:C_ Int):Prop := ∀x∈l,s[x.toNat]? = t[x.toNat]?
theorem jD.row{s t:C_ Int}{a n:Nat}(h:jD s t (gB a n)){k:Nat}(hk:k<n):s[a+k]? = t[a+k]? := by
 have:=h ((a+k:Nat):Int) (sB.2 Aw)
 rw[AF4] at this;exact this
theorem jD.one{s t:C_ Int}{a:Nat}(h:jD s t (gB a 1)):s[a]? = t[a]? := h.row (k:=0) Aw
theorem jD.sub{s t:C_ Int}{l r:C_ Int}(h:jD s t l)(ak:∀x∈r,x∈l):jD s t r:=fun x af=>h x (ak x af)
theorem LR{s t:C_ Int}{a n:Nat}(h:∀k,k<n->s[a+k]? = t[a+k]?):(s.drop a).take n=(t.drop a).take n:=by
 apply List.ext_getElem?;intro i;rw[List.getElem?_take,List.getElem?_take];split
 .rw[List.getElem?_drop,List.getElem?_drop];exact h i ‹_›
 .rfl
theorem ad2{l r:C_ Int}{n:Int}(h:0<=n->l[n.toNat]? = r[n.toNat]?):gL l n=gL r n:=by
 unfold gL nth;by_cases ad:0<=n
 .rw[if_pos ad,if_pos ad,h ad]
 .rw[if_neg ad,if_neg ad]
theorem ad3{s t:C_ Int}{a n:Nat}{k:Int}(h:0<=k->s[a+k.toNat]? = t[a+k.toNat]?):gL ((s.drop a).take n) k=gL ((t.drop a).take n) k:=by
 refine ad2 fun ad=>?_;rw[List.getElem?_take,List.getElem?_take,List.getElem?_drop,List.getElem?_drop];split
 .exact h ad
 .rfl
theorem afq{m:Model}{p:Int}{n j:Nat}(aC:j<n)(h:(insts m)[j]?.map (·.proc)=some p):((da m j:Nat):Int)∈ps m p n:=by
 unfold ps;refine List.mem_flatMap.2 ⟨j,List.mem_range.2 aC,?_⟩;rw[if_pos h,CH];exact List.mem_singleton.2 rfl
theorem afr{m:Model}{s t:C_ Int}{p l:Int}{k:Nat}(h:jD s t (ps m p k)):rY m s p l k=rY m t p l k:=by
 unfold rY;congr 1;refine List.filter_congr fun i U=>?_;have U:=List.mem_range.1 U;by_cases aq:(insts m)[i]?.map (·.proc)=some p
 .have:=h _ (afq U aq)
  rw[AF4] at this;rw[this]
 .simp[aq]
theorem afs{m:Model}{s t:C_ Int}{p:Nat}{n:Int}{k:Nat}(h:jD s t (ps m p k)):jl m s p n k=jl m t p n k:=by
 unfold jl;exact List.map_congr_left fun l _=>by rw[afr h]
theorem arW{m:Model}{s t:C_ Int}{inst:Int}{n:Nat}(h:s[b6 m n]? = t[b6 m n]?):(cc m s inst).lens[n]? = (cc m t inst).lens[n]? := by
 simp only[cc,List.getElem?_map];cases aG:(List.range m.ar.length)[n]? with
 | none=>rfl
 | some i =>
  have:i=n:=by
   obtain⟨h1,I⟩:=List.getElem?_eq_some_iff.1 aG;rw[List.getElem_range] at I;exact I.symm
  subst this;simp only[Option.map_some,Option.some.injEq];rw[List.getElem!_eq_getElem?_getD,List.getElem!_eq_getElem?_getD,h]
theorem anD{m:Model}{s t:C_ Int}{ga:Scope}{x:Node}{q:Nat}{inst top:Int}{own:Bool}(aD:ga.vars=m.vars)(af:A0 ga x)(U:inst=q\/(inst<0/\own=false))
  (aJ:own=true->q<(insts m).length/\1<=(cc m s inst).self/\top=(cc m s inst).self)(h:jD s t (gA m q own x)):gw x (cc m s inst) top=gw x (cc m t inst) top:=by
 have pJ:(cc m s inst).self=(cc m t inst).self:=by
  simp only[cc,CP];split<;>rfl
 unfold gw;by_cases h1:x.op=1
 .rw[if_pos h1,if_pos h1]
 rw[if_neg h1,if_neg h1];by_cases I:x.op=2
 .rw[if_pos I,if_pos I];obtain⟨gv,v,cq,cB⟩:=af.var I;rw[aD] at cq;obtain⟨e5,hK⟩:=List.getElem?_eq_some_iff.1 cq;unfold gA at h;rw[if_pos I] at h;have ax:∀s:C_ Int,nth (cc m s inst).vars x.n=some ((s.drop (gp m x.n.toNat)).take (cells m.vars[x.n.toNat] m.scalars).toNat):=fun s=>by
   unfold nth;rw[if_pos gv,Gj e5]
  rw[ax s,ax t];exact ad3 fun _=>h.one
 rw[if_neg I,if_neg I];by_cases ab:x.op=3
 .rw[if_pos ab,if_pos ab];obtain⟨gv,e5⟩:=af.item ab;rw[aD] at e5;unfold gA qB at h;rw[if_neg I,if_pos ab] at h;have ax:∀s:C_ Int,nth (cc m s inst).vars x.n=some ((s.drop (gp m x.n.toNat)).take (cells m.vars[x.n.toNat] m.scalars).toNat):=fun s=>by
   unfold nth;rw[if_pos gv,Gj e5]
  rw[ax s,ax t];cases own with
  | false =>
   simp only[Bool.false_eq_true,if_false] at h;rw[rv e5] at h;rw[LR fun k hk=>h.row hk]
  | true =>
   simp only[if_true] at h;obtain⟨ao,bI,bO⟩:=aJ rfl;have Qs:inst=q:=by
    rcases U with U | U
    .exact U
    .cases U.2
   subst Qs;have tw:(cc m s q).self=(insts m)[q].elem:=(xa s ao rfl).2;rw[tw] at bI bO;rw[DV ao] at h;have cN:=h.one;have e:∀s:C_ Int,nth ((s.drop (gp m x.n.toNat)).take (cells m.vars[x.n.toNat] m.scalars).toNat) (top - 1)=if (top - 1).toNat<(cells m.vars[x.n.toNat] m.scalars).toNat then s[gp m x.n.toNat+(insts m)[q].elem.toNat - 1]? else none:=fun s=>by
    unfold nth;rw[if_pos Aw,List.getElem?_take,List.getElem?_drop];rw[show gp m x.n.toNat+(top - 1).toNat=gp m x.n.toNat+(insts m)[q].elem.toNat - 1 from Aw]
   simp only[e s,e t,cN]
 rw[if_neg ab,if_neg ab];by_cases aE:x.op=4
 .rw[if_pos aE,if_pos aE];unfold gA at h;rw[if_neg I,if_neg ab,if_pos aE] at h;rcases U with rfl | U
  .by_cases ao:q<(insts m).length
   .rw[(xa s ao rfl).1,(xa t ao rfl).1];exact ad3 fun _=>h.one
   .have:nth (insts m) (q:Int)=none:=gI (.inr Aw)
    simp only[cc,CP,this]
  .rw[(SH U.1).1,(SH U.1).1]
 rw[if_neg aE,if_neg aE];by_cases bz:x.op=6
 .rw[if_pos bz,if_pos bz];unfold gA at h;rw[if_neg I,if_neg ab,if_neg aE,if_pos bz] at h;exact ad2 fun _=>arW h.one
 rw[if_neg bz,if_neg bz];by_cases aY:x.op=5
 .rw[if_pos aY,if_pos aY,pJ]
 rw[if_neg aY,if_neg aY];by_cases b0:x.op=7
 .rw[if_pos b0,if_pos b0];unfold gA at h;rw[if_neg I,if_neg ab,if_neg aE,if_neg bz,if_pos b0] at h;by_cases ax:0<=x.n
  .rw[if_pos ax,if_pos ax];have a6:x.n.tdiv 16=((x.n.tdiv 16).toNat:Nat):=(Int.toNat_of_nonneg (AK7 ax Aw)).symm;rw[a6] at h ⊢;have e:nth (cc m s inst).at_ ((x.n.tdiv 16).toNat:Nat)=nth (cc m t inst).at_ ((x.n.tdiv 16).toNat:Nat):=by
    unfold nth;rw[if_pos Aw,if_pos Aw,AF4];simp only[cc,List.getElem?_map];cases aG:(List.range m.procs.length)[(x.n.tdiv 16).toNat]? with
    | none=>rfl
    | some i =>
     have:i=(x.n.tdiv 16).toNat:=by
      obtain⟨h1,I⟩:=List.getElem?_eq_some_iff.1 aG;rw[List.getElem_range] at I;exact I.symm
     subst this;simp only[Option.map_some,Option.some.injEq];exact afs h
   rw[e]
  .rw[if_neg ax,if_neg ax]
 .rw[if_neg b0,if_neg b0]
def FX(m:Model)(e:C_ Node):C_ Int:=e.flatMap (gA m 0 false)
theorem Oz{m:Model}{s t:C_ Int}{ga:Scope}{e:C_ Node}{q p:Nat}(aD:ga.vars=m.vars)(he:sK ga e)(ao:fo m q p)(pJ:(m.procs[p]'(ao.aq)).over≠0\/ga.self=0)(h:jD s t (qe m q e e.length)):eval e (cc m s q)=eval e (cc m t q):=by
 have tw:(cc m s q).self=((insts m)[q]'(ao.ao)).elem:=(xa s ao.ao rfl).2;refine aq1 fun k hk st fS hlen=>?_;unfold ha;cases lW:gJ e[k].op with
 | some ae=>rfl
 | none =>
  have QH:jD s t (gA m q (yG e k) e[k]):=h.sub fun x af=>by
   unfold qe;refine List.mem_flatMap.2 ⟨k,List.mem_range.2 hk,?_⟩;rw[List.getElem?_eq_getElem hk];exact af
  refine anD (q:=q) (own:=yG e k) aD (he.node k hk).1 (.inl rfl) (fun aJ=>⟨ao.ao,?_⟩) QH;cases k with
  | zero=>cases aJ
  | succ j =>
   rw[RU Aw,decide_eq_true_eq] at aJ;have au1:=(he.node j Aw).1.self aJ;have Qq:(m.procs[p]'(ao.aq)).over≠0:=by
    rcases pJ with h1 | h1
    .exact h1
    .omega
   refine⟨by rw[tw];exact ao.elem Qq,?_⟩;by_cases ad:(eP (ha (cc m s q)) (e.take j) []).1=0
   .have e1:eP (ha (cc m s q)) (e.take j) []=(0,(eP (ha (cc m s q)) (e.take j) []).2):=Prod.ext ad rfl;rw[w4 Aw e1] at fS;unfold stepG at fS;have ax:fe e[j].op=0:=by rw[aJ];decide
    rw[ax,if_neg Aw,if_neg Aw] at fS;have av:ha (cc m s q) e[j] (eP (ha (cc m s q)) (e.take j) []).2=((cc m s q).self,0):=by
     unfold ha;rw[aJ];simp[gJ,gw,aJ]
    rw[av] at fS;simp only[ne_eq,not_true_eq_false,if_false] at fS;split at fS
    .cases fS
    .injection fS with _ fS
     rw[<-fS];simp
   .rw[L1 Aw,CJ,if_pos ad] at fS;rw[fS] at ad;exact absurd rfl ad
end o
end