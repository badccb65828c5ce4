/- Texts joined: ReaD KeyL ReaK ReaM ReaE ReaF ReaG ReaH ReaW ReaI ReaT ReaN LibB ReaO StaB StaC StaD StaE StaF StaG StaH StaI StaJ LiteI LiteJ LiteK LiteL StaK ReaR. -/
import Derived.Test.YtempnjgiohpopaaGreatDoorQrdd
import Derived.Test.YtempnjgiohpopaaGreatDoorQrdg
import Derived.Test.YtempnjgiohpopaaGreatDoorQrdi
import Derived.Test.YtempnjgiohpopaaGreatDoorQrdk
import Derived.Test.YtempnjgiohpopaaGreatDoorQrdn
import Derived.Shelf.SlGeneric
import Derived.Shelf.SlIterI.Nil
import Derived.Shelf.SortM.Plain
import Derived.Shelf.SortM.SortNone
import Derived.Test.YtempnjgiohpopaaGreatDoorChecked
set_option linter.all false
set_option maxRecDepth 8000
set_option maxHeartbeats 16000000
section
namespace Go.Proofs.R
open Go Go.RowKit bt
def VC(m:o.Model)(ref:Int)(v:Value)(w:World):Prop :=
 (¬o.Told m ref∧v = .tuple #[.pointer none,.agg HE.toArray,.bool false]) ∨
 (∃(b q p k:Nat) (fD eD:Value),o.gZ m ref q p k∧v = .tuple #[.pointer (some ⟨b,0,none⟩),.agg ((o.dQ m p k).enc fD eD).toArray,.bool true]∧mX w b m q∧o.fG w fD (o.dQ m p k).guard∧o.mR w eD (o.dQ m p k).b4)
theorem Tl(cs:List Value)(m:o.Model)(ref:Int)(w:World)(h:o.er w cs m)(a8:m.cX)(a1:iu w) :
  bu Tryz.prog F.a9 #[.agg cs.toArray,.int .i64 ref] w fun v w'=>VC m ref v w'∧Ext w w':=by
 have fP:=h;obtain⟨cy,bO,b9,c1,ch,c2,cm,bN,cA,bT,rfl,aj,h1,U,ag,aK,eG,du,dF,dV,eo⟩:=h.form;refine bM E.a9 ?_;refine bF ?_;refine al ?_;intro av ca dB aA aM;refine al ?_;intro aT dH mB aC cC;have QG:=aC.obj aM;have ba:=aA.trans aC;refine al ?_;refine K.call (J9 _ m aT (fP.ext ba) a8 (a1.ext ba)) ?_;rintro _ bf ⟨rfl,aw⟩;have bQ:=ba.trans aw;replace aM:=aw.obj QG;replace cC:=aw.obj cC;have z5:=cM cC;have ake:=aA.size;clear QG;refine al ?_;refine K.kx (v:=.int .i64 (o.check m).dp) rfl ?_;refine al ?_;refine K.cond (fun hk=>?_) (fun hk=>?_);rotate_left
 ·refine al ?_;intro bq ee bI;refine al ?_;exact⟨.inl ⟨fun aL=>hk aL.1,bw⟩,ee.ext bQ (by omega)⟩
 have bg:=o.qO hk;have dE:=bg.lim;have lA:=o.KQ dE;refine al ?_;refine K.call (aeX _ m bf (fP.ext bQ) dE) ?_;rintro kg bq ⟨np,aR⟩;obtain⟨mb,Pj,rfl,_⟩:=np.form;have Iu:bz 2 (Flat o.Ref.enc) bq (.slice mb (o.refs m).length Pj) (o.refs m):=bs.lH (enc:=o.Ref.enc) (fun _=>rfl) np;replace aM:=aR.obj aM;replace cC:=aR.obj cC;have b3:=bQ.trans aR;clear np;refine al ?_;apply K.cond<;>intro g1
 ·refine al ?_;intro bS fx yF;refine al ?_;exact⟨.inl ⟨fun aL=>by have:=aL.2;omega,bw⟩,fx.ext b3 (by omega)⟩
 obtain⟨r,rfl⟩:=Int.eq_ofNat_of_zero_le (show 0≤ref by omega);refine al ?_;apply K.cond<;>intro g2
 ·refine al ?_;intro bS fx yF;refine al ?_;exact⟨.inl ⟨fun aL=>by have:=aL.2;omega,bw⟩,fx.ext b3 (by omega)⟩
 have aL:o.Told m r:=⟨hk,by omega,by omega⟩;obtain⟨q,p,k,cK⟩:=o.HF aL;have aB:=cK.at_.ad;have aO:=cK.at_.aO;have yP:=cK.at_.hk;have o8:(o.refs m)[r].inst=(q:Int):=cK.at_.Db;have BU:(o.refs m)[r].cmd=(k:Int):=cK.at_.Dc;have sS:=cK.at_.ip;obtain⟨x3,rfl⟩:=Iu.addr (by omega);refine al ?_;intro bS bj;replace aM:=bj.obj aM;replace cC:=bj.obj cC;have Qw:=Iu.ext Flat.ext bj;have cc:=b3.trans bj;refine al ?_;refine K.call (SD _ m bS (fP.ext cc) a8 (a1.ext cc)) ?_;rintro _ bX ⟨⟨xs,rfl,wv⟩,bk⟩;rw[o.Ca hk] at wv;have wu:=wv;replace wv:=wv.here;obtain⟨jW,d0,lK,d1,lL,d2,mi,d3,lM,d4,rfl,_⟩:=wv.form;have c0:=cc.trans bk;refine⟨bk,?_⟩;refine al ?_;refine K.call (JR _ m bX (fP.ext c0) a8) ?_;rintro cr cn ⟨fm,bR⟩;obtain⟨eu,ci,rfl,_⟩:=fm.form;have dZ:=c0.trans bR;refine⟨bk.trans bR,?_⟩;refine al ?_;intro dv mu Bk bW eN;have eW:=dZ.trans bW;have yM:oE dv (.slice eu (o.insts m).length ci) (o.insts m):=bs.lH (enc:=o.c3.enc) (fun _=>rfl) (fm.ext bW);have Qr:=wv.ext (bR.trans bW);rw[o8] at eN;have Iw:mX dv mu m q:=⟨_,_,_,eN,fP.ext eW,Qr,yM⟩;have Ip:=(bk.trans bR).trans bW;have Qx:=Qw.ext Flat.ext Ip;replace aM:=Ip.obj aM;replace cC:=Ip.obj cC;have Vk:=eW.size;obtain⟨lY,rfl⟩:=yM.addr (by omega);obtain⟨a3,rfl⟩:=ag.addr (by omega);obtain⟨oa,ct,dM,ej,eJ,hi⟩:=ag.at p aO;obtain⟨ads,WY,rfl,acA⟩:=hi.form;obtain⟨ac,rfl⟩:=hi.addr (by omega);obtain⟨gA,fD,eD,gr,jO,jF⟩:=hi.at k yP;replace ej:=ej.ext eW;replace gr:=gr.ext eW;obtain⟨oo,kU,rfl,_⟩:=jO.form;obtain⟨zu,yi,rfl,_⟩:=jF.form;unfold o.dj.enc at ej;unfold o.dG.enc at gr;clear wv Iu Qw Qr;refine al ?_;intro eA cp;replace aM:=cp.obj aM;replace cC:=cp.obj cC;replace eN:=cp.obj eN;replace Qx:=Qx.ext Flat.ext cp;replace yM:=yM.ext Flat.ext cp;replace ej:=ej.ext cp;replace gr:=gr.ext cp;refine al ?_;refine K.dk p (by rw[sS]) aO ?_;refine al ?_;refine K.dk k (by rw[BU]) yP ?_;refine al ?_;intro eR k1 kB;refine al ?_;have nd:Ext w eA:=eW.trans cp;have nz:=aR.size;have mL:=bj.size;have afn:=bk.size;have ajw:=bR.size;have j3:Ext w eR:=k1.ext nd (by omega);have Zv:=((wu.ext ((bR.trans bW).trans cp) afn).wr k1 (by omega)).here;have aat:oE eR (.slice (some lY) (o.insts m).length ci) (o.insts m):=bs.lH (enc:=o.c3.enc) (fun _=>rfl) (bs.wr k1 (by omega) ((fm.ext bW).ext cp));have wE:=o.Ex aO yP;refine⟨.inr ⟨mu,q,p,k,.slice oo (o.dQ m p k).guard.length kU,.slice zu (o.dQ m p k).b4.length yi,cK,by rw[wE];rfl,⟨_,_,_,k1.obj eN (by omega),fP.ext j3,Zv,aat⟩,?_,?_⟩,j3⟩
 ·rw[wE];exact jO.ext j3
 ·rw[wE];exact jF.ext j3
end Go.Proofs.R
end
section
namespace Go.Proofs
open Go.Shelf
def Tryz.Sr:Go.Shelf.Ren:=⟨fun | 7=>133 | 10=>184 | n=>n,fun | 23=>125 | 26=>3 | 3=>3 | 28=>167 | 0=>0 | 27=>166 | 33=>172 | 4=>4 | n=>n,fun | n=>n⟩
theorem Tryz.JX:Go.Proofs.SlLaysZI.n7 Tryz.prog Tryz.Sr:={
 mixed:=by kernel_rfl
 f7:=⟨Tryz.f133.name,by decide,Tryz.func133.trans (congrArg some (by kernel_rfl))⟩
 f10:=⟨Tryz.f184.name,by decide,Tryz.func184.trans (congrArg some (by kernel_rfl))⟩
 t0:=Tryz.underlying0
 a0:=Tryz.isAgg0
 z0:=Tryz.sizeOf0
 v0:=Tryz.zeroValue0
 t4:=Tryz.underlying4
 a4:=Tryz.isAgg4
 z4:=Tryz.sizeOf4
 v4:=Tryz.zeroValue4
 t23:=Tryz.underlying125
 a23:=Tryz.isAgg125
 z23:=Tryz.sizeOf125
 v23:=Tryz.zeroValue125
 t26:=Tryz.underlying3
 a26:=Tryz.isAgg3
 z26:=Tryz.sizeOf3
 v26:=Tryz.zeroValue3
 t27:=Tryz.underlying166
 a27:=Tryz.isAgg166
 z27:=Tryz.sizeOf166
 v27:=Tryz.zeroValue166
 t28:=Tryz.underlying167
 a28:=Tryz.isAgg167
 z28:=Tryz.sizeOf167
 v28:=Tryz.zeroValue167
 t33:=Tryz.underlying172
 a33:=Tryz.isAgg172
 z33:=Tryz.sizeOf172
 v33:=Tryz.zeroValue172 }
def Tryz.Ux:Go.Shelf.Ren:=⟨fun | 6=>132 | 8=>182 | 9=>183 | 11=>244 | 13=>205 | 12=>245 | 23=>278 | 24=>279 | 14=>298 | 15=>299 | 16=>300 | 17=>301 | 18=>302 | 19=>303 | 20=>304 | 21=>305 | 22=>306 | 25=>332 | 26=>313 | 27=>314 | 28=>333 | 29=>334 | 30=>335 | 31=>342 | n=>n,fun | 26=>3 | 28=>167 | 24=>34 | 0=>0 | 3=>3 | 37=>60 | 48=>316 | 50=>54 | 4=>4 | 40=>310 | 39=>309 | 45=>214 | 5=>5 | 9=>9 | 51=>337 | 55=>341 | 57=>357 | 58=>140 | 33=>172 | n=>n,fun | n=>n⟩
theorem Tryz.afL:Go.Proofs.SlLaysZI.n6 Tryz.prog Tryz.Ux:={
 mixed:=by kernel_rfl
 f6:=⟨Tryz.f132.name,by decide,Tryz.func132.trans (congrArg some (by kernel_rfl))⟩
 f8:=⟨Tryz.f182.name,by decide,Tryz.func182.trans (congrArg some (by kernel_rfl))⟩
 f11:=⟨Tryz.f244.name,by decide,Tryz.func244.trans (congrArg some (by kernel_rfl))⟩
 t0:=Tryz.underlying0
 a0:=Tryz.isAgg0
 z0:=Tryz.sizeOf0
 v0:=Tryz.zeroValue0
 t24:=Tryz.underlying34
 a24:=Tryz.isAgg34
 z24:=Tryz.sizeOf34
 v24:=Tryz.zeroValue34
 t26:=Tryz.underlying3
 a26:=Tryz.isAgg3
 z26:=Tryz.sizeOf3
 v26:=Tryz.zeroValue3
 t28:=Tryz.underlying167
 a28:=Tryz.isAgg167
 z28:=Tryz.sizeOf167
 v28:=Tryz.zeroValue167
 i26:=by kernel_rfl }
def Tryz.afJ:Go.Shelf.Ren:=⟨fun | 5=>183 | 8=>205 | 7=>245 | 19=>278 | 20=>279 | 10=>298 | 11=>299 | 12=>300 | 13=>301 | 14=>302 | 15=>303 | 16=>304 | 17=>305 | 18=>306 | 30=>332 | 31=>313 | 32=>314 | 33=>333 | 34=>334 | 35=>335 | 40=>342 | n=>n,fun | 23=>34 | 25=>3 | 3=>3 | 32=>60 | 22=>34 | 0=>0 | 44=>316 | 46=>54 | 4=>4 | 36=>310 | 35=>309 | 41=>214 | 5=>5 | 9=>9 | 53=>337 | 57=>341 | 63=>357 | 64=>140 | n=>n,fun | n=>n⟩
theorem Tryz.K0:Go.Proofs.SlLaysM.n5 Tryz.prog Tryz.afJ:={
 mixed:=by kernel_rfl
 f5:=⟨Tryz.f183.name,by decide,Tryz.func183.trans (congrArg some (by kernel_rfl))⟩
 f7:=⟨Tryz.f245.name,by decide,Tryz.func245.trans (congrArg some (by kernel_rfl))⟩
 f8:=Tryz.func205.trans (congrArg some (by kernel_rfl))
 f10:=⟨Tryz.f298.name,by decide,Tryz.func298.trans (congrArg some (by kernel_rfl))⟩
 f11:=⟨Tryz.f299.name,by decide,Tryz.func299.trans (congrArg some (by kernel_rfl))⟩
 f12:=⟨Tryz.f300.name,by decide,Tryz.func300.trans (congrArg some (by kernel_rfl))⟩
 f13:=⟨Tryz.f301.name,by decide,Tryz.func301.trans (congrArg some (by kernel_rfl))⟩
 f14:=⟨Tryz.f302.name,by decide,Tryz.func302.trans (congrArg some (by kernel_rfl))⟩
 f15:=⟨Tryz.f303.name,by decide,Tryz.func303.trans (congrArg some (by kernel_rfl))⟩
 f16:=⟨Tryz.f304.name,by decide,Tryz.func304.trans (congrArg some (by kernel_rfl))⟩
 f17:=⟨Tryz.f305.name,by decide,Tryz.func305.trans (congrArg some (by kernel_rfl))⟩
 f18:=⟨Tryz.f306.name,by decide,Tryz.func306.trans (congrArg some (by kernel_rfl))⟩
 f19:=Tryz.func278.trans (congrArg some (by kernel_rfl))
 f20:=Tryz.func279.trans (congrArg some (by kernel_rfl))
 f30:=⟨Tryz.f332.name,by decide,Tryz.func332.trans (congrArg some (by kernel_rfl))⟩
 f31:=Tryz.func313.trans (congrArg some (by kernel_rfl))
 f32:=Tryz.func314.trans (congrArg some (by kernel_rfl))
 f33:=⟨Tryz.f333.name,by decide,Tryz.func333.trans (congrArg some (by kernel_rfl))⟩
 f34:=⟨Tryz.f334.name,by decide,Tryz.func334.trans (congrArg some (by kernel_rfl))⟩
 f35:=⟨Tryz.f335.name,by decide,Tryz.func335.trans (congrArg some (by kernel_rfl))⟩
 f40:=⟨Tryz.f342.name,by decide,Tryz.func342.trans (congrArg some (by kernel_rfl))⟩
 t0:=Tryz.underlying0
 a0:=Tryz.isAgg0
 z0:=Tryz.sizeOf0
 v0:=Tryz.zeroValue0
 t3:=Tryz.underlying3
 a3:=Tryz.isAgg3
 z3:=Tryz.sizeOf3
 v3:=Tryz.zeroValue3
 t4:=Tryz.underlying4
 a4:=Tryz.isAgg4
 z4:=Tryz.sizeOf4
 v4:=Tryz.zeroValue4
 t5:=Tryz.underlying5
 a5:=Tryz.isAgg5
 z5:=Tryz.sizeOf5
 v5:=Tryz.zeroValue5
 t9:=Tryz.underlying9
 a9:=Tryz.isAgg9
 z9:=Tryz.sizeOf9
 v9:=Tryz.zeroValue9
 t22:=Tryz.underlying34
 a22:=Tryz.isAgg34
 z22:=Tryz.sizeOf34
 v22:=Tryz.zeroValue34
 t23:=Tryz.underlying34
 a23:=Tryz.isAgg34
 z23:=Tryz.sizeOf34
 v23:=Tryz.zeroValue34
 t25:=Tryz.underlying3
 a25:=Tryz.isAgg3
 z25:=Tryz.sizeOf3
 v25:=Tryz.zeroValue3
 t32:=Tryz.underlying60
 a32:=Tryz.isAgg60
 z32:=Tryz.sizeOf60
 v32:=Tryz.zeroValue60
 t35:=Tryz.underlying309
 a35:=Tryz.isAgg309
 z35:=Tryz.sizeOf309
 v35:=Tryz.zeroValue309
 t36:=Tryz.underlying310
 a36:=Tryz.isAgg310
 z36:=Tryz.sizeOf310
 v36:=Tryz.zeroValue310
 t41:=Tryz.underlying214
 a41:=Tryz.isAgg214
 z41:=Tryz.sizeOf214
 v41:=Tryz.zeroValue214
 t44:=Tryz.underlying316
 a44:=Tryz.isAgg316
 z44:=Tryz.sizeOf316
 v44:=Tryz.zeroValue316
 t46:=Tryz.underlying54
 a46:=Tryz.isAgg54
 z46:=Tryz.sizeOf54
 v46:=Tryz.zeroValue54
 t53:=Tryz.underlying337
 a53:=Tryz.isAgg337
 z53:=Tryz.sizeOf337
 v53:=Tryz.zeroValue337
 t57:=Tryz.underlying341
 a57:=Tryz.isAgg341
 z57:=Tryz.sizeOf341
 v57:=Tryz.zeroValue341
 t63:=Tryz.underlying357
 a63:=Tryz.isAgg357
 z63:=Tryz.sizeOf357
 v63:=Tryz.zeroValue357
 t64:=Tryz.underlying140
 a64:=Tryz.isAgg140
 z64:=Tryz.sizeOf140
 v64:=Tryz.zeroValue140 }
end Go.Proofs
end
section
namespace Go.Proofs
open Go Go.RowKit Go.Maps Go.Sort Go.Shelf
theorem Tryz.afN(m:Nat):AnyZI.SortsIn Tryz.prog Tryz.Ux Fence.wide m :=
 ⟨fun aW off cap bY W hH hblk c8=>callsIn_wide.2 (AnyM.slices_Sort_int Tryz.K0 aW off cap bY W hH hblk c8),fun p cap W=>callsIn_wide.2 (AnyM.slices_Sort_int_none Tryz.K0 p cap W)⟩
end Go.Proofs
namespace Go.Proofs.R
open Go Go.RowKit Go.Maps Go.Sort Go.Shelf bt
theorem ab7(CS:Option Nat)(w:World):bu Tryz.prog F.iB #[.map CS] w fun v w'=>v = .func (.func F.dZ) #[] #[.pointer (some ⟨w.heap.size,0,none⟩)]∧w'=w.alloc (.cells #[.map CS] T.t):=by
 have h:CallsIn Fence.wide 5 Tryz.prog F.iB #[.map CS] w fun e w'=>e = .returned (.func (.func F.dZ) #[] #[.pointer (some ⟨w.heap.size,0,none⟩)])∧w'=w.alloc (.cells #[.map CS] T.t):=AnyZI.keys_in Tryz.JX Fence.wide 5 trivial rfl CS w;exact Calls.mono (callsIn_wide.1 h) fun e w' ⟨h1,U⟩=>⟨_,h1,rfl,U⟩
theorem S0:∀l:List Int,l.map encZ=l.flatMap dA
 | []=>rfl
 | x :: l=>by rw[List.map_cons,List.flatMap_cons,S0 l];rfl
theorem afM(b:Nat)(L:List Int)(w:World)(h:eC w b L)(dE:L.length≤1000000) :
  bu Tryz.prog F.nd #[.func (.func F.dZ) #[] #[.pointer (some ⟨w.heap.size,0,none⟩)]] (w.alloc (.cells #[.map (some b)] T.t)) fun v w'=>(∃r,bs dA T.a 1 (w.alloc (.cells #[.map (some b)] T.t)).heap.size w' v r∧o.lV L r)∧Ext (w.alloc (.cells #[.map (some b)] T.t)) w':=by
 obtain⟨qZ,fI,c8,Jz⟩:=h.own (P:=Tryz.prog) (k:=T.a) (by kernel_rfl) (by unfold maxLen;omega);have Bl:=fI.lt;have s4:SeqGives Fence.wide 2 Tryz.prog F.dZ #[.pointer (some ⟨w.heap.size,0,none⟩)] encZ (fun bY=>bY.Perm (intKeys qZ)) (Maps.size qZ) (w.alloc (.cells #[.map (some b)] T.t)) :=
  AnyZI.keys_gives (ρ:=Tryz.Sr) { Tryz.JX with } Fence.wide _ trivial rfl (by omega) w.heap.size b _ qZ _ (by simp) (by simp) (by
   obtain⟨es,clock,aD,Vr,ay,nQ⟩:=fI;exact⟨es,clock,(Below.heap_alloc _ _ b Bl).trans aD,Vr,ay,nQ⟩)
 have O4:=AnyZI.sorted_in Tryz.afL Fence.wide 5 trivial trivial trivial trivial rfl (by omega) (Tryz.afN _) (Tryz.K0.f5.enters rfl) F.dZ #[.pointer (some ⟨w.heap.size,0,none⟩)] trivial (Tryz.JX.f10.enters rfl) _ _ (by unfold maxLen;omega) (by omega) _ s4;change CallsIn _ _ Tryz.prog F.nd _ _ _ at O4;refine Calls.mono (callsIn_wide.1 O4) ?_;rintro e w' ⟨v,bY,rfl,ck,yX,_,aD⟩;obtain⟨h1,U⟩:=Jz bY ck;refine⟨v,rfl,⟨bY.mergeSort fun x y=>decide (x≤y),?_,afK h1,fun x=>?_⟩,aD⟩
 ·unfold bs;rw[←S0,List.length_mergeSort];exact yX
 ·rw[(List.mergeSort_perm bY _).mem_iff];exact U x
theorem Gc(b:Nat)(L:List Int)(w:World)(h:eC w b L)(dE:L.length≤1000000) :
  bu Tryz.prog F.q #[.map (some b)] w fun v w'=>(∃r,bs dA T.a 1 w.heap.size w' v r∧o.lV L r)∧Ext w w':=by
 have he:Ext w (w.alloc (.cells #[.map (some b)] T.t)):=(Ext.refl w).alloc _;have hk:=ab7 (some b) w;have ay:=afM b L w h dE;generalize w.alloc (.cells #[.map (some b)] T.t)=av at he hk ay;refine bM E.q ?_;refine bF ?_;refine al ?_;refine K.call hk ?_;rintro _ _ ⟨rfl,rfl⟩;refine al ?_;refine K.call ay ?_;rintro v aT ⟨⟨r,a1,bd⟩,aC⟩;refine al ?_;exact⟨⟨r,bs.low he.size a1,bd⟩,he.trans aC⟩
end Go.Proofs.R
end
section
namespace Go.Proofs.R
open Go Go.RowKit bt
theorem Np(cs:List Value)(m:o.Model)(ref:Int)(w:World)(h:o.er w cs m)(a8:m.cX)(a1:iu w) :
  bu Tryz.prog F.a4 #[.agg cs.toArray,.int .i64 ref] w fun v w'=>(∃eD xC a b,v = .tuple #[eD,xC]∧e4 w' eD a∧e4 w' xC b∧o.sf m ref a b)∧Ext w w':=by
 have fP:=h;obtain⟨cy,bO,b9,c1,ch,c2,cm,bN,cA,bT,rfl,_⟩:=h.form;refine bM E.a4 ?_;refine bF ?_;refine al ?_;intro av ca dB aA aM;refine al ?_;refine K.call (Tl _ m ref av (fP.ext aA) a8 (a1.ext aA)) ?_;rintro _ aT ⟨hO,aC⟩;replace aM:=aC.obj aM;have ba:=aA.trans aC;rcases hO with ⟨wM,rfl⟩ | ⟨b,q,p,k,fD,eD,cK,rfl,ky,jO,jF⟩
 ·unfold HE;refine al ?_;intro wn ix gM hU gA;refine al ?_;intro bf eZ dr;refine al ?_;exact⟨⟨_,_,[],[],rfl,bz.nil,bz.nil,o.sf.nil wM⟩,ba.trans (eZ.ext hU gM)⟩
 obtain⟨oo,kU,rfl,_⟩:=jO.form;obtain⟨zu,yi,rfl,_⟩:=jF.form;have bg:=o.qO cK.ok;have bH:=cK.inst;have nS:=cK.cin;have rC:=nS.gU;obtain⟨c,uC⟩:∃c,c=o.dQ m p k:=⟨_,rfl⟩;rw[←uC] at nS rC jO jF ⊢;unfold o.dG.enc;refine al ?_;intro wn lZ jC hU gA;refine al ?_;intro bf eZ da;have aw:Ext aT bf:=eZ.ext hU jC;clear hU gA eZ;have bQ:=ba.trans aw;have uz:=ky.ext aw;have Jm:=jO.ext aw;have Jk:=jF.ext aw;have Ja:=o.yZ bg bH.aB;clear aM ky jO jF;refine al ?_;refine K.vc fun bq jw Bm aR qA=>?_;refine al ?_;refine K.vc fun bS nb ahO bj rA=>?_;have RM:=(eC.empty qA).ext bj;have fx:=eC.empty rA;have dg:jw≠nb:=by have:=cM qA;omega
 have iq:=aR.trans bj;have ZW:=iq.obj da;have ZK:bf.heap.size≤nb:=by have:=aR.size;omega
 clear qA rA;refine al ?_;refine K.call (yJ b q m bS (uz.ext iq) bH.aB) ?_;rintro _ bX ⟨rfl,bk⟩;refine al ?_;refine K.call (pe jw [] (o.dx m q) 1 _ _ bX (RM.ext bk) rfl rfl (by omega)) ?_;rintro _ cn ⟨wP,kE⟩;have ek:=(fx.ext bk).mod kE (Ne.symm dg);have gI:=kE.ext (iq.trans bk) fun k hk e=>by omega
 refine al ?_;refine K.call (yJ b q m cn (uz.ext gI) bH.aB) ?_;rintro _ dv ⟨rfl,bW⟩;refine al ?_;refine K.call (pe nb [] (o.dx m q) 1 _ _ dv (ek.ext bW) rfl rfl (by omega)) ?_;rintro _ eA ⟨lC,uL⟩;have RN:=(wP.ext bW).mod uL dg;have kk:=uL.ext (gI.trans bW) fun k hk e=>by omega
 have ZX:=kk.obj da;refine al ?_;refine K.call (yy c.guard _ b jw q p _ m bf eA uz kk Bm RN bg bH Jm nS.guard) ?_;rintro _ eR ⟨yW,wL⟩;have k1:=lC.mod wL (Ne.symm dg);have q0:=wL.ext kk fun k hk e=>by omega
 have ZU:=q0.obj da;rw[List.nil_append] at k1 yW;have Qi:eC eR jw (o.ow m q c 0):=by
  unfold o.ow o.sF;rw[List.take_zero,List.flatMap_nil,List.append_nil];exact yW
 have Qj:eC eR nb (o.lJ m q c 0):=by
  unfold o.lJ;rw[List.take_zero,List.flatMap_nil,List.append_nil];exact k1
 clear RM fx wP ek RN lC yW k1 ZW ZX kE uL wL bk bW iq gI kk;refine al ?_;refine K.df 40 c.b4.length [6,7,9,10,38,39] (fun _:Unit=>[]) () (fun n _ W=>Ext bf W∧eC W jw (o.ow m q c n)∧eC W nb (o.lJ m q c n)) bB bB ⟨q0,Qi,Qj⟩ ?_;clear ZU Qi Qj q0;rintro n _ S gH aI ⟨q1,Js,ib⟩;have aaK:=Jk.ext q1;refine al ?_;apply K.cond<;>intro g1
 ·have jE:n<c.b4.length:=by omega
  obtain⟨jt,rfl⟩:=Jk.addr (by omega);obtain⟨cr,ct,wy,yS,BN⟩:=Jk.at n jE;have Bf:=nS.act n jE;obtain⟨eu,ci,rfl,_⟩:=yS.form;obtain⟨e1,fu,rfl,_⟩:=BN.form;replace wy:=wy.ext q1;clear aaK;refine al ?_;intro kh El uA fl ry;have z7:=q1.trans fl;have Jt:=Js.ext fl;have nq:=ib.ext fl;have kL:¬El=jw:=fun e=>by subst e;obtain⟨_,_,h,_⟩:=Jt.ex;rw[ry] at h;cases h
  have jl:¬El=nb:=fun e=>by subst e;obtain⟨_,_,h,_⟩:=nq.ex;rw[ry] at h;cases h
  clear wy Js ib;refine al ?_;refine K.call (aeC c.b4[n] _ _ b jw q p _ m bf kh uz z7 Bm Jt bg bH yS BN Bf) ?_;rintro _ oy ⟨aa2,Ji⟩;have j9:=nq.mod Ji (Ne.symm dg);have Mj:=Ji.ext z7 fun k hk e=>by omega
  replace ry:=Ji.obj kL ry;clear Jt nq;refine al ?_;refine K.call (agN c.b4[n] _ _ b nb q p _ m bf oy uz Mj ZK j9 bg bH yS Bf) ?_;rintro _ Dz ⟨B2,Ry⟩;have aa3:=aa2.mod Ry dg;have Vp:=Ry.ext Mj fun k hk e=>by omega
  refine al ?_;exact⟨jE,bw,(),trivial,Vp,by rw[o.TM jE];exact aa3,by rw[o.Vc jE];exact B2⟩
 ·have Fz:c.b4.length=n:=by omega
  have lA:=(o.KJ bg bH nS n (by omega)).len;have aix:=(o.Lr bg bH nS n (by omega)).len;refine al ?_;refine K.call (Gc jw _ gH Js (by omega)) ?_;rintro u kh ⟨⟨C7,BO,BT⟩,fl⟩;refine al ?_;refine K.call (Gc nb _ kh (ib.ext fl) (by omega)) ?_;rintro zO oy ⟨⟨KG,aaP,aa4⟩,hB⟩;refine al ?_;have Zx:e4 kh u C7:=bs.lH (enc:=dA) (fun _=>rfl) BO;refine⟨⟨_,_,C7,KG,rfl,Zx.ext Flat.ext hB,bs.lH (enc:=dA) (fun _=>rfl) aaP,?_⟩,((bQ.trans q1).trans fl).trans hB⟩;subst uC;refine o.sf.of cK ?_ ?_
  ·rw[Fz];exact BT
  ·rw[Fz];exact aa4
theorem Vs(cs:List Value)(m:o.Model)(ref:Int)(w:World)(h:o.er w cs m)(a8:m.cX)(a1:iu w) :
  bu Tryz.prog F.fu #[.agg cs.toArray,.int .i64 ref] w fun v w'=>(∃a,e4 w' v a∧o.tS m ref a)∧Ext w w':=by
 have fP:=h;obtain⟨cy,bO,b9,c1,ch,c2,cm,bN,cA,bT,rfl,_⟩:=h.form;refine bM E.fu ?_;refine bF ?_;refine al ?_;intro av ca dB aA aM;refine al ?_;refine K.call (Tl _ m ref av (fP.ext aA) a8 (a1.ext aA)) ?_;rintro _ aT ⟨hO,aC⟩;replace aM:=aC.obj aM;have ba:=aA.trans aC;rcases hO with ⟨wM,rfl⟩ | ⟨b,q,p,k,fD,eD,cK,rfl,ky,jO,jF⟩
 ·unfold HE;refine al ?_;intro wn ix gM hU gA;refine al ?_;intro bf eZ dr;refine al ?_;exact⟨⟨[],bz.nil,o.tS.nil wM⟩,ba.trans (eZ.ext hU gM)⟩
 obtain⟨oo,kU,rfl,_⟩:=jO.form;obtain⟨zu,yi,rfl,_⟩:=jF.form;have bg:=o.qO cK.ok;have bH:=cK.inst;have nS:=cK.cin;obtain⟨c,uC⟩:∃c,c=o.dQ m p k:=⟨_,rfl⟩;rw[←uC] at nS jO jF ⊢;unfold o.dG.enc;refine al ?_;intro wn lZ jC hU gA;refine al ?_;intro bf eZ da;have aw:Ext aT bf:=eZ.ext hU jC;clear hU gA eZ;have bQ:=ba.trans aw;have uz:=ky.ext aw;have Jm:=jO.ext aw;have Ja:=o.yZ bg bH.aB;have ah2:=(o.Qg bg bH nS).len;clear aM ky jO jF;refine al ?_;refine K.vc fun bq jw Bm aR qA=>?_;have FA:=eC.empty qA;have ZV:=aR.obj da;clear qA;refine al ?_;refine K.call (yJ b q m bq (uz.ext aR) bH.aB) ?_;rintro _ bX ⟨rfl,bk⟩;refine al ?_;refine K.call (pe jw [] (o.dx m q) 1 _ _ bX (FA.ext bk) rfl rfl (by omega)) ?_;rintro _ cn ⟨wP,kE⟩;have gI:=kE.ext (aR.trans bk) fun k hk e=>by omega
 have ahT:=gI.obj da;clear FA ZV kE;refine al ?_;refine K.call (yy c.guard _ b jw q p _ m bf cn uz gI Bm wP bg bH Jm nS.guard) ?_;rintro _ eR ⟨yW,wL⟩;have q0:=wL.ext gI fun k hk e=>by omega
 have bd:eC eR jw (o.sF m q c):=by unfold o.sF;rw[List.nil_append] at yW;exact yW
 refine al ?_;refine K.call (Gc jw _ eR bd (by omega)) ?_;rintro u kh ⟨⟨C7,BO,BT⟩,fl⟩;refine al ?_;subst uC;exact⟨⟨C7,bs.lH (enc:=dA) (fun _=>rfl) BO,o.tS.of cK BT⟩,(bQ.trans q0).trans fl⟩
theorem Nq(cs:List Value)(m:o.Model)(inst:Int)(w:World)(h:o.er w cs m)(a8:m.cX)(a1:iu w) :
  bu Tryz.prog F.qh #[.agg cs.toArray,.int .i64 inst] w fun v w'=>e4 w' v (o.xm m inst)∧Ext w w':=by
 have fP:=h;obtain⟨cy,bO,b9,c1,ch,c2,cm,bN,cA,bT,rfl,aj,h1,U,ag,aK,eG,du,dF,dV,eo⟩:=h.form;refine bM E.qh ?_;refine bF ?_;refine al ?_;intro av ca dB aA aM;refine al ?_;refine K.call (J9 _ m av (fP.ext aA) a8 (a1.ext aA)) ?_;rintro _ aT ⟨rfl,aC⟩;have ba:=aA.trans aC;replace aM:=aC.obj aM;refine al ?_;refine K.kx (v:=.int .i64 (o.check m).dp) rfl ?_;refine al ?_;refine K.cond (fun hk=>?_) (fun hk=>?_);rotate_left
 ·refine al ?_;rw[o.Kp fun e=>absurd e hk];exact⟨bz.nil,ba⟩
 have bg:=o.qO hk;refine al ?_;refine K.call (JR _ m aT (fP.ext ba) a8) ?_;rintro cr bf ⟨fm,aw⟩;obtain⟨eu,ci,rfl,_⟩:=fm.form;have fw:oE bf (.slice eu (o.insts m).length ci) (o.insts m):=bs.lH (enc:=o.c3.enc) (fun _=>rfl) fm;replace aM:=aw.obj aM;have bQ:=ba.trans aw;clear fm;refine al ?_;apply K.cond<;>intro g1
 ·refine al ?_;rw[o.Kp fun _=>.inl (by omega)];exact⟨bz.nil,bQ⟩
 obtain⟨q,rfl⟩:=Int.eq_ofNat_of_zero_le (show 0≤inst by omega);refine al ?_;apply K.cond<;>intro g2
 ·refine al ?_;rw[o.Kp fun _=>.inr (by omega)];exact⟨bz.nil,bQ⟩
 have aB:q<(o.insts m).length:=by omega
 obtain⟨p,bH⟩:=o.JP aB;have aO:=bH.aO;have sS:=bH.eq;have wQ:=bH.zC bg;obtain⟨lY,rfl⟩:=fw.addr (by omega);obtain⟨a3,rfl⟩:=ag.addr (by omega);obtain⟨oa,ct,dM,ej,eJ,hi⟩:=ag.at p aO;obtain⟨ajn,ahn,rfl,ai9⟩:=eJ.form;have uP:=ej.ext bQ;unfold o.dj.enc at uP;clear ej aj h1 U aK;rw[o.adN bH hk];obtain⟨I8,sR⟩:=o.wU aB;refine al ?_;refine K.vc fun bq jw Bm aR qA=>?_;have FA:=eC.empty qA;replace aM:=aR.obj aM;replace uP:=uP.ext aR;have Rc:=fw.ext Flat.ext aR;have b3:=bQ.trans aR;clear qA;refine al ?_;intro bS bj;replace aM:=bj.obj aM;replace uP:=uP.ext bj;replace Rc:=Rc.ext Flat.ext bj;have cc:=b3.trans bj;refine al ?_;refine K.dk p (by rw[sS]) aO ?_;refine al ?_;refine K.call (SD _ m bS (fP.ext cc) a8 (a1.ext cc)) ?_;rintro _ bX ⟨⟨ys,rfl,wu⟩,bk⟩;have dE:=wu.here;rw[o.Ca hk] at dE;obtain⟨jW,d0,lK,d1,lL,d2,mi,d3,lM,d4,rfl,gW,fr,fL,hp,jS⟩:=dE.form;obtain⟨a2,rfl⟩:=fL.addr (by omega);have c0:=cc.trans bk;clear wu dE gW fr hp jS;refine⟨bk,?_⟩;refine al ?_;refine K.kx (v:=.slice (some a2) (o.layout m).insts.length d2) rfl ?_;refine al ?_;refine⟨bk,?_⟩;refine al ?_;refine K.call (pe jw [] (o.dx m q) (1+m.procs[p].vars.length) _ _ bX ((FA.ext bj).ext bk) (by rw[sR]) (by omega) (by omega)) ?_;rintro _ cn ⟨wP,kE⟩;have gI:=kE.ext ((aR.trans bj).trans bk) fun k hk e=>by omega
 rw[List.nil_append] at wP;refine al ?_;refine K.call (Gc jw _ cn wP (by rw[o.T2];omega)) ?_;rintro u dv ⟨⟨C7,BO,BT⟩,bW⟩;refine al ?_;rw[(o.lV.adw _ _).eq BT fun _=>Iff.rfl];exact⟨bs.lH (enc:=dA) (fun _=>rfl) BO,(bQ.trans gI).trans bW⟩
end Go.Proofs.R
end
section
namespace bt
open Go Go.RowKit
structure agT(e:TypeId)(base:Nat)(w:World)(v1:Value)(du:List Int)(v2:Value)(dF:List Int):Prop where
 fr:bs dA e 1 base w v1 du
 fL:bs dA e 1 base w v2 dF
 ap:∀k,v1.ownBlock=some k→v2.ownBlock≠some k
end bt
end
section
namespace o
open Go
def EP:List Node:=[⟨5,0⟩,⟨3,0⟩,⟨1,1⟩,⟨11,0⟩]
def uw:Act:=⟨2,0,0,[⟨5,0⟩],EP⟩
def sA:dG:=⟨⟨#[103,111]⟩,0,0,[],[uw],false⟩
def rl:dj:=⟨⟨#[97]⟩,1,1,[],[sA]⟩
def we:Var:=⟨⟨#[120]⟩,0,1,0,3,0⟩
def gk:Model:=⟨[H8],[we],[],[rl],[]⟩
theorem PU:(check gk).dp=0:=by decide +kernel
theorem EN:insts gk=[⟨0,1⟩,⟨0,2⟩]:=by decide +kernel
theorem EO:refs gk=[⟨0,0⟩,⟨1,0⟩]:=by decide +kernel
theorem Yj:gZ gk 0 0 0 0:=⟨PU,by decide,by rw[EO];decide,by
 have e:∀h,(refs gk)[(0:Int).toNat]'h=⟨0,0⟩:=fun h=>by simp[EO]
 rw[e];exact⟨by rw[EN];decide,rfl,by simp[EN],by decide,rfl,by decide⟩⟩
theorem Yk:gZ gk 1 1 0 0:=⟨PU,by decide,by rw[EO];decide,by
 have e:∀h,(refs gk)[(1:Int).toNat]'h=⟨1,0⟩:=fun h=>by simp[EO]
 rw[e];exact⟨by rw[EN];decide,rfl,by simp[EN],by decide,rfl,by decide⟩⟩
theorem Yp:ow gk 1 (dQ gk 0 0) (dQ gk 0 0).b4.length=[3,1]:=by decide +kernel
theorem Yr:lJ gk 1 (dQ gk 0 0) (dQ gk 0 0).b4.length=[3,1]:=by decide +kernel
theorem Yl:sF gk 0 (dQ gk 0 0)=[2]:=by decide +kernel
theorem Yn:xm gk 1=[3]:=by decide +kernel
theorem Yo:xm gk 2=[]:=by decide +kernel
theorem TV{l:List Int}(h:lV [3,1] l):l=[1,3]:=Gb l [1,3] h.zv (by decide) fun x=>by rw[h.mem];simp[or_comm]
theorem Yq{a b:List Int}(h:sf gk 1 a b):a=[1,3]∧b=[1,3]:=by
 obtain⟨h1,U⟩:=h.there _ _ _ Yk;rw[Yp] at h1;rw[Yr] at U;exact⟨TV h1,TV U⟩
theorem Ym{a:List Int}(h:tS gk 0 a):a=[2]:=by
 have h1:=h.there _ _ _ Yj;rw[Yl] at h1;exact Gb a [2] h1.zv (by decide) fun x=>h1.mem x
theorem PV(x:Node)(h : -1000≤x.op∧x.op≤1000 ∧ -1000≤x.n∧x.n≤1000):x.ok:=⟨nr ⟨h.1,h.2.1⟩,nr h.2.2⟩
theorem EM:gk.cX:=by
 refine⟨by simp[gk,dY],by simp[gk,dY],by simp[gk,dY],by simp[gk,dY],by simp[gk,dY],?_,?_,by simp[gk],?_,by simp[gk]⟩
 ·intro a bp;simp[gk] at bp;subst bp;exact⟨nr (by simp[H8])⟩
 ·intro a bp;simp[gk] at bp;subst bp;exact⟨nr (by simp[we]),nr (by simp[we]),nr (by simp[we]),nr (by simp[we]),nr (by simp[we])⟩
 ·intro a bp;simp[gk] at bp;subst bp;refine⟨nr (by simp[rl]),nr (by simp[rl]),by simp[rl,dY],by simp[rl,dY],by simp[rl],?_⟩;intro c ax;simp[rl] at ax;subst ax;refine⟨nr (by simp[sA]),nr (by simp[sA]),by simp[sA,dY],by simp[sA,dY],?_⟩;intro b aD;simp[sA] at aD;subst aD;exact⟨nr (by simp[uw]),nr (by simp[uw]),nr (by simp[uw]),by simp[uw,dY],by simp[uw,EP,dY]⟩
end o
end
section
namespace Go.Proofs.R
open Go Go.RowKit bt
theorem EC(w:World):bu Tryz.prog F.u5 #[] w fun v w'=>(∃cs,v = .agg cs.toArray∧o.er w' cs o.gk)∧Ext w w':=by
 refine bM E.u5 ?_;refine bF ?_;refine aa ?_;intro av bC cL aA aq;have fE:=cM aq;refine aa ?_;intro aT ca dB aC aM;refine aa ?_;intro bf b5 fU aw bK;refine aa ?_;intro bq cO fo aR bI;refine aa ?_;intro bS dH mB bj cC;refine aa ?_;intro bX ix gM bk dr;have ahP:=(bj.trans bk).obj bI;refine aa ?_;intro cn lZ jC bR da;refine aa ?_;intro dv mu Bk bW eN;refine aa ?_;intro eA iy kz cp dI;have PD:=((((((aC.trans aw).trans aR).trans bj).trans bk).trans bR).trans bW).trans cp;have o0:=PD.obj aq;refine aa ?_;intro eR k1 kB;have mP:=aC.size;have zT:=aw.size;have xF:=aR.size;have ajU:=bj.size;have GP:=bk.size;have DD:=bR.size;have DE:=bW.size;have gd:=k1.obj (((((((aw.trans aR).trans bj).trans bk).trans bR).trans bW).trans cp).obj aM) (by omega);have iS:=k1.obj ((((((aR.trans bj).trans bk).trans bR).trans bW).trans cp).obj bK) (by omega);have uY:=k1.obj ((((bk.trans bR).trans bW).trans cp).obj cC) (by omega);have y4:=k1.obj (((bR.trans bW).trans cp).obj dr) (by omega);have uZ:=k1.obj ((bW.trans cp).obj da) (by omega);have FM:=k1.obj (cp.obj eN) (by omega);have FN:=k1.obj dI (by omega);have ab5:o.fG eR (.slice (some ⟨ca,0,none⟩) 4 4) o.EP:=bz.aW (enc:=o.Node.enc) (fun _=>rfl) gd rfl (by decide) fun a x ar ax=>⟨ax,o.PV x (by simp[o.EP] at ar;rcases ar with rfl | rfl | rfl | rfl<;>simp)⟩;have ab2:o.fG eR (.slice (some ⟨b5,0,none⟩) 1 1) [⟨5,0⟩]:=bz.aW (enc:=o.Node.enc) (fun _=>rfl) iS rfl (by decide) fun a x ar ax=>⟨ax,o.PV x (by simp at ar;subst ar;simp)⟩;have ab4:o.gi eR (.slice (some ⟨dH,0,none⟩) 1 1) [o.H8]:=o.gi.aW uY rfl (by decide) (by intro x ar;simp only[List.mem_singleton] at ar;subst ar;decide);have ab6:o.gJ eR (.slice (some ⟨ix,0,none⟩) 1 1) [o.we]:=o.gJ.aW y4 rfl (by decide) (by intro x ar;simp only[List.mem_singleton] at ar;subst ar;decide);have ab0:o.mR eR (.slice (some ⟨lZ,0,none⟩) 1 1) [o.uw]:=bz.Ho [⟨o.uw.enc (.slice (some ⟨b5,0,none⟩) 1 1) (.slice (some ⟨ca,0,none⟩) 4 4),rfl,by simp[o.Act.enc,Value.oneCell']⟩] uZ rfl rfl rfl (by decide) (by
  intro i h1 U
  have:i=0:=by simp at h1;omega
  subst this;exact⟨_,_,rfl,ab2,ab5⟩)
 have ab1:o.pq eR (.slice (some ⟨mu,0,none⟩) 1 1) [o.sA]:=bz.Ho [⟨o.sA.enc (.slice none 0 0) (.slice (some ⟨lZ,0,none⟩) 1 1),rfl,by simp[o.dG.enc,Value.oneCell']⟩] FM rfl rfl rfl (by decide) (by
  intro i h1 U
  have:i=0:=by simp at h1;omega
  subst this;exact⟨(show o.hZ o.sA.name by decide),_,_,rfl,bz.nil,ab0⟩)
 have ab3:o.pt eR (.slice (some ⟨iy,0,none⟩) 1 1) [o.rl]:=bz.Ho [⟨o.rl.enc (.slice none 0 0) (.slice (some ⟨mu,0,none⟩) 1 1),rfl,by simp[o.dj.enc,Value.oneCell']⟩] FN rfl rfl rfl (by decide) (by
  intro i h1 U
  have:i=0:=by simp at h1;omega
  subst this;exact⟨(show o.hZ o.rl.name by decide),_,_,rfl,bz.nil,ab1⟩)
 refine aa ?_;exact⟨⟨_,rfl,⟨_,_,_,_,_,rfl,ab4,ab6,bz.nil,ab3,bz.nil⟩⟩,k1.ext (aA.trans PD) cL⟩
theorem afl(w:World)(a1:iu w):bu Tryz.prog F.xf #[] w fun v w'=>v = .bool true∧Ext w w':=by
 refine bM E.xf ?_;refine bF ?_;refine aa ?_;refine K.call (EC w) ?_;rintro _ av ⟨⟨cs,rfl,bg⟩,aA⟩;obtain⟨cy,bO,b9,c1,ch,c2,cm,bN,cA,bT,rfl,_⟩:=bg.form;refine aa ?_;refine K.call (Np _ o.gk 1 av bg o.EM (a1.ext aA)) ?_;rintro _ aT ⟨⟨eD,xC,a,b,rfl,kd,iF,gq⟩,aC⟩;obtain⟨rfl,rfl⟩:=o.Yq gq;obtain⟨bl,iz,rfl,_⟩:=kd.form;obtain⟨xk,qo,rfl,_⟩:=iF.form;have ba:=aA.trans aC;clear bg;refine aa ?_;intro bf b5 fU aw bK;have bQ:=ba.trans aw;refine aa ?_;refine K.call (FV _ _ _ [1,3] bf (kd.ext Flat.ext aw) (bz.aW (enc:=dA) (R:=Flat dA) (fun _=>rfl) bK rfl (by decide) fun _ _ _ h=>h)) ?_;rintro _ bq ⟨⟨t,rfl,aL⟩,aR⟩;obtain rfl:=aL.2 rfl;have b3:=bQ.trans aR;clear bK;refine aa ?_;intro bS dH mB bj cC;have cc:=b3.trans bj;refine aa ?_;refine K.call (FV _ _ _ [1,3] bS (iF.ext Flat.ext ((aw.trans aR).trans bj)) (bz.aW (enc:=dA) (R:=Flat dA) (fun _=>rfl) cC rfl (by decide) fun _ _ _ h=>h)) ?_;rintro _ bX ⟨⟨t,rfl,aL⟩,bk⟩;obtain rfl:=aL.2 rfl;have c0:=cc.trans bk;clear cC kd iF;refine aa ?_;refine K.call (EC bX) ?_;rintro _ cn ⟨⟨cs,rfl,bg⟩,bR⟩;obtain⟨cy,bO,b9,c1,ch,c2,cm,bN,cA,bT,rfl,_⟩:=bg.form;have dZ:=c0.trans bR;refine aa ?_;refine K.call (Vs _ o.gk 0 cn bg o.EM (a1.ext dZ)) ?_;rintro _ dv ⟨⟨g,Ki,Zr⟩,bW⟩;obtain rfl:=o.Ym Zr;obtain⟨oo,kU,rfl,_⟩:=Ki.form;have eW:=dZ.trans bW;clear bg;refine aa ?_;intro eA iy kz cp dI;have nd:=eW.trans cp;refine aa ?_;refine K.call (FV _ _ _ [2] eA (Ki.ext Flat.ext cp) (bz.aW (enc:=dA) (R:=Flat dA) (fun _=>rfl) dI rfl (by decide) fun _ _ _ h=>h)) ?_;rintro _ eR ⟨⟨t,rfl,aL⟩,dJ⟩;obtain rfl:=aL.2 rfl;have j3:=nd.trans dJ;clear dI Ki;refine aa ?_;refine K.call (EC eR) ?_;rintro _ gH ⟨⟨cs,rfl,bg⟩,hf⟩;obtain⟨cy,bO,b9,c1,ch,c2,cm,bN,cA,bT,rfl,_⟩:=bg.form;have nN:=j3.trans hf;refine aa ?_;refine K.call (Nq _ o.gk 1 gH bg o.EM (a1.ext nN)) ?_;rintro _ kh ⟨F4,fl⟩;rw[o.Yn] at F4;obtain⟨ajo,yr,rfl,_⟩:=F4.form;have yv:=nN.trans fl;clear bg;refine aa ?_;intro oy sk IE hB iD;have AU:=yv.trans hB;refine aa ?_;refine K.call (FV _ _ _ [3] oy (F4.ext Flat.ext hB) (bz.aW (enc:=dA) (R:=Flat dA) (fun _=>rfl) iD rfl (by decide) fun _ _ _ h=>h)) ?_;rintro _ Dz ⟨⟨t,rfl,aL⟩,nU⟩;obtain rfl:=aL.2 rfl;have EH:=AU.trans nU;clear iD F4;refine aa ?_;refine K.call (EC Dz) ?_;rintro _ GG ⟨⟨cs,rfl,bg⟩,kC⟩;obtain⟨cy,bO,b9,c1,ch,c2,cm,bN,cA,bT,rfl,_⟩:=bg.form;have HS:=EH.trans kC;refine aa ?_;refine K.call (Nq _ o.gk 2 GG bg o.EM (a1.ext HS)) ?_;rintro _ agC ⟨pY,nj⟩;rw[o.Yo] at pY;obtain⟨Kq,cW,rfl,_⟩:=pY.form;have XX:=HS.trans nj;refine aa ?_;exact⟨bw,XX⟩
end Go.Proofs.R
end
section
namespace o
theorem aem{s:List Scalar}{c:c5}{l:List Int}(aP:l.length=1+c.cap.toNat)(aj:1≤c.cap):lT s c l↔(0≤l[0]'(by omega)∧l[0]'(by omega)≤c.cap∧∀k (h:k+1<l.length),((k:Int)<l[0]'(by omega)→(eM c.scalar c.aZ c.ad s).aZ≤l[k+1]∧l[k+1]≤(eM c.scalar c.aZ c.ad s).ad)∧(l[0]'(by omega)≤k→l[k+1]=0)):=by
 unfold lT;constructor
 ·rintro⟨n,h1,U,ag,aK⟩;obtain⟨_,rfl⟩:=List.getElem?_eq_some_iff.1 h1;refine⟨U,ag,fun k h=>?_⟩;obtain⟨x,bc,bD⟩:=aK k (by omega);obtain⟨_,rfl⟩:=List.getElem?_eq_some_iff.1 bc;exact bD
 ·rintro⟨U,ag,aK⟩;exact⟨l[0]'(by omega),List.getElem?_eq_getElem _,U,ag,fun k h=>⟨l[k+1]'(by omega),List.getElem?_eq_getElem _,aK k (by omega)⟩⟩
end o
end
section
namespace o
open Classical in
noncomputable def C3(s:List Scalar)(c:c5)(l:List Int):Bool:=decide (lT s c l)
theorem KC{s:List Scalar}{c:c5}{l:List Int}:C3 s c l=true↔lT s c l:=by unfold C3;simp
theorem aek{s:List Scalar}{c:c5}{l:List Int}{t:Bool}(h:t=true↔lT s c l):t=C3 s c l:=by
 rw[←KC] at h;cases t<;>cases aB:C3 s c l<;>simp_all
end o
namespace Go.Proofs.R
open Go Go.RowKit bt
theorem acV(cs:List Value)(m:o.Model)(w:World)(h:o.er w cs m)(a8:m.cX) :
  bu Tryz.prog F.Cw #[.agg cs.toArray] w fun v w'=>v = .bool (decide ((o.check m).dp=0))∧Ext w w':=by
 obtain⟨cy,bO,b9,c1,ch,c2,cm,bN,cA,bT,rfl,_⟩:=h.form;refine bM E.Cw ?_;refine bF ?_;refine al ?_;intro av bC cL aA aq;refine al ?_;refine K.call (KN _ m av (h.ext aA) a8) ?_;rintro _ aT ⟨rfl,aC⟩;unfold ux;refine al ?_;refine K.kx (v:=.int .i64 (o.check m).dp) rfl ?_;refine al ?_;exact⟨bw,aA.trans aC⟩
theorem aeA(cs:List Value)(m:o.Model)(v:Value)(l:List Int)(i:Nat)(w:World)(h:o.er w cs m)(bg:o.eI m)(ad:i<m.aJ.length)(aO:e4 w v l)(n3:l.length=1+m.aJ[i].cap.toNat) :
  bu Tryz.prog F.CF #[.agg cs.toArray,v,.int .i64 i] w fun u w'=>(∃t:Bool,u = .bool t∧(t=true↔o.lT m.scalars m.aJ[i] l))∧Ext w w':=by
 obtain⟨cy,bO,b9,c1,ch,c2,cm,bN,cA,bT,rfl,aj,h1,U,ag,aK,eG,du,dF,dV,eo⟩:=h.form;obtain⟨e1,fu,rfl,fQ⟩:=aO.form;have dh:=bg.chan _ (List.getElem_mem ad);have hz:=dh.cap;have gU:=bg.gU;obtain⟨ac,rfl⟩:=U.addr (by omega);obtain⟨ap,rfl⟩:=aO.addr (by omega);have et:=(U.at i ad).cells;have aB:=o.aem (s:=m.scalars) (c:=m.aJ[i]) (l:=l) n3 hz.1;obtain⟨aZ,jN⟩:∃aZ,aZ=(o.eM m.aJ[i].scalar m.aJ[i].aZ m.aJ[i].ad m.scalars).aZ:=⟨_,rfl⟩;obtain⟨cP,Bz⟩:∃ad,ad=(o.eM m.aJ[i].scalar m.aJ[i].aZ m.aJ[i].ad m.scalars).ad:=⟨_,rfl⟩;rw[←jN,←Bz] at aB;refine bM E.CF ?_;refine bF ?_;refine al ?_;intro av bC cL aA aq;replace et:=et.ext aA;refine al ?_;intro aT lZ jC aC da;replace aq:=aC.obj aq;have ba:=aA.trans aC;replace aO:=aO.ext Flat.ext ba;clear et;refine al ?_;refine K.dk 0 rfl (by omega) ?_;refine al ?_;apply K.cond<;>intro g1
 ·refine al ?_;intro bf aw;refine al ?_;exact⟨⟨false,rfl,by simp only[Bool.false_eq_true,false_iff];intro h;exact absurd (aB.1 h).1 (by omega)⟩,ba.trans aw⟩
 refine al ?_;refine K.dk 0 rfl (by omega) ?_;refine al ?_;intro bf aw;replace aq:=aw.obj aq;replace da:=aw.obj da;replace aO:=aO.ext Flat.ext aw;have bQ:=ba.trans aw;apply K.cond<;>intro g2
 ·refine al ?_;exact⟨⟨false,rfl,by simp only[Bool.false_eq_true,false_iff];intro h;exact absurd (aB.1 h).2.1 (by omega)⟩,bQ⟩
 refine al ?_;refine K.call (KL ⟨⟨#[]⟩,m.aJ[i].scalar,0,m.aJ[i].aZ,m.aJ[i].ad,0⟩ _ m.scalars bf (aj.ext bQ)) ?_;rintro _ bq ⟨rfl,aR⟩;have PI:((o.bounds ⟨⟨#[]⟩,m.aJ[i].scalar,0,m.aJ[i].aZ,m.aJ[i].ad,0⟩ m.scalars).1=aZ)∧(o.bounds ⟨⟨#[]⟩,m.aJ[i].scalar,0,m.aJ[i].aZ,m.aJ[i].ad,0⟩ m.scalars).2=cP:=by
  rw[jN,Bz,show o.eM m.aJ[i].scalar m.aJ[i].aZ m.aJ[i].ad m.scalars=_ from o.AA ⟨⟨#[]⟩,m.aJ[i].scalar,0,m.aJ[i].aZ,m.aJ[i].ad,0⟩ m.scalars];exact⟨rfl,rfl⟩
 rw[PI.1,PI.2];have ZT:=aR.obj da;replace aO:=aO.ext Flat.ext aR;have b3:=bQ.trans aR;refine al ?_;refine K.DA [1,7,8,9] (fun x:Nat=>[(10,.int .i64 ((x:Int)+1))]) 0 (fun x W=>Ext bq W∧(x:Int)≤m.aJ[i].cap∧∀j (h:j+1<l.length),j<x→((j:Int)<l[0]→aZ≤l[j+1]∧l[j+1]≤cP)∧(l[0]≤j→l[j+1]=0)) (fun x=>(m.aJ[i].cap - x).toNat) bB ⟨Ext.refl _,by omega,fun j _ h=>absurd h (Nat.not_lt_zero _)⟩ ?_;clear aq da;rintro k S bS ⟨bj,hk,c9⟩;have da:=bj.obj ZT;have cc:=b3.trans bj;replace aO:=aO.ext Flat.ext bj;refine al ?_;apply K.cond<;>intro g3
 ·have eO:k+1<l.length:=by omega
  have bad:¬(((k:Int)<l[0]→aZ≤l[k+1]∧l[k+1]≤cP)∧(l[0]≤k→l[k+1]=0))→(false=true↔o.lT m.scalars m.aJ[i] l):=fun h=>by
   simp only[Bool.false_eq_true,false_iff];exact fun c7=>h ((aB.1 c7).2.2 k eO)
  refine al ?_;refine K.dk 0 rfl (by omega) ?_;refine al ?_;apply K.cond<;>intro g4
  ·refine al ?_;apply K.cond<;>intro g5
   ·refine al ?_;exact⟨⟨false,rfl,bad fun h=>by have:=h.1 (by omega);omega⟩,cc⟩
   refine al ?_;apply K.cond<;>intro g6
   ·refine al ?_;exact⟨⟨false,rfl,bad fun h=>by have:=h.1 (by omega);omega⟩,cc⟩
   refine al ?_;refine K.dk 0 rfl (by omega) ?_;refine al ?_;exact⟨k+1,bB,⟨bj,by omega,fun j h aU=>by
    by_cases hC:j=k
    ·subst hC;exact⟨fun _=>by omega,fun _=>by omega⟩
    ·exact c9 j h (by omega)⟩,by omega⟩
  ·refine al ?_;refine K.dk 0 rfl (by omega) ?_;refine al ?_;apply K.cond<;>intro g5
   ·refine al ?_;exact⟨k+1,bB,⟨bj,by omega,fun j h aU=>by
     by_cases hC:j=k
     ·subst hC;exact⟨fun _=>by omega,fun _=>by omega⟩
     ·exact c9 j h (by omega)⟩,by omega⟩
   ·refine al ?_;exact⟨⟨false,rfl,bad fun h=>by have:=h.2 (by omega);omega⟩,cc⟩
 ·refine al ?_;exact⟨⟨true,rfl,by simp only[true_iff];exact aB.2 ⟨by omega,by omega,fun j h=>c9 j h (by omega)⟩⟩,cc⟩
theorem aeY(xs:List Value)(m:o.Model)(v:Value)(s:List Int)(w:World)(dE:o.jr w xs (o.layout m))(bg:o.eI m)(ay:e4 w v s)(aP:s.length=o.fH m) :
  bu Tryz.prog F.CG #[.agg xs.toArray,v] w fun u w'=>(∃t:Bool,u = .bool t∧(t=true↔∀i (h:i<s.length) (bA:i<(o.b1 m).length),(o.b1 m)[i].aZ≤s[i]∧s[i]≤(o.b1 m)[i].ad))∧Ext w w':=by
 obtain⟨jW,d0,lK,d1,lL,d2,mi,d3,lM,d4,rfl,gW,fr,fL,hp,jS⟩:=dE.form;obtain⟨e1,fu,rfl,fQ⟩:=ay.form;have YH:(o.layout m).cells=(o.fH m:Int):=rfl;have f2:=o.SJ m;have f3:=o.SH m;have oZ:o.fH m≤64:=o.mJ bg;have yR:(o.b1 m).length=s.length:=aP.symm;refine bM E.CG ?_;refine bF ?_;refine al ?_;intro av bC cL aA aq;have o0:=aq;clear aq;replace ay:=ay.ext Flat.ext aA;replace hp:=hp.ext Flat.ext aA;replace jS:=jS.ext Flat.ext aA;refine al ?_;refine K.df 5 s.length [1,2] (fun _:Unit=>[]) () (fun k _ W=>Ext av W∧∀j (h:j<s.length) (bA:j<(o.b1 m).length),j<k→(o.b1 m)[j].aZ≤s[j]∧s[j]≤(o.b1 m)[j].ad) bB bB ⟨Ext.refl _,fun j _ _ h=>absurd h (Nat.not_lt_zero _)⟩ ?_;rintro k _ S aT hk ⟨aC,c9⟩;have aq:=aC.obj o0;refine al ?_;apply K.cond<;>intro g3
 ·have bh:k<s.length:=by omega
  have wK:k<(o.b1 m).length:=by omega
  have dV:(o.layout m).aZ[k]'(by omega)=(o.b1 m)[k].aZ:=o.SI _ wK;have eo:(o.layout m).ad[k]'(by omega)=(o.b1 m)[k].ad:=o.SG _ wK;obtain⟨oR,rfl⟩:=ay.addr (by omega);obtain⟨a3,rfl⟩:=hp.addr (by omega);obtain⟨a4,rfl⟩:=jS.addr (by omega);have bad:¬((o.b1 m)[k].aZ≤s[k]∧s[k]≤(o.b1 m)[k].ad)→(false=true↔∀i (h:i<s.length) (bA:i<(o.b1 m).length),(o.b1 m)[i].aZ≤s[i]∧s[i]≤(o.b1 m)[i].ad):=fun h=>by
   simp only[Bool.false_eq_true,false_iff];exact fun c7=>h (c7 k bh wK)
  have ba:=aA.trans aC;refine al ?_;apply K.cond<;>intro g4
  ·refine al ?_;intro bf aw;refine al ?_;exact⟨⟨false,rfl,bad (by omega)⟩,ba.trans aw⟩
  refine al ?_;intro bf aw;apply K.cond<;>intro g5
  ·refine al ?_;exact⟨⟨false,rfl,bad (by omega)⟩,ba.trans aw⟩
  refine al ?_;refine⟨bh,bw,(),trivial,aC.trans aw,fun j h bA aU=>?_⟩;by_cases hC:j=k
  ·subst hC;omega
  ·exact c9 j h bA (by omega)
 ·refine al ?_;exact⟨⟨true,rfl,by simp only[true_iff];exact fun j h bA=>c9 j h bA (by omega)⟩,aA.trans aC⟩
theorem TH(cs xs:List Value)(m:o.Model)(v:Value)(s:List Int)(w:World)(h:o.er w cs m)(dE:o.jr w xs (o.layout m))(bg:o.eI m)(ay:e4 w v s) :
  bu Tryz.prog F.zj #[.agg cs.toArray,.agg xs.toArray,v] w fun u w'=>(∃t:Bool,u = .bool t∧(t=true↔o.Fits m s))∧Ext w w':=by
 have fP:=h;have rq:=dE;obtain⟨cy,bO,b9,c1,ch,c2,cm,bN,cA,bT,rfl,aj,h1,U,ag,aK,eG,du,dF,dV,eo⟩:=h.form;obtain⟨jW,d0,lK,d1,lL,d2,mi,d3,lM,d4,rfl,gW,fr,fL,hp,jS⟩:=dE.form;obtain⟨e1,fu,rfl,fQ⟩:=ay.form;have YH:(o.layout m).cells=(o.fH m:Int):=rfl;have oZ:o.fH m≤64:=o.mJ bg;have gU:=bg.gU;refine bM E.zj ?_;refine bF ?_;refine al ?_;intro av bC cL aA aq;refine al ?_;intro aT ca dB aC aM;replace aq:=aC.obj aq;have ba:=aA.trans aC;replace ay:=ay.ext Flat.ext ba;refine al ?_;apply K.cond<;>intro g1;rotate_left
 ·refine al ?_;exact⟨⟨false,rfl,by simp only[Bool.false_eq_true,false_iff];intro h;have:=h.len;omega⟩,ba⟩
 have aP:s.length=o.fH m:=by omega
 have o0:=aq;have Bo:=aM;clear aq aM;refine al ?_;refine K.df 7 m.aJ.length [2,3,4] (fun _:Unit=>[]) () (fun k _ W=>Ext aT W∧∀j (h:j<m.aJ.length),j<k→o.lT m.scalars m.aJ[j] (o.nK m j m.aJ[j] s)) bB bB ⟨Ext.refl _,fun j _ h=>absurd h (Nat.not_lt_zero _)⟩ ?_;rintro k _ S bf hk ⟨aw,c9⟩;have aq:=aw.obj o0;have aM:=aw.obj Bo;have bQ:=ba.trans aw;have hj:=ay.ext Flat.ext aw;refine al ?_;apply K.cond<;>intro g2
 ·have bh:k<m.aJ.length:=by omega
  obtain⟨lr,e3⟩:=o.vW bh;have nY:=o.yh bh;have gA:=o.pD m;have hz:=(bg.chan _ (List.getElem_mem bh)).cap;obtain⟨dy,rfl⟩:=fr.addr (by omega);obtain⟨a2,rfl⟩:=U.addr (by omega);have ajt:=fr.ext Flat.ext bQ;have et:=((U.at k bh).cells).ext bQ;refine al ?_;refine K.Gi (k:=.i64) (k':=.i64) (o.cZ m k) (o.cZ m k+(1+m.aJ[k].cap.toNat)) hj (by simp[fv,cd,e3]) (by simp[fv,cd,e3];omega) (by omega) (by omega) fun au c aO=>?_;rw[show o.cZ m k+(1+m.aJ[k].cap.toNat) - o.cZ m k=1+m.aJ[k].cap.toNat from by omega] at aO ⊢;replace aO:bz 1 (Flat dA) bf (.slice au (1+m.aJ[k].cap.toNat) c) (o.nK m k m.aJ[k] s):=aO;refine al ?_;refine K.gn (.bool (o.C3 m.scalars m.aJ[k] (o.nK m k m.aJ[k] s))) (fun w' e=>(aeA _ m _ _ k w' (fP.ext (bQ.trans e)) bg bh (aO.ext Flat.ext e) aO.len.1.symm).mono fun u bZ ⟨⟨t,aL,aB⟩,he⟩=>⟨by rw[aL,o.aek aB],he⟩) ?_;refine al ?_;intro bq aR;refine K.c4 (fun aB=>?_) (fun aB=>?_)
  ·refine al ?_;refine⟨bh,bw,(),trivial,aw.trans aR,fun j h aU=>?_⟩;by_cases hC:j=k
   ·subst hC;exact o.KC.1 aB
   ·exact c9 j h (by omega)
  ·refine al ?_;exact⟨⟨false,rfl,by simp only[Bool.false_eq_true,false_iff];intro h;have:=o.KC.2 (h.queue k bh);rw[aB] at this;cases this⟩,bQ.trans aR⟩
 ·refine al ?_;refine K.call (aeY _ m _ s bf (rq.ext bQ) bg hj aP) ?_;rintro _ bq ⟨⟨t,rfl,aL⟩,aR⟩;refine al ?_;exact⟨⟨t,rfl,aL.trans ⟨fun h=>⟨aP,fun j aU=>c9 j aU (by omega),h⟩,fun h=>h.cell⟩⟩,bQ.trans aR⟩
theorem KF(cs:List Value)(m:o.Model)(v:Value)(s:List Int)(w:World)(h:o.er w cs m)(a8:m.cX)(ay:e4 w v s) :
  bu Tryz.prog F.xb #[.agg cs.toArray,v] w fun u w'=>(∃t:Bool,u = .bool t∧(t=true↔o.pw m s))∧Ext w w':=by
 have bg:=h;obtain⟨cy,bO,b9,c1,ch,c2,cm,bN,cA,bT,rfl,_⟩:=h.form;obtain⟨e1,fu,rfl,fQ⟩:=ay.form;refine bM E.xb ?_;refine bF ?_;refine al ?_;intro av bC cL aA aq;refine al ?_;intro aT aC;replace aq:=aC.obj aq;have ba:=aA.trans aC;refine al ?_;refine K.call (acV _ m aT (bg.ext ba) a8) ?_;rintro _ bf ⟨rfl,aw⟩;have bQ:=ba.trans aw;refine⟨aw,?_⟩;by_cases hk:(o.check m).dp=0
 ·rw[decide_eq_true hk];refine al ?_;refine K.call (aeM _ m bf (bg.ext bQ) a8) ?_;rintro _ bq ⟨⟨xs,rfl,dE⟩,aR⟩;replace dE:=dE.here;rw[o.Ca hk] at dE;have b3:=bQ.trans aR;refine⟨aw.trans aR,?_⟩;refine al ?_;refine K.call (TH _ _ m _ s bq (bg.ext b3) dE (o.qO hk) (ay.ext Flat.ext b3)) ?_;rintro _ bS ⟨⟨t,rfl,aL⟩,bj⟩;refine al ?_;exact⟨⟨t,by cases t<;>rfl,aL.trans ⟨fun h=>⟨hk,h⟩,fun h=>h.2⟩⟩,b3.trans bj⟩
 ·rw[decide_eq_false hk];refine al ?_;exact⟨⟨false,rfl,by simp only[Bool.false_eq_true,false_iff];exact fun h=>hk h.1⟩,bQ⟩
end Go.Proofs.R
end
section
namespace bt
open Go Go.RowKit
def ns(l:List Int):List Value:=l.map (Value.int .i64)
theorem abQ(l:List Int):(ns l).length=l.length:=by simp[ns]
theorem abR{l:List Int}{d j:Nat}{x:Int}(aU:j=d)(h:j<(ns l).toArray.size):(ns l).toArray.set j (.int .i64 x) h=(ns (l.set d x)).toArray:=by
 subst aU;simp[ns,List.map_set]
theorem agP(n:Nat):r5 (Value.int .i64 0).cells (n*1)=(ns (List.replicate n 0)).toArray:=by
 apply Array.ext_getElem?;intro i;by_cases h:i<n
 ·simp[r5,ns,Value.cells,h,Nat.mod_one]
 ·simp[r5,ns,h]
theorem K.ac2{c6:Value→World→Prop}{w:World}{e:TypeId}{n:Int}{t}(N:Nat)(aI:n=N)(aD:N≤1000000)(hk:∀av b,w.heap.size≤b→Ext w av→av.heap[b]? = some (.cells (ns (List.replicate N 0)).toArray e)→c6 (.slice (some ⟨b,0,none⟩) N N) av) :
  Af e 1 8 (.int .i64 0) (.int .i64 n) (.int .i64 n) w c6 t:=by
 subst aI;refine K.va ⟨by omega,by omega,by omega,by omega⟩ ?_;have h:=hk (w.alloc (.cells (ns (List.replicate N 0)).toArray e)) _ (Nat.le_refl _) ((Ext.refl w).alloc _) (heap_alloc_new w _);rw[Int.toNat_natCast,agP];exact h
theorem JT:∀l:List Int,ns l=l.flatMap dA
 | []=>rfl
 | x :: r=>by
  have:=JT r
  simp only[ns,List.map_cons,List.flatMap_cons] at this ⊢;rw[this];rfl
theorem adm{w:World}{b n:Nat}{e:TypeId}{l:List Int}(h:w.heap[b]? = some (.cells (ns l).toArray e))(aI:n=l.length)(hm:l.length≤maxLen):bz 1 (Flat dA) w (.slice (some ⟨b,0,none⟩) n n) l :=
 bz.aW (enc:=dA) (fun _=>rfl) (by rw[h,JT]) aI hm fun _ _ _ h=>h
end bt
namespace Go.Proofs.R
open Go Go.RowKit bt
def D7(w:World)(a:Addr)(l:List Int):Prop := ∃v,w.cell? a=some v∧e4 w v l
abbrev Ah(w:World)(v:Value)(l:List (List Int)):Prop:=bz 1 D7 w v l
theorem aex(cs ys:List Value)(v:Value)(m:o.Model)(s:List Int)(p:Nat)(w:World)(h:o.er w cs m)(a8:m.cX)(bg:o.eI m)(dE:o.jr w ys (o.layout m))(ay:e4 w v s)(aN:o.Fits m s)(aO:p<m.procs.length) :
  bu Tryz.prog F.CE #[.agg cs.toArray,.agg ys.toArray,v,.int .i64 p] w fun u w'=>bs dA T.a 1 w.heap.size w' u (o.jc m s p m.procs[p].cz (o.insts m).length)∧Ext w w':=by
 have fP:=h;obtain⟨cy,bO,b9,c1,ch,c2,cm,bN,cA,bT,rfl,aj,h1,U,ag,aK,eG,du,dF,dV,eo⟩:=h.form;obtain⟨jW,d0,lK,d1,lL,d2,mi,d3,lM,d4,rfl,gW,fr,fL,hp,jS,gO,ez,gd,iS⟩:=dE.form;obtain⟨e1,fu,rfl,fQ⟩:=ay.form;have hlen:=aN.len;have oZ:o.fH m≤64:=o.mJ bg;have pJ:(o.insts m).length≤30:=by have:=o.ta m;have:=bg.procs;omega
 have dh:=bg.proc _ (List.getElem_mem aO);have Ru:=dh.cz;obtain⟨f6,f7,f8⟩:=o.J2 m;obtain⟨a,rfl⟩:=ag.addr (by omega);obtain⟨oa,ct,dM,ej,eJ,hi⟩:=ag.at p aO;refine bM E.CE ?_;refine bF ?_;refine al ?_;intro av bC cL aA aq;refine al ?_;intro aT ca dB aC aM;replace aq:=aC.obj aq;have ba:=aA.trans aC;replace ej:=ej.ext ba;unfold o.dj.enc at ej;refine al ?_;refine K.ac2 m.procs[p].cz.toNat (by omega) (by omega) ?_;intro bf ue ZI aw l3;rw[←o.Wl m s p] at l3;replace aq:=aw.obj aq;replace aM:=aw.obj aM;have bQ:=ba.trans aw;have z2:=ba.size;clear ej;refine al ?_;refine K.call (Da _ m bf (fP.ext bQ) a8) ?_;rintro cr oz ⟨fm,rB⟩;obtain⟨eu,ci,rfl,_⟩:=fm.form;replace aM:=rB.obj aM;replace l3:=rB.obj l3;have jl:ue≠ca:=by
  intro e;subst e;rw[aM] at l3;injection l3 with l3;injection l3 with _ l3;revert l3;decide
 have aaz:∀{W},Mod (fun k=>k=ue) oz W→dW [T.a] oz W:=fun h=>dW.mod h fun k c t ax a=>by
  subst a;rw[l3] at ax;injection ax with ax;injection ax with _ ax;rw[←ax];simp
 have I9:∀{W:World},Mod (fun k=>k=ue) oz W→oE W (.slice eu (o.insts m).length ci) (o.insts m):=fun k=>bs.lH (enc:=o.c3.enc) (fun _=>rfl) (fm.hl (aaz k) (by decide));have hV:∀{W},Mod (fun k=>k=ue) oz W→W.heap[ca]? = oz.heap[ca]? := fun h=>h.block _ (cM aM) (Ne.symm jl);have e9:∀{W},Mod (fun k=>k=ue) oz W→Ext aT W:=fun h=>h.ext (aw.trans rB) fun i ad e=>by omega
 rw[aM] at hV;clear aq aM;refine al ?_;refine K.df 11 (o.insts m).length [2,3,5,9,10] (fun _:Unit=>[]) () (fun k _ W=>Mod (fun i=>i=ue) oz W∧W.heap[ue]? = some (.cells (ns (o.jc m s p m.procs[p].cz k)).toArray T.a)) bB bB ⟨Mod.refl _ _,l3⟩ ?_;clear l3;rintro k _ S bq bh ⟨hm,l3⟩;have aM:=hV hm;have fw:=I9 hm;have b3:=ba.trans (e9 hm);refine al ?_;apply K.cond<;>intro g1
 ·have eO:k<(o.insts m).length:=by omega
  obtain⟨lY,rfl⟩:=fw.addr (by omega);have wN:=o.qK _ (List.getElem_mem eO);obtain⟨q,aB,aa0,ru⟩:=o.B5 wN;have Ra:(o.insts m)[k]?.map (·.proc)=some (q:Int):=by rw[List.getElem?_eq_getElem eO,Option.map_some,aa0]
  obtain⟨d,RQ,ahY⟩:=aN.loc eO aB ru;obtain⟨lB,RR⟩:=List.getElem?_eq_some_iff.1 RQ;obtain⟨aiu,od⟩:=o.wU eO;obtain⟨oR,rfl⟩:=ay.addr (by omega);obtain⟨a2,rfl⟩:=fL.addr (by omega);have l6:=ay.ext Flat.ext b3;have C4:=fL.ext Flat.ext b3;refine al ?_;apply K.cond<;>intro g2
  ·have aa1:q=p:=by omega
   subst aa1;have hA:d<m.procs[q].cz.toNat:=by omega
   have lA:=o.vQ m s q m.procs[q].cz k;have aa6:=o.Ej (m:=m) (s:=s) (p:=q) (k:=k) hA;have fa:=o.OT m s q d k;refine al ?_;refine K.dk (o.dx m k) (by rw[od]) (by rw[hlen];omega) ?_;refine al ?_;have yX:e4 bq (.slice (some ⟨ue,0,none⟩) m.procs[q].cz.toNat m.procs[q].cz.toNat) (o.jc m s q m.procs[q].cz k):=adm l3 lA.symm (by rw[lA];unfold maxLen;omega);have QW:d<(o.jc m s q m.procs[q].cz k).length:=by omega
   obtain⟨_,aa7⟩:=List.getElem?_eq_some_iff.1 aa6;refine K.dk d RR hA ?_;refine al ?_;rw[aa7];refine al ?_;refine K.dk d RR hA ?_;refine al ?_;refine K.st1 l3 (by rw[List.size_toArray,abQ];omega) rfl fun bS fx cC=>?_;rw[abR (Nat.mul_one _),←o.Wk Ra RQ hA] at cC;refine al ?_;exact⟨by omega,bw,(),trivial,hm.trans (fx.mod rfl),cC⟩
  ·refine al ?_;refine⟨eO,bw,(),trivial,hm,?_⟩;rw[o.Wj (by rw[Ra];intro e;have:=Option.some.inj e;omega)];exact l3
 ·have BF:(o.insts m).length=k:=by omega
  refine al ?_;exact⟨by rw[BF];exact bs.low ba.size (bs.Eo _ l3 ZI (JT _) (fun _=>rfl) (o.vQ _ _ _ _ _).symm (by rw[o.vQ];unfold maxLen;omega)),b3⟩
end Go.Proofs.R
end
section
namespace bt
open Go Go.RowKit
section
variable{P:Program}{c6:Value→World→Prop}{e:TypeId}{sz base:Nat}{w:World}{s x:Value}{xs ys:List (nD sz)}
theorem K.OQ{ty:TypeId}{b:Nat}{t}(ay:tV e sz base w s xs)(ar:bz sz (Flat rj) w x ys)(aD:(xs.length+ys.length)*b≤140737488355328)(jA:xs.length+ys.length≤maxLen)(iP:base≤w.heap.size)
  (hk:∀b8 w',tV e sz base w' b8 (xs++ys)→w.grownBy w' s.ownBlock→c6 b8 w'):ki P ty e sz b s x w c6 t:=by
 obtain⟨bl,cap,rfl,h1,U,ag,aK⟩:=ar.ex;cases bl with
 | some a=>exact K.ud ay ur (bz.flat ur (fun _ _ h=>h) ⟨some a,cap,rfl,h1,U,ag,aK⟩) rfl HZ aD jA iP fun b8 w' bc bD _=>hk b8 w' bc bD
 | none =>
  have:ys=[]:=Classical.byContradiction fun aI=>by have:=ag aI;cases this
  subst this;rw[List.append_nil] at hk;refine K.app fun⟨aL,i,z,ad,bU,yY,yE,wT,FF⟩=>?_;refine⟨ty,s,w,?_,hk s w ay ⟨rfl,rfl,rfl,Nat.le_refl _,fun _ _ _=>rfl⟩⟩;rcases ay.2 with ⟨rfl,aj⟩ | ⟨g,cap,cur,rfl,_,_,BL,_⟩
  ·simp[Builtin.append_,run_underlying aL,Go.sizeOf,typeInfo,ad,Builtin.lenOf,Builtin.firstCells]
  ·simp[Builtin.append_,run_underlying aL,Go.sizeOf,typeInfo,ad,Builtin.lenOf,Builtin.firstCells,BL,storeCells]
end
end bt
end
section
namespace bt
open Go Go.RowKit
structure agY{α:Type}(C:World→List Value→α→Prop)(e:TypeId)(sz base:Nat)(v:Value)(w0 ws:World)(xs:List α)(k:Nat)(x:List (nD sz))(W:World):Prop where
 m:Mod (fun i=>v.ownBlock=some i) ws W
 aW:∀i,v.ownBlock=some i→base≤i∧i<ws.heap.size∧∃cur,ws.heap[i]? = some (.cells cur e)
 len:x.length=xs.length
 own:tV e sz base W v x
 new:∀i (h1:i<x.length) (U:i<xs.length),i<k→ga (fun j=>j<ws.heap.size) (fun w=>C w x[i].1 xs[i]) W
 kM:∀i (h1:i<x.length) (U:i<xs.length),k≤i→C w0 x[i].1 xs[i]
theorem K.XK{α:Type}{P:Program}{c6:Value→World→Prop}{R:World→Addr→α→Prop}{C:World→List Value→α→Prop}{e:TypeId}{sz:Nat}[Rel R C sz]{w0 w mh:World}{x:Value}{xs:List α}{ty:TypeId}{b vS:Nat}{t}
  (ar:bz sz R w0 x xs)(dw:Ext w0 w)(E5:w.heap.size≤vS)(wH:Ext w mh)(Fa:mh.heap[vS]? = some (.cells #[] e))(aN:∀{w w':World} {cs x},C w cs x→C w' cs x)(aD:xs.length*b≤140737488355328)
  (hk:∀bl c w',ev w (fun w=>bz sz R w (.slice bl xs.length c) xs) w'→Ext w w'→Mod (fun i=>i=vS) mh w'→c6 (.slice bl xs.length c) w'):ki P ty e sz b (.slice (some ⟨vS,0,none⟩) 0 0) x mh c6 t:=by
 obtain⟨eF,aP,nZ,cK⟩:=ar.cells;have a1:tV e sz w.heap.size mh (.slice (some ⟨vS,0,none⟩) 0 0) []:=bs.empty E5 Fa;have hm:eF.length≤maxLen:=by obtain⟨_,_,_,h1,U,_⟩:=nZ.ex;omega
 refine K.OQ a1 (bz.ext Flat.ext (dw.trans wH) nZ) (by rw[List.length_nil,Nat.zero_add,aP];exact aD) (by rw[List.length_nil,Nat.zero_add];exact hm) wH.size fun b8 w' k0 a8=>?_;rw[List.nil_append] at k0;have aI:ev w (fun w=>bz sz R w b8 xs) w':=ev.clone (R:=R) aP k0 aN fun i h1 U=>aN (cK i h1 U);obtain⟨bl,c,rfl,_⟩:=aI.here.form;exact hk bl c w' aI (bs.mv a1 wH a8 (Nat.le_refl _)) (Mod.grown (A:=fun i=>i=vS) a8 fun k q=>by injection q with q;exact q.symm)
end bt
end
section
namespace Go.Proofs.R
open Go Go.RowKit bt
def G8(w:World)(cs:List Value)(l:List Int):Prop := ∃v,cs=[v]∧e4 w v l
instance aiQ:Rel D7 G8 1 where
 out h:=by
  obtain⟨v,h1,U⟩:=h;exact⟨[v],fun j u aU=>by cases j with | zero=>simp at aU;subst aU;rw[add_zero];exact h1 | succ j=>simp at aU,v,rfl,U⟩
 og h k:=by
  obtain⟨v,rfl,k⟩:=k
  have:=h 0 v rfl
  rw[add_zero] at this;exact⟨v,this,k⟩
 len h:=by obtain⟨v,rfl,_⟩:=h;rfl
 one h:=by obtain⟨v,rfl,h⟩:=h;simpa using h.one
 ext e h:=let ⟨v,h1,U⟩:=h; ⟨v,h1,U.ext Flat.ext e⟩
def VB(_:World)(cs:List Value)(x:Int):Prop:=cs=dA x
instance aiP:Rel (Flat dA) VB 1 where
 out h:=⟨_,h,rfl⟩
 og h k:=by cases k;exact h
 len h:=by cases h;rfl
 one h:=by cases h;exact j4 _
 ext _ h:=h
theorem _root_.bt.Mod.own{A:Nat→Prop}{a b c:World}{v:Value}(h:Mod A a b)(a8:b.grownBy c v.ownBlock)(aS:∀k,v.ownBlock=some k→a.heap.size≤k):Mod A a c :=
 h.comp (Mod.grown (A:=fun k=>v.ownBlock=some k) a8 fun k hk=>hk) (fun _ _ a=>a) fun i ad e=>by have:=aS i e;omega
structure Mm(w:World)(cs:List Value)(x:o.Env):Prop where
 ex:∃v0 v1 v2 v3,cs=[v0,v1,v2,v3,.int .i64 x.self]∧Ah w v0 x.vars∧e4 w v1 x.lens∧e4 w v2 x.locals∧Ah w v3 x.at_
end Go.Proofs.R
namespace o
open Go
theorem K4(m:Model)(s:List Int)(inst:Int):(cS m s inst).vars.length=m.vars.length:=by simp[cS]
theorem Gn{m:Model}{s:List Int}{inst:Int}{k:Nat}(h:k<m.vars.length):(cS m s inst).vars[k]? = some ((s.drop (hM m k)).take (cells m.vars[k] m.scalars).toNat):=by
 have e:(cG m)[k]!.length=(cells m.vars[k] m.scalars).toNat:=by
  have bA:k<(cG m).length:=by simpa[cG] using h
  rw[getElem!_pos (cG m) k bA];simp[cG,zQ]
 simp only[cS,List.getElem?_map,List.getElem?_range h,Option.map_some,e]
theorem UD(m:Model)(s:List Int)(inst:Int):(cS m s inst).lens.length=m.aJ.length:=by simp[cS]
theorem afU{m:Model}{s:List Int}{inst:Int}{k:Nat}(h:k<m.aJ.length)(ay:cZ m k<s.length):(cS m s inst).lens[k]? = some s[cZ m k]:=by
 simp only[cS,List.getElem?_map,List.getElem?_range h,Option.map_some];rw[getElem!_pos s (cZ m k) ay]
theorem K3{m:Model}{s:List Int}{inst:Int}(h:inst<0):(cS m s inst).locals=[]∧(cS m s inst).self=0:=by
 simp only[cS,zI,gQ (.inl h),and_self]
theorem vo{m:Model}(s:List Int){q n:Nat}(h:q<(insts m).length)(aI:n=(ka m (insts m)[q]).length - 1):(cS m s q).locals=(s.drop (dx m q+1)).take n∧(cS m s q).self=(insts m)[q].elem:=by
 simp only[cS,zI,hX (show(0:Int)≤q by omega) (show(q:Int)<(insts m).length by omega),Int.toNat_natCast,aI,and_self]
theorem UC(m:Model)(s:List Int)(inst:Int):(cS m s inst).at_.length=m.procs.length:=by simp[cS]
theorem afT{m:Model}{s:List Int}{inst:Int}{k:Nat}(h:k<m.procs.length):(cS m s inst).at_[k]? = some (jc m s k m.procs[k].cz (insts m).length):=by
 simp only[cS,List.getElem?_map,List.getElem?_range h,Option.map_some,List.getElem?_eq_getElem h,Option.getD_some]
end o
namespace Go.Proofs.R
open Go Go.RowKit bt
theorem T6(cs ys:List Value)(v:Value)(m:o.Model)(s:List Int)(inst:Int)(w:World)(h:o.er w cs m)(a8:m.cX)(bg:o.eI m)(dE:o.jr w ys (o.layout m))(ay:e4 w v s)(aN:o.Fits m s)(h1 : -1≤inst)(U:inst<(o.insts m).length) :
  bu Tryz.prog F.zk #[.agg cs.toArray,.agg ys.toArray,v,.int .i64 inst] w fun u w'=>(∃es,u = .agg es.toArray∧ev w (fun w=>Mm w es (o.cS m s inst)) w')∧Ext w w':=by
 have fP:=h;have rq:=dE;have abc:=ay;obtain⟨cy,bO,b9,c1,ch,c2,cm,bN,cA,bT,rfl,aj,h1,U,ag,aK,eG,du,dF,dV,eo⟩:=h.form;obtain⟨jW,d0,lK,d1,lL,d2,mi,d3,lM,d4,rfl,gW,fr,fL,hp,jS⟩:=dE.form;obtain⟨e1,fu,rfl,fQ⟩:=ay.form;have hlen:=aN.len;have oZ:o.fH m≤64:=o.mJ bg;have gU:=bg.gU;have pJ:(o.insts m).length≤30:=by have:=o.ta m;have:=bg.procs;omega
 refine bM E.zk ?_;refine bF ?_;refine al ?_;intro av bC cL aA aq;refine al ?_;intro aT ca dB aC aM;replace aq:=aC.obj aq;refine al ?_;intro bf b5 fU aw bK;replace aq:=aw.obj aq;replace aM:=aw.obj aM;have bQ:=(aA.trans aC).trans aw;refine al ?_;refine K.call (Da _ m bf (fP.ext bQ) a8) ?_;rintro cr bq ⟨fm,aR⟩;obtain⟨eu,ci,rfl,_⟩:=fm.form;have fw:oE bq _ _:=bs.lH (enc:=o.c3.enc) (fun _=>rfl) fm;replace aq:=aR.obj aq;replace aM:=aR.obj aM;replace bK:=aR.obj bK;have b3:=bQ.trans aR;refine al ?_;intro bS ks ahK bj gN;have pN:∀{W},Ext bq W→W.heap[bC]? = _:=fun e=>e.obj aq;have hV:∀{W},Ext bq W→W.heap[ca]? = _:=fun e=>e.obj aM;have agO:=cM gN;have Bb:∀{W},Mod (fun i=>i=ks) bS W→Ext bq W:=fun h=>h.ext bj fun i ad e=>by omega
 refine K.df 11 m.vars.length [2,3,4,5,8,9,10] (fun _:gj=>[]) (none,0,0) (fun k v W=>(Mod (fun i=>i=ks) bS W∧W.heap[ks]? = some (.cells #[.slice v.1 v.2.1 v.2.2,.slice none 0 0,.slice none 0 0,.slice none 0 0,.int .i64 0] T.v))∧fs G8 T.b 1 bS.heap.size W (.slice v.1 v.2.1 v.2.2) (((o.cS m s inst).vars).take k)) bB bB ⟨⟨Mod.refl _ _,gN⟩,by simpa using fs.nil _ _ _ _ _⟩ ?_;clear gN;rintro k v S bX hk ⟨⟨qE,gN⟩,dn⟩;have aq:=pN (Bb qE);have aM:=hV (Bb qE);have kj:=b3.trans (Bb qE);refine al ?_;apply K.cond<;>intro g1
 ·have eO:k<m.vars.length:=by omega
  obtain⟨a,rfl⟩:=h1.addr (by omega);have fa:=o.sm m.vars[k] m.scalars;have nY:=o.tK eO;have gA:=o.pD m;obtain⟨fm,od⟩:=o.Gy eO;have et:=((h1.at k eO).cells).ext kj;refine al ?_;refine K.gn _ (fun w' e=>KM m.vars[k] _ m.scalars w' (aj.ext (kj.trans e))) ?_;refine al ?_;intro cn bR;replace aq:=bR.obj aq;replace aM:=bR.obj aM;replace gN:=bR.obj gN;have dX:=dn.ext bR;have gI:=kj.trans bR;have kE:Mod (fun i=>i=ks) bS cn:=qE.trans bR.mod;have iQ:=ay.ext Flat.ext gI;have TC:=gW.ext Flat.ext gI;obtain⟨a0,rfl⟩:=gW.addr (by omega);clear et;refine al ?_;intro dv bW;replace aq:=bW.obj aq;replace aM:=bW.obj aM;replace gN:=bW.obj gN;have h9:=dX.ext bW;have jX:=gI.trans bW;have n4:Mod (fun i=>i=ks) bS dv:=kE.trans bW.mod;have BV:=iQ.ext Flat.ext bW;have ajs:=TC.ext Flat.ext bW;clear iQ TC dn dX;refine al ?_;refine K.Gi (k:=.i64) (k':=.i64) (o.hM m k) (o.hM m k+(o.cells m.vars[k] m.scalars).toNat) BV (by simp[fv,cd,od]) (by simp[fv,cd,od];omega) (by omega) (by omega) fun au c aO=>?_;refine al ?_;intro eA iy kz cp dI;refine⟨cp,?_⟩;rw[show o.hM m k+(o.cells m.vars[k] m.scalars).toNat - o.hM m k=(o.cells m.vars[k] m.scalars).toNat from by omega] at aO ⊢;have B0:=o.Gn (s:=s) (inst:=inst) eO;refine K.XK aO (Ext.refl _) kz cp dI (fun h=>h) (by simp;omega) fun bl iz eR o4 dJ _=>?_;refine⟨dJ,?_⟩;refine al ?_;intro gH Hl ID hf nR;refine⟨dJ.trans hf,?_⟩;have z58:=n4.size;have aj1:=dJ.size;have GR:=hf.size;have mH:=h9.ext (dJ.trans hf);have cq:(((o.cS m s inst).vars).take k).length≤12:=by rw[List.length_take,o.K4];omega
  refine K.Av (x:=(s.drop (o.hM m k)).take (o.cells m.vars[k] m.scalars).toNat) (cs:=[.slice bl ((s.drop (o.hM m k)).take (o.cells m.vars[k] m.scalars).toNat).length iz]) mH (gK nR)
   (((ev.own o4 h9 (by omega)).imp fun w h=>⟨_,rfl,h⟩).ext hf fun i ad hk=>by have:=h9.under (by omega) i hk;omega) rfl (by simp[Value.oneCell']) (by omega) (by unfold maxLen;omega) (by omega) fun b8 kh bd Bw=>?_
  have Z0:=mH.box Bw ((dJ.trans hf).obj gN) (by decide);have uK:=((n4.trans dJ.mod).trans hf.mod).own Bw fun q aB=>(mH.lt q aB).1;obtain⟨jI,nJ,rfl,_⟩:=bd.form;clear gN o4 mH h9 nR dI aO;refine al ?_;intro oy j9 iD;refine al ?_;refine⟨eO,bw,(jI,_,nJ),trivial,⟨uK.trans (j9.mod rfl),iD⟩,?_⟩;rw[List.take_succ,B0];exact bd.wr j9 agO
 have kZ:m.vars.length=k:=by omega
 rw[List.take_of_length_le (by rw[o.K4];omega)] at dn;have ky:=dn.new (R:=D7);obtain⟨eD,kd,iz⟩:=v;have DG:=cM gN;have xI:=qE.size;have agU:=Bb qE;have EZ:∀{W},Mod (fun i=>i=ks) bX W→Ext bq W:=fun h=>Bb (qE.trans h);clear aq aM dn;refine al ?_;refine K.df 13 m.aJ.length [2,3,4,5,8,9,10] (fun _:gj=>[]) (none,0,0) (fun k v W=>(Mod (fun i=>i=ks) bX W∧W.heap[ks]? = some (.cells #[.slice eD kd iz,.slice v.1 v.2.1 v.2.2,.slice none 0 0,.slice none 0 0,.int .i64 0] T.v))∧bs dA T.a 1 bX.heap.size W (.slice v.1 v.2.1 v.2.2) (((o.cS m s inst).lens).take k)) bB bB ⟨⟨Mod.refl _ _,gN⟩,by simpa using bs.nil _ _ _ _ _⟩ ?_;clear gN;rintro k v S cn hk ⟨⟨kE,gN⟩,dX⟩;have aq:=pN (EZ kE);have aM:=hV (EZ kE);have gI:=b3.trans (EZ kE);refine al ?_;apply K.cond<;>intro g1
 ·have eO:k<m.aJ.length:=by omega
  have nY:=o.yh eO;have gA:=o.pD m;obtain⟨fm,e3⟩:=o.vW eO;obtain⟨dy,rfl⟩:=fr.addr (by omega);obtain⟨ag5,rfl⟩:=ay.addr (by omega);have iQ:=ay.ext Flat.ext gI;have TD:=fr.ext Flat.ext gI;refine al ?_;intro dv bW;replace aM:=bW.obj aM;replace gN:=bW.obj gN;have h9:=dX.ext bW;have n4:Mod (fun i=>i=ks) bX dv:=kE.trans bW.mod;have BV:=iQ.ext Flat.ext bW;have aju:=TD.ext Flat.ext bW;clear iQ TD dX aq;refine al ?_;refine K.dk (o.cZ m k) (by rw[e3]) (by omega) ?_;refine al ?_;intro eA iy kz cp dI;refine⟨cp,?_⟩;have fV:o.cZ m k<s.length:=by omega
  have B0:=o.afU (inst:=inst) eO fV;have ah8:(((o.cS m s inst).lens).take k).length≤12:=by rw[List.length_take,o.UD];omega
  have hh:=h9.ext cp;have Vi:=n4.size;have Vl:=cp.size;refine K.mr (y:=s[o.cZ m k]) hh dI rfl (fun _=>rfl) j4 (by omega) (by unfold maxLen;omega) (by omega) fun bl n c eR ly mG=>?_;have ahV:=hh.box mG (cp.obj gN) (by decide);have wL:=(n4.trans cp.mod).own mG fun q aB=>(hh.lt q aB).1;clear gN hh h9 dI;refine al ?_;intro gH ib nR;refine al ?_;refine⟨eO,bw,(bl,n,c),trivial,⟨wL.trans (ib.mod rfl),nR⟩,?_⟩;rw[List.take_succ,B0];exact ly.mod (ib.mod (A:=fun i=>i=ks) rfl) fun q aB e=>by have:=(ly.lt q aB).1;omega
 have yO:m.aJ.length=k:=by omega
 rw[List.take_of_length_le (by rw[o.UD];omega)] at dX;have Qz:ga (fun i=>i<bS.heap.size) (fun w=>Ah w (.slice eD kd iz) (o.cS m s inst).vars) cn:=ky.move kE (fun i _ e=>by omega) fun i _ e=>e;have Qu:ev bX (fun w=>e4 w (.slice v.1 v.2.1 v.2.2) (o.cS m s inst).lens) cn:=bs.new (fun _=>rfl) dX;clear ky;obtain⟨xC,iF,qo⟩:=v;have Vj:=cM gN;have z67:=kE.size;have E0:∀{W},Mod (fun i=>i=ks) cn W→Ext bq W:=fun h=>EZ (kE.trans h);clear aq aM dX;refine al ?_;refine K.df 14 m.procs.length [2,3,4,5,8,9,10] (fun _:gj=>[]) (none,0,0) (fun k v W=>(Mod (fun i=>i=ks) cn W∧W.heap[ks]? = some (.cells #[.slice eD kd iz,.slice xC iF qo,.slice none 0 0,.slice v.1 v.2.1 v.2.2,.int .i64 0] T.v))∧fs G8 T.b 1 cn.heap.size W (.slice v.1 v.2.1 v.2.2) (((o.cS m s inst).at_).take k)) bB bB ⟨⟨Mod.refl _ _,gN⟩,by simpa using fs.nil _ _ _ _ _⟩ ?_;clear gN;rintro k v S dv hk ⟨⟨n4,gN⟩,h9⟩;have aq:=pN (E0 n4);have aM:=hV (E0 n4);have jX:=b3.trans (E0 n4);refine al ?_;apply K.cond<;>intro g1
 ·have eO:k<m.procs.length:=by omega
  refine al ?_;intro eA cp;replace aq:=cp.obj aq;replace aM:=cp.obj aM;replace gN:=cp.obj gN;have hh:=h9.ext cp;have kk:=jX.trans cp;have uL:Mod (fun i=>i=ks) cn eA:=n4.trans cp.mod;clear h9;refine al ?_;refine K.call (aex _ _ _ m s k eA (fP.ext kk) a8 bg (rq.ext kk) (abc.ext Flat.ext kk) aN eO) ?_;rintro _ eR ⟨o4,dJ⟩;obtain⟨bl,iz,rfl,_⟩:=o4.form;replace o4:ev eA (fun w=>e4 w (.slice bl (o.jc m s k m.procs[k].cz (o.insts m).length).length iz) (o.jc m s k m.procs[k].cz (o.insts m).length)) eR:=bs.new (enc:=dA) (sz:=1) (fun _=>rfl) o4;refine⟨dJ,?_⟩;have B0:=o.afT (s:=s) (inst:=inst) eO;refine al ?_;intro gH Hl ID hf nR;refine⟨dJ.trans hf,?_⟩;have z79:=uL.size;have Ly:=dJ.size;have GR:=hf.size;have mH:=hh.ext (dJ.trans hf);have cq:(((o.cS m s inst).at_).take k).length≤12:=by rw[List.length_take,o.UC];have:=bg.procs;omega
  refine K.Av (x:=o.jc m s k m.procs[k].cz (o.insts m).length) (cs:=[.slice bl (o.jc m s k m.procs[k].cz (o.insts m).length).length iz]) mH (gK nR)
   (((ev.own o4 hh (by omega)).imp fun w h=>⟨_,rfl,h⟩).ext hf fun i ad hk=>by have:=hh.under (by omega) i hk;omega) rfl (by simp[Value.oneCell']) (by omega) (by unfold maxLen;omega) (by omega) fun b8 kh bd Bw=>?_
  have Z0:=mH.box Bw ((dJ.trans hf).obj gN) (by decide);have uK:=((uL.trans dJ.mod).trans hf.mod).own Bw fun q aB=>(mH.lt q aB).1;obtain⟨jI,nJ,rfl,_⟩:=bd.form;clear gN o4 mH hh nR;refine al ?_;intro oy j9 iD;refine al ?_;refine⟨eO,bw,(jI,_,nJ),trivial,⟨uK.trans (j9.mod rfl),iD⟩,?_⟩;rw[List.take_succ,B0];exact bd.wr j9 Vj
 have uJ:m.procs.length=k:=by omega
 rw[List.take_of_length_le (by rw[o.UC];omega)] at h9;have Iw:ga (fun i=>i<bS.heap.size) (fun w=>Ah w (.slice eD kd iz) (o.cS m s inst).vars) dv:=Qz.move n4 (fun i _ e=>by omega) fun i _ e=>e;have Qv:ev bX (fun w=>e4 w (.slice xC iF qo) (o.cS m s inst).lens) dv:=Qu.move n4 (fun i _ e=>by omega) fun i _ e=>e;have Ql:=h9.new (R:=D7);clear Qz Qu;obtain⟨ajF,ajb,vX⟩:=v;have Vk:=cM gN;have z78:=n4.size;have wq:∀{W},Mod (fun i=>i=ks) dv W→Ext bq W:=fun h=>E0 (n4.trans h);clear h9;have jX:=b3.trans (wq (Mod.refl _ _));have z3:=cM bK;have z45:=bj.size;have ajW:=(aA.trans aC).size;replace bK:=(wq (Mod.refl _ _)).obj bK;refine al ?_;apply K.cond<;>intro g2;rotate_left
 ·refine al ?_;intro eA lC dI;refine al ?_;obtain⟨dw,bP⟩:=o.K3 (m:=m) (s:=s) (inst:=inst) (by omega);refine⟨⟨_,rfl,fun W h7=>⟨_,_,_,_,by rw[bP],?_,?_,?_,?_⟩⟩,lC.ext jX (by omega)⟩
  ·exact(Iw.move (A':=fun i=>i<w.heap.size) (lC.mod (A:=fun i=>i=b5) rfl) (fun i _ e=>by omega) fun i _ e=>by omega) W h7
  ·exact(Qv.move (A':=fun i=>i<w.heap.size) (lC.mod (A:=fun i=>i=b5) rfl) (fun i _ e=>by omega) fun i _ e=>by omega) W h7
  ·rw[dw];exact bz.nil
  ·exact(Ql.move (A':=fun i=>i<w.heap.size) (lC.mod (A:=fun i=>i=b5) rfl) (fun i _ e=>by omega) fun i _ e=>by omega) W h7
 ·obtain⟨q,rfl⟩:=Int.eq_ofNat_of_zero_le (show 0≤inst by omega);have aB:q<(o.insts m).length:=by omega
  have nY:=o.R6 aB;obtain⟨fm,od⟩:=o.wU aB;obtain⟨a2,rfl⟩:=fL.addr (by omega);have aep:=fL.ext Flat.ext jX;have aq:=pN (wq (Mod.refl _ _));have aM:=hV (wq (Mod.refl _ _));obtain⟨lY,rfl⟩:=fw.addr (by omega);have yM:=fw.ext Flat.ext (wq (Mod.refl _ _));have wN:=o.qK _ (List.getElem_mem aB);obtain⟨p,aO,iE,ru⟩:=o.B5 wN;have Bl:(o.ka m (o.insts m)[q]).length=1+m.procs[p].vars.length:=by rw[ru,o.xp]
  obtain⟨a,rfl⟩:=ag.addr (by omega);obtain⟨oa,ct,dM,ej,eJ,hi⟩:=ag.at p aO;obtain⟨ajl,ahk,rfl,ai6⟩:=eJ.form;obtain⟨ajg,ahe,rfl,ai3⟩:=hi.form;replace ej:=ej.ext jX;unfold o.dj.enc at ej;refine al ?_;refine K.dk p iE aO ?_;refine al ?_;intro GH o2 eA aaf;have cp:=o2.trans aaf;replace aq:=cp.obj aq;replace aM:=cp.obj aM;replace gN:=cp.obj gN;replace bK:=cp.obj bK;have kk:=jX.trans cp;have abb:=ay.ext Flat.ext kk;have Vl:=cp.size;clear ej yM aep;refine al ?_;refine K.Gi (k:=.i64) (k':=.i64) (o.dx m q+1) (o.dx m q+1+m.procs[p].vars.length) abb (by simp[fv,cd,od]) (by simp[fv,cd,od]) (by omega) (by omega) fun au c RK=>?_;rw[show o.dx m q+1+m.procs[p].vars.length - (o.dx m q+1)=m.procs[p].vars.length from by omega] at RK ⊢;obtain⟨eF,aP,nZ,cK⟩:=RK.cells;have fa:eF.length≤64:=by rw[aP,List.length_take,List.length_drop];omega
  refine al ?_;refine K.OQ (sz:=1) (base:=eA.heap.size) (bs.nil _ _ _ _ _) nZ (by rw[List.length_nil];omega) (by rw[List.length_nil];unfold maxLen;omega) (Nat.le_refl _) fun b8 eR ly mG=>?_;rw[List.nil_append] at ly;have o4:ev eA (fun w=>e4 w b8 ((s.drop (o.dx m q+1)).take m.procs[p].vars.length)) eR:=ev.clone (R:=Flat dA) aP ly (fun h=>h) fun i h1 U=>cK i h1 U;have dJ:Ext eA eR:=(Ext.refl _).grown mG fun k hk=>by simp[Value.ownBlock] at hk
  replace aM:=dJ.obj aM;replace gN:=dJ.obj gN;replace bK:=dJ.obj bK;have Ly:=dJ.size;obtain⟨ol,cl,rfl,_⟩:=o4.here.form;clear aq;refine al ?_;intro gH ib nR;have Rx:Mod (fun i=>i=ks) dv gH:=(cp.mod.trans dJ.mod).trans (ib.mod rfl);have ah3:=fw.ext Flat.ext (wq Rx);replace bK:=ib.obj bK (by omega);refine al ?_;intro kh nq ry;have uK:Mod (fun i=>i=ks) dv kh:=Rx.trans (nq.mod rfl);replace bK:=nq.obj bK (by omega);refine al ?_;intro oy j9 iD;refine al ?_;obtain⟨dw,bP⟩:=o.vo s aB (n:=m.procs[p].vars.length) (by omega);have GR:=ib.size;have Vh:=nq.size;refine⟨⟨_,rfl,fun W h7=>⟨_,_,_,_,by rw[bP];rfl,?_,?_,?_,?_⟩⟩,j9.ext (b3.trans (wq uK)) (by omega)⟩
  ·exact(Iw.move (A':=fun i=>i<w.heap.size) (uK.comp (B:=fun i=>i=ks∨i=b5) (j9.mod (A:=fun i=>i=b5) rfl) (fun i _ e=>.inl e) fun i _ e=>.inr e) (fun i _ e=>by omega) fun i _ e=>by omega) W h7
  ·exact(Qv.move (A':=fun i=>i<w.heap.size) (uK.comp (B:=fun i=>i=ks∨i=b5) (j9.mod (A:=fun i=>i=b5) rfl) (fun i _ e=>.inl e) fun i _ e=>.inr e) (fun i _ e=>by omega) fun i _ e=>by omega) W h7
  ·rw[dw];exact((((o4.wr ib (by omega)).wr nq (by omega)).wr j9 (by omega)).mono fun i _ e=>by omega) W h7
  ·exact(Ql.move (A':=fun i=>i<w.heap.size) (uK.comp (B:=fun i=>i=ks∨i=b5) (j9.mod (A:=fun i=>i=b5) rfl) (fun i _ e=>.inl e) fun i _ e=>.inr e) (fun i _ e=>by omega) fun i _ e=>by omega) W h7
end Go.Proofs.R
end
section
namespace o
open Go
theorem T8{f g:Node→List Int→Int×Int}{e:List Node}(h:∀k (hk:k<e.length) st,eL f (e.take k) []=(0,st)→eK e[k].op≤st.length→f e[k] st=g e[k] st):∀n,n≤e.length→eL f (e.take n) []=eL g (e.take n) []
 | 0,_=>by simp[eL]
 | n+1,aI=>by
  have fB:=T8 h n (by omega);by_cases aj:(eL f (e.take n) []).1=0
  ·have bP:eL f (e.take n) []=(0,(eL f (e.take n) []).2):=Prod.ext aj rfl;have ba:eL g (e.take n) []=(0,(eL f (e.take n) []).2):=by rw[←fB];exact bP
   rw[vj (by omega) bP,vj (by omega) ba];exact afX fun _ aP=>by rw[h n (by omega) _ bP aP];exact⟨rfl,fun _=>rfl⟩
  ·rw[List.take_succ_eq_append_getElem (by omega),zE,zE,←fB,if_pos aj,if_pos aj]
theorem afd{f g:Node→List Int→Int×Int}{e:List Node}(h:∀k (hk:k<e.length) st,eL f (e.take k) []=(0,st)→eK e[k].op≤st.length→f e[k] st=g e[k] st):jU f e=jU g e:=by
 have:=T8 h e.length (Nat.le_refl _)
 rw[List.take_length] at this;unfold jU;rw[this]
def iJ(s t:List Int)(l:List Int):Prop := ∀x∈l,s[x.toNat]? = t[x.toNat]?
theorem iJ.row{s t:List Int}{a n:Nat}(h:iJ s t (fC a n)){k:Nat}(hk:k<n):s[a+k]? = t[a+k]? := by
 have:=h ((a+k:Nat):Int) (pg.2 (by omega))
 rw[Int.toNat_natCast] at this;exact this
theorem iJ.one{s t:List Int}{a:Nat}(h:iJ s t (fC a 1)):s[a]? = t[a]? := h.row (k:=0) (by omega)
theorem iJ.sub{s t:List Int}{l r:List Int}(h:iJ s t l)(ay:∀x∈r,x∈l):iJ s t r:=fun x ar=>h x (ay x ar)
theorem Gj{s t:List Int}{a n:Nat}(h:∀k,k<n→s[a+k]? = t[a+k]?):(s.drop a).take n=(t.drop a).take n:=by
 apply List.ext_getElem?;intro i;rw[List.getElem?_take,List.getElem?_take];split
 ·rw[List.getElem?_drop,List.getElem?_drop];exact h i ‹_›
 ·rfl
theorem U1{l r:List Int}{n:Int}(h:0≤n→l[n.toNat]? = r[n.toNat]?):iH l n=iH r n:=by
 unfold iH nth;by_cases aj:0≤n
 ·rw[if_pos aj,if_pos aj,h aj]
 ·rw[if_neg aj,if_neg aj]
theorem U2{s t:List Int}{a n:Nat}{k:Int}(h:0≤k→s[a+k.toNat]? = t[a+k.toNat]?):iH ((s.drop a).take n) k=iH ((t.drop a).take n) k:=by
 refine U1 fun aj=>?_;rw[List.getElem?_take,List.getElem?_take,List.getElem?_drop,List.getElem?_drop];split
 ·exact h aj
 ·rfl
theorem Wg{m:Model}{p:Int}{n j:Nat}(aU:j<n)(h:(insts m)[j]?.map (·.proc)=some p):((dx m j:Nat):Int)∈pz m p n:=by
 unfold pz;refine List.mem_flatMap.2 ⟨j,List.mem_range.2 aU,?_⟩;rw[if_pos h,Gd];exact List.mem_singleton.2 rfl
theorem Wh{m:Model}{s t:List Int}{p l:Int}{k:Nat}(h:iJ s t (pz m p k)):pA m s p l k=pA m t p l k:=by
 unfold pA;congr 1;refine List.filter_congr fun i ad=>?_;have ad:=List.mem_range.1 ad;by_cases aO:(insts m)[i]?.map (·.proc)=some p
 ·have:=h _ (Wg ad aO)
  rw[Int.toNat_natCast] at this;rw[this]
 ·simp[aO]
theorem Wi{m:Model}{s t:List Int}{p:Nat}{n:Int}{k:Nat}(h:iJ s t (pz m p k)):jc m s p n k=jc m t p n k:=by
 unfold jc;exact List.map_congr_left fun l _=>by rw[Wh h]
theorem afV{m:Model}{s t:List Int}{inst:Int}{n:Nat}(h:s[cZ m n]? = t[cZ m n]?):(cS m s inst).lens[n]? = (cS m t inst).lens[n]? := by
 simp only[cS,List.getElem?_map];cases bd:(List.range m.aJ.length)[n]? with
 | none=>rfl
 | some i =>
  have:i=n:=by
   obtain⟨h1,U⟩:=List.getElem?_eq_some_iff.1 bd;rw[List.getElem_range] at U;exact U.symm
  subst this;simp only[Option.map_some,Option.some.injEq];rw[List.getElem!_eq_getElem?_getD,List.getElem!_eq_getElem?_getD,h]
theorem acF{m:Model}{s t:List Int}{fg:Scope}{x:Node}{q:Nat}{inst top:Int}{own:Bool}(aS:fg.vars=m.vars)(ar:Ag fg x)(ad:inst=q∨(inst<0∧own=false))
  (a1:own=true→q<(insts m).length∧1≤(cS m s inst).self∧top=(cS m s inst).self)(h:iJ s t (iV m q own x)):h2 x (cS m s inst) top=h2 x (cS m t inst) top:=by
 have nn:(cS m s inst).self=(cS m t inst).self:=by
  simp only[cS,zI];split<;>rfl
 unfold h2;by_cases h1:x.op=1
 ·rw[if_pos h1,if_pos h1]
 rw[if_neg h1,if_neg h1];by_cases U:x.op=2
 ·rw[if_pos U,if_pos U];obtain⟨gO,v,ez,gd⟩:=ar.var U;rw[aS] at ez;obtain⟨iS,k3⟩:=List.getElem?_eq_some_iff.1 ez;unfold iV at h;rw[if_pos U] at h;have aI:∀s:List Int,nth (cS m s inst).vars x.n=some ((s.drop (hM m x.n.toNat)).take (cells m.vars[x.n.toNat] m.scalars).toNat):=fun s=>by
   unfold nth;rw[if_pos gO,Gn iS]
  rw[aI s,aI t];exact U2 fun _=>h.one
 rw[if_neg U,if_neg U];by_cases ag:x.op=3
 ·rw[if_pos ag,if_pos ag];obtain⟨gO,iS⟩:=ar.item ag;rw[aS] at iS;unfold iV o9 at h;rw[if_neg U,if_pos ag] at h;have aI:∀s:List Int,nth (cS m s inst).vars x.n=some ((s.drop (hM m x.n.toNat)).take (cells m.vars[x.n.toNat] m.scalars).toNat):=fun s=>by
   unfold nth;rw[if_pos gO,Gn iS]
  rw[aI s,aI t];cases own with
  | false =>
   simp only[Bool.false_eq_true,if_false] at h;rw[u1 iS] at h;rw[Gj fun k hk=>h.row hk]
  | true =>
   simp only[if_true] at h;obtain⟨aB,b9,ch⟩:=a1 rfl;have RL:inst=q:=by
    rcases ad with ad | ad
    ·exact ad
    ·cases ad.2
   subst RL;have qH:(cS m s q).self=(insts m)[q].elem:=(vo s aB rfl).2;rw[qH] at b9 ch;rw[AZ aB] at h;have c7:=h.one;have e:∀s:List Int,nth ((s.drop (hM m x.n.toNat)).take (cells m.vars[x.n.toNat] m.scalars).toNat) (top - 1)=if (top - 1).toNat<(cells m.vars[x.n.toNat] m.scalars).toNat then s[hM m x.n.toNat+(insts m)[q].elem.toNat - 1]? else none:=fun s=>by
    unfold nth;rw[if_pos (by omega),List.getElem?_take,List.getElem?_drop];rw[show hM m x.n.toNat+(top - 1).toNat=hM m x.n.toNat+(insts m)[q].elem.toNat - 1 from by omega]
   simp only[e s,e t,c7]
 rw[if_neg ag,if_neg ag];by_cases aK:x.op=4
 ·rw[if_pos aK,if_pos aK];unfold iV at h;rw[if_neg U,if_neg ag,if_pos aK] at h;rcases ad with rfl | ad
  ·by_cases aB:q<(insts m).length
   ·rw[(vo s aB rfl).1,(vo t aB rfl).1];exact U2 fun _=>h.one
   ·have:nth (insts m) (q:Int)=none:=gQ (.inr (by omega))
    simp only[cS,zI,this]
  ·rw[(K3 ad.1).1,(K3 ad.1).1]
 rw[if_neg aK,if_neg aK];by_cases bD:x.op=6
 ·rw[if_pos bD,if_pos bD];unfold iV at h;rw[if_neg U,if_neg ag,if_neg aK,if_pos bD] at h;exact U1 fun _=>afV h.one
 rw[if_neg bD,if_neg bD];by_cases bc:x.op=5
 ·rw[if_pos bc,if_pos bc,nn]
 rw[if_neg bc,if_neg bc];by_cases b6:x.op=7
 ·rw[if_pos b6,if_pos b6];unfold iV at h;rw[if_neg U,if_neg ag,if_neg aK,if_neg bD,if_pos b6] at h;by_cases aI:0≤x.n
  ·rw[if_pos aI,if_pos aI];have br:x.n.tdiv 16=((x.n.tdiv 16).toNat:Nat):=(Int.toNat_of_nonneg (Int.tdiv_nonneg aI (by omega))).symm;rw[br] at h ⊢;have e:nth (cS m s inst).at_ ((x.n.tdiv 16).toNat:Nat)=nth (cS m t inst).at_ ((x.n.tdiv 16).toNat:Nat):=by
    unfold nth;rw[if_pos (by omega),if_pos (by omega),Int.toNat_natCast];simp only[cS,List.getElem?_map];cases bd:(List.range m.procs.length)[(x.n.tdiv 16).toNat]? with
    | none=>rfl
    | some i =>
     have:i=(x.n.tdiv 16).toNat:=by
      obtain⟨h1,U⟩:=List.getElem?_eq_some_iff.1 bd;rw[List.getElem_range] at U;exact U.symm
     subst this;simp only[Option.map_some,Option.some.injEq];exact Wi h
   rw[e]
  ·rw[if_neg aI,if_neg aI]
 ·rw[if_neg b6,if_neg b6]
theorem H7{m:Model}{s t:List Int}{fg:Scope}{e:List Node}{q p:Nat}(aS:fg.vars=m.vars)(he:q2 fg e)(aB:gp m q p)(nn:(m.procs[p]'(aB.aO)).over≠0∨fg.self=0)(h:iJ s t (nP m q e e.length)):eval e (cS m s q)=eval e (cS m t q):=by
 have qH:(cS m s q).self=((insts m)[q]'(aB.aB)).elem:=(vo s aB.aB rfl).2;refine afd fun k hk st ia hlen=>?_;unfold gL;cases j7:fX e[k].op with
 | some au=>rfl
 | none =>
  have JB:iJ s t (iV m q (vg e k) e[k]):=h.sub fun x ar=>by
   unfold nP;refine List.mem_flatMap.2 ⟨k,List.mem_range.2 hk,?_⟩;rw[List.getElem?_eq_getElem hk];exact ar
  refine acF (q:=q) (own:=vg e k) aS (he.node k hk).1 (.inl rfl) (fun a1=>⟨aB.aB,?_⟩) JB;cases k with
  | zero=>cases a1
  | succ j =>
   rw[Ko (by omega),decide_eq_true_eq] at a1;have air:=(he.node j (by omega)).1.self a1;have Jo:(m.procs[p]'(aB.aO)).over≠0:=by
    rcases nn with h1 | h1
    ·exact h1
    ·omega
   refine⟨by rw[qH];exact aB.elem Jo,?_⟩;by_cases aj:(eL (gL (cS m s q)) (e.take j) []).1=0
   ·have bP:eL (gL (cS m s q)) (e.take j) []=(0,(eL (gL (cS m s q)) (e.take j) []).2):=Prod.ext aj rfl;rw[vj (by omega) bP] at ia;unfold stepG at ia;have aI:eK e[j].op=0:=by rw[a1];decide
    rw[aI,if_neg (by omega),if_neg (by omega)] at ia;have aN:gL (cS m s q) e[j] (eL (gL (cS m s q)) (e.take j) []).2=((cS m s q).self,0):=by
     unfold gL;rw[a1];simp[fX,h2,a1]
    rw[aN] at ia;simp only[ne_eq,not_true_eq_false,if_false] at ia;split at ia
    ·cases ia
    ·injection ia with _ ia
     rw[←ia];simp
   ·rw[List.take_succ_eq_append_getElem (by omega),zE,if_pos aj] at ia;rw[ia] at aj;exact absurd rfl aj
end o
end