/- Texts joined: ReaD KeyL ReaK ReaM ReaE ReaF ReaG ReaH ReaW ReaI ReaT ReaN LibB ReaO StaB StaC StaD StaE StaF StaG StaH StaI StaJ LiteI LiteJ LiteK LiteL StaK ReaR MovP StaT StaU LiteT LiteU StaV StaX StaY. -/
import Derived.Test.YtempnjgiohpopaaGreatDoorQwrd
import Derived.Test.YtempnjgiohpopaaGreatDoorQwrg
import Derived.Test.YtempnjgiohpopaaGreatDoorQwri
import Derived.Test.YtempnjgiohpopaaGreatDoorQwrk
import Derived.Test.YtempnjgiohpopaaGreatDoorQwrn
import Derived.Shelf.SlGeneric
import Derived.Shelf.SlIterI.Nil
import Derived.Shelf.SortM.Plain
import Derived.Shelf.SortM.SortNone
import Derived.Test.YtempnjgiohpopaaGreatDoorChecked
import Derived.Laws.Bits64b
import Derived.Lib.AppendZerosOnto
set_option linter.all false
set_option maxRecDepth 8000
set_option maxHeartbeats 16000000
section
namespace Go.Proofs.R
open Go Go.RowKit bt
def Vi(m:o.Model)(ref:Int)(v:Value)(w:World):Prop :=
 (¬o.Told m ref∧v = .tuple #[.pointer none,.agg Hz.toArray,.bool false]) ∨
 (∃(b q p k:Nat) (fw eD:Value),o.gj m ref q p k∧v = .tuple #[.pointer (some ⟨b,0,none⟩),.agg ((o.dE m p k).enc fw eD).toArray,.bool true]∧mP w b m q∧o.fA w fw (o.dE m p k).guard∧o.mH w eD (o.dE m p k).b6)
theorem S5(cs:List Value)(m:o.Model)(ref:Int)(w:World)(h:o.ew w cs m)(a6:m.cT)(a8:h9 w) :
  bq Tryz.prog F.k1 #[.agg cs.toArray,.int .i64 ref] w fun v w'=>Vi m ref v w'∧Ext w w':=by
 have fF:=h;obtain⟨cv,bN,b9,c1,cq,c2,cm,bK,cw,bQ,rfl,aj,h1,U,ai,aL,eG,dt,dB,dT,er⟩:=h.form;refine bI E.k1 ?_;refine bF ?_;refine an ?_;intro w1 b4 dw az aI;refine an ?_;intro aR dz lV aA cx;have Bf:=aA.obj aI;have bg:=az.trans aA;refine an ?_;refine K.call (JZ _ m aR (fF.ext bg) a6 (a8.ext bg)) ?_;rintro _ ba ⟨rfl,au⟩;have bO:=bg.trans au;replace aI:=au.obj Bf;replace cx:=au.obj cx;have z5:=cL cx;have aj2:=az.size;clear Bf;refine an ?_;refine K.ki (v:=.int .i64 (o.check m).dh) rfl ?_;refine an ?_;refine K.cond (fun hk=>?_) (fun hk=>?_);rotate_left
 ·refine an ?_;intro bo ed bJ;refine an ?_;exact⟨.inl ⟨fun aK=>hk aK.1,bu⟩,ed.ext bO (by omega)⟩
 have bd:=o.pE hk;have dF:=bd.lim;have lj:=o.KA dF;refine an ?_;refine K.call (aeM _ m ba (fF.ext bO) dF) ?_;rintro ky bo ⟨py,aP⟩;obtain⟨l5,Xr,rfl,_⟩:=py.form;have Ij:bB 2 (Flat o.Ref.enc) bo (.slice l5 (o.refs m).length Xr) (o.refs m):=bp.lz (enc:=o.Ref.enc) (fun _=>rfl) py;replace aI:=aP.obj aI;replace cx:=aP.obj cx;have b8:=bO.trans aP;clear py;refine an ?_;apply K.cond<;>intro g1
 ·refine an ?_;intro bR ft yv;refine an ?_;exact⟨.inl ⟨fun aK=>by have:=aK.2;omega,bu⟩,ft.ext b8 (by omega)⟩
 obtain⟨r,rfl⟩:=Int.eq_ofNat_of_zero_le (show 0≤ref by omega);refine an ?_;apply K.cond<;>intro g2
 ·refine an ?_;intro bR ft yv;refine an ?_;exact⟨.inl ⟨fun aK=>by have:=aK.2;omega,bu⟩,ft.ext b8 (by omega)⟩
 have aK:o.Told m r:=⟨hk,by omega,by omega⟩;obtain⟨q,p,k,de⟩:=o.HA aK;have aF:=de.at_.ad;have aO:=de.at_.aO;have yF:=de.at_.hk;have oP:(o.refs m)[r].inst=(q:Int):=de.at_.zv;have BK:(o.refs m)[r].cmd=(k:Int):=de.at_.zx;have sB:=de.at_.ip;obtain⟨nv,rfl⟩:=Ij.addr (by omega);refine an ?_;intro bR bf;replace aI:=bf.obj aI;replace cx:=bf.obj cx;have Qh:=Ij.ext Flat.ext bf;have ca:=b8.trans bf;refine an ?_;refine K.call (Sn _ m bR (fF.ext ca) a6 (a8.ext ca)) ?_;rintro _ bW ⟨⟨xs,rfl,v7⟩,bc⟩;rw[o.B0 hk] at v7;have vZ:=v7;replace v7:=v7.here;obtain⟨jJ,d0,lC,d1,lD,d2,ma,d3,lE,d4,rfl,_⟩:=v7.form;have c0:=ca.trans bc;refine⟨bc,?_⟩;refine an ?_;refine K.call (JH _ m bW (fF.ext c0) a6) ?_;rintro cn cj ⟨fg,bP⟩;obtain⟨et,ci,rfl,_⟩:=fg.form;have ee:=c0.trans bP;refine⟨bc.trans bP,?_⟩;refine an ?_;intro dC mj Bc bV eL;have fq:=ee.trans bV;have yD:oh dC (.slice et (o.insts m).length ci) (o.insts m):=bp.lz (enc:=o.cW.enc) (fun _=>rfl) (fg.ext bV);have Qd:=v7.ext (bP.trans bV);rw[oP] at eL;have Il:mP dC mj m q:=⟨_,_,_,eL,fF.ext fq,Qd,yD⟩;have Ic:=(bc.trans bP).trans bV;have Qi:=Qh.ext Flat.ext Ic;replace aI:=Ic.obj aI;replace cx:=Ic.obj cx;have U1:=fq.size;obtain⟨ic,rfl⟩:=yD.addr (by omega);obtain⟨a3,rfl⟩:=ai.addr (by omega);obtain⟨nR,cr,dL,en,eJ,gX⟩:=ai.at p aO;obtain⟨adb,WC,rfl,ack⟩:=gX.form;obtain⟨ac,rfl⟩:=gX.addr (by omega);obtain⟨gy,fw,eD,hp,jB,ju⟩:=gX.at k yF;replace en:=en.ext fq;replace hp:=hp.ext fq;obtain⟨n3,kE,rfl,_⟩:=jB.form;obtain⟨zn,ya,rfl,_⟩:=ju.form;unfold o.dj.enc at en;unfold o.dD.enc at hp;clear v7 Ij Qh Qd;refine an ?_;intro ez cp;replace aI:=cp.obj aI;replace cx:=cp.obj cx;replace eL:=cp.obj eL;replace Qi:=Qi.ext Flat.ext cp;replace yD:=yD.ext Flat.ext cp;replace en:=en.ext cp;replace hp:=hp.ext cp;refine an ?_;refine K.dr p (by rw[sB]) aO ?_;refine an ?_;refine K.dr k (by rw[BK]) yF ?_;refine an ?_;intro eX kQ sq;refine an ?_;have lT:Ext w ez:=fq.trans cp;have nj:=aP.size;have mC:=bf.size;have afb:=bc.size;have ajo:=bP.size;have jR:Ext w eX:=kQ.ext lT (by omega);have Y8:=((vZ.ext ((bP.trans bV).trans cp) afb).wr kQ (by omega)).here;have aab:oh eX (.slice (some ic) (o.insts m).length ci) (o.insts m):=bp.lz (enc:=o.cW.enc) (fun _=>rfl) (bp.wr kQ (by omega) ((fg.ext bV).ext cp));have wh:=o.Hy aO yF;refine⟨.inr ⟨mj,q,p,k,.slice n3 (o.dE m p k).guard.length kE,.slice zn (o.dE m p k).b6.length ya,de,by rw[wh];rfl,⟨_,_,_,kQ.obj eL (by omega),fF.ext jR,Y8,aab⟩,?_,?_⟩,jR⟩
 ·rw[wh];exact jB.ext jR
 ·rw[wh];exact ju.ext jR
end Go.Proofs.R
end
section
namespace Go.Proofs
open Go.Shelf
def Tryz.Sb:Go.Shelf.Ren:=⟨fun | 7=>133 | 10=>184 | n=>n,fun | 23=>125 | 26=>3 | 3=>3 | 28=>167 | 0=>0 | 27=>166 | 33=>172 | 4=>4 | n=>n,fun | n=>n⟩
theorem Tryz.JN:Go.Proofs.SlLaysZI.n7 Tryz.prog Tryz.Sb:={
 mixed:=by kernel_rfl
 f7:=⟨Tryz.f133.name,by decide,Tryz.func133.trans (congrArg some (by kernel_rfl))⟩
 f10:=⟨Tryz.f184.name,by decide,Tryz.func184.trans (congrArg some (by kernel_rfl))⟩
 t0:=Tryz.underlying0
 a0:=Tryz.isAgg0
 z0:=Tryz.sizeOf0
 v0:=Tryz.zeroValue0
 t4:=Tryz.underlying4
 a4:=Tryz.isAgg4
 z4:=Tryz.sizeOf4
 v4:=Tryz.zeroValue4
 t23:=Tryz.underlying125
 a23:=Tryz.isAgg125
 z23:=Tryz.sizeOf125
 v23:=Tryz.zeroValue125
 t26:=Tryz.underlying3
 a26:=Tryz.isAgg3
 z26:=Tryz.sizeOf3
 v26:=Tryz.zeroValue3
 t27:=Tryz.underlying166
 a27:=Tryz.isAgg166
 z27:=Tryz.sizeOf166
 v27:=Tryz.zeroValue166
 t28:=Tryz.underlying167
 a28:=Tryz.isAgg167
 z28:=Tryz.sizeOf167
 v28:=Tryz.zeroValue167
 t33:=Tryz.underlying172
 a33:=Tryz.isAgg172
 z33:=Tryz.sizeOf172
 v33:=Tryz.zeroValue172 }
def Tryz.Uf:Go.Shelf.Ren:=⟨fun | 6=>132 | 8=>182 | 9=>183 | 11=>244 | 13=>205 | 12=>245 | 23=>278 | 24=>279 | 14=>298 | 15=>299 | 16=>300 | 17=>301 | 18=>302 | 19=>303 | 20=>304 | 21=>305 | 22=>306 | 25=>332 | 26=>313 | 27=>314 | 28=>333 | 29=>334 | 30=>335 | 31=>342 | n=>n,fun | 26=>3 | 28=>167 | 24=>34 | 0=>0 | 3=>3 | 37=>60 | 48=>316 | 50=>54 | 4=>4 | 40=>310 | 39=>309 | 45=>214 | 5=>5 | 9=>9 | 51=>337 | 55=>341 | 57=>357 | 58=>140 | 33=>172 | n=>n,fun | n=>n⟩
theorem Tryz.afz:Go.Proofs.SlLaysZI.n6 Tryz.prog Tryz.Uf:={
 mixed:=by kernel_rfl
 f6:=⟨Tryz.f132.name,by decide,Tryz.func132.trans (congrArg some (by kernel_rfl))⟩
 f8:=⟨Tryz.f182.name,by decide,Tryz.func182.trans (congrArg some (by kernel_rfl))⟩
 f11:=⟨Tryz.f244.name,by decide,Tryz.func244.trans (congrArg some (by kernel_rfl))⟩
 t0:=Tryz.underlying0
 a0:=Tryz.isAgg0
 z0:=Tryz.sizeOf0
 v0:=Tryz.zeroValue0
 t24:=Tryz.underlying34
 a24:=Tryz.isAgg34
 z24:=Tryz.sizeOf34
 v24:=Tryz.zeroValue34
 t26:=Tryz.underlying3
 a26:=Tryz.isAgg3
 z26:=Tryz.sizeOf3
 v26:=Tryz.zeroValue3
 t28:=Tryz.underlying167
 a28:=Tryz.isAgg167
 z28:=Tryz.sizeOf167
 v28:=Tryz.zeroValue167
 i26:=by kernel_rfl }
def Tryz.afx:Go.Shelf.Ren:=⟨fun | 5=>183 | 8=>205 | 7=>245 | 19=>278 | 20=>279 | 10=>298 | 11=>299 | 12=>300 | 13=>301 | 14=>302 | 15=>303 | 16=>304 | 17=>305 | 18=>306 | 30=>332 | 31=>313 | 32=>314 | 33=>333 | 34=>334 | 35=>335 | 40=>342 | n=>n,fun | 23=>34 | 25=>3 | 3=>3 | 32=>60 | 22=>34 | 0=>0 | 44=>316 | 46=>54 | 4=>4 | 36=>310 | 35=>309 | 41=>214 | 5=>5 | 9=>9 | 53=>337 | 57=>341 | 63=>357 | 64=>140 | n=>n,fun | n=>n⟩
theorem Tryz.KN:Go.Proofs.SlLaysM.n5 Tryz.prog Tryz.afx:={
 mixed:=by kernel_rfl
 f5:=⟨Tryz.f183.name,by decide,Tryz.func183.trans (congrArg some (by kernel_rfl))⟩
 f7:=⟨Tryz.f245.name,by decide,Tryz.func245.trans (congrArg some (by kernel_rfl))⟩
 f8:=Tryz.func205.trans (congrArg some (by kernel_rfl))
 f10:=⟨Tryz.f298.name,by decide,Tryz.func298.trans (congrArg some (by kernel_rfl))⟩
 f11:=⟨Tryz.f299.name,by decide,Tryz.func299.trans (congrArg some (by kernel_rfl))⟩
 f12:=⟨Tryz.f300.name,by decide,Tryz.func300.trans (congrArg some (by kernel_rfl))⟩
 f13:=⟨Tryz.f301.name,by decide,Tryz.func301.trans (congrArg some (by kernel_rfl))⟩
 f14:=⟨Tryz.f302.name,by decide,Tryz.func302.trans (congrArg some (by kernel_rfl))⟩
 f15:=⟨Tryz.f303.name,by decide,Tryz.func303.trans (congrArg some (by kernel_rfl))⟩
 f16:=⟨Tryz.f304.name,by decide,Tryz.func304.trans (congrArg some (by kernel_rfl))⟩
 f17:=⟨Tryz.f305.name,by decide,Tryz.func305.trans (congrArg some (by kernel_rfl))⟩
 f18:=⟨Tryz.f306.name,by decide,Tryz.func306.trans (congrArg some (by kernel_rfl))⟩
 f19:=Tryz.func278.trans (congrArg some (by kernel_rfl))
 f20:=Tryz.func279.trans (congrArg some (by kernel_rfl))
 f30:=⟨Tryz.f332.name,by decide,Tryz.func332.trans (congrArg some (by kernel_rfl))⟩
 f31:=Tryz.func313.trans (congrArg some (by kernel_rfl))
 f32:=Tryz.func314.trans (congrArg some (by kernel_rfl))
 f33:=⟨Tryz.f333.name,by decide,Tryz.func333.trans (congrArg some (by kernel_rfl))⟩
 f34:=⟨Tryz.f334.name,by decide,Tryz.func334.trans (congrArg some (by kernel_rfl))⟩
 f35:=⟨Tryz.f335.name,by decide,Tryz.func335.trans (congrArg some (by kernel_rfl))⟩
 f40:=⟨Tryz.f342.name,by decide,Tryz.func342.trans (congrArg some (by kernel_rfl))⟩
 t0:=Tryz.underlying0
 a0:=Tryz.isAgg0
 z0:=Tryz.sizeOf0
 v0:=Tryz.zeroValue0
 t3:=Tryz.underlying3
 a3:=Tryz.isAgg3
 z3:=Tryz.sizeOf3
 v3:=Tryz.zeroValue3
 t4:=Tryz.underlying4
 a4:=Tryz.isAgg4
 z4:=Tryz.sizeOf4
 v4:=Tryz.zeroValue4
 t5:=Tryz.underlying5
 a5:=Tryz.isAgg5
 z5:=Tryz.sizeOf5
 v5:=Tryz.zeroValue5
 t9:=Tryz.underlying9
 a9:=Tryz.isAgg9
 z9:=Tryz.sizeOf9
 v9:=Tryz.zeroValue9
 t22:=Tryz.underlying34
 a22:=Tryz.isAgg34
 z22:=Tryz.sizeOf34
 v22:=Tryz.zeroValue34
 t23:=Tryz.underlying34
 a23:=Tryz.isAgg34
 z23:=Tryz.sizeOf34
 v23:=Tryz.zeroValue34
 t25:=Tryz.underlying3
 a25:=Tryz.isAgg3
 z25:=Tryz.sizeOf3
 v25:=Tryz.zeroValue3
 t32:=Tryz.underlying60
 a32:=Tryz.isAgg60
 z32:=Tryz.sizeOf60
 v32:=Tryz.zeroValue60
 t35:=Tryz.underlying309
 a35:=Tryz.isAgg309
 z35:=Tryz.sizeOf309
 v35:=Tryz.zeroValue309
 t36:=Tryz.underlying310
 a36:=Tryz.isAgg310
 z36:=Tryz.sizeOf310
 v36:=Tryz.zeroValue310
 t41:=Tryz.underlying214
 a41:=Tryz.isAgg214
 z41:=Tryz.sizeOf214
 v41:=Tryz.zeroValue214
 t44:=Tryz.underlying316
 a44:=Tryz.isAgg316
 z44:=Tryz.sizeOf316
 v44:=Tryz.zeroValue316
 t46:=Tryz.underlying54
 a46:=Tryz.isAgg54
 z46:=Tryz.sizeOf54
 v46:=Tryz.zeroValue54
 t53:=Tryz.underlying337
 a53:=Tryz.isAgg337
 z53:=Tryz.sizeOf337
 v53:=Tryz.zeroValue337
 t57:=Tryz.underlying341
 a57:=Tryz.isAgg341
 z57:=Tryz.sizeOf341
 v57:=Tryz.zeroValue341
 t63:=Tryz.underlying357
 a63:=Tryz.isAgg357
 z63:=Tryz.sizeOf357
 v63:=Tryz.zeroValue357
 t64:=Tryz.underlying140
 a64:=Tryz.isAgg140
 z64:=Tryz.sizeOf140
 v64:=Tryz.zeroValue140 }
end Go.Proofs
end
section
namespace Go.Proofs
open Go Go.RowKit Go.Maps Go.Sort Go.Shelf
theorem Tryz.afB(m:Nat):AnyZI.SortsIn Tryz.prog Tryz.Uf Fence.wide m :=
 ⟨fun aV off cap bX W hH hblk c3=>callsIn_wide.2 (AnyM.slices_Sort_int Tryz.KN aV off cap bX W hH hblk c3),fun p cap W=>callsIn_wide.2 (AnyM.slices_Sort_int_none Tryz.KN p cap W)⟩
end Go.Proofs
namespace Go.Proofs.R
open Go Go.RowKit Go.Maps Go.Sort Go.Shelf bt
theorem abU(CM:Option Nat)(w:World):bq Tryz.prog F.AX #[.map CM] w fun v w'=>v = .func (.func F.lT) #[] #[.pointer (some ⟨w.heap.size,0,none⟩)]∧w'=w.alloc (.cells #[.map CM] T.u):=by
 have h:CallsIn Fence.wide 5 Tryz.prog F.AX #[.map CM] w fun e w'=>e = .returned (.func (.func F.lT) #[] #[.pointer (some ⟨w.heap.size,0,none⟩)])∧w'=w.alloc (.cells #[.map CM] T.u):=AnyZI.keys_in Tryz.JN Fence.wide 5 trivial rfl CM w;exact Calls.mono (callsIn_wide.1 h) fun e w' ⟨h1,U⟩=>⟨_,h1,rfl,U⟩
theorem SJ:∀l:List Int,l.map encZ=l.flatMap dk
 | []=>rfl
 | x :: l=>by rw[List.map_cons,List.flatMap_cons,SJ l];rfl
theorem afA(b:Nat)(L:List Int)(w:World)(h:eB w b L)(dF:L.length≤1000000) :
  bq Tryz.prog F.vR #[.func (.func F.lT) #[] #[.pointer (some ⟨w.heap.size,0,none⟩)]] (w.alloc (.cells #[.map (some b)] T.u)) fun v w'=>(∃r,bp dk T.a 1 (w.alloc (.cells #[.map (some b)] T.u)).heap.size w' v r∧o.mO L r)∧Ext (w.alloc (.cells #[.map (some b)] T.u)) w':=by
 obtain⟨qQ,fB,c3,Jq⟩:=h.own (P:=Tryz.prog) (k:=T.a) (by kernel_rfl) (by unfold maxLen;omega);have Iv:=fB.lt;have sJ:SeqGives Fence.wide 2 Tryz.prog F.lT #[.pointer (some ⟨w.heap.size,0,none⟩)] encZ (fun bX=>bX.Perm (intKeys qQ)) (Maps.size qQ) (w.alloc (.cells #[.map (some b)] T.u)) :=
  AnyZI.keys_gives (ρ:=Tryz.Sb) { Tryz.JN with } Fence.wide _ trivial rfl (by omega) w.heap.size b _ qQ _ (by simp) (by simp) (by
   obtain⟨es,clock,aD,U9,ay,nE⟩:=fB;exact⟨es,clock,(Below.heap_alloc _ _ b Iv).trans aD,U9,ay,nE⟩)
 have OQ:=AnyZI.sorted_in Tryz.afz Fence.wide 5 trivial trivial trivial trivial rfl (by omega) (Tryz.afB _) (Tryz.KN.f5.enters rfl) F.lT #[.pointer (some ⟨w.heap.size,0,none⟩)] trivial (Tryz.JN.f10.enters rfl) _ _ (by unfold maxLen;omega) (by omega) _ sJ;change CallsIn _ _ Tryz.prog F.vR _ _ _ at OQ;refine Calls.mono (callsIn_wide.1 OQ) ?_;rintro e w' ⟨v,bX,rfl,ch,yQ,_,aD⟩;obtain⟨h1,U⟩:=Jq bX ch;refine⟨v,rfl,⟨bX.mergeSort fun x y=>decide (x≤y),?_,afy h1,fun x=>?_⟩,aD⟩
 ·unfold bp;rw[←SJ,List.length_mergeSort];exact yQ
 ·rw[(List.mergeSort_perm bX _).mem_iff];exact U x
theorem F4(b:Nat)(L:List Int)(w:World)(h:eB w b L)(dF:L.length≤1000000) :
  bq Tryz.prog F.q #[.map (some b)] w fun v w'=>(∃r,bp dk T.a 1 w.heap.size w' v r∧o.mO L r)∧Ext w w':=by
 have he:Ext w (w.alloc (.cells #[.map (some b)] T.u)):=(Ext.refl w).alloc _;have hk:=abU (some b) w;have ay:=afA b L w h dF;generalize w.alloc (.cells #[.map (some b)] T.u)=w1 at he hk ay;refine bI E.q ?_;refine bF ?_;refine an ?_;refine K.call hk ?_;rintro _ _ ⟨rfl,rfl⟩;refine an ?_;refine K.call ay ?_;rintro v aR ⟨⟨r,a8,bk⟩,aA⟩;refine an ?_;exact⟨⟨r,bp.low he.size a8,bk⟩,he.trans aA⟩
end Go.Proofs.R
end
section
namespace Go.Proofs.R
open Go Go.RowKit bt
theorem Nc(cs:List Value)(m:o.Model)(ref:Int)(w:World)(h:o.ew w cs m)(a6:m.cT)(a8:h9 w) :
  bq Tryz.prog F.a2 #[.agg cs.toArray,.int .i64 ref] w fun v w'=>(∃eD xp a b,v = .tuple #[eD,xp]∧fo w' eD a∧fo w' xp b∧o.tG m ref a b)∧Ext w w':=by
 have fF:=h;obtain⟨cv,bN,b9,c1,cq,c2,cm,bK,cw,bQ,rfl,_⟩:=h.form;refine bI E.a2 ?_;refine bF ?_;refine an ?_;intro w1 b4 dw az aI;refine an ?_;refine K.call (S5 _ m ref w1 (fF.ext az) a6 (a8.ext az)) ?_;rintro _ aR ⟨hO,aA⟩;replace aI:=aA.obj aI;have bg:=az.trans aA;rcases hO with ⟨wA,rfl⟩ | ⟨b,q,p,k,fw,eD,de,rfl,kk,jB,ju⟩
 ·unfold Hz;refine an ?_;intro wn ie gG hJ gy;refine an ?_;intro ba eV dm;refine an ?_;exact⟨⟨_,_,[],[],rfl,bB.nil,bB.nil,o.tG.nil wA⟩,bg.trans (eV.ext hJ gG)⟩
 obtain⟨n3,kE,rfl,_⟩:=jB.form;obtain⟨zn,ya,rfl,_⟩:=ju.form;have bd:=o.pE de.ok;have bM:=de.inst;have nH:=de.cin;have sx:=nH.gT;obtain⟨c,uv⟩:∃c,c=o.dE m p k:=⟨_,rfl⟩;rw[←uv] at nH sx jB ju ⊢;unfold o.dD.enc;refine an ?_;intro wn lQ jr hJ gy;refine an ?_;intro ba eV c5;have au:Ext aR ba:=eV.ext hJ jr;clear hJ gy eV;have bO:=bg.trans au;have um:=kk.ext au;have Je:=jB.ext au;have Jb:=ju.ext au;have I1:=o.yS bd bM.aF;clear aI kk jB ju;refine an ?_;refine K.u1 fun bo ji Bd aP ql=>?_;refine an ?_;refine K.u1 fun bR tR ahA bf rj=>?_;have uJ:=(eB.empty ql).ext bf;have ft:=eB.empty rj;have dc:ji≠tR:=by have:=cL ql;omega
 have h6:=aP.trans bf;have ZC:=h6.obj c5;have Zm:ba.heap.size≤tR:=by have:=aP.size;omega
 clear ql rj;refine an ?_;refine K.call (yA b q m bR (um.ext h6) bM.aF) ?_;rintro _ bW ⟨rfl,bc⟩;refine an ?_;refine K.call (oW ji [] (o.dG m q) 1 _ _ bW (uJ.ext bc) rfl rfl (by omega)) ?_;rintro _ cj ⟨wD,km⟩;have eo:=(ft.ext bc).mod km (Ne.symm dc);have gP:=km.ext (h6.trans bc) fun k hk e=>by omega
 refine an ?_;refine K.call (yA b q m cj (um.ext gP) bM.aF) ?_;rintro _ dC ⟨rfl,bV⟩;refine an ?_;refine K.call (oW tR [] (o.dG m q) 1 _ _ dC (eo.ext bV) rfl rfl (by omega)) ?_;rintro _ ez ⟨ln,uE⟩;have Rz:=(wD.ext bV).mod uE dc;have j8:=uE.ext (gP.trans bV) fun k hk e=>by omega
 have ZD:=j8.obj c5;refine an ?_;refine K.call (ym c.guard _ b ji q p _ m ba ez um j8 Bd Rz bd bM Je nH.guard) ?_;rintro _ eX ⟨yN,wy⟩;have kQ:=ln.mod wy (Ne.symm dc);have zW:=wy.ext j8 fun k hk e=>by omega
 have ZA:=zW.obj c5;rw[List.nil_append] at kQ yN;have P3:eB eX ji (o.qK m q c 0):=by
  unfold o.qK o.uj;rw[List.take_zero,List.flatMap_nil,List.append_nil];exact yN
 have P4:eB eX tR (o.od m q c 0):=by
  unfold o.od;rw[List.take_zero,List.flatMap_nil,List.append_nil];exact kQ
 clear uJ ft wD eo Rz ln yN kQ ZC ZD km uE wy bc bV h6 gP j8;refine an ?_;refine K.da 40 c.b6.length [6,7,9,10,38,39] (fun _:Unit=>[]) () (fun n _ W=>Ext ba W∧eB W ji (o.qK m q c n)∧eB W tR (o.od m q c n)) bw bw ⟨zW,P3,P4⟩ ?_;clear ZA P3 P4 zW;rintro n _ S hh aN ⟨DJ,Jk,hY⟩;have aat:=Jb.ext DJ;refine an ?_;apply K.cond<;>intro g1
 ·have jt:n<c.b6.length:=by omega
  obtain⟨qX,rfl⟩:=Jb.addr (by omega);obtain⟨cn,cr,wa,yJ,BD⟩:=Jb.at n jt;have A7:=nH.act n jt;obtain⟨et,ci,rfl,_⟩:=yJ.form;obtain⟨eP,ff,rfl,_⟩:=BD.form;replace wa:=wa.ext DJ;clear aat;refine an ?_;intro lB Eg uo fL uq;have L6:=DJ.trans fL;have wC:=Jk.ext fL;have nb:=hY.ext fL;have mB:¬Eg=ji:=fun e=>by subst e;obtain⟨_,_,h,_⟩:=wC.ex;rw[uq] at h;cases h
  have ks:¬Eg=tR:=fun e=>by subst e;obtain⟨_,_,h,_⟩:=nb.ex;rw[uq] at h;cases h
  clear wa Jk hY;refine an ?_;refine K.call (aer c.b6[n] _ _ b ji q p _ m ba lB um L6 Bd wC bd bM yJ BD A7) ?_;rintro _ o5 ⟨aaR,Ja⟩;have jX:=nb.mod Ja (Ne.symm dc);have L7:=Ja.ext L6 fun k hk e=>by omega
  replace uq:=Ja.obj mB uq;clear wC nb;refine an ?_;refine K.call (agA c.b6[n] _ _ b tR q p _ m ba o5 um L7 Zm jX bd bM yJ A7) ?_;rintro _ Gx ⟨BS,Rj⟩;have Fs:=aaR.mod Rj dc;have U5:=Rj.ext L7 fun k hk e=>by omega
  refine an ?_;exact⟨jt,bu,(),trivial,U5,by rw[o.Tv jt];exact Fs,by rw[o.US jt];exact BS⟩
 ·have Fq:c.b6.length=n:=by omega
  have lj:=(o.Tw bd bM nH n (by omega)).len;have aio:=(o.UT bd bM nH n (by omega)).len;refine an ?_;refine K.call (F4 ji _ hh Jk (by omega)) ?_;rintro u lB ⟨⟨C3,BE,BJ⟩,fL⟩;refine an ?_;refine K.call (F4 tR _ lB (hY.ext fL) (by omega)) ?_;rintro zJ o5 ⟨⟨Kr,aaD,aaS⟩,iT⟩;refine an ?_;have Zb:fo lB u C3:=bp.lz (enc:=dk) (fun _=>rfl) BE;refine⟨⟨_,_,C3,Kr,rfl,Zb.ext Flat.ext iT,bp.lz (enc:=dk) (fun _=>rfl) aaD,?_⟩,((bO.trans DJ).trans fL).trans iT⟩;subst uv;refine o.tG.of de ?_ ?_
  ·rw[Fq];exact BJ
  ·rw[Fq];exact aaS
theorem Va(cs:List Value)(m:o.Model)(ref:Int)(w:World)(h:o.ew w cs m)(a6:m.cT)(a8:h9 w) :
  bq Tryz.prog F.sb #[.agg cs.toArray,.int .i64 ref] w fun v w'=>(∃a,fo w' v a∧o.tx m ref a)∧Ext w w':=by
 have fF:=h;obtain⟨cv,bN,b9,c1,cq,c2,cm,bK,cw,bQ,rfl,_⟩:=h.form;refine bI E.sb ?_;refine bF ?_;refine an ?_;intro w1 b4 dw az aI;refine an ?_;refine K.call (S5 _ m ref w1 (fF.ext az) a6 (a8.ext az)) ?_;rintro _ aR ⟨hO,aA⟩;replace aI:=aA.obj aI;have bg:=az.trans aA;rcases hO with ⟨wA,rfl⟩ | ⟨b,q,p,k,fw,eD,de,rfl,kk,jB,ju⟩
 ·unfold Hz;refine an ?_;intro wn ie gG hJ gy;refine an ?_;intro ba eV dm;refine an ?_;exact⟨⟨[],bB.nil,o.tx.nil wA⟩,bg.trans (eV.ext hJ gG)⟩
 obtain⟨n3,kE,rfl,_⟩:=jB.form;obtain⟨zn,ya,rfl,_⟩:=ju.form;have bd:=o.pE de.ok;have bM:=de.inst;have nH:=de.cin;obtain⟨c,uv⟩:∃c,c=o.dE m p k:=⟨_,rfl⟩;rw[←uv] at nH jB ju ⊢;unfold o.dD.enc;refine an ?_;intro wn lQ jr hJ gy;refine an ?_;intro ba eV c5;have au:Ext aR ba:=eV.ext hJ jr;clear hJ gy eV;have bO:=bg.trans au;have um:=kk.ext au;have Je:=jB.ext au;have I1:=o.yS bd bM.aF;have ahR:=(o.P1 bd bM nH).len;clear aI kk jB ju;refine an ?_;refine K.u1 fun bo ji Bd aP ql=>?_;have yO:=eB.empty ql;have ZB:=aP.obj c5;clear ql;refine an ?_;refine K.call (yA b q m bo (um.ext aP) bM.aF) ?_;rintro _ bW ⟨rfl,bc⟩;refine an ?_;refine K.call (oW ji [] (o.dG m q) 1 _ _ bW (yO.ext bc) rfl rfl (by omega)) ?_;rintro _ cj ⟨wD,km⟩;have gP:=km.ext (aP.trans bc) fun k hk e=>by omega
 have ahH:=gP.obj c5;clear yO ZB km;refine an ?_;refine K.call (ym c.guard _ b ji q p _ m ba cj um gP Bd wD bd bM Je nH.guard) ?_;rintro _ eX ⟨yN,wy⟩;have zW:=wy.ext gP fun k hk e=>by omega
 have bk:eB eX ji (o.uj m q c):=by unfold o.uj;rw[List.nil_append] at yN;exact yN
 refine an ?_;refine K.call (F4 ji _ eX bk (by omega)) ?_;rintro u lB ⟨⟨C3,BE,BJ⟩,fL⟩;refine an ?_;subst uv;exact⟨⟨C3,bp.lz (enc:=dk) (fun _=>rfl) BE,o.tx.of de BJ⟩,(bO.trans zW).trans fL⟩
theorem Nd(cs:List Value)(m:o.Model)(inst:Int)(w:World)(h:o.ew w cs m)(a6:m.cT)(a8:h9 w) :
  bq Tryz.prog F.a5 #[.agg cs.toArray,.int .i64 inst] w fun v w'=>fo w' v (o.w9 m inst)∧Ext w w':=by
 have fF:=h;obtain⟨cv,bN,b9,c1,cq,c2,cm,bK,cw,bQ,rfl,aj,h1,U,ai,aL,eG,dt,dB,dT,er⟩:=h.form;refine bI E.a5 ?_;refine bF ?_;refine an ?_;intro w1 b4 dw az aI;refine an ?_;refine K.call (JZ _ m w1 (fF.ext az) a6 (a8.ext az)) ?_;rintro _ aR ⟨rfl,aA⟩;have bg:=az.trans aA;replace aI:=aA.obj aI;refine an ?_;refine K.ki (v:=.int .i64 (o.check m).dh) rfl ?_;refine an ?_;refine K.cond (fun hk=>?_) (fun hk=>?_);rotate_left
 ·refine an ?_;rw[o.Kc fun e=>absurd e hk];exact⟨bB.nil,bg⟩
 have bd:=o.pE hk;refine an ?_;refine K.call (JH _ m aR (fF.ext bg) a6) ?_;rintro cn ba ⟨fg,au⟩;obtain⟨et,ci,rfl,_⟩:=fg.form;have fs:oh ba (.slice et (o.insts m).length ci) (o.insts m):=bp.lz (enc:=o.cW.enc) (fun _=>rfl) fg;replace aI:=au.obj aI;have bO:=bg.trans au;clear fg;refine an ?_;apply K.cond<;>intro g1
 ·refine an ?_;rw[o.Kc fun _=>.inl (by omega)];exact⟨bB.nil,bO⟩
 obtain⟨q,rfl⟩:=Int.eq_ofNat_of_zero_le (show 0≤inst by omega);refine an ?_;apply K.cond<;>intro g2
 ·refine an ?_;rw[o.Kc fun _=>.inr (by omega)];exact⟨bB.nil,bO⟩
 have aF:q<(o.insts m).length:=by omega
 obtain⟨p,bM⟩:=o.JF aF;have aO:=bM.aO;have sB:=bM.eq;have yP:=bM.zz bd;obtain⟨ic,rfl⟩:=fs.addr (by omega);obtain⟨a3,rfl⟩:=ai.addr (by omega);obtain⟨nR,cr,dL,en,eJ,gX⟩:=ai.at p aO;obtain⟨aje,ahb,rfl,ai0⟩:=eJ.form;have uH:=en.ext bO;unfold o.dj.enc at uH;clear en aj h1 U aL;rw[o.adA bM hk];obtain⟨IZ,sA⟩:=o.wJ aF;refine an ?_;refine K.u1 fun bo ji Bd aP ql=>?_;have yO:=eB.empty ql;replace aI:=aP.obj aI;replace uH:=uH.ext aP;have QY:=fs.ext Flat.ext aP;have b8:=bO.trans aP;clear ql;refine an ?_;intro bR bf;replace aI:=bf.obj aI;replace uH:=uH.ext bf;replace QY:=QY.ext Flat.ext bf;have ca:=b8.trans bf;refine an ?_;refine K.dr p (by rw[sB]) aO ?_;refine an ?_;refine K.call (Sn _ m bR (fF.ext ca) a6 (a8.ext ca)) ?_;rintro _ bW ⟨⟨ys,rfl,vZ⟩,bc⟩;have dF:=vZ.here;rw[o.B0 hk] at dF;obtain⟨jJ,d0,lC,d1,lD,d2,ma,d3,lE,d4,rfl,gM,fl,fD,hc,jF⟩:=dF.form;obtain⟨a2,rfl⟩:=fD.addr (by omega);have c0:=ca.trans bc;clear vZ dF gM fl hc jF;refine⟨bc,?_⟩;refine an ?_;refine K.ki (v:=.slice (some a2) (o.layout m).insts.length d2) rfl ?_;refine an ?_;refine⟨bc,?_⟩;refine an ?_;refine K.call (oW ji [] (o.dG m q) (1+m.procs[p].vars.length) _ _ bW ((yO.ext bf).ext bc) (by rw[sA]) (by omega) (by omega)) ?_;rintro _ cj ⟨wD,km⟩;have gP:=km.ext ((aP.trans bf).trans bc) fun k hk e=>by omega
 rw[List.nil_append] at wD;refine an ?_;refine K.call (F4 ji _ cj wD (by rw[o.TL];omega)) ?_;rintro u dC ⟨⟨C3,BE,BJ⟩,bV⟩;refine an ?_;rw[(o.mO.adh _ _).eq BJ fun _=>Iff.rfl];exact⟨bp.lz (enc:=dk) (fun _=>rfl) BE,(bO.trans gP).trans bV⟩
end Go.Proofs.R
end
section
namespace bt
open Go Go.RowKit
structure agJ(e:TypeId)(base:Nat)(w:World)(v1:Value)(dt:List Int)(v2:Value)(dB:List Int):Prop where
 fl:bp dk e 1 base w v1 dt
 fD:bp dk e 1 base w v2 dB
 ap:∀k,v1.ownBlock=some k→v2.ownBlock≠some k
end bt
end
section
namespace o
open Go
def EL:List Node:=[⟨5,0⟩,⟨3,0⟩,⟨1,1⟩,⟨11,0⟩]
def uh:Act:=⟨2,0,0,[⟨5,0⟩],EL⟩
def sf:dD:=⟨⟨#[103,111]⟩,0,0,[],[uh],false⟩
def q7:dj:=⟨⟨#[97]⟩,1,1,[],[sf]⟩
def vQ:Var:=⟨⟨#[120]⟩,0,1,0,3,0⟩
def ga:Model:=⟨[HW],[vQ],[],[q7],[]⟩
theorem PE:(check ga).dh=0:=by decide +kernel
theorem EJ:insts ga=[⟨0,1⟩,⟨0,2⟩]:=by decide +kernel
theorem EK:refs ga=[⟨0,0⟩,⟨1,0⟩]:=by decide +kernel
theorem X1:gj ga 0 0 0 0:=⟨PE,by decide,by rw[EK];decide,by
 have e:∀h,(refs ga)[(0:Int).toNat]'h=⟨0,0⟩:=fun h=>by simp[EK]
 rw[e];exact⟨by rw[EJ];decide,rfl,by simp[EJ],by decide,rfl,by decide⟩⟩
theorem X2:gj ga 1 1 0 0:=⟨PE,by decide,by rw[EK];decide,by
 have e:∀h,(refs ga)[(1:Int).toNat]'h=⟨1,0⟩:=fun h=>by simp[EK]
 rw[e];exact⟨by rw[EJ];decide,rfl,by simp[EJ],by decide,rfl,by decide⟩⟩
theorem X7:qK ga 1 (dE ga 0 0) (dE ga 0 0).b6.length=[3,1]:=by decide +kernel
theorem X9:od ga 1 (dE ga 0 0) (dE ga 0 0).b6.length=[3,1]:=by decide +kernel
theorem X3:uj ga 0 (dE ga 0 0)=[2]:=by decide +kernel
theorem X5:w9 ga 1=[3]:=by decide +kernel
theorem X6:w9 ga 2=[]:=by decide +kernel
theorem TE{l:List Int}(h:mO [3,1] l):l=[1,3]:=F3 l [1,3] h.CX (by decide) fun x=>by rw[h.mem];simp[or_comm]
theorem X8{a b:List Int}(h:tG ga 1 a b):a=[1,3]∧b=[1,3]:=by
 obtain⟨h1,U⟩:=h.there _ _ _ X2;rw[X7] at h1;rw[X9] at U;exact⟨TE h1,TE U⟩
theorem X4{a:List Int}(h:tx ga 0 a):a=[2]:=by
 have h1:=h.there _ _ _ X1;rw[X3] at h1;exact F3 a [2] h1.CX (by decide) fun x=>h1.mem x
theorem PF(x:Node)(h : -1000≤x.op∧x.op≤1000 ∧ -1000≤x.n∧x.n≤1000):x.ok:=⟨nc ⟨h.1,h.2.1⟩,nc h.2.2⟩
theorem EI:ga.cT:=by
 refine⟨by simp[ga,dZ],by simp[ga,dZ],by simp[ga,dZ],by simp[ga,dZ],by simp[ga,dZ],?_,?_,by simp[ga],?_,by simp[ga]⟩
 ·intro a br;simp[ga] at br;subst br;exact⟨nc (by simp[HW])⟩
 ·intro a br;simp[ga] at br;subst br;exact⟨nc (by simp[vQ]),nc (by simp[vQ]),nc (by simp[vQ]),nc (by simp[vQ]),nc (by simp[vQ])⟩
 ·intro a br;simp[ga] at br;subst br;refine⟨nc (by simp[q7]),nc (by simp[q7]),by simp[q7,dZ],by simp[q7,dZ],by simp[q7],?_⟩;intro c av;simp[q7] at av;subst av;refine⟨nc (by simp[sf]),nc (by simp[sf]),by simp[sf,dZ],by simp[sf,dZ],?_⟩;intro b aD;simp[sf] at aD;subst aD;exact⟨nc (by simp[uh]),nc (by simp[uh]),nc (by simp[uh]),by simp[uh,dZ],by simp[uh,EL,dZ]⟩
end o
end
section
namespace Go.Proofs.R
open Go Go.RowKit bt
theorem Ex(w:World):bq Tryz.prog F.uW #[] w fun v w'=>(∃cs,v = .agg cs.toArray∧o.ew w' cs o.ga)∧Ext w w':=by
 refine bI E.uW ?_;refine bF ?_;refine aa ?_;intro w1 bz cK az al;have fy:=cL al;refine aa ?_;intro aR b4 dw aA aI;refine aa ?_;intro ba bZ fG au bG;refine aa ?_;intro bo cE fh aP bJ;refine aa ?_;intro bR dz lV bf cx;refine aa ?_;intro bW ie gG bc dm;have ahD:=(bf.trans bc).obj bJ;refine aa ?_;intro cj lQ jr bP c5;refine aa ?_;intro dC mj Bc bV eL;refine aa ?_;intro ez iM lb cp dP;have Po:=((((((aA.trans au).trans aP).trans bf).trans bc).trans bP).trans bV).trans cp;have oF:=Po.obj al;refine aa ?_;intro eX kQ sq;have mG:=aA.size;have zO:=au.size;have xt:=aP.size;have ajI:=bf.size;have GH:=bc.size;have Dw:=bP.size;have Dx:=bV.size;have gA:=kQ.obj (((((((au.trans aP).trans bf).trans bc).trans bP).trans bV).trans cp).obj aI) (by omega);have kS:=kQ.obj ((((((aP.trans bf).trans bc).trans bP).trans bV).trans cp).obj bG) (by omega);have uQ:=kQ.obj ((((bc.trans bP).trans bV).trans cp).obj cx) (by omega);have yX:=kQ.obj (((bP.trans bV).trans cp).obj dm) (by omega);have uR:=kQ.obj ((bV.trans cp).obj c5) (by omega);have FF:=kQ.obj (cp.obj eL) (by omega);have FG:=kQ.obj dP (by omega);have abS:o.fA eX (.slice (some ⟨b4,0,none⟩) 4 4) o.EL:=bB.aV (enc:=o.Node.enc) (fun _=>rfl) gA rfl (by decide) fun a x aw av=>⟨av,o.PF x (by simp[o.EL] at aw;rcases aw with rfl | rfl | rfl | rfl<;>simp)⟩;have abP:o.fA eX (.slice (some ⟨bZ,0,none⟩) 1 1) [⟨5,0⟩]:=bB.aV (enc:=o.Node.enc) (fun _=>rfl) kS rfl (by decide) fun a x aw av=>⟨av,o.PF x (by simp at aw;subst aw;simp)⟩;have abR:o.fY eX (.slice (some ⟨dz,0,none⟩) 1 1) [o.HW]:=o.fY.aV uQ rfl (by decide) (by intro x aw;simp only[List.mem_singleton] at aw;subst aw;decide);have abT:o.gF eX (.slice (some ⟨ie,0,none⟩) 1 1) [o.vQ]:=o.gF.aV yX rfl (by decide) (by intro x aw;simp only[List.mem_singleton] at aw;subst aw;decide);have abN:o.mH eX (.slice (some ⟨lQ,0,none⟩) 1 1) [o.uh]:=bB.Hi [⟨o.uh.enc (.slice (some ⟨bZ,0,none⟩) 1 1) (.slice (some ⟨b4,0,none⟩) 4 4),rfl,by simp[o.Act.enc,Value.oneCell']⟩] uR rfl rfl rfl (by decide) (by
  intro i h1 U
  have:i=0:=by simp at h1;omega
  subst this;exact⟨_,_,rfl,abP,abS⟩)
 have abO:o.o6 eX (.slice (some ⟨mj,0,none⟩) 1 1) [o.sf]:=bB.Hi [⟨o.sf.enc (.slice none 0 0) (.slice (some ⟨lQ,0,none⟩) 1 1),rfl,by simp[o.dD.enc,Value.oneCell']⟩] FF rfl rfl rfl (by decide) (by
  intro i h1 U
  have:i=0:=by simp at h1;omega
  subst this;exact⟨(show o.hQ o.sf.name by decide),_,_,rfl,bB.nil,abN⟩)
 have abQ:o.o9 eX (.slice (some ⟨iM,0,none⟩) 1 1) [o.q7]:=bB.Hi [⟨o.q7.enc (.slice none 0 0) (.slice (some ⟨mj,0,none⟩) 1 1),rfl,by simp[o.dj.enc,Value.oneCell']⟩] FG rfl rfl rfl (by decide) (by
  intro i h1 U
  have:i=0:=by simp at h1;omega
  subst this;exact⟨(show o.hQ o.q7.name by decide),_,_,rfl,bB.nil,abO⟩)
 refine aa ?_;exact⟨⟨_,rfl,⟨_,_,_,_,_,rfl,abR,abT,bB.nil,abQ,bB.nil⟩⟩,kQ.ext (az.trans Po) cK⟩
theorem ae9(w:World)(a8:h9 w):bq Tryz.prog F.w3 #[] w fun v w'=>v = .bool true∧Ext w w':=by
 refine bI E.w3 ?_;refine bF ?_;refine aa ?_;refine K.call (Ex w) ?_;rintro _ w1 ⟨⟨cs,rfl,bd⟩,az⟩;obtain⟨cv,bN,b9,c1,cq,c2,cm,bK,cw,bQ,rfl,_⟩:=bd.form;refine aa ?_;refine K.call (Nc _ o.ga 1 w1 bd o.EI (a8.ext az)) ?_;rintro _ aR ⟨⟨eD,xp,a,b,rfl,j1,iG,iA⟩,aA⟩;obtain⟨rfl,rfl⟩:=o.X8 iA;obtain⟨bh,iN,rfl,_⟩:=j1.form;obtain⟨w7,qb,rfl,_⟩:=iG.form;have bg:=az.trans aA;clear bd;refine aa ?_;intro ba bZ fG au bG;have bO:=bg.trans au;refine aa ?_;refine K.call (FN _ _ _ [1,3] ba (j1.ext Flat.ext au) (bB.aV (enc:=dk) (R:=Flat dk) (fun _=>rfl) bG rfl (by decide) fun _ _ _ h=>h)) ?_;rintro _ bo ⟨⟨t,rfl,aK⟩,aP⟩;obtain rfl:=aK.2 rfl;have b8:=bO.trans aP;clear bG;refine aa ?_;intro bR dz lV bf cx;have ca:=b8.trans bf;refine aa ?_;refine K.call (FN _ _ _ [1,3] bR (iG.ext Flat.ext ((au.trans aP).trans bf)) (bB.aV (enc:=dk) (R:=Flat dk) (fun _=>rfl) cx rfl (by decide) fun _ _ _ h=>h)) ?_;rintro _ bW ⟨⟨t,rfl,aK⟩,bc⟩;obtain rfl:=aK.2 rfl;have c0:=ca.trans bc;clear cx j1 iG;refine aa ?_;refine K.call (Ex bW) ?_;rintro _ cj ⟨⟨cs,rfl,bd⟩,bP⟩;obtain⟨cv,bN,b9,c1,cq,c2,cm,bK,cw,bQ,rfl,_⟩:=bd.form;have ee:=c0.trans bP;refine aa ?_;refine K.call (Va _ o.ga 0 cj bd o.EI (a8.ext ee)) ?_;rintro _ dC ⟨⟨g,J6,Y4⟩,bV⟩;obtain rfl:=o.X4 Y4;obtain⟨n3,kE,rfl,_⟩:=J6.form;have fq:=ee.trans bV;clear bd;refine aa ?_;intro ez iM lb cp dP;have lT:=fq.trans cp;refine aa ?_;refine K.call (FN _ _ _ [2] ez (J6.ext Flat.ext cp) (bB.aV (enc:=dk) (R:=Flat dk) (fun _=>rfl) dP rfl (by decide) fun _ _ _ h=>h)) ?_;rintro _ eX ⟨⟨t,rfl,aK⟩,dI⟩;obtain rfl:=aK.2 rfl;have jR:=lT.trans dI;clear dP J6;refine aa ?_;refine K.call (Ex eX) ?_;rintro _ hh ⟨⟨cs,rfl,bd⟩,hr⟩;obtain⟨cv,bN,b9,c1,cq,c2,cm,bK,cw,bQ,rfl,_⟩:=bd.form;have q4:=jR.trans hr;refine aa ?_;refine K.call (Nd _ o.ga 1 hh bd o.EI (a8.ext q4)) ?_;rintro _ lB ⟨FX,fL⟩;rw[o.X5] at FX;obtain⟨ajf,yh,rfl,_⟩:=FX.form;have AN:=q4.trans fL;clear bd;refine aa ?_;intro o5 r4 It iT iS;have XE:=AN.trans iT;refine aa ?_;refine K.call (FN _ _ _ [3] o5 (FX.ext Flat.ext iT) (bB.aV (enc:=dk) (R:=Flat dk) (fun _=>rfl) iS rfl (by decide) fun _ _ _ h=>h)) ?_;rintro _ Gx ⟨⟨t,rfl,aK⟩,oG⟩;obtain rfl:=aK.2 rfl;have XF:=XE.trans oG;clear iS FX;refine aa ?_;refine K.call (Ex Gx) ?_;rintro _ UJ ⟨⟨cs,rfl,bd⟩,nJ⟩;obtain⟨cv,bN,b9,c1,cq,c2,cm,bK,cw,bQ,rfl,_⟩:=bd.form;have Pm:=XF.trans nJ;refine aa ?_;refine K.call (Nd _ o.ga 2 UJ bd o.EI (a8.ext Pm)) ?_;rintro _ ajw ⟨s4,uw⟩;rw[o.X6] at s4;obtain⟨Kd,cZ,rfl,_⟩:=s4.form;have XG:=Pm.trans uw;refine aa ?_;exact⟨bu,XG⟩
end Go.Proofs.R
end
section
namespace o
theorem ad8{s:List Scalar}{c:c4}{l:List Int}(aQ:l.length=1+c.cap.toNat)(aj:1≤c.cap):lL s c l↔(0≤l[0]'(by omega)∧l[0]'(by omega)≤c.cap∧∀k (h:k+1<l.length),((k:Int)<l[0]'(by omega)→(eK c.scalar c.aZ c.ad s).aZ≤l[k+1]∧l[k+1]≤(eK c.scalar c.aZ c.ad s).ad)∧(l[0]'(by omega)≤k→l[k+1]=0)):=by
 unfold lL;constructor
 ·rintro⟨n,h1,U,ai,aL⟩;obtain⟨_,rfl⟩:=List.getElem?_eq_some_iff.1 h1;refine⟨U,ai,fun k h=>?_⟩;obtain⟨x,bn,bL⟩:=aL k (by omega);obtain⟨_,rfl⟩:=List.getElem?_eq_some_iff.1 bn;exact bL
 ·rintro⟨U,ai,aL⟩;exact⟨l[0]'(by omega),List.getElem?_eq_getElem _,U,ai,fun k h=>⟨l[k+1]'(by omega),List.getElem?_eq_getElem _,aL k (by omega)⟩⟩
end o
end
section
namespace o
open Classical in
noncomputable def CZ(s:List Scalar)(c:c4)(l:List Int):Bool:=decide (lL s c l)
theorem Ko{s:List Scalar}{c:c4}{l:List Int}:CZ s c l=true↔lL s c l:=by unfold CZ;simp
theorem ad6{s:List Scalar}{c:c4}{l:List Int}{t:Bool}(h:t=true↔lL s c l):t=CZ s c l:=by
 rw[←Ko] at h;cases t<;>cases aF:CZ s c l<;>simp_all
end o
namespace Go.Proofs.R
open Go Go.RowKit bt
theorem acH(cs:List Value)(m:o.Model)(w:World)(h:o.ew w cs m)(a6:m.cT) :
  bq Tryz.prog F.Cn #[.agg cs.toArray] w fun v w'=>v = .bool (decide ((o.check m).dh=0))∧Ext w w':=by
 obtain⟨cv,bN,b9,c1,cq,c2,cm,bK,cw,bQ,rfl,_⟩:=h.form;refine bI E.Cn ?_;refine bF ?_;refine an ?_;intro w1 bz cK az al;refine an ?_;refine K.call (Kx _ m w1 (h.ext az) a6) ?_;rintro _ aR ⟨rfl,aA⟩;unfold ui;refine an ?_;refine K.ki (v:=.int .i64 (o.check m).dh) rfl ?_;refine an ?_;exact⟨bu,az.trans aA⟩
theorem aep(cs:List Value)(m:o.Model)(v:Value)(l:List Int)(i:Nat)(w:World)(h:o.ew w cs m)(bd:o.eI m)(ad:i<m.aH.length)(aO:fo w v l)(ps:l.length=1+m.aH[i].cap.toNat) :
  bq Tryz.prog F.Cx #[.agg cs.toArray,v,.int .i64 i] w fun u w'=>(∃t:Bool,u = .bool t∧(t=true↔o.lL m.scalars m.aH[i] l))∧Ext w w':=by
 obtain⟨cv,bN,b9,c1,cq,c2,cm,bK,cw,bQ,rfl,aj,h1,U,ai,aL,eG,dt,dB,dT,er⟩:=h.form;obtain⟨eP,ff,rfl,fH⟩:=aO.form;have dd:=bd.chan _ (List.getElem_mem ad);have ho:=dd.cap;have gT:=bd.gT;obtain⟨ac,rfl⟩:=U.addr (by omega);obtain⟨ap,rfl⟩:=aO.addr (by omega);have eu:=(U.at i ad).cells;have aF:=o.ad8 (s:=m.scalars) (c:=m.aH[i]) (l:=l) ps ho.1;obtain⟨aZ,iW⟩:∃aZ,aZ=(o.eK m.aH[i].scalar m.aH[i].aZ m.aH[i].ad m.scalars).aZ:=⟨_,rfl⟩;obtain⟨cN,Bq⟩:∃ad,ad=(o.eK m.aH[i].scalar m.aH[i].aZ m.aH[i].ad m.scalars).ad:=⟨_,rfl⟩;rw[←iW,←Bq] at aF;refine bI E.Cx ?_;refine bF ?_;refine an ?_;intro w1 bz cK az al;replace eu:=eu.ext az;refine an ?_;intro aR lQ jr aA c5;replace al:=aA.obj al;have bg:=az.trans aA;replace aO:=aO.ext Flat.ext bg;clear eu;refine an ?_;refine K.dr 0 rfl (by omega) ?_;refine an ?_;apply K.cond<;>intro g1
 ·refine an ?_;intro ba au;refine an ?_;exact⟨⟨false,rfl,by simp only[Bool.false_eq_true,false_iff];intro h;exact absurd (aF.1 h).1 (by omega)⟩,bg.trans au⟩
 refine an ?_;refine K.dr 0 rfl (by omega) ?_;refine an ?_;intro ba au;replace al:=au.obj al;replace c5:=au.obj c5;replace aO:=aO.ext Flat.ext au;have bO:=bg.trans au;apply K.cond<;>intro g2
 ·refine an ?_;exact⟨⟨false,rfl,by simp only[Bool.false_eq_true,false_iff];intro h;exact absurd (aF.1 h).2.1 (by omega)⟩,bO⟩
 refine an ?_;refine K.call (Kv ⟨⟨#[]⟩,m.aH[i].scalar,0,m.aH[i].aZ,m.aH[i].ad,0⟩ _ m.scalars ba (aj.ext bO)) ?_;rintro _ bo ⟨rfl,aP⟩;have Pt:((o.bounds ⟨⟨#[]⟩,m.aH[i].scalar,0,m.aH[i].aZ,m.aH[i].ad,0⟩ m.scalars).1=aZ)∧(o.bounds ⟨⟨#[]⟩,m.aH[i].scalar,0,m.aH[i].aZ,m.aH[i].ad,0⟩ m.scalars).2=cN:=by
  rw[iW,Bq,show o.eK m.aH[i].scalar m.aH[i].aZ m.aH[i].ad m.scalars=_ from o.Av ⟨⟨#[]⟩,m.aH[i].scalar,0,m.aH[i].aZ,m.aH[i].ad,0⟩ m.scalars];exact⟨rfl,rfl⟩
 rw[Pt.1,Pt.2];have Zz:=aP.obj c5;replace aO:=aO.ext Flat.ext aP;have b8:=bO.trans aP;refine an ?_;refine K.Dt [1,7,8,9] (fun x:Nat=>[(10,.int .i64 ((x:Int)+1))]) 0 (fun x W=>Ext bo W∧(x:Int)≤m.aH[i].cap∧∀j (h:j+1<l.length),j<x→((j:Int)<l[0]→aZ≤l[j+1]∧l[j+1]≤cN)∧(l[0]≤j→l[j+1]=0)) (fun x=>(m.aH[i].cap - x).toNat) bw ⟨Ext.refl _,by omega,fun j _ h=>absurd h (Nat.not_lt_zero _)⟩ ?_;clear al c5;rintro k S bR ⟨bf,hk,c8⟩;have c5:=bf.obj Zz;have ca:=b8.trans bf;replace aO:=aO.ext Flat.ext bf;refine an ?_;apply K.cond<;>intro g3
 ·have e5:k+1<l.length:=by omega
  have bad:¬(((k:Int)<l[0]→aZ≤l[k+1]∧l[k+1]≤cN)∧(l[0]≤k→l[k+1]=0))→(false=true↔o.lL m.scalars m.aH[i] l):=fun h=>by
   simp only[Bool.false_eq_true,false_iff];exact fun df=>h ((aF.1 df).2.2 k e5)
  refine an ?_;refine K.dr 0 rfl (by omega) ?_;refine an ?_;apply K.cond<;>intro g4
  ·refine an ?_;apply K.cond<;>intro g5
   ·refine an ?_;exact⟨⟨false,rfl,bad fun h=>by have:=h.1 (by omega);omega⟩,ca⟩
   refine an ?_;apply K.cond<;>intro g6
   ·refine an ?_;exact⟨⟨false,rfl,bad fun h=>by have:=h.1 (by omega);omega⟩,ca⟩
   refine an ?_;refine K.dr 0 rfl (by omega) ?_;refine an ?_;exact⟨k+1,bw,⟨bf,by omega,fun j h aT=>by
    by_cases hs:j=k
    ·subst hs;exact⟨fun _=>by omega,fun _=>by omega⟩
    ·exact c8 j h (by omega)⟩,by omega⟩
  ·refine an ?_;refine K.dr 0 rfl (by omega) ?_;refine an ?_;apply K.cond<;>intro g5
   ·refine an ?_;exact⟨k+1,bw,⟨bf,by omega,fun j h aT=>by
     by_cases hs:j=k
     ·subst hs;exact⟨fun _=>by omega,fun _=>by omega⟩
     ·exact c8 j h (by omega)⟩,by omega⟩
   ·refine an ?_;exact⟨⟨false,rfl,bad fun h=>by have:=h.2 (by omega);omega⟩,ca⟩
 ·refine an ?_;exact⟨⟨true,rfl,by simp only[true_iff];exact aF.2 ⟨by omega,by omega,fun j h=>c8 j h (by omega)⟩⟩,ca⟩
theorem aeN(xs:List Value)(m:o.Model)(v:Value)(s:List Int)(w:World)(dF:o.jg w xs (o.layout m))(bd:o.eI m)(ay:fo w v s)(aQ:s.length=o.fO m) :
  bq Tryz.prog F.Cy #[.agg xs.toArray,v] w fun u w'=>(∃t:Bool,u = .bool t∧(t=true↔∀i (h:i<s.length) (bA:i<(o.b1 m).length),(o.b1 m)[i].aZ≤s[i]∧s[i]≤(o.b1 m)[i].ad))∧Ext w w':=by
 obtain⟨jJ,d0,lC,d1,lD,d2,ma,d3,lE,d4,rfl,gM,fl,fD,hc,jF⟩:=dF.form;obtain⟨eP,ff,rfl,fH⟩:=ay.form;have AX:(o.layout m).cells=(o.fO m:Int):=rfl;have f2:=o.Su m;have f3:=o.Ss m;have nD:o.fO m≤64:=o.l3 bd;have yH:(o.b1 m).length=s.length:=aQ.symm;refine bI E.Cy ?_;refine bF ?_;refine an ?_;intro w1 bz cK az al;have oF:=al;clear al;replace ay:=ay.ext Flat.ext az;replace hc:=hc.ext Flat.ext az;replace jF:=jF.ext Flat.ext az;refine an ?_;refine K.da 5 s.length [1,2] (fun _:Unit=>[]) () (fun k _ W=>Ext w1 W∧∀j (h:j<s.length) (bA:j<(o.b1 m).length),j<k→(o.b1 m)[j].aZ≤s[j]∧s[j]≤(o.b1 m)[j].ad) bw bw ⟨Ext.refl _,fun j _ _ h=>absurd h (Nat.not_lt_zero _)⟩ ?_;rintro k _ S aR hk ⟨aA,c8⟩;have al:=aA.obj oF;refine an ?_;apply K.cond<;>intro g3
 ·have bb:k<s.length:=by omega
  have wx:k<(o.b1 m).length:=by omega
  have dT:(o.layout m).aZ[k]'(by omega)=(o.b1 m)[k].aZ:=o.St _ wx;have er:(o.layout m).ad[k]'(by omega)=(o.b1 m)[k].ad:=o.Sr _ wx;obtain⟨xT,rfl⟩:=ay.addr (by omega);obtain⟨a3,rfl⟩:=hc.addr (by omega);obtain⟨a4,rfl⟩:=jF.addr (by omega);have bad:¬((o.b1 m)[k].aZ≤s[k]∧s[k]≤(o.b1 m)[k].ad)→(false=true↔∀i (h:i<s.length) (bA:i<(o.b1 m).length),(o.b1 m)[i].aZ≤s[i]∧s[i]≤(o.b1 m)[i].ad):=fun h=>by
   simp only[Bool.false_eq_true,false_iff];exact fun df=>h (df k bb wx)
  have bg:=az.trans aA;refine an ?_;apply K.cond<;>intro g4
  ·refine an ?_;intro ba au;refine an ?_;exact⟨⟨false,rfl,bad (by omega)⟩,bg.trans au⟩
  refine an ?_;intro ba au;apply K.cond<;>intro g5
  ·refine an ?_;exact⟨⟨false,rfl,bad (by omega)⟩,bg.trans au⟩
  refine an ?_;refine⟨bb,bu,(),trivial,aA.trans au,fun j h bA aT=>?_⟩;by_cases hs:j=k
  ·subst hs;omega
  ·exact c8 j h bA (by omega)
 ·refine an ?_;exact⟨⟨true,rfl,by simp only[true_iff];exact fun j h bA=>c8 j h bA (by omega)⟩,az.trans aA⟩
theorem Tq(cs xs:List Value)(m:o.Model)(v:Value)(s:List Int)(w:World)(h:o.ew w cs m)(dF:o.jg w xs (o.layout m))(bd:o.eI m)(ay:fo w v s) :
  bq Tryz.prog F.zd #[.agg cs.toArray,.agg xs.toArray,v] w fun u w'=>(∃t:Bool,u = .bool t∧(t=true↔o.Fits m s))∧Ext w w':=by
 have fF:=h;have ra:=dF;obtain⟨cv,bN,b9,c1,cq,c2,cm,bK,cw,bQ,rfl,aj,h1,U,ai,aL,eG,dt,dB,dT,er⟩:=h.form;obtain⟨jJ,d0,lC,d1,lD,d2,ma,d3,lE,d4,rfl,gM,fl,fD,hc,jF⟩:=dF.form;obtain⟨eP,ff,rfl,fH⟩:=ay.form;have AX:(o.layout m).cells=(o.fO m:Int):=rfl;have nD:o.fO m≤64:=o.l3 bd;have gT:=bd.gT;refine bI E.zd ?_;refine bF ?_;refine an ?_;intro w1 bz cK az al;refine an ?_;intro aR b4 dw aA aI;replace al:=aA.obj al;have bg:=az.trans aA;replace ay:=ay.ext Flat.ext bg;refine an ?_;apply K.cond<;>intro g1;rotate_left
 ·refine an ?_;exact⟨⟨false,rfl,by simp only[Bool.false_eq_true,false_iff];intro h;have:=h.len;omega⟩,bg⟩
 have aQ:s.length=o.fO m:=by omega
 have oF:=al;have Be:=aI;clear al aI;refine an ?_;refine K.da 7 m.aH.length [2,3,4] (fun _:Unit=>[]) () (fun k _ W=>Ext aR W∧∀j (h:j<m.aH.length),j<k→o.lL m.scalars m.aH[j] (o.nA m j m.aH[j] s)) bw bw ⟨Ext.refl _,fun j _ h=>absurd h (Nat.not_lt_zero _)⟩ ?_;rintro k _ S ba hk ⟨au,c8⟩;have al:=au.obj oF;have aI:=au.obj Be;have bO:=bg.trans au;have gY:=ay.ext Flat.ext au;refine an ?_;apply K.cond<;>intro g2
 ·have bb:k<m.aH.length:=by omega
  obtain⟨lf,eZ⟩:=o.vH bb;have nN:=o.x9 bb;have gy:=o.q1 m;have ho:=(bd.chan _ (List.getElem_mem bb)).cap;obtain⟨dy,rfl⟩:=fl.addr (by omega);obtain⟨a2,rfl⟩:=U.addr (by omega);have ajl:=fl.ext Flat.ext bO;have eu:=((U.at k bb).cells).ext bO;refine an ?_;refine K.Ga (k:=.i64) (k':=.i64) (o.cU m k) (o.cU m k+(1+m.aH[k].cap.toNat)) gY (by simp[fr,cb,eZ]) (by simp[fr,cb,eZ];omega) (by omega) (by omega) fun aq c aO=>?_;rw[show o.cU m k+(1+m.aH[k].cap.toNat) - o.cU m k=1+m.aH[k].cap.toNat from by omega] at aO ⊢;replace aO:bB 1 (Flat dk) ba (.slice aq (1+m.aH[k].cap.toNat) c) (o.nA m k m.aH[k] s):=aO;refine an ?_;refine K.fX (.bool (o.CZ m.scalars m.aH[k] (o.nA m k m.aH[k] s))) (fun w' e=>(aep _ m _ _ k w' (fF.ext (bO.trans e)) bd bb (aO.ext Flat.ext e) aO.len.1.symm).mono fun u bY ⟨⟨t,aK,aF⟩,he⟩=>⟨by rw[aK,o.ad6 aF],he⟩) ?_;refine an ?_;intro bo aP;refine K.cX (fun aF=>?_) (fun aF=>?_)
  ·refine an ?_;refine⟨bb,bu,(),trivial,au.trans aP,fun j h aT=>?_⟩;by_cases hs:j=k
   ·subst hs;exact o.Ko.1 aF
   ·exact c8 j h (by omega)
  ·refine an ?_;exact⟨⟨false,rfl,by simp only[Bool.false_eq_true,false_iff];intro h;have:=o.Ko.2 (h.queue k bb);rw[aF] at this;cases this⟩,bO.trans aP⟩
 ·refine an ?_;refine K.call (aeN _ m _ s ba (ra.ext bO) bd gY aQ) ?_;rintro _ bo ⟨⟨t,rfl,aK⟩,aP⟩;refine an ?_;exact⟨⟨t,rfl,aK.trans ⟨fun h=>⟨aQ,fun j aT=>c8 j aT (by omega),h⟩,fun h=>h.cell⟩⟩,bO.trans aP⟩
theorem aeh(cs:List Value)(m:o.Model)(v:Value)(s:List Int)(w:World)(h:o.ew w cs m)(a6:m.cT)(ay:fo w v s) :
  bq Tryz.prog F.Cv #[.agg cs.toArray,v] w fun u w'=>(∃t:Bool,u = .bool t∧(t=true↔o.tH m s))∧Ext w w':=by
 have bd:=h;obtain⟨cv,bN,b9,c1,cq,c2,cm,bK,cw,bQ,rfl,_⟩:=h.form;obtain⟨eP,ff,rfl,fH⟩:=ay.form;refine bI E.Cv ?_;refine bF ?_;refine an ?_;intro w1 bz cK az al;refine an ?_;intro aR aA;replace al:=aA.obj al;have bg:=az.trans aA;refine an ?_;refine K.call (acH _ m aR (bd.ext bg) a6) ?_;rintro _ ba ⟨rfl,au⟩;have bO:=bg.trans au;refine⟨au,?_⟩;by_cases hk:(o.check m).dh=0
 ·rw[decide_eq_true hk];refine an ?_;refine K.call (aeA _ m ba (bd.ext bO) a6) ?_;rintro _ bo ⟨⟨xs,rfl,dF⟩,aP⟩;replace dF:=dF.here;rw[o.B0 hk] at dF;have b8:=bO.trans aP;refine⟨au.trans aP,?_⟩;refine an ?_;refine K.call (Tq _ _ m _ s bo (bd.ext b8) dF (o.pE hk) (ay.ext Flat.ext b8)) ?_;rintro _ bR ⟨⟨t,rfl,aK⟩,bf⟩;refine an ?_;exact⟨⟨t,by cases t<;>rfl,aK.trans ⟨fun h=>⟨hk,h⟩,fun h=>h.2⟩⟩,b8.trans bf⟩
 ·rw[decide_eq_false hk];refine an ?_;exact⟨⟨false,rfl,by simp only[Bool.false_eq_true,false_iff];exact fun h=>hk h.1⟩,bO⟩
end Go.Proofs.R
end
section
namespace bt
open Go Go.RowKit
def nd(l:List Int):List Value:=l.map (Value.int .i64)
theorem abE(l:List Int):(nd l).length=l.length:=by simp[nd]
theorem abF{l:List Int}{d j:Nat}{x:Int}(aT:j=d)(h:j<(nd l).toArray.size):(nd l).toArray.set j (.int .i64 x) h=(nd (l.set d x)).toArray:=by
 subst aT;simp[nd,List.map_set]
theorem agE(n:Nat):rQ (Value.int .i64 0).cells (n*1)=(nd (List.replicate n 0)).toArray:=by
 apply Array.ext_getElem?;intro i;by_cases h:i<n
 ·simp[rQ,nd,Value.cells,h,Nat.mod_one]
 ·simp[rQ,nd,h]
theorem K.acM{cY:Value→World→Prop}{w:World}{e:TypeId}{n:Int}{t}(N:Nat)(aN:n=N)(aD:N≤1000000)(hk:∀w1 b,w.heap.size≤b→Ext w w1→w1.heap[b]? = some (.cells (nd (List.replicate N 0)).toArray e)→cY (.slice (some ⟨b,0,none⟩) N N) w1) :
  Aa e 1 8 (.int .i64 0) (.int .i64 n) (.int .i64 n) w cY t:=by
 subst aN;refine K.uZ ⟨by omega,by omega,by omega,by omega⟩ ?_;have h:=hk (w.alloc (.cells (nd (List.replicate N 0)).toArray e)) _ (Nat.le_refl _) ((Ext.refl w).alloc _) (heap_alloc_new w _);rw[Int.toNat_natCast,agE];exact h
theorem JJ:∀l:List Int,nd l=l.flatMap dk
 | []=>rfl
 | x :: r=>by
  have:=JJ r
  simp only[nd,List.map_cons,List.flatMap_cons] at this ⊢;rw[this];rfl
theorem ac5{w:World}{b n:Nat}{e:TypeId}{l:List Int}(h:w.heap[b]? = some (.cells (nd l).toArray e))(aN:n=l.length)(hm:l.length≤maxLen):bB 1 (Flat dk) w (.slice (some ⟨b,0,none⟩) n n) l :=
 bB.aV (enc:=dk) (fun _=>rfl) (by rw[h,JJ]) aN hm fun _ _ _ h=>h
end bt
namespace Go.Proofs.R
open Go Go.RowKit bt
def D4(w:World)(a:Addr)(l:List Int):Prop := ∃v,w.cell? a=some v∧fo w v l
abbrev Ac(w:World)(v:Value)(l:List (List Int)):Prop:=bB 1 D4 w v l
theorem aem(cs ys:List Value)(v:Value)(m:o.Model)(s:List Int)(p:Nat)(w:World)(h:o.ew w cs m)(a6:m.cT)(bd:o.eI m)(dF:o.jg w ys (o.layout m))(ay:fo w v s)(aJ:o.Fits m s)(aO:p<m.procs.length) :
  bq Tryz.prog F.Cw #[.agg cs.toArray,.agg ys.toArray,v,.int .i64 p] w fun u w'=>bp dk T.a 1 w.heap.size w' u (o.jN m s p m.procs[p].cz (o.insts m).length)∧Ext w w':=by
 have fF:=h;obtain⟨cv,bN,b9,c1,cq,c2,cm,bK,cw,bQ,rfl,aj,h1,U,ai,aL,eG,dt,dB,dT,er⟩:=h.form;obtain⟨jJ,d0,lC,d1,lD,d2,ma,d3,lE,d4,rfl,gM,fl,fD,hc,jF,hL,eO,gA,kS⟩:=dF.form;obtain⟨eP,ff,rfl,fH⟩:=ay.form;have hlen:=aJ.len;have nD:o.fO m≤64:=o.l3 bd;have pr:(o.insts m).length≤30:=by have:=o.sO m;have:=bd.procs;omega
 have dd:=bd.proc _ (List.getElem_mem aO);have Rf:=dd.cz;obtain⟨f6,f7,f8⟩:=o.JS m;obtain⟨a,rfl⟩:=ai.addr (by omega);obtain⟨nR,cr,dL,en,eJ,gX⟩:=ai.at p aO;refine bI E.Cw ?_;refine bF ?_;refine an ?_;intro w1 bz cK az al;refine an ?_;intro aR b4 dw aA aI;replace al:=aA.obj al;have bg:=az.trans aA;replace en:=en.ext bg;unfold o.dj.enc at en;refine an ?_;refine K.acM m.procs[p].cz.toNat (by omega) (by omega) ?_;intro ba tP Zk au lW;rw[←o.VZ m s p] at lW;replace al:=au.obj al;replace aI:=au.obj aI;have bO:=bg.trans au;have z2:=bg.size;clear en;refine an ?_;refine K.call (C6 _ m ba (fF.ext bO) a6) ?_;rintro cn ob ⟨fg,rk⟩;obtain⟨et,ci,rfl,_⟩:=fg.form;replace aI:=rk.obj aI;replace lW:=rk.obj lW;have ks:tP≠b4:=by
  intro e;subst e;rw[aI] at lW;injection lW with lW;injection lW with _ lW;revert lW;decide
 have aai:∀{W},Mod (fun k=>k=tP) ob W→dV [T.a] ob W:=fun h=>dV.mod h fun k c t av a=>by
  subst a;rw[lW] at av;injection av with av;injection av with _ av;rw[←av];simp
 have I0:∀{W:World},Mod (fun k=>k=tP) ob W→oh W (.slice et (o.insts m).length ci) (o.insts m):=fun k=>bp.lz (enc:=o.cW.enc) (fun _=>rfl) (fg.gZ (aai k) (by decide));have hK:∀{W},Mod (fun k=>k=tP) ob W→W.heap[b4]? = ob.heap[b4]? := fun h=>h.block _ (cL aI) (Ne.symm ks);have e0:∀{W},Mod (fun k=>k=tP) ob W→Ext aR W:=fun h=>h.ext (au.trans rk) fun i ad e=>by omega
 rw[aI] at hK;clear al aI;refine an ?_;refine K.da 11 (o.insts m).length [2,3,5,9,10] (fun _:Unit=>[]) () (fun k _ W=>Mod (fun i=>i=tP) ob W∧W.heap[tP]? = some (.cells (nd (o.jN m s p m.procs[p].cz k)).toArray T.a)) bw bw ⟨Mod.refl _ _,lW⟩ ?_;clear lW;rintro k _ S bo bb ⟨hm,lW⟩;have aI:=hK hm;have fs:=I0 hm;have b8:=bg.trans (e0 hm);refine an ?_;apply K.cond<;>intro g1
 ·have e5:k<(o.insts m).length:=by omega
  obtain⟨ic,rfl⟩:=fs.addr (by omega);have qs:=o.qw _ (List.getElem_mem e5);obtain⟨q,aF,aaP,re⟩:=o.BU qs;have QW:(o.insts m)[k]?.map (·.proc)=some (q:Int):=by rw[List.getElem?_eq_getElem e5,Option.map_some,aaP]
  obtain⟨d,RC,ahN⟩:=aJ.loc e5 aF re;obtain⟨lk,RD⟩:=List.getElem?_eq_some_iff.1 RC;obtain⟨ail,nV⟩:=o.wJ e5;obtain⟨xT,rfl⟩:=ay.addr (by omega);obtain⟨a2,rfl⟩:=fD.addr (by omega);have lZ:=ay.ext Flat.ext b8;have C0:=fD.ext Flat.ext b8;refine an ?_;apply K.cond<;>intro g2
  ·have aaQ:q=p:=by omega
   subst aaQ;have hq:d<m.procs[q].cz.toNat:=by omega
   have lj:=o.vB m s q m.procs[q].cz k;have aaV:=o.Ef (m:=m) (s:=s) (p:=q) (k:=k) hq;have eU:=o.OE m s q d k;refine an ?_;refine K.dr (o.dG m k) (by rw[nV]) (by rw[hlen];omega) ?_;refine an ?_;have yQ:fo bo (.slice (some ⟨tP,0,none⟩) m.procs[q].cz.toNat m.procs[q].cz.toNat) (o.jN m s q m.procs[q].cz k):=ac5 lW lj.symm (by rw[lj];unfold maxLen;omega);have QJ:d<(o.jN m s q m.procs[q].cz k).length:=by omega
   obtain⟨_,aaW⟩:=List.getElem?_eq_some_iff.1 aaV;refine K.dr d RD hq ?_;refine an ?_;rw[aaW];refine an ?_;refine K.dr d RD hq ?_;refine an ?_;refine K.st1 lW (by rw[List.size_toArray,abE];omega) rfl fun bR ft cx=>?_;rw[abF (Nat.mul_one _),←o.VY QW RC hq] at cx;refine an ?_;exact⟨by omega,bu,(),trivial,hm.trans (ft.mod rfl),cx⟩
  ·refine an ?_;refine⟨e5,bu,(),trivial,hm,?_⟩;rw[o.VX (by rw[QW];intro e;have:=Option.some.inj e;omega)];exact lW
 ·have Bu:(o.insts m).length=k:=by omega
  refine an ?_;exact⟨by rw[Bu];exact bp.low bg.size (bp.Ej _ lW Zk (JJ _) (fun _=>rfl) (o.vB _ _ _ _ _).symm (by rw[o.vB];unfold maxLen;omega)),b8⟩
end Go.Proofs.R
end
section
namespace bt
open Go Go.RowKit
section
variable{P:Program}{cY:Value→World→Prop}{e:TypeId}{sz base:Nat}{w:World}{s x:Value}{xs ys:List (np sz)}
theorem K.OB{ty:TypeId}{b:Nat}{t}(ay:tB e sz base w s xs)(aw:bB sz (Flat q5) w x ys)(aD:(xs.length+ys.length)*b≤140737488355328)(jo:xs.length+ys.length≤maxLen)(iB:base≤w.heap.size)
  (hk:∀b3 w',tB e sz base w' b3 (xs++ys)→w.grownBy w' s.ownBlock→cY b3 w'):j5 P ty e sz b s x w cY t:=by
 obtain⟨bh,cap,rfl,h1,U,ai,aL⟩:=aw.ex;cases bh with
 | some a=>exact K.tM ay ue (bB.flat ue (fun _ _ h=>h) ⟨some a,cap,rfl,h1,U,ai,aL⟩) rfl HP aD jo iB fun b3 w' bn bL _=>hk b3 w' bn bL
 | none =>
  have:ys=[]:=Classical.byContradiction fun aN=>by have:=ai aN;cases this
  subst this;rw[List.append_nil] at hk;refine K.app fun⟨aK,i,z,ad,bU,yR,yu,wI,Fx⟩=>?_;refine⟨ty,s,w,?_,hk s w ay ⟨rfl,rfl,rfl,Nat.le_refl _,fun _ _ _=>rfl⟩⟩;rcases ay.2 with ⟨rfl,aj⟩ | ⟨g,cap,cur,rfl,_,_,BB,_⟩
  ·simp[Builtin.append_,run_underlying aK,Go.sizeOf,typeInfo,ad,Builtin.lenOf,Builtin.firstCells]
  ·simp[Builtin.append_,run_underlying aK,Go.sizeOf,typeInfo,ad,Builtin.lenOf,Builtin.firstCells,BB,storeCells]
end
end bt
end
section
namespace bt
open Go Go.RowKit
structure agN{α:Type}(C:World→List Value→α→Prop)(e:TypeId)(sz base:Nat)(v:Value)(w0 ws:World)(xs:List α)(k:Nat)(x:List (np sz))(W:World):Prop where
 m:Mod (fun i=>v.ownBlock=some i) ws W
 aV:∀i,v.ownBlock=some i→base≤i∧i<ws.heap.size∧∃cur,ws.heap[i]? = some (.cells cur e)
 len:x.length=xs.length
 own:tB e sz base W v x
 new:∀i (h1:i<x.length) (U:i<xs.length),i<k→fM (fun j=>j<ws.heap.size) (fun w=>C w x[i].1 xs[i]) W
 kt:∀i (h1:i<x.length) (U:i<xs.length),k≤i→C w0 x[i].1 xs[i]
theorem K.Xq{α:Type}{P:Program}{cY:Value→World→Prop}{R:World→Addr→α→Prop}{C:World→List Value→α→Prop}{e:TypeId}{sz:Nat}[Rel R C sz]{w0 w l9:World}{x:Value}{xs:List α}{ty:TypeId}{b vE:Nat}{t}
  (aw:bB sz R w0 x xs)(du:Ext w0 w)(EW:w.heap.size≤vE)(wk:Ext w l9)(E1:l9.heap[vE]? = some (.cells #[] e))(aJ:∀{w w':World} {cs x},C w cs x→C w' cs x)(aD:xs.length*b≤140737488355328)
  (hk:∀bh c w',dW w (fun w=>bB sz R w (.slice bh xs.length c) xs) w'→Ext w w'→Mod (fun i=>i=vE) l9 w'→cY (.slice bh xs.length c) w'):j5 P ty e sz b (.slice (some ⟨vE,0,none⟩) 0 0) x l9 cY t:=by
 obtain⟨eF,aQ,mZ,de⟩:=aw.cells;have a8:tB e sz w.heap.size l9 (.slice (some ⟨vE,0,none⟩) 0 0) []:=bp.empty EW E1;have hm:eF.length≤maxLen:=by obtain⟨_,_,_,h1,U,_⟩:=mZ.ex;omega
 refine K.OB a8 (bB.ext Flat.ext (du.trans wk) mZ) (by rw[List.length_nil,Nat.zero_add,aQ];exact aD) (by rw[List.length_nil,Nat.zero_add];exact hm) wk.size fun b3 w' kO a6=>?_;rw[List.nil_append] at kO;have aN:dW w (fun w=>bB sz R w b3 xs) w':=dW.clone (R:=R) aQ kO aJ fun i h1 U=>aJ (de i h1 U);obtain⟨bh,c,rfl,_⟩:=aN.here.form;exact hk bh c w' aN (bp.kH a8 wk a6 (Nat.le_refl _)) (Mod.grown (A:=fun i=>i=vE) a6 fun k q=>by injection q with q;exact q.symm)
end bt
end
section
namespace Go.Proofs.R
open Go Go.RowKit bt
def G1(w:World)(cs:List Value)(l:List Int):Prop := ∃v,cs=[v]∧fo w v l
instance aiH:Rel D4 G1 1 where
 out h:=by
  obtain⟨v,h1,U⟩:=h;exact⟨[v],fun j u aT=>by cases j with | zero=>simp at aT;subst aT;rw[add_zero];exact h1 | succ j=>simp at aT,v,rfl,U⟩
 nX h k:=by
  obtain⟨v,rfl,k⟩:=k
  have:=h 0 v rfl
  rw[add_zero] at this;exact⟨v,this,k⟩
 len h:=by obtain⟨v,rfl,_⟩:=h;rfl
 one h:=by obtain⟨v,rfl,h⟩:=h;simpa using h.one
 ext e h:=let ⟨v,h1,U⟩:=h; ⟨v,h1,U.ext Flat.ext e⟩
def Vh(_:World)(cs:List Value)(x:Int):Prop:=cs=dk x
instance aiG:Rel (Flat dk) Vh 1 where
 out h:=⟨_,h,rfl⟩
 nX h k:=by cases k;exact h
 len h:=by cases h;rfl
 one h:=by cases h;exact kG _
 ext _ h:=h
theorem _root_.bt.Mod.own{A:Nat→Prop}{a b c:World}{v:Value}(h:Mod A a b)(a6:b.grownBy c v.ownBlock)(aU:∀k,v.ownBlock=some k→a.heap.size≤k):Mod A a c :=
 h.comp (Mod.grown (A:=fun k=>v.ownBlock=some k) a6 fun k hk=>hk) (fun _ _ a=>a) fun i ad e=>by have:=aU i e;omega
structure L9(w:World)(cs:List Value)(x:o.Env):Prop where
 ex:∃v0 v1 v2 v3,cs=[v0,v1,v2,v3,.int .i64 x.self]∧Ac w v0 x.vars∧fo w v1 x.lens∧fo w v2 x.locals∧Ac w v3 x.at_
end Go.Proofs.R
namespace o
open Go
theorem KQ(m:Model)(s:List Int)(inst:Int):(dK m s inst).vars.length=m.vars.length:=by simp[dK]
theorem Um{m:Model}{s:List Int}{inst:Int}{k:Nat}(h:k<m.vars.length):(dK m s inst).vars[k]? = some ((s.drop (jz m k)).take (cells m.vars[k] m.scalars).toNat):=by
 have e:(cF m)[k]!.length=(cells m.vars[k] m.scalars).toNat:=by
  have bA:k<(cF m).length:=by simpa[cF] using h
  rw[getElem!_pos (cF m) k bA];simp[cF,zL]
 simp only[dK,List.getElem?_map,List.getElem?_range h,Option.map_some,e]
theorem Ul(m:Model)(s:List Int)(inst:Int):(dK m s inst).lens.length=m.aH.length:=by simp[dK]
theorem afI{m:Model}{s:List Int}{inst:Int}{k:Nat}(h:k<m.aH.length)(ay:cU m k<s.length):(dK m s inst).lens[k]? = some s[cU m k]:=by
 simp only[dK,List.getElem?_map,List.getElem?_range h,Option.map_some];rw[getElem!_pos s (cU m k) ay]
theorem afJ{m:Model}{s:List Int}{inst:Int}(h:inst<0):(dK m s inst).locals=[]∧(dK m s inst).self=0:=by
 simp only[dK,Ge,gK (.inl h),and_self]
theorem Gf{m:Model}(s:List Int){q n:Nat}(h:q<(insts m).length)(aN:n=(jY m (insts m)[q]).length - 1):(dK m s q).locals=(s.drop (dG m q+1)).take n∧(dK m s q).self=(insts m)[q].elem:=by
 simp only[dK,Ge,h0 (show(0:Int)≤q by omega) (show(q:Int)<(insts m).length by omega),Int.toNat_natCast,aN,and_self]
theorem Uk(m:Model)(s:List Int)(inst:Int):(dK m s inst).at_.length=m.procs.length:=by simp[dK]
theorem afH{m:Model}{s:List Int}{inst:Int}{k:Nat}(h:k<m.procs.length):(dK m s inst).at_[k]? = some (jN m s k m.procs[k].cz (insts m).length):=by
 simp only[dK,List.getElem?_map,List.getElem?_range h,Option.map_some,List.getElem?_eq_getElem h,Option.getD_some]
end o
namespace Go.Proofs.R
open Go Go.RowKit bt
theorem TP(cs ys:List Value)(v:Value)(m:o.Model)(s:List Int)(inst:Int)(w:World)(h:o.ew w cs m)(a6:m.cT)(bd:o.eI m)(dF:o.jg w ys (o.layout m))(ay:fo w v s)(aJ:o.Fits m s)(h1 : -1≤inst)(U:inst<(o.insts m).length) :
  bq Tryz.prog F.ze #[.agg cs.toArray,.agg ys.toArray,v,.int .i64 inst] w fun u w'=>(∃es,u = .agg es.toArray∧dW w (fun w=>L9 w es (o.dK m s inst)) w')∧Ext w w':=by
 have fF:=h;have ra:=dF;have aa1:=ay;obtain⟨cv,bN,b9,c1,cq,c2,cm,bK,cw,bQ,rfl,aj,h1,U,ai,aL,eG,dt,dB,dT,er⟩:=h.form;obtain⟨jJ,d0,lC,d1,lD,d2,ma,d3,lE,d4,rfl,gM,fl,fD,hc,jF⟩:=dF.form;obtain⟨eP,ff,rfl,fH⟩:=ay.form;have hlen:=aJ.len;have nD:o.fO m≤64:=o.l3 bd;have gT:=bd.gT;have pr:(o.insts m).length≤30:=by have:=o.sO m;have:=bd.procs;omega
 refine bI E.ze ?_;refine bF ?_;refine an ?_;intro w1 bz cK az al;refine an ?_;intro aR b4 dw aA aI;replace al:=aA.obj al;refine an ?_;intro ba bZ fG au bG;replace al:=au.obj al;replace aI:=au.obj aI;have bO:=(az.trans aA).trans au;refine an ?_;refine K.call (C6 _ m ba (fF.ext bO) a6) ?_;rintro cn bo ⟨fg,aP⟩;obtain⟨et,ci,rfl,_⟩:=fg.form;have fs:oh bo _ _:=bp.lz (enc:=o.cW.enc) (fun _=>rfl) fg;replace al:=aP.obj al;replace aI:=aP.obj aI;replace bG:=aP.obj bG;have b8:=bO.trans aP;refine an ?_;intro bR kf ahw bf gH;have pA:∀{W},Ext bo W→W.heap[bz]? = _:=fun e=>e.obj al;have hK:∀{W},Ext bo W→W.heap[b4]? = _:=fun e=>e.obj aI;have agD:=cL gH;have A3:∀{W},Mod (fun i=>i=kf) bR W→Ext bo W:=fun h=>h.ext bf fun i ad e=>by omega
 refine K.da 11 m.vars.length [2,3,4,5,8,9,10] (fun _:fU=>[]) (none,0,0) (fun k v W=>(Mod (fun i=>i=kf) bR W∧W.heap[kf]? = some (.cells #[.slice v.1 v.2.1 v.2.2,.slice none 0 0,.slice none 0 0,.slice none 0 0,.int .i64 0] T.v))∧eY G1 T.c 1 bR.heap.size W (.slice v.1 v.2.1 v.2.2) (((o.dK m s inst).vars).take k)) bw bw ⟨⟨Mod.refl _ _,gH⟩,by simpa using eY.nil _ _ _ _ _⟩ ?_;clear gH;rintro k v S bW hk ⟨⟨qp,gH⟩,dn⟩;have al:=pA (A3 qp);have aI:=hK (A3 qp);have j7:=b8.trans (A3 qp);refine an ?_;apply K.cond<;>intro g1
 ·have e5:k<m.vars.length:=by omega
  obtain⟨a,rfl⟩:=h1.addr (by omega);have eU:=o.r6 m.vars[k] m.scalars;have nN:=o.xn e5;have gy:=o.q1 m;obtain⟨fg,nV⟩:=o.Gq e5;have eu:=((h1.at k e5).cells).ext j7;refine an ?_;refine K.fX _ (fun w' e=>Kw m.vars[k] _ m.scalars w' (aj.ext (j7.trans e))) ?_;refine an ?_;intro cj bP;replace al:=bP.obj al;replace aI:=bP.obj aI;replace gH:=bP.obj gH;have dX:=dn.ext bP;have gP:=j7.trans bP;have km:Mod (fun i=>i=kf) bR cj:=qp.trans bP.mod;have iD:=ay.ext Flat.ext gP;have Tm:=gM.ext Flat.ext gP;obtain⟨a0,rfl⟩:=gM.addr (by omega);clear eu;refine an ?_;intro dC bV;replace al:=bV.obj al;replace aI:=bV.obj aI;replace gH:=bV.obj gH;have hX:=dX.ext bV;have jK:=gP.trans bV;have nQ:Mod (fun i=>i=kf) bR dC:=km.trans bV.mod;have BL:=iD.ext Flat.ext bV;have ajk:=Tm.ext Flat.ext bV;clear iD Tm dn dX;refine an ?_;refine K.Ga (k:=.i64) (k':=.i64) (o.jz m k) (o.jz m k+(o.cells m.vars[k] m.scalars).toNat) BL (by simp[fr,cb,nV]) (by simp[fr,cb,nV];omega) (by omega) (by omega) fun aq c aO=>?_;refine an ?_;intro ez iM lb cp dP;refine⟨cp,?_⟩;rw[show o.jz m k+(o.cells m.vars[k] m.scalars).toNat - o.jz m k=(o.cells m.vars[k] m.scalars).toNat from by omega] at aO ⊢;have BQ:=o.Um (s:=s) (inst:=inst) e5;refine K.Xq aO (Ext.refl _) lb cp dP (fun h=>h) (by simp;omega) fun bh iN eX oL dI _=>?_;refine⟨dI,?_⟩;refine an ?_;intro hh Hf Is hr nG;refine⟨dI.trans hr,?_⟩;have z58:=nQ.size;have ajP:=dI.size;have GJ:=hr.size;have px:=hX.ext (dI.trans hr);have ck:(((o.dK m s inst).vars).take k).length≤12:=by rw[List.length_take,o.KQ];omega
  refine K.tN (x:=(s.drop (o.jz m k)).take (o.cells m.vars[k] m.scalars).toNat) (cs:=[.slice bh ((s.drop (o.jz m k)).take (o.cells m.vars[k] m.scalars).toNat).length iN]) px (fZ nG)
   (((dW.own oL hX (by omega)).imp fun w h=>⟨_,rfl,h⟩).ext hr fun i ad hk=>by have:=hX.under (by omega) i hk;omega) rfl (by simp[Value.oneCell']) (by omega) (by unfold maxLen;omega) (by omega) fun b3 lB bk Bn=>?_
  have ZG:=px.box Bn ((dI.trans hr).obj gH) (by decide);have uD:=((nQ.trans dI.mod).trans hr.mod).own Bn fun q aF=>(px.lt q aF).1;obtain⟨jw,nz,rfl,_⟩:=bk.form;clear gH oL px hX nG dP aO;refine an ?_;intro o5 jX iS;refine an ?_;refine⟨e5,bu,(jw,_,nz),trivial,⟨uD.trans (jX.mod rfl),iS⟩,?_⟩;rw[List.take_succ,BQ];exact bk.wr jX agD
 have kM:m.vars.length=k:=by omega
 rw[List.take_of_length_le (by rw[o.KQ];omega)] at dn;have kk:=dn.new (R:=D4);obtain⟨eD,j1,iN⟩:=v;have Dz:=cL gH;have xw:=qp.size;have agK:=A3 qp;have ET:∀{W},Mod (fun i=>i=kf) bW W→Ext bo W:=fun h=>A3 (qp.trans h);clear al aI dn;refine an ?_;refine K.da 13 m.aH.length [2,3,4,5,8,9,10] (fun _:fU=>[]) (none,0,0) (fun k v W=>(Mod (fun i=>i=kf) bW W∧W.heap[kf]? = some (.cells #[.slice eD j1 iN,.slice v.1 v.2.1 v.2.2,.slice none 0 0,.slice none 0 0,.int .i64 0] T.v))∧bp dk T.a 1 bW.heap.size W (.slice v.1 v.2.1 v.2.2) (((o.dK m s inst).lens).take k)) bw bw ⟨⟨Mod.refl _ _,gH⟩,by simpa using bp.nil _ _ _ _ _⟩ ?_;clear gH;rintro k v S cj hk ⟨⟨km,gH⟩,dX⟩;have al:=pA (ET km);have aI:=hK (ET km);have gP:=b8.trans (ET km);refine an ?_;apply K.cond<;>intro g1
 ·have e5:k<m.aH.length:=by omega
  have nN:=o.x9 e5;have gy:=o.q1 m;obtain⟨fg,eZ⟩:=o.vH e5;obtain⟨dy,rfl⟩:=fl.addr (by omega);obtain⟨VT,rfl⟩:=ay.addr (by omega);have iD:=ay.ext Flat.ext gP;have Tn:=fl.ext Flat.ext gP;refine an ?_;intro dC bV;replace aI:=bV.obj aI;replace gH:=bV.obj gH;have hX:=dX.ext bV;have nQ:Mod (fun i=>i=kf) bW dC:=km.trans bV.mod;have BL:=iD.ext Flat.ext bV;have ajm:=Tn.ext Flat.ext bV;clear iD Tn dX al;refine an ?_;refine K.dr (o.cU m k) (by rw[eZ]) (by omega) ?_;refine an ?_;intro ez iM lb cp dP;refine⟨cp,?_⟩;have fR:o.cU m k<s.length:=by omega
  have BQ:=o.afI (inst:=inst) e5 fR;have ahY:(((o.dK m s inst).lens).take k).length≤12:=by rw[List.length_take,o.Ul];omega
  have ik:=hX.ext cp;have UZ:=nQ.size;have U2:=cp.size;refine K.mi (y:=s[o.cU m k]) ik dP rfl (fun _=>rfl) kG (by omega) (by unfold maxLen;omega) (by omega) fun bh n c eX pw oJ=>?_;have ahJ:=ik.box oJ (cp.obj gH) (by decide);have wy:=(nQ.trans cp.mod).own oJ fun q aF=>(ik.lt q aF).1;clear gH ik hX dP;refine an ?_;intro hh hY nG;refine an ?_;refine⟨e5,bu,(bh,n,c),trivial,⟨wy.trans (hY.mod rfl),nG⟩,?_⟩;rw[List.take_succ,BQ];exact pw.mod (hY.mod (A:=fun i=>i=kf) rfl) fun q aF e=>by have:=(pw.lt q aF).1;omega
 have yE:m.aH.length=k:=by omega
 rw[List.take_of_length_le (by rw[o.Ul];omega)] at dX;have Qk:fM (fun i=>i<bR.heap.size) (fun w=>Ac w (.slice eD j1 iN) (o.dK m s inst).vars) cj:=kk.move km (fun i _ e=>by omega) fun i _ e=>e;have Qf:dW bW (fun w=>fo w (.slice v.1 v.2.1 v.2.2) (o.dK m s inst).lens) cj:=bp.new (fun _=>rfl) dX;clear kk;obtain⟨xp,iG,qb⟩:=v;have U0:=cL gH;have z67:=km.size;have EU:∀{W},Mod (fun i=>i=kf) cj W→Ext bo W:=fun h=>ET (km.trans h);clear al aI dX;refine an ?_;refine K.da 14 m.procs.length [2,3,4,5,8,9,10] (fun _:fU=>[]) (none,0,0) (fun k v W=>(Mod (fun i=>i=kf) cj W∧W.heap[kf]? = some (.cells #[.slice eD j1 iN,.slice xp iG qb,.slice none 0 0,.slice v.1 v.2.1 v.2.2,.int .i64 0] T.v))∧eY G1 T.c 1 cj.heap.size W (.slice v.1 v.2.1 v.2.2) (((o.dK m s inst).at_).take k)) bw bw ⟨⟨Mod.refl _ _,gH⟩,by simpa using eY.nil _ _ _ _ _⟩ ?_;clear gH;rintro k v S dC hk ⟨⟨nQ,gH⟩,hX⟩;have al:=pA (EU nQ);have aI:=hK (EU nQ);have jK:=b8.trans (EU nQ);refine an ?_;apply K.cond<;>intro g1
 ·have e5:k<m.procs.length:=by omega
  refine an ?_;intro ez cp;replace al:=cp.obj al;replace aI:=cp.obj aI;replace gH:=cp.obj gH;have ik:=hX.ext cp;have j8:=jK.trans cp;have uE:Mod (fun i=>i=kf) cj ez:=nQ.trans cp.mod;clear hX;refine an ?_;refine K.call (aem _ _ _ m s k ez (fF.ext j8) a6 bd (ra.ext j8) (aa1.ext Flat.ext j8) aJ e5) ?_;rintro _ eX ⟨oL,dI⟩;obtain⟨bh,iN,rfl,_⟩:=oL.form;replace oL:dW ez (fun w=>fo w (.slice bh (o.jN m s k m.procs[k].cz (o.insts m).length).length iN) (o.jN m s k m.procs[k].cz (o.insts m).length)) eX:=bp.new (enc:=dk) (sz:=1) (fun _=>rfl) oL;refine⟨dI,?_⟩;have BQ:=o.afH (s:=s) (inst:=inst) e5;refine an ?_;intro hh Hf Is hr nG;refine⟨dI.trans hr,?_⟩;have z79:=uE.size;have Ll:=dI.size;have GJ:=hr.size;have px:=ik.ext (dI.trans hr);have ck:(((o.dK m s inst).at_).take k).length≤12:=by rw[List.length_take,o.Uk];have:=bd.procs;omega
  refine K.tN (x:=o.jN m s k m.procs[k].cz (o.insts m).length) (cs:=[.slice bh (o.jN m s k m.procs[k].cz (o.insts m).length).length iN]) px (fZ nG)
   (((dW.own oL ik (by omega)).imp fun w h=>⟨_,rfl,h⟩).ext hr fun i ad hk=>by have:=ik.under (by omega) i hk;omega) rfl (by simp[Value.oneCell']) (by omega) (by unfold maxLen;omega) (by omega) fun b3 lB bk Bn=>?_
  have ZG:=px.box Bn ((dI.trans hr).obj gH) (by decide);have uD:=((uE.trans dI.mod).trans hr.mod).own Bn fun q aF=>(px.lt q aF).1;obtain⟨jw,nz,rfl,_⟩:=bk.form;clear gH oL px ik nG;refine an ?_;intro o5 jX iS;refine an ?_;refine⟨e5,bu,(jw,_,nz),trivial,⟨uD.trans (jX.mod rfl),iS⟩,?_⟩;rw[List.take_succ,BQ];exact bk.wr jX U0
 have uC:m.procs.length=k:=by omega
 rw[List.take_of_length_le (by rw[o.Uk];omega)] at hX;have Il:fM (fun i=>i<bR.heap.size) (fun w=>Ac w (.slice eD j1 iN) (o.dK m s inst).vars) dC:=Qk.move nQ (fun i _ e=>by omega) fun i _ e=>e;have Qg:dW bW (fun w=>fo w (.slice xp iG qb) (o.dK m s inst).lens) dC:=Qf.move nQ (fun i _ e=>by omega) fun i _ e=>e;have P7:=hX.new (R:=D4);clear Qk Qf;obtain⟨ajs,ai1,vI⟩:=v;have U1:=cL gH;have z78:=nQ.size;have vY:∀{W},Mod (fun i=>i=kf) dC W→Ext bo W:=fun h=>EU (nQ.trans h);clear hX;have jK:=b8.trans (vY (Mod.refl _ _));have z3:=cL bG;have z45:=bf.size;have ajK:=(az.trans aA).size;replace bG:=(vY (Mod.refl _ _)).obj bG;refine an ?_;apply K.cond<;>intro g2;rotate_left
 ·refine an ?_;intro ez ln dP;refine an ?_;obtain⟨du,bT⟩:=o.afJ (m:=m) (s:=s) (inst:=inst) (by omega);refine⟨⟨_,rfl,fun W gk=>⟨_,_,_,_,by rw[bT],?_,?_,?_,?_⟩⟩,ln.ext jK (by omega)⟩
  ·exact(Il.move (A':=fun i=>i<w.heap.size) (ln.mod (A:=fun i=>i=bZ) rfl) (fun i _ e=>by omega) fun i _ e=>by omega) W gk
  ·exact(Qg.move (A':=fun i=>i<w.heap.size) (ln.mod (A:=fun i=>i=bZ) rfl) (fun i _ e=>by omega) fun i _ e=>by omega) W gk
  ·rw[du];exact bB.nil
  ·exact(P7.move (A':=fun i=>i<w.heap.size) (ln.mod (A:=fun i=>i=bZ) rfl) (fun i _ e=>by omega) fun i _ e=>by omega) W gk
 ·obtain⟨q,rfl⟩:=Int.eq_ofNat_of_zero_le (show 0≤inst by omega);have aF:q<(o.insts m).length:=by omega
  have nN:=o.RR aF;obtain⟨fg,nV⟩:=o.wJ aF;obtain⟨a2,rfl⟩:=fD.addr (by omega);have aeb:=fD.ext Flat.ext jK;have al:=pA (vY (Mod.refl _ _));have aI:=hK (vY (Mod.refl _ _));obtain⟨ic,rfl⟩:=fs.addr (by omega);have yD:=fs.ext Flat.ext (vY (Mod.refl _ _));have qs:=o.qw _ (List.getElem_mem aF);obtain⟨p,aO,il,re⟩:=o.BU qs;have Iv:(o.jY m (o.insts m)[q]).length=1+m.procs[p].vars.length:=by rw[re,o.xc]
  obtain⟨a,rfl⟩:=ai.addr (by omega);obtain⟨nR,cr,dL,en,eJ,gX⟩:=ai.at p aO;obtain⟨ajc,ag9,rfl,aiY⟩:=eJ.form;obtain⟨ai6,ag1,rfl,aiU⟩:=gX.form;replace en:=en.ext jK;unfold o.dj.enc at en;refine an ?_;refine K.dr p il aO ?_;refine an ?_;intro Gy oI ez ZX;have cp:=oI.trans ZX;replace al:=cp.obj al;replace aI:=cp.obj aI;replace gH:=cp.obj gH;replace bG:=cp.obj bG;have j8:=jK.trans cp;have aa0:=ay.ext Flat.ext j8;have U2:=cp.size;clear en yD aeb;refine an ?_;refine K.Ga (k:=.i64) (k':=.i64) (o.dG m q+1) (o.dG m q+1+m.procs[p].vars.length) aa0 (by simp[fr,cb,nV]) (by simp[fr,cb,nV]) (by omega) (by omega) fun aq c Rv=>?_;rw[show o.dG m q+1+m.procs[p].vars.length - (o.dG m q+1)=m.procs[p].vars.length from by omega] at Rv ⊢;obtain⟨eF,aQ,mZ,de⟩:=Rv.cells;have eU:eF.length≤64:=by rw[aQ,List.length_take,List.length_drop];omega
  refine an ?_;refine K.OB (sz:=1) (base:=ez.heap.size) (bp.nil _ _ _ _ _) mZ (by rw[List.length_nil];omega) (by rw[List.length_nil];unfold maxLen;omega) (Nat.le_refl _) fun b3 eX pw oJ=>?_;rw[List.nil_append] at pw;have oL:dW ez (fun w=>fo w b3 ((s.drop (o.dG m q+1)).take m.procs[p].vars.length)) eX:=dW.clone (R:=Flat dk) aQ pw (fun h=>h) fun i h1 U=>de i h1 U;have dI:Ext ez eX:=(Ext.refl _).grown oJ fun k hk=>by simp[Value.ownBlock] at hk
  replace aI:=dI.obj aI;replace gH:=dI.obj gH;replace bG:=dI.obj bG;have Ll:=dI.size;obtain⟨ol,cl,rfl,_⟩:=oL.here.form;clear al;refine an ?_;intro hh hY nG;have Ri:Mod (fun i=>i=kf) dC hh:=(cp.mod.trans dI.mod).trans (hY.mod rfl);have ahS:=fs.ext Flat.ext (vY Ri);replace bG:=hY.obj bG (by omega);refine an ?_;intro lB nb uq;have uD:Mod (fun i=>i=kf) dC lB:=Ri.trans (nb.mod rfl);replace bG:=nb.obj bG (by omega);refine an ?_;intro o5 jX iS;refine an ?_;obtain⟨du,bT⟩:=o.Gf s aF (n:=m.procs[p].vars.length) (by omega);have GJ:=hY.size;have UY:=nb.size;refine⟨⟨_,rfl,fun W gk=>⟨_,_,_,_,by rw[bT];rfl,?_,?_,?_,?_⟩⟩,jX.ext (b8.trans (vY uD)) (by omega)⟩
  ·exact(Il.move (A':=fun i=>i<w.heap.size) (uD.comp (B:=fun i=>i=kf∨i=bZ) (jX.mod (A:=fun i=>i=bZ) rfl) (fun i _ e=>.inl e) fun i _ e=>.inr e) (fun i _ e=>by omega) fun i _ e=>by omega) W gk
  ·exact(Qg.move (A':=fun i=>i<w.heap.size) (uD.comp (B:=fun i=>i=kf∨i=bZ) (jX.mod (A:=fun i=>i=bZ) rfl) (fun i _ e=>.inl e) fun i _ e=>.inr e) (fun i _ e=>by omega) fun i _ e=>by omega) W gk
  ·rw[du];exact((((oL.wr hY (by omega)).wr nb (by omega)).wr jX (by omega)).mono fun i _ e=>by omega) W gk
  ·exact(P7.move (A':=fun i=>i<w.heap.size) (uD.comp (B:=fun i=>i=kf∨i=bZ) (jX.mod (A:=fun i=>i=bZ) rfl) (fun i _ e=>.inl e) fun i _ e=>.inr e) (fun i _ e=>by omega) fun i _ e=>by omega) W gk
end Go.Proofs.R
end
section
namespace o
open Go
theorem Ud{s t:List Int}{a n:Nat}(h:∀k,k<n→s[a+k]? = t[a+k]?):(s.drop a).take n=(t.drop a).take n:=by
 apply List.ext_getElem?;intro i;rw[List.getElem?_take,List.getElem?_take];split
 ·rw[List.getElem?_drop,List.getElem?_drop];exact h i ‹_›
 ·rfl
def kR(l:List Int):Bool:=match l with
 | []=>false
 | n :: r=>decide (0≤n∧n≤r.length)&&(r.drop n.toNat).all (fun x=>decide (x=0))
def kq(l:List Int):List Int:=if kR l then (l.drop 1).take (l.headD 0).toNat else []
def s6(k:Nat)(l:List Int):List Int:=(l.length:Int) :: (List.range (k - 1)).map fun i=>l.getD i 0
def oV(l:List Int)(v:Int):Option (List Int):=if kR l=true∧l.headD 0≠(l.length:Int) - 1 then some (s6 l.length (kq l++[v])) else none
def qM(l:List Int):Option (List Int×Int):=match kq l with
 | []=>none
 | x :: r=>some (s6 l.length r,x)
theorem S9{k:Nat}(h:1≤k)(l:List Int):(s6 k l).length=k:=by simp[s6];omega
theorem R4{l:List Int}(h:kR l=true):1≤l.length:=by
 cases l with
 | nil=>cases h
 | cons n r=>simp
theorem Kl{l r:List Int}{v:Int}(h:oV l v=some r):r.length=l.length:=by
 unfold oV at h;split at h
 ·rename_i h1;injection h with h
  rw[←h,S9 (R4 h1.1)]
 ·cases h
theorem KY{l r:List Int}{v:Int}(h:qM l=some (r,v)):r.length=l.length:=by
 unfold qM at h;split at h
 ·cases h
 ·rename_i x q aF;injection h with h
  injection h with h1 U
  have:kR l=true:=Classical.byContradiction fun aN=>by
   unfold kq at aF;rw[if_neg aN] at aF;cases aF
  rw[←h1,S9 (R4 this)]
def chanOf(m:Model)(s:List Int)(c:Nat):List Int:=(s.drop (cU m c)).take (1+jj m c)
def jC(s:List Int)(a:Nat)(l:List Int):List Int:=s.take a++l++s.drop (a+l.length)
def Au(m:Model)(c:Nat):Int×Int:=match (b1 m)[c]? with
 | some x=>(x.aZ,x.ad)
 | none=>(0,-1)
def putAt(m:Model)(s:List Int)(c:Nat)(n:Int):Option (List Int):=if n<(Au m c).1∨(Au m c).2<n then none else some (s.set c n)
def tW(m:Model)(c:Nat):di:=match m.aH[c]? with
 | some x=>eK x.scalar x.aZ x.ad m.scalars
 | none=>eK 0 0 0 m.scalars
def xg(m:Model)(s:List Int)(c:Nat)(n:Int):Option (List Int) :=
 if n<(tW m c).aZ∨(tW m c).ad<n then none else (oV (chanOf m s c) n).map (jC s (cU m c))
def zs(m:Model)(s:List Int)(q:Nat)(a:Act):Option (List Int):=match qM (chanOf m s a.to.toNat) with
 | none=>none
 | some (rest,n)=>putAt m (jC s (cU m a.to.toNat) rest) (dG m q+1+a.loc.toNat) n
def yV(m:Model)(s:List Int)(a:Act)(k:Int×Int)(n:Int):Option (List Int) :=
 if k.2≠0∨k.1<1∨(uS m a.to.toNat:Int)<k.1 then none else putAt m s (jz m a.to.toNat+k.1.toNat - 1) n
def lP(m:Model)(s:List Int)(q:Nat)(a:Act):Option (List Int) :=
 if a.kind=5 then zs m s q a
 else if (eval a.value (dK m s q)).2≠0 then none
 else if a.kind=1 then putAt m s (jz m a.to.toNat) (eval a.value (dK m s q)).1
 else if a.kind=2 then yV m s a (eval a.index (dK m s q)) (eval a.value (dK m s q)).1
 else if a.kind=3 then putAt m s (dG m q+1+a.to.toNat) (eval a.value (dK m s q)).1
 else xg m s a.to.toNat (eval a.value (dK m s q)).1
def kD(m:Model)(q:Nat):List Act→List Int→Option (List Int)
 | [],s=>some s
 | a :: r,s=>match lP m s q a with
  | none=>none
  | some t=>kD m q r t
def kF(m:Model)(s:List Int)(q:Nat)(c:dD):Option (List Int) :=
 if s[dG m q]? ≠ some c.from_ then none
 else if 0<c.guard.length∧((eval c.guard (dK m s q)).2≠0∨(eval c.guard (dK m s q)).1=0) then none
 else (kD m q c.b6 s).map fun t=>t.set (dG m q) c.to
theorem Oo(m:Model)(q:Nat)(a:Act):∀(l:List Act) (s:List Int),kD m q (l++[a]) s=match kD m q l s with | none=>none | some t=>lP m t q a
 | [],s=>by
  simp only[List.nil_append,kD];cases lP m s q a<;>rfl
 | x :: l,s=>by
  simp only[List.cons_append,kD];cases lP m s q x with
  | none=>rfl
  | some t=>exact Oo m q a l t
theorem BW{s:List Int}{a:Nat}{l:List Int}(h:a+l.length≤s.length):(jC s a l).length=s.length:=by
 simp[jC];omega
theorem BV{s:List Int}{a:Nat}{l:List Int}(h:a+l.length≤s.length)(x:Nat):(jC s a l)[x]? = if a≤x∧x<a+l.length then l[x - a]? else s[x]? := by
 unfold jC;have aK:(s.take a).length=a:=by simp;omega
 by_cases h1:x<a
 ·rw[if_neg (by omega),List.getElem?_append_left (by rw[List.length_append];omega),List.getElem?_append_left (by omega),List.getElem?_take,if_pos h1]
 ·by_cases U:x<a+l.length
  ·rw[if_pos ⟨by omega,U⟩,List.getElem?_append_left (by rw[List.length_append];omega),List.getElem?_append_right (by omega),aK]
  ·rw[if_neg (by omega),List.getElem?_append_right (by rw[List.length_append];omega),List.getElem?_drop,List.length_append,aK];congr 1;omega
theorem tY{m:Model}{s:List Int}{c:Nat}(h:cU m c+(1+jj m c)≤s.length):(chanOf m s c).length=1+jj m c:=by
 simp[chanOf];omega
theorem CV{m:Model}{s t:List Int}{c:Nat}{n:Int}(h:putAt m s c n=some t):t=s.set c n:=by
 unfold putAt at h;split at h
 ·cases h
 ·injection h with h
  exact h.symm
def ec(s t:List Int)(l:List Int):Prop:=t.length=s.length∧∀c:Nat,t[c]? ≠ s[c]? → (c:Int)∈l
theorem ec.refl(s l:List Int):ec s s l:=⟨rfl,fun _ h=>absurd rfl h⟩
theorem ec.trans{s t u l:List Int}(h:ec s t l)(k:ec t u l):ec s u l:=⟨k.1.trans h.1,fun c av=>by
 by_cases e:u[c]? = t[c]?
 ·exact h.2 c (by rw[←e];exact av)
 ·exact k.2 c e⟩
theorem ec.mono{s t l r:List Int}(h:ec s t l)(ay:∀x∈l,x∈r):ec s t r:=⟨h.1,fun c av=>ay _ (h.2 c av)⟩
theorem ec.set(s:List Int)(a:Nat)(n:Int):ec s (s.set a n) (fJ a 1):=⟨List.length_set ..,fun c av=>by
 rw[KD,List.mem_singleton];apply Classical.byContradiction;intro aN;exact av (List.getElem?_set_ne (by omega))⟩
theorem ec.R2{s l:List Int}{a:Nat}(h:a+l.length≤s.length):ec s (jC s a l) (fJ a l.length):=⟨BW h,fun c av=>by
 rw[BV h] at av;apply Classical.byContradiction;intro aN;rw[F5] at aN;exact av (if_neg (by omega))⟩
theorem afp{m:Model}{s t:List Int}{c:Nat}{n:Int}(av:cU m c+(1+jj m c)≤s.length)(h:xg m s c n=some t):ec s t (tX m c):=by
 unfold xg at h;split at h
 ·cases h
 ·cases aO:oV (chanOf m s c) n with
  | none=>rw[aO] at h;cases h
  | some r =>
   rw[aO] at h;have aQ:=Kl aO;rw[tY av] at aQ;have e:jC s (cU m c) r=t:=by injection h
   rw[←e];unfold tX;rw[←aQ];exact ec.R2 (by omega)
theorem aev{m:Model}{s t:List Int}{q:Nat}{a:Act}(av:cU m a.to.toNat+(1+jj m a.to.toNat)≤s.length)(h:zs m s q a=some t):ec s t (tX m a.to.toNat++fJ (dG m q+1+a.loc.toNat) 1):=by
 unfold zs at h;cases aO:qM (chanOf m s a.to.toNat) with
 | none=>rw[aO] at h;cases h
 | some KC =>
  obtain⟨r,n⟩:=KC;rw[aO] at h;have aQ:=KY aO;rw[tY av] at aQ;have e:=CV h;rw[e];refine ec.trans (t:=jC s (cU m a.to.toNat) r) ?_ ((ec.set _ _ _).mono fun x aw=>List.mem_append_right _ aw)
  have:=ec.R2 (s:=s) (a:=cU m a.to.toNat) (l:=r) (by omega)
  rw[aQ] at this;exact this.mono fun x aw=>List.mem_append_left _ aw
theorem afo{m:Model}{s:List Int}{q:Nat}{a:Act}(h:td a=true):eval a.index (dK m s q)=((dK m s q).self,0):=by
 unfold td at h;split at h
 ·rename_i x aw;rw[aw];have bn:x.op=5:=by simpa using h
  have aN:e9 x.op=0:=by rw[bn];decide
  have aJ:iz (dK m s q) x []=((dK m s q).self,0):=by
   unfold iz;rw[bn];simp[gn,jc,bn]
  unfold eval lx gh;simp only[List.length_singleton,stepG,aN,aJ];simp[gh]
 ·cases h
theorem Vy{m:Model}{s t:List Int}{q:Nat}{a:Act}(aF:q<(insts m).length)(av:(a.kind=4∨a.kind=5)→cU m a.to.toNat+(1+jj m a.to.toNat)≤s.length)(hk:1≤a.kind∧a.kind≤5)(h:lP m s q a=some t):ec s t (mR m q a):=by
 unfold lP at h;unfold mR;by_cases bn:a.kind=5
 ·rw[if_pos bn] at h;rw[if_neg (by omega),if_neg (by omega),if_neg (by omega),if_neg (by omega),if_pos bn];exact aev (av (.inr bn)) h
 rw[if_neg bn] at h;by_cases he:(eval a.value (dK m s q)).2≠0
 ·rw[if_pos he] at h;cases h
 rw[if_neg he] at h;by_cases h1:a.kind=1
 ·rw[if_pos h1] at h ⊢;rw[CV h];exact ec.set _ _ _
 rw[if_neg h1] at h ⊢;by_cases U:a.kind=2
 ·rw[if_pos U] at h ⊢;unfold yV at h;split at h
  ·cases h
  ·rename_i aN;rw[CV h];refine(ec.set _ _ _).mono fun x aw=>?_;rw[KD,List.mem_singleton] at aw;subst aw;unfold ry;by_cases ay:td a=true
   ·rw[if_pos ay,KD,List.mem_singleton,HO aF];have wG:(dK m s q).self=(insts m)[q].elem:=(Gf s aF rfl).2
    have:=afo (m:=m) (s:=s) (q:=q) (a:=a) ay
    rw[this];simp only[wG]
   ·rw[if_neg ay,F5];omega
 rw[if_neg U] at h ⊢;by_cases ai:a.kind=3
 ·rw[if_pos ai] at h ⊢;rw[CV h];exact ec.set _ _ _
 rw[if_neg ai] at h ⊢;rw[if_pos (by omega)];exact afp (av (by omega)) h
theorem qa{m:Model}{c:Nat}(h:c<m.aH.length):cU m c+(1+jj m c)≤fO m:=by
 have:=x9 h
 rw[oA h]
 have:=q1 m
 omega
theorem Ov{m:Model}{ja:Scope}{q:Nat}(aF:q<(insts m).length)(sr:ja.aH=m.aH):∀(l:List Act) (s t:List Int),(∀a∈l,pS ja a)→s.length=fO m→kD m q l s=some t→ec s t (l.flatMap (mR m q))
 | [],s,t,_,_,h=>by
  injection h with h
  rw[←h];exact ec.refl _ _
 | a :: l,s,t,br,ay,h=>by
  simp only[kD] at h;cases h1:lP m s q a with
  | none=>rw[h1] at h;cases h
  | some u =>
   rw[h1] at h;have U:=Vy aF (fun hk=>by rw[ay];exact qa (by have:=((br a (List.mem_cons_self ..)).chan hk).2;rwa[sr] at this)) (br a (List.mem_cons_self ..)).kind h1;have ai:=Ov aF sr l u t (fun b aD=>br b (List.mem_cons_of_mem _ aD)) (U.1.trans ay) h;rw[List.flatMap_cons];exact(U.mono fun x aw=>List.mem_append_left _ aw).trans (ai.mono fun x aw=>List.mem_append_right _ aw)
theorem VD{ja:Scope}{c:dD}(h:tt ja c):∀a∈c.b6,pS ja a:=fun a br=>by
 obtain⟨k,hk,rfl⟩:=List.mem_iff_getElem.1 br;exact h.act k hk
theorem OT{m:Model}{ja:Scope}{q:Nat}{c:dD}{s t:List Int}(aF:q<(insts m).length)(sr:ja.aH=m.aH)(av:tt ja c)(ay:s.length=fO m)(h:kF m s q c=some t):ec s t (od m q c c.b6.length):=by
 unfold kF at h;split at h
 ·cases h
 split at h
 ·cases h
 cases h1:kD m q c.b6 s with
 | none=>rw[h1] at h;cases h
 | some u =>
  rw[h1] at h;have e:u.set (dG m q) c.to=t:=by injection h
  rw[←e];unfold od;rw[List.take_length];exact((Ov aF sr _ s u (VD av) ay h1).mono fun x aw=>List.mem_append_right _ aw).trans ((ec.set _ _ _).mono fun x aw=>List.mem_append_left _ aw)
theorem Sl{s w:Int}:∀{l:List di} {k:Nat} {x:Cell},x∈eR s w l k→∃b∈l,x.aZ=b.aZ∧x.ad=b.ad
 | [],_,_,h=>by cases h
 | b :: l,k,x,h=>by
  rcases List.mem_cons.1 h with rfl | h
  ·exact⟨b,by simp,rfl,rfl⟩
  ·obtain⟨mS,h1,U⟩:=Sl h;exact⟨mS,by simp[h1],U⟩
theorem En{s:Int}:∀{ls:List (List di)} {i:Nat} {x:Cell},x∈cellsOf s ls i→∃l∈ls,∃b∈l,x.aZ=b.aZ∧x.ad=b.ad
 | [],_,_,h=>by cases h
 | l :: r,i,x,h=>by
  rcases List.mem_append.1 h with h | h
  ·obtain⟨b,h1,U⟩:=Sl h;exact⟨l,by simp,b,h1,U⟩
  ·obtain⟨sS,h1,U⟩:=En h;exact⟨sS,by simp[h1],U⟩
def rR(aZ ad:Int):Prop := -1048576≤aZ∧aZ≤ad∧ad≤1048576
theorem Hh{ja aZ ad:Int}{s:List Scalar}(h:ja=0→rR aZ ad):rR (eK ja aZ ad s).aZ (eK ja aZ ad s).ad:=by
 unfold eK;by_cases aj:ja=0
 ·rw[if_pos aj];exact h aj
 ·rw[if_neg aj]
  have:=size_le ja s
  unfold rR;simp only;omega
theorem SO{aZ ad:Int}(h:narrow aZ ad=true):rR aZ ad:=by have:=SN h;unfold rR;omega
theorem WK{m:Model}(h:eI m):∀x∈b1 m,rR x.aZ x.ad:=fun x aw=>by
 unfold b1 at aw;rcases List.mem_append.1 aw with aw | aw
 ·rcases List.mem_append.1 aw with aw | aw
  ·obtain⟨l,aQ,b,aD,bT,bg⟩:=En aw;obtain⟨v,aU,rfl⟩:=List.mem_map.1 aQ;rw[(List.mem_replicate.1 aD).2] at bT bg;rw[bT,bg];exact Hh fun aj=>SO ((h.var v aU).FU aj)
  ·obtain⟨l,aQ,b,aD,bT,bg⟩:=En aw;obtain⟨c,av,rfl⟩:=List.mem_map.1 aQ;rw[bT,bg];have dd:=h.chan c av;have ho:=dd.cap;rcases List.mem_cons.1 aD with rfl | aD
   ·unfold rR;simp only;omega
   ·rw[(List.mem_replicate.1 aD).2];exact Hh fun aj=>by
     have:=SN (dd.FU aj)
     unfold rR;omega
 ·obtain⟨l,aQ,b,aD,bT,bg⟩:=En aw;obtain⟨xr,ru,rfl⟩:=List.mem_map.1 aQ;rw[bT,bg];unfold jY at aD;split at aD
  ·rename_i p aO;have hm:p∈m.procs:=by
    unfold nth at aO;split at aO
    ·exact List.mem_of_getElem? aO
    ·cases aO
   have dd:=h.proc p hm;rcases List.mem_cons.1 aD with rfl | aD
   ·have:=dd.cz;unfold rR;simp only;omega
   ·obtain⟨v,aU,rfl⟩:=List.mem_map.1 aD;exact Hh fun aj=>SO ((dd.var v aU).FU aj)
  ·cases aD
end o
end
section
namespace bt
open Go Go.RowKit
def yk(d:Nat):List Value:=[.int .u8 d]
def Hl(l:List Nat):List Value:=l.map fun(d:Nat)=>Value.int .u8 (d:Int)
theorem Hm:∀l:List Nat,Hl l=l.flatMap yk
 | []=>rfl
 | x :: r=>by
  have:=Hm r
  simp only[Hl,List.map_cons,List.flatMap_cons] at this ⊢;rw[this];rfl
theorem Yu(l:List Nat)(k x:Nat):(l.flatMap yk).set k (.int .u8 x)=(l.set k x).flatMap yk:=by
 rw[←Hm,←Hm];simp[Hl,List.map_set]
theorem K.kx{e:TypeId}{base:Nat}{w:World}{l:List Nat}{a:Addr}{n c k x:Nat}{gR:World→Prop}{t}(h:bp yk e 1 base w (.slice (some a) n c) l)(hk:k<l.length)
  (df:∀w1,dH a.block w w1→bp yk e 1 base w1 (.slice (some a) n c) (l.set k x)→gR w1):qV (.pointer (some (a.add (k*1)))) (.int .u8 (x:Nat)) w gR t:=by
 rcases h.2 with ⟨aN,aj⟩ | ⟨g,cap,cur,h1,U,ai,aL,bn,bL,b7⟩
 ·cases aN
 ·injection h1 with bT bg bO
  injection bT with bT
  subst bT bO;have ck:k<cur.size:=by omega
  have k5:Addr.add ⟨g,0,none⟩ (k*1)=⟨g,k,none⟩:=by rw[add_eq,Nat.mul_one,Nat.zero_add]
  have av:w.cell? (Addr.add ⟨g,0,none⟩ (k*1))=some cur[k]:=fi ai (by rw[Nat.mul_one];exact Array.getElem?_eq_getElem ck);rw[k5] at av ⊢;have bA:w.ownsRow base e 1 (.slice (some ⟨g,0,none⟩) l.length c) l.length (l.flatMap yk):=by unfold bp at h;rw[bg] at h;exact h
  have ay:=World.ownsRow.stored bA k (.int .u8 (x:Nat));rw[Yu] at ay;refine K.st av (by simp[World.frozen?,ai]) (by simp[Value.oneCell']) (df _ (dH.setCell w ⟨g,k,none⟩ _) ?_);unfold bp;rw[List.length_set,bg];exact ay.1
theorem K.Ap{α:Type}{P:Program}{cY:Value→World→Prop}{enc:α→List Value}{e:TypeId}{sz base:Nat}{w:World}{s x:Value}{xs ys:List α}{R:World→Addr→α→Prop}[j6 R enc]{ty:TypeId}{b:Nat}{t}(ay:bp enc e sz base w s xs)(aw:bB sz R w x ys)(c3:∀x,(enc x).length=sz)(h1:∀y,∀u∈enc y,u.oneCell'=true)
  (aD:(xs.length+ys.length)*b≤140737488355328)(jo:xs.length+ys.length≤maxLen)(iB:base≤w.heap.size)(hk:∀b3 w',bp enc e sz base w' b3 (xs++ys)→w.grownBy w' s.ownBlock→cY b3 w'):j5 P ty e sz b s x w cY t:=by
 obtain⟨bh,cap,rfl,qg,U,ai,aL⟩:=aw.ex;cases bh with
 | some a=>exact K.VO ay ⟨some a,cap,rfl,qg,U,ai,aL⟩ c3 h1 aD jo iB hk
 | none =>
  have:ys=[]:=Classical.byContradiction fun aN=>by have:=ai aN;cases this
  subst this;rw[List.append_nil] at hk;refine K.app fun⟨aK,i,z,ad,bU,yR,yu,wI,Fx⟩=>?_;refine⟨ty,s,w,?_,hk s w ay ⟨rfl,rfl,rfl,Nat.le_refl _,fun _ _ _=>rfl⟩⟩;rcases ay.2 with ⟨rfl,aj⟩ | ⟨g,cap,cur,rfl,_,_,BB,_⟩
  ·simp[Builtin.append_,run_underlying aK,Go.sizeOf,typeInfo,ad,Builtin.lenOf,Builtin.firstCells]
  ·simp[Builtin.append_,run_underlying aK,Go.sizeOf,typeInfo,ad,Builtin.lenOf,Builtin.firstCells,BB,storeCells]
end bt
end