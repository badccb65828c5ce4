/- Parts. -/
import Derived.Test.YtfdohkdifdemeaaGreatDoorQdun
import Derived.Shelf.SlGeneric
import Derived.Shelf.SlIterI.Nil
import Derived.Shelf.SortM.Plain
import Derived.Shelf.SortM.SortNone
import Derived.Laws.Bits64b
import Derived.Lib.AppendZerosOnto
set_option linter.all false
set_option maxRecDepth 8000
set_option maxHeartbeats 16000000
section
namespace Go.Proofs.R
open Go Go.RowKit bt
def Zw(m:o.Model)(ref:Int)(v:Value)(w:World):Prop :=
 (¬o.Told m ref/\v = .tuple #[.pointer none,.agg R4.toArray,.bool false]) \/
 (∃(b q p k:Nat) (fB ee:Value),o.gl m ref q p k/\v = .tuple #[.pointer (some ⟨b,0,none⟩),.agg ((o.cL m p k).enc fB ee).toArray,.bool true]/\ob w b m q/\o.fW w fB (o.cL m p k).guard/\o.nt w ee (o.cL m p k).cb)
theorem aiF(cs:List Value)(m:o.Model)(ref:Int)(w:World)(h:o.ec w cs m)(aZ:m.cQ)(bc:hv w) :
  bu Tryz.prog F.Ci #[.agg cs.toArray,.int .i64 ref] w fun v w'=>Zw m ref v w'/\Ext w w':=by
 have dP:=h;obtain⟨cz,bS,b9,c1,cn,c2,cp,bP,cA,bX,rfl,ak,h1,U,ag,aJ,eI,ej,eo,dX,ep⟩:=h.form;refine bL E.Ci ?_;refine bG ?_;refine ae ?_;intro av cr dQ aB aP;refine ae ?_;intro aU dR kR aA cD;have Hf:=aA.obj aP;have a6:=aB.trans aA;refine ae ?_;refine K.call (AX _ m aU (dP.ext a6) aZ (bc.ext a6)) ?_;rintro _ bb ⟨rfl,ax⟩;have bK:=a6.trans ax;replace aP:=ax.obj Hf;replace cD:=ax.obj cD;have z5:=cH cD;have aqk:=aB.size;clear Hf;refine ae ?_;refine K.jf (v:=.int .i64 (o.check m).cX) rfl ?_;refine ae ?_;refine K.cond (fun hk=>?_) (fun hk=>?_);rotate_left
 .refine ae ?_;intro bp ey bA;refine ae ?_;exact⟨.inl ⟨fun aL=>hk aL.1,bk⟩,ey.ext bK (by omega)⟩
 have bq:=o.lZ hk;have c7:=bq.lim;have kk:=o.wQ c7;refine ae ?_;refine K.call (E4 _ m bb (dP.ext bK) c7) ?_;rintro j0 bp ⟨jk,aN⟩;obtain⟨iI,pM,rfl,_⟩:=jk.form;have KS:bF 2 (Flat o.Ref.enc) bp (.slice iI (o.refs m).length pM) (o.refs m):=bs.iW (enc:=o.Ref.enc) (fun _=>rfl) jk;replace aP:=aN.obj aP;replace cD:=aN.obj cD;have b0:=bK.trans aN;clear jk;refine ae ?_;apply K.cond<;>intro g1
 .refine ae ?_;intro bR eZ Ab;refine ae ?_;exact⟨.inl ⟨fun aL=>by have:=aL.2;omega,bk⟩,eZ.ext b0 (by omega)⟩
 obtain⟨r,rfl⟩:=Int.eq_ofNat_of_zero_le (show 0<=ref by omega);refine ae ?_;apply K.cond<;>intro g2
 .refine ae ?_;intro bR eZ Ab;refine ae ?_;exact⟨.inl ⟨fun aL=>by have:=aL.2;omega,bk⟩,eZ.ext b0 (by omega)⟩
 have aL:o.Told m r:=⟨hk,by omega,by omega⟩;obtain⟨q,p,k,cf⟩:=o.tM aL;have aG:=cf.at_.ad;have aO:=cf.at_.aO;have nM:=cf.at_.hk;have jB:(o.refs m)[r].inst=(q:Int):=cf.at_.u0;have oy:(o.refs m)[r].cmd=(k:Int):=cf.at_.wR;have ov:=cf.at_.ip;obtain⟨lg,rfl⟩:=KS.addr (by omega);refine ae ?_;intro bR aW;replace aP:=aW.obj aP;replace cD:=aW.obj cD;have CX:=KS.ext Flat.ext aW;have b3:=b0.trans aW;refine ae ?_;refine K.call (Wh _ m bR (dP.ext b3) aZ (bc.ext b3)) ?_;rintro _ bY ⟨⟨xs,rfl,xZ⟩,a8⟩;rw[o.H9 hk] at xZ;have G0:=xZ;replace xZ:=xZ.here;obtain⟨k3,d0,j1,d1,j2,d2,nY,d3,nq,d4,rfl,_⟩:=xZ.form;have cV:=b3.trans a8;refine⟨a8,?_⟩;refine ae ?_;refine K.call (Aw _ m bY (dP.ext cV) aZ) ?_;rintro cy cd ⟨fy,bJ⟩;obtain⟨cU,ci,rfl,_⟩:=fy.form;have dw:=cV.trans bJ;refine⟨a8.trans bJ,?_⟩;refine ae ?_;intro dg kN qK bV cK;have dW:=dw.trans bV;have Al:kK dg (.slice cU (o.insts m).length ci) (o.insts m):=bs.iW (enc:=o.c8.enc) (fun _=>rfl) (fy.ext bV);have TE:=xZ.ext (bJ.trans bV);rw[jB] at cK;have KX:ob dg kN m q:=⟨_,_,_,cK,dP.ext dW,TE,Al⟩;have KN:=(a8.trans bJ).trans bV;have TJ:=CX.ext Flat.ext KN;replace aP:=KN.obj aP;replace cD:=KN.obj cD;have OH:=dW.size;obtain⟨jc,rfl⟩:=Al.addr (by omega);obtain⟨a3,rfl⟩:=ag.addr (by omega);obtain⟨mr,cE,dT,dL,eR,gn⟩:=ag.at p aO;obtain⟨Ip,Gq,rfl,Ib⟩:=gn.form;obtain⟨ac,rfl⟩:=gn.addr (by omega);obtain⟨fG,fB,ee,gu,kz,iE⟩:=gn.at k nM;replace dL:=dL.ext dW;replace gu:=gu.ext dW;obtain⟨hM,gF,rfl,_⟩:=kz.form;obtain⟨wM,vD,rfl,_⟩:=iE.form;unfold o.dz.enc at dL;unfold o.dI.enc at gu;clear xZ KS CX TE;refine ae ?_;intro ea b1;replace aP:=b1.obj aP;replace cD:=b1.obj cD;replace cK:=b1.obj cK;replace TJ:=TJ.ext Flat.ext b1;replace Al:=Al.ext Flat.ext b1;replace dL:=dL.ext b1;replace gu:=gu.ext b1;refine ae ?_;refine K.dp p (by rw[ov]) aO ?_;refine ae ?_;refine K.dp k (by rw[oy]) nM ?_;refine ae ?_;intro e3 p5 hJ;refine ae ?_;have iz:Ext w ea:=dW.trans b1;have oK:=aN.size;have nT:=aW.size;have akz:=a8.size;have apH:=bJ.size;have jv:Ext w e3:=p5.ext iz (by omega);have adP:=((G0.ext ((bJ.trans bV).trans b1) akz).wr p5 (by omega)).here;have afa:kK e3 (.slice (some jc) (o.insts m).length ci) (o.insts m):=bs.iW (enc:=o.c8.enc) (fun _=>rfl) (bs.wr p5 (by omega) ((fy.ext bV).ext b1));have pV:=o.xG aO nM;refine⟨.inr ⟨kN,q,p,k,.slice hM (o.cL m p k).guard.length gF,.slice wM (o.cL m p k).cb.length vD,cf,by rw[pV];rfl,⟨_,_,_,p5.obj cK (by omega),dP.ext jv,adP,afa⟩,?_,?_⟩,jv⟩
 .rw[pV];exact kz.ext jv
 .rw[pV];exact iE.ext jv
end Go.Proofs.R
end
section
namespace Go.Proofs
open Go.Shelf
def Tryz.V2:Go.Shelf.Ren:=⟨fun | 7=>146 | 10=>202 | n=>n,fun | 23=>160 | 26=>3 | 3=>3 | 28=>111 | 0=>0 | 27=>110 | 33=>119 | 4=>4 | n=>n,fun | n=>n⟩
theorem Tryz.MH:Go.Proofs.SlLaysZI.n7 Tryz.prog Tryz.V2:={
 mixed:=by kernel_rfl
 f7:=⟨Tryz.f146.name,by decide,Tryz.func146.trans (congrArg some (by kernel_rfl))⟩
 f10:=⟨Tryz.f202.name,by decide,Tryz.func202.trans (congrArg some (by kernel_rfl))⟩
 t0:=Tryz.underlying0
 a0:=Tryz.isAgg0
 z0:=Tryz.sizeOf0
 v0:=Tryz.zeroValue0
 t4:=Tryz.underlying4
 a4:=Tryz.isAgg4
 z4:=Tryz.sizeOf4
 v4:=Tryz.zeroValue4
 t23:=Tryz.underlying160
 a23:=Tryz.isAgg160
 z23:=Tryz.sizeOf160
 v23:=Tryz.zeroValue160
 t26:=Tryz.underlying3
 a26:=Tryz.isAgg3
 z26:=Tryz.sizeOf3
 v26:=Tryz.zeroValue3
 t27:=Tryz.underlying110
 a27:=Tryz.isAgg110
 z27:=Tryz.sizeOf110
 v27:=Tryz.zeroValue110
 t28:=Tryz.underlying111
 a28:=Tryz.isAgg111
 z28:=Tryz.sizeOf111
 v28:=Tryz.zeroValue111
 t33:=Tryz.underlying119
 a33:=Tryz.isAgg119
 z33:=Tryz.sizeOf119
 v33:=Tryz.zeroValue119 }
def Tryz.Yg:Go.Shelf.Ren:=⟨fun | 6=>145 | 8=>200 | 9=>201 | 11=>239 | 13=>206 | 12=>240 | 23=>250 | 24=>251 | 14=>283 | 15=>284 | 16=>285 | 17=>286 | 18=>287 | 19=>288 | 20=>289 | 21=>290 | 22=>291 | 25=>306 | 26=>293 | 27=>294 | 28=>307 | 29=>308 | 30=>309 | 31=>311 | n=>n,fun | 26=>3 | 28=>111 | 24=>40 | 0=>0 | 3=>3 | 37=>186 | 48=>301 | 50=>63 | 4=>4 | 40=>295 | 39=>294 | 45=>187 | 5=>5 | 9=>9 | 51=>327 | 55=>331 | 57=>339 | 58=>134 | 33=>119 | n=>n,fun | n=>n⟩
theorem Tryz.ald:Go.Proofs.SlLaysZI.n6 Tryz.prog Tryz.Yg:={
 mixed:=by kernel_rfl
 f6:=⟨Tryz.f145.name,by decide,Tryz.func145.trans (congrArg some (by kernel_rfl))⟩
 f8:=⟨Tryz.f200.name,by decide,Tryz.func200.trans (congrArg some (by kernel_rfl))⟩
 f11:=⟨Tryz.f239.name,by decide,Tryz.func239.trans (congrArg some (by kernel_rfl))⟩
 t0:=Tryz.underlying0
 a0:=Tryz.isAgg0
 z0:=Tryz.sizeOf0
 v0:=Tryz.zeroValue0
 t24:=Tryz.underlying40
 a24:=Tryz.isAgg40
 z24:=Tryz.sizeOf40
 v24:=Tryz.zeroValue40
 t26:=Tryz.underlying3
 a26:=Tryz.isAgg3
 z26:=Tryz.sizeOf3
 v26:=Tryz.zeroValue3
 t28:=Tryz.underlying111
 a28:=Tryz.isAgg111
 z28:=Tryz.sizeOf111
 v28:=Tryz.zeroValue111
 i26:=by kernel_rfl }
def Tryz.ak7:Go.Shelf.Ren:=⟨fun | 5=>201 | 8=>206 | 7=>240 | 19=>250 | 20=>251 | 10=>283 | 11=>284 | 12=>285 | 13=>286 | 14=>287 | 15=>288 | 16=>289 | 17=>290 | 18=>291 | 30=>306 | 31=>293 | 32=>294 | 33=>307 | 34=>308 | 35=>309 | 40=>311 | n=>n,fun | 23=>40 | 25=>3 | 3=>3 | 32=>186 | 22=>40 | 0=>0 | 44=>301 | 46=>63 | 4=>4 | 36=>295 | 35=>294 | 41=>187 | 5=>5 | 9=>9 | 53=>327 | 57=>331 | 63=>339 | 64=>134 | n=>n,fun | n=>n⟩
theorem Tryz.N3:Go.Proofs.SlLaysM.n5 Tryz.prog Tryz.ak7:={
 mixed:=by kernel_rfl
 f5:=⟨Tryz.f201.name,by decide,Tryz.func201.trans (congrArg some (by kernel_rfl))⟩
 f7:=⟨Tryz.f240.name,by decide,Tryz.func240.trans (congrArg some (by kernel_rfl))⟩
 f8:=Tryz.func206.trans (congrArg some (by kernel_rfl))
 f10:=⟨Tryz.f283.name,by decide,Tryz.func283.trans (congrArg some (by kernel_rfl))⟩
 f11:=⟨Tryz.f284.name,by decide,Tryz.func284.trans (congrArg some (by kernel_rfl))⟩
 f12:=⟨Tryz.f285.name,by decide,Tryz.func285.trans (congrArg some (by kernel_rfl))⟩
 f13:=⟨Tryz.f286.name,by decide,Tryz.func286.trans (congrArg some (by kernel_rfl))⟩
 f14:=⟨Tryz.f287.name,by decide,Tryz.func287.trans (congrArg some (by kernel_rfl))⟩
 f15:=⟨Tryz.f288.name,by decide,Tryz.func288.trans (congrArg some (by kernel_rfl))⟩
 f16:=⟨Tryz.f289.name,by decide,Tryz.func289.trans (congrArg some (by kernel_rfl))⟩
 f17:=⟨Tryz.f290.name,by decide,Tryz.func290.trans (congrArg some (by kernel_rfl))⟩
 f18:=⟨Tryz.f291.name,by decide,Tryz.func291.trans (congrArg some (by kernel_rfl))⟩
 f19:=Tryz.func250.trans (congrArg some (by kernel_rfl))
 f20:=Tryz.func251.trans (congrArg some (by kernel_rfl))
 f30:=⟨Tryz.f306.name,by decide,Tryz.func306.trans (congrArg some (by kernel_rfl))⟩
 f31:=Tryz.func293.trans (congrArg some (by kernel_rfl))
 f32:=Tryz.func294.trans (congrArg some (by kernel_rfl))
 f33:=⟨Tryz.f307.name,by decide,Tryz.func307.trans (congrArg some (by kernel_rfl))⟩
 f34:=⟨Tryz.f308.name,by decide,Tryz.func308.trans (congrArg some (by kernel_rfl))⟩
 f35:=⟨Tryz.f309.name,by decide,Tryz.func309.trans (congrArg some (by kernel_rfl))⟩
 f40:=⟨Tryz.f311.name,by decide,Tryz.func311.trans (congrArg some (by kernel_rfl))⟩
 t0:=Tryz.underlying0
 a0:=Tryz.isAgg0
 z0:=Tryz.sizeOf0
 v0:=Tryz.zeroValue0
 t3:=Tryz.underlying3
 a3:=Tryz.isAgg3
 z3:=Tryz.sizeOf3
 v3:=Tryz.zeroValue3
 t4:=Tryz.underlying4
 a4:=Tryz.isAgg4
 z4:=Tryz.sizeOf4
 v4:=Tryz.zeroValue4
 t5:=Tryz.underlying5
 a5:=Tryz.isAgg5
 z5:=Tryz.sizeOf5
 v5:=Tryz.zeroValue5
 t9:=Tryz.underlying9
 a9:=Tryz.isAgg9
 z9:=Tryz.sizeOf9
 v9:=Tryz.zeroValue9
 t22:=Tryz.underlying40
 a22:=Tryz.isAgg40
 z22:=Tryz.sizeOf40
 v22:=Tryz.zeroValue40
 t23:=Tryz.underlying40
 a23:=Tryz.isAgg40
 z23:=Tryz.sizeOf40
 v23:=Tryz.zeroValue40
 t25:=Tryz.underlying3
 a25:=Tryz.isAgg3
 z25:=Tryz.sizeOf3
 v25:=Tryz.zeroValue3
 t32:=Tryz.underlying186
 a32:=Tryz.isAgg186
 z32:=Tryz.sizeOf186
 v32:=Tryz.zeroValue186
 t35:=Tryz.underlying294
 a35:=Tryz.isAgg294
 z35:=Tryz.sizeOf294
 v35:=Tryz.zeroValue294
 t36:=Tryz.underlying295
 a36:=Tryz.isAgg295
 z36:=Tryz.sizeOf295
 v36:=Tryz.zeroValue295
 t41:=Tryz.underlying187
 a41:=Tryz.isAgg187
 z41:=Tryz.sizeOf187
 v41:=Tryz.zeroValue187
 t44:=Tryz.underlying301
 a44:=Tryz.isAgg301
 z44:=Tryz.sizeOf301
 v44:=Tryz.zeroValue301
 t46:=Tryz.underlying63
 a46:=Tryz.isAgg63
 z46:=Tryz.sizeOf63
 v46:=Tryz.zeroValue63
 t53:=Tryz.underlying327
 a53:=Tryz.isAgg327
 z53:=Tryz.sizeOf327
 v53:=Tryz.zeroValue327
 t57:=Tryz.underlying331
 a57:=Tryz.isAgg331
 z57:=Tryz.sizeOf331
 v57:=Tryz.zeroValue331
 t63:=Tryz.underlying339
 a63:=Tryz.isAgg339
 z63:=Tryz.sizeOf339
 v63:=Tryz.zeroValue339
 t64:=Tryz.underlying134
 a64:=Tryz.isAgg134
 z64:=Tryz.sizeOf134
 v64:=Tryz.zeroValue134 }
end Go.Proofs
end
section
namespace Go.Proofs
open Go Go.RowKit Go.Maps Go.Sort Go.Shelf
theorem Tryz.alf(m:Nat):AnyZI.SortsIn Tryz.prog Tryz.Yg Fence.wide m :=
 ⟨fun aV off cap b6 W hH hblk dn=>callsIn_wide.2 (AnyM.slices_Sort_int Tryz.N3 aV off cap b6 W hH hblk dn),fun p cap W=>callsIn_wide.2 (AnyM.slices_Sort_int_none Tryz.N3 p cap W)⟩
end Go.Proofs
namespace Go.Proofs.R
open Go Go.RowKit Go.Maps Go.Sort Go.Shelf bt
theorem ag5(EN:Option Nat)(w:World):bu Tryz.prog F.KI #[.map EN] w fun v w'=>v = .func (.func F.CQ) #[] #[.pointer (some ⟨w.heap.size,0,none⟩)]/\w'=w.alloc (.cells #[.map EN] T.x):=by
 have h:CallsIn Fence.wide 5 Tryz.prog F.KI #[.map EN] w fun e w'=>e = .returned (.func (.func F.CQ) #[] #[.pointer (some ⟨w.heap.size,0,none⟩)])/\w'=w.alloc (.cells #[.map EN] T.x):=AnyZI.keys_in Tryz.MH Fence.wide 5 trivial rfl EN w;exact Calls.mono (callsIn_wide.1 h) fun e w' ⟨h1,U⟩=>⟨_,h1,rfl,U⟩
theorem WB:∀l:List Int,l.map encZ=l.flatMap eB
 | []=>rfl
 | x :: l=>by rw[List.map_cons,List.flatMap_cons,WB l];rfl
theorem ale(b:Nat)(L:List Int)(w:World)(h:e4 w b L)(c7:L.length<=1000000) :
  bu Tryz.prog F.fT #[.func (.func F.CQ) #[] #[.pointer (some ⟨w.heap.size,0,none⟩)]] (w.alloc (.cells #[.map (some b)] T.x)) fun v w'=>(∃r,bs eB T.a 1 (w.alloc (.cells #[.map (some b)] T.x)).heap.size w' v r/\o.rz L r)/\Ext (w.alloc (.cells #[.map (some b)] T.x)) w':=by
 obtain⟨si,gj,dn,Mf⟩:=h.own (P:=Tryz.prog) (k:=T.a) (by kernel_rfl) (by unfold maxLen;omega);have z7:=gj.lt;have rQ:SeqGives Fence.wide 2 Tryz.prog F.CQ #[.pointer (some ⟨w.heap.size,0,none⟩)] encZ (fun b6=>b6.Perm (intKeys si)) (Maps.size si) (w.alloc (.cells #[.map (some b)] T.x)) :=
  AnyZI.keys_gives (ρ:=Tryz.V2) { Tryz.MH with } Fence.wide _ trivial rfl (by omega) w.heap.size b _ si _ (by simp) (by simp) (by
   obtain⟨es,clock,aC,Zo,ay,lo⟩:=gj;exact⟨es,clock,(Below.heap_alloc _ _ b z7).trans aC,Zo,ay,lo⟩)
 have R1:=AnyZI.sorted_in Tryz.ald Fence.wide 5 trivial trivial trivial trivial rfl (by omega) (Tryz.alf _) (Tryz.N3.f5.enters rfl) F.CQ #[.pointer (some ⟨w.heap.size,0,none⟩)] trivial (Tryz.MH.f10.enters rfl) _ _ (by unfold maxLen;omega) (by omega) _ rQ;change CallsIn _ _ Tryz.prog F.fT _ _ _ at R1;refine Calls.mono (callsIn_wide.1 R1) ?_;rintro e w' ⟨v,b6,rfl,cg,nP,_,aC⟩;obtain⟨h1,U⟩:=Mf b6 cg;refine⟨v,rfl,⟨b6.mergeSort fun x y=>decide (x<=y),?_,alc h1,fun x=>?_⟩,aC⟩
 .unfold bs;rw[<-WB,List.length_mergeSort];exact nP
 .rw[(List.mergeSort_perm b6 _).mem_iff];exact U x
theorem XH(b:Nat)(L:List Int)(w:World)(h:e4 w b L)(c7:L.length<=1000000) :
  bu Tryz.prog F.fE #[.map (some b)] w fun v w'=>(∃r,bs eB T.a 1 w.heap.size w' v r/\o.rz L r)/\Ext w w':=by
 have he:Ext w (w.alloc (.cells #[.map (some b)] T.x)):=(Ext.refl w).alloc _;have hk:=ag5 (some b) w;have ay:=ale b L w h c7;generalize w.alloc (.cells #[.map (some b)] T.x)=av at he hk ay;refine bL E.fE ?_;refine bG ?_;refine ae ?_;refine K.call hk ?_;rintro _ _ ⟨rfl,rfl⟩;refine ae ?_;refine K.call ay ?_;rintro v aU ⟨⟨r,bc,ba⟩,aA⟩;refine ae ?_;exact⟨⟨r,bs.low he.size bc,ba⟩,he.trans aA⟩
end Go.Proofs.R
end
section
namespace Go.Proofs.R
open Go Go.RowKit bt
theorem Qt(cs:List Value)(m:o.Model)(ref:Int)(w:World)(h:o.ec w cs m)(aZ:m.cQ)(bc:hv w) :
  bu Tryz.prog F.oW #[.agg cs.toArray,.int .i64 ref] w fun v w'=>(∃ee nV a b,v = .tuple #[ee,nV]/\bs eB T.a 1 w.heap.size w' ee a/\bs eB T.a 1 w.heap.size w' nV b/\o.jq m ref a b)/\Ext w w':=by
 have dP:=h;obtain⟨cz,bS,b9,c1,cn,c2,cp,bP,cA,bX,rfl,_⟩:=h.form;refine bL E.oW ?_;refine bG ?_;refine ae ?_;intro av cr dQ aB aP;refine ae ?_;refine K.call (aiF _ m ref av (dP.ext aB) aZ (bc.ext aB)) ?_;rintro _ aU ⟨hO,aA⟩;replace aP:=aA.obj aP;have a6:=aB.trans aA;rcases hO with ⟨wk,rfl⟩ | ⟨b,q,p,k,fB,ee,cf,rfl,mV,kz,iE⟩
 .unfold R4;refine ae ?_;intro wn ek e6 gH fG;refine ae ?_;intro bb fR ct;refine ae ?_;exact⟨⟨_,_,[],[],rfl,bs.nil _ _ _ _ _,bs.nil _ _ _ _ _,o.jq.nil wk⟩,a6.trans (fR.ext gH e6)⟩
 obtain⟨hM,gF,rfl,_⟩:=kz.form;obtain⟨wM,vD,rfl,_⟩:=iE.form;have bq:=o.lZ cf.ok;have bB:=cf.inst;have sR:=cf.cin;have rM:=sR.hx;obtain⟨c,Dd⟩:∃c,c=o.cL m p k:=⟨_,rfl⟩;rw[<-Dd] at sR rM kz iE ⊢;unfold o.dI.enc;refine ae ?_;intro wn lh jw gH fG;refine ae ?_;intro bb fR cS;have ax:Ext aU bb:=fR.ext gH jw;clear gH fG fR;have bK:=a6.trans ax;have CZ:=mV.ext ax;have afw:=kz.ext ax;have L0:=iE.ext ax;have LO:=o.DT bq bB.aG;clear aP mV kz iE;refine ae ?_;refine K.A1 fun bp tG K6 aN Df=>?_;refine ae ?_;refine K.A1 fun bR vA an0 aW sS=>?_;have Vf:=(e4.empty Df).ext aW;have eZ:=e4.empty sS;have c5:tG≠vA:=by have:=cH Df;omega
 have hS:=aN.trans aW;have Hg:=hS.obj cS;have aei:bb.heap.size<=vA:=by have:=aN.size;omega
 clear Df sS;refine ae ?_;refine K.call (Dk b q m bR (CZ.ext hS) bB.aG) ?_;rintro _ bY ⟨rfl,a8⟩;refine ae ?_;refine K.call (r9 tG [] (o.eg m q) 1 _ _ bY (Vf.ext a8) rfl rfl (by omega)) ?_;rintro _ cd ⟨Vg,ow⟩;have dB:=(eZ.ext a8).mod ow (Ne.symm c5);have jL:=ow.ext (hS.trans a8) fun k hk e=>by omega
 refine ae ?_;refine K.call (Dk b q m cd (CZ.ext jL) bB.aG) ?_;rintro _ dg ⟨rfl,bV⟩;refine ae ?_;refine K.call (r9 vA [] (o.eg m q) 1 _ _ dg (dB.ext bV) rfl rfl (by omega)) ?_;rintro _ ea ⟨iQ,qR⟩;have Vh:=(Vg.ext bV).mod qR c5;have jM:=qR.ext (jL.trans bV) fun k hk e=>by omega
 have aex:=jM.obj cS;refine ae ?_;refine K.call (CJ c.guard _ b tG q p _ m bb ea CZ jM K6 Vh bq bB afw sR.guard) ?_;rintro _ e3 ⟨L9,Dy⟩;have p5:=iQ.mod Dy (Ne.symm c5);have xa:=Dy.ext jM fun k hk e=>by omega
 have aew:=xa.obj cS;rw[List.nil_append] at p5 L9;have To:e4 e3 tG (o.qf m q c 0):=by
  unfold o.qf o.GU;rw[List.take_zero,List.flatMap_nil,List.append_nil];exact L9
 have Tp:e4 e3 vA (o.mB m q c 0):=by
  unfold o.mB;rw[List.take_zero,List.flatMap_nil,List.append_nil];exact p5
 clear Vf eZ Vg dB Vh iQ L9 p5 Hg aex ow qR Dy a8 bV hS jL jM;refine ae ?_;refine K.dj 40 c.cb.length [6,7,9,10,38,39] (fun _:Unit=>[]) () (fun n _ W=>Ext bb W/\e4 W tG (o.qf m q c n)/\e4 W vA (o.mB m q c n)) bx bx ⟨xa,To,Tp⟩ ?_;clear aew To Tp xa;rintro n _ S gg aD ⟨pv,Ma,gZ⟩;have afs:=L0.ext pv;refine ae ?_;apply K.cond<;>intro g1
 .have ki:n<c.cb.length:=by omega
  obtain⟨kM,rfl⟩:=L0.addr (by omega);obtain⟨cy,cE,x2,Aq,DD⟩:=L0.at n ki;have C1:=sR.act n ki;obtain⟨cU,ci,rfl,_⟩:=Aq.form;obtain⟨e1,fv,rfl,_⟩:=DD.form;replace x2:=x2.ext pv;clear afs;refine ae ?_;intro lI B5 sM fx ug;have qo:=pv.trans fx;have Mb:=Ma.ext fx;have oz:=gZ.ext fx;have lD:¬B5=tG:=fun e=>by subst e;obtain⟨_,_,h,_⟩:=Mb.ex;rw[ug] at h;cases h
  have jY:¬B5=vA:=fun e=>by subst e;obtain⟨_,_,h,_⟩:=oz.ex;rw[ug] at h;cases h
  clear x2 Ma gZ;refine ae ?_;refine K.call (ajN c.cb[n] _ _ b tG q p _ m bb lI CZ qo K6 Mb bq bB Aq DD C1) ?_;rintro _ nn ⟨afX,yf⟩;have hK:=oz.mod yf (Ne.symm c5);have y8:=yf.ext qo fun k hk e=>by omega
  replace ug:=yf.obj lD ug;clear Mb oz;refine ae ?_;refine K.call (amy c.cb[n] _ _ b vA q p _ m bb nn CZ y8 aei hK bq bB Aq C1) ?_;rintro _ YS ⟨DQ,UT⟩;have afY:=afX.mod UT c5;have BF:=UT.ext y8 fun k hk e=>by omega
  refine ae ?_;exact⟨ki,bk,(),trivial,BF,by rw[o.Xw ki];exact afY,by rw[o.Y5 ki];exact DQ⟩
 .have HI:c.cb.length=n:=by omega
  have kk:=(o.Xx bq bB sR n (by omega)).len;have agt:=(o.Y6 bq bB sR n (by omega)).len;refine ae ?_;refine K.call (XH tG _ gg Ma (by omega)) ?_;rintro u lI ⟨⟨NC,afB,af0⟩,fx⟩;refine ae ?_;refine K.call (XH vA _ lI (gZ.ext fx) (by omega)) ?_;rintro w1 nn ⟨⟨E1,afC,af1⟩,ke⟩;refine ae ?_;have OG:=(bK.trans pv).size;have z12:=fx.size;refine⟨⟨_,_,NC,E1,rfl,bs.ext ke (bs.low OG afB),bs.low (Nat.le_trans OG z12) afC,?_⟩,((bK.trans pv).trans fx).trans ke⟩;subst Dd;refine o.jq.of cf ?_ ?_
  .rw[HI];exact af0
  .rw[HI];exact af1
theorem Zv(cs:List Value)(m:o.Model)(ref:Int)(w:World)(h:o.ec w cs m)(aZ:m.cQ)(bc:hv w) :
  bu Tryz.prog F.oW #[.agg cs.toArray,.int .i64 ref] w fun v w'=>(∃ee nV a b,v = .tuple #[ee,nV]/\eT w' ee a/\eT w' nV b/\o.jq m ref a b)/\Ext w w' :=
 (Qt cs m ref w h aZ bc).mono fun v w' ⟨⟨ee,nV,a,b,aT,bo,aC,dr⟩,he⟩=>⟨⟨ee,nV,a,b,aT,bs.iW (enc:=eB) (fun _=>rfl) bo,bs.iW (enc:=eB) (fun _=>rfl) aC,dr⟩,he⟩
end Go.Proofs.R
end
section
namespace bt
open Go Go.RowKit
structure amK(e:TypeId)(base:Nat)(w:World)(v1:Value)(ej:List Int)(v2:Value)(eo:List Int):Prop where
 fA:bs eB e 1 base w v1 ej
 gd:bs eB e 1 base w v2 eo
 ap:∀k,v1.ownBlock=some k->v2.ownBlock≠some k
end bt
end
section
namespace o
open Go
theorem acH(x:Node)(h : -1000<=x.op/\x.op<=1000 /\ -1000<=x.n/\x.n<=1000):x.ok:=⟨ly ⟨h.1,h.2.1⟩,ly h.2.2⟩
end o
end
section
namespace o
theorem ajv{s:List Scalar}{c:dv}{l:List Int}(aS:l.length=1+c.cap.toNat)(ak:1<=c.cap):mI s c l↔(0<=l[0]'(by omega)/\l[0]'(by omega)<=c.cap/\∀k (h:k+1<l.length),((k:Int)<l[0]'(by omega)->(fb c.scalar c.bf c.ad s).bf<=l[k+1]/\l[k+1]<=(fb c.scalar c.bf c.ad s).ad)/\(l[0]'(by omega)<=k->l[k+1]=0)):=by
 unfold mI;constructor
 .rintro⟨n,h1,U,ag,aJ⟩;obtain⟨_,rfl⟩:=List.getElem?_eq_some_iff.1 h1;refine⟨U,ag,fun k h=>?_⟩;obtain⟨x,bg,bO⟩:=aJ k (by omega);obtain⟨_,rfl⟩:=List.getElem?_eq_some_iff.1 bg;exact bO
 .rintro⟨U,ag,aJ⟩;exact⟨l[0]'(by omega),List.getElem?_eq_getElem _,U,ag,fun k h=>⟨l[k+1]'(by omega),List.getElem?_eq_getElem _,aJ k (by omega)⟩⟩
end o
end
section
namespace o
open Classical in
noncomputable def EY(s:List Scalar)(c:dv)(l:List Int):Bool:=decide (mI s c l)
theorem Nu{s:List Scalar}{c:dv}{l:List Int}:EY s c l=true↔mI s c l:=by unfold EY;simp
theorem ajt{s:List Scalar}{c:dv}{l:List Int}{t:Bool}(h:t=true↔mI s c l):t=EY s c l:=by
 rw[<-Nu] at h;cases t<;>cases aG:EY s c l<;>simp_all
end o
namespace Go.Proofs.R
open Go Go.RowKit bt
theorem WC(cs:List Value)(m:o.Model)(w:World)(h:o.ec w cs m)(aZ:m.cQ) :
  bu Tryz.prog F.AO #[.agg cs.toArray] w fun v w'=>v = .bool (decide ((o.check m).cX=0))/\Ext w w':=by
 obtain⟨cz,bS,b9,c1,cn,c2,cp,bP,cA,bX,rfl,_⟩:=h.form;refine bL E.AO ?_;refine bG ?_;refine ae ?_;intro av bC cR aB ao;refine ae ?_;refine K.call (NK _ m av (h.ext aB) aZ) ?_;rintro _ aU ⟨rfl,aA⟩;unfold vU;refine ae ?_;refine K.jf (v:=.int .i64 (o.check m).cX) rfl ?_;refine ae ?_;exact⟨bk,aB.trans aA⟩
theorem ajL(cs:List Value)(m:o.Model)(v:Value)(l:List Int)(i:Nat)(w:World)(h:o.ec w cs m)(bq:o.eF m)(ad:i<m.aM.length)(aO:eT w v l)(qQ:l.length=1+m.aM[i].cap.toNat) :
  bu Tryz.prog F.EA #[.agg cs.toArray,v,.int .i64 i] w fun u w'=>(∃t:Bool,u = .bool t/\(t=true↔o.mI m.scalars m.aM[i] l))/\Ext w w':=by
 obtain⟨cz,bS,b9,c1,cn,c2,cp,bP,cA,bX,rfl,ak,h1,U,ag,aJ,eI,ej,eo,dX,ep⟩:=h.form;obtain⟨e1,fv,rfl,ga⟩:=aO.form;have dt:=bq.chan _ (List.getElem_mem ad);have hZ:=dt.cap;have hx:=bq.hx;obtain⟨ac,rfl⟩:=U.addr (by omega);obtain⟨ap,rfl⟩:=aO.addr (by omega);have en:=(U.at i ad).cells;have aG:=o.ajv (s:=m.scalars) (c:=m.aM[i]) (l:=l) qQ hZ.1;obtain⟨bf,jA⟩:∃bf,bf=(o.fb m.aM[i].scalar m.aM[i].bf m.aM[i].ad m.scalars).bf:=⟨_,rfl⟩;obtain⟨cO,Dp⟩:∃ad,ad=(o.fb m.aM[i].scalar m.aM[i].bf m.aM[i].ad m.scalars).ad:=⟨_,rfl⟩;rw[<-jA,<-Dp] at aG;refine bL E.EA ?_;refine bG ?_;refine ae ?_;intro av bC cR aB ao;replace en:=en.ext aB;refine ae ?_;intro aU lh jw aA cS;replace ao:=aA.obj ao;have a6:=aB.trans aA;replace aO:=aO.ext Flat.ext a6;clear en;refine ae ?_;refine K.dp 0 rfl (by omega) ?_;refine ae ?_;apply K.cond<;>intro g1
 .refine ae ?_;intro bb ax;refine ae ?_;exact⟨⟨false,rfl,by simp only[Bool.false_eq_true,false_iff];intro h;exact absurd (aG.1 h).1 (by omega)⟩,a6.trans ax⟩
 refine ae ?_;refine K.dp 0 rfl (by omega) ?_;refine ae ?_;intro bb ax;replace ao:=ax.obj ao;replace cS:=ax.obj cS;replace aO:=aO.ext Flat.ext ax;have bK:=a6.trans ax;apply K.cond<;>intro g2
 .refine ae ?_;exact⟨⟨false,rfl,by simp only[Bool.false_eq_true,false_iff];intro h;exact absurd (aG.1 h).2.1 (by omega)⟩,bK⟩
 refine ae ?_;refine K.call (NI ⟨⟨#[]⟩,m.aM[i].scalar,0,m.aM[i].bf,m.aM[i].ad,0⟩ _ m.scalars bb (ak.ext bK)) ?_;rintro _ bp ⟨rfl,aN⟩;have SI:((o.bounds ⟨⟨#[]⟩,m.aM[i].scalar,0,m.aM[i].bf,m.aM[i].ad,0⟩ m.scalars).1=bf)/\(o.bounds ⟨⟨#[]⟩,m.aM[i].scalar,0,m.aM[i].bf,m.aM[i].ad,0⟩ m.scalars).2=cO:=by
  rw[jA,Dp,show o.fb m.aM[i].scalar m.aM[i].bf m.aM[i].ad m.scalars=_ from o.B8 ⟨⟨#[]⟩,m.aM[i].scalar,0,m.aM[i].bf,m.aM[i].ad,0⟩ m.scalars];exact⟨rfl,rfl⟩
 rw[SI.1,SI.2];have aev:=aN.obj cS;replace aO:=aO.ext Flat.ext aN;have b0:=bK.trans aN;refine ae ?_;refine K.w3 [1,7,8,9] (fun x:Nat=>[(10,.int .i64 ((x:Int)+1))]) 0 (fun x W=>Ext bp W/\(x:Int)<=m.aM[i].cap/\∀j (h:j+1<l.length),j<x->((j:Int)<l[0]->bf<=l[j+1]/\l[j+1]<=cO)/\(l[0]<=j->l[j+1]=0)) (fun x=>(m.aM[i].cap - x).toNat) bx ⟨Ext.refl _,by omega,fun j _ h=>absurd h (Nat.not_lt_zero _)⟩ ?_;clear ao cS;rintro k S bR ⟨aW,hk,dF⟩;have cS:=aW.obj aev;have b3:=b0.trans aW;replace aO:=aO.ext Flat.ext aW;refine ae ?_;apply K.cond<;>intro g3
 .have de:k+1<l.length:=by omega
  have bad:¬(((k:Int)<l[0]->bf<=l[k+1]/\l[k+1]<=cO)/\(l[0]<=k->l[k+1]=0))->(false=true↔o.mI m.scalars m.aM[i] l):=fun h=>by
   simp only[Bool.false_eq_true,false_iff];exact fun dm=>h ((aG.1 dm).2.2 k de)
  refine ae ?_;refine K.dp 0 rfl (by omega) ?_;refine ae ?_;apply K.cond<;>intro g4
  .refine ae ?_;apply K.cond<;>intro g5
   .refine ae ?_;exact⟨⟨false,rfl,bad fun h=>by have:=h.1 (by omega);omega⟩,b3⟩
   refine ae ?_;apply K.cond<;>intro g6
   .refine ae ?_;exact⟨⟨false,rfl,bad fun h=>by have:=h.1 (by omega);omega⟩,b3⟩
   refine ae ?_;refine K.dp 0 rfl (by omega) ?_;refine ae ?_;exact⟨k+1,bx,⟨aW,by omega,fun j h aR=>by
    by_cases h2:j=k
    .subst h2;exact⟨fun _=>by omega,fun _=>by omega⟩
    .exact dF j h (by omega)⟩,by omega⟩
  .refine ae ?_;refine K.dp 0 rfl (by omega) ?_;refine ae ?_;apply K.cond<;>intro g5
   .refine ae ?_;exact⟨k+1,bx,⟨aW,by omega,fun j h aR=>by
     by_cases h2:j=k
     .subst h2;exact⟨fun _=>by omega,fun _=>by omega⟩
     .exact dF j h (by omega)⟩,by omega⟩
   .refine ae ?_;exact⟨⟨false,rfl,bad fun h=>by have:=h.2 (by omega);omega⟩,b3⟩
 .refine ae ?_;exact⟨⟨true,rfl,by simp only[true_iff];exact aG.2 ⟨by omega,by omega,fun j h=>dF j h (by omega)⟩⟩,b3⟩
theorem aj8(xs:List Value)(m:o.Model)(v:Value)(s:List Int)(w:World)(c7:o.ja w xs (o.layout m))(bq:o.eF m)(ay:eT w v s)(aS:s.length=o.eA m) :
  bu Tryz.prog F.EB #[.agg xs.toArray,v] w fun u w'=>(∃t:Bool,u = .bool t/\(t=true↔∀i (h:i<s.length) (bE:i<(o.cc m).length),(o.cc m)[i].bf<=s[i]/\s[i]<=(o.cc m)[i].ad))/\Ext w w':=by
 obtain⟨k3,d0,j1,d1,j2,d2,nY,d3,nq,d4,rfl,gx,fA,gd,ir,k0⟩:=c7.form;obtain⟨e1,fv,rfl,ga⟩:=ay.form;have xQ:(o.layout m).cells=(o.eA m:Int):=rfl;have f2:=o.Wo m;have f3:=o.Wm m;have qI:o.eA m<=64:=o.nf bq;have Ap:(o.cc m).length=s.length:=aS.symm;refine bL E.EB ?_;refine bG ?_;refine ae ?_;intro av bC cR aB ao;have qL:=ao;clear ao;replace ay:=ay.ext Flat.ext aB;replace ir:=ir.ext Flat.ext aB;replace k0:=k0.ext Flat.ext aB;refine ae ?_;refine K.dj 5 s.length [1,2] (fun _:Unit=>[]) () (fun k _ W=>Ext av W/\∀j (h:j<s.length) (bE:j<(o.cc m).length),j<k->(o.cc m)[j].bf<=s[j]/\s[j]<=(o.cc m)[j].ad) bx bx ⟨Ext.refl _,fun j _ _ h=>absurd h (Nat.not_lt_zero _)⟩ ?_;rintro k _ S aU hk ⟨aA,dF⟩;have ao:=aA.obj qL;refine ae ?_;apply K.cond<;>intro g3
 .have br:k<s.length:=by omega
  have rO:k<(o.cc m).length:=by omega
  have dX:(o.layout m).bf[k]'(by omega)=(o.cc m)[k].bf:=o.Wn _ rO;have ep:(o.layout m).ad[k]'(by omega)=(o.cc m)[k].ad:=o.Wl _ rO;obtain⟨oX,rfl⟩:=ay.addr (by omega);obtain⟨a3,rfl⟩:=ir.addr (by omega);obtain⟨a4,rfl⟩:=k0.addr (by omega);have bad:¬((o.cc m)[k].bf<=s[k]/\s[k]<=(o.cc m)[k].ad)->(false=true↔∀i (h:i<s.length) (bE:i<(o.cc m).length),(o.cc m)[i].bf<=s[i]/\s[i]<=(o.cc m)[i].ad):=fun h=>by
   simp only[Bool.false_eq_true,false_iff];exact fun dm=>h (dm k br rO)
  have a6:=aB.trans aA;refine ae ?_;apply K.cond<;>intro g4
  .refine ae ?_;intro bb ax;refine ae ?_;exact⟨⟨false,rfl,bad (by omega)⟩,a6.trans ax⟩
  refine ae ?_;intro bb ax;apply K.cond<;>intro g5
  .refine ae ?_;exact⟨⟨false,rfl,bad (by omega)⟩,a6.trans ax⟩
  refine ae ?_;refine⟨br,bk,(),trivial,aA.trans ax,fun j h bE aR=>?_⟩;by_cases h2:j=k
  .subst h2;omega
  .exact dF j h bE (by omega)
 .refine ae ?_;exact⟨⟨true,rfl,by simp only[true_iff];exact fun j h bE=>dF j h bE (by omega)⟩,aB.trans aA⟩
theorem Nz(cs xs:List Value)(m:o.Model)(v:Value)(s:List Int)(w:World)(h:o.ec w cs m)(c7:o.ja w xs (o.layout m))(bq:o.eF m)(ay:eT w v s) :
  bu Tryz.prog F.yB #[.agg cs.toArray,.agg xs.toArray,v] w fun u w'=>(∃t:Bool,u = .bool t/\(t=true↔o.Fits m s))/\Ext w w':=by
 have dP:=h;have o3:=c7;obtain⟨cz,bS,b9,c1,cn,c2,cp,bP,cA,bX,rfl,ak,h1,U,ag,aJ,eI,ej,eo,dX,ep⟩:=h.form;obtain⟨k3,d0,j1,d1,j2,d2,nY,d3,nq,d4,rfl,gx,fA,gd,ir,k0⟩:=c7.form;obtain⟨e1,fv,rfl,ga⟩:=ay.form;have xQ:(o.layout m).cells=(o.eA m:Int):=rfl;have qI:o.eA m<=64:=o.nf bq;have hx:=bq.hx;refine bL E.yB ?_;refine bG ?_;refine ae ?_;intro av bC cR aB ao;refine ae ?_;intro aU cr dQ aA aP;replace ao:=aA.obj ao;have a6:=aB.trans aA;replace ay:=ay.ext Flat.ext a6;refine ae ?_;apply K.cond<;>intro g1;rotate_left
 .refine ae ?_;exact⟨⟨false,rfl,by simp only[Bool.false_eq_true,false_iff];intro h;have:=h.len;omega⟩,a6⟩
 have aS:s.length=o.eA m:=by omega
 have qL:=ao;have Da:=aP;clear ao aP;refine ae ?_;refine K.dj 7 m.aM.length [2,3,4] (fun _:Unit=>[]) () (fun k _ W=>Ext aU W/\∀j (h:j<m.aM.length),j<k->o.mI m.scalars m.aM[j] (o.oh m j m.aM[j] s)) bx bx ⟨Ext.refl _,fun j _ h=>absurd h (Nat.not_lt_zero _)⟩ ?_;rintro k _ S bb hk ⟨ax,dF⟩;have ao:=ax.obj qL;have aP:=ax.obj Da;have bK:=a6.trans ax;have h3:=ay.ext Flat.ext ax;refine ae ?_;apply K.cond<;>intro g2
 .have br:k<m.aM.length:=by omega
  obtain⟨lS,fh⟩:=o.vB br;have o9:=o.xE br;have fG:=o.o0 m;have hZ:=(bq.chan _ (List.getElem_mem br)).cap;obtain⟨dD,rfl⟩:=fA.addr (by omega);obtain⟨a2,rfl⟩:=U.addr (by omega);have apD:=fA.ext Flat.ext bK;have en:=((U.at k br).cells).ext bK;refine ae ?_;refine K.IE (k:=.i64) (k':=.i64) (o.df m k) (o.df m k+(1+m.aM[k].cap.toNat)) h3 (by simp[ft,cu,fh]) (by simp[ft,cu,fh];omega) (by omega) (by omega) fun al c aO=>?_;rw[show o.df m k+(1+m.aM[k].cap.toNat) - o.df m k=1+m.aM[k].cap.toNat from by omega] at aO ⊢;replace aO:bF 1 (Flat eB) bb (.slice al (1+m.aM[k].cap.toNat) c) (o.oh m k m.aM[k] s):=aO;refine ae ?_;refine K.gB (.bool (o.EY m.scalars m.aM[k] (o.oh m k m.aM[k] s))) (fun w' e=>(ajL _ m _ _ k w' (dP.ext (bK.trans e)) bq br (aO.ext Flat.ext e) aO.len.1.symm).mono fun u b2 ⟨⟨t,aL,aG⟩,he⟩=>⟨by rw[aL,o.ajt aG],he⟩) ?_;refine ae ?_;intro bp aN;refine K.du (fun aG=>?_) (fun aG=>?_)
  .refine ae ?_;refine⟨br,bk,(),trivial,ax.trans aN,fun j h aR=>?_⟩;by_cases h2:j=k
   .subst h2;exact o.Nu.1 aG
   .exact dF j h (by omega)
  .refine ae ?_;exact⟨⟨false,rfl,by simp only[Bool.false_eq_true,false_iff];intro h;have:=o.Nu.2 (h.queue k br);rw[aG] at this;cases this⟩,bK.trans aN⟩
 .refine ae ?_;refine K.call (aj8 _ m _ s bb (o3.ext bK) bq h3 aS) ?_;rintro _ bp ⟨⟨t,rfl,aL⟩,aN⟩;refine ae ?_;exact⟨⟨t,rfl,aL.trans ⟨fun h=>⟨aS,fun j aR=>dF j aR (by omega),h⟩,fun h=>h.cell⟩⟩,bK.trans aN⟩
theorem ajC(cs:List Value)(m:o.Model)(v:Value)(s:List Int)(w:World)(h:o.ec w cs m)(aZ:m.cQ)(ay:eT w v s) :
  bu Tryz.prog F.Ey #[.agg cs.toArray,v] w fun u w'=>(∃t:Bool,u = .bool t/\(t=true↔o.oT m s))/\Ext w w':=by
 have bq:=h;obtain⟨cz,bS,b9,c1,cn,c2,cp,bP,cA,bX,rfl,_⟩:=h.form;obtain⟨e1,fv,rfl,ga⟩:=ay.form;refine bL E.Ey ?_;refine bG ?_;refine ae ?_;intro av bC cR aB ao;refine ae ?_;intro aU aA;replace ao:=aA.obj ao;have a6:=aB.trans aA;refine ae ?_;refine K.call (WC _ m aU (bq.ext a6) aZ) ?_;rintro _ bb ⟨rfl,ax⟩;have bK:=a6.trans ax;refine⟨ax,?_⟩;by_cases hk:(o.check m).cX=0
 .rw[decide_eq_true hk];refine ae ?_;refine K.call (Xz _ m bb (bq.ext bK) aZ) ?_;rintro _ bp ⟨⟨xs,rfl,c7⟩,aN⟩;replace c7:=c7.here;rw[o.H9 hk] at c7;have b0:=bK.trans aN;refine⟨ax.trans aN,?_⟩;refine ae ?_;refine K.call (Nz _ _ m _ s bp (bq.ext b0) c7 (o.lZ hk) (ay.ext Flat.ext b0)) ?_;rintro _ bR ⟨⟨t,rfl,aL⟩,aW⟩;refine ae ?_;exact⟨⟨t,by cases t<;>rfl,aL.trans ⟨fun h=>⟨hk,h⟩,fun h=>h.2⟩⟩,b0.trans aW⟩
 .rw[decide_eq_false hk];refine ae ?_;exact⟨⟨false,rfl,by simp only[Bool.false_eq_true,false_iff];exact fun h=>hk h.1⟩,bK⟩
end Go.Proofs.R
end
section
namespace bt
open Go Go.RowKit
def nQ(l:List Int):List Value:=l.map (Value.int .i64)
theorem agQ(l:List Int):(nQ l).length=l.length:=by simp[nQ]
theorem agR{l:List Int}{d j:Nat}{x:Int}(aR:j=d)(h:j<(nQ l).toArray.size):(nQ l).toArray.set j (.int .i64 x) h=(nQ (l.set d x)).toArray:=by
 subst aR;simp[nQ,List.map_set]
theorem amE(n:Nat):n1 (Value.int .i64 0).cells (n*1)=(nQ (List.replicate n 0)).toArray:=by
 apply Array.ext_getElem?;intro i;by_cases h:i<n
 .simp[n1,nQ,Value.cells,h,Nat.mod_one]
 .simp[n1,nQ,h]
theorem K.ah2{da:Value->World->Prop}{w:World}{e:TypeId}{n:Int}{t}(N:Nat)(aD:n=N)(aC:N<=1000000)(hk:∀av b,w.heap.size<=b->Ext w av->av.heap[b]? = some (.cells (nQ (List.replicate N 0)).toArray e)->da (.slice (some ⟨b,0,none⟩) N N) av) :
  xc e 1 8 (.int .i64 0) (.int .i64 n) (.int .i64 n) w da t:=by
 subst aD;refine K.p7 ⟨by omega,by omega,by omega,by omega⟩ ?_;have h:=hk (w.alloc (.cells (nQ (List.replicate N 0)).toArray e)) _ (Nat.le_refl _) ((Ext.refl w).alloc _) (heap_alloc_new w _);rw[Int.toNat_natCast,amE];exact h
theorem MD:∀l:List Int,nQ l=l.flatMap eB
 | []=>rfl
 | x :: r=>by
  have:=MD r
  simp only[nQ,List.map_cons,List.flatMap_cons] at this ⊢;rw[this];rfl
theorem air{w:World}{b n:Nat}{e:TypeId}{l:List Int}(h:w.heap[b]? = some (.cells (nQ l).toArray e))(aD:n=l.length)(hm:l.length<=maxLen):bF 1 (Flat eB) w (.slice (some ⟨b,0,none⟩) n n) l :=
 bF.aV (enc:=eB) (fun _=>rfl) (by rw[h,MD]) aD hm fun _ _ _ h=>h
end bt
namespace Go.Proofs.R
open Go Go.RowKit bt
def F2(w:World)(a:Addr)(l:List Int):Prop := ∃v,w.cell? a=some v/\eT w v l
abbrev BO(w:World)(v:Value)(l:List (List Int)):Prop:=bF 1 F2 w v l
theorem ajI(cs ys:List Value)(v:Value)(m:o.Model)(s:List Int)(p:Nat)(w:World)(h:o.ec w cs m)(aZ:m.cQ)(bq:o.eF m)(c7:o.ja w ys (o.layout m))(ay:eT w v s)(aK:o.Fits m s)(aO:p<m.procs.length) :
  bu Tryz.prog F.Ez #[.agg cs.toArray,.agg ys.toArray,v,.int .i64 p] w fun u w'=>bs eB T.a 1 w.heap.size w' u (o.js m s p m.procs[p].cx (o.insts m).length)/\Ext w w':=by
 have dP:=h;obtain⟨cz,bS,b9,c1,cn,c2,cp,bP,cA,bX,rfl,ak,h1,U,ag,aJ,eI,ej,eo,dX,ep⟩:=h.form;obtain⟨k3,d0,j1,d1,j2,d2,nY,d3,nq,d4,rfl,gx,fA,gd,ir,k0,gk,dc,dd,gv⟩:=c7.form;obtain⟨e1,fv,rfl,ga⟩:=ay.form;have hlen:=aK.len;have qI:o.eA m<=64:=o.nf bq;have qM:(o.insts m).length<=30:=by have:=o.uE m;have:=bq.procs;omega
 have dt:=bq.proc _ (List.getElem_mem aO);have UQ:=dt.cx;obtain⟨f6,f7,f8⟩:=o.Ia m;obtain⟨a,rfl⟩:=ag.addr (by omega);obtain⟨mr,cE,dT,dL,eR,gn⟩:=ag.at p aO;refine bL E.Ez ?_;refine bG ?_;refine ae ?_;intro av bC cR aB ao;refine ae ?_;intro aU cr dQ aA aP;replace ao:=aA.obj ao;have a6:=aB.trans aA;replace dL:=dL.ext a6;unfold o.dz.enc at dL;refine ae ?_;refine K.ah2 m.procs[p].cx.toNat (by omega) (by omega) ?_;intro bb vy aed ax mX;rw[<-o.aaf m s p] at mX;replace ao:=ax.obj ao;replace aP:=ax.obj aP;have bK:=a6.trans ax;have z2:=a6.size;clear dL;refine ae ?_;refine K.call (Bc _ m bb (dP.ext bK) aZ) ?_;rintro cy pr ⟨fy,sU⟩;obtain⟨cU,ci,rfl,_⟩:=fy.form;replace aP:=sU.obj aP;replace mX:=sU.obj mX;have jY:vy≠cr:=by
  intro e;subst e;rw[aP] at mX;injection mX with mX;injection mX with _ mX;revert mX;decide
 have afi:∀{W},Mod (fun k=>k=vy) pr W->ev [T.a] pr W:=fun h=>ev.mod h fun k c t aw a=>by
  subst a;rw[mX] at aw;injection aw with aw;injection aw with _ aw;rw[<-aw];simp
 have LN:∀{W:World},Mod (fun k=>k=vy) pr W->kK W (.slice cU (o.insts m).length ci) (o.insts m):=fun k=>bs.iW (enc:=o.c8.enc) (fun _=>rfl) (fy.hB (afi k) (by decide));have hA:∀{W},Mod (fun k=>k=vy) pr W->W.heap[cr]? = pr.heap[cr]? := fun h=>h.block _ (cH aP) (Ne.symm jY);have fF:∀{W},Mod (fun k=>k=vy) pr W->Ext aU W:=fun h=>h.ext (ax.trans sU) fun i ad e=>by omega
 rw[aP] at hA;clear ao aP;refine ae ?_;refine K.dj 11 (o.insts m).length [2,3,5,9,10] (fun _:Unit=>[]) () (fun k _ W=>Mod (fun i=>i=vy) pr W/\W.heap[vy]? = some (.cells (nQ (o.js m s p m.procs[p].cx k)).toArray T.a)) bx bx ⟨Mod.refl _ _,mX⟩ ?_;clear mX;rintro k _ S bp br ⟨hm,mX⟩;have aP:=hA hm;have eU:=LN hm;have b0:=a6.trans (fF hm);refine ae ?_;apply K.cond<;>intro g1
 .have de:k<(o.insts m).length:=by omega
  obtain⟨jc,rfl⟩:=eU.addr (by omega);have yh:=o.rT _ (List.getElem_mem de);obtain⟨q,aG,afU,sO⟩:=o.DU yh;have Uz:(o.insts m)[k]?.map (·.proc)=some (q:Int):=by rw[List.getElem?_eq_getElem de,Option.map_some,afU]
  obtain⟨d,Vi,aod⟩:=aK.loc de aG sO;obtain⟨kA,Vj⟩:=List.getElem?_eq_some_iff.1 Vi;obtain⟨Vo,lx⟩:=o.ym de;obtain⟨oX,rfl⟩:=ay.addr (by omega);obtain⟨a2,rfl⟩:=gd.addr (by omega);have kW:=ay.ext Flat.ext b0;have wP:=gd.ext Flat.ext b0;refine ae ?_;apply K.cond<;>intro g2
  .have afW:q=p:=by omega
   subst afW;have ig:d<m.procs[q].cx.toNat:=by omega
   have kk:=o.xx m s q m.procs[q].cx k;have af4:=o.Gh (m:=m) (s:=s) (p:=q) (k:=k) ig;have eM:=o.JJ m s q d k;refine ae ?_;refine K.dp (o.eg m k) (by rw[lx]) (by rw[hlen];omega) ?_;refine ae ?_;have nP:eT bp (.slice (some ⟨vy,0,none⟩) m.procs[q].cx.toNat m.procs[q].cx.toNat) (o.js m s q m.procs[q].cx k):=air mX kk.symm (by rw[kk];unfold maxLen;omega);have Um:d<(o.js m s q m.procs[q].cx k).length:=by omega
   obtain⟨_,af5⟩:=List.getElem?_eq_some_iff.1 af4;refine K.dp d Vj ig ?_;refine ae ?_;rw[af5];refine ae ?_;refine K.dp d Vj ig ?_;refine ae ?_;refine K.st1 mX (by rw[List.size_toArray,agQ];omega) rfl fun bR eZ cD=>?_;rw[agR (Nat.mul_one _),<-o.aae Uz Vi ig] at cD;refine ae ?_;exact⟨by omega,bk,(),trivial,hm.trans (eZ.mod rfl),cD⟩
  .refine ae ?_;refine⟨de,bk,(),trivial,hm,?_⟩;rw[o.aad (by rw[Uz];intro e;have:=Option.some.inj e;omega)];exact mX
 .have Dt:(o.insts m).length=k:=by omega
  refine ae ?_;exact⟨by rw[Dt];exact bs.low a6.size (bs.Gl _ mX aed (MD _) (fun _=>rfl) (o.xx _ _ _ _ _).symm (by rw[o.xx];unfold maxLen;omega)),b0⟩
end Go.Proofs.R
end
section
namespace bt
open Go Go.RowKit
section
variable{P:Program}{da:Value->World->Prop}{e:TypeId}{sz base:Nat}{w:World}{s x:Value}{xs ys:List (oP sz)}
theorem K.RM{ty:TypeId}{b:Nat}{t}(ay:vn e sz base w s xs)(au:bF sz (Flat sE) w x ys)(aC:(xs.length+ys.length)*b<=140737488355328)(kb:xs.length+ys.length<=maxLen)(jx:base<=w.heap.size)
  (hk:∀ck w',vn e sz base w' ck (xs++ys)->w.grownBy w' s.ownBlock->da ck w'):k4 P ty e sz b s x w da t:=by
 obtain⟨bl,cap,rfl,h1,U,ag,aJ⟩:=au.ex;cases bl with
 | some a=>exact K.vw ay vQ (bF.flat vQ (fun _ _ h=>h) ⟨some a,cap,rfl,h1,U,ag,aJ⟩) rfl Kr aC kb jx fun ck w' bg bO _=>hk ck w' bg bO
 | none =>
  have:ys=[]:=Classical.byContradiction fun aD=>by have:=ag aD;cases this
  subst this;rw[List.append_nil] at hk;refine K.app fun⟨aL,i,z,ad,bQ,Au,Aa,yl,HQ⟩=>?_;refine⟨ty,s,w,?_,hk s w ay ⟨rfl,rfl,rfl,Nat.le_refl _,fun _ _ _=>rfl⟩⟩;rcases ay.2 with ⟨rfl,ak⟩ | ⟨g,cap,cur,rfl,_,_,DB,_⟩
  .simp[Builtin.append_,run_underlying aL,Go.sizeOf,typeInfo,ad,Builtin.lenOf,Builtin.firstCells]
  .simp[Builtin.append_,run_underlying aL,Go.sizeOf,typeInfo,ad,Builtin.lenOf,Builtin.firstCells,DB,storeCells]
end
end bt
end
section
namespace bt
open Go Go.RowKit
structure amR{α:Type}(C:World->List Value->α->Prop)(e:TypeId)(sz base:Nat)(v:Value)(w0 ws:World)(xs:List α)(k:Nat)(x:List (oP sz))(W:World):Prop where
 m:Mod (fun i=>v.ownBlock=some i) ws W
 aV:∀i,v.ownBlock=some i->base<=i/\i<ws.heap.size/\∃cur,ws.heap[i]? = some (.cells cur e)
 len:x.length=xs.length
 own:vn e sz base W v x
 new:∀i (h1:i<x.length) (U:i<xs.length),i<k->gE (fun j=>j<ws.heap.size) (fun w=>C w x[i].1 xs[i]) W
 kC:∀i (h1:i<x.length) (U:i<xs.length),k<=i->C w0 x[i].1 xs[i]
theorem K.abI{α:Type}{P:Program}{da:Value->World->Prop}{R:World->Addr->α->Prop}{C:World->List Value->α->Prop}{e:TypeId}{sz:Nat}[Rel R C sz]{w0 w np:World}{x:Value}{xs:List α}{ty:TypeId}{b xz:Nat}{t}
  (au:bF sz R w0 x xs)(dS:Ext w0 w)(G9:w.heap.size<=xz)(ya:Ext w np)(Hh:np.heap[xz]? = some (.cells #[] e))(aK:∀{w w':World} {cs x},C w cs x->C w' cs x)(aC:xs.length*b<=140737488355328)
  (hk:∀bl c w',eH w (fun w=>bF sz R w (.slice bl xs.length c) xs) w'->Ext w w'->Mod (fun i=>i=xz) np w'->da (.slice bl xs.length c) w'):k4 P ty e sz b (.slice (some ⟨xz,0,none⟩) 0 0) x np da t:=by
 obtain⟨eY,aS,nL,cf⟩:=au.cells;have bc:vn e sz w.heap.size np (.slice (some ⟨xz,0,none⟩) 0 0) []:=bs.empty G9 Hh;have hm:eY.length<=maxLen:=by obtain⟨_,_,_,h1,U,_⟩:=nL.ex;omega
 refine K.RM bc (bF.ext Flat.ext (dS.trans ya) nL) (by rw[List.length_nil,Nat.zero_add,aS];exact aC) (by rw[List.length_nil,Nat.zero_add];exact hm) ya.size fun ck w' lV aZ=>?_;rw[List.nil_append] at lV;have aD:eH w (fun w=>bF sz R w ck xs) w':=eH.clone (R:=R) aS lV aK fun i h1 U=>aK (cf i h1 U);obtain⟨bl,c,rfl,_⟩:=aD.here.form;exact hk bl c w' aD (bs.mc bc ya aZ (Nat.le_refl _)) (Mod.grown (A:=fun i=>i=xz) aZ fun k q=>by injection q with q;exact q.symm)
end bt
end
section
namespace Go.Proofs.R
open Go Go.RowKit bt
def Jt(w:World)(cs:List Value)(l:List Int):Prop := ∃v,cs=[v]/\eT w v l
instance aoY:Rel F2 Jt 1 where
 out h:=by
  obtain⟨v,h1,U⟩:=h;exact⟨[v],fun j u aR=>by cases j with | zero=>simp at aR;subst aR;rw[add_zero];exact h1 | succ j=>simp at aR,v,rfl,U⟩
 oA h k:=by
  obtain⟨v,rfl,k⟩:=k
  have:=h 0 v rfl
  rw[add_zero] at this;exact⟨v,this,k⟩
 len h:=by obtain⟨v,rfl,_⟩:=h;rfl
 one h:=by obtain⟨v,rfl,h⟩:=h;simpa using h.one
 ext e h:=let ⟨v,h1,U⟩:=h; ⟨v,h1,U.ext Flat.ext e⟩
def Zu(_:World)(cs:List Value)(x:Int):Prop:=cs=eB x
instance aoX:Rel (Flat eB) Zu 1 where
 out h:=⟨_,h,rfl⟩
 oA h k:=by cases k;exact h
 len h:=by cases h;rfl
 one h:=by cases h;exact ma _
 ext _ h:=h
theorem _root_.bt.Mod.own{A:Nat->Prop}{a b c:World}{v:Value}(h:Mod A a b)(aZ:b.grownBy c v.ownBlock)(aT:∀k,v.ownBlock=some k->a.heap.size<=k):Mod A a c :=
 h.comp (Mod.grown (A:=fun k=>v.ownBlock=some k) aZ fun k hk=>hk) (fun _ _ a=>a) fun i ad e=>by have:=aT i e;omega
structure Ps(w:World)(cs:List Value)(x:o.Env):Prop where
 ex:∃v0 v1 v2 v3,cs=[v0,v1,v2,v3,.int .i64 x.self]/\BO w v0 x.vars/\eT w v1 x.lens/\eT w v2 x.locals/\BO w v3 x.at_
end Go.Proofs.R
namespace o
open Go
theorem N8(m:Model)(s:List Int)(inst:Int):(cZ m s inst).vars.length=m.vars.length:=by simp[cZ]
theorem II{m:Model}{s:List Int}{inst:Int}{k:Nat}(h:k<m.vars.length):(cZ m s inst).vars[k]? = some ((s.drop (gT m k)).take (cells m.vars[k] m.scalars).toNat):=by
 have e:(cW m)[k]!.length=(cells m.vars[k] m.scalars).toNat:=by
  have bE:k<(cW m).length:=by simpa[cW] using h
  rw[getElem!_pos (cW m) k bE];simp[cW,Bu]
 simp only[cZ,List.getElem?_map,List.getElem?_range h,Option.map_some,e]
theorem Ym(m:Model)(s:List Int)(inst:Int):(cZ m s inst).lens.length=m.aM.length:=by simp[cZ]
theorem alo{m:Model}{s:List Int}{inst:Int}{k:Nat}(h:k<m.aM.length)(ay:df m k<s.length):(cZ m s inst).lens[k]? = some s[df m k]:=by
 simp only[cZ,List.getElem?_map,List.getElem?_range h,Option.map_some];rw[getElem!_pos s (df m k) ay]
theorem N7{m:Model}{s:List Int}{inst:Int}(h:inst<0):(cZ m s inst).locals=[]/\(cZ m s inst).self=0:=by
 simp only[cZ,wZ,hL (.inl h),and_self]
theorem yN{m:Model}(s:List Int){q n:Nat}(h:q<(insts m).length)(aD:n=(lz m (insts m)[q]).length - 1):(cZ m s q).locals=(s.drop (eg m q+1)).take n/\(cZ m s q).self=(insts m)[q].elem:=by
 simp only[cZ,wZ,iT (show(0:Int)<=q by omega) (show(q:Int)<(insts m).length by omega),Int.toNat_natCast,aD,and_self]
theorem Yl(m:Model)(s:List Int)(inst:Int):(cZ m s inst).at_.length=m.procs.length:=by simp[cZ]
theorem aln{m:Model}{s:List Int}{inst:Int}{k:Nat}(h:k<m.procs.length):(cZ m s inst).at_[k]? = some (js m s k m.procs[k].cx (insts m).length):=by
 simp only[cZ,List.getElem?_map,List.getElem?_range h,Option.map_some,List.getElem?_eq_getElem h,Option.getD_some]
end o
namespace Go.Proofs.R
open Go Go.RowKit bt
theorem NS(cs ys:List Value)(v:Value)(m:o.Model)(s:List Int)(inst:Int)(w:World)(h:o.ec w cs m)(aZ:m.cQ)(bq:o.eF m)(c7:o.ja w ys (o.layout m))(ay:eT w v s)(aK:o.Fits m s)(h1 : -1<=inst)(U:inst<(o.insts m).length) :
  bu Tryz.prog F.yC #[.agg cs.toArray,.agg ys.toArray,v,.int .i64 inst] w fun u w'=>(∃es,u = .agg es.toArray/\eH w (fun w=>Ps w es (o.cZ m s inst)) w')/\Ext w w':=by
 have dP:=h;have o3:=c7;have af9:=ay;obtain⟨cz,bS,b9,c1,cn,c2,cp,bP,cA,bX,rfl,ak,h1,U,ag,aJ,eI,ej,eo,dX,ep⟩:=h.form;obtain⟨k3,d0,j1,d1,j2,d2,nY,d3,nq,d4,rfl,gx,fA,gd,ir,k0⟩:=c7.form;obtain⟨e1,fv,rfl,ga⟩:=ay.form;have hlen:=aK.len;have qI:o.eA m<=64:=o.nf bq;have hx:=bq.hx;have qM:(o.insts m).length<=30:=by have:=o.uE m;have:=bq.procs;omega
 refine bL E.yC ?_;refine bG ?_;refine ae ?_;intro av bC cR aB ao;refine ae ?_;intro aU cr dQ aA aP;replace ao:=aA.obj ao;refine ae ?_;intro bb b5 fo ax bz;replace ao:=ax.obj ao;replace aP:=ax.obj aP;have bK:=(aB.trans aA).trans ax;refine ae ?_;refine K.call (Bc _ m bb (dP.ext bK) aZ) ?_;rintro cy bp ⟨fy,aN⟩;obtain⟨cU,ci,rfl,_⟩:=fy.form;have eU:kK bp _ _:=bs.iW (enc:=o.c8.enc) (fun _=>rfl) fy;replace ao:=aN.obj ao;replace aP:=aN.obj aP;replace bz:=aN.obj bz;have b0:=bK.trans aN;refine ae ?_;intro bR lj anU aW hy;have kl:∀{W},Ext bp W->W.heap[bC]? = _:=fun e=>e.obj ao;have hA:∀{W},Ext bp W->W.heap[cr]? = _:=fun e=>e.obj aP;have amB:=cH hy;have CU:∀{W},Mod (fun i=>i=lj) bR W->Ext bp W:=fun h=>h.ext aW fun i ad e=>by omega
 refine K.dj 11 m.vars.length [2,3,4,5,8,9,10] (fun _:gN=>[]) (none,0,0) (fun k v W=>(Mod (fun i=>i=lj) bR W/\W.heap[lj]? = some (.cells #[.slice v.1 v.2.1 v.2.2,.slice none 0 0,.slice none 0 0,.slice none 0 0,.int .i64 0] T.y))/\fs Jt T.c 1 bR.heap.size W (.slice v.1 v.2.1 v.2.2) (((o.cZ m s inst).vars).take k)) bx bx ⟨⟨Mod.refl _ _,hy⟩,by simpa using fs.nil _ _ _ _ _⟩ ?_;clear hy;rintro k v S bY hk ⟨⟨lU,hy⟩,dO⟩;have ao:=kl (CU lU);have aP:=hA (CU lU);have k6:=b0.trans (CU lU);refine ae ?_;apply K.cond<;>intro g1
 .have de:k<m.vars.length:=by omega
  obtain⟨a,rfl⟩:=h1.addr (by omega);have eM:=o.tJ m.vars[k] m.scalars;have o9:=o.ts de;have fG:=o.o0 m;obtain⟨fy,lx⟩:=o.Bt de;have en:=((h1.at k de).cells).ext k6;refine ae ?_;refine K.gB _ (fun w' e=>NJ m.vars[k] _ m.scalars w' (ak.ext (k6.trans e))) ?_;refine ae ?_;intro cd bJ;replace ao:=bJ.obj ao;replace aP:=bJ.obj aP;replace hy:=bJ.obj hy;have ew:=dO.ext bJ;have jL:=k6.trans bJ;have ow:Mod (fun i=>i=lj) bR cd:=lU.trans bJ.mod;have jC:=ay.ext Flat.ext jL;have Xn:=gx.ext Flat.ext jL;obtain⟨a0,rfl⟩:=gx.addr (by omega);clear en;refine ae ?_;intro dg bV;replace ao:=bV.obj ao;replace aP:=bV.obj aP;replace hy:=bV.obj hy;have iP:=ew.ext bV;have kJ:=jL.trans bV;have nN:Mod (fun i=>i=lj) bR dg:=ow.trans bV.mod;have HK:=jC.ext Flat.ext bV;have apC:=Xn.ext Flat.ext bV;clear jC Xn dO ew;refine ae ?_;refine K.IE (k:=.i64) (k':=.i64) (o.gT m k) (o.gT m k+(o.cells m.vars[k] m.scalars).toNat) HK (by simp[ft,cu,lx]) (by simp[ft,cu,lx];omega) (by omega) (by omega) fun al c aO=>?_;refine ae ?_;intro ea hi lp b1 dJ;refine⟨b1,?_⟩;rw[show o.gT m k+(o.cells m.vars[k] m.scalars).toNat - o.gT m k=(o.cells m.vars[k] m.scalars).toNat from by omega] at aO ⊢;have DO:=o.II (s:=s) (inst:=inst) de;refine K.abI aO (Ext.refl _) lp b1 dJ (fun h=>h) (by simp;omega) fun bl gO e3 p1 cv _=>?_;refine⟨cv,?_⟩;refine ae ?_;intro gg vx C4 fH mj;refine⟨cv.trans fH,?_⟩;have z58:=nN.size;have ap7:=cv.size;have Jc:=fH.size;have qU:=iP.ext (cv.trans fH);have cw:(((o.cZ m s inst).vars).take k).length<=12:=by rw[List.length_take,o.N8];omega
  refine K.zq (x:=(s.drop (o.gT m k)).take (o.cells m.vars[k] m.scalars).toNat) (cs:=[.slice bl ((s.drop (o.gT m k)).take (o.cells m.vars[k] m.scalars).toNat).length gO]) qU (hl mj)
   (((eH.own p1 iP (by omega)).imp fun w h=>⟨_,rfl,h⟩).ext fH fun i ad hk=>by have:=iP.under (by omega) i hk;omega) rfl (by simp[Value.oneCell']) (by omega) (by unfold maxLen;omega) (by omega) fun ck lI ba Dl=>?_
  have aeB:=qU.box Dl ((cv.trans fH).obj hy) (by decide);have wh:=((nN.trans cv.mod).trans fH.mod).own Dl fun q aG=>(qU.lt q aG).1;obtain⟨jH,oZ,rfl,_⟩:=ba.form;clear hy p1 qU iP mj dJ aO;refine ae ?_;intro nn hK gV;refine ae ?_;refine⟨de,bk,(jH,_,oZ),trivial,⟨wh.trans (hK.mod rfl),gV⟩,?_⟩;rw[List.take_succ,DO];exact ba.wr hK amB
 have lT:m.vars.length=k:=by omega
 rw[List.take_of_length_le (by rw[o.N8];omega)] at dO;have mV:=dO.new (R:=F2);obtain⟨ee,po,gO⟩:=v;have By:=cH hy;have y3:=lU.size;have amL:=CU lU;have vV:∀{W},Mod (fun i=>i=lj) bY W->Ext bp W:=fun h=>CU (lU.trans h);clear ao aP dO;refine ae ?_;refine K.dj 13 m.aM.length [2,3,4,5,8,9,10] (fun _:gN=>[]) (none,0,0) (fun k v W=>(Mod (fun i=>i=lj) bY W/\W.heap[lj]? = some (.cells #[.slice ee po gO,.slice v.1 v.2.1 v.2.2,.slice none 0 0,.slice none 0 0,.int .i64 0] T.y))/\bs eB T.a 1 bY.heap.size W (.slice v.1 v.2.1 v.2.2) (((o.cZ m s inst).lens).take k)) bx bx ⟨⟨Mod.refl _ _,hy⟩,by simpa using bs.nil _ _ _ _ _⟩ ?_;clear hy;rintro k v S cd hk ⟨⟨ow,hy⟩,ew⟩;have ao:=kl (vV ow);have aP:=hA (vV ow);have jL:=b0.trans (vV ow);refine ae ?_;apply K.cond<;>intro g1
 .have de:k<m.aM.length:=by omega
  have o9:=o.xE de;have fG:=o.o0 m;obtain⟨fy,fh⟩:=o.vB de;obtain⟨dD,rfl⟩:=fA.addr (by omega);obtain⟨am4,rfl⟩:=ay.addr (by omega);have jC:=ay.ext Flat.ext jL;have Xo:=fA.ext Flat.ext jL;refine ae ?_;intro dg bV;replace aP:=bV.obj aP;replace hy:=bV.obj hy;have iP:=ew.ext bV;have nN:Mod (fun i=>i=lj) bY dg:=ow.trans bV.mod;have HK:=jC.ext Flat.ext bV;have apF:=Xo.ext Flat.ext bV;clear jC Xo ew ao;refine ae ?_;refine K.dp (o.df m k) (by rw[fh]) (by omega) ?_;refine ae ?_;intro ea hi lp b1 dJ;refine⟨b1,?_⟩;have gy:o.df m k<s.length:=by omega
  have DO:=o.alo (inst:=inst) de gy;have aon:(((o.cZ m s inst).lens).take k).length<=12:=by rw[List.length_take,o.Ym];omega
  have ji:=iP.ext b1;have Zd:=nN.size;have Zf:=b1.size;refine K.mQ (y:=s[o.df m k]) ji dJ rfl (fun _=>rfl) ma (by omega) (by unfold maxLen;omega) (by omega) fun bl n c e3 qT pY=>?_;have an5:=ji.box pY (b1.obj hy) (by decide);have Dy:=(nN.trans b1.mod).own pY fun q aG=>(ji.lt q aG).1;clear hy ji iP dJ;refine ae ?_;intro gg gZ mj;refine ae ?_;refine⟨de,bk,(bl,n,c),trivial,⟨Dy.trans (gZ.mod rfl),mj⟩,?_⟩;rw[List.take_succ,DO];exact qT.mod (gZ.mod (A:=fun i=>i=lj) rfl) fun q aG e=>by have:=(qT.lt q aG).1;omega
 have qO:m.aM.length=k:=by omega
 rw[List.take_of_length_le (by rw[o.Ym];omega)] at ew;have TN:gE (fun i=>i<bR.heap.size) (fun w=>BO w (.slice ee po gO) (o.cZ m s inst).vars) cd:=mV.move ow (fun i _ e=>by omega) fun i _ e=>e;have TG:eH bY (fun w=>eT w (.slice v.1 v.2.1 v.2.2) (o.cZ m s inst).lens) cd:=bs.new (fun _=>rfl) ew;clear mV;obtain⟨nV,my,Gp⟩:=v;have Ze:=cH hy;have z67:=ow.size;have GY:∀{W},Mod (fun i=>i=lj) cd W->Ext bp W:=fun h=>vV (ow.trans h);clear ao aP ew;refine ae ?_;refine K.dj 14 m.procs.length [2,3,4,5,8,9,10] (fun _:gN=>[]) (none,0,0) (fun k v W=>(Mod (fun i=>i=lj) cd W/\W.heap[lj]? = some (.cells #[.slice ee po gO,.slice nV my Gp,.slice none 0 0,.slice v.1 v.2.1 v.2.2,.int .i64 0] T.y))/\fs Jt T.c 1 cd.heap.size W (.slice v.1 v.2.1 v.2.2) (((o.cZ m s inst).at_).take k)) bx bx ⟨⟨Mod.refl _ _,hy⟩,by simpa using fs.nil _ _ _ _ _⟩ ?_;clear hy;rintro k v S dg hk ⟨⟨nN,hy⟩,iP⟩;have ao:=kl (GY nN);have aP:=hA (GY nN);have kJ:=b0.trans (GY nN);refine ae ?_;apply K.cond<;>intro g1
 .have de:k<m.procs.length:=by omega
  refine ae ?_;intro ea b1;replace ao:=b1.obj ao;replace aP:=b1.obj aP;replace hy:=b1.obj hy;have ji:=iP.ext b1;have jM:=kJ.trans b1;have qR:Mod (fun i=>i=lj) cd ea:=nN.trans b1.mod;clear iP;refine ae ?_;refine K.call (ajI _ _ _ m s k ea (dP.ext jM) aZ bq (o3.ext jM) (af9.ext Flat.ext jM) aK de) ?_;rintro _ e3 ⟨p1,cv⟩;obtain⟨bl,gO,rfl,_⟩:=p1.form;replace p1:eH ea (fun w=>eT w (.slice bl (o.js m s k m.procs[k].cx (o.insts m).length).length gO) (o.js m s k m.procs[k].cx (o.insts m).length)) e3:=bs.new (enc:=eB) (sz:=1) (fun _=>rfl) p1;refine⟨cv,?_⟩;have DO:=o.aln (s:=s) (inst:=inst) de;refine ae ?_;intro gg vx C4 fH mj;refine⟨cv.trans fH,?_⟩;have z79:=qR.size;have OI:=cv.size;have Jc:=fH.size;have qU:=ji.ext (cv.trans fH);have cw:(((o.cZ m s inst).at_).take k).length<=12:=by rw[List.length_take,o.Yl];have:=bq.procs;omega
  refine K.zq (x:=o.js m s k m.procs[k].cx (o.insts m).length) (cs:=[.slice bl (o.js m s k m.procs[k].cx (o.insts m).length).length gO]) qU (hl mj)
   (((eH.own p1 ji (by omega)).imp fun w h=>⟨_,rfl,h⟩).ext fH fun i ad hk=>by have:=ji.under (by omega) i hk;omega) rfl (by simp[Value.oneCell']) (by omega) (by unfold maxLen;omega) (by omega) fun ck lI ba Dl=>?_
  have aeB:=qU.box Dl ((cv.trans fH).obj hy) (by decide);have wh:=((qR.trans cv.mod).trans fH.mod).own Dl fun q aG=>(qU.lt q aG).1;obtain⟨jH,oZ,rfl,_⟩:=ba.form;clear hy p1 qU ji mj;refine ae ?_;intro nn hK gV;refine ae ?_;refine⟨de,bk,(jH,_,oZ),trivial,⟨wh.trans (hK.mod rfl),gV⟩,?_⟩;rw[List.take_succ,DO];exact ba.wr hK Ze
 have wg:m.procs.length=k:=by omega
 rw[List.take_of_length_le (by rw[o.Yl];omega)] at iP;have KX:gE (fun i=>i<bR.heap.size) (fun w=>BO w (.slice ee po gO) (o.cZ m s inst).vars) dg:=TN.move nN (fun i _ e=>by omega) fun i _ e=>e;have TH:eH bY (fun w=>eT w (.slice nV my Gp) (o.cZ m s inst).lens) dg:=TG.move nN (fun i _ e=>by omega) fun i _ e=>e;have Ts:=iP.new (R:=F2);clear TN TG;obtain⟨apM,apg,anj⟩:=v;have OH:=cH hy;have z78:=nN.size;have xY:∀{W},Mod (fun i=>i=lj) dg W->Ext bp W:=fun h=>GY (nN.trans h);clear iP;have kJ:=b0.trans (xY (Mod.refl _ _));have z3:=cH bz;have z45:=aW.size;have ap3:=(aB.trans aA).size;replace bz:=(xY (Mod.refl _ _)).obj bz;refine ae ?_;apply K.cond<;>intro g2;rotate_left
 .refine ae ?_;intro ea iQ dJ;refine ae ?_;obtain⟨dS,bU⟩:=o.N7 (m:=m) (s:=s) (inst:=inst) (by omega);refine⟨⟨_,rfl,fun W iO=>⟨_,_,_,_,by rw[bU],?_,?_,?_,?_⟩⟩,iQ.ext kJ (by omega)⟩
  .exact(KX.move (A':=fun i=>i<w.heap.size) (iQ.mod (A:=fun i=>i=b5) rfl) (fun i _ e=>by omega) fun i _ e=>by omega) W iO
  .exact(TH.move (A':=fun i=>i<w.heap.size) (iQ.mod (A:=fun i=>i=b5) rfl) (fun i _ e=>by omega) fun i _ e=>by omega) W iO
  .rw[dS];exact bF.nil
  .exact(Ts.move (A':=fun i=>i<w.heap.size) (iQ.mod (A:=fun i=>i=b5) rfl) (fun i _ e=>by omega) fun i _ e=>by omega) W iO
 .obtain⟨q,rfl⟩:=Int.eq_ofNat_of_zero_le (show 0<=inst by omega);have aG:q<(o.insts m).length:=by omega
  have o9:=o.Vy aG;obtain⟨fy,lx⟩:=o.ym aG;obtain⟨a2,rfl⟩:=gd.addr (by omega);have ajx:=gd.ext Flat.ext kJ;have ao:=kl (xY (Mod.refl _ _));have aP:=hA (xY (Mod.refl _ _));obtain⟨jc,rfl⟩:=eU.addr (by omega);have Al:=eU.ext Flat.ext (xY (Mod.refl _ _));have yh:=o.rT _ (List.getElem_mem aG);obtain⟨p,aO,gY,sO⟩:=o.DU yh;have z7:(o.lz m (o.insts m)[q]).length=1+m.procs[p].vars.length:=by rw[sO,o.A7]
  obtain⟨a,rfl⟩:=ag.addr (by omega);obtain⟨mr,cE,dT,dL,eR,gn⟩:=ag.at p aO;obtain⟨apt,anr,rfl,ape⟩:=eR.form;obtain⟨apl,anh,rfl,apb⟩:=gn.form;replace dL:=dL.ext kJ;unfold o.dz.enc at dL;refine ae ?_;refine K.dp p gY aO ?_;refine ae ?_;intro I1 pX ea aeS;have b1:=pX.trans aeS;replace ao:=b1.obj ao;replace aP:=b1.obj aP;replace hy:=b1.obj hy;replace bz:=b1.obj bz;have jM:=kJ.trans b1;have af8:=ay.ext Flat.ext jM;have Zf:=b1.size;clear dL Al ajx;refine ae ?_;refine K.IE (k:=.i64) (k':=.i64) (o.eg m q+1) (o.eg m q+1+m.procs[p].vars.length) af8 (by simp[ft,cu,lx]) (by simp[ft,cu,lx]) (by omega) (by omega) fun al c Vd=>?_;rw[show o.eg m q+1+m.procs[p].vars.length - (o.eg m q+1)=m.procs[p].vars.length from by omega] at Vd ⊢;obtain⟨eY,aS,nL,cf⟩:=Vd.cells;have eM:eY.length<=64:=by rw[aS,List.length_take,List.length_drop];omega
  refine ae ?_;refine K.RM (sz:=1) (base:=ea.heap.size) (bs.nil _ _ _ _ _) nL (by rw[List.length_nil];omega) (by rw[List.length_nil];unfold maxLen;omega) (Nat.le_refl _) fun ck e3 qT pY=>?_;rw[List.nil_append] at qT;have p1:eH ea (fun w=>eT w ck ((s.drop (o.eg m q+1)).take m.procs[p].vars.length)) e3:=eH.clone (R:=Flat eB) aS qT (fun h=>h) fun i h1 U=>cf i h1 U;have cv:Ext ea e3:=(Ext.refl _).grown pY fun k hk=>by simp[Value.ownBlock] at hk
  replace aP:=cv.obj aP;replace hy:=cv.obj hy;replace bz:=cv.obj bz;have OI:=cv.size;obtain⟨ol,cl,rfl,_⟩:=p1.here.form;clear ao;refine ae ?_;intro gg gZ mj;have HF:Mod (fun i=>i=lj) dg gg:=(b1.mod.trans cv.mod).trans (gZ.mod rfl);have aoi:=eU.ext Flat.ext (xY HF);replace bz:=gZ.obj bz (by omega);refine ae ?_;intro lI oz ug;have wh:Mod (fun i=>i=lj) dg lI:=HF.trans (oz.mod rfl);replace bz:=oz.obj bz (by omega);refine ae ?_;intro nn hK gV;refine ae ?_;obtain⟨dS,bU⟩:=o.yN s aG (n:=m.procs[p].vars.length) (by omega);have Jc:=gZ.size;have Zc:=oz.size;refine⟨⟨_,rfl,fun W iO=>⟨_,_,_,_,by rw[bU];rfl,?_,?_,?_,?_⟩⟩,hK.ext (b0.trans (xY wh)) (by omega)⟩
  .exact(KX.move (A':=fun i=>i<w.heap.size) (wh.comp (B:=fun i=>i=lj\/i=b5) (hK.mod (A:=fun i=>i=b5) rfl) (fun i _ e=>.inl e) fun i _ e=>.inr e) (fun i _ e=>by omega) fun i _ e=>by omega) W iO
  .exact(TH.move (A':=fun i=>i<w.heap.size) (wh.comp (B:=fun i=>i=lj\/i=b5) (hK.mod (A:=fun i=>i=b5) rfl) (fun i _ e=>.inl e) fun i _ e=>.inr e) (fun i _ e=>by omega) fun i _ e=>by omega) W iO
  .rw[dS];exact((((p1.wr gZ (by omega)).wr oz (by omega)).wr hK (by omega)).mono fun i _ e=>by omega) W iO
  .exact(Ts.move (A':=fun i=>i<w.heap.size) (wh.comp (B:=fun i=>i=lj\/i=b5) (hK.mod (A:=fun i=>i=b5) rfl) (fun i _ e=>.inl e) fun i _ e=>.inr e) (fun i _ e=>by omega) fun i _ e=>by omega) W iO
end Go.Proofs.R
end
section
namespace o
open Go
theorem XS{f g:Node->List Int->Int×Int}{e:List Node}(h:∀k (hk:k<e.length) st,eS f (e.take k) []=(0,st)->e0 e[k].op<=st.length->f e[k] st=g e[k] st):∀n,n<=e.length->eS f (e.take n) []=eS g (e.take n) []
 | 0,_=>by simp[eS]
 | n+1,aD=>by
  have eV:=XS h n (by omega);by_cases ak:(eS f (e.take n) []).1=0
  .have bU:eS f (e.take n) []=(0,(eS f (e.take n) []).2):=Prod.ext ak rfl;have a6:eS g (e.take n) []=(0,(eS f (e.take n) []).2):=by rw[<-eV];exact bU
   rw[wT (by omega) bU,wT (by omega) a6];exact alv fun _ aS=>by rw[h n (by omega) _ bU aS];exact⟨rfl,fun _=>rfl⟩
  .rw[List.take_succ_eq_append_getElem (by omega),E6,E6,<-eV,if_pos ak,if_pos ak]
theorem akr{f g:Node->List Int->Int×Int}{e:List Node}(h:∀k (hk:k<e.length) st,eS f (e.take k) []=(0,st)->e0 e[k].op<=st.length->f e[k] st=g e[k] st):ko f e=ko g e:=by
 have:=XS h e.length (Nat.le_refl _)
 rw[List.take_length] at this;unfold ko;rw[this]
def qn(s t:List Int)(l:List Int):Prop := ∀x∈l,s[x.toNat]? = t[x.toNat]?
theorem qn.row{s t:List Int}{a n:Nat}(h:qn s t (gf a n)){k:Nat}(hk:k<n):s[a+k]? = t[a+k]? := by
 have:=h ((a+k:Nat):Int) (nS.2 (by omega))
 rw[Int.toNat_natCast] at this;exact this
theorem qn.one{s t:List Int}{a:Nat}(h:qn s t (gf a 1)):s[a]? = t[a]? := h.row (k:=0) (by omega)
theorem qn.sub{s t:List Int}{l r:List Int}(h:qn s t l)(ay:∀x∈r,x∈l):qn s t r:=fun x au=>h x (ay x au)
theorem N2{s t:List Int}{a n:Nat}(h:∀k,k<n->s[a+k]? = t[a+k]?):(s.drop a).take n=(t.drop a).take n:=by
 apply List.ext_getElem?;intro i;rw[List.getElem?_take,List.getElem?_take];split
 .rw[List.getElem?_drop,List.getElem?_drop];exact h i ‹_›
 .rfl
theorem YO{l r:List Int}{n:Int}(h:0<=n->l[n.toNat]? = r[n.toNat]?):jm l n=jm r n:=by
 unfold jm nth;by_cases ak:0<=n
 .rw[if_pos ak,if_pos ak,h ak]
 .rw[if_neg ak,if_neg ak]
theorem YP{s t:List Int}{a n:Nat}{k:Int}(h:0<=k->s[a+k.toNat]? = t[a+k.toNat]?):jm ((s.drop a).take n) k=jm ((t.drop a).take n) k:=by
 refine YO fun ak=>?_;rw[List.getElem?_take,List.getElem?_take,List.getElem?_drop,List.getElem?_drop];split
 .exact h ak
 .rfl
theorem aaa{m:Model}{p:Int}{n j:Nat}(aR:j<n)(h:(insts m)[j]?.map (·.proc)=some p):((eg m j:Nat):Int)∈nD m p n:=by
 unfold nD;refine List.mem_flatMap.2 ⟨j,List.mem_range.2 aR,?_⟩;rw[if_pos h,Bi];exact List.mem_singleton.2 rfl
theorem aab{m:Model}{s t:List Int}{p l:Int}{k:Nat}(h:qn s t (nD m p k)):qA m s p l k=qA m t p l k:=by
 unfold qA;congr 1;refine List.filter_congr fun i ad=>?_;have ad:=List.mem_range.1 ad;by_cases aO:(insts m)[i]?.map (·.proc)=some p
 .have:=h _ (aaa ad aO)
  rw[Int.toNat_natCast] at this;rw[this]
 .simp[aO]
theorem aac{m:Model}{s t:List Int}{p:Nat}{n:Int}{k:Nat}(h:qn s t (nD m p k)):js m s p n k=js m t p n k:=by
 unfold js;exact List.map_congr_left fun l _=>by rw[aab h]
theorem alp{m:Model}{s t:List Int}{inst:Int}{n:Nat}(h:s[df m n]? = t[df m n]?):(cZ m s inst).lens[n]? = (cZ m t inst).lens[n]? := by
 simp only[cZ,List.getElem?_map];cases ba:(List.range m.aM.length)[n]? with
 | none=>rfl
 | some i =>
  have:i=n:=by
   obtain⟨h1,U⟩:=List.getElem?_eq_some_iff.1 ba;rw[List.getElem_range] at U;exact U.symm
  subst this;simp only[Option.map_some,Option.some.injEq];rw[List.getElem!_eq_getElem?_getD,List.getElem!_eq_getElem?_getD,h]
theorem ahA{m:Model}{s t:List Int}{sc:Scope}{x:Node}{q:Nat}{inst top:Int}{own:Bool}(aT:sc.vars=m.vars)(au:zd sc x)(ad:inst=q\/(inst<0/\own=false))
  (bc:own=true->q<(insts m).length/\1<=(cZ m s inst).self/\top=(cZ m s inst).self)(h:qn s t (fU m q own x)):iZ x (cZ m s inst) top=iZ x (cZ m t inst) top:=by
 have HL:(cZ m s inst).self=(cZ m t inst).self:=by
  simp only[cZ,wZ];split<;>rfl
 unfold iZ;by_cases h1:x.op=1
 .rw[if_pos h1,if_pos h1]
 rw[if_neg h1,if_neg h1];by_cases U:x.op=2
 .rw[if_pos U,if_pos U];obtain⟨gk,v,dc,dd⟩:=au.var U;rw[aT] at dc;obtain⟨gv,iH⟩:=List.getElem?_eq_some_iff.1 dc;unfold fU at h;rw[if_pos U] at h;have aD:∀s:List Int,nth (cZ m s inst).vars x.n=some ((s.drop (gT m x.n.toNat)).take (cells m.vars[x.n.toNat] m.scalars).toNat):=fun s=>by
   unfold nth;rw[if_pos gk,II gv]
  rw[aD s,aD t];exact YP fun _=>h.one
 rw[if_neg U,if_neg U];by_cases ag:x.op=3
 .rw[if_pos ag,if_pos ag];obtain⟨gk,gv⟩:=au.item ag;rw[aT] at gv;unfold fU oB at h;rw[if_neg U,if_pos ag] at h;have aD:∀s:List Int,nth (cZ m s inst).vars x.n=some ((s.drop (gT m x.n.toNat)).take (cells m.vars[x.n.toNat] m.scalars).toNat):=fun s=>by
   unfold nth;rw[if_pos gk,II gv]
  rw[aD s,aD t];cases own with
  | false =>
   simp only[Bool.false_eq_true,if_false] at h;rw[rW gv] at h;rw[N2 fun k hk=>h.row hk]
  | true =>
   simp only[if_true] at h;obtain⟨aG,b9,cn⟩:=bc rfl;have Ve:inst=q:=by
    rcases ad with ad | ad
    .exact ad
    .cases ad.2
   subst Ve;have uz:(cZ m s q).self=(insts m)[q].elem:=(yN s aG rfl).2;rw[uz] at b9 cn;rw[Cy aG] at h;have dm:=h.one;have e:∀s:List Int,nth ((s.drop (gT m x.n.toNat)).take (cells m.vars[x.n.toNat] m.scalars).toNat) (top - 1)=if (top - 1).toNat<(cells m.vars[x.n.toNat] m.scalars).toNat then s[gT m x.n.toNat+(insts m)[q].elem.toNat - 1]? else none:=fun s=>by
    unfold nth;rw[if_pos (by omega),List.getElem?_take,List.getElem?_drop];rw[show gT m x.n.toNat+(top - 1).toNat=gT m x.n.toNat+(insts m)[q].elem.toNat - 1 from by omega]
   simp only[e s,e t,dm]
 rw[if_neg ag,if_neg ag];by_cases aJ:x.op=4
 .rw[if_pos aJ,if_pos aJ];unfold fU at h;rw[if_neg U,if_neg ag,if_pos aJ] at h;rcases ad with rfl | ad
  .by_cases aG:q<(insts m).length
   .rw[(yN s aG rfl).1,(yN t aG rfl).1];exact YP fun _=>h.one
   .have:nth (insts m) (q:Int)=none:=hL (.inr (by omega))
    simp only[cZ,wZ,this]
  .rw[(N7 ad.1).1,(N7 ad.1).1]
 rw[if_neg aJ,if_neg aJ];by_cases bO:x.op=6
 .rw[if_pos bO,if_pos bO];unfold fU at h;rw[if_neg U,if_neg ag,if_neg aJ,if_pos bO] at h;exact YO fun _=>alp h.one
 rw[if_neg bO,if_neg bO];by_cases bg:x.op=5
 .rw[if_pos bg,if_pos bg,HL]
 rw[if_neg bg,if_neg bg];by_cases cj:x.op=7
 .rw[if_pos cj,if_pos cj];unfold fU at h;rw[if_neg U,if_neg ag,if_neg aJ,if_neg bO,if_pos cj] at h;by_cases aD:0<=x.n
  .rw[if_pos aD,if_pos aD];have bw:x.n.tdiv 16=((x.n.tdiv 16).toNat:Nat):=(Int.toNat_of_nonneg (Int.tdiv_nonneg aD (by omega))).symm;rw[bw] at h ⊢;have e:nth (cZ m s inst).at_ ((x.n.tdiv 16).toNat:Nat)=nth (cZ m t inst).at_ ((x.n.tdiv 16).toNat:Nat):=by
    unfold nth;rw[if_pos (by omega),if_pos (by omega),Int.toNat_natCast];simp only[cZ,List.getElem?_map];cases ba:(List.range m.procs.length)[(x.n.tdiv 16).toNat]? with
    | none=>rfl
    | some i =>
     have:i=(x.n.tdiv 16).toNat:=by
      obtain⟨h1,U⟩:=List.getElem?_eq_some_iff.1 ba;rw[List.getElem_range] at U;exact U.symm
     subst this;simp only[Option.map_some,Option.some.injEq];exact aac h
   rw[e]
  .rw[if_neg aD,if_neg aD]
 .rw[if_neg cj,if_neg cj]
def wN(m:Model)(e:List Node):List Int:=e.flatMap (fU m 0 false)
theorem aco{m:Model}{s t:List Int}{sc:Scope}{e:List Node}(aT:sc.vars=m.vars)(he:rp sc e)(h:qn s t (wN m e)):eval e (cZ m s (-1))=eval e (cZ m t (-1)):=by
 refine akr fun k hk st kB _=>?_;unfold je;cases gI e[k].op with
 | some al=>rfl
 | none=>exact ahA (q:=0) (own:=false) aT (he.node k hk).1 (.inr ⟨by omega,rfl⟩) (fun h=>by cases h) (h.sub fun x au=>List.mem_flatMap.2 ⟨_,List.getElem_mem hk,au⟩)
def lX(l:List Int):Bool:=match l with
 | []=>false
 | n :: r=>decide (0<=n/\n<=r.length)&&(r.drop n.toNat).all (fun x=>decide (x=0))
def lA(l:List Int):List Int:=if lX l then (l.drop 1).take (l.headD 0).toNat else []
def uW(k:Nat)(l:List Int):List Int:=(l.length:Int) :: (List.range (k - 1)).map fun i=>l.getD i 0
def qb(l:List Int)(v:Int):Option (List Int):=if lX l=true/\l.headD 0≠(l.length:Int) - 1 then some (uW l.length (lA l++[v])) else none
def sg(l:List Int):Option (List Int×Int):=match lA l with
 | []=>none
 | x :: r=>some (uW l.length r,x)
theorem W4{k:Nat}(h:1<=k)(l:List Int):(uW k l).length=k:=by simp[uW];omega
theorem VN{l:List Int}(h:lX l=true):1<=l.length:=by
 cases l with
 | nil=>cases h
 | cons n r=>simp
theorem Nl{l r:List Int}{v:Int}(h:qb l v=some r):r.length=l.length:=by
 unfold qb at h;split at h
 .rename_i h1;injection h with h
  rw[<-h,W4 (VN h1.1)]
 .cases h
theorem Og{l r:List Int}{v:Int}(h:sg l=some (r,v)):r.length=l.length:=by
 unfold sg at h;split at h
 .cases h
 .rename_i x q aG;injection h with h
  injection h with h1 U
  have:lX l=true:=Classical.byContradiction fun aD=>by
   unfold lA at aG;rw[if_neg aD] at aG;cases aG
  rw[<-h1,W4 (VN this)]
def chanOf(m:Model)(s:List Int)(c:Nat):List Int:=(s.drop (df m c)).take (1+ju m c)
def mu(s:List Int)(a:Nat)(l:List Int):List Int:=s.take a++l++s.drop (a+l.length)
def B7(m:Model)(c:Nat):Int×Int:=match (cc m)[c]? with
 | some x=>(x.bf,x.ad)
 | none=>(0,-1)
def putAt(m:Model)(s:List Int)(c:Nat)(n:Int):Option (List Int):=if n<(B7 m c).1\/(B7 m c).2<n then none else some (s.set c n)
def vG(m:Model)(c:Nat):dK:=match m.aM[c]? with
 | some x=>fb x.scalar x.bf x.ad m.scalars
 | none=>fb 0 0 0 m.scalars
def yM(m:Model)(s:List Int)(c:Nat)(n:Int):Option (List Int) :=
 if n<(vG m c).bf\/(vG m c).ad<n then none else (qb (chanOf m s c) n).map (mu s (df m c))
def Bb(m:Model)(s:List Int)(q:Nat)(a:Act):Option (List Int):=match sg (chanOf m s a.to.toNat) with
 | none=>none
 | some (rest,n)=>putAt m (mu s (df m a.to.toNat) rest) (eg m q+1+a.loc.toNat) n
def Ax(m:Model)(s:List Int)(a:Act)(k:Int×Int)(n:Int):Option (List Int) :=
 if k.2≠0\/k.1<1\/(oD m a.to.toNat:Int)<k.1 then none else putAt m s (gT m a.to.toNat+k.1.toNat - 1) n
def l6(m:Model)(s:List Int)(q:Nat)(a:Act):Option (List Int) :=
 if a.kind=5 then Bb m s q a
 else if (eval a.value (cZ m s q)).2≠0 then none
 else if a.kind=1 then putAt m s (gT m a.to.toNat) (eval a.value (cZ m s q)).1
 else if a.kind=2 then Ax m s a (eval a.index (cZ m s q)) (eval a.value (cZ m s q)).1
 else if a.kind=3 then putAt m s (eg m q+1+a.to.toNat) (eval a.value (cZ m s q)).1
 else yM m s a.to.toNat (eval a.value (cZ m s q)).1
def ku(m:Model)(q:Nat):List Act->List Int->Option (List Int)
 | [],s=>some s
 | a :: r,s=>match l6 m s q a with
  | none=>none
  | some t=>ku m q r t
def nE(m:Model)(s:List Int)(q:Nat)(c:dI):Option (List Int) :=
 if s[eg m q]? ≠ some c.from_ then none
 else if 0<c.guard.length/\((eval c.guard (cZ m s q)).2≠0\/(eval c.guard (cZ m s q)).1=0) then none
 else (ku m q c.cb s).map fun t=>t.set (eg m q) c.to
theorem RB(m:Model)(q:Nat)(a:Act):∀(l:List Act) (s:List Int),ku m q (l++[a]) s=match ku m q l s with | none=>none | some t=>l6 m t q a
 | [],s=>by
  simp only[List.nil_append,ku];cases l6 m s q a<;>rfl
 | x :: l,s=>by
  simp only[List.cons_append,ku];cases l6 m s q x with
  | none=>rfl
  | some t=>exact RB m q a l t
theorem DX{s:List Int}{a:Nat}{l:List Int}(h:a+l.length<=s.length):(mu s a l).length=s.length:=by
 simp[mu];omega
theorem DW{s:List Int}{a:Nat}{l:List Int}(h:a+l.length<=s.length)(x:Nat):(mu s a l)[x]? = if a<=x/\x<a+l.length then l[x - a]? else s[x]? := by
 unfold mu;have aL:(s.take a).length=a:=by simp;omega
 by_cases h1:x<a
 .rw[if_neg (by omega),List.getElem?_append_left (by rw[List.length_append];omega),List.getElem?_append_left (by omega),List.getElem?_take,if_pos h1]
 .by_cases U:x<a+l.length
  .rw[if_pos ⟨by omega,U⟩,List.getElem?_append_left (by rw[List.length_append];omega),List.getElem?_append_right (by omega),aL]
  .rw[if_neg (by omega),List.getElem?_append_right (by rw[List.length_append];omega),List.getElem?_drop,List.length_append,aL];congr 1;omega
theorem tL{m:Model}{s:List Int}{c:Nat}(h:df m c+(1+ju m c)<=s.length):(chanOf m s c).length=1+ju m c:=by
 simp[chanOf];omega
theorem EW{m:Model}{s t:List Int}{c:Nat}{n:Int}(h:putAt m s c n=some t):t=s.set c n:=by
 unfold putAt at h;split at h
 .cases h
 .injection h with h
  exact h.symm
def eE(s t:List Int)(l:List Int):Prop:=t.length=s.length/\∀c:Nat,t[c]? ≠ s[c]? -> (c:Int)∈l
theorem eE.refl(s l:List Int):eE s s l:=⟨rfl,fun _ h=>absurd rfl h⟩
theorem eE.trans{s t u l:List Int}(h:eE s t l)(k:eE t u l):eE s u l:=⟨k.1.trans h.1,fun c aw=>by
 by_cases e:u[c]? = t[c]?
 .exact h.2 c (by rw[<-e];exact aw)
 .exact k.2 c e⟩
theorem eE.mono{s t l r:List Int}(h:eE s t l)(ay:∀x∈l,x∈r):eE s t r:=⟨h.1,fun c aw=>ay _ (h.2 c aw)⟩
theorem eE.set(s:List Int)(a:Nat)(n:Int):eE s (s.set a n) (gf a 1):=⟨List.length_set ..,fun c aw=>by
 rw[Bi,List.mem_singleton];apply Classical.byContradiction;intro aD;exact aw (List.getElem?_set_ne (by omega))⟩
theorem eE.VL{s l:List Int}{a:Nat}(h:a+l.length<=s.length):eE s (mu s a l) (gf a l.length):=⟨DX h,fun c aw=>by
 rw[DW h] at aw;apply Classical.byContradiction;intro aD;rw[nS] at aD;exact aw (if_neg (by omega))⟩
theorem akV{m:Model}{s t:List Int}{c:Nat}{n:Int}(aw:df m c+(1+ju m c)<=s.length)(h:yM m s c n=some t):eE s t (vH m c):=by
 unfold yM at h;split at h
 .cases h
 .cases aO:qb (chanOf m s c) n with
  | none=>rw[aO] at h;cases h
  | some r =>
   rw[aO] at h;have aS:=Nl aO;rw[tL aw] at aS;have e:mu s (df m c) r=t:=by injection h
   rw[<-e];unfold vH;rw[<-aS];exact eE.VL (by omega)
theorem ajR{m:Model}{s t:List Int}{q:Nat}{a:Act}(aw:df m a.to.toNat+(1+ju m a.to.toNat)<=s.length)(h:Bb m s q a=some t):eE s t (vH m a.to.toNat++gf (eg m q+1+a.loc.toNat) 1):=by
 unfold Bb at h;cases aO:sg (chanOf m s a.to.toNat) with
 | none=>rw[aO] at h;cases h
 | some NO =>
  obtain⟨r,n⟩:=NO;rw[aO] at h;have aS:=Og aO;rw[tL aw] at aS;have e:=EW h;rw[e];refine eE.trans (t:=mu s (df m a.to.toNat) r) ?_ ((eE.set _ _ _).mono fun x au=>List.mem_append_right _ au)
  have:=eE.VL (s:=s) (a:=df m a.to.toNat) (l:=r) (by omega)
  rw[aS] at this;exact this.mono fun x au=>List.mem_append_left _ au
theorem akU{m:Model}{s:List Int}{q:Nat}{a:Act}(h:re a=true):eval a.index (cZ m s q)=((cZ m s q).self,0):=by
 unfold re at h;split at h
 .rename_i x au;rw[au];have bg:x.op=5:=by simpa using h
  have aD:e0 x.op=0:=by rw[bg];decide
  have aK:je (cZ m s q) x []=((cZ m s q).self,0):=by
   unfold je;rw[bg];simp[gI,iZ,bg]
  unfold eval ko eS;simp only[List.length_singleton,stepG,aD,aK];simp[eS]
 .cases h
theorem ZM{m:Model}{s t:List Int}{q:Nat}{a:Act}(aG:q<(insts m).length)(aw:(a.kind=4\/a.kind=5)->df m a.to.toNat+(1+ju m a.to.toNat)<=s.length)(hk:1<=a.kind/\a.kind<=5)(h:l6 m s q a=some t):eE s t (mP m q a):=by
 unfold l6 at h;unfold mP;by_cases bg:a.kind=5
 .rw[if_pos bg] at h;rw[if_neg (by omega),if_neg (by omega),if_neg (by omega),if_neg (by omega),if_pos bg];exact ajR (aw (.inr bg)) h
 rw[if_neg bg] at h;by_cases he:(eval a.value (cZ m s q)).2≠0
 .rw[if_pos he] at h;cases h
 rw[if_neg he] at h;by_cases h1:a.kind=1
 .rw[if_pos h1] at h ⊢;rw[EW h];exact eE.set _ _ _
 rw[if_neg h1] at h ⊢;by_cases U:a.kind=2
 .rw[if_pos U] at h ⊢;unfold Ax at h;split at h
  .cases h
  .rename_i aD;rw[EW h];refine(eE.set _ _ _).mono fun x au=>?_;rw[Bi,List.mem_singleton] at au;subst au;unfold oB;by_cases ay:re a=true
   .rw[if_pos ay,Bi,List.mem_singleton,Cy aG];have uz:(cZ m s q).self=(insts m)[q].elem:=(yN s aG rfl).2
    have:=akU (m:=m) (s:=s) (q:=q) (a:=a) ay
    rw[this];simp only[uz]
   .rw[if_neg ay,nS];omega
 rw[if_neg U] at h ⊢;by_cases ag:a.kind=3
 .rw[if_pos ag] at h ⊢;rw[EW h];exact eE.set _ _ _
 rw[if_neg ag] at h ⊢;rw[if_pos (by omega)];exact akV (aw (by omega)) h
theorem oY{m:Model}{c:Nat}(h:c<m.aM.length):df m c+(1+ju m c)<=eA m:=by
 have:=xE h
 rw[od h]
 have:=o0 m
 omega
theorem RG{m:Model}{sc:Scope}{q:Nat}(aG:q<(insts m).length)(Ac:sc.aM=m.aM):∀(l:List Act) (s t:List Int),(∀a∈l,qm sc a)->s.length=eA m->ku m q l s=some t->eE s t (l.flatMap (mP m q))
 | [],s,t,_,_,h=>by
  injection h with h
  rw[<-h];exact eE.refl _ _
 | a :: l,s,t,bo,ay,h=>by
  simp only[ku] at h;cases h1:l6 m s q a with
  | none=>rw[h1] at h;cases h
  | some u =>
   rw[h1] at h;have U:=ZM aG (fun hk=>by rw[ay];exact oY (by have:=((bo a (List.mem_cons_self ..)).chan hk).2;rwa[Ac] at this)) (bo a (List.mem_cons_self ..)).kind h1;have ag:=RG aG Ac l u t (fun b aC=>bo b (List.mem_cons_of_mem _ aC)) (U.1.trans ay) h;rw[List.flatMap_cons];exact(U.mono fun x au=>List.mem_append_left _ au).trans (ag.mono fun x au=>List.mem_append_right _ au)
theorem ZR{sc:Scope}{c:dI}(h:vg sc c):∀a∈c.cb,qm sc a:=fun a bo=>by
 obtain⟨k,hk,rfl⟩:=List.mem_iff_getElem.1 bo;exact h.act k hk
theorem R5{m:Model}{sc:Scope}{q:Nat}{c:dI}{s t:List Int}(aG:q<(insts m).length)(Ac:sc.aM=m.aM)(aw:vg sc c)(ay:s.length=eA m)(h:nE m s q c=some t):eE s t (mB m q c c.cb.length):=by
 unfold nE at h;split at h
 .cases h
 split at h
 .cases h
 cases h1:ku m q c.cb s with
 | none=>rw[h1] at h;cases h
 | some u =>
  rw[h1] at h;have e:u.set (eg m q) c.to=t:=by injection h
  rw[<-e];unfold mB;rw[List.take_length];exact((RG aG Ac _ s u (ZR aw) ay h1).mono fun x au=>List.mem_append_right _ au).trans ((eE.set _ _ _).mono fun x au=>List.mem_append_left _ au)
theorem Wf{s w:Int}:∀{l:List dK} {k:Nat} {x:Cell},x∈fi s w l k->∃b∈l,x.bf=b.bf/\x.ad=b.ad
 | [],_,_,h=>by cases h
 | b :: l,k,x,h=>by
  rcases List.mem_cons.1 h with rfl | h
  .exact⟨b,by simp,rfl,rfl⟩
  .obtain⟨ib,h1,U⟩:=Wf h;exact⟨ib,by simp[h1],U⟩
theorem Gs{s:Int}:∀{ls:List (List dK)} {i:Nat} {x:Cell},x∈cellsOf s ls i->∃l∈ls,∃b∈l,x.bf=b.bf/\x.ad=b.ad
 | [],_,_,h=>by cases h
 | l :: r,i,x,h=>by
  rcases List.mem_append.1 h with h | h
  .obtain⟨b,h1,U⟩:=Wf h;exact⟨l,by simp,b,h1,U⟩
  .obtain⟨uK,h1,U⟩:=Gs h;exact⟨uK,by simp[h1],U⟩
def tu(bf ad:Int):Prop := -1048576<=bf/\bf<=ad/\ad<=1048576
theorem JM{sc bf ad:Int}{s:List Scalar}(h:sc=0->tu bf ad):tu (fb sc bf ad s).bf (fb sc bf ad s).ad:=by
 unfold fb;by_cases ak:sc=0
 .rw[if_pos ak];exact h ak
 .rw[if_neg ak]
  have:=size_le sc s
  unfold tu;simp only;omega
theorem WI{bf ad:Int}(h:narrow bf ad=true):tu bf ad:=by have:=WH h;unfold tu;omega
theorem aaW{m:Model}(h:eF m):∀x∈cc m,tu x.bf x.ad:=fun x au=>by
 unfold cc at au;rcases List.mem_append.1 au with au | au
 .rcases List.mem_append.1 au with au | au
  .obtain⟨l,aS,b,aC,bU,a6⟩:=Gs au;obtain⟨v,aT,rfl⟩:=List.mem_map.1 aS;rw[(List.mem_replicate.1 aC).2] at bU a6;rw[bU,a6];exact JM fun ak=>WI ((h.var v aT).Ij ak)
  .obtain⟨l,aS,b,aC,bU,a6⟩:=Gs au;obtain⟨c,aw,rfl⟩:=List.mem_map.1 aS;rw[bU,a6];have dt:=h.chan c aw;have hZ:=dt.cap;rcases List.mem_cons.1 aC with rfl | aC
   .unfold tu;simp only;omega
   .rw[(List.mem_replicate.1 aC).2];exact JM fun ak=>by
     have:=WH (dt.Ij ak)
     unfold tu;omega
 .obtain⟨l,aS,b,aC,bU,a6⟩:=Gs au;obtain⟨yY,s3,rfl⟩:=List.mem_map.1 aS;rw[bU,a6];unfold lz at aC;split at aC
  .rename_i p aO;have hm:p∈m.procs:=by
    unfold nth at aO;split at aO
    .exact List.mem_of_getElem? aO
    .cases aO
   have dt:=h.proc p hm;rcases List.mem_cons.1 aC with rfl | aC
   .have:=dt.cx;unfold tu;simp only;omega
   .obtain⟨v,aT,rfl⟩:=List.mem_map.1 aC;exact JM fun ak=>WI ((dt.var v aT).Ij ak)
  .cases aC
end o
end
section
namespace bt
open Go Go.RowKit
def sD(d:Nat):List Value:=[.int .u8 d]
theorem ab7(d:Nat):∀u∈sD d,u.oneCell'=true:=by simp[sD,Value.oneCell']
def JP(l:List Nat):List Value:=l.map fun(d:Nat)=>Value.int .u8 (d:Int)
theorem JQ:∀l:List Nat,JP l=l.flatMap sD
 | []=>rfl
 | x :: r=>by
  have:=JQ r
  simp only[JP,List.map_cons,List.flatMap_cons] at this ⊢;rw[this];rfl
section
variable{P:Program}{aI:Value->Prop}{ty:TypeId}{c3 c6:Operand}
theorem K.amA{n:Int}{t}(x:Nat)(aD:n=x)(au:x<18446744073709551616)(hk:aI (.int .u64 (x:Int))):nC .u64 n aI t:=by
 subst aD;exact K.Y4 (IntWalk.u64_in _ (by omega)) hk
theorem K.aj7{x b:Nat}{k:IntKind}{t}(aC:1<=b)(hk:aI (.int k ((x % b:Nat):Int))):gq P .rem ty c3 c6 (.int k x) (.int k b) aI t:=by
 refine K.rem (by omega) ?_;rw[Int.tmod_eq_emod_of_nonneg (by omega),<-Int.natCast_emod];exact hk
end
theorem K.aj6{P:Program}{aI:Value->Prop}{ty:TypeId}{c3 c6:Operand}{k:IntKind}{a b:Int}{t}(x y:Nat)(bo:a=x)(aC:b=y)(h1:1<=y)(hk:aI (.int k ((x % y:Nat):Int))):gq P .rem ty c3 c6 (.int k a) (.int k b) aI t:=by
 subst bo aC;exact K.aj7 h1 hk
end bt
end
section
namespace bt
open Go Go.RowKit
theorem ac0(l:List Nat)(k x:Nat):(l.flatMap sD).set k (.int .u8 x)=(l.set k x).flatMap sD:=by
 rw[<-JQ,<-JQ];simp[JP,List.map_set]
theorem K.lH{e:TypeId}{base:Nat}{w:World}{l:List Nat}{a:Addr}{n c k x:Nat}{gm:World->Prop}{t}(h:bs sD e 1 base w (.slice (some a) n c) l)(hk:k<l.length)
  (dm:∀av,dC a.block w av->bs sD e 1 base av (.slice (some a) n c) (l.set k x)->gm av):qw (.pointer (some (a.add (k*1)))) (.int .u8 (x:Nat)) w gm t:=by
 rcases h.2 with ⟨aD,ak⟩ | ⟨g,cap,cur,h1,U,ag,aJ,bg,bO,cj⟩
 .cases aD
 .injection h1 with bU a6 bK
  injection bU with bU
  subst bU bK;have cw:k<cur.size:=by omega
  have ln:Addr.add ⟨g,0,none⟩ (k*1)=⟨g,k,none⟩:=by rw[add_eq,Nat.mul_one,Nat.zero_add]
  have aw:w.cell? (Addr.add ⟨g,0,none⟩ (k*1))=some cur[k]:=e8 ag (by rw[Nat.mul_one];exact Array.getElem?_eq_getElem cw);rw[ln] at aw ⊢;have bE:w.ownsRow base e 1 (.slice (some ⟨g,0,none⟩) l.length c) l.length (l.flatMap sD):=by unfold bs at h;rw[a6] at h;exact h
  have ay:=World.ownsRow.stored bE k (.int .u8 (x:Nat));rw[ac0] at ay;refine K.st aw (by simp[World.frozen?,ag]) (by simp[Value.oneCell']) (dm _ (dC.setCell w ⟨g,k,none⟩ _) ?_);unfold bs;rw[List.length_set,a6];exact ay.1
theorem K.Gf{α:Type}{P:Program}{da:Value->World->Prop}{enc:α->List Value}{e:TypeId}{sz base:Nat}{w:World}{s x:Value}{xs ys:List α}{R:World->Addr->α->Prop}[nv R enc]{ty:TypeId}{b:Nat}{t}(ay:bs enc e sz base w s xs)(au:bF sz R w x ys)(dn:∀x,(enc x).length=sz)(h1:∀y,∀u∈enc y,u.oneCell'=true)
  (aC:(xs.length+ys.length)*b<=140737488355328)(kb:xs.length+ys.length<=maxLen)(jx:base<=w.heap.size)(hk:∀ck w',bs enc e sz base w' ck (xs++ys)->w.grownBy w' s.ownBlock->da ck w'):k4 P ty e sz b s x w da t:=by
 obtain⟨bl,cap,rfl,pR,U,ag,aJ⟩:=au.ex;cases bl with
 | some a=>exact K.Z2 ay ⟨some a,cap,rfl,pR,U,ag,aJ⟩ dn h1 aC kb jx hk
 | none =>
  have:ys=[]:=Classical.byContradiction fun aD=>by have:=ag aD;cases this
  subst this;rw[List.append_nil] at hk;refine K.app fun⟨aL,i,z,ad,bQ,Au,Aa,yl,HQ⟩=>?_;refine⟨ty,s,w,?_,hk s w ay ⟨rfl,rfl,rfl,Nat.le_refl _,fun _ _ _=>rfl⟩⟩;rcases ay.2 with ⟨rfl,ak⟩ | ⟨g,cap,cur,rfl,_,_,DB,_⟩
  .simp[Builtin.append_,run_underlying aL,Go.sizeOf,typeInfo,ad,Builtin.lenOf,Builtin.firstCells]
  .simp[Builtin.append_,run_underlying aL,Go.sizeOf,typeInfo,ad,Builtin.lenOf,Builtin.firstCells,DB,storeCells]
theorem Tf:∀(l:List Int) (k:Nat) (x:Int),(l.flatMap eB).set k (.int .i64 x)=(l.set k x).flatMap eB
 | [],_,_=>rfl
 | y :: l,0,x=>rfl
 | y :: l,k+1,x=>by
  have:=Tf l k x
  simp only[List.flatMap_cons,List.set_cons_succ];rw[<-this];rfl
theorem K.alq{e:TypeId}{base:Nat}{w:World}{l:List Int}{a:Addr}{n c k:Nat}{x:Int}{gm:World->Prop}{t}(h:bs eB e 1 base w (.slice (some a) n c) l)(hk:k<l.length)
  (dm:∀av,dC a.block w av->bs eB e 1 base av (.slice (some a) n c) (l.set k x)->gm av):qw (.pointer (some (a.add (k*1)))) (.int .i64 x) w gm t:=by
 rcases h.2 with ⟨aD,ak⟩ | ⟨g,cap,cur,h1,U,ag,aJ,bg,bO,cj⟩
 .cases aD
 .injection h1 with bU a6 bK
  injection bU with bU
  subst bU bK;have cw:k<cur.size:=by omega
  have ln:Addr.add ⟨g,0,none⟩ (k*1)=⟨g,k,none⟩:=by rw[add_eq,Nat.mul_one,Nat.zero_add]
  have aw:w.cell? (Addr.add ⟨g,0,none⟩ (k*1))=some cur[k]:=e8 ag (by rw[Nat.mul_one];exact Array.getElem?_eq_getElem cw);rw[ln] at aw ⊢;have bE:w.ownsRow base e 1 (.slice (some ⟨g,0,none⟩) l.length c) l.length (l.flatMap eB):=by unfold bs at h;rw[a6] at h;exact h
  have ay:=World.ownsRow.stored bE k (.int .i64 x);rw[Tf] at ay;refine K.st aw (by simp[World.frozen?,ag]) (by simp[Value.oneCell']) (dm _ (dC.setCell w ⟨g,k,none⟩ _) ?_);unfold bs;rw[List.length_set,a6];exact ay.1
end bt
namespace o
open Go
theorem HZ{l:List Int}:lX l=true↔∃h:0<l.length,0<=l[0]/\l[0]<=(l.length:Int) - 1/\∀k (hk:k<l.length),l[0]+1<=k->l[k]=0:=by
 cases l with
 | nil=>simp[lX]
 | cons n r =>
  simp only[lX,Bool.and_eq_true,decide_eq_true_eq,List.all_eq_true];constructor
  .rintro⟨⟨ak,h1⟩,U⟩;refine⟨by simp,ak,by simp;omega,fun k hk aS=>?_⟩;cases k with
   | zero=>simp at aS;omega
   | succ k =>
    simp only[List.getElem_cons_zero,List.getElem_cons_succ] at aS ⊢;refine U _ (List.mem_iff_getElem.2 ⟨k - n.toNat,by simp at hk ⊢;omega,?_⟩);rw[List.getElem_drop];congr 1;omega
  .rintro⟨_,ak,h1,U⟩;simp only[List.getElem_cons_zero,List.length_cons] at ak h1 U;refine⟨⟨ak,by omega⟩,fun x au=>?_⟩;obtain⟨k,hk,rfl⟩:=List.mem_iff_getElem.1 au;rw[List.getElem_drop]
   have:=U (n.toNat+k+1) (by simp at hk;omega) (by omega)
   simpa using this
theorem agX{l:List Int}(h:lX l=true)(ak:0<l.length):lA l=(l.drop 1).take l[0].toNat:=by
 unfold lA;rw[if_pos h];cases l with
 | nil=>simp at ak
 | cons n r=>rfl
theorem VP(l:List Int):(lA l).length<=l.length:=by
 unfold lA;split
 .rw[List.length_take,List.length_drop];omega
 .simp
theorem agW{l:List Int}(h:¬lX l=true):lA l=[]:=by unfold lA;rw[if_neg h]
theorem W6(l:List Int)(k:Nat):((l.length:Int) :: (List.range (k+1)).map fun i=>l.getD i 0)=((l.length:Int) :: (List.range k).map fun i=>l.getD i 0)++[l.getD k 0]:=by
 rw[List.range_succ,List.map_append];rfl
end o
namespace Go.Proofs.R
open Go Go.RowKit bt
abbrev oR(base:Nat)(w:World)(v:Value)(l:List Int):Prop:=bs eB T.a 1 base w v l
theorem r7{base:Nat}{w:World}{v:Value}{l:List Int}(h:oR base w v l):eT w v l:=bs.iW (enc:=eB) (fun _=>rfl) h
theorem XG(v:Value)(l:List Int)(w:World)(h:eT w v l) :
  bu Tryz.prog F.AT #[v] w fun u w'=>u = .bool (o.lX l)/\Ext w w':=by
 obtain⟨e1,fv,rfl,ga⟩:=h.form;have no:(¬∃h:0<l.length,0<=l[0]/\l[0]<=(l.length:Int) - 1/\∀k (hk:k<l.length),l[0]+1<=k->l[k]=0)->o.lX l=false:=fun aD=>by
  cases aG:o.lX l with
  | false=>rfl
  | true=>exact absurd (o.HZ.1 aG) aD
 refine bL E.AT ?_;refine bG ?_;refine ae ?_;apply K.cond<;>intro g1
 .refine ae ?_;exact⟨by rw[no];rintro⟨ak,_⟩;omega,Ext.refl _⟩
 have ak:0<l.length:=by omega
 obtain⟨a,rfl⟩:=h.addr ak;refine ae ?_;apply K.cond<;>intro g2
 .refine ae ?_;exact⟨by rw[no];rintro⟨_,h1,_⟩;omega,Ext.refl _⟩
 refine ae ?_;apply K.cond<;>intro g3
 .refine ae ?_;exact⟨by rw[no];rintro⟨_,h1,U,_⟩;omega,Ext.refl _⟩
 refine ae ?_;refine K.w3 [0] (fun x:Int=>[(3,.int .i64 x)]) (l[0]+1) (fun x W=>W=w/\l[0]+1<=x/\x<=l.length/\∀k (hk:k<l.length),l[0]+1<=k->(k:Int)<x->l[k]=0) (fun x=>((l.length:Int) - x).toNat) bx ⟨rfl,by omega,by omega,fun k hk a b=>by omega⟩ ?_;rintro x S av ⟨rfl,s4,au,dF⟩;refine ae ?_;apply K.cond<;>intro g4
 .refine ae ?_;refine K.dp x.toNat (by omega) (by omega) ?_;refine ae ?_;apply K.cond<;>intro g5
  .refine ae ?_;refine⟨x+1,bx,⟨bk,by omega,by omega,fun k hk a b=>?_⟩,by omega⟩;by_cases e:(k:Int)=x
   .have:k=x.toNat:=by omega
    subst this;exact g5
   .exact dF k hk a (by omega)
  .refine ae ?_;exact⟨by rw[no];rintro⟨_,_,_,ag⟩;exact g5 (ag _ (by omega) (by omega)),Ext.refl _⟩
 .refine ae ?_;exact⟨by rw[o.HZ.2 ⟨ak,by omega,by omega,fun k hk a=>dF k hk a (by omega)⟩],Ext.refl _⟩
theorem Xv{w:World}(v:Value)(l:List Int)(c:Nat)(n x:Int)(h:eT w v l)(au:x=c)(aw:c<l.length)(aS:l.length<=100000) :
  bu Tryz.prog F.AU #[v,.int .i64 x,.int .i64 n] w fun u w'=>oR w.heap.size w' u (l.set c n)/\Ext w w':=by
 subst au;obtain⟨e1,fv,rfl,ga⟩:=h.form;refine bL E.AU ?_;refine bG ?_;refine ae ?_;intro av bC cR aB ao;have qS:oR w.heap.size av (.slice (some ⟨bC,0,none⟩) 0 0) []:=bs.empty cR ao;refine ae ?_;refine K.Gf qS (h.ext Flat.ext aB) (fun _=>rfl) ma (by simp only[List.length_nil];omega) (by simp only[List.length_nil];unfold maxLen;omega) aB.size fun ck aU fN ae4=>?_;rw[List.nil_append] at fN;have a6:Ext w aU:=aB.grown ae4 fun k hk=>(qS.lt k hk).1;obtain⟨bl,gO,rfl,_⟩:=fN.form;obtain⟨a,rfl⟩:=(r7 fN).addr (by omega);refine ae ?_;refine K.alq fN aw fun bb fR fO=>?_;have aC:=fN.lt a.block rfl;refine ae ?_;exact⟨fO,fR.ext a6 aC.1⟩
end Go.Proofs.R
end