/- Parts. -/
import Derived.Test.YtfdohkdifdemeaaGreatDoorQdsn
import Derived.Shelf.SlGeneric
import Derived.Shelf.SlIterI.Nil
import Derived.Shelf.SortM.Plain
import Derived.Shelf.SortM.SortNone
import Derived.Laws.Bits64b
import Derived.Lib.AppendZerosOnto
set_option linter.all false
set_option maxRecDepth 8000
set_option maxHeartbeats 16000000
section
namespace Go.Proofs.R
open Go Go.RowKit bt
def Zy(m:o.Model)(ref:Int)(v:Value)(w:World):Prop :=
 (¬o.Told m ref/\v = .tuple #[.pointer none,.agg Sa.toArray,.bool false]) \/
 (∃(b q p k:Nat) (fK ed:Value),o.fD m ref q p k/\v = .tuple #[.pointer (some ⟨b,0,none⟩),.agg ((o.cD m p k).enc fK ed).toArray,.bool true]/\og w b m q/\o.gd w fK (o.cD m p k).guard/\o.nz w ed (o.cD m p k).b6)
theorem aiB(cs:List Value)(m:o.Model)(ref:Int)(w:World)(h:o.dY w cs m)(a1:m.cQ)(ba:ht w) :
  bu Tryz.prog F.Cp #[.agg cs.toArray,.int .i64 ref] w fun v w'=>Zy m ref v w'/\Ext w w':=by
 have eh:=h;obtain⟨cy,bP,b9,c1,ck,c2,cn,bQ,cB,bX,rfl,ak,h1,U,ag,aJ,eM,ej,ev,ea,ew⟩:=h.form;refine bL E.Cp ?_;refine bG ?_;refine af ?_;intro av cp dR aB aQ;refine af ?_;intro aU dO kX aA cC;have Hm:=aA.obj aQ;have aW:=aB.trans aA;refine af ?_;refine K.call (A4 _ m aU (eh.ext aW) a1 (ba.ext aW)) ?_;rintro _ bb ⟨rfl,ax⟩;have bJ:=aW.trans ax;replace aQ:=ax.obj Hm;replace cC:=ax.obj cC;have z5:=cG cC;have aqd:=aB.size;clear Hm;refine af ?_;refine K.jg (v:=.int .i64 (o.check m).c3) rfl ?_;refine af ?_;refine K.cond (fun hk=>?_) (fun hk=>?_);rotate_left
 .refine af ?_;intro bq eu bw;refine af ?_;exact⟨.inl ⟨fun aO=>hk aO.1,bk⟩,eu.ext bJ (by omega)⟩
 have br:=o.mF hk;have dg:=br.lim;have j1:=o.u9 dg;refine af ?_;refine K.call (Fe _ m bb (eh.ext bJ) dg) ?_;rintro j7 bq ⟨jE,aM⟩;obtain⟨h5,pU,rfl,_⟩:=jE.form;have KY:bE 2 (Flat o.Ref.enc) bq (.slice h5 (o.refs m).length pU) (o.refs m):=bs.jI (enc:=o.Ref.enc) (fun _=>rfl) jE;replace aQ:=aM.obj aQ;replace cC:=aM.obj cC;have bZ:=bJ.trans aM;clear jE;refine af ?_;apply K.cond<;>intro g1
 .refine af ?_;intro bT e0 Ae;refine af ?_;exact⟨.inl ⟨fun aO=>by have:=aO.2;omega,bk⟩,e0.ext bZ (by omega)⟩
 obtain⟨r,rfl⟩:=Int.eq_ofNat_of_zero_le (show 0<=ref by omega);refine af ?_;apply K.cond<;>intro g2
 .refine af ?_;intro bT e0 Ae;refine af ?_;exact⟨.inl ⟨fun aO=>by have:=aO.2;omega,bk⟩,e0.ext bZ (by omega)⟩
 have aO:o.Told m r:=⟨hk,by omega,by omega⟩;obtain⟨q,p,k,ca⟩:=o.sD aO;have aD:=ca.at_.ad;have aN:=ca.at_.aN;have uz:=ca.at_.hk;have kE:(o.refs m)[r].inst=(q:Int):=ca.at_.wY;have s6:(o.refs m)[r].cmd=(k:Int):=ca.at_.yT;have rU:=ca.at_.ip;obtain⟨rH,rfl⟩:=KY.addr (by omega);refine af ?_;intro bT aZ;replace aQ:=aZ.obj aQ;replace cC:=aZ.obj cC;have C5:=KY.ext Flat.ext aZ;have b5:=bZ.trans aZ;refine af ?_;refine K.call (Wk _ m bT (eh.ext b5) a1 (ba.ext b5)) ?_;rintro _ bV ⟨⟨xs,rfl,x3⟩,a8⟩;rw[o.Ih hk] at x3;have G7:=x3;replace x3:=x3.here;obtain⟨lb,d0,j8,d1,j9,d2,n0,d3,nw,d4,rfl,_⟩:=x3.form;have cM:=b5.trans a8;refine⟨a8,?_⟩;refine af ?_;refine K.call (AA _ m bV (eh.ext cM) a1) ?_;rintro cx cc ⟨fB,bM⟩;obtain⟨cS,ci,rfl,_⟩:=fB.form;have dz:=cM.trans bM;refine⟨a8.trans bM,?_⟩;refine af ?_;intro di kU qM bY cL;have eg:=dz.trans bY;have Ao:lV di (.slice cS (o.insts m).length ci) (o.insts m):=bs.jI (enc:=o.c7.enc) (fun _=>rfl) (fB.ext bY);have TJ:=x3.ext (bM.trans bY);rw[kE] at cL;have K2:og di kU m q:=⟨_,_,_,cL,eh.ext eg,TJ,Ao⟩;have KS:=(a8.trans bM).trans bY;have TP:=C5.ext Flat.ext KS;replace aQ:=KS.obj aQ;replace cC:=KS.obj cC;have OK:=eg.size;obtain⟨lp,rfl⟩:=Ao.addr (by omega);obtain⟨a3,rfl⟩:=ag.addr (by omega);obtain⟨nS,cE,dU,dZ,eT,gS⟩:=ag.at p aN;obtain⟨M9,J2,rfl,MS⟩:=gS.form;obtain⟨ac,rfl⟩:=gS.addr (by omega);obtain⟨fX,fK,ed,gx,lE,jk⟩:=gS.at k uz;replace dZ:=dZ.ext eg;replace gx:=gx.ext eg;obtain⟨iL,je,rfl,_⟩:=lE.form;obtain⟨yP,xK,rfl,_⟩:=jk.form;unfold o.dy.enc at dZ;unfold o.dI.enc at gx;clear x3 KY C5 TJ;refine af ?_;intro dX cr;replace aQ:=cr.obj aQ;replace cC:=cr.obj cC;replace cL:=cr.obj cL;replace TP:=TP.ext Flat.ext cr;replace Ao:=Ao.ext Flat.ext cr;replace dZ:=dZ.ext cr;replace gx:=gx.ext cr;refine af ?_;refine K.dD p (by rw[rU]) aN ?_;refine af ?_;refine K.dD k (by rw[s6]) uz ?_;refine af ?_;intro fw qb jy;refine af ?_;have ig:Ext w dX:=eg.trans cr;have oK:=aM.size;have nV:=aZ.size;have akr:=a8.size;have apv:=bM.size;have kA:Ext w fw:=qb.ext ig (by omega);have adT:=((G7.ext ((bM.trans bY).trans cr) akr).wr qb (by omega)).here;have aff:lV fw (.slice (some lp) (o.insts m).length ci) (o.insts m):=bs.jI (enc:=o.c7.enc) (fun _=>rfl) (bs.wr qb (by omega) ((fB.ext bY).ext cr));have rS:=o.zP aN uz;refine⟨.inr ⟨kU,q,p,k,.slice iL (o.cD m p k).guard.length je,.slice yP (o.cD m p k).b6.length xK,ca,by rw[rS];rfl,⟨_,_,_,qb.obj cL (by omega),eh.ext kA,adT,aff⟩,?_,?_⟩,kA⟩
 .rw[rS];exact lE.ext kA
 .rw[rS];exact jk.ext kA
end Go.Proofs.R
end
section
namespace Go.Proofs
open Go.Shelf
def Tryz.V5:Go.Shelf.Ren:=⟨fun | 7=>146 | 10=>202 | n=>n,fun | 23=>160 | 26=>3 | 3=>3 | 28=>111 | 0=>0 | 27=>110 | 33=>119 | 4=>4 | n=>n,fun | n=>n⟩
theorem Tryz.MK:Go.Proofs.SlLaysZI.n7 Tryz.prog Tryz.V5:={
 mixed:=by kernel_rfl
 f7:=⟨Tryz.f146.name,by decide,Tryz.func146.trans (congrArg some (by kernel_rfl))⟩
 f10:=⟨Tryz.f202.name,by decide,Tryz.func202.trans (congrArg some (by kernel_rfl))⟩
 t0:=Tryz.underlying0
 a0:=Tryz.isAgg0
 z0:=Tryz.sizeOf0
 v0:=Tryz.zeroValue0
 t4:=Tryz.underlying4
 a4:=Tryz.isAgg4
 z4:=Tryz.sizeOf4
 v4:=Tryz.zeroValue4
 t23:=Tryz.underlying160
 a23:=Tryz.isAgg160
 z23:=Tryz.sizeOf160
 v23:=Tryz.zeroValue160
 t26:=Tryz.underlying3
 a26:=Tryz.isAgg3
 z26:=Tryz.sizeOf3
 v26:=Tryz.zeroValue3
 t27:=Tryz.underlying110
 a27:=Tryz.isAgg110
 z27:=Tryz.sizeOf110
 v27:=Tryz.zeroValue110
 t28:=Tryz.underlying111
 a28:=Tryz.isAgg111
 z28:=Tryz.sizeOf111
 v28:=Tryz.zeroValue111
 t33:=Tryz.underlying119
 a33:=Tryz.isAgg119
 z33:=Tryz.sizeOf119
 v33:=Tryz.zeroValue119 }
def Tryz.Ym:Go.Shelf.Ren:=⟨fun | 6=>145 | 8=>200 | 9=>201 | 11=>239 | 13=>206 | 12=>240 | 23=>250 | 24=>251 | 14=>283 | 15=>284 | 16=>285 | 17=>286 | 18=>287 | 19=>288 | 20=>289 | 21=>290 | 22=>291 | 25=>306 | 26=>293 | 27=>294 | 28=>307 | 29=>308 | 30=>309 | 31=>311 | n=>n,fun | 26=>3 | 28=>111 | 24=>40 | 0=>0 | 3=>3 | 37=>186 | 48=>301 | 50=>63 | 4=>4 | 40=>295 | 39=>294 | 45=>187 | 5=>5 | 9=>9 | 51=>327 | 55=>331 | 57=>339 | 58=>134 | 33=>119 | n=>n,fun | n=>n⟩
theorem Tryz.ak4:Go.Proofs.SlLaysZI.n6 Tryz.prog Tryz.Ym:={
 mixed:=by kernel_rfl
 f6:=⟨Tryz.f145.name,by decide,Tryz.func145.trans (congrArg some (by kernel_rfl))⟩
 f8:=⟨Tryz.f200.name,by decide,Tryz.func200.trans (congrArg some (by kernel_rfl))⟩
 f11:=⟨Tryz.f239.name,by decide,Tryz.func239.trans (congrArg some (by kernel_rfl))⟩
 t0:=Tryz.underlying0
 a0:=Tryz.isAgg0
 z0:=Tryz.sizeOf0
 v0:=Tryz.zeroValue0
 t24:=Tryz.underlying40
 a24:=Tryz.isAgg40
 z24:=Tryz.sizeOf40
 v24:=Tryz.zeroValue40
 t26:=Tryz.underlying3
 a26:=Tryz.isAgg3
 z26:=Tryz.sizeOf3
 v26:=Tryz.zeroValue3
 t28:=Tryz.underlying111
 a28:=Tryz.isAgg111
 z28:=Tryz.sizeOf111
 v28:=Tryz.zeroValue111
 i26:=by kernel_rfl }
def Tryz.akY:Go.Shelf.Ren:=⟨fun | 5=>201 | 8=>206 | 7=>240 | 19=>250 | 20=>251 | 10=>283 | 11=>284 | 12=>285 | 13=>286 | 14=>287 | 15=>288 | 16=>289 | 17=>290 | 18=>291 | 30=>306 | 31=>293 | 32=>294 | 33=>307 | 34=>308 | 35=>309 | 40=>311 | n=>n,fun | 23=>40 | 25=>3 | 3=>3 | 32=>186 | 22=>40 | 0=>0 | 44=>301 | 46=>63 | 4=>4 | 36=>295 | 35=>294 | 41=>187 | 5=>5 | 9=>9 | 53=>327 | 57=>331 | 63=>339 | 64=>134 | n=>n,fun | n=>n⟩
theorem Tryz.N5:Go.Proofs.SlLaysM.n5 Tryz.prog Tryz.akY:={
 mixed:=by kernel_rfl
 f5:=⟨Tryz.f201.name,by decide,Tryz.func201.trans (congrArg some (by kernel_rfl))⟩
 f7:=⟨Tryz.f240.name,by decide,Tryz.func240.trans (congrArg some (by kernel_rfl))⟩
 f8:=Tryz.func206.trans (congrArg some (by kernel_rfl))
 f10:=⟨Tryz.f283.name,by decide,Tryz.func283.trans (congrArg some (by kernel_rfl))⟩
 f11:=⟨Tryz.f284.name,by decide,Tryz.func284.trans (congrArg some (by kernel_rfl))⟩
 f12:=⟨Tryz.f285.name,by decide,Tryz.func285.trans (congrArg some (by kernel_rfl))⟩
 f13:=⟨Tryz.f286.name,by decide,Tryz.func286.trans (congrArg some (by kernel_rfl))⟩
 f14:=⟨Tryz.f287.name,by decide,Tryz.func287.trans (congrArg some (by kernel_rfl))⟩
 f15:=⟨Tryz.f288.name,by decide,Tryz.func288.trans (congrArg some (by kernel_rfl))⟩
 f16:=⟨Tryz.f289.name,by decide,Tryz.func289.trans (congrArg some (by kernel_rfl))⟩
 f17:=⟨Tryz.f290.name,by decide,Tryz.func290.trans (congrArg some (by kernel_rfl))⟩
 f18:=⟨Tryz.f291.name,by decide,Tryz.func291.trans (congrArg some (by kernel_rfl))⟩
 f19:=Tryz.func250.trans (congrArg some (by kernel_rfl))
 f20:=Tryz.func251.trans (congrArg some (by kernel_rfl))
 f30:=⟨Tryz.f306.name,by decide,Tryz.func306.trans (congrArg some (by kernel_rfl))⟩
 f31:=Tryz.func293.trans (congrArg some (by kernel_rfl))
 f32:=Tryz.func294.trans (congrArg some (by kernel_rfl))
 f33:=⟨Tryz.f307.name,by decide,Tryz.func307.trans (congrArg some (by kernel_rfl))⟩
 f34:=⟨Tryz.f308.name,by decide,Tryz.func308.trans (congrArg some (by kernel_rfl))⟩
 f35:=⟨Tryz.f309.name,by decide,Tryz.func309.trans (congrArg some (by kernel_rfl))⟩
 f40:=⟨Tryz.f311.name,by decide,Tryz.func311.trans (congrArg some (by kernel_rfl))⟩
 t0:=Tryz.underlying0
 a0:=Tryz.isAgg0
 z0:=Tryz.sizeOf0
 v0:=Tryz.zeroValue0
 t3:=Tryz.underlying3
 a3:=Tryz.isAgg3
 z3:=Tryz.sizeOf3
 v3:=Tryz.zeroValue3
 t4:=Tryz.underlying4
 a4:=Tryz.isAgg4
 z4:=Tryz.sizeOf4
 v4:=Tryz.zeroValue4
 t5:=Tryz.underlying5
 a5:=Tryz.isAgg5
 z5:=Tryz.sizeOf5
 v5:=Tryz.zeroValue5
 t9:=Tryz.underlying9
 a9:=Tryz.isAgg9
 z9:=Tryz.sizeOf9
 v9:=Tryz.zeroValue9
 t22:=Tryz.underlying40
 a22:=Tryz.isAgg40
 z22:=Tryz.sizeOf40
 v22:=Tryz.zeroValue40
 t23:=Tryz.underlying40
 a23:=Tryz.isAgg40
 z23:=Tryz.sizeOf40
 v23:=Tryz.zeroValue40
 t25:=Tryz.underlying3
 a25:=Tryz.isAgg3
 z25:=Tryz.sizeOf3
 v25:=Tryz.zeroValue3
 t32:=Tryz.underlying186
 a32:=Tryz.isAgg186
 z32:=Tryz.sizeOf186
 v32:=Tryz.zeroValue186
 t35:=Tryz.underlying294
 a35:=Tryz.isAgg294
 z35:=Tryz.sizeOf294
 v35:=Tryz.zeroValue294
 t36:=Tryz.underlying295
 a36:=Tryz.isAgg295
 z36:=Tryz.sizeOf295
 v36:=Tryz.zeroValue295
 t41:=Tryz.underlying187
 a41:=Tryz.isAgg187
 z41:=Tryz.sizeOf187
 v41:=Tryz.zeroValue187
 t44:=Tryz.underlying301
 a44:=Tryz.isAgg301
 z44:=Tryz.sizeOf301
 v44:=Tryz.zeroValue301
 t46:=Tryz.underlying63
 a46:=Tryz.isAgg63
 z46:=Tryz.sizeOf63
 v46:=Tryz.zeroValue63
 t53:=Tryz.underlying327
 a53:=Tryz.isAgg327
 z53:=Tryz.sizeOf327
 v53:=Tryz.zeroValue327
 t57:=Tryz.underlying331
 a57:=Tryz.isAgg331
 z57:=Tryz.sizeOf331
 v57:=Tryz.zeroValue331
 t63:=Tryz.underlying339
 a63:=Tryz.isAgg339
 z63:=Tryz.sizeOf339
 v63:=Tryz.zeroValue339
 t64:=Tryz.underlying134
 a64:=Tryz.isAgg134
 z64:=Tryz.sizeOf134
 v64:=Tryz.zeroValue134 }
end Go.Proofs
end
section
namespace Go.Proofs
open Go Go.RowKit Go.Maps Go.Sort Go.Shelf
theorem Tryz.ak6(m:Nat):AnyZI.SortsIn Tryz.prog Tryz.Ym Fence.wide m :=
 ⟨fun aX off cap b7 W hH hblk dm=>callsIn_wide.2 (AnyM.slices_Sort_int Tryz.N5 aX off cap b7 W hH hblk dm),fun p cap W=>callsIn_wide.2 (AnyM.slices_Sort_int_none Tryz.N5 p cap W)⟩
end Go.Proofs
namespace Go.Proofs.R
open Go Go.RowKit Go.Maps Go.Sort Go.Shelf bt
theorem ag8(EW:Option Nat)(w:World):bu Tryz.prog F.KN #[.map EW] w fun v w'=>v = .func (.func F.kB) #[] #[.pointer (some ⟨w.heap.size,0,none⟩)]/\w'=w.alloc (.cells #[.map EW] T.x):=by
 have h:CallsIn Fence.wide 5 Tryz.prog F.KN #[.map EW] w fun e w'=>e = .returned (.func (.func F.kB) #[] #[.pointer (some ⟨w.heap.size,0,none⟩)])/\w'=w.alloc (.cells #[.map EW] T.x):=AnyZI.keys_in Tryz.MK Fence.wide 5 trivial rfl EW w;exact Calls.mono (callsIn_wide.1 h) fun e w' ⟨h1,U⟩=>⟨_,h1,rfl,U⟩
theorem WE:∀l:List Int,l.map encZ=l.flatMap ey
 | []=>rfl
 | x :: l=>by rw[List.map_cons,List.flatMap_cons,WE l];rfl
theorem ak5(b:Nat)(L:List Int)(w:World)(h:e5 w b L)(dg:L.length<=1000000) :
  bu Tryz.prog F.KM #[.func (.func F.kB) #[] #[.pointer (some ⟨w.heap.size,0,none⟩)]] (w.alloc (.cells #[.map (some b)] T.x)) fun v w'=>(∃r,bs ey T.a 1 (w.alloc (.cells #[.map (some b)] T.x)).heap.size w' v r/\o.pM L r)/\Ext (w.alloc (.cells #[.map (some b)] T.x)) w':=by
 obtain⟨sq,gr,dm,Mg⟩:=h.own (P:=Tryz.prog) (k:=T.a) (by kernel_rfl) (by unfold maxLen;omega);have Ab:=gr.lt;have rZ:SeqGives Fence.wide 2 Tryz.prog F.kB #[.pointer (some ⟨w.heap.size,0,none⟩)] encZ (fun b7=>b7.Perm (intKeys sq)) (Maps.size sq) (w.alloc (.cells #[.map (some b)] T.x)) :=
  AnyZI.keys_gives (ρ:=Tryz.V5) { Tryz.MK with } Fence.wide _ trivial rfl (by omega) w.heap.size b _ sq _ (by simp) (by simp) (by
   obtain⟨es,clock,aC,Zp,ay,lz⟩:=gr;exact⟨es,clock,(Below.heap_alloc _ _ b Ab).trans aC,Zp,ay,lz⟩)
 have R6:=AnyZI.sorted_in Tryz.ak4 Fence.wide 5 trivial trivial trivial trivial rfl (by omega) (Tryz.ak6 _) (Tryz.N5.f5.enters rfl) F.kB #[.pointer (some ⟨w.heap.size,0,none⟩)] trivial (Tryz.MK.f10.enters rfl) _ _ (by unfold maxLen;omega) (by omega) _ rZ;change CallsIn _ _ Tryz.prog F.KM _ _ _ at R6;refine Calls.mono (callsIn_wide.1 R6) ?_;rintro e w' ⟨v,b7,rfl,cq,nR,_,aC⟩;obtain⟨h1,U⟩:=Mg b7 cq;refine⟨v,rfl,⟨b7.mergeSort fun x y=>decide (x<=y),?_,ak3 h1,fun x=>?_⟩,aC⟩
 .unfold bs;rw[<-WE,List.length_mergeSort];exact nR
 .rw[(List.mergeSort_perm b7 _).mem_iff];exact U x
theorem XM(b:Nat)(L:List Int)(w:World)(h:e5 w b L)(dg:L.length<=1000000) :
  bu Tryz.prog F.l2 #[.map (some b)] w fun v w'=>(∃r,bs ey T.a 1 w.heap.size w' v r/\o.pM L r)/\Ext w w':=by
 have he:Ext w (w.alloc (.cells #[.map (some b)] T.x)):=(Ext.refl w).alloc _;have hk:=ag8 (some b) w;have ay:=ak5 b L w h dg;generalize w.alloc (.cells #[.map (some b)] T.x)=av at he hk ay;refine bL E.l2 ?_;refine bG ?_;refine af ?_;refine K.call hk ?_;rintro _ _ ⟨rfl,rfl⟩;refine af ?_;refine K.call ay ?_;rintro v aU ⟨⟨r,ba,a6⟩,aA⟩;refine af ?_;exact⟨⟨r,bs.low he.size ba,a6⟩,he.trans aA⟩
end Go.Proofs.R
end
section
namespace Go.Proofs.R
open Go Go.RowKit bt
theorem Qv(cs:List Value)(m:o.Model)(ref:Int)(w:World)(h:o.dY w cs m)(a1:m.cQ)(ba:ht w) :
  bu Tryz.prog F.oY #[.agg cs.toArray,.int .i64 ref] w fun v w'=>(∃ed nX a b,v = .tuple #[ed,nX]/\bs ey T.a 1 w.heap.size w' ed a/\bs ey T.a 1 w.heap.size w' nX b/\o.iQ m ref a b)/\Ext w w':=by
 have eh:=h;obtain⟨cy,bP,b9,c1,ck,c2,cn,bQ,cB,bX,rfl,_⟩:=h.form;refine bL E.oY ?_;refine bG ?_;refine af ?_;intro av cp dR aB aQ;refine af ?_;refine K.call (aiB _ m ref av (eh.ext aB) a1 (ba.ext aB)) ?_;rintro _ aU ⟨hO,aA⟩;replace aQ:=aA.obj aQ;have aW:=aB.trans aA;rcases hO with ⟨DN,rfl⟩ | ⟨b,q,p,k,fK,ed,ca,rfl,nb,lE,jk⟩
 .unfold Sa;refine af ?_;intro wn fl gq gL fX;refine af ?_;intro bb fT ct;refine af ?_;exact⟨⟨_,_,[],[],rfl,bs.nil _ _ _ _ _,bs.nil _ _ _ _ _,o.iQ.nil DN⟩,aW.trans (fT.ext gL gq)⟩
 obtain⟨iL,je,rfl,_⟩:=lE.form;obtain⟨yP,xK,rfl,_⟩:=jk.form;have br:=o.mF ca.ok;have bB:=ca.inst;have sW:=ca.cin;have s0:=sW.hJ;obtain⟨c,Dn⟩:∃c,c=o.cD m p k:=⟨_,rfl⟩;rw[<-Dn] at sW s0 lE jk ⊢;unfold o.dI.enc;refine af ?_;intro wn l1 jX gL fX;refine af ?_;intro bb fT cU;have ax:Ext aU bb:=fT.ext gL jX;clear gL fX fT;have bJ:=aW.trans ax;have C9:=nb.ext ax;have afA:=lE.ext ax;have L1:=jk.ext ax;have LQ:=o.D4 br bB.aD;clear aQ nb lE jk;refine af ?_;refine K.A8 fun bq nH Lb aM Dq=>?_;refine af ?_;refine K.A8 fun bT om anL aZ sX=>?_;have Vh:=(e5.empty Dq).ext aZ;have e0:=e5.empty sX;have cI:nH≠om:=by have:=cG Dq;omega
 have hS:=aM.trans aZ;have Lf:=hS.obj cU;have aen:bb.heap.size<=om:=by have:=aM.size;omega
 clear Dq sX;refine af ?_;refine K.call (Dv b q m bT (C9.ext hS) bB.aD) ?_;rintro _ bV ⟨rfl,a8⟩;refine af ?_;refine K.call (sh nH [] (o.dS m q) 1 _ _ bV (Vh.ext a8) rfl rfl (by omega)) ?_;rintro _ cc ⟨Vi,oy⟩;have dx:=(e0.ext a8).mod oy (Ne.symm cI);have jN:=oy.ext (hS.trans a8) fun k hk e=>by omega
 refine af ?_;refine K.call (Dv b q m cc (C9.ext jN) bB.aD) ?_;rintro _ di ⟨rfl,bY⟩;refine af ?_;refine K.call (sh om [] (o.dS m q) 1 _ _ di (dx.ext bY) rfl rfl (by omega)) ?_;rintro _ dX ⟨iV,qT⟩;have Vj:=(Vi.ext bY).mod qT cI;have jO:=qT.ext (jN.trans bY) fun k hk e=>by omega
 have aeD:=jO.obj cU;refine af ?_;refine K.call (CQ c.guard _ b nH q p _ m bb dX C9 jO Lb Vj br bB afA sW.guard) ?_;rintro _ fw ⟨Ma,DI⟩;have qb:=iV.mod DI (Ne.symm cI);have xg:=DI.ext jO fun k hk e=>by omega
 have aeC:=xg.obj cU;rw[List.nil_append] at qb Ma;have Tw:e5 fw nH (o.nq m q c 0):=by
  unfold o.nq o.CY;rw[List.take_zero,List.flatMap_nil,List.append_nil];exact Ma
 have Tx:e5 fw om (o.kM m q c 0):=by
  unfold o.kM;rw[List.take_zero,List.flatMap_nil,List.append_nil];exact qb
 clear Vh e0 Vi dx Vj iV Ma qb Lf aeD oy qT DI a8 bY hS jN jO;refine af ?_;refine K.dk 40 c.b6.length [6,7,9,10,38,39] (fun _:Unit=>[]) () (fun n _ W=>Ext bb W/\e5 W nH (o.nq m q c n)/\e5 W om (o.kM m q c n)) bz bz ⟨xg,Tw,Tx⟩ ?_;clear aeC Tw Tx xg;rintro n _ S gw aE ⟨pD,Mb,hA⟩;have afy:=L1.ext pD;refine af ?_;apply K.cond<;>intro g1
 .have ir:n<c.b6.length:=by omega
  obtain⟨ky,rfl⟩:=L1.addr (by omega);obtain⟨cx,cE,x7,Au,DO⟩:=L1.at n ir;have Dc:=sW.act n ir;obtain⟨cS,ci,rfl,_⟩:=Au.form;obtain⟨e3,fy,rfl,_⟩:=DO.form;replace x7:=x7.ext pD;clear afy;refine af ?_;intro la Cb sR fv um;have qo:=pD.trans fv;have Mc:=Mb.ext fv;have oA:=hA.ext fv;have j4:¬Cb=nH:=fun e=>by subst e;obtain⟨_,_,h,_⟩:=Mc.ex;rw[um] at h;cases h
  have jm:¬Cb=om:=fun e=>by subst e;obtain⟨_,_,h,_⟩:=oA.ex;rw[um] at h;cases h
  clear x7 Mb hA;refine af ?_;refine K.call (ajF c.b6[n] _ _ b nH q p _ m bb la C9 qo Lb Mc br bB Au DO Dc) ?_;rintro _ pz ⟨af1,yk⟩;have kp:=oA.mod yk (Ne.symm cI);have ze:=yk.ext qo fun k hk e=>by omega
  replace um:=yk.obj j4 um;clear Mc oA;refine af ?_;refine K.call (amk c.b6[n] _ _ b om q p _ m bb pz C9 ze aen kp br bB Au Dc) ?_;rintro _ Oz ⟨D1,UZ⟩;have af2:=af1.mod UZ cI;have BM:=UZ.ext ze fun k hk e=>by omega
  refine af ?_;exact⟨ir,bk,(),trivial,BM,by rw[o.XA ir];exact af2,by rw[o.Y7 ir];exact D1⟩
 .have HO:c.b6.length=n:=by omega
  have j1:=(o.NK br bB sW n (by omega)).len;have aoo:=(o.Y8 br bB sW n (by omega)).len;refine af ?_;refine K.call (XM nH _ gw Mb (by omega)) ?_;rintro u la ⟨⟨ajx,afF,af4⟩,fv⟩;refine af ?_;refine K.call (XM om _ la (hA.ext fv) (by omega)) ?_;rintro vk pz ⟨⟨NH,afG,af5⟩,jA⟩;refine af ?_;have OJ:=(bJ.trans pD).size;have z12:=fv.size;refine⟨⟨_,_,ajx,NH,rfl,bs.ext jA (bs.low OJ afF),bs.low (Nat.le_trans OJ z12) afG,?_⟩,((bJ.trans pD).trans fv).trans jA⟩;subst Dn;refine o.iQ.of ca ?_ ?_
  .rw[HO];exact af4
  .rw[HO];exact af5
theorem Zw(cs:List Value)(m:o.Model)(ref:Int)(w:World)(h:o.dY w cs m)(a1:m.cQ)(ba:ht w) :
  bu Tryz.prog F.oY #[.agg cs.toArray,.int .i64 ref] w fun v w'=>(∃ed nX a b,v = .tuple #[ed,nX]/\eO w' ed a/\eO w' nX b/\o.iQ m ref a b)/\Ext w w' :=
 (Qv cs m ref w h a1 ba).mono fun v w' ⟨⟨ed,nX,a,b,aT,bj,aC,dE⟩,he⟩=>⟨⟨ed,nX,a,b,aT,bs.jI (enc:=ey) (fun _=>rfl) bj,bs.jI (enc:=ey) (fun _=>rfl) aC,dE⟩,he⟩
end Go.Proofs.R
end
section
namespace bt
open Go Go.RowKit
structure amv(e:TypeId)(base:Nat)(w:World)(v1:Value)(ej:List Int)(v2:Value)(ev:List Int):Prop where
 fi:bs ey e 1 base w v1 ej
 fR:bs ey e 1 base w v2 ev
 ap:∀k,v1.ownBlock=some k->v2.ownBlock≠some k
end bt
end
section
namespace o
open Go
theorem acL(x:Node)(h : -1000<=x.op/\x.op<=1000 /\ -1000<=x.n/\x.n<=1000):x.ok:=⟨lI ⟨h.1,h.2.1⟩,lI h.2.2⟩
end o
end
section
namespace o
theorem ajq{s:List Scalar}{c:dr}{l:List Int}(aS:l.length=1+c.cap.toNat)(ak:1<=c.cap):mQ s c l↔(0<=l[0]'(by omega)/\l[0]'(by omega)<=c.cap/\∀k (h:k+1<l.length),((k:Int)<l[0]'(by omega)->(fb c.scalar c.bf c.ad s).bf<=l[k+1]/\l[k+1]<=(fb c.scalar c.bf c.ad s).ad)/\(l[0]'(by omega)<=k->l[k+1]=0)):=by
 unfold mQ;constructor
 .rintro⟨n,h1,U,ag,aJ⟩;obtain⟨_,rfl⟩:=List.getElem?_eq_some_iff.1 h1;refine⟨U,ag,fun k h=>?_⟩;obtain⟨x,bg,bS⟩:=aJ k (by omega);obtain⟨_,rfl⟩:=List.getElem?_eq_some_iff.1 bg;exact bS
 .rintro⟨U,ag,aJ⟩;exact⟨l[0]'(by omega),List.getElem?_eq_getElem _,U,ag,fun k h=>⟨l[k+1]'(by omega),List.getElem?_eq_getElem _,aJ k (by omega)⟩⟩
end o
end
section
namespace o
open Classical in
noncomputable def E7(s:List Scalar)(c:dr)(l:List Int):Bool:=decide (mQ s c l)
theorem Nz{s:List Scalar}{c:dr}{l:List Int}:E7 s c l=true↔mQ s c l:=by unfold E7;simp
theorem ajo{s:List Scalar}{c:dr}{l:List Int}{t:Bool}(h:t=true↔mQ s c l):t=E7 s c l:=by
 rw[<-Nz] at h;cases t<;>cases aD:E7 s c l<;>simp_all
end o
namespace Go.Proofs.R
open Go Go.RowKit bt
theorem ahV(cs:List Value)(m:o.Model)(w:World)(h:o.dY w cs m)(a1:m.cQ) :
  bu Tryz.prog F.EA #[.agg cs.toArray] w fun v w'=>v = .bool (decide ((o.check m).c3=0))/\Ext w w':=by
 obtain⟨cy,bP,b9,c1,ck,c2,cn,bQ,cB,bX,rfl,_⟩:=h.form;refine bL E.EA ?_;refine bG ?_;refine af ?_;intro av bC cR aB aq;refine af ?_;refine K.call (NO _ m av (h.ext aB) a1) ?_;rintro _ aU ⟨rfl,aA⟩;unfold wa;refine af ?_;refine K.jg (v:=.int .i64 (o.check m).c3) rfl ?_;refine af ?_;exact⟨bk,aB.trans aA⟩
theorem ajD(cs:List Value)(m:o.Model)(v:Value)(l:List Int)(i:Nat)(w:World)(h:o.dY w cs m)(br:o.eN m)(ad:i<m.aL.length)(aN:eO w v l)(qS:l.length=1+m.aL[i].cap.toNat) :
  bu Tryz.prog F.EL #[.agg cs.toArray,v,.int .i64 i] w fun u w'=>(∃t:Bool,u = .bool t/\(t=true↔o.mQ m.scalars m.aL[i] l))/\Ext w w':=by
 obtain⟨cy,bP,b9,c1,ck,c2,cn,bQ,cB,bX,rfl,ak,h1,U,ag,aJ,eM,ej,ev,ea,ew⟩:=h.form;obtain⟨e3,fy,rfl,gi⟩:=aN.form;have dq:=br.chan _ (List.getElem_mem ad);have ij:=dq.cap;have hJ:=br.hJ;obtain⟨ac,rfl⟩:=U.addr (by omega);obtain⟨ap,rfl⟩:=aN.addr (by omega);have ei:=(U.at i ad).cells;have aD:=o.ajq (s:=m.scalars) (c:=m.aL[i]) (l:=l) qS ij.1;obtain⟨bf,jB⟩:∃bf,bf=(o.fb m.aL[i].scalar m.aL[i].bf m.aL[i].ad m.scalars).bf:=⟨_,rfl⟩;obtain⟨cO,Dz⟩:∃ad,ad=(o.fb m.aL[i].scalar m.aL[i].bf m.aL[i].ad m.scalars).ad:=⟨_,rfl⟩;rw[<-jB,<-Dz] at aD;refine bL E.EL ?_;refine bG ?_;refine af ?_;intro av bC cR aB aq;replace ei:=ei.ext aB;refine af ?_;intro aU l1 jX aA cU;replace aq:=aA.obj aq;have aW:=aB.trans aA;replace aN:=aN.ext Flat.ext aW;clear ei;refine af ?_;refine K.dD 0 rfl (by omega) ?_;refine af ?_;apply K.cond<;>intro g1
 .refine af ?_;intro bb ax;refine af ?_;exact⟨⟨false,rfl,by simp only[Bool.false_eq_true,false_iff];intro h;exact absurd (aD.1 h).1 (by omega)⟩,aW.trans ax⟩
 refine af ?_;refine K.dD 0 rfl (by omega) ?_;refine af ?_;intro bb ax;replace aq:=ax.obj aq;replace cU:=ax.obj cU;replace aN:=aN.ext Flat.ext ax;have bJ:=aW.trans ax;apply K.cond<;>intro g2
 .refine af ?_;exact⟨⟨false,rfl,by simp only[Bool.false_eq_true,false_iff];intro h;exact absurd (aD.1 h).2.1 (by omega)⟩,bJ⟩
 refine af ?_;refine K.call (NM ⟨⟨#[]⟩,m.aL[i].scalar,0,m.aL[i].bf,m.aL[i].ad,0⟩ _ m.scalars bb (ak.ext bJ)) ?_;rintro _ bq ⟨rfl,aM⟩;have SP:((o.bounds ⟨⟨#[]⟩,m.aL[i].scalar,0,m.aL[i].bf,m.aL[i].ad,0⟩ m.scalars).1=bf)/\(o.bounds ⟨⟨#[]⟩,m.aL[i].scalar,0,m.aL[i].bf,m.aL[i].ad,0⟩ m.scalars).2=cO:=by
  rw[jB,Dz,show o.fb m.aL[i].scalar m.aL[i].bf m.aL[i].ad m.scalars=_ from o.Ce ⟨⟨#[]⟩,m.aL[i].scalar,0,m.aL[i].bf,m.aL[i].ad,0⟩ m.scalars];exact⟨rfl,rfl⟩
 rw[SP.1,SP.2];have aeB:=aM.obj cU;replace aN:=aN.ext Flat.ext aM;have bZ:=bJ.trans aM;refine af ?_;refine K.w9 [1,7,8,9] (fun x:Nat=>[(10,.int .i64 ((x:Int)+1))]) 0 (fun x W=>Ext bq W/\(x:Int)<=m.aL[i].cap/\∀j (h:j+1<l.length),j<x->((j:Int)<l[0]->bf<=l[j+1]/\l[j+1]<=cO)/\(l[0]<=j->l[j+1]=0)) (fun x=>(m.aL[i].cap - x).toNat) bz ⟨Ext.refl _,by omega,fun j _ h=>absurd h (Nat.not_lt_zero _)⟩ ?_;clear aq cU;rintro k S bT ⟨aZ,hk,dC⟩;have cU:=aZ.obj aeB;have b5:=bZ.trans aZ;replace aN:=aN.ext Flat.ext aZ;refine af ?_;apply K.cond<;>intro g3
 .have du:k+1<l.length:=by omega
  have bad:¬(((k:Int)<l[0]->bf<=l[k+1]/\l[k+1]<=cO)/\(l[0]<=k->l[k+1]=0))->(false=true↔o.mQ m.scalars m.aL[i] l):=fun h=>by
   simp only[Bool.false_eq_true,false_iff];exact fun dt=>h ((aD.1 dt).2.2 k du)
  refine af ?_;refine K.dD 0 rfl (by omega) ?_;refine af ?_;apply K.cond<;>intro g4
  .refine af ?_;apply K.cond<;>intro g5
   .refine af ?_;exact⟨⟨false,rfl,bad fun h=>by have:=h.1 (by omega);omega⟩,b5⟩
   refine af ?_;apply K.cond<;>intro g6
   .refine af ?_;exact⟨⟨false,rfl,bad fun h=>by have:=h.1 (by omega);omega⟩,b5⟩
   refine af ?_;refine K.dD 0 rfl (by omega) ?_;refine af ?_;exact⟨k+1,bz,⟨aZ,by omega,fun j h aR=>by
    by_cases h3:j=k
    .subst h3;exact⟨fun _=>by omega,fun _=>by omega⟩
    .exact dC j h (by omega)⟩,by omega⟩
  .refine af ?_;refine K.dD 0 rfl (by omega) ?_;refine af ?_;apply K.cond<;>intro g5
   .refine af ?_;exact⟨k+1,bz,⟨aZ,by omega,fun j h aR=>by
     by_cases h3:j=k
     .subst h3;exact⟨fun _=>by omega,fun _=>by omega⟩
     .exact dC j h (by omega)⟩,by omega⟩
   .refine af ?_;exact⟨⟨false,rfl,bad fun h=>by have:=h.2 (by omega);omega⟩,b5⟩
 .refine af ?_;exact⟨⟨true,rfl,by simp only[true_iff];exact aD.2 ⟨by omega,by omega,fun j h=>dC j h (by omega)⟩⟩,b5⟩
theorem aj0(xs:List Value)(m:o.Model)(v:Value)(s:List Int)(w:World)(dg:o.jr w xs (o.layout m))(br:o.eN m)(ay:eO w v s)(aS:s.length=o.eB m) :
  bu Tryz.prog F.EM #[.agg xs.toArray,v] w fun u w'=>(∃t:Bool,u = .bool t/\(t=true↔∀i (h:i<s.length) (bF:i<(o.cb m).length),(o.cb m)[i].bf<=s[i]/\s[i]<=(o.cb m)[i].ad))/\Ext w w':=by
 obtain⟨lb,d0,j8,d1,j9,d2,n0,d3,nw,d4,rfl,gz,fi,fR,ix,k7⟩:=dg.form;obtain⟨e3,fy,rfl,gi⟩:=ay.form;have xU:(o.layout m).cells=(o.eB m:Int):=rfl;have f2:=o.Wr m;have f3:=o.Wp m;have qI:o.eB m<=64:=o.nm br;have As:(o.cb m).length=s.length:=aS.symm;refine bL E.EM ?_;refine bG ?_;refine af ?_;intro av bC cR aB aq;have qN:=aq;clear aq;replace ay:=ay.ext Flat.ext aB;replace ix:=ix.ext Flat.ext aB;replace k7:=k7.ext Flat.ext aB;refine af ?_;refine K.dk 5 s.length [1,2] (fun _:Unit=>[]) () (fun k _ W=>Ext av W/\∀j (h:j<s.length) (bF:j<(o.cb m).length),j<k->(o.cb m)[j].bf<=s[j]/\s[j]<=(o.cb m)[j].ad) bz bz ⟨Ext.refl _,fun j _ _ h=>absurd h (Nat.not_lt_zero _)⟩ ?_;rintro k _ S aU hk ⟨aA,dC⟩;have aq:=aA.obj qN;refine af ?_;apply K.cond<;>intro g3
 .have bp:k<s.length:=by omega
  have rW:k<(o.cb m).length:=by omega
  have ea:(o.layout m).bf[k]'(by omega)=(o.cb m)[k].bf:=o.Wq _ rW;have ew:(o.layout m).ad[k]'(by omega)=(o.cb m)[k].ad:=o.Wo _ rW;obtain⟨oZ,rfl⟩:=ay.addr (by omega);obtain⟨a3,rfl⟩:=ix.addr (by omega);obtain⟨a4,rfl⟩:=k7.addr (by omega);have bad:¬((o.cb m)[k].bf<=s[k]/\s[k]<=(o.cb m)[k].ad)->(false=true↔∀i (h:i<s.length) (bF:i<(o.cb m).length),(o.cb m)[i].bf<=s[i]/\s[i]<=(o.cb m)[i].ad):=fun h=>by
   simp only[Bool.false_eq_true,false_iff];exact fun dt=>h (dt k bp rW)
  have aW:=aB.trans aA;refine af ?_;apply K.cond<;>intro g4
  .refine af ?_;intro bb ax;refine af ?_;exact⟨⟨false,rfl,bad (by omega)⟩,aW.trans ax⟩
  refine af ?_;intro bb ax;apply K.cond<;>intro g5
  .refine af ?_;exact⟨⟨false,rfl,bad (by omega)⟩,aW.trans ax⟩
  refine af ?_;refine⟨bp,bk,(),trivial,aA.trans ax,fun j h bF aR=>?_⟩;by_cases h3:j=k
  .subst h3;omega
  .exact dC j h bF (by omega)
 .refine af ?_;exact⟨⟨true,rfl,by simp only[true_iff];exact fun j h bF=>dC j h bF (by omega)⟩,aB.trans aA⟩
theorem Xr(cs xs:List Value)(m:o.Model)(v:Value)(s:List Int)(w:World)(h:o.dY w cs m)(dg:o.jr w xs (o.layout m))(br:o.eN m)(ay:eO w v s) :
  bu Tryz.prog F.AT #[.agg cs.toArray,.agg xs.toArray,v] w fun u w'=>(∃t:Bool,u = .bool t/\(t=true↔o.Fits m s))/\Ext w w':=by
 have eh:=h;have qK:=dg;obtain⟨cy,bP,b9,c1,ck,c2,cn,bQ,cB,bX,rfl,ak,h1,U,ag,aJ,eM,ej,ev,ea,ew⟩:=h.form;obtain⟨lb,d0,j8,d1,j9,d2,n0,d3,nw,d4,rfl,gz,fi,fR,ix,k7⟩:=dg.form;obtain⟨e3,fy,rfl,gi⟩:=ay.form;have xU:(o.layout m).cells=(o.eB m:Int):=rfl;have qI:o.eB m<=64:=o.nm br;have hJ:=br.hJ;refine bL E.AT ?_;refine bG ?_;refine af ?_;intro av bC cR aB aq;refine af ?_;intro aU cp dR aA aQ;replace aq:=aA.obj aq;have aW:=aB.trans aA;replace ay:=ay.ext Flat.ext aW;refine af ?_;apply K.cond<;>intro g1;rotate_left
 .refine af ?_;exact⟨⟨false,rfl,by simp only[Bool.false_eq_true,false_iff];intro h;have:=h.len;omega⟩,aW⟩
 have aS:s.length=o.eB m:=by omega
 have qN:=aq;have Dk:=aQ;clear aq aQ;refine af ?_;refine K.dk 7 m.aL.length [2,3,4] (fun _:Unit=>[]) () (fun k _ W=>Ext aU W/\∀j (h:j<m.aL.length),j<k->o.mQ m.scalars m.aL[j] (o.o4 m j m.aL[j] s)) bz bz ⟨Ext.refl _,fun j _ h=>absurd h (Nat.not_lt_zero _)⟩ ?_;rintro k _ S bb hk ⟨ax,dC⟩;have aq:=ax.obj qN;have aQ:=ax.obj Dk;have bJ:=aW.trans ax;have h4:=ay.ext Flat.ext ax;refine af ?_;apply K.cond<;>intro g2
 .have bp:k<m.aL.length:=by omega
  obtain⟨l4,fg⟩:=o.vL bp;have pe:=o.xJ bp;have fX:=o.o3 m;have ij:=(br.chan _ (List.getElem_mem bp)).cap;obtain⟨dJ,rfl⟩:=fi.addr (by omega);obtain⟨a2,rfl⟩:=U.addr (by omega);have apr:=fi.ext Flat.ext bJ;have ei:=((U.at k bp).cells).ext bJ;refine af ?_;refine K.II (k:=.i64) (k':=.i64) (o.df m k) (o.df m k+(1+m.aL[k].cap.toNat)) h4 (by simp[fu,cu,fg]) (by simp[fu,cu,fg];omega) (by omega) (by omega) fun al c aN=>?_;rw[show o.df m k+(1+m.aL[k].cap.toNat) - o.df m k=1+m.aL[k].cap.toNat from by omega] at aN ⊢;replace aN:bE 1 (Flat ey) bb (.slice al (1+m.aL[k].cap.toNat) c) (o.o4 m k m.aL[k] s):=aN;refine af ?_;refine K.gN (.bool (o.E7 m.scalars m.aL[k] (o.o4 m k m.aL[k] s))) (fun w' e=>(ajD _ m _ _ k w' (eh.ext (bJ.trans e)) br bp (aN.ext Flat.ext e) aN.len.1.symm).mono fun u b1 ⟨⟨t,aO,aD⟩,he⟩=>⟨by rw[aO,o.ajo aD],he⟩) ?_;refine af ?_;intro bq aM;refine K.dp (fun aD=>?_) (fun aD=>?_)
  .refine af ?_;refine⟨bp,bk,(),trivial,ax.trans aM,fun j h aR=>?_⟩;by_cases h3:j=k
   .subst h3;exact o.Nz.1 aD
   .exact dC j h (by omega)
  .refine af ?_;exact⟨⟨false,rfl,by simp only[Bool.false_eq_true,false_iff];intro h;have:=o.Nz.2 (h.queue k bp);rw[aD] at this;cases this⟩,bJ.trans aM⟩
 .refine af ?_;refine K.call (aj0 _ m _ s bb (qK.ext bJ) br h4 aS) ?_;rintro _ bq ⟨⟨t,rfl,aO⟩,aM⟩;refine af ?_;exact⟨⟨t,rfl,aO.trans ⟨fun h=>⟨aS,fun j aR=>dC j aR (by omega),h⟩,fun h=>h.cell⟩⟩,bJ.trans aM⟩
theorem ajv(cs:List Value)(m:o.Model)(v:Value)(s:List Int)(w:World)(h:o.dY w cs m)(a1:m.cQ)(ay:eO w v s) :
  bu Tryz.prog F.EJ #[.agg cs.toArray,v] w fun u w'=>(∃t:Bool,u = .bool t/\(t=true↔o.oe m s))/\Ext w w':=by
 have br:=h;obtain⟨cy,bP,b9,c1,ck,c2,cn,bQ,cB,bX,rfl,_⟩:=h.form;obtain⟨e3,fy,rfl,gi⟩:=ay.form;refine bL E.EJ ?_;refine bG ?_;refine af ?_;intro av bC cR aB aq;refine af ?_;intro aU aA;replace aq:=aA.obj aq;have aW:=aB.trans aA;refine af ?_;refine K.call (ahV _ m aU (br.ext aW) a1) ?_;rintro _ bb ⟨rfl,ax⟩;have bJ:=aW.trans ax;refine⟨ax,?_⟩;by_cases hk:(o.check m).c3=0
 .rw[decide_eq_true hk];refine af ?_;refine K.call (ajO _ m bb (br.ext bJ) a1) ?_;rintro _ bq ⟨⟨xs,rfl,dg⟩,aM⟩;replace dg:=dg.here;rw[o.Ih hk] at dg;have bZ:=bJ.trans aM;refine⟨ax.trans aM,?_⟩;refine af ?_;refine K.call (Xr _ _ m _ s bq (br.ext bZ) dg (o.mF hk) (ay.ext Flat.ext bZ)) ?_;rintro _ bT ⟨⟨t,rfl,aO⟩,aZ⟩;refine af ?_;exact⟨⟨t,by cases t<;>rfl,aO.trans ⟨fun h=>⟨hk,h⟩,fun h=>h.2⟩⟩,bZ.trans aZ⟩
 .rw[decide_eq_false hk];refine af ?_;exact⟨⟨false,rfl,by simp only[Bool.false_eq_true,false_iff];exact fun h=>hk h.1⟩,bJ⟩
end Go.Proofs.R
end
section
namespace bt
open Go Go.RowKit
def nT(l:List Int):List Value:=l.map (Value.int .i64)
theorem agR(l:List Int):(nT l).length=l.length:=by simp[nT]
theorem agS{l:List Int}{d j:Nat}{x:Int}(aR:j=d)(h:j<(nT l).toArray.size):(nT l).toArray.set j (.int .i64 x) h=(nT (l.set d x)).toArray:=by
 subst aR;simp[nT,List.map_set]
theorem amp(n:Nat):n3 (Value.int .i64 0).cells (n*1)=(nT (List.replicate n 0)).toArray:=by
 apply Array.ext_getElem?;intro i;by_cases h:i<n
 .simp[n3,nT,Value.cells,h,Nat.mod_one]
 .simp[n3,nT,h]
theorem K.ah0{c9:Value->World->Prop}{w:World}{e:TypeId}{n:Int}{t}(N:Nat)(aE:n=N)(aC:N<=1000000)(hk:∀av b,w.heap.size<=b->Ext w av->av.heap[b]? = some (.cells (nT (List.replicate N 0)).toArray e)->c9 (.slice (some ⟨b,0,none⟩) N N) av) :
  xi e 1 8 (.int .i64 0) (.int .i64 n) (.int .i64 n) w c9 t:=by
 subst aE;refine K.qc ⟨by omega,by omega,by omega,by omega⟩ ?_;have h:=hk (w.alloc (.cells (nT (List.replicate N 0)).toArray e)) _ (Nat.le_refl _) ((Ext.refl w).alloc _) (heap_alloc_new w _);rw[Int.toNat_natCast,amp];exact h
theorem MG:∀l:List Int,nT l=l.flatMap ey
 | []=>rfl
 | x :: r=>by
  have:=MG r
  simp only[nT,List.map_cons,List.flatMap_cons] at this ⊢;rw[this];rfl
theorem ain{w:World}{b n:Nat}{e:TypeId}{l:List Int}(h:w.heap[b]? = some (.cells (nT l).toArray e))(aE:n=l.length)(hm:l.length<=maxLen):bE 1 (Flat ey) w (.slice (some ⟨b,0,none⟩) n n) l :=
 bE.aX (enc:=ey) (fun _=>rfl) (by rw[h,MG]) aE hm fun _ _ _ h=>h
end bt
namespace Go.Proofs.R
open Go Go.RowKit bt
def Gc(w:World)(a:Addr)(l:List Int):Prop := ∃v,w.cell? a=some v/\eO w v l
abbrev BV(w:World)(v:Value)(l:List (List Int)):Prop:=bE 1 Gc w v l
theorem ajA(cs ys:List Value)(v:Value)(m:o.Model)(s:List Int)(p:Nat)(w:World)(h:o.dY w cs m)(a1:m.cQ)(br:o.eN m)(dg:o.jr w ys (o.layout m))(ay:eO w v s)(aK:o.Fits m s)(aN:p<m.procs.length) :
  bu Tryz.prog F.EK #[.agg cs.toArray,.agg ys.toArray,v,.int .i64 p] w fun u w'=>bs ey T.a 1 w.heap.size w' u (o.jR m s p m.procs[p].cw (o.insts m).length)/\Ext w w':=by
 have eh:=h;obtain⟨cy,bP,b9,c1,ck,c2,cn,bQ,cB,bX,rfl,ak,h1,U,ag,aJ,eM,ej,ev,ea,ew⟩:=h.form;obtain⟨lb,d0,j8,d1,j9,d2,n0,d3,nw,d4,rfl,gz,fi,fR,ix,k7,gC,cX,c0,gD⟩:=dg.form;obtain⟨e3,fy,rfl,gi⟩:=ay.form;have hlen:=aK.len;have qI:o.eB m<=64:=o.nm br;have qP:(o.insts m).length<=30:=by have:=o.uM m;have:=br.procs;omega
 have dq:=br.proc _ (List.getElem_mem aN);have UW:=dq.cw;obtain⟨f6,f7,f8⟩:=o.Ii m;obtain⟨a,rfl⟩:=ag.addr (by omega);obtain⟨nS,cE,dU,dZ,eT,gS⟩:=ag.at p aN;refine bL E.EK ?_;refine bG ?_;refine af ?_;intro av bC cR aB aq;refine af ?_;intro aU cp dR aA aQ;replace aq:=aA.obj aq;have aW:=aB.trans aA;replace dZ:=dZ.ext aW;unfold o.dy.enc at dZ;refine af ?_;refine K.ah0 m.procs[p].cw.toNat (by omega) (by omega) ?_;intro bb vJ aei ax nd;rw[<-o.aai m s p] at nd;replace aq:=ax.obj aq;replace aQ:=ax.obj aQ;have bJ:=aW.trans ax;have z2:=aW.size;clear dZ;refine af ?_;refine K.call (Fc _ m bb (eh.ext bJ) a1) ?_;rintro cx pA ⟨fB,sZ⟩;obtain⟨cS,ci,rfl,_⟩:=fB.form;replace aQ:=sZ.obj aQ;replace nd:=sZ.obj nd;have jm:vJ≠cp:=by
  intro e;subst e;rw[aQ] at nd;injection nd with nd;injection nd with _ nd;revert nd;decide
 have afn:∀{W},Mod (fun k=>k=vJ) pA W->ep [T.a] pA W:=fun h=>ep.mod h fun k c t aw a=>by
  subst a;rw[nd] at aw;injection aw with aw;injection aw with _ aw;rw[<-aw];simp
 have LP:∀{W:World},Mod (fun k=>k=vJ) pA W->lV W (.slice cS (o.insts m).length ci) (o.insts m):=fun k=>bs.jI (enc:=o.c7.enc) (fun _=>rfl) (fB.hB (afn k) (by decide));have gT:∀{W},Mod (fun k=>k=vJ) pA W->W.heap[cp]? = pA.heap[cp]? := fun h=>h.block _ (cG aQ) (Ne.symm jm);have fS:∀{W},Mod (fun k=>k=vJ) pA W->Ext aU W:=fun h=>h.ext (ax.trans sZ) fun i ad e=>by omega
 rw[aQ] at gT;clear aq aQ;refine af ?_;refine K.dk 11 (o.insts m).length [2,3,5,9,10] (fun _:Unit=>[]) () (fun k _ W=>Mod (fun i=>i=vJ) pA W/\W.heap[vJ]? = some (.cells (nT (o.jR m s p m.procs[p].cw k)).toArray T.a)) bz bz ⟨Mod.refl _ _,nd⟩ ?_;clear nd;rintro k _ S bq bp ⟨hm,nd⟩;have aQ:=gT hm;have eU:=LP hm;have bZ:=aW.trans (fS hm);refine af ?_;apply K.cond<;>intro g1
 .have du:k<(o.insts m).length:=by omega
  obtain⟨lp,rfl⟩:=eU.addr (by omega);have yn:=o.r2 _ (List.getElem_mem du);obtain⟨q,aD,afY,sT⟩:=o.D5 yn;have UE:(o.insts m)[k]?.map (·.proc)=some (q:Int):=by rw[List.getElem?_eq_getElem du,Option.map_some,afY]
  obtain⟨d,Vk,anX⟩:=aK.loc du aD sT;obtain⟨kF,Vl⟩:=List.getElem?_eq_some_iff.1 Vk;obtain⟨Vr,lH⟩:=o.yt du;obtain⟨oZ,rfl⟩:=ay.addr (by omega);obtain⟨a2,rfl⟩:=fR.addr (by omega);have k2:=ay.ext Flat.ext bZ;have wX:=fR.ext Flat.ext bZ;refine af ?_;apply K.cond<;>intro g2
  .have af0:q=p:=by omega
   subst af0;have ik:d<m.procs[q].cw.toNat:=by omega
   have j1:=o.xB m s q m.procs[q].cw k;have af8:=o.Gt (m:=m) (s:=s) (p:=q) (k:=k) ik;have eZ:=o.RU m s q d k;refine af ?_;refine K.dD (o.dS m k) (by rw[lH]) (by rw[hlen];omega) ?_;refine af ?_;have nR:eO bq (.slice (some ⟨vJ,0,none⟩) m.procs[q].cw.toNat m.procs[q].cw.toNat) (o.jR m s q m.procs[q].cw k):=ain nd j1.symm (by rw[j1];unfold maxLen;omega);have Ur:d<(o.jR m s q m.procs[q].cw k).length:=by omega
   obtain⟨_,af9⟩:=List.getElem?_eq_some_iff.1 af8;refine K.dD d Vl ik ?_;refine af ?_;rw[af9];refine af ?_;refine K.dD d Vl ik ?_;refine af ?_;refine K.st1 nd (by rw[List.size_toArray,agR];omega) rfl fun bT e0 cC=>?_;rw[agS (Nat.mul_one _),<-o.aah UE Vk ik] at cC;refine af ?_;exact⟨by omega,bk,(),trivial,hm.trans (e0.mod rfl),cC⟩
  .refine af ?_;refine⟨du,bk,(),trivial,hm,?_⟩;rw[o.aag (by rw[UE];intro e;have:=Option.some.inj e;omega)];exact nd
 .have DE:(o.insts m).length=k:=by omega
  refine af ?_;exact⟨by rw[DE];exact bs.low aW.size (bs.Gw _ nd aei (MG _) (fun _=>rfl) (o.xB _ _ _ _ _).symm (by rw[o.xB];unfold maxLen;omega)),bZ⟩
end Go.Proofs.R
end
section
namespace bt
open Go Go.RowKit
section
variable{P:Program}{c9:Value->World->Prop}{e:TypeId}{sz base:Nat}{w:World}{s x:Value}{xs ys:List (oQ sz)}
theorem K.RR{ty:TypeId}{b:Nat}{t}(ay:vA e sz base w s xs)(ar:bE sz (Flat sJ) w x ys)(aC:(xs.length+ys.length)*b<=140737488355328)(ki:xs.length+ys.length<=maxLen)(jx:base<=w.heap.size)
  (hk:∀cf w',vA e sz base w' cf (xs++ys)->w.grownBy w' s.ownBlock->c9 cf w'):lf P ty e sz b s x w c9 t:=by
 obtain⟨bm,cap,rfl,h1,U,ag,aJ⟩:=ar.ex;cases bm with
 | some a=>exact K.vH ay vY (bE.flat vY (fun _ _ h=>h) ⟨some a,cap,rfl,h1,U,ag,aJ⟩) rfl Kw aC ki jx fun cf w' bg bS _=>hk cf w' bg bS
 | none =>
  have:ys=[]:=Classical.byContradiction fun aE=>by have:=ag aE;cases this
  subst this;rw[List.append_nil] at hk;refine K.app fun⟨aO,i,z,ad,bN,Ay,Ad,yr,HV⟩=>?_;refine⟨ty,s,w,?_,hk s w ay ⟨rfl,rfl,rfl,Nat.le_refl _,fun _ _ _=>rfl⟩⟩;rcases ay.2 with ⟨rfl,ak⟩ | ⟨g,cap,cur,rfl,_,_,DL,_⟩
  .simp[Builtin.append_,run_underlying aO,Go.sizeOf,typeInfo,ad,Builtin.lenOf,Builtin.firstCells]
  .simp[Builtin.append_,run_underlying aO,Go.sizeOf,typeInfo,ad,Builtin.lenOf,Builtin.firstCells,DL,storeCells]
end
end bt
end
section
namespace bt
open Go Go.RowKit
structure amC{α:Type}(C:World->List Value->α->Prop)(e:TypeId)(sz base:Nat)(v:Value)(w0 ws:World)(xs:List α)(k:Nat)(x:List (oQ sz))(W:World):Prop where
 m:Mod (fun i=>v.ownBlock=some i) ws W
 aX:∀i,v.ownBlock=some i->base<=i/\i<ws.heap.size/\∃cur,ws.heap[i]? = some (.cells cur e)
 len:x.length=xs.length
 own:vA e sz base W v x
 new:∀i (h1:i<x.length) (U:i<xs.length),i<k->gJ (fun j=>j<ws.heap.size) (fun w=>C w x[i].1 xs[i]) W
 kG:∀i (h1:i<x.length) (U:i<xs.length),k<=i->C w0 x[i].1 xs[i]
theorem K.abN{α:Type}{P:Program}{c9:Value->World->Prop}{R:World->Addr->α->Prop}{C:World->List Value->α->Prop}{e:TypeId}{sz:Nat}[Rel R C sz]{w0 w nv:World}{x:Value}{xs:List α}{ty:TypeId}{b xD:Nat}{t}
  (ar:bE sz R w0 x xs)(dQ:Ext w0 w)(Hg:w.heap.size<=xD)(ye:Ext w nv)(Hn:nv.heap[xD]? = some (.cells #[] e))(aK:∀{w w':World} {cs x},C w cs x->C w' cs x)(aC:xs.length*b<=140737488355328)
  (hk:∀bm c w',eF w (fun w=>bE sz R w (.slice bm xs.length c) xs) w'->Ext w w'->Mod (fun i=>i=xD) nv w'->c9 (.slice bm xs.length c) w'):lf P ty e sz b (.slice (some ⟨xD,0,none⟩) 0 0) x nv c9 t:=by
 obtain⟨eY,aS,nO,ca⟩:=ar.cells;have ba:vA e sz w.heap.size nv (.slice (some ⟨xD,0,none⟩) 0 0) []:=bs.empty Hg Hn;have hm:eY.length<=maxLen:=by obtain⟨_,_,_,h1,U,_⟩:=nO.ex;omega
 refine K.RR ba (bE.ext Flat.ext (dQ.trans ye) nO) (by rw[List.length_nil,Nat.zero_add,aS];exact aC) (by rw[List.length_nil,Nat.zero_add];exact hm) ye.size fun cf w' l7 a1=>?_;rw[List.nil_append] at l7;have aE:eF w (fun w=>bE sz R w cf xs) w':=eF.clone (R:=R) aS l7 aK fun i h1 U=>aK (ca i h1 U);obtain⟨bm,c,rfl,_⟩:=aE.here.form;exact hk bm c w' aE (bs.mq ba ye a1 (Nat.le_refl _)) (Mod.grown (A:=fun i=>i=xD) a1 fun k q=>by injection q with q;exact q.symm)
end bt
end
section
namespace Go.Proofs.R
open Go Go.RowKit bt
def Jx(w:World)(cs:List Value)(l:List Int):Prop := ∃v,cs=[v]/\eO w v l
instance aoJ:Rel Gc Jx 1 where
 out h:=by
  obtain⟨v,h1,U⟩:=h;exact⟨[v],fun j u aR=>by cases j with | zero=>simp at aR;subst aR;rw[add_zero];exact h1 | succ j=>simp at aR,v,rfl,U⟩
 oB h k:=by
  obtain⟨v,rfl,k⟩:=k
  have:=h 0 v rfl
  rw[add_zero] at this;exact⟨v,this,k⟩
 len h:=by obtain⟨v,rfl,_⟩:=h;rfl
 one h:=by obtain⟨v,rfl,h⟩:=h;simpa using h.one
 ext e h:=let ⟨v,h1,U⟩:=h; ⟨v,h1,U.ext Flat.ext e⟩
def Zv(_:World)(cs:List Value)(x:Int):Prop:=cs=ey x
instance aoI:Rel (Flat ey) Zv 1 where
 out h:=⟨_,h,rfl⟩
 oB h k:=by cases k;exact h
 len h:=by cases h;rfl
 one h:=by cases h;exact mm _
 ext _ h:=h
theorem _root_.bt.Mod.own{A:Nat->Prop}{a b c:World}{v:Value}(h:Mod A a b)(a1:b.grownBy c v.ownBlock)(aT:∀k,v.ownBlock=some k->a.heap.size<=k):Mod A a c :=
 h.comp (Mod.grown (A:=fun k=>v.ownBlock=some k) a1 fun k hk=>hk) (fun _ _ a=>a) fun i ad e=>by have:=aT i e;omega
structure Pt(w:World)(cs:List Value)(x:o.Env):Prop where
 ex:∃v0 v1 v2 v3,cs=[v0,v1,v2,v3,.int .i64 x.self]/\BV w v0 x.vars/\eO w v1 x.lens/\eO w v2 x.locals/\BV w v3 x.at_
end Go.Proofs.R
namespace o
open Go
theorem Oa(m:Model)(s:List Int)(inst:Int):(c8 m s inst).vars.length=m.vars.length:=by simp[c8]
theorem IN{m:Model}{s:List Int}{inst:Int}{k:Nat}(h:k<m.vars.length):(c8 m s inst).vars[k]? = some ((s.drop (gW m k)).take (cells m.vars[k] m.scalars).toNat):=by
 have e:(cV m)[k]!.length=(cells m.vars[k] m.scalars).toNat:=by
  have bF:k<(cV m).length:=by simpa[cV] using h
  rw[getElem!_pos (cV m) k bF];simp[cV,BA]
 simp only[c8,List.getElem?_map,List.getElem?_range h,Option.map_some,e]
theorem Ys(m:Model)(s:List Int)(inst:Int):(c8 m s inst).lens.length=m.aL.length:=by simp[c8]
theorem ale{m:Model}{s:List Int}{inst:Int}{k:Nat}(h:k<m.aL.length)(ay:df m k<s.length):(c8 m s inst).lens[k]? = some s[df m k]:=by
 simp only[c8,List.getElem?_map,List.getElem?_range h,Option.map_some];rw[getElem!_pos s (df m k) ay]
theorem N9{m:Model}{s:List Int}{inst:Int}(h:inst<0):(c8 m s inst).locals=[]/\(c8 m s inst).self=0:=by
 simp only[c8,Bs,hN (.inl h),and_self]
theorem w7{m:Model}(s:List Int){q n:Nat}(h:q<(insts m).length)(aE:n=(lJ m (insts m)[q]).length - 1):(c8 m s q).locals=(s.drop (dS m q+1)).take n/\(c8 m s q).self=(insts m)[q].elem:=by
 simp only[c8,Bs,iY (show(0:Int)<=q by omega) (show(q:Int)<(insts m).length by omega),Int.toNat_natCast,aE,and_self]
theorem Yr(m:Model)(s:List Int)(inst:Int):(c8 m s inst).at_.length=m.procs.length:=by simp[c8]
theorem ald{m:Model}{s:List Int}{inst:Int}{k:Nat}(h:k<m.procs.length):(c8 m s inst).at_[k]? = some (jR m s k m.procs[k].cw (insts m).length):=by
 simp only[c8,List.getElem?_map,List.getElem?_range h,Option.map_some,List.getElem?_eq_getElem h,Option.getD_some]
end o
namespace Go.Proofs.R
open Go Go.RowKit bt
theorem XW(cs ys:List Value)(v:Value)(m:o.Model)(s:List Int)(inst:Int)(w:World)(h:o.dY w cs m)(a1:m.cQ)(br:o.eN m)(dg:o.jr w ys (o.layout m))(ay:eO w v s)(aK:o.Fits m s)(h1 : -1<=inst)(U:inst<(o.insts m).length) :
  bu Tryz.prog F.AU #[.agg cs.toArray,.agg ys.toArray,v,.int .i64 inst] w fun u w'=>(∃es,u = .agg es.toArray/\eF w (fun w=>Pt w es (o.c8 m s inst)) w')/\Ext w w':=by
 have eh:=h;have qK:=dg;have agd:=ay;obtain⟨cy,bP,b9,c1,ck,c2,cn,bQ,cB,bX,rfl,ak,h1,U,ag,aJ,eM,ej,ev,ea,ew⟩:=h.form;obtain⟨lb,d0,j8,d1,j9,d2,n0,d3,nw,d4,rfl,gz,fi,fR,ix,k7⟩:=dg.form;obtain⟨e3,fy,rfl,gi⟩:=ay.form;have hlen:=aK.len;have qI:o.eB m<=64:=o.nm br;have hJ:=br.hJ;have qP:(o.insts m).length<=30:=by have:=o.uM m;have:=br.procs;omega
 refine bL E.AU ?_;refine bG ?_;refine af ?_;intro av bC cR aB aq;refine af ?_;intro aU cp dR aA aQ;replace aq:=aA.obj aq;refine af ?_;intro bb b4 fp ax bA;replace aq:=ax.obj aq;replace aQ:=ax.obj aQ;have bJ:=(aB.trans aA).trans ax;refine af ?_;refine K.call (Fc _ m bb (eh.ext bJ) a1) ?_;rintro cx bq ⟨fB,aM⟩;obtain⟨cS,ci,rfl,_⟩:=fB.form;have eU:lV bq _ _:=bs.jI (enc:=o.c7.enc) (fun _=>rfl) fB;replace aq:=aM.obj aq;replace aQ:=aM.obj aQ;replace bA:=aM.obj bA;have bZ:=bJ.trans aM;refine af ?_;intro bT lu anF aZ hz;have kq:∀{W},Ext bq W->W.heap[bC]? = _:=fun e=>e.obj aq;have gT:∀{W},Ext bq W->W.heap[cp]? = _:=fun e=>e.obj aQ;have amm:=cG hz;have C2:∀{W},Mod (fun i=>i=lu) bT W->Ext bq W:=fun h=>h.ext aZ fun i ad e=>by omega
 refine K.dk 11 m.vars.length [2,3,4,5,8,9,10] (fun _:gQ=>[]) (none,0,0) (fun k v W=>(Mod (fun i=>i=lu) bT W/\W.heap[lu]? = some (.cells #[.slice v.1 v.2.1 v.2.2,.slice none 0 0,.slice none 0 0,.slice none 0 0,.int .i64 0] T.y))/\ft Jx T.c 1 bT.heap.size W (.slice v.1 v.2.1 v.2.2) (((o.c8 m s inst).vars).take k)) bz bz ⟨⟨Mod.refl _ _,hz⟩,by simpa using ft.nil _ _ _ _ _⟩ ?_;clear hz;rintro k v S bV hk ⟨⟨l6,hz⟩,dL⟩;have aq:=kq (C2 l6);have aQ:=gT (C2 l6);have lg:=bZ.trans (C2 l6);refine af ?_;apply K.cond<;>intro g1
 .have du:k<m.vars.length:=by omega
  obtain⟨a,rfl⟩:=h1.addr (by omega);have eZ:=o.tN m.vars[k] m.scalars;have pe:=o.tz du;have fX:=o.o3 m;obtain⟨fB,lH⟩:=o.Bz du;have ei:=((h1.at k du).cells).ext lg;refine af ?_;refine K.gN _ (fun w' e=>NN m.vars[k] _ m.scalars w' (ak.ext (lg.trans e))) ?_;refine af ?_;intro cc bM;replace aq:=bM.obj aq;replace aQ:=bM.obj aQ;replace hz:=bM.obj hz;have et:=dL.ext bM;have jN:=lg.trans bM;have oy:Mod (fun i=>i=lu) bT cc:=l6.trans bM.mod;have jC:=ay.ext Flat.ext jN;have Xn:=gz.ext Flat.ext jN;obtain⟨a0,rfl⟩:=gz.addr (by omega);clear ei;refine af ?_;intro di bY;replace aq:=bY.obj aq;replace aQ:=bY.obj aQ;replace hz:=bY.obj hz;have iU:=et.ext bY;have kP:=jN.trans bY;have nP:Mod (fun i=>i=lu) bT di:=oy.trans bY.mod;have HQ:=jC.ext Flat.ext bY;have apq:=Xn.ext Flat.ext bY;clear jC Xn dL et;refine af ?_;refine K.II (k:=.i64) (k':=.i64) (o.gW m k) (o.gW m k+(o.cells m.vars[k] m.scalars).toNat) HQ (by simp[fu,cu,lH]) (by simp[fu,cu,lH];omega) (by omega) (by omega) fun al c aN=>?_;refine af ?_;intro dX hv lB cr dM;refine⟨cr,?_⟩;rw[show o.gW m k+(o.cells m.vars[k] m.scalars).toNat - o.gW m k=(o.cells m.vars[k] m.scalars).toNat from by omega] at aN ⊢;have DZ:=o.IN (s:=s) (inst:=inst) du;refine K.abN aN (Ext.refl _) lB cr dM (fun h=>h) (by simp;omega) fun bm gf fw p7 dc _=>?_;refine⟨dc,?_⟩;refine af ?_;intro gw vI De fY nL;refine⟨dc.trans fY,?_⟩;have z58:=nP.size;have ap0:=dc.size;have Jh:=fY.size;have qW:=iU.ext (dc.trans fY);have cv:(((o.c8 m s inst).vars).take k).length<=12:=by rw[List.length_take,o.Oa];omega
  refine K.zy (x:=(s.drop (o.gW m k)).take (o.cells m.vars[k] m.scalars).toNat) (cs:=[.slice bm ((s.drop (o.gW m k)).take (o.cells m.vars[k] m.scalars).toNat).length gf]) qW (hj nL)
   (((eF.own p7 iU (by omega)).imp fun w h=>⟨_,rfl,h⟩).ext fY fun i ad hk=>by have:=iU.under (by omega) i hk;omega) rfl (by simp[Value.oneCell']) (by omega) (by unfold maxLen;omega) (by omega) fun cf la a6 Dw=>?_
  have aeH:=qW.box Dw ((dc.trans fY).obj hz) (by decide);have wv:=((nP.trans dc.mod).trans fY.mod).own Dw fun q aD=>(qW.lt q aD).1;obtain⟨j5,o1,rfl,_⟩:=a6.form;clear hz p7 qW iU nL dM aN;refine af ?_;intro pz kp jj;refine af ?_;refine⟨du,bk,(j5,_,o1),trivial,⟨wv.trans (kp.mod rfl),jj⟩,?_⟩;rw[List.take_succ,DZ];exact a6.wr kp amm
 have l5:m.vars.length=k:=by omega
 rw[List.take_of_length_le (by rw[o.Oa];omega)] at dL;have nb:=dL.new (R:=Gc);obtain⟨ed,pv,gf⟩:=v;have BE:=cG hz;have y9:=l6.size;have amw:=C2 l6;have wb:∀{W},Mod (fun i=>i=lu) bV W->Ext bq W:=fun h=>C2 (l6.trans h);clear aq aQ dL;refine af ?_;refine K.dk 13 m.aL.length [2,3,4,5,8,9,10] (fun _:gQ=>[]) (none,0,0) (fun k v W=>(Mod (fun i=>i=lu) bV W/\W.heap[lu]? = some (.cells #[.slice ed pv gf,.slice v.1 v.2.1 v.2.2,.slice none 0 0,.slice none 0 0,.int .i64 0] T.y))/\bs ey T.a 1 bV.heap.size W (.slice v.1 v.2.1 v.2.2) (((o.c8 m s inst).lens).take k)) bz bz ⟨⟨Mod.refl _ _,hz⟩,by simpa using bs.nil _ _ _ _ _⟩ ?_;clear hz;rintro k v S cc hk ⟨⟨oy,hz⟩,et⟩;have aq:=kq (wb oy);have aQ:=gT (wb oy);have jN:=bZ.trans (wb oy);refine af ?_;apply K.cond<;>intro g1
 .have du:k<m.aL.length:=by omega
  have pe:=o.xJ du;have fX:=o.o3 m;obtain⟨fB,fg⟩:=o.vL du;obtain⟨dJ,rfl⟩:=fi.addr (by omega);obtain⟨amO,rfl⟩:=ay.addr (by omega);have jC:=ay.ext Flat.ext jN;have Xo:=fi.ext Flat.ext jN;refine af ?_;intro di bY;replace aQ:=bY.obj aQ;replace hz:=bY.obj hz;have iU:=et.ext bY;have nP:Mod (fun i=>i=lu) bV di:=oy.trans bY.mod;have HQ:=jC.ext Flat.ext bY;have apt:=Xo.ext Flat.ext bY;clear jC Xo et aq;refine af ?_;refine K.dD (o.df m k) (by rw[fg]) (by omega) ?_;refine af ?_;intro dX hv lB cr dM;refine⟨cr,?_⟩;have gA:o.df m k<s.length:=by omega
  have DZ:=o.ale (inst:=inst) du gA;have an6:(((o.c8 m s inst).lens).take k).length<=12:=by rw[List.length_take,o.Ys];omega
  have jl:=iU.ext cr;have Ze:=nP.size;have Zg:=cr.size;refine K.mV (y:=s[o.df m k]) jl dM rfl (fun _=>rfl) mm (by omega) (by unfold maxLen;omega) (by omega) fun bm n c fw qV p5=>?_;have anP:=jl.box p5 (cr.obj hz) (by decide);have DI:=(nP.trans cr.mod).own p5 fun q aD=>(jl.lt q aD).1;clear hz jl iU dM;refine af ?_;intro gw hA nL;refine af ?_;refine⟨du,bk,(bm,n,c),trivial,⟨DI.trans (hA.mod rfl),nL⟩,?_⟩;rw[List.take_succ,DZ];exact qV.mod (hA.mod (A:=fun i=>i=lu) rfl) fun q aD e=>by have:=(qV.lt q aD).1;omega
 have qQ:m.aL.length=k:=by omega
 rw[List.take_of_length_le (by rw[o.Ys];omega)] at et;have TT:gJ (fun i=>i<bT.heap.size) (fun w=>BV w (.slice ed pv gf) (o.c8 m s inst).vars) cc:=nb.move oy (fun i _ e=>by omega) fun i _ e=>e;have TM:eF bV (fun w=>eO w (.slice v.1 v.2.1 v.2.2) (o.c8 m s inst).lens) cc:=bs.new (fun _=>rfl) et;clear nb;obtain⟨nX,mH,qA⟩:=v;have Zf:=cG hz;have z67:=oy.size;have G5:∀{W},Mod (fun i=>i=lu) cc W->Ext bq W:=fun h=>wb (oy.trans h);clear aq aQ et;refine af ?_;refine K.dk 14 m.procs.length [2,3,4,5,8,9,10] (fun _:gQ=>[]) (none,0,0) (fun k v W=>(Mod (fun i=>i=lu) cc W/\W.heap[lu]? = some (.cells #[.slice ed pv gf,.slice nX mH qA,.slice none 0 0,.slice v.1 v.2.1 v.2.2,.int .i64 0] T.y))/\ft Jx T.c 1 cc.heap.size W (.slice v.1 v.2.1 v.2.2) (((o.c8 m s inst).at_).take k)) bz bz ⟨⟨Mod.refl _ _,hz⟩,by simpa using ft.nil _ _ _ _ _⟩ ?_;clear hz;rintro k v S di hk ⟨⟨nP,hz⟩,iU⟩;have aq:=kq (G5 nP);have aQ:=gT (G5 nP);have kP:=bZ.trans (G5 nP);refine af ?_;apply K.cond<;>intro g1
 .have du:k<m.procs.length:=by omega
  refine af ?_;intro dX cr;replace aq:=cr.obj aq;replace aQ:=cr.obj aQ;replace hz:=cr.obj hz;have jl:=iU.ext cr;have jO:=kP.trans cr;have qT:Mod (fun i=>i=lu) cc dX:=nP.trans cr.mod;clear iU;refine af ?_;refine K.call (ajA _ _ _ m s k dX (eh.ext jO) a1 br (qK.ext jO) (agd.ext Flat.ext jO) aK du) ?_;rintro _ fw ⟨p7,dc⟩;obtain⟨bm,gf,rfl,_⟩:=p7.form;replace p7:eF dX (fun w=>eO w (.slice bm (o.jR m s k m.procs[k].cw (o.insts m).length).length gf) (o.jR m s k m.procs[k].cw (o.insts m).length)) fw:=bs.new (enc:=ey) (sz:=1) (fun _=>rfl) p7;refine⟨dc,?_⟩;have DZ:=o.ald (s:=s) (inst:=inst) du;refine af ?_;intro gw vI De fY nL;refine⟨dc.trans fY,?_⟩;have z79:=qT.size;have OL:=dc.size;have Jh:=fY.size;have qW:=jl.ext (dc.trans fY);have cv:(((o.c8 m s inst).at_).take k).length<=12:=by rw[List.length_take,o.Yr];have:=br.procs;omega
  refine K.zy (x:=o.jR m s k m.procs[k].cw (o.insts m).length) (cs:=[.slice bm (o.jR m s k m.procs[k].cw (o.insts m).length).length gf]) qW (hj nL)
   (((eF.own p7 jl (by omega)).imp fun w h=>⟨_,rfl,h⟩).ext fY fun i ad hk=>by have:=jl.under (by omega) i hk;omega) rfl (by simp[Value.oneCell']) (by omega) (by unfold maxLen;omega) (by omega) fun cf la a6 Dw=>?_
  have aeH:=qW.box Dw ((dc.trans fY).obj hz) (by decide);have wv:=((qT.trans dc.mod).trans fY.mod).own Dw fun q aD=>(qW.lt q aD).1;obtain⟨j5,o1,rfl,_⟩:=a6.form;clear hz p7 qW jl nL;refine af ?_;intro pz kp jj;refine af ?_;refine⟨du,bk,(j5,_,o1),trivial,⟨wv.trans (kp.mod rfl),jj⟩,?_⟩;rw[List.take_succ,DZ];exact a6.wr kp Zf
 have wu:m.procs.length=k:=by omega
 rw[List.take_of_length_le (by rw[o.Yr];omega)] at iU;have K2:gJ (fun i=>i<bT.heap.size) (fun w=>BV w (.slice ed pv gf) (o.c8 m s inst).vars) di:=TT.move nP (fun i _ e=>by omega) fun i _ e=>e;have TN:eF bV (fun w=>eO w (.slice nX mH qA) (o.c8 m s inst).lens) di:=TM.move nP (fun i _ e=>by omega) fun i _ e=>e;have TA:=iU.new (R:=Gc);clear TT TM;obtain⟨apB,ao2,am1⟩:=v;have OK:=cG hz;have z78:=nP.size;have x2:∀{W},Mod (fun i=>i=lu) di W->Ext bq W:=fun h=>G5 (nP.trans h);clear iU;have kP:=bZ.trans (x2 (Mod.refl _ _));have z3:=cG bA;have z45:=aZ.size;have apW:=(aB.trans aA).size;replace bA:=(x2 (Mod.refl _ _)).obj bA;refine af ?_;apply K.cond<;>intro g2;rotate_left
 .refine af ?_;intro dX iV dM;refine af ?_;obtain⟨dQ,bR⟩:=o.N9 (m:=m) (s:=s) (inst:=inst) (by omega);refine⟨⟨_,rfl,fun W hZ=>⟨_,_,_,_,by rw[bR],?_,?_,?_,?_⟩⟩,iV.ext kP (by omega)⟩
  .exact(K2.move (A':=fun i=>i<w.heap.size) (iV.mod (A:=fun i=>i=b4) rfl) (fun i _ e=>by omega) fun i _ e=>by omega) W hZ
  .exact(TN.move (A':=fun i=>i<w.heap.size) (iV.mod (A:=fun i=>i=b4) rfl) (fun i _ e=>by omega) fun i _ e=>by omega) W hZ
  .rw[dQ];exact bE.nil
  .exact(TA.move (A':=fun i=>i<w.heap.size) (iV.mod (A:=fun i=>i=b4) rfl) (fun i _ e=>by omega) fun i _ e=>by omega) W hZ
 .obtain⟨q,rfl⟩:=Int.eq_ofNat_of_zero_le (show 0<=inst by omega);have aD:q<(o.insts m).length:=by omega
  have pe:=o.VD aD;obtain⟨fB,lH⟩:=o.yt aD;obtain⟨a2,rfl⟩:=fR.addr (by omega);have ajs:=fR.ext Flat.ext kP;have aq:=kq (x2 (Mod.refl _ _));have aQ:=gT (x2 (Mod.refl _ _));obtain⟨lp,rfl⟩:=eU.addr (by omega);have Ao:=eU.ext Flat.ext (x2 (Mod.refl _ _));have yn:=o.r2 _ (List.getElem_mem aD);obtain⟨p,aN,hL,sT⟩:=o.D5 yn;have Ab:(o.lJ m (o.insts m)[q]).length=1+m.procs[p].vars.length:=by rw[sT,o.Bd]
  obtain⟨a,rfl⟩:=ag.addr (by omega);obtain⟨nS,cE,dU,dZ,eT,gS⟩:=ag.at p aN;obtain⟨apg,anb,rfl,ao0⟩:=eT.form;obtain⟨ao7,amZ,rfl,aoX⟩:=gS.form;replace dZ:=dZ.ext kP;unfold o.dy.enc at dZ;refine af ?_;refine K.dD p hL aN ?_;refine af ?_;intro I6 p4 dX aeX;have cr:=p4.trans aeX;replace aq:=cr.obj aq;replace aQ:=cr.obj aQ;replace hz:=cr.obj hz;replace bA:=cr.obj bA;have jO:=kP.trans cr;have agc:=ay.ext Flat.ext jO;have Zg:=cr.size;clear dZ Ao ajs;refine af ?_;refine K.II (k:=.i64) (k':=.i64) (o.dS m q+1) (o.dS m q+1+m.procs[p].vars.length) agc (by simp[fu,cu,lH]) (by simp[fu,cu,lH]) (by omega) (by omega) fun al c Vf=>?_;rw[show o.dS m q+1+m.procs[p].vars.length - (o.dS m q+1)=m.procs[p].vars.length from by omega] at Vf ⊢;obtain⟨eY,aS,nO,ca⟩:=Vf.cells;have eZ:eY.length<=64:=by rw[aS,List.length_take,List.length_drop];omega
  refine af ?_;refine K.RR (sz:=1) (base:=dX.heap.size) (bs.nil _ _ _ _ _) nO (by rw[List.length_nil];omega) (by rw[List.length_nil];unfold maxLen;omega) (Nat.le_refl _) fun cf fw qV p5=>?_;rw[List.nil_append] at qV;have p7:eF dX (fun w=>eO w cf ((s.drop (o.dS m q+1)).take m.procs[p].vars.length)) fw:=eF.clone (R:=Flat ey) aS qV (fun h=>h) fun i h1 U=>ca i h1 U;have dc:Ext dX fw:=(Ext.refl _).grown p5 fun k hk=>by simp[Value.ownBlock] at hk
  replace aQ:=dc.obj aQ;replace hz:=dc.obj hz;replace bA:=dc.obj bA;have OL:=dc.size;obtain⟨ol,cl,rfl,_⟩:=p7.here.form;clear aq;refine af ?_;intro gw hA nL;have HL:Mod (fun i=>i=lu) di gw:=(cr.mod.trans dc.mod).trans (hA.mod rfl);have an1:=eU.ext Flat.ext (x2 HL);replace bA:=hA.obj bA (by omega);refine af ?_;intro la oA um;have wv:Mod (fun i=>i=lu) di la:=HL.trans (oA.mod rfl);replace bA:=oA.obj bA (by omega);refine af ?_;intro pz kp jj;refine af ?_;obtain⟨dQ,bR⟩:=o.w7 s aD (n:=m.procs[p].vars.length) (by omega);have Jh:=hA.size;have Zd:=oA.size;refine⟨⟨_,rfl,fun W hZ=>⟨_,_,_,_,by rw[bR];rfl,?_,?_,?_,?_⟩⟩,kp.ext (bZ.trans (x2 wv)) (by omega)⟩
  .exact(K2.move (A':=fun i=>i<w.heap.size) (wv.comp (B:=fun i=>i=lu\/i=b4) (kp.mod (A:=fun i=>i=b4) rfl) (fun i _ e=>.inl e) fun i _ e=>.inr e) (fun i _ e=>by omega) fun i _ e=>by omega) W hZ
  .exact(TN.move (A':=fun i=>i<w.heap.size) (wv.comp (B:=fun i=>i=lu\/i=b4) (kp.mod (A:=fun i=>i=b4) rfl) (fun i _ e=>.inl e) fun i _ e=>.inr e) (fun i _ e=>by omega) fun i _ e=>by omega) W hZ
  .rw[dQ];exact((((p7.wr hA (by omega)).wr oA (by omega)).wr kp (by omega)).mono fun i _ e=>by omega) W hZ
  .exact(TA.move (A':=fun i=>i<w.heap.size) (wv.comp (B:=fun i=>i=lu\/i=b4) (kp.mod (A:=fun i=>i=b4) rfl) (fun i _ e=>.inl e) fun i _ e=>.inr e) (fun i _ e=>by omega) fun i _ e=>by omega) W hZ
end Go.Proofs.R
end
section
namespace o
open Go
theorem XY{f g:Node->List Int->Int×Int}{e:List Node}(h:∀k (hk:k<e.length) st,eE f (e.take k) []=(0,st)->eV e[k].op<=st.length->f e[k] st=g e[k] st):∀n,n<=e.length->eE f (e.take n) []=eE g (e.take n) []
 | 0,_=>by simp[eE]
 | n+1,aE=>by
  have e1:=XY h n (by omega);by_cases ak:(eE f (e.take n) []).1=0
  .have bR:eE f (e.take n) []=(0,(eE f (e.take n) []).2):=Prod.ext ak rfl;have aW:eE g (e.take n) []=(0,(eE f (e.take n) []).2):=by rw[<-e1];exact bR
   rw[vb (by omega) bR,vb (by omega) aW];exact alm fun _ aS=>by rw[h n (by omega) _ bR aS];exact⟨rfl,fun _=>rfl⟩
  .rw[List.take_succ_eq_append_getElem (by omega),Bo,Bo,<-e1,if_pos ak,if_pos ak]
theorem akj{f g:Node->List Int->Int×Int}{e:List Node}(h:∀k (hk:k<e.length) st,eE f (e.take k) []=(0,st)->eV e[k].op<=st.length->f e[k] st=g e[k] st):kt f e=kt g e:=by
 have:=XY h e.length (Nat.le_refl _)
 rw[List.take_length] at this;unfold kt;rw[this]
def iO(s t:List Int)(l:List Int):Prop := ∀x∈l,s[x.toNat]? = t[x.toNat]?
theorem iO.row{s t:List Int}{a n:Nat}(h:iO s t (gk a n)){k:Nat}(hk:k<n):s[a+k]? = t[a+k]? := by
 have:=h ((a+k:Nat):Int) (qj.2 (by omega))
 rw[Int.toNat_natCast] at this;exact this
theorem iO.one{s t:List Int}{a:Nat}(h:iO s t (gk a 1)):s[a]? = t[a]? := h.row (k:=0) (by omega)
theorem iO.sub{s t:List Int}{l r:List Int}(h:iO s t l)(ay:∀x∈r,x∈l):iO s t r:=fun x ar=>h x (ay x ar)
theorem IJ{s t:List Int}{a n:Nat}(h:∀k,k<n->s[a+k]? = t[a+k]?):(s.drop a).take n=(t.drop a).take n:=by
 apply List.ext_getElem?;intro i;rw[List.getElem?_take,List.getElem?_take];split
 .rw[List.getElem?_drop,List.getElem?_drop];exact h i ‹_›
 .rfl
theorem YT{l r:List Int}{n:Int}(h:0<=n->l[n.toNat]? = r[n.toNat]?):jo l n=jo r n:=by
 unfold jo nth;by_cases ak:0<=n
 .rw[if_pos ak,if_pos ak,h ak]
 .rw[if_neg ak,if_neg ak]
theorem YU{s t:List Int}{a n:Nat}{k:Int}(h:0<=k->s[a+k.toNat]? = t[a+k.toNat]?):jo ((s.drop a).take n) k=jo ((t.drop a).take n) k:=by
 refine YT fun ak=>?_;rw[List.getElem?_take,List.getElem?_take,List.getElem?_drop,List.getElem?_drop];split
 .exact h ak
 .rfl
theorem aad{m:Model}{p:Int}{n j:Nat}(aR:j<n)(h:(insts m)[j]?.map (·.proc)=some p):((dS m j:Nat):Int)∈oj m p n:=by
 unfold oj;refine List.mem_flatMap.2 ⟨j,List.mem_range.2 aR,?_⟩;rw[if_pos h,Bm];exact List.mem_singleton.2 rfl
theorem aae{m:Model}{s t:List Int}{p l:Int}{k:Nat}(h:iO s t (oj m p k)):qz m s p l k=qz m t p l k:=by
 unfold qz;congr 1;refine List.filter_congr fun i ad=>?_;have ad:=List.mem_range.1 ad;by_cases aN:(insts m)[i]?.map (·.proc)=some p
 .have:=h _ (aad ad aN)
  rw[Int.toNat_natCast] at this;rw[this]
 .simp[aN]
theorem aaf{m:Model}{s t:List Int}{p:Nat}{n:Int}{k:Nat}(h:iO s t (oj m p k)):jR m s p n k=jR m t p n k:=by
 unfold jR;exact List.map_congr_left fun l _=>by rw[aae h]
theorem alf{m:Model}{s t:List Int}{inst:Int}{n:Nat}(h:s[df m n]? = t[df m n]?):(c8 m s inst).lens[n]? = (c8 m t inst).lens[n]? := by
 simp only[c8,List.getElem?_map];cases a6:(List.range m.aL.length)[n]? with
 | none=>rfl
 | some i =>
  have:i=n:=by
   obtain⟨h1,U⟩:=List.getElem?_eq_some_iff.1 a6;rw[List.getElem_range] at U;exact U.symm
  subst this;simp only[Option.map_some,Option.some.injEq];rw[List.getElem!_eq_getElem?_getD,List.getElem!_eq_getElem?_getD,h]
theorem ahB{m:Model}{s t:List Int}{fI:Scope}{x:Node}{q:Nat}{inst top:Int}{own:Bool}(aT:fI.vars=m.vars)(ar:zj fI x)(ad:inst=q\/(inst<0/\own=false))
  (ba:own=true->q<(insts m).length/\1<=(c8 m s inst).self/\top=(c8 m s inst).self)(h:iO s t (gj m q own x)):iN x (c8 m s inst) top=iN x (c8 m t inst) top:=by
 have oz:(c8 m s inst).self=(c8 m t inst).self:=by
  simp only[c8,Bs];split<;>rfl
 unfold iN;by_cases h1:x.op=1
 .rw[if_pos h1,if_pos h1]
 rw[if_neg h1,if_neg h1];by_cases U:x.op=2
 .rw[if_pos U,if_pos U];obtain⟨gC,v,cX,c0⟩:=ar.var U;rw[aT] at cX;obtain⟨gD,iK⟩:=List.getElem?_eq_some_iff.1 cX;unfold gj at h;rw[if_pos U] at h;have aE:∀s:List Int,nth (c8 m s inst).vars x.n=some ((s.drop (gW m x.n.toNat)).take (cells m.vars[x.n.toNat] m.scalars).toNat):=fun s=>by
   unfold nth;rw[if_pos gC,IN gD]
  rw[aE s,aE t];exact YU fun _=>h.one
 rw[if_neg U,if_neg U];by_cases ag:x.op=3
 .rw[if_pos ag,if_pos ag];obtain⟨gC,gD⟩:=ar.item ag;rw[aT] at gD;unfold gj pq at h;rw[if_neg U,if_pos ag] at h;have aE:∀s:List Int,nth (c8 m s inst).vars x.n=some ((s.drop (gW m x.n.toNat)).take (cells m.vars[x.n.toNat] m.scalars).toNat):=fun s=>by
   unfold nth;rw[if_pos gC,IN gD]
  rw[aE s,aE t];cases own with
  | false =>
   simp only[Bool.false_eq_true,if_false] at h;rw[r4 gD] at h;rw[IJ fun k hk=>h.row hk]
  | true =>
   simp only[if_true] at h;obtain⟨aD,b9,ck⟩:=ba rfl;have Vg:inst=q:=by
    rcases ad with ad | ad
    .exact ad
    .cases ad.2
   subst Vg;have rY:(c8 m s q).self=(insts m)[q].elem:=(w7 s aD rfl).2;rw[rY] at b9 ck;rw[CE aD] at h;have dt:=h.one;have e:∀s:List Int,nth ((s.drop (gW m x.n.toNat)).take (cells m.vars[x.n.toNat] m.scalars).toNat) (top - 1)=if (top - 1).toNat<(cells m.vars[x.n.toNat] m.scalars).toNat then s[gW m x.n.toNat+(insts m)[q].elem.toNat - 1]? else none:=fun s=>by
    unfold nth;rw[if_pos (by omega),List.getElem?_take,List.getElem?_drop];rw[show gW m x.n.toNat+(top - 1).toNat=gW m x.n.toNat+(insts m)[q].elem.toNat - 1 from by omega]
   simp only[e s,e t,dt]
 rw[if_neg ag,if_neg ag];by_cases aJ:x.op=4
 .rw[if_pos aJ,if_pos aJ];unfold gj at h;rw[if_neg U,if_neg ag,if_pos aJ] at h;rcases ad with rfl | ad
  .by_cases aD:q<(insts m).length
   .rw[(w7 s aD rfl).1,(w7 t aD rfl).1];exact YU fun _=>h.one
   .have:nth (insts m) (q:Int)=none:=hN (.inr (by omega))
    simp only[c8,Bs,this]
  .rw[(N9 ad.1).1,(N9 ad.1).1]
 rw[if_neg aJ,if_neg aJ];by_cases bS:x.op=6
 .rw[if_pos bS,if_pos bS];unfold gj at h;rw[if_neg U,if_neg ag,if_neg aJ,if_pos bS] at h;exact YT fun _=>alf h.one
 rw[if_neg bS,if_neg bS];by_cases bg:x.op=5
 .rw[if_pos bg,if_pos bg,oz]
 rw[if_neg bg,if_neg bg];by_cases cj:x.op=7
 .rw[if_pos cj,if_pos cj];unfold gj at h;rw[if_neg U,if_neg ag,if_neg aJ,if_neg bS,if_pos cj] at h;by_cases aE:0<=x.n
  .rw[if_pos aE,if_pos aE];have bx:x.n.tdiv 16=((x.n.tdiv 16).toNat:Nat):=(Int.toNat_of_nonneg (Int.tdiv_nonneg aE (by omega))).symm;rw[bx] at h ⊢;have e:nth (c8 m s inst).at_ ((x.n.tdiv 16).toNat:Nat)=nth (c8 m t inst).at_ ((x.n.tdiv 16).toNat:Nat):=by
    unfold nth;rw[if_pos (by omega),if_pos (by omega),Int.toNat_natCast];simp only[c8,List.getElem?_map];cases a6:(List.range m.procs.length)[(x.n.tdiv 16).toNat]? with
    | none=>rfl
    | some i =>
     have:i=(x.n.tdiv 16).toNat:=by
      obtain⟨h1,U⟩:=List.getElem?_eq_some_iff.1 a6;rw[List.getElem_range] at U;exact U.symm
     subst this;simp only[Option.map_some,Option.some.injEq];exact aaf h
   rw[e]
  .rw[if_neg aE,if_neg aE]
 .rw[if_neg cj,if_neg cj]
def E4(m:Model)(e:List Node):List Int:=e.flatMap (gj m 0 false)
theorem KB{m:Model}{s t:List Int}{fI:Scope}{e:List Node}{q p:Nat}(aT:fI.vars=m.vars)(he:rr fI e)(aD:fW m q p)(oz:(m.procs[p]'(aD.aN)).over≠0\/fI.self=0)(h:iO s t (o8 m q e e.length)):eval e (c8 m s q)=eval e (c8 m t q):=by
 have rY:(c8 m s q).self=((insts m)[q]'(aD.aD)).elem:=(w7 s aD.aD rfl).2;refine akj fun k hk st ha hlen=>?_;unfold hy;cases k1:gE e[k].op with
 | some al=>rfl
 | none =>
  have Mi:iO s t (gj m q (wV e k) e[k]):=h.sub fun x ar=>by
   unfold o8;refine List.mem_flatMap.2 ⟨k,List.mem_range.2 hk,?_⟩;rw[List.getElem?_eq_getElem hk];exact ar
  refine ahB (q:=q) (own:=wV e k) aT (he.node k hk).1 (.inl rfl) (fun ba=>⟨aD.aD,?_⟩) Mi;cases k with
  | zero=>cases ba
  | succ j =>
   rw[Ng (by omega),decide_eq_true_eq] at ba;have aok:=(he.node j (by omega)).1.self ba;have L5:(m.procs[p]'(aD.aN)).over≠0:=by
    rcases oz with h1 | h1
    .exact h1
    .omega
   refine⟨by rw[rY];exact aD.elem L5,?_⟩;by_cases ak:(eE (hy (c8 m s q)) (e.take j) []).1=0
   .have bR:eE (hy (c8 m s q)) (e.take j) []=(0,(eE (hy (c8 m s q)) (e.take j) []).2):=Prod.ext ak rfl;rw[vb (by omega) bR] at ha;unfold stepG at ha;have aE:eV e[j].op=0:=by rw[ba];decide
    rw[aE,if_neg (by omega),if_neg (by omega)] at ha;have aK:hy (c8 m s q) e[j] (eE (hy (c8 m s q)) (e.take j) []).2=((c8 m s q).self,0):=by
     unfold hy;rw[ba];simp[gE,iN,ba]
    rw[aK] at ha;simp only[ne_eq,not_true_eq_false,if_false] at ha;split at ha
    .cases ha
    .injection ha with _ ha
     rw[<-ha];simp
   .rw[List.take_succ_eq_append_getElem (by omega),Bo,if_pos ak] at ha;rw[ha] at ak;exact absurd rfl ak
def l8(l:List Int):Bool:=match l with
 | []=>false
 | n :: r=>decide (0<=n/\n<=r.length)&&(r.drop n.toNat).all (fun x=>decide (x=0))
def lL(l:List Int):List Int:=if l8 l then (l.drop 1).take (l.headD 0).toNat else []
def u5(k:Nat)(l:List Int):List Int:=(l.length:Int) :: (List.range (k - 1)).map fun i=>l.getD i 0
def px(l:List Int)(v:Int):Option (List Int):=if l8 l=true/\l.headD 0≠(l.length:Int) - 1 then some (u5 l.length (lL l++[v])) else none
def rj(l:List Int):Option (List Int×Int):=match lL l with
 | []=>none
 | x :: r=>some (u5 l.length r,x)
theorem W5{k:Nat}(h:1<=k)(l:List Int):(u5 k l).length=k:=by simp[u5];omega
theorem VQ{l:List Int}(h:l8 l=true):1<=l.length:=by
 cases l with
 | nil=>cases h
 | cons n r=>simp
theorem IA{l r:List Int}{v:Int}(h:px l v=some r):r.length=l.length:=by
 unfold px at h;split at h
 .rename_i h1;injection h with h
  rw[<-h,W5 (VQ h1.1)]
 .cases h
theorem IV{l r:List Int}{v:Int}(h:rj l=some (r,v)):r.length=l.length:=by
 unfold rj at h;split at h
 .cases h
 .rename_i x q aD;injection h with h
  injection h with h1 U
  have:l8 l=true:=Classical.byContradiction fun aE=>by
   unfold lL at aD;rw[if_neg aE] at aD;cases aD
  rw[<-h1,W5 (VQ this)]
def chanOf(m:Model)(s:List Int)(c:Nat):List Int:=(s.drop (df m c)).take (1+jw m c)
def lK(s:List Int)(a:Nat)(l:List Int):List Int:=s.take a++l++s.drop (a+l.length)
def Cd(m:Model)(c:Nat):Int×Int:=match (cb m)[c]? with
 | some x=>(x.bf,x.ad)
 | none=>(0,-1)
def putAt(m:Model)(s:List Int)(c:Nat)(n:Int):Option (List Int):=if n<(Cd m c).1\/(Cd m c).2<n then none else some (s.set c n)
def vP(m:Model)(c:Nat):dG:=match m.aL[c]? with
 | some x=>fb x.scalar x.bf x.ad m.scalars
 | none=>fb 0 0 0 m.scalars
def w3(m:Model)(s:List Int)(c:Nat)(n:Int):Option (List Int) :=
 if n<(vP m c).bf\/(vP m c).ad<n then none else (px (chanOf m s c) n).map (lK s (df m c))
def yS(m:Model)(s:List Int)(q:Nat)(a:Act):Option (List Int):=match rj (chanOf m s a.to.toNat) with
 | none=>none
 | some (rest,n)=>putAt m (lK s (df m a.to.toNat) rest) (dS m q+1+a.loc.toNat) n
def yu(m:Model)(s:List Int)(a:Act)(k:Int×Int)(n:Int):Option (List Int) :=
 if k.2≠0\/k.1<1\/(oD m a.to.toNat:Int)<k.1 then none else putAt m s (gW m a.to.toNat+k.1.toNat - 1) n
def jP(m:Model)(s:List Int)(q:Nat)(a:Act):Option (List Int) :=
 if a.kind=5 then yS m s q a
 else if (eval a.value (c8 m s q)).2≠0 then none
 else if a.kind=1 then putAt m s (gW m a.to.toNat) (eval a.value (c8 m s q)).1
 else if a.kind=2 then yu m s a (eval a.index (c8 m s q)) (eval a.value (c8 m s q)).1
 else if a.kind=3 then putAt m s (dS m q+1+a.to.toNat) (eval a.value (c8 m s q)).1
 else w3 m s a.to.toNat (eval a.value (c8 m s q)).1
def iB(m:Model)(q:Nat):List Act->List Int->Option (List Int)
 | [],s=>some s
 | a :: r,s=>match jP m s q a with
  | none=>none
  | some t=>iB m q r t
def hx(m:Model)(s:List Int)(q:Nat)(c:dI):Option (List Int) :=
 if s[dS m q]? ≠ some c.from_ then none
 else if 0<c.guard.length/\((eval c.guard (c8 m s q)).2≠0\/(eval c.guard (c8 m s q)).1=0) then none
 else (iB m q c.b6 s).map fun t=>t.set (dS m q) c.to
theorem RE(m:Model)(q:Nat)(a:Act):∀(l:List Act) (s:List Int),iB m q (l++[a]) s=match iB m q l s with | none=>none | some t=>jP m t q a
 | [],s=>by
  simp only[List.nil_append,iB];cases jP m s q a<;>rfl
 | x :: l,s=>by
  simp only[List.cons_append,iB];cases jP m s q x with
  | none=>rfl
  | some t=>exact RE m q a l t
theorem wF{s:List Int}{a:Nat}{l:List Int}(h:a+l.length<=s.length):(lK s a l).length=s.length:=by
 simp[lK];omega
theorem AB{s:List Int}{a:Nat}{l:List Int}(h:a+l.length<=s.length)(x:Nat):(lK s a l)[x]? = if a<=x/\x<a+l.length then l[x - a]? else s[x]? := by
 unfold lK;have aO:(s.take a).length=a:=by simp;omega
 by_cases h1:x<a
 .rw[if_neg (by omega),List.getElem?_append_left (by rw[List.length_append];omega),List.getElem?_append_left (by omega),List.getElem?_take,if_pos h1]
 .by_cases U:x<a+l.length
  .rw[if_pos ⟨by omega,U⟩,List.getElem?_append_left (by rw[List.length_append];omega),List.getElem?_append_right (by omega),aO]
  .rw[if_neg (by omega),List.getElem?_append_right (by rw[List.length_append];omega),List.getElem?_drop,List.length_append,aO];congr 1;omega
theorem tQ{m:Model}{s:List Int}{c:Nat}(h:df m c+(1+jw m c)<=s.length):(chanOf m s c).length=1+jw m c:=by
 simp[chanOf];omega
theorem E5{m:Model}{s t:List Int}{c:Nat}{n:Int}(h:putAt m s c n=some t):t=s.set c n:=by
 unfold putAt at h;split at h
 .cases h
 .injection h with h
  exact h.symm
def eK(s t:List Int)(l:List Int):Prop:=t.length=s.length/\∀c:Nat,t[c]? ≠ s[c]? -> (c:Int)∈l
theorem eK.refl(s l:List Int):eK s s l:=⟨rfl,fun _ h=>absurd rfl h⟩
theorem eK.trans{s t u l:List Int}(h:eK s t l)(k:eK t u l):eK s u l:=⟨k.1.trans h.1,fun c aw=>by
 by_cases e:u[c]? = t[c]?
 .exact h.2 c (by rw[<-e];exact aw)
 .exact k.2 c e⟩
theorem eK.mono{s t l r:List Int}(h:eK s t l)(ay:∀x∈l,x∈r):eK s t r:=⟨h.1,fun c aw=>ay _ (h.2 c aw)⟩
theorem eK.set(s:List Int)(a:Nat)(n:Int):eK s (s.set a n) (gk a 1):=⟨List.length_set ..,fun c aw=>by
 rw[Bm,List.mem_singleton];apply Classical.byContradiction;intro aE;exact aw (List.getElem?_set_ne (by omega))⟩
theorem eK.D6{s l:List Int}{a:Nat}(h:a+l.length<=s.length):eK s (lK s a l) (gk a l.length):=⟨wF h,fun c aw=>by
 rw[AB h] at aw;apply Classical.byContradiction;intro aE;rw[qj] at aE;exact aw (if_neg (by omega))⟩
theorem akN{m:Model}{s t:List Int}{c:Nat}{n:Int}(aw:df m c+(1+jw m c)<=s.length)(h:w3 m s c n=some t):eK s t (tP m c):=by
 unfold w3 at h;split at h
 .cases h
 .cases aN:px (chanOf m s c) n with
  | none=>rw[aN] at h;cases h
  | some r =>
   rw[aN] at h;have aS:=IA aN;rw[tQ aw] at aS;have e:lK s (df m c) r=t:=by injection h
   rw[<-e];unfold tP;rw[<-aS];exact eK.D6 (by omega)
theorem ajJ{m:Model}{s t:List Int}{q:Nat}{a:Act}(aw:df m a.to.toNat+(1+jw m a.to.toNat)<=s.length)(h:yS m s q a=some t):eK s t (tP m a.to.toNat++gk (dS m q+1+a.loc.toNat) 1):=by
 unfold yS at h;cases aN:rj (chanOf m s a.to.toNat) with
 | none=>rw[aN] at h;cases h
 | some Ff =>
  obtain⟨r,n⟩:=Ff;rw[aN] at h;have aS:=IV aN;rw[tQ aw] at aS;have e:=E5 h;rw[e];refine eK.trans (t:=lK s (df m a.to.toNat) r) ?_ ((eK.set _ _ _).mono fun x ar=>List.mem_append_right _ ar)
  have:=eK.D6 (s:=s) (a:=df m a.to.toNat) (l:=r) (by omega)
  rw[aS] at this;exact this.mono fun x ar=>List.mem_append_left _ ar
theorem akM{m:Model}{s:List Int}{q:Nat}{a:Act}(h:rf a=true):eval a.index (c8 m s q)=((c8 m s q).self,0):=by
 unfold rf at h;split at h
 .rename_i x ar;rw[ar];have bg:x.op=5:=by simpa using h
  have aE:eV x.op=0:=by rw[bg];decide
  have aK:hy (c8 m s q) x []=((c8 m s q).self,0):=by
   unfold hy;rw[bg];simp[gE,iN,bg]
  unfold eval kt eE;simp only[List.length_singleton,stepG,aE,aK];simp[eE]
 .cases h
theorem RB{m:Model}{s t:List Int}{q:Nat}{a:Act}(aD:q<(insts m).length)(aw:(a.kind=4\/a.kind=5)->df m a.to.toNat+(1+jw m a.to.toNat)<=s.length)(hk:1<=a.kind/\a.kind<=5)(h:jP m s q a=some t):eK s t (lo m q a):=by
 unfold jP at h;unfold lo;by_cases bg:a.kind=5
 .rw[if_pos bg] at h;rw[if_neg (by omega),if_neg (by omega),if_neg (by omega),if_neg (by omega),if_pos bg];exact ajJ (aw (.inr bg)) h
 rw[if_neg bg] at h;by_cases he:(eval a.value (c8 m s q)).2≠0
 .rw[if_pos he] at h;cases h
 rw[if_neg he] at h;by_cases h1:a.kind=1
 .rw[if_pos h1] at h ⊢;rw[E5 h];exact eK.set _ _ _
 rw[if_neg h1] at h ⊢;by_cases U:a.kind=2
 .rw[if_pos U] at h ⊢;unfold yu at h;split at h
  .cases h
  .rename_i aE;rw[E5 h];refine(eK.set _ _ _).mono fun x ar=>?_;rw[Bm,List.mem_singleton] at ar;subst ar;unfold pq;by_cases ay:rf a=true
   .rw[if_pos ay,Bm,List.mem_singleton,CE aD];have rY:(c8 m s q).self=(insts m)[q].elem:=(w7 s aD rfl).2
    have:=akM (m:=m) (s:=s) (q:=q) (a:=a) ay
    rw[this];simp only[rY]
   .rw[if_neg ay,qj];omega
 rw[if_neg U] at h ⊢;by_cases ag:a.kind=3
 .rw[if_pos ag] at h ⊢;rw[E5 h];exact eK.set _ _ _
 rw[if_neg ag] at h ⊢;rw[if_pos (by omega)];exact akN (aw (by omega)) h
theorem iO.set{s t l:List Int}(h:iO s t l)(aS:s.length=t.length)(a:Nat)(n:Int):iO (s.set a n) (t.set a n) l:=fun x ar=>by
 rw[List.getElem?_set,List.getElem?_set,aS,h x ar]
theorem iO.D6{s t l r:List Int}(h:iO s t l){a:Nat}(h1:a+r.length<=s.length)(U:a+r.length<=t.length):iO (lK s a r) (lK t a r) l:=fun x ar=>by
 rw[AB h1,AB U,h x ar]
theorem R9{m:Model}{s t:List Int}{c:Nat}(h:iO s t (tP m c)):chanOf m s c=chanOf m t c:=IJ fun _ hk=>h.row hk
def BH(l:List Int)(al p:Option (List Int)):Prop:=match al,p with
 | none,none=>True
 | some s,some t=>iO s t l/\s.length=t.length
 | _,_=>False
theorem Ix{m:Model}{s t l:List Int}(h:iO s t l)(aS:s.length=t.length)(c:Nat)(n:Int):BH l (putAt m s c n) (putAt m t c n):=by
 unfold putAt;split
 .exact trivial
 .exact⟨h.set aS c n,by rw[List.length_set,List.length_set,aS]⟩
theorem ZQ{m:Model}{s t l:List Int}{fI:Scope}{q p:Nat}{a:Act}(aT:fI.vars=m.vars)(bj:oN fI a)(aD:fW m q p)(oz:(m.procs[p]'(aD.aN)).over≠0\/fI.self=0)
  (h:iO s t l)(aS:s.length=t.length)(a6:∀x∈pO m q a,x∈l)(hw:∀x∈lo m q a,x∈l)(aw:(a.kind=4\/a.kind=5)->df m a.to.toNat+(1+jw m a.to.toNat)<=s.length):BH l (jP m s q a) (jP m t q a):=by
 unfold jP;by_cases bg:a.kind=5
 .rw[if_pos bg,if_pos bg];unfold pO at a6;rw[if_pos bg] at a6;unfold yS;rw[R9 (h.sub a6)];cases aN:rj (chanOf m t a.to.toNat) with
  | none=>exact trivial
  | some Ff =>
   obtain⟨r,n⟩:=Ff;have uA:=IV aN;have gx:=aw (.inr bg);rw[tQ (by omega)] at uA;exact Ix (h.D6 (by omega) (by omega)) (by rw[wF (by omega),wF (by omega),aS]) _ _
 rw[if_neg bg,if_neg bg];unfold pO at a6;rw[if_neg bg] at a6;rw[KB aT (bj.val bg) aD oz (h.sub fun x ar=>a6 x (List.mem_append_right _ ar))];split
 .exact trivial
 by_cases h1:a.kind=1
 .rw[if_pos h1,if_pos h1];exact Ix h aS _ _
 rw[if_neg h1,if_neg h1];by_cases U:a.kind=2
 .rw[if_pos U,if_pos U];rw[if_pos U] at a6;rw[KB aT (bj.item U).2.2 aD oz (h.sub fun x ar=>a6 x (List.mem_append_left _ ar))];unfold yu;split
  .exact trivial
  .exact Ix h aS _ _
 rw[if_neg U,if_neg U];by_cases ag:a.kind=3
 .rw[if_pos ag,if_pos ag];exact Ix h aS _ _
 rw[if_neg ag,if_neg ag];have aJ:a.kind=4:=by have:=bj.kind;omega
 unfold lo at hw;rw[if_neg h1,if_neg U,if_neg ag,if_pos aJ] at hw;unfold w3;split
 .exact trivial
 .rw[R9 (h.sub hw)];cases aN:px (chanOf m t a.to.toNat) (eval a.value (c8 m t q)).1 with
  | none=>exact trivial
  | some r =>
   have uA:=IA aN;have gx:=aw (.inl aJ);rw[tQ (by omega)] at uA;exact⟨h.D6 (by omega) (by omega),by rw[wF (by omega),wF (by omega),aS]⟩
theorem pS{m:Model}{c:Nat}(h:c<m.aL.length):df m c+(1+jw m c)<=eB m:=by
 have:=xJ h
 rw[o2 h]
 have:=o3 m
 omega
theorem RK{m:Model}{fI:Scope}{q:Nat}(aD:q<(insts m).length)(rR:fI.aL=m.aL):∀(l:List Act) (s t:List Int),(∀a∈l,oN fI a)->s.length=eB m->iB m q l s=some t->eK s t (l.flatMap (lo m q))
 | [],s,t,_,_,h=>by
  injection h with h
  rw[<-h];exact eK.refl _ _
 | a :: l,s,t,bj,ay,h=>by
  simp only[iB] at h;cases h1:jP m s q a with
  | none=>rw[h1] at h;cases h
  | some u =>
   rw[h1] at h;have U:=RB aD (fun hk=>by rw[ay];exact pS (by have:=((bj a (List.mem_cons_self ..)).chan hk).2;rwa[rR] at this)) (bj a (List.mem_cons_self ..)).kind h1;have ag:=RK aD rR l u t (fun b aC=>bj b (List.mem_cons_of_mem _ aC)) (U.1.trans ay) h;rw[List.flatMap_cons];exact(U.mono fun x ar=>List.mem_append_left _ ar).trans (ag.mono fun x ar=>List.mem_append_right _ ar)
theorem RM{fI:Scope}{c:dI}(h:tC fI c):∀a∈c.b6,oN fI a:=fun a bj=>by
 obtain⟨k,hk,rfl⟩:=List.mem_iff_getElem.1 bj;exact h.act k hk
theorem Cm{m:Model}{fI:Scope}{q:Nat}{c:dI}{s t:List Int}(aD:q<(insts m).length)(rR:fI.aL=m.aL)(aw:tC fI c)(ay:s.length=eB m)(h:hx m s q c=some t):eK s t (kM m q c c.b6.length):=by
 unfold hx at h;split at h
 .cases h
 split at h
 .cases h
 cases h1:iB m q c.b6 s with
 | none=>rw[h1] at h;cases h
 | some u =>
  rw[h1] at h;have e:u.set (dS m q) c.to=t:=by injection h
  rw[<-e];unfold kM;rw[List.take_length];exact((RK aD rR _ s u (RM aw) ay h1).mono fun x ar=>List.mem_append_right _ ar).trans ((eK.set _ _ _).mono fun x ar=>List.mem_append_left _ ar)
theorem RJ{m:Model}{l:List Int}{fI:Scope}{q p:Nat}(aT:fI.vars=m.vars)(rR:fI.aL=m.aL)(aD:fW m q p)(oz:(m.procs[p]'(aD.aN)).over≠0\/fI.self=0) :
  ∀(kT:List Act) (s t:List Int),(∀a∈kT,oN fI a)->iO s t l->s.length=t.length->s.length=eB m->(∀x∈kT.flatMap (pO m q),x∈l)->(∀x∈kT.flatMap (lo m q),x∈l)->BH l (iB m q kT s) (iB m q kT t)
 | [],s,t,_,h,aS,_,_,_=>⟨h,aS⟩
 | a :: kT,s,t,bj,h,aS,ay,a6,hw=>by
  have K5:=bj a (List.mem_cons_self ..);have gx:(a.kind=4\/a.kind=5)->df m a.to.toNat+(1+jw m a.to.toNat)<=s.length:=fun hk=>by rw[ay];exact pS (by have:=(K5.chan hk).2;rwa[rR] at this)
  have h1:=ZQ aT K5 aD oz h aS (fun x ar=>a6 x (List.mem_flatMap.2 ⟨a,List.mem_cons_self ..,ar⟩)) (fun x ar=>hw x (List.mem_flatMap.2 ⟨a,List.mem_cons_self ..,ar⟩)) gx;simp only[iB];cases bR:jP m s q a with
  | none =>
   rw[bR] at h1;cases aW:jP m t q a with
   | none=>exact trivial
   | some u=>rw[aW] at h1;exact h1.elim
  | some u =>
   rw[bR] at h1;cases aW:jP m t q a with
   | none=>rw[aW] at h1;exact h1.elim
   | some r =>
    rw[aW] at h1;have hu:=(RB aD.aD gx K5.kind bR).1;exact RJ aT rR aD oz kT u r (fun b aC=>bj b (List.mem_cons_of_mem _ aC)) h1.1 h1.2 (hu.trans ay) (fun x ar=>a6 x (by rw[List.flatMap_cons];exact List.mem_append_right _ ar)) (fun x ar=>hw x (by rw[List.flatMap_cons];exact List.mem_append_right _ ar))
theorem abz{m:Model}{l:List Int}{fI:Scope}{q p:Nat}{c:dI}{s t:List Int}(aT:fI.vars=m.vars)(rR:fI.aL=m.aL)(aD:fW m q p)(oz:(m.procs[p]'(aD.aN)).over≠0\/fI.self=0)(aw:tC fI c)
  (h:iO s t l)(aS:s.length=t.length)(ay:s.length=eB m)(a6:∀x∈nq m q c c.b6.length,x∈l)(hw:∀x∈kM m q c c.b6.length,x∈l):BH l (hx m s q c) (hx m t q c):=by
 unfold nq CY at a6;unfold kM at hw;rw[List.take_length] at a6 hw;have ak:s[dS m q]? = t[dS m q]? := (h.sub fun x ar=>a6 x (List.mem_append_left _ (List.mem_append_left _ ar))).one;unfold hx;rw[ak,KB aT aw.guard aD oz (h.sub fun x ar=>a6 x (List.mem_append_left _ (List.mem_append_right _ ar)))];split
 .exact trivial
 split
 .exact trivial
 have h1:=RJ aT rR aD oz c.b6 s t (RM aw) h aS ay (fun x ar=>a6 x (List.mem_append_right _ ar)) (fun x ar=>hw x (List.mem_append_right _ ar));cases bR:iB m q c.b6 s with
 | none =>
  rw[bR] at h1;cases aW:iB m q c.b6 t with
  | none=>exact trivial
  | some u=>rw[aW] at h1;exact h1.elim
 | some u =>
  rw[bR] at h1;cases aW:iB m q c.b6 t with
  | none=>rw[aW] at h1;exact h1.elim
  | some r =>
   rw[aW] at h1;exact⟨h1.1.set h1.2 _ _,by rw[List.length_set,List.length_set,h1.2]⟩
theorem Wi{s w:Int}:∀{l:List dG} {k:Nat} {x:Cell},x∈fh s w l k->∃b∈l,x.bf=b.bf/\x.ad=b.ad
 | [],_,_,h=>by cases h
 | b :: l,k,x,h=>by
  rcases List.mem_cons.1 h with rfl | h
  .exact⟨b,by simp,rfl,rfl⟩
  .obtain⟨gm,h1,U⟩:=Wi h;exact⟨gm,by simp[h1],U⟩
theorem GA{s:Int}:∀{ls:List (List dG)} {i:Nat} {x:Cell},x∈cellsOf s ls i->∃l∈ls,∃b∈l,x.bf=b.bf/\x.ad=b.ad
 | [],_,_,h=>by cases h
 | l :: r,i,x,h=>by
  rcases List.mem_append.1 h with h | h
  .obtain⟨b,h1,U⟩:=Wi h;exact⟨l,by simp,b,h1,U⟩
  .obtain⟨uS,h1,U⟩:=GA h;exact⟨uS,by simp[h1],U⟩
def tB(bf ad:Int):Prop := -1048576<=bf/\bf<=ad/\ad<=1048576
theorem JP{fI bf ad:Int}{s:List Scalar}(h:fI=0->tB bf ad):tB (fb fI bf ad s).bf (fb fI bf ad s).ad:=by
 unfold fb;by_cases ak:fI=0
 .rw[if_pos ak];exact h ak
 .rw[if_neg ak]
  have:=size_le fI s
  unfold tB;simp only;omega
theorem WK{bf ad:Int}(h:narrow bf ad=true):tB bf ad:=by have:=WJ h;unfold tB;omega
theorem aa1{m:Model}(h:eN m):∀x∈cb m,tB x.bf x.ad:=fun x ar=>by
 unfold cb at ar;rcases List.mem_append.1 ar with ar | ar
 .rcases List.mem_append.1 ar with ar | ar
  .obtain⟨l,aS,b,aC,bR,aW⟩:=GA ar;obtain⟨v,aT,rfl⟩:=List.mem_map.1 aS;rw[(List.mem_replicate.1 aC).2] at bR aW;rw[bR,aW];exact JP fun ak=>WK ((h.var v aT).Ip ak)
  .obtain⟨l,aS,b,aC,bR,aW⟩:=GA ar;obtain⟨c,aw,rfl⟩:=List.mem_map.1 aS;rw[bR,aW];have dq:=h.chan c aw;have ij:=dq.cap;rcases List.mem_cons.1 aC with rfl | aC
   .unfold tB;simp only;omega
   .rw[(List.mem_replicate.1 aC).2];exact JP fun ak=>by
     have:=WJ (dq.Ip ak)
     unfold tB;omega
 .obtain⟨l,aS,b,aC,bR,aW⟩:=GA ar;obtain⟨y4,ta,rfl⟩:=List.mem_map.1 aS;rw[bR,aW];unfold lJ at aC;split at aC
  .rename_i p aN;have hm:p∈m.procs:=by
    unfold nth at aN;split at aN
    .exact List.mem_of_getElem? aN
    .cases aN
   have dq:=h.proc p hm;rcases List.mem_cons.1 aC with rfl | aC
   .have:=dq.cw;unfold tB;simp only;omega
   .obtain⟨v,aT,rfl⟩:=List.mem_map.1 aC;exact JP fun ak=>WK ((dq.var v aT).Ip ak)
  .cases aC
end o
end
section
namespace bt
open Go Go.RowKit
def sI(d:Nat):List Value:=[.int .u8 d]
theorem acf(d:Nat):∀u∈sI d,u.oneCell'=true:=by simp[sI,Value.oneCell']
def JS(l:List Nat):List Value:=l.map fun(d:Nat)=>Value.int .u8 (d:Int)
theorem JT:∀l:List Nat,JS l=l.flatMap sI
 | []=>rfl
 | x :: r=>by
  have:=JT r
  simp only[JS,List.map_cons,List.flatMap_cons] at this ⊢;rw[this];rfl
section
variable{P:Program}{aI:Value->Prop}{ty:TypeId}{dh da:Operand}
theorem K.ajZ{x b:Nat}{k:IntKind}{t}(aC:1<=b)(hk:aI (.int k ((x % b:Nat):Int))):gH P .rem ty dh da (.int k x) (.int k b) aI t:=by
 refine K.rem (by omega) ?_;rw[Int.tmod_eq_emod_of_nonneg (by omega),<-Int.natCast_emod];exact hk
end
theorem K.XK{P:Program}{aI:Value->Prop}{ty:TypeId}{dh da:Operand}{k:IntKind}{a b:Int}{t}(x y:Nat)(bj:a=x)(aC:b=y)(h1:1<=y)(hk:aI (.int k ((x % y:Nat):Int))):gH P .rem ty dh da (.int k a) (.int k b) aI t:=by
 subst bj aC;exact K.ajZ h1 hk
end bt
end
section
namespace bt
open Go Go.RowKit
theorem ac6(l:List Nat)(k x:Nat):(l.flatMap sI).set k (.int .u8 x)=(l.set k x).flatMap sI:=by
 rw[<-JT,<-JT];simp[JS,List.map_set]
theorem K.lR{e:TypeId}{base:Nat}{w:World}{l:List Nat}{a:Addr}{n c k x:Nat}{gu:World->Prop}{t}(h:bs sI e 1 base w (.slice (some a) n c) l)(hk:k<l.length)
  (dt:∀av,dA a.block w av->bs sI e 1 base av (.slice (some a) n c) (l.set k x)->gu av):qv (.pointer (some (a.add (k*1)))) (.int .u8 (x:Nat)) w gu t:=by
 rcases h.2 with ⟨aE,ak⟩ | ⟨g,cap,cur,h1,U,ag,aJ,bg,bS,cj⟩
 .cases aE
 .injection h1 with bR aW bJ
  injection bR with bR
  subst bR bJ;have cv:k<cur.size:=by omega
  have ly:Addr.add ⟨g,0,none⟩ (k*1)=⟨g,k,none⟩:=by rw[add_eq,Nat.mul_one,Nat.zero_add]
  have aw:w.cell? (Addr.add ⟨g,0,none⟩ (k*1))=some cur[k]:=e2 ag (by rw[Nat.mul_one];exact Array.getElem?_eq_getElem cv);rw[ly] at aw ⊢;have bF:w.ownsRow base e 1 (.slice (some ⟨g,0,none⟩) l.length c) l.length (l.flatMap sI):=by unfold bs at h;rw[aW] at h;exact h
  have ay:=World.ownsRow.stored bF k (.int .u8 (x:Nat));rw[ac6] at ay;refine K.st aw (by simp[World.frozen?,ag]) (by simp[Value.oneCell']) (dt _ (dA.setCell w ⟨g,k,none⟩ _) ?_);unfold bs;rw[List.length_set,aW];exact ay.1
theorem K.Gr{α:Type}{P:Program}{c9:Value->World->Prop}{enc:α->List Value}{e:TypeId}{sz base:Nat}{w:World}{s x:Value}{xs ys:List α}{R:World->Addr->α->Prop}[nB R enc]{ty:TypeId}{b:Nat}{t}(ay:bs enc e sz base w s xs)(ar:bE sz R w x ys)(dm:∀x,(enc x).length=sz)(h1:∀y,∀u∈enc y,u.oneCell'=true)
  (aC:(xs.length+ys.length)*b<=140737488355328)(ki:xs.length+ys.length<=maxLen)(jx:base<=w.heap.size)(hk:∀cf w',bs enc e sz base w' cf (xs++ys)->w.grownBy w' s.ownBlock->c9 cf w'):lf P ty e sz b s x w c9 t:=by
 obtain⟨bm,cap,rfl,p0,U,ag,aJ⟩:=ar.ex;cases bm with
 | some a=>exact K.Z5 ay ⟨some a,cap,rfl,p0,U,ag,aJ⟩ dm h1 aC ki jx hk
 | none =>
  have:ys=[]:=Classical.byContradiction fun aE=>by have:=ag aE;cases this
  subst this;rw[List.append_nil] at hk;refine K.app fun⟨aO,i,z,ad,bN,Ay,Ad,yr,HV⟩=>?_;refine⟨ty,s,w,?_,hk s w ay ⟨rfl,rfl,rfl,Nat.le_refl _,fun _ _ _=>rfl⟩⟩;rcases ay.2 with ⟨rfl,ak⟩ | ⟨g,cap,cur,rfl,_,_,DL,_⟩
  .simp[Builtin.append_,run_underlying aO,Go.sizeOf,typeInfo,ad,Builtin.lenOf,Builtin.firstCells]
  .simp[Builtin.append_,run_underlying aO,Go.sizeOf,typeInfo,ad,Builtin.lenOf,Builtin.firstCells,DL,storeCells]
end bt
end