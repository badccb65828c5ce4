/- Parts. -/
import Derived.Test.YtakmdjclehkglaaGreatDoorQaml
import Derived.Shelf.SlGeneric
import Derived.Shelf.SlIterI.Nil
import Derived.Shelf.SortM.Plain
import Derived.Shelf.SortM.SortNone
set_option linter.all false
set_option maxRecDepth 8000
set_option maxHeartbeats 16000000
namespace o
open Go
structure fe(m:Model)(ref:Int)(q p k:Nat):Prop where
 ok:(check m).cJ=0
 aV:0<=ref
 U:ref.toNat<(refs m).length
 at_:Xj m ((refs m)[ref.toNat]) q p k
def Told(m:Model)(ref:Int):Prop:=(check m).cJ=0/\0<=ref/\ref<(refs m).length
def mn{m:Model}{ref:Int}(h:Told m ref):∃q p k,fe m ref q p k:=by
 obtain⟨h1,J,ab⟩:=h;obtain⟨q,p,k,aF⟩:=asQ (E2 (show ref.toNat<(refs m).length by omega));exact⟨q,p,k,h1,J,Aw,aF⟩
def fe.told{m:Model}{ref:Int}{q p k:Nat}(h:fe m ref q p k):Told m ref:=⟨h.ok,h.aV,by have:=h.U;have:=h.aV;omega⟩
def fe.inst{m:Model}{ref:Int}{q p k:Nat}(h:fe m ref q p k):fL m q p:=by
 obtain⟨gC,au⟩:=Bs h.at_.U;have e:gC=p:=by
  have h1:=au.eq;rw[h.at_.ip] at h1;omega
 subst e;exact au
theorem fe.one{m:Model}{ref:Int}{q p k eQ gC k':Nat}(h:fe m ref q p k)(bq:fe m ref eQ gC k'):q=eQ/\p=gC/\k=k':=by
 have bG:q=eQ:=by have a:=h.at_.nk;have b:=bq.at_.nk;omega
 subst bG;have a:=h.at_.ip;have b:=bq.at_.ip;have c:=h.at_.pU;have d:=bq.at_.pU;exact⟨rfl,Aw,Aw⟩
def bM(m:Model)(p k:Nat):dG:=((m.procs[p]?.map (·.c4[k]?)).join).getD ⟨⟨#[]⟩,0,0,[],[],false⟩
def sJ{m:Model}{p k:Nat}(au:p<m.procs.length)(hk:k<m.procs[p].c4.length):bM m p k=m.procs[p].c4[k]:=by
 unfold bM;rw[List.getElem?_eq_getElem au];simp[hk]
def fe.cin{m:Model}{ref:Int}{q p k:Nat}(h:fe m ref q p k):wi (inner (m.procs[p]'(h.at_.au)) (eC m)) (bM m p k):=by
 rw[sJ h.at_.au h.at_.hk];exact aiJ h.ok h.at_.au h.at_.hk
structure kM(m:Model)(ref:Int)(a b:List Int):Prop where
 there:∀q p k,fe m ref q p k->pB (qv m q (bM m p k) (bM m p k).bL.length) a/\pB (kq m q (bM m p k) (bM m p k).bL.length) b
 none:¬Told m ref->a=[]/\b=[]
def kM.eq{m:Model}{ref:Int}{a b cx fV:C_ Int}(h:kM m ref a b)(bq:kM m ref cx fV):a=cx/\b=fV:=by
 by_cases aB:Told m ref
 .obtain⟨q,p,k,an⟩:=mn aB;obtain⟨h1,J⟩:=h.there q p k an;obtain⟨ab,aF⟩:=bq.there q p k an;exact⟨h1.eq ab λ_=>Iff.rfl,J.eq aF λ_=>Iff.rfl⟩
 .obtain⟨rfl,rfl⟩:=h.none aB;obtain⟨rfl,rfl⟩:=bq.none aB;exact⟨rfl,rfl⟩
theorem kM.of{m:Model}{ref:Int}{q p k:Nat}{a b:C_ Int}(an:fe m ref q p k)(h1:pB (qv m q (bM m p k) (bM m p k).bL.length) a)(J:pB (kq m q (bM m p k) (bM m p k).bL.length) b):kM m ref a b :=
 ⟨λeQ gC k' h=>by obtain⟨rfl,rfl,rfl⟩:=an.one h;exact⟨h1,J⟩,λaw=>absurd an.told aw⟩
def kM.nil{m:Model}{ref:Int}(h:¬Told m ref):kM m ref [] []:=⟨λ_ _ _ an=>absurd an.told h,λ_=>⟨rfl,rfl⟩⟩
structure avr(m:Model)(ref:Int)(a:List Int):Prop where
 there:∀q p k,fe m ref q p k->pB (vj m q (bM m p k)) a
 none:¬Told m ref->a=[]
def eE.lim{m:Model}(h:eE m):uU m:=⟨by have:=h.procs;omega,λp au=>by have:=(h.proc p au).gj;omega⟩
end o
namespace ba
open Go
def I7:C_ B_:=[.string ⟨#[]⟩,.int .i64 0,.int .i64 0,.slice none 0 0,.slice none 0 0,.bool false]
end ba
namespace Go.Proofs.R
open Go Go.RowKit ba o
def agy(m:o.Model)(ref:Int)(v:B_)(w:A_):Prop :=
 (¬o.Told m ref/\v = .tuple #[.pointer none,.agg I7.toArray,.bool false]) \/
 (∃(b q p k:Nat) (eY va:B_),fe m ref q p k/\v = .tuple #[.pointer (some ⟨b,0,none⟩),.agg ((bM m p k).enc eY va).toArray,.bool true]/\p9 w b m q/\eW w eY (bM m p k).guard/\lP w va (bM m p k).bL)
def aqQ(cs:C_ B_)(m:o.Model)(ref:Int)(w:A_)(h:dh w cs m)(aG:m.cr)(aS:gQ w) :
  Ei F.d0 #[.agg cs.toArray,.I ref] w λv w'=>agy m ref v w'/\Ext w w':=by
 have b2:=h;obtain⟨bZ,bz,bN,c1,bT,c2,bW,bw,b1,bD,rfl,ad,h1,J,ab,aF,eB,dD,dO,dU,eg⟩:=h.form;refine bk E.d0 ?_;refine I ?_;intro w1 bP c8 af ao;refine I ?_;intro az dJ jc ai bI;have pK:=ai.obj ao;have aD:=af.trans ai;refine I ?_;refine J_ (zx _ m az (b2.ext aD) aG (aS.ext aD)) ?_;rintro _ aM ⟨rfl,ag⟩;have aO:=aD.trans ag;replace ao:=ag.obj pK;replace bI:=ag.obj bI;have z5:=cq bI;have avo:=af.size;clear pK;refine I ?_;refine Y_ (v:=.I (o.check m).cJ) rfl ?_;refine I ?_;refine I_ (λhk=>?_) (λhk=>?_);rotate_left
 .refine I ?_;intro aR dT bn;refine I ?_;exact⟨.inl ⟨λaB=>hk aB.1,aJ⟩,dT.ext aO Aw⟩
 have aL:=gU hk;have ck:=aL.lim;have hM:=pn ck;refine I ?_;refine J_ (zK _ m aM (b2.ext aO) ck) ?_;rintro vr aR ⟨fp,aq⟩;obtain⟨e1,mS,rfl,_⟩:=fp.form;have qZ:bm 2 (Flat o.Ref.enc) aR (.slice e1 (o.refs m).length mS) (o.refs m):=aK.e4 (enc:=o.Ref.enc) (λ_=>rfl) fp;replace ao:=aq.obj ao;replace bI:=aq.obj bI;have bo:=aO.trans aq;clear fp;refine I ?_;apply I_<;>intro g1
 .refine I ?_;intro bg e3 vl;refine I ?_;exact⟨.inl ⟨λaB=>by have:=aB.2;omega,aJ⟩,e3.ext bo Aw⟩
 obtain⟨r,rfl⟩:=Nb (show 0<=ref by omega);refine I ?_;apply I_<;>intro g2
 .refine I ?_;intro bg e3 vl;refine I ?_;exact⟨.inl ⟨λaB=>by have:=aB.2;omega,aJ⟩,e3.ext bo Aw⟩
 have aB:o.Told m r:=⟨hk,Aw,Aw⟩;obtain⟨q,p,k,br⟩:=mn aB;have av:=br.at_.U;have au:=br.at_.au;have hz:=br.at_.hk;have fm:(o.refs m)[r].inst=(q:Int):=br.at_.nk;have ke:(o.refs m)[r].cmd=(k:Int):=br.at_.pU;have kc:=br.at_.ip;obtain⟨iN,rfl⟩:=qZ.addr;refine I ?_;intro bg ar;replace ao:=ar.obj ao;replace bI:=ar.obj bI;have sP:=qZ.ext Flat.ext ar;have bC:=bo.trans ar;refine I ?_;refine J_ (He _ m bg (b2.ext bC) aG (aS.ext bC)) ?_;rintro _ bp ⟨⟨xs,rfl,AQ⟩,aC⟩;rw[zw hk] at AQ;have AP:=AQ;replace AQ:=AQ.here;obtain⟨k1,d0,ir,d1,jn,d2,nt,d3,mG,d4,rfl,_⟩:=AQ.form;have b5:=bC.trans aC;refine⟨aC,?_⟩;refine I ?_;refine J_ (xA _ m bp (b2.ext b5) aG) ?_;rintro bK bH ⟨dP,bc⟩;obtain⟨ca,ci,rfl,_⟩:=dP.form;have cL:=b5.trans bc;refine⟨aC.trans bc,?_⟩;refine I ?_;intro cB j6 mv bt cF;have eK:=cL.trans bt;have Dx:ix cB (.slice ca (o.insts m).length ci) (o.insts m):=aK.e4 (enc:=cP.enc) (λ_=>rfl) (dP.ext bt);have aae:=AQ.ext (bc.trans bt);rw[fm] at cF;have QI:p9 cB j6 m q:=⟨_,_,_,cF,b2.ext eK,aae,Dx⟩;have Qk:=(aC.trans bc).trans bt;have aaj:=sP.ext Flat.ext Qk;replace ao:=Qk.obj ao;replace bI:=Qk.obj bI;have Ic:=eK.size;obtain⟨gu,rfl⟩:=Dx.addr;obtain⟨a3,rfl⟩:=ab.addr;obtain⟨kC,bY,dQ,c5,eU,eA⟩:=ab.at p au;obtain⟨vT,u4,rfl,vP⟩:=eA.form;obtain⟨ac,rfl⟩:=eA.addr;obtain⟨eI,eY,va,e0,ga,e2⟩:=eA.at k hz;replace c5:=c5.ext eK;replace e0:=e0.ext eK;obtain⟨fE,fN,rfl,_⟩:=ga.form;obtain⟨oC,n2,rfl,_⟩:=e2.form;unfold dv.enc at c5;unfold dG.enc at e0;clear AQ qZ sP aae;refine I ?_;intro cD b0;replace ao:=b0.obj ao;replace bI:=b0.obj bI;replace cF:=b0.obj cF;replace aaj:=aaj.ext Flat.ext b0;replace Dx:=Dx.ext Flat.ext b0;replace c5:=c5.ext b0;replace e0:=e0.ext b0;refine I ?_;refine K_ p (by rw[kc]) au ?_;refine I ?_;refine K_ k (by rw[ke]) hz ?_;refine I ?_;intro et pR gZ;refine I ?_;have fO:Ext w cD:=eK.trans b0;have qB:=aq.size;have pV:=ar.size;have ath:=aC.size;have ayl:=bc.size;have j8:Ext w et:=pR.ext fO Aw;have alo:=((AP.ext ((bc.trans bt).trans b0) ath).wr pR Aw).here;have ang:ix et (.slice (some gu) (o.insts m).length ci) (o.insts m):=aK.e4 (enc:=cP.enc) (λ_=>rfl) (aK.wr pR Aw ((dP.ext bt).ext b0));have ha:=sJ au hz;refine⟨.inr ⟨j6,q,p,k,.slice fE (bM m p k).guard.length fN,.slice oC (bM m p k).bL.length n2,br,by rw[ha];rfl,⟨_,_,_,pR.obj cF Aw,b2.ext j8,alo,ang⟩,?_,?_⟩,j8⟩
 .rw[ha];exact ga.ext j8
 .rw[ha];exact e2.ext j8
end Go.Proofs.R
namespace Go.Proofs
open Go.Shelf
def Tryz.acP:Go.Shelf.Ren:=⟨λ| 7=>192 | 10=>243 | n=>n,λ| 23=>190 | 26=>3 | 3=>3 | 28=>117 | 0=>0 | 27=>116 | 33=>129 | 4=>4 | n=>n,λ| n=>n⟩
def Tryz.SY:Go.Proofs.SlLaysZI.n7 Tryz.prog Tryz.acP:={
 mixed:=Cx
 f7:=⟨Tryz.f192.name,BS,Tryz.func192.trans (congrArg some Cx)⟩
 f10:=⟨Tryz.f243.name,BS,Tryz.func243.trans (congrArg some Cx)⟩
 t0:=Tryz.underlying0
 a0:=Tryz.isAgg0
 z0:=Tryz.sizeOf0
 v0:=Tryz.zeroValue0
 t4:=Tryz.underlying4
 a4:=Tryz.isAgg4
 z4:=Tryz.sizeOf4
 v4:=Tryz.zeroValue4
 t23:=Tryz.underlying190
 a23:=Tryz.isAgg190
 z23:=Tryz.sizeOf190
 v23:=Tryz.zeroValue190
 t26:=Tryz.underlying3
 a26:=Tryz.isAgg3
 z26:=Tryz.sizeOf3
 v26:=Tryz.zeroValue3
 t27:=Tryz.underlying116
 a27:=Tryz.isAgg116
 z27:=Tryz.sizeOf116
 v27:=Tryz.zeroValue116
 t28:=Tryz.underlying117
 a28:=Tryz.isAgg117
 z28:=Tryz.sizeOf117
 v28:=Tryz.zeroValue117
 t33:=Tryz.underlying129
 a33:=Tryz.isAgg129
 z33:=Tryz.sizeOf129
 v33:=Tryz.zeroValue129 }
def Tryz.afl:Go.Shelf.Ren:=⟨λ| 6=>191 | 8=>241 | 9=>242 | 11=>276 | 13=>245 | 12=>277 | 23=>286 | 24=>287 | 14=>297 | 15=>298 | 16=>299 | 17=>300 | 18=>301 | 19=>302 | 20=>303 | 21=>304 | 22=>305 | 25=>312 | 26=>307 | 27=>308 | 28=>313 | 29=>314 | 30=>315 | 31=>317 | n=>n,λ| 26=>3 | 28=>117 | 24=>29 | 0=>0 | 3=>3 | 37=>169 | 48=>337 | 50=>52 | 4=>4 | 40=>331 | 39=>330 | 45=>249 | 5=>5 | 9=>9 | 51=>346 | 55=>350 | 57=>355 | 58=>89 | 33=>129 | n=>n,λ| n=>n⟩
def Tryz.atT:Go.Proofs.SlLaysZI.n6 Tryz.prog Tryz.afl:={
 mixed:=Cx
 f6:=⟨Tryz.f191.name,BS,Tryz.func191.trans (congrArg some Cx)⟩
 f8:=⟨Tryz.f241.name,BS,Tryz.func241.trans (congrArg some Cx)⟩
 f11:=⟨Tryz.f276.name,BS,Tryz.func276.trans (congrArg some Cx)⟩
 t0:=Tryz.underlying0
 a0:=Tryz.isAgg0
 z0:=Tryz.sizeOf0
 v0:=Tryz.zeroValue0
 t24:=Tryz.underlying29
 a24:=Tryz.isAgg29
 z24:=Tryz.sizeOf29
 v24:=Tryz.zeroValue29
 t26:=Tryz.underlying3
 a26:=Tryz.isAgg3
 z26:=Tryz.sizeOf3
 v26:=Tryz.zeroValue3
 t28:=Tryz.underlying117
 a28:=Tryz.isAgg117
 z28:=Tryz.sizeOf117
 v28:=Tryz.zeroValue117
 i26:=by kernel_rfl }
def Tryz.atM:Go.Shelf.Ren:=⟨λ| 5=>242 | 8=>245 | 7=>277 | 19=>286 | 20=>287 | 10=>297 | 11=>298 | 12=>299 | 13=>300 | 14=>301 | 15=>302 | 16=>303 | 17=>304 | 18=>305 | 30=>312 | 31=>307 | 32=>308 | 33=>313 | 34=>314 | 35=>315 | 40=>317 | n=>n,λ| 23=>29 | 25=>3 | 3=>3 | 32=>169 | 22=>29 | 0=>0 | 44=>337 | 46=>52 | 4=>4 | 36=>331 | 35=>330 | 41=>249 | 5=>5 | 9=>9 | 53=>346 | 57=>350 | 63=>355 | 64=>89 | n=>n,λ| n=>n⟩
def Tryz.Um:Go.Proofs.SlLaysM.n5 Tryz.prog Tryz.atM:={
 mixed:=Cx
 f5:=⟨Tryz.f242.name,BS,Tryz.func242.trans (congrArg some Cx)⟩
 f7:=⟨Tryz.f277.name,BS,Tryz.func277.trans (congrArg some Cx)⟩
 f8:=Tryz.func245.trans (congrArg some Cx)
 f10:=⟨Tryz.f297.name,BS,Tryz.func297.trans (congrArg some Cx)⟩
 f11:=⟨Tryz.f298.name,BS,Tryz.func298.trans (congrArg some Cx)⟩
 f12:=⟨Tryz.f299.name,BS,Tryz.func299.trans (congrArg some Cx)⟩
 f13:=⟨Tryz.f300.name,BS,Tryz.func300.trans (congrArg some Cx)⟩
 f14:=⟨Tryz.f301.name,BS,Tryz.func301.trans (congrArg some Cx)⟩
 f15:=⟨Tryz.f302.name,BS,Tryz.func302.trans (congrArg some Cx)⟩
 f16:=⟨Tryz.f303.name,BS,Tryz.func303.trans (congrArg some Cx)⟩
 f17:=⟨Tryz.f304.name,BS,Tryz.func304.trans (congrArg some Cx)⟩
 f18:=⟨Tryz.f305.name,BS,Tryz.func305.trans (congrArg some Cx)⟩
 f19:=Tryz.func286.trans (congrArg some Cx)
 f20:=Tryz.func287.trans (congrArg some Cx)
 f30:=⟨Tryz.f312.name,BS,Tryz.func312.trans (congrArg some Cx)⟩
 f31:=Tryz.func307.trans (congrArg some Cx)
 f32:=Tryz.func308.trans (congrArg some Cx)
 f33:=⟨Tryz.f313.name,BS,Tryz.func313.trans (congrArg some Cx)⟩
 f34:=⟨Tryz.f314.name,BS,Tryz.func314.trans (congrArg some Cx)⟩
 f35:=⟨Tryz.f315.name,BS,Tryz.func315.trans (congrArg some Cx)⟩
 f40:=⟨Tryz.f317.name,BS,Tryz.func317.trans (congrArg some Cx)⟩
 t0:=Tryz.underlying0
 a0:=Tryz.isAgg0
 z0:=Tryz.sizeOf0
 v0:=Tryz.zeroValue0
 t3:=Tryz.underlying3
 a3:=Tryz.isAgg3
 z3:=Tryz.sizeOf3
 v3:=Tryz.zeroValue3
 t4:=Tryz.underlying4
 a4:=Tryz.isAgg4
 z4:=Tryz.sizeOf4
 v4:=Tryz.zeroValue4
 t5:=Tryz.underlying5
 a5:=Tryz.isAgg5
 z5:=Tryz.sizeOf5
 v5:=Tryz.zeroValue5
 t9:=Tryz.underlying9
 a9:=Tryz.isAgg9
 z9:=Tryz.sizeOf9
 v9:=Tryz.zeroValue9
 t22:=Tryz.underlying29
 a22:=Tryz.isAgg29
 z22:=Tryz.sizeOf29
 v22:=Tryz.zeroValue29
 t23:=Tryz.underlying29
 a23:=Tryz.isAgg29
 z23:=Tryz.sizeOf29
 v23:=Tryz.zeroValue29
 t25:=Tryz.underlying3
 a25:=Tryz.isAgg3
 z25:=Tryz.sizeOf3
 v25:=Tryz.zeroValue3
 t32:=Tryz.underlying169
 a32:=Tryz.isAgg169
 z32:=Tryz.sizeOf169
 v32:=Tryz.zeroValue169
 t35:=Tryz.underlying330
 a35:=Tryz.isAgg330
 z35:=Tryz.sizeOf330
 v35:=Tryz.zeroValue330
 t36:=Tryz.underlying331
 a36:=Tryz.isAgg331
 z36:=Tryz.sizeOf331
 v36:=Tryz.zeroValue331
 t41:=Tryz.underlying249
 a41:=Tryz.isAgg249
 z41:=Tryz.sizeOf249
 v41:=Tryz.zeroValue249
 t44:=Tryz.underlying337
 a44:=Tryz.isAgg337
 z44:=Tryz.sizeOf337
 v44:=Tryz.zeroValue337
 t46:=Tryz.underlying52
 a46:=Tryz.isAgg52
 z46:=Tryz.sizeOf52
 v46:=Tryz.zeroValue52
 t53:=Tryz.underlying346
 a53:=Tryz.isAgg346
 z53:=Tryz.sizeOf346
 v53:=Tryz.zeroValue346
 t57:=Tryz.underlying350
 a57:=Tryz.isAgg350
 z57:=Tryz.sizeOf350
 v57:=Tryz.zeroValue350
 t63:=Tryz.underlying355
 a63:=Tryz.isAgg355
 z63:=Tryz.sizeOf355
 v63:=Tryz.zeroValue355
 t64:=Tryz.underlying89
 a64:=Tryz.isAgg89
 z64:=Tryz.sizeOf89
 v64:=Tryz.zeroValue89 }
end Go.Proofs
namespace Go.Proofs
open Go Go.RowKit Go.Maps Go.Sort Go.Shelf
def Tryz.atV(m:Nat):AnyZI.SortsIn Tryz.prog Tryz.afl Fence.wide m :=
 ⟨λcy off cap cj W hH hblk dt=>callsIn_wide.2 (AnyM.slices_Sort_int Tryz.Um cy off cap cj W hH hblk dt),λp cap W=>callsIn_wide.2 (AnyM.slices_Sort_int_none Tryz.Um p cap W)⟩
end Go.Proofs
namespace Go.Proofs.R
open Go Go.RowKit Go.Maps Go.Sort Go.Shelf ba
def ao5(Ho:H_ Nat)(w:A_):Ei F.ay #[.map Ho] w λv w'=>v = .func (.func F.ax) #[] #[.pointer (some ⟨w.heap.size,0,none⟩)]/\w'=w.alloc (.cells #[.map Ho] T.s):=by
 have h:CallsIn Fence.wide 5 Tryz.prog F.ay #[.map Ho] w λe w'=>e = .returned (.func (.func F.ax) #[] #[.pointer (some ⟨w.heap.size,0,none⟩)])/\w'=w.alloc (.cells #[.map Ho] T.s):=AnyZI.keys_in Tryz.SY Fence.wide 5 trivial rfl Ho w;exact Calls.mono (callsIn_wide.1 h) λe w' ⟨h1,J⟩=>⟨_,h1,rfl,J⟩
theorem ado:∀l:C_ Int,l.map encZ=l.flatMap bX
 | []=>rfl
 | x :: l=>by rw[AG1,AI1,ado l];rfl
def atU(b:Nat)(L:C_ Int)(w:A_)(h:fB w b L)(ck:L.length<=1000000) :
  Ei F.U #[.func (.func F.ax) #[] #[.pointer (some ⟨w.heap.size,0,none⟩)]] (w.alloc (.cells #[.map (some b)] T.s)) λv w'=>(∃r,aK bX T.a 1 (w.alloc (.cells #[.map (some b)] T.s)).heap.size w' v r/\o.pB L r)/\Ext (w.alloc (.cells #[.map (some b)] T.s)) w':=by
 obtain⟨uP,gz,dt,Sd⟩:=h.own (P:=Tryz.prog) (k:=T.a) Cx (by unfold maxLen;omega);have Kf:=gz.lt;have uk:SeqGives Fence.wide 2 Tryz.prog F.ax #[.pointer (some ⟨w.heap.size,0,none⟩)] encZ (λcj=>cj.Perm (intKeys uP)) (Maps.size uP) (w.alloc (.cells #[.map (some b)] T.s)) :=
  AnyZI.keys_gives (ρ:=Tryz.acP) { Tryz.SY with } Fence.wide _ trivial rfl Aw w.heap.size b _ uP _ CC CC (by
   obtain⟨es,clock,ak,ago,aj,gv⟩:=gz;exact⟨es,clock,(Below.heap_alloc _ _ b Kf).trans ak,ago,aj,gv⟩)
 have Ys:=AnyZI.sorted_in Tryz.atT Fence.wide 5 trivial trivial trivial trivial rfl Aw (Tryz.atV _) (Tryz.Um.f5.enters rfl) F.ax #[.pointer (some ⟨w.heap.size,0,none⟩)] trivial (Tryz.SY.f10.enters rfl) _ _ (by unfold maxLen;omega) Aw _ uk;change CallsIn _ _ Tryz.prog F.U _ _ _ at Ys;refine Calls.mono (callsIn_wide.1 Ys) ?_;rintro e w' ⟨v,cj,rfl,b7,kV,_,ak⟩;obtain⟨h1,J⟩:=Sd cj b7;refine⟨v,rfl,⟨cj.mergeSort λx y=>decide (x<=y),?_,atS h1,λx=>?_⟩,ak⟩
 .unfold aK;rw[<-ado,List.length_mergeSort];exact kV
 .rw[(List.mergeSort_perm cj _).mem_iff];exact J x
def aeD(b:Nat)(L:C_ Int)(w:A_)(h:fB w b L)(ck:L.length<=1000000) :
  Ei F.d6 #[.map (some b)] w λv w'=>(∃r,aK bX T.a 1 w.heap.size w' v r/\o.pB L r)/\Ext w w':=by
 have he:Ext w (w.alloc (.cells #[.map (some b)] T.s)):=(Ext.refl w).alloc _;have hk:=ao5 (some b) w;have aj:=atU b L w h ck;generalize w.alloc (.cells #[.map (some b)] T.s)=w1 at he hk aj;refine bk E.d6 ?_;refine I ?_;refine J_ hk ?_;rintro _ _ ⟨rfl,rfl⟩;refine I ?_;refine J_ aj ?_;rintro v az ⟨⟨r,aS,aT⟩,ai⟩;refine I ?_;exact⟨⟨r,aK.low he.size aS,aT⟩,he.trans ai⟩
end Go.Proofs.R
namespace Go.Proofs.R
open Go Go.RowKit ba o
def WN(cs:C_ B_)(m:o.Model)(ref:Int)(w:A_)(h:dh w cs m)(aG:m.cr)(aS:gQ w) :
  Ei F.db #[.agg cs.toArray,.I ref] w λv w'=>(∃va iS a b,v = .tuple #[va,iS]/\aK bX T.a 1 w.heap.size w' va a/\aK bX T.a 1 w.heap.size w' iS b/\kM m ref a b)/\Ext w w':=by
 have b2:=h;obtain⟨bZ,bz,bN,c1,bT,c2,bW,bw,b1,bD,rfl,_⟩:=h.form;refine bk E.db ?_;refine I ?_;intro w1 bP c8 af ao;refine I ?_;refine J_ (aqQ _ m ref w1 (b2.ext af) aG (aS.ext af)) ?_;rintro _ az ⟨hO,ai⟩;replace ao:=ai.obj ao;have aD:=af.trans ai;rcases hO with ⟨Bg,rfl⟩ | ⟨b,q,p,k,eY,va,br,rfl,nF,ga,e2⟩
 .unfold I7;refine I ?_;intro wn dm e8 fc eI;refine I ?_;intro aM fF bS;refine I ?_;exact⟨⟨_,_,[],[],rfl,aK.nil _ _ _ _ _,aK.nil _ _ _ _ _,kM.nil Bg⟩,aD.trans (fF.ext fc e8)⟩
 obtain⟨fE,fN,rfl,_⟩:=ga.form;obtain⟨oC,n2,rfl,_⟩:=e2.form;have aL:=gU br.ok;have aP:=br.inst;have jf:=br.cin;have qk:=jf.gj;obtain⟨c,tW⟩:∃c,c=bM m p k:=⟨_,rfl⟩;rw[<-tW] at jf qk ga e2 ⊢;unfold dG.enc;refine I ?_;intro wn ia hi fc eI;refine I ?_;intro aM fF b3;have ag:Ext az aM:=fF.ext fc hi;clear fc eI fF;have aO:=aD.trans ag;have F2:=nF.ext ag;have anO:=ga.ext ag;have RJ:=e2.ext ag;have vv:=G4 aL aP.av;clear ao nF ga e2;refine I ?_;refine _e λaR qQ QN aq Gj=>?_;refine I ?_;refine _e λbg dp awx ar vo=>?_;have uh:=(fB.empty Gj).ext ar;have e3:=fB.empty vo;have cv:qQ≠dp:=by have:=cq Gj;omega
 have hq:=aq.trans ar;have y5:=hq.obj b3;have al4:aM.heap.size<=dp:=by have:=aq.size;omega
 clear Gj vo;refine I ?_;refine J_ (Gr b q m bg (F2.ext hq) aP.av) ?_;rintro _ bp ⟨rfl,aC⟩;refine I ?_;refine J_ (uF qQ [] (cV m q) 1 _ _ bp (uh.ext aC) rfl rfl Aw) ?_;rintro _ bH ⟨KK,hl⟩;have dz:=(e3.ext aC).mod hl (Ne.symm cv);have gd:=hl.ext (hq.trans aC) λk hk e=>Aw
 refine I ?_;refine J_ (Gr b q m bH (F2.ext gd) aP.av) ?_;rintro _ cB ⟨rfl,bt⟩;refine I ?_;refine J_ (uF dp [] (cV m q) 1 _ _ cB (dz.ext bt) rfl rfl Aw) ?_;rintro _ cD ⟨gA,mz⟩;have abW:=(KK.ext bt).mod mz cv;have fA:=mz.ext (gd.trans bt) λk hk e=>Aw
 have ams:=fA.obj b3;refine I ?_;refine J_ (FG c.guard _ b qQ q p _ m aM cD F2 fA QN abW aL aP anO jf.guard) ?_;rintro _ et ⟨RZ,pN⟩;have pR:=gA.mod pN (Ne.symm cv);have p3:=pN.ext fA λk hk e=>Aw
 have amr:=p3.obj b3;rw[AF8] at pR RZ;have ZW:fB et qQ (qv m q c 0):=by
  unfold qv vj;rw[AH8,AI4,S5];exact RZ
 have ZX:fB et dp (kq m q c 0):=by
  unfold kq;rw[AH8,AI4,S5];exact pR
 clear uh e3 KK dz abW gA RZ pR y5 ams hl mz pN aC bt hq gd fA;refine I ?_;refine L_ 40 c.bL.length [6,7,9,10,38,39] (λ_:Unit=>[]) () (λn _ W=>Ext aM W/\fB W qQ (qv m q c n)/\fB W dp (kq m q c n)) a6 a6 ⟨p3,ZW,ZX⟩ ?_;clear amr ZW ZX p3;rintro n _ S ft aw ⟨j1,R0,hZ⟩;have anJ:=RJ.ext j1;refine I ?_;apply I_<;>intro g1
 .have hn:n<c.bL.length:=Aw
  obtain⟨oS,rfl⟩:=RJ.addr;obtain⟨bK,bY,nG,ot,qo⟩:=RJ.at n hn;have qh:=jf.act n hn;obtain⟨ca,ci,rfl,_⟩:=ot.form;obtain⟨ei,eZ,rfl,_⟩:=qo.form;replace nG:=nG.ext j1;clear anJ;refine I ?_;intro hf Cy tT dH ic;have mI:=j1.trans dH;have Bl:=R0.ext dH;have l5:=hZ.ext dH;have kj:¬Cy=qQ:=λe=>by subst e;obtain⟨_,_,h,_⟩:=Bl.ex;rw[ic] at h;cases h
  have jD:¬Cy=dp:=λe=>by subst e;obtain⟨_,_,h,_⟩:=l5.ex;rw[ic] at h;cases h
  clear nG R0 hZ;refine I ?_;refine J_ (asv c.bL[n] _ _ b qQ q p _ m aM hf F2 mI QN Bl aL aP ot qo qh) ?_;rintro _ jX ⟨aob,uf⟩;have kD:=l5.mod uf (Ne.symm cv);have oI:=uf.ext mI λk hk e=>Aw
  replace ic:=uf.obj kj ic;clear Bl l5;refine I ?_;refine J_ (avf c.bL[n] _ _ b dp q p _ m aM jX F2 oI al4 kD aL aP ot qh) ?_;rintro _ sm ⟨zn,KC⟩;have KJ:=aob.mod KC cv;have zW:=KC.ext oI λk hk e=>Aw
  refine I ?_;exact⟨hn,aJ,(),trivial,zW,by rw[aes hn];exact KJ,by rw[UP hn];exact zn⟩
 .have vC:c.bL.length=n:=Aw
  have hM:=(aet aL aP jf n Aw).len;have Sw:=(H6 aL aP jf n Aw).len;refine I ?_;refine J_ (aeD qQ _ ft R0 Aw) ?_;rintro u hf ⟨⟨TT,RP,R3⟩,dH⟩;refine I ?_;refine J_ (aeD dp _ hf (hZ.ext dH) Aw) ?_;rintro wb jX ⟨⟨HF,RQ,R4⟩,fW⟩;refine I ?_;have UZ:=(aO.trans j1).size;have z12:=dH.size;refine⟨⟨_,_,TT,HF,rfl,aK.ext fW (aK.low UZ RP),aK.low (Ns UZ z12) RQ,?_⟩,((aO.trans j1).trans dH).trans fW⟩;subst tW;refine kM.of br ?_ ?_
  .rw[vC];exact R3
  .rw[vC];exact R4
def agx(cs:C_ B_)(m:o.Model)(ref:Int)(w:A_)(h:dh w cs m)(aG:m.cr)(aS:gQ w) :
  Ei F.db #[.agg cs.toArray,.I ref] w λv w'=>(∃va iS a b,v = .tuple #[va,iS]/\c3 w' va a/\c3 w' iS b/\kM m ref a b)/\Ext w w' :=
 (WN cs m ref w h aG aS).mono λv w' ⟨⟨va,iS,a,b,aH,aY,ak,bA⟩,he⟩=>⟨⟨va,iS,a,b,aH,aK.e4 (enc:=bX) (λ_=>rfl) aY,aK.e4 (enc:=bX) (λ_=>rfl) ak,bA⟩,he⟩
end Go.Proofs.R
namespace o
open Go
theorem apQ{v:Var}{s:C_ Scalar}(h:Cs v s)(ad:v.over≠0):∃(j:Nat) (ay:j<s.length),v.over=(j:Int)+1/\cells v s=s[j].size/\1<=s[j].size/\s[j].size<=4:=by
 have h1:=h.ei.resolve_left ad;unfold cells;rw[if_neg ad];unfold size at h1 ⊢;cases ah:s[(v.over - 1).toNat]? with
 | none=>rw[ah] at h1;exact absurd rfl h1
 | some x =>
  rw[ah] at h1;obtain⟨ay,rfl⟩:=List.getElem?_eq_some_iff.1 ah;simp only at h1 ⊢;split at h1
  .rename_i J;refine⟨(v.over - 1).toNat,ay,Aw,?_,J.2.1,J.2.2⟩;rw[if_pos J]
  .exact absurd rfl h1
end o
namespace Go.Proofs.R
open Go Go.RowKit ba o
def T9(a n:Nat)(x y:Int)(w:A_)(ah:x=a)(bF:y=n)(hm:a+n<=1000000) :
  Ei F.ME #[.I x,.I y] w λu w'=>aK bX T.a 1 w.heap.size w' u (gD a n)/\Ext w w':=by
 subst ah bF;refine bk E.ME ?_;refine I ?_;refine L_ 6 n [0,1] (λv:fk=>[(5,.slice v.1 v.2.1 v.2.2)]) (none,0,0) (λk v W=>Ext w W/\aK bX T.a 1 w.heap.size W (.slice v.1 v.2.1 v.2.2) (gD a k)) a6 a6 ⟨Ext.refl _,aK.nil _ _ _ _ _⟩ ?_;rintro k v S w1 hk ⟨af,kU⟩;refine I ?_;apply I_<;>intro g1
 .refine I ?_;intro az bP c8 ai ao;refine I ?_;have fT:=af.size;refine S_ (y:=(a:Int)+(k:Int)) (kU.ext ai) ao rfl (λ_=>rfl) ht (by rw[Nk];omega) (by rw[Nk];unfold maxLen;omega) (by have:=ai.size;omega) λaN c d aM ez Gu=>?_;refine I ?_;refine⟨Aw,aJ,(aN,c,d),⟨rfl,trivial⟩,(af.trans ai).grown Gu λi U=>(kU.lt i U).1,?_⟩;rw[T6,Int.natCast_add];exact ez
 .have gO:k=n:=Aw
  subst gO;refine I ?_;exact⟨kU,af⟩
def asX(cs:C_ B_)(m:o.Model)(i:Nat)(w:A_)(h:dh w cs m)(aL:eE m)(U:i<m.vars.length) :
  Ei F.MD #[.agg cs.toArray,.I i] w λu w'=>u = .I (lI m i)/\Ext w w':=by
 obtain⟨bZ,bz,bN,c1,bT,c2,bW,bw,b1,bD,rfl,ad,h1,J,ab,aF,eB,dD,dO,dU,eg⟩:=h.form;have gj:=aL.gj;have c9:=aL.var _ (E2 U);have vz:=rp U;obtain⟨db,rfl⟩:=h1.addr;have dK:=(h1.at i U).cells;refine bk E.MD ?_;refine I ?_;intro w1 bP c8 af ao;replace dK:=dK.ext af;refine I ?_;apply I_<;>intro g1
 .have:o.cells m.vars[i] m.scalars=1:=by unfold o.cells;rw[if_pos g1]
  refine I ?_;exact⟨by rw[vz,this];rfl,af⟩
 .obtain⟨j,ay,bG,aD,aO,bo⟩:=apQ c9 g1;obtain⟨a0,rfl⟩:=ad.addr;have gx:=((ad.at j ay).cells).ext af;refine I ?_;refine K_ j Aw ay ?_;refine I ?_;intro az ai;refine I ?_;exact⟨by rw[vz,aD,Int.toNat_of_nonneg Aw],af.trans ai⟩
theorem T4(cs ys:C_ B_)(m:o.Model)(q i:Nat)(own:Bool)(w:A_)(h:dh w cs m)(aG:m.cr)(aL:eE m)(ck:jq w ys (o.layout m))(av:q<(o.insts m).length)(U:i<m.vars.length)(aS:own=true->1<=(o.insts m)[q].elem) :
  Ei F.MC #[.agg cs.toArray,.agg ys.toArray,.I q,.I i,.bool own] w λu w'=>aK bX T.a 1 w.heap.size w' u (mC m q i own)/\Ext w w':=by
 have b2:=h;obtain⟨bZ,bz,bN,c1,bT,c2,bW,bw,b1,bD,rfl,ad,h1,J,ab,aF,eB,dD,dO,dU,eg⟩:=h.form;obtain⟨k1,d0,ir,d1,jn,d2,nt,d3,mG,d4,rfl,dF,cR,cA,eN,fs⟩:=ck.form;obtain⟨dP,gn⟩:=rB U;have s3:=Et aL U;have tY:=(rl _ (E2 av)).elem;have fc:=Fx av;obtain⟨a0,rfl⟩:=dF.addr;refine bk E.MC ?_;refine I ?_;intro w1 dJ jc af bI;refine I ?_;intro az dm e8 ai bS;replace bI:=ai.obj bI;have aD:=af.trans ai;have ayd:=dF.ext Flat.ext aD;cases own with
 | true =>
  have nc:=aS rfl;refine I ?_;intro aM ag;have aO:=aD.trans ag;refine I ?_;refine J_ (tf _ m aM (b2.ext aO) aG) ?_;rintro bK aR ⟨ab5,aq⟩;obtain⟨ca,ci,rfl,_⟩:=ab5.form;have eh:ix aR _ _:=aK.e4 (enc:=cP.enc) (λ_=>rfl) ab5;obtain⟨gu,rfl⟩:=eh.addr;refine⟨aq,?_⟩;refine I ?_;refine⟨aq,?_⟩;refine I ?_;intro bg avJ Di ar vl;refine I ?_;have bC:=(aO.trans aq).trans ar;refine⟨?_,bC⟩;unfold mC;rw[if_pos rfl,mb];exact aK.sF _ vl (by have:=aO.size;have:=aq.size;omega) (by rw[gn];simp[bX];omega) (λ_=>rfl) rfl (by show 1<=maxLen;unfold maxLen;decide)
 | false =>
  refine I ?_;intro aM ag;have aO:=aD.trans ag;refine I ?_;refine J_ (asX _ m i aM (b2.ext aO) aL U) ?_;rintro _ aR ⟨rfl,aq⟩;refine⟨aq,?_⟩;refine I ?_;refine J_ (T9 (gb m i) (lI m i) _ _ aR (by rw[gn]) rfl Aw) ?_;rintro u bg ⟨dC,ar⟩;refine I ?_;exact⟨aK.low (aO.trans aq).size dC,(aO.trans aq).trans ar⟩
theorem aeO(v:B_)(l:C_ Int)(w:A_)(h:c3 w v l)(ad:∀x∈l,0<=x/\x<80)(aE:l.length<=1000000) :
  Ei F.MF #[v] w λu w'=>(∃r,aK bX T.a 1 w.heap.size w' u r/\pB l r)/\Ext w w':=by
 obtain⟨ei,eZ,rfl,fa⟩:=h.form;refine bk E.MF ?_;refine I ?_;refine _L [0] (λx:Bool×fk×Int=>[(3,.slice x.2.1.1 x.2.1.2.1 x.2.1.2.2),(4,.I x.2.2),(5,.bool x.1)]) (true,(none,0,0),-1)
  (λx W=>Ext w W/\∃out,aK bX T.a 1 w.heap.size W (.slice x.2.1.1 x.2.1.2.1 x.2.1.2.2) out/\(x.1=true->uZ l x.2.2 out)/\(x.1=false->pB l out)/\x.2.2<80) (λx=>if x.1=true then (81 - x.2.2).toNat else 0) a6 ⟨Ext.refl _,[],aK.nil _ _ _ _ _,λ_=>uZ.start λx ah=>(ad x ah).1,λh=>(by cases h),BS⟩ ?_
 rintro⟨more,nr,last⟩ S w1 ⟨af,out,kU,gS,gv,RC⟩;cases more with
 | false =>
  refine I ?_;exact⟨⟨out,kU,gv rfl⟩,af⟩
 | true =>
  have gS:uZ l last out:=gS rfl;have mZ:=gS.last;have RC:last<80:=RC;have anV:out.length<=80:=by
   have:=aeC out 0 80 gS.lM λx ah=>ad x ((gS.mem x).1 ah).1
   omega
  have h1:=h.ext Flat.ext af;refine I ?_;refine L_ 7 l.length [0,3,4,5] (λn:Int=>[(6,.I n)]) (-1) (λk n W=>W=w1/\sw (l.take k) last n) a6 a6 ⟨rfl,sw.nil _⟩ ?_;rintro k n aZ az hk ⟨rfl,hm⟩;refine I ?_;apply I_<;>intro g1
  .have b8:k<l.length:=Aw
   obtain⟨a,rfl⟩:=h.addr;have zo:=ad l[k] (E2 b8);have qe:=MR b8;refine I ?_;apply I_<;>intro g2
   .refine I ?_;apply I_<;>intro g3
    .refine I ?_;exact⟨b8,aJ,l[k],⟨rfl,trivial⟩,aJ,by rw[qe];exact hm.take zo.1 ⟨Aw,.inl g3⟩⟩
    .refine I ?_;apply I_<;>intro g4
     .refine I ?_;exact⟨b8,aJ,l[k],⟨rfl,trivial⟩,aJ,by rw[qe];exact hm.take zo.1 ⟨Aw,.inr g4⟩⟩
     .refine I ?_;exact⟨b8,aJ,n,⟨rfl,trivial⟩,aJ,by rw[qe];exact hm.skip Aw⟩
   .refine I ?_;exact⟨b8,aJ,n,⟨rfl,trivial⟩,aJ,by rw[qe];exact hm.skip Aw⟩
  .have gO:l.length<=k:=Aw
   rw[MT gO] at hm;refine I ?_;apply I_<;>intro g2
   .obtain⟨alN,cu,o8⟩:=gS.step hm Aw;have aw:=ad n o8;refine I ?_;intro aM bV eX ag a8;refine I ?_;have fT:=af.size;refine S_ (y:=n) (kU.ext ag) a8 rfl (λ_=>rfl) ht Aw (by unfold maxLen;omega) (by have:=ag.size;omega) λaN c d aR dj mY=>?_;refine I ?_;exact⟨(true,(aN,c,d),n),⟨rfl,rfl,by simp[g2],trivial⟩,⟨(af.trans ag).grown mY λi U=>(kU.lt i U).1,out++[n],dj,λ_=>alN,λh=>(by cases h),by simp only;omega⟩,by simp only[if_true];omega⟩
   .have bA:=gS.done hm Aw;refine I ?_;exact⟨(false,nr,last),⟨rfl,rfl,by simp[g2],trivial⟩,⟨af,out,kU,λh=>(by cases h),λ_=>bA,RC⟩,by simp only[if_true,Bool.false_eq_true,if_false];omega⟩
end Go.Proofs.R
namespace o
open Go
def afa{m:Model}{q p:Nat}(aP:fL m q p){x:Node}(ah:Ci (inner (m.procs[p]'(aP.au)) (eC m)) x)(h:x.op=5):1<=((insts m)[q]'(aP.av)).elem:=by
 have a7:=ah.self h
 have:(inner (m.procs[p]'(aP.au)) (eC m)).self=(m.procs[p]'(aP.au)).over:=rfl
 exact aP.elem Aw
end o
namespace Go.Proofs.R
open Go Go.RowKit ba o
def Ng(cs ys:C_ B_)(v:B_)(e:C_ o.Node)(m:o.Model)(q p:Nat)(w:A_)(h:dh w cs m)(aG:m.cr)(aL:eE m)(ck:jq w ys (o.layout m))(aP:fL m q p)
  (aw:eW w v e)(ah:tp (o.inner (m.procs[p]'(aP.au)) (eC m)) e) :
  Ei F.MA #[.agg cs.toArray,.agg ys.toArray,.I q,v] w λu w'=>aK bX T.a 1 w.heap.size w' u (kb m q e e.length)/\Ext w w':=by
 have b2:=h;have pJ:=ck;obtain⟨bZ,bz,bN,c1,bT,c2,bW,bw,b1,bD,rfl,ad,h1,J,ab,aF,eB,dD,dO,dU,eg⟩:=h.form;obtain⟨k1,d0,ir,d1,jn,d2,nt,d3,mG,d4,rfl,dF,cR,cA,eN,fs⟩:=ck.form;obtain⟨ei,eZ,rfl,fa⟩:=aw.form;have av:=aP.av;have jN:=aP.zL aL;have hle:=ah.len;have gj:=xz aL;obtain⟨f6,f7,f8⟩:=pT m;refine bk E.MA ?_;refine I ?_;intro w1 cQ fD af bn;refine I ?_;intro az dJ jc ai bI;replace bn:=ai.obj bn;have aD:=af.trans ai;refine I ?_;refine J_ (tf _ m az (b2.ext aD) aG) ?_;rintro bK aM ⟨dP,ag⟩;obtain⟨ca,ci,rfl,_⟩:=dP.form;have eh:ix aM _ _:=aK.e4 (enc:=cP.enc) (λ_=>rfl) dP;have Kh:=ag.obj bn;have Gb:=ag.obj bI;have aO:=aD.trans ag;clear bn bI dP;refine I ?_;refine L_ 11 e.length [2,3,4,5,9] (λv:fk=>[(10,.slice v.1 v.2.1 v.2.2)]) (none,0,0) (λk v W=>Ext aM W/\aK bX T.a 1 aM.heap.size W (.slice v.1 v.2.1 v.2.2) (kb m q e k)) a6 a6 ⟨Ext.refl _,aK.nil _ _ _ _ _⟩ ?_;rintro k nr S aR hk ⟨aq,dj⟩;have bn:=aq.obj Kh;have bI:=aq.obj Gb;have dX:=aO.trans aq;have z3:=aO.size;have z4:=aq.size;have na:=aw.ext dX;refine I ?_;apply I_<;>intro g1;rotate_left
 .have A8:e.length=k:=Aw
  rw[A8];refine I ?_;exact⟨aK.low aO.size dj,dX⟩
 have b8:k<e.length:=Aw
 obtain⟨nY,rfl⟩:=aw.addr;obtain⟨nJ,aoF⟩:=ah.node k b8;have ey:=(aw.at k b8).ok;have Bq:=ey.op;have Bp:=ey.n;unfold dZ at Bq Bp;have l4:=(wX aL aP ah (n:=k) Aw).len;have vC:=(adE aL aP nJ (ru e k)).len;have vt:=P3 (m:=m) (q:=q) b8;refine I ?_;apply I_<;>intro g2
 .obtain⟨fj,v,aH,iE⟩:=nJ.var g2;have dS:e[k].n.toNat<m.vars.length:=(List.getElem?_eq_some_iff.1 aH).1;obtain⟨dP,gn⟩:=rB dS;obtain⟨a0,rfl⟩:=dF.addr;have D5:=dF.ext Flat.ext dX;have bo:ek m q (ru e k) e[k]=[((gb m e[k].n.toNat:Nat):Int)]:=by unfold ek;rw[if_pos g2,mb]
  refine I ?_;intro bg ar;refine I ?_;refine K_ e[k].n.toNat Aw Aw ?_;refine I ?_;intro bp dm e8 aC bS;refine I ?_;refine S_ (y:=(gb m e[k].n.toNat:Int)) ((dj.ext ar).ext aC) bS (by rw[gn];rfl) (λ_=>rfl) ht Aw (by unfold maxLen;omega) (by have:=ar.size;have:=aC.size;omega) λaN c d bH dY jR=>?_;refine I ?_;refine⟨b8,aJ,(aN,c,d),⟨rfl,trivial⟩,((aq.trans ar).trans aC).grown jR λi U=>(dj.lt i U).1,by rw[vt,bo];exact dY⟩
 refine I ?_;apply I_<;>intro g3
 .have fx:=aoF g3;obtain⟨j,rfl⟩:∃j,k=j+1:=⟨k - 1,Aw⟩;have ay:j<e.length:=Aw
  obtain⟨fj,dS⟩:=nJ.item g3;have dL:e[j+1].n.toNat<m.vars.length:=dS;have ajz:ru e (j+1)=decide (e[j].op=5):=Tu ay;have bo:ek m q (ru e (j+1)) e[j+1]=mC m q e[j+1].n.toNat (decide (e[j].op=5)):=by unfold ek;rw[if_neg g2,if_pos g3,ajz]
  rw[bo] at vC vt;have gK:e[j+1].n=(e[j+1].n.toNat:Nat):=Aw
  refine I ?_;intro bg ar;refine I ?_;refine K_ j Aw ay ?_;refine I ?_;have hq:=dX.trans ar;rw[gK];refine J_ (T4 _ _ m q e[j+1].n.toNat (decide (e[j].op=5)) bg (b2.ext hq) aG aL (pJ.ext hq) av dL (λa7=>afa aP (ah.node j ay).1 (by simpa using a7))) ?_;rintro u bp ⟨dk,aC⟩;obtain⟨rr,mT,rfl,_⟩:=dk.form;refine I ?_;refine _n ((dj.ext ar).ext aC) dk (λ_=>rfl) ht Aw (by unfold maxLen;omega) (by have:=ar.size;have:=aC.size;omega) λbU bH dY jR=>?_;obtain⟨aN,c,rfl,_⟩:=dY.form;refine I ?_;exact⟨b8,aJ,(aN,_,c),⟨rfl,trivial⟩,((aq.trans ar).trans aC).grown jR λi U=>(dj.lt i U).1,by rw[vt];exact dY⟩
 refine I ?_;apply I_<;>intro g4
 .obtain⟨fj,dS⟩:=nJ.loc g4;have dL:e[k].n.toNat<(m.procs[p]'(aP.au)).vars.length:=dS;have bo:ek m q (ru e k) e[k]=[((cV m q+1+e[k].n.toNat:Nat):Int)]:=by unfold ek;rw[if_neg g2,if_neg g3,if_pos g4,mb]
  obtain⟨sU,iD⟩:=ow av;obtain⟨a2,rfl⟩:=cA.addr;have xW:=cA.ext Flat.ext dX;refine I ?_;intro bg ar;refine I ?_;rw[iD];refine I ?_;intro bp dm e8 aC bS;refine I ?_;refine S_ (y:=((cV m q+1+e[k].n.toNat:Nat):Int)) ((dj.ext ar).ext aC) bS (by simp[bX];omega) (λ_=>rfl) ht Aw (by unfold maxLen;omega) (by have:=ar.size;have:=aC.size;omega) λaN c d bH dY jR=>?_;refine I ?_;exact⟨b8,aJ,(aN,c,d),⟨rfl,trivial⟩,((aq.trans ar).trans aC).grown jR λi U=>(dj.lt i U).1,by rw[vt,bo];exact dY⟩
 refine I ?_;apply I_<;>intro g6
 .obtain⟨fj,dS⟩:=nJ.len g6;have dL:e[k].n.toNat<m.aA.length:=dS;have bo:ek m q (ru e k) e[k]=[((b6 m e[k].n.toNat:Nat):Int)]:=by unfold ek;rw[if_neg g2,if_neg g3,if_neg g4,if_pos g6,mb]
  obtain⟨je,eH⟩:=qc dL;obtain⟨db,rfl⟩:=cR.addr;have ayh:=cR.ext Flat.ext dX;refine I ?_;intro bg ar;refine I ?_;refine K_ e[k].n.toNat Aw Aw ?_;refine I ?_;intro bp dm e8 aC bS;refine I ?_;refine S_ (y:=(b6 m e[k].n.toNat:Int)) ((dj.ext ar).ext aC) bS (by rw[eH];rfl) (λ_=>rfl) ht Aw (by unfold maxLen;omega) (by have:=ar.size;have:=aC.size;omega) λaN c d bH dY jR=>?_;refine I ?_;exact⟨b8,aJ,(aN,c,d),⟨rfl,trivial⟩,((aq.trans ar).trans aC).grown jR λi U=>(dj.lt i U).1,by rw[vt,bo];exact dY⟩
 refine I ?_;apply I_<;>intro g7
 .have bo:ek m q (ru e k) e[k]=nX m (e[k].n.tdiv 16) (o.insts m).length:=by unfold ek;rw[if_neg g2,if_neg g3,if_neg g4,if_neg g6,if_pos g7]
  rw[bo] at vt vC;obtain⟨fj,vE⟩:=nJ.at_ g7;have RU:(e[k].n.tdiv 16).toNat<m.procs.length:=vE;have RY:=AK5 fj (show(0:Int)<=16 by omega);have RW:=aL.procs;refine I ?_;refine L_ 12 (o.insts m).length [2,3,4,5,9,11] (λv:fk=>[(10,.slice v.1 v.2.1 v.2.2)]) nr (λj v W=>Ext aM W/\aK bX T.a 1 aM.heap.size W (.slice v.1 v.2.1 v.2.2) (kb m q e k++nX m (e[k].n.tdiv 16) j)) a6 a6 ⟨aq,by simpa[nX] using dj⟩ ?_;clear bn bI dj na;rintro j nr aZ bg ay ⟨ar,dC⟩;have bn:=ar.obj Kh;have bI:=ar.obj Gb;have hq:=aO.trans ar;have Rx:=eh.ext Flat.ext ar;have z5:=ar.size;refine I ?_;apply I_<;>intro g8
  .have jy:j<(o.insts m).length:=Aw
   obtain⟨gu,rfl⟩:=eh.addr;have QM:=(IU aL (e[k].n.tdiv 16) j Aw).len;have GJ:=aw.ext hq;have has:=Ak (m:=m) (p:=e[k].n.tdiv 16) jy;refine I ?_;refine _C Aw ?_;refine I ?_;intro bp aC;have hg:=hq.trans aC;replace bn:=aC.obj bn;replace bI:=aC.obj bI;have dk:=dC.ext aC;clear GJ Rx dC;refine I ?_;apply I_<;>intro g9
   .obtain⟨sU,iD⟩:=ow jy;obtain⟨a2,rfl⟩:=cA.addr;have Nd:=cA.ext Flat.ext hg;refine I ?_;intro bH ia hi bc b3;refine I ?_;refine S_ (y:=(cV m j:Int)) (dk.ext bc) b3 (by rw[iD];rfl) (λ_=>rfl) ht (by rw[HO];omega) (by rw[HO];unfold maxLen;omega) (by have:=aC.size;have:=bc.size;omega) λaN c d cB gy ua=>?_;refine I ?_;refine⟨jy,aJ,(aN,c,d),⟨rfl,trivial⟩,?_,?_⟩
    .exact((ar.trans aC).trans bc).grown ua λi U=>(dk.lt i U).1
    .rw[has,if_pos g9,mb,<-NC];exact gy
   .refine I ?_;refine⟨jy,aJ,nr,⟨rfl,trivial⟩,ar.trans aC,?_⟩;rw[has,if_neg g9,S5];exact dk
  .have abl:(o.insts m).length=j:=Aw
   rw[abl] at vt;refine I ?_;exact⟨b8,aJ,nr,⟨rfl,trivial⟩,ar,by rw[vt];exact dC⟩
 .have eK:ek m q (ru e k) e[k]=[]:=by unfold ek;rw[if_neg g2,if_neg g3,if_neg g4,if_neg g6,if_neg g7]
  refine I ?_;exact⟨b8,aJ,nr,⟨rfl,trivial⟩,aq,by rw[vt,eK,S5];exact dj⟩
def agF(m:o.Model)(ref:Int)(v:B_)(w:A_):Prop :=
 (¬o.Told m ref/\v = .tuple #[.int .i64 0,.agg I7.toArray,.bool false]) \/
 (∃(q p k:Nat) (eY va:B_),fe m ref q p k/\v = .tuple #[.int .i64 q,.agg ((bM m p k).enc eY va).toArray,.bool true]/\eW w eY (bM m p k).guard/\lP w va (bM m p k).bL)
def ass(cs:C_ B_)(m:o.Model)(ref:Int)(w:A_)(h:dh w cs m)(aG:m.cr) :
  Ei F.MB #[.agg cs.toArray,.I ref] w λv w'=>agF m ref v w'/\Ext w w':=by
 have b2:=h;obtain⟨bZ,bz,bN,c1,bT,c2,bW,bw,b1,bD,rfl,ad,h1,J,ab,aF,eB,dD,dO,dU,eg⟩:=h.form;refine bk E.MB ?_;refine I ?_;intro w1 bP c8 af ao;refine I ?_;intro az dJ jc ai bI;have pK:=ai.obj ao;have aD:=af.trans ai;refine I ?_;refine J_ (HI _ m az (b2.ext aD) aG) ?_;rintro _ aM ⟨rfl,ag⟩;have aO:=aD.trans ag;replace ao:=ag.obj pK;replace bI:=ag.obj bI;have z5:=cq bI;have avo:=af.size;clear pK;unfold vf;refine I ?_;refine Y_ (v:=.I (o.check m).cJ) rfl ?_;refine I ?_;refine I_ (λhk=>?_) (λhk=>?_);rotate_left
 .refine I ?_;intro aR dT bn;refine I ?_;exact⟨.inl ⟨λaB=>hk aB.1,aJ⟩,dT.ext aO Aw⟩
 have aL:=gU hk;have ck:=aL.lim;have hM:=pn ck;refine I ?_;apply I_<;>intro g1
 .refine I ?_;intro bg e3 vl;refine I ?_;exact⟨.inl ⟨λaB=>by have:=aB.2;omega,aJ⟩,e3.ext aO Aw⟩
 obtain⟨r,rfl⟩:=Nb (show 0<=ref by omega);refine I ?_;refine J_ (zJ _ m aM (b2.ext aO) aG ck) ?_;rintro vr aR ⟨fp,aq⟩;obtain⟨e1,mS,rfl,_⟩:=fp.form;replace ao:=aq.obj ao;replace bI:=aq.obj bI;have bo:=aO.trans aq;clear fp;refine I ?_;apply I_<;>intro g2
 .refine I ?_;intro bg e3 vl;refine I ?_;exact⟨.inl ⟨λaB=>by have:=aB.2;omega,aJ⟩,e3.ext bo Aw⟩
 have aB:o.Told m r:=⟨hk,Aw,Aw⟩;obtain⟨q,p,k,br⟩:=mn aB;have av:=br.at_.U;have au:=br.at_.au;have hz:=br.at_.hk;have fm:(o.refs m)[r].inst=(q:Int):=br.at_.nk;have ke:(o.refs m)[r].cmd=(k:Int):=br.at_.pU;have kc:=br.at_.ip;refine I ?_;refine J_ (zJ _ m aR (b2.ext bo) aG ck) ?_;rintro vr bg ⟨fp,ar⟩;obtain⟨e1,mS,rfl,_⟩:=fp.form;have sP:bm 2 (Flat o.Ref.enc) bg (.slice e1 (o.refs m).length mS) (o.refs m):=aK.e4 (enc:=o.Ref.enc) (λ_=>rfl) fp;obtain⟨iN,rfl⟩:=sP.addr;replace ao:=ar.obj ao;replace bI:=ar.obj bI;have bC:=bo.trans ar;clear fp;refine I ?_;intro bp ia hi aC b3;have tP:(o.refs m)[r].enc=[.I q,.I k]:=by unfold o.Ref.enc;rw[fm,ke]
 rw[tP] at b3;replace ao:=aC.obj ao;replace bI:=aC.obj bI;have b5:=bC.trans aC;clear sP;obtain⟨a3,rfl⟩:=ab.addr;obtain⟨kC,bY,dQ,c5,eU,eA⟩:=ab.at p au;obtain⟨vT,u4,rfl,vP⟩:=eA.form;obtain⟨ac,rfl⟩:=eA.addr;obtain⟨eI,eY,va,e0,ga,e2⟩:=eA.at k hz;obtain⟨fE,fN,rfl,_⟩:=ga.form;obtain⟨oC,n2,rfl,_⟩:=e2.form;have xp:=c5.ext b5;have tV:=e0.ext b5;unfold dv.enc at xp;unfold dG.enc at tV;clear c5 e0 ad h1 J aF;refine I ?_;intro bH bc;replace ao:=bc.obj ao;replace bI:=bc.obj bI;replace b3:=bc.obj b3;replace xp:=xp.ext bc;replace tV:=tV.ext bc;have cL:=b5.trans bc;refine I ?_;refine J_ (tf _ m bH (b2.ext cL) aG) ?_;rintro bK cB ⟨dP,bt⟩;obtain⟨ca,ci,rfl,_⟩:=dP.form;have eh:ix cB (.slice ca (o.insts m).length ci) (o.insts m):=aK.e4 (enc:=cP.enc) (λ_=>rfl) dP;obtain⟨gu,rfl⟩:=eh.addr;clear dP;refine⟨bt,?_⟩;refine I ?_;refine⟨bt,?_⟩;refine I ?_;refine K_ p (by rw[kc]) au ?_;refine I ?_;refine⟨bt,?_⟩;refine I ?_;refine⟨bt,?_⟩;replace bI:=bt.obj bI;refine I ?_;intro cD gA cG;refine I ?_;have eK:Ext w cB:=cL.trans bt;have fO:Ext w cD:=gA.ext eK Aw;have ha:=sJ au hz;refine⟨.inr ⟨q,p,k,.slice fE (bM m p k).guard.length fN,.slice oC (bM m p k).bL.length n2,br,by rw[ha];rfl,?_,?_⟩,fO⟩
 .rw[ha];exact ga.ext fO
 .rw[ha];exact e2.ext fO
end Go.Proofs.R
namespace ba
open Go Go.RowKit
structure jZ(e:TypeId)(base:Nat)(w:World)(v1:Value)(dD:List Int)(v2:Value)(dO:List Int):Prop where
 cR:aK bX e 1 base w v1 dD
 cA:aK bX e 1 base w v2 dO
 ap:∀k,v1.ownBlock=some k->v2.ownBlock≠some k
theorem jZ.symm{e:F_}{base:Nat}{w:A_}{v1 v2:B_}{dD dO:C_ Int}(h:jZ e base w v1 dD v2 dO):jZ e base w v2 dO v1 dD:=⟨h.cA,h.cR,λk a b=>h.ap k b a⟩
theorem jZ.ext{e:F_}{base:Nat}{w w':A_}{v1 v2:B_}{dD dO:C_ Int}(h:jZ e base w v1 dD v2 dO)(he:Ext w w'):jZ e base w' v1 dD v2 dO:=⟨h.cR.ext he,h.cA.ext he,h.ap⟩
theorem jZ.app{P:D_}{cO:B_->A_->Prop}{e:F_}{base:Nat}{w:A_}{v1 v2 x:B_}{dD dO ys:C_ Int}{ty:F_}{t}(h:jZ e base w v1 dD v2 dO)(ah:bm 1 (Flat bX) w x ys)(aE:dD.length+ys.length<=100000)(ak:base<=w.heap.size)
  (hk:∀aN n c w',jZ e base w' (.slice aN n c) (dD++ys) v2 dO->w.grownBy w' v1.ownBlock->cO (.slice aN n c) w'):mH P ty e 1 8 v1 x w cO t:=by
 have key:∀bU w',aK bX e 1 base w' bU (dD++ys)->w.grownBy w' v1.ownBlock->(bU.ownBlock=v1.ownBlock\/bU.ownBlock=some w.heap.size)->cO bU w':=λbU w' h1 J ab=>by
  obtain⟨aN,cap,rfl,_⟩:=h1.form;refine hk _ _ _ _ ⟨h1,h.cA.mod (Mod.grown (A:=λk=>v1.ownBlock=some k) J λk e=>e) λk a b=>h.ap k b a,λk a b=>?_⟩ J;rcases ab with ab | ab
  .exact h.ap k (ab ▸ a) b
  .have:=(h.cA.lt k b).2
   rw[a] at ab;injection ab with ab
   omega
 obtain⟨aN,cap,rfl,h1,J,ab,aF⟩:=ah.ex;cases aN with
 | some a=>exact _U h.cR (λ_=>rfl) (bm.flat (enc:=bX) (λ_=>rfl) (λ_ _ h=>h) ⟨some a,cap,rfl,h1,J,ab,aF⟩) rfl ht Aw (by unfold maxLen;omega) ak key
 | none =>
  have:ys=[]:=Classical.byContradiction λaw=>by have:=ab aw;cases this
  subst this;rw[S5] at key;refine _c λ⟨aB,i,z,U,bB,Bn,AU,zp,GW⟩=>?_;exact⟨ty,v1,w,run_append_owned_none w base ty ty e i 1 aB U v1 _ _ h.cR,key v1 w h.cR ⟨rfl,rfl,rfl,E1 _,λ_ _ _=>rfl⟩ (.inl rfl)⟩
end ba
namespace ba
open Go Go.RowKit
section
variable{P:Program}{C:World->Prop}{S:Fr}{w:World}{K:Fr->World->Prop}
def cY.aoL{d x i sz len cap k:Nat}{r:eu}{a:Addr}(ah:S x = .slice (some a) len cap)(U:S i = .I k)(hk:k<len)(h:cY P C r (cg S d (.pointer (some (a.add (k*sz))))) w K):cY P C (.take ⟨some d,none,.p (.ox sz (.tmp x) (.tmp i))⟩ r) S w K:=by
 refine cY.p ?_;rw[arn];show Cd sz (S x) (S i) _;rw[ah,U];exact aci k rfl hk h
def cY.agZ{d x:Nat}{ty:F_}{n m:Int}{r:eu}(ah:S x = .I n)(aT : -9223372036854775808<=n+m/\n+m<=9223372036854775807)(h:cY P C r (cg S d (.I (n+m))) w K):cY P C (.take ⟨some d,none,.p (.bin .add ty (.tmp x) (.const (.I m)))⟩ r) S w K:=by
 refine cY.p ?_;rw[adR];show nu P .add ty _ _ (S x) (.I m) _;rw[ah,Pd];exact wrap_i64 aT h
def cY.agY{d x y:Nat}{ty:F_}{n m:Int}{r:eu}(ah:S x = .I n)(bF:S y = .I m)(aT : -9223372036854775808<=n+m/\n+m<=9223372036854775807)(h:cY P C r (cg S d (.I (n+m))) w K):cY P C (.take ⟨some d,none,.p (.bin .add ty (.tmp x) (.tmp y))⟩ r) S w K:=by
 refine cY.p ?_;rw[adR];show nu P .add ty _ _ (S x) (S y) _;rw[ah,bF,Pd];exact wrap_i64 aT h
end
def Qg{w w':A_}{row:H_ Nat}{a:Addr}{v:B_}(aG:w.grownBy w' row)(an:w.cell? a=some v)(aw:row≠some a.block):w'.cell? a=some v:=by
 have cu:a.block<w.heap.size:=by
  unfold World.cell? at an;cases ak:w.heap[a.block]? with
  | none=>rw[ak] at an;cases an
  | some ae=>exact cq ak
 rw[<-an];simp only[World.cell?,aG.block a.block cu (Ne.symm aw)]
def Ht{w:A_}{b:Nat}{y:Int}{e:F_}(h:w.heap[b]? = some (.cells #[.I y] e)):bm 1 (Flat bX) w (.slice (some ⟨b,0,none⟩) 1 1) [y] :=
 aK.e4 (enc:=bX) (λ_=>rfl) (aK.sF (base:=0) (enc:=bX) (sz:=1) [y] (cs:=[.I y]) h (AF4 _) rfl (λ_=>rfl) rfl (by show 1<=maxLen;unfold maxLen;decide))
end ba
namespace Go.Proofs.R
open Go Go.RowKit ba
def af3:eu :=
 (.take (aU 173 11) (.take (aU 174 14) (.take (fu 176 2 9) (.take (eJ 177 176) (.take (aU 178 6) (.take (iw 179 1 177 178) (.take (eJ 180 179) (.take (ks .add T.a 181 180 1) (.take (fu 182 2 13) (.take (eJ 183 182) (.take (iU .add T.a 184 181 183) (.alt (du 175 (.app T.b T.a 1 8 (aQ 173) (aQ 174))) (.fi (du 185 (.ku T.a 1 1 [(.int .i64 0)] [(0,(aQ 184))])) (.fi (du 186 (.app T.b T.a 1 8 (aQ 175) (aQ 185))) (.take (aU 11 186) .done) .nil) .nil) (.fi (du 185 (.ku T.a 1 1 [(.int .i64 0)] [(0,(aQ 184))])) (.alt (du 175 (.app T.b T.a 1 8 (aQ 173) (aQ 174))) (.fi (du 186 (.app T.b T.a 1 8 (aQ 175) (aQ 185))) (.take (aU 11 186) .done) .nil) .nil) .nil)))))))))))))
def avc{w:A_}{S:Fr}{cO:Fr->A_->Prop}{base b9 b13 q ni ci:Nat}{a2:Addr}{iq tl:Int}{vw vr:H_ Addr×Nat×Nat}{lw lr ys:C_ Int}{va:B_}
  (C1:S 11=cm vw)(C2:S 14=va)(iA:S 9 = .pointer (some ⟨b9,0,none⟩))(bJ:S 6 = .I q)(AJ:S 13 = .pointer (some ⟨b13,0,none⟩))
  (c1:w.cell? (Addr.add ⟨b9,0,none⟩ 2)=some (.slice (some a2) ni ci))(c2:w.cell? (a2.add (q*1))=some (.I iq))(bw:w.cell? (Addr.add ⟨b13,0,none⟩ 2)=some (.I tl))(av:q<ni)(awO:0<=iq/\iq<=1000/\0<=tl/\tl<=1000)
  (kj:(cm vw).ownBlock≠some b9)(jD:(cm vw).ownBlock≠some a2.block)(pg:(cm vw).ownBlock≠some b13)
  (gv:jZ T.a base w (cm vr) lr (cm vw) lw)(dx:bm 1 (Flat bX) w va ys)(um:lw.length+ys.length+1<=100000)(ak:base<=w.heap.size)
  (hk:∀aZ w' NU,(∀t,t<11\/(11<t/\t<173)->aZ t=S t)->aZ 11=cm NU->jZ T.a base w' (cm vr) lr (cm NU) (lw++ys++[iq+1+tl])->(∀w0,Ext w0 w->w0.heap.size<=base->Ext w0 w')->cO aZ w'):∃C:A_->Prop,C w/\cY Tryz.prog C af3 S w cO:=by
 refine⟨λw=>w.cell? (Addr.add ⟨b9,0,none⟩ 2)=some (.slice (some a2) ni ci)/\w.cell? (a2.add (q*1))=some (.I iq)/\w.cell? (Addr.add ⟨b13,0,none⟩ 2)=some (.I tl),⟨c1,c2,bw⟩,?_⟩;unfold af3;refine cY.lJ C1 ?_;refine cY.lJ (v:=va) (by simp[bE,C2]) ?_;refine cY.ju (a:=⟨b9,0,none⟩) (by simp[bE,iA]) ?_;refine cY.ld (v:=.slice (some a2) ni ci) (by simp[bE]) (λw' m=>m.1) ?_;refine cY.lJ (v:=.I q) (by simp[bE,bJ]) ?_;refine cY.aoL (a:=a2) (len:=ni) (cap:=ci) (k:=q) (by simp[bE]) (by simp[bE]) av ?_;refine cY.ld (v:=.I iq) (by simp[bE]) (λw' m=>m.2.1) ?_;refine cY.agZ (n:=iq) (m:=1) (by simp[bE]) Aw ?_;refine cY.ju (a:=⟨b13,0,none⟩) (by simp[bE,AJ]) ?_;refine cY.ld (v:=.I tl) (by simp[bE]) (λw' m=>m.2.2) ?_;refine cY.agY (n:=iq+1) (m:=tl) (by simp[bE]) (by simp[bE]) Aw ?_;generalize rY:cg _ 184 _=rN;have CU:∀t,t<173->rN t=S t:=by
  subst rY;intro t aB;simp only[bE];rw[if_neg Aw,if_neg Aw,if_neg Aw,if_neg Aw,if_neg Aw,if_neg Aw,if_neg Aw,if_neg Aw,if_neg Aw,if_neg Aw,if_neg Aw]
 have Y8:rN 173=cm vw:=by subst rY;simp[bE]
 have Y9:rN 174=va:=by subst rY;simp[bE]
 have Zb:rN 184 = .I (iq+1+tl):=by subst rY;simp[bE]
 clear rY;have l6:∀{w1 az:A_} {row:H_ Nat},w1.grownBy az row->(row≠some b9/\row≠some a2.block/\row≠some b13)->(w1.cell? (Addr.add ⟨b9,0,none⟩ 2)=some (.slice (some a2) ni ci)/\w1.cell? (a2.add (q*1))=some (.I iq)/\w1.cell? (Addr.add ⟨b13,0,none⟩ 2)=some (.I tl)) ->
   (az.cell? (Addr.add ⟨b9,0,none⟩ 2)=some (.slice (some a2) ni ci)/\az.cell? (a2.add (q*1))=some (.I iq)/\az.cell? (Addr.add ⟨b13,0,none⟩ 2)=some (.I tl)):=λaG aw h =>
  ⟨Qg aG h.1 (by rw[Ah];exact aw.1),Qg aG h.2.1 (by rw[Ah];exact aw.2.1),Qg aG h.2.2 (by rw[Ah];exact aw.2.2)⟩
 have out:∀{w1 az:A_} {v:B_} {l:C_ Int},aK bX T.a 1 base w1 v l->w1.grownBy az v.ownBlock->(∀w0,Ext w0 w->w0.heap.size<=base->Ext w0 w1)->∀w0,Ext w0 w->w0.heap.size<=base->Ext w0 az:=λaS aG h w0 e ak=>(h w0 e ak).grown aG λk hk=>Ns ak (aS.lt k hk).1;refine⟨lV.e ?_,nE.e ?_,trivial⟩
 .rw[Fw];unfold aQ;rw[dc,dc,Y8,Y9];refine E4 λt=>jZ.app gv.symm dx Aw ak λaN n c w1 FQ A3=>⟨l6 A3 ⟨kj,jD,pg⟩ ⟨c1,c2,bw⟩,?_⟩;have g1:=out gv.cA A3 λw0 e _=>e;refine cY.vh (nE.e ?_);have he:Ext w1 (w1.alloc (.cells #[.I (iq+1+tl)] T.a)):=(Ext.refl w1).alloc _;have a8:=heap_alloc_new w1 (.cells #[.I (iq+1+tl)] T.a);rw[PU];refine Ao (cs:=[.I (iq+1+tl)]) (FH (by simp[gV,bE,Zb])) ?_;show cY _ _ _ _ (w1.alloc (.cells #[.I (iq+1+tl)] T.a)) _;generalize w1.alloc (.cells #[.I (iq+1+tl)] T.a)=az at he a8;have bB:=A3.size;have s4:=he.size;refine cY.vh (nE.e ?_);rw[Fw];rw[dc,dc];simp only[gV,bE,Nat.reduceEqDiff,if_false,if_true];refine E4 λt=>jZ.app (FQ.ext he) (Ht a8) (by rw[HO];simp only[List.length_singleton];omega) Aw λiQ iO iY aM Qp Gu=>?_;refine cY.lJ (v:=.slice iQ iO iY) (by simp[gV,bE]) ?_;refine hk _ _ (iQ,iO,iY) (λt aB=>?_) (by simp[bE]) Qp.symm (out (FQ.ext he).cR Gu λw0 e ak=>(g1 w0 e ak).trans he);simp only[gV,bE];rw[if_neg Aw,if_neg Aw,if_neg Aw,if_neg Aw];exact CU t Aw
 .have he:Ext w (w.alloc (.cells #[.I (iq+1+tl)] T.a)):=(Ext.refl w).alloc _;have a8:=heap_alloc_new w (.cells #[.I (iq+1+tl)] T.a);rw[PU];refine Ao (cs:=[.I (iq+1+tl)]) (FH (by simp[aQ,gV,bE,Zb])) ?_;show cY _ _ _ _ (w.alloc (.cells #[.I (iq+1+tl)] T.a)) _;generalize w.alloc (.cells #[.I (iq+1+tl)] T.a)=w1 at he a8;have bB:=he.size;refine cY.Ai (lV.e ?_);rw[Fw];unfold aQ;rw[dc,dc];simp only[gV,bE,Nat.reduceEqDiff,if_false,Y8,Y9];have FQ:=gv.ext he;refine E4 λt=>jZ.app FQ.symm (dx.ext Flat.ext he) Aw Aw λaN n c az Z4 Dr=>⟨l6 Dr ⟨kj,jD,pg⟩ ⟨he.cell c1,he.cell c2,he.cell bw⟩,?_⟩;have g2:=out FQ.cA Dr λw0 e _=>e.trans he;have s4:=Dr.size;have bn:az.heap[w.heap.size]? = some (.cells #[.I (iq+1+tl)] T.a):=by
   rw[Dr.block _ (by have:=cq a8;omega) λe=>?_]
   .exact a8
   .have:=(gv.cA.lt _ e.symm).2
    omega
  refine cY.vh (nE.e ?_);rw[Fw];rw[dc,dc];simp only[gV,bE,Nat.reduceEqDiff,if_false,if_true];refine E4 λt=>jZ.app Z4 (Ht bn) (by rw[HO];simp only[List.length_singleton];omega) Aw λiQ iO iY aM Qp Gu=>?_;refine cY.lJ (v:=.slice iQ iO iY) (by simp[gV,bE]) ?_;refine hk _ _ (iQ,iO,iY) (λt aB=>?_) (by simp[bE]) Qp.symm (out Z4.cR Gu g2);simp only[gV,bE];rw[if_neg Aw,if_neg Aw,if_neg Aw,if_neg Aw];exact CU t Aw
end Go.Proofs.R
namespace o
open Go
def agP{m:Model}(aL:eE m){q p:Nat}(h:fL m q p){a:Act}(aY:nR (inner (m.procs[p]'(h.au)) (eC m)) a):fg 3072 (pD m q a):=by
 unfold pD;by_cases a7:a.kind=5
 .rw[if_pos a7,if_neg Aw,if_neg Aw,if_pos a7,AF8];exact(CF aL (aY.chan (.inr a7)).2).mono Aw
 .rw[if_neg a7];refine fg.app (b:=1536) (wX aL h (aY.val a7) (E1 _)) ?_ Aw;by_cases J:a.kind=2
  .rw[if_pos J];exact wX aL h (aY.item J).2.2 (E1 _)
  rw[if_neg J];by_cases aF:a.kind=4
  .rw[if_pos aF]
   have:=tJ aL (aY.chan (.inl aF)).2
   exact fg.row Aw Aw
  .rw[if_neg aF,if_neg a7];exact fg.nil _
theorem Nh{m:Model}(aL:eE m){q p:Nat}(h:fL m q p){c:dG}(an:wi (inner (m.procs[p]'(h.au)) (eC m)) c):∀n,n<=c.bL.length->fg (1537+3072*n) (ry m q c n)
 | 0,_=>by
  unfold ry;simpa using Qh aL h an
 | n+1,aw=>by
  rw[aer Aw];exact fg.app (Nh aL h an n Aw) (agP aL h (an.act n Aw)) Aw
def asU{l s6 r:C_ Int}(h:pB l r)(e:∀x,x∈l↔x∈s6):pB s6 r:=⟨h.lM,λx=>(h.mem x).trans (e x)⟩
end o
namespace ba
open Go Go.RowKit
theorem ah5{w:A_}{a:Addr}{v:B_}(an:w.cell? a=some v):a.block<w.heap.size:=by
 unfold World.cell? at an;cases ak:w.heap[a.block]? with
 | none=>rw[ak] at an;cases an
 | some ae=>exact cq ak
end ba
namespace Go.Proofs.R
open Go Go.RowKit ba o
def ael(cs:C_ B_)(m:o.Model)(ref:Int)(w:A_)(h:dh w cs m)(aG:m.cr) :
  Ei F.Mz #[.agg cs.toArray,.I ref] w λv w'=>(∃va iS a b,v = .tuple #[va,iS]/\aK bX T.a 1 w.heap.size w' va a/\aK bX T.a 1 w.heap.size w' iS b/\kM m ref a b)/\Ext w w':=by
 have b2:=h;obtain⟨bZ,bz,bN,c1,bT,c2,bW,bw,b1,bD,rfl,ad,h1,J,ab,aF,_⟩:=h.form;refine bk E.Mz ?_;refine I ?_;intro w1 bP c8 af ao;refine I ?_;refine J_ (ass _ m ref w1 (b2.ext af) aG) ?_;rintro _ az ⟨hO,ai⟩;replace ao:=ai.obj ao;have aD:=af.trans ai;rcases hO with ⟨Bg,rfl⟩ | ⟨q,p,k,eY,va,br,rfl,ga,e2⟩
 .unfold I7;refine I ?_;intro wn dm e8 fc eI;refine I ?_;intro aM fF bS;refine I ?_;exact⟨⟨_,_,[],[],rfl,aK.nil _ _ _ _ _,aK.nil _ _ _ _ _,kM.nil Bg⟩,aD.trans (fF.ext fc e8)⟩
 obtain⟨fE,fN,rfl,_⟩:=ga.form;obtain⟨oC,n2,rfl,_⟩:=e2.form;have aL:=gU br.ok;have aP:=br.inst;have jf:=br.cin;have qk:=jf.gj;obtain⟨c,tW⟩:∃c,c=bM m p k:=⟨_,rfl⟩;rw[<-tW] at jf qk ga e2 ⊢;unfold dG.enc;refine I ?_;intro wn ia hi fc eI;refine I ?_;intro aM fF b3;have ag:Ext az aM:=fF.ext fc hi;clear fc eI fF;replace ao:=ag.obj ao;have aO:=aD.trans ag;refine I ?_;refine J_ (T1 _ m aM (b2.ext aO) aG aL) ?_;rintro _ aR ⟨⟨ys,rfl,AP⟩,aq⟩;replace ao:=aq.obj ao;replace b3:=aq.obj b3;have bo:=aO.trans aq;have ck:=AP.here;obtain⟨k1,d0,ir,d1,jn,d2,nt,d3,mG,d4,rfl,dF,cR,cA,eN,fs⟩:=ck.form;clear AP;refine dV ?_;intro bg b9 lZ ar cG;have y4:=ar.obj ao;have y5:=ar.obj b3;have vm:=cG;have bC:=bo.trans ar;obtain⟨sU,iD⟩:=ow aP.av;obtain⟨a2,rfl⟩:=cA.addr;have BM:=dF.ext Flat.ext ar;have HC:=cR.ext Flat.ext ar;have oD:=cA.ext Flat.ext ar;have C9:=ck.ext ar;have RL:=ga.ext (ag.trans (aq.trans ar));have DC:=e2.ext (ag.trans (aq.trans ar));have l4:=(wX aL aP jf.guard (E1 _)).len;have awL:=(Qh aL aP jf).len;clear ao b3 cG dF cR cA eN fs ck ga e2;refine dV ?_;refine R_ [2,6,7,9] (λv:fk=>[(10,.slice v.1 v.2.1 v.2.2)]) (λv W=>Ext bg W/\aK bX T.a 1 bg.heap.size W (.slice v.1 v.2.1 v.2.2) (vj m q c)) ?_ ?_
 .refine I ?_;intro bp aC;have b5:=bC.trans aC;have Da:=C9.ext aC;have abH:=RL.ext aC;have Nd:=oD.ext Flat.ext aC;refine I ?_;refine⟨?_,?_⟩
  .refine I ?_;intro bH ahk F7 bc Gd;refine⟨bc,?_⟩;refine I ?_;have cL:=b5.trans bc;refine J_ (Ng _ _ _ _ m q p bH (b2.ext cL) aG aL (Da.ext bc) aP (abH.ext bc) jf.guard) ?_;rintro u cB ⟨gy,bt⟩;refine⟨bc.trans bt,?_⟩;have h1:aK bX T.a 1 bp.heap.size cB (.slice (some ⟨ahk,0,none⟩) 1 1) [(cV m q:Int)]:=aK.sF _ (bt.obj Gd) F7 (by rw[iD];rfl) (λ_=>rfl) rfl (by show 1<=maxLen;unfold maxLen;decide);refine I ?_;refine _n h1 gy (λ_=>rfl) ht (by simp only[List.length_singleton];omega) (by simp only[List.length_singleton];unfold maxLen;omega) (by have:=bc.size;have:=bt.size;omega) λbU cD fy ub=>?_;have fO:Ext bp cD:=(bc.trans bt).grown ub λk hk=>(h1.lt k hk).1;have de:vj m q c=[(cV m q:Int)]++kb m q c.guard c.guard.length:=by unfold vj;rw[mb]
   rw[<-de] at fy;obtain⟨D2,CJ,rfl,_⟩:=fy.form;refine I ?_;exact⟨(D2,_,CJ),⟨rfl,trivial⟩,aC.trans fO,aK.low aC.size fy⟩
  .refine I ?_;refine J_ (Ng _ _ _ _ m q p bp (b2.ext b5) aG aL Da aP abH jf.guard) ?_;rintro u bH ⟨dY,bc⟩;refine⟨bc,?_⟩;refine I ?_;intro cB ahl awr bt amt;refine⟨bc.trans bt,?_⟩;have h1:aK bX T.a 1 bp.heap.size cB (.slice (some ⟨ahl,0,none⟩) 1 1) [(cV m q:Int)]:=aK.sF _ amt (by have:=bc.size;omega) (by rw[iD];rfl) (λ_=>rfl) rfl (by show 1<=maxLen;unfold maxLen;decide);refine I ?_;refine _n h1 (dY.ext bt) (λ_=>rfl) ht (by simp only[List.length_singleton];omega) (by simp only[List.length_singleton];unfold maxLen;omega) (by have:=bc.size;have:=bt.size;omega) λbU cD fy ub=>?_;have fO:Ext bp cD:=(bc.trans bt).grown ub λk hk=>(h1.lt k hk).1;have de:vj m q c=[(cV m q:Int)]++kb m q c.guard c.guard.length:=by unfold vj;rw[mb]
   rw[<-de] at fy;obtain⟨D2,CJ,rfl,_⟩:=fy.form;refine I ?_;exact⟨(D2,_,CJ),⟨rfl,trivial⟩,aC.trans fO,aK.low aC.size fy⟩
 rintro vr S bp ⟨aC,dk⟩;have ao:=aC.obj y4;have b3:=aC.obj y5;have cG:=aC.obj vm;have Nd:=oD.ext Flat.ext aC;refine I ?_;intro bH mm xa bc jd;have C3:aK bX T.a 1 bg.heap.size bH (.slice (some ⟨mm,0,none⟩) 1 1) (kq m q c 0):=aK.sF _ jd (by have:=aC.size;omega) (by unfold kq;rw[iD,AH8,AI4,S5,mb];rfl) (λ_=>rfl) (by unfold kq;rw[AH8,AI4,S5,mb];rfl) (by unfold kq;rw[AH8,AI4,S5,mb];show 1<=maxLen;unfold maxLen;decide);have Z3:jZ T.a bg.heap.size bH (.slice vr.1 vr.2.1 vr.2.2) (ry m q c 0) (.slice (some ⟨mm,0,none⟩) 1 1) (kq m q c 0):=⟨by unfold ry;rw[AH8,AI4,S5];exact dk.ext bc,C3,λk hk e=>by
  have:=(dk.lt k hk).2
  injection e with e
  have:k=mm:=e.symm
  omega⟩
 refine I ?_;refine L_ 12 c.bL.length [2,6,7,9] (λv:fk×fk=>[(10,.slice v.1.1 v.1.2.1 v.1.2.2),(11,.slice v.2.1 v.2.2.1 v.2.2.2)]) (vr,(some ⟨mm,0,none⟩,1,1)) (λk v W=>Ext bg W/\jZ T.a bg.heap.size W (.slice v.1.1 v.1.2.1 v.1.2.2) (ry m q c k) (.slice v.2.1 v.2.2.1 v.2.2.2) (kq m q c k)) a6 a6 ⟨aC.trans bc,Z3⟩ ?_;clear Z3 C3 dk ao b3 cG Nd jd bc aC;rintro n ⟨vr,vw⟩ S bp aw ⟨aC,gv⟩;have ao:=aC.obj y4;have b3:=aC.obj y5;have cG:=aC.obj vm;have anK:=DC.ext aC;have tk:=aC.size;refine I ?_;apply I_<;>intro g1
 .have hn:n<c.bL.length:=Aw
  obtain⟨oS,rfl⟩:=DC.addr;obtain⟨bK,bY,nG,ot,qo⟩:=DC.at n hn;replace nG:=nG.ext aC;have qh:=jf.act n hn;obtain⟨ca,ci,rfl,apT⟩:=ot.form;obtain⟨ei,eZ,rfl,axT⟩:=qo.form;obtain⟨a,alQ⟩:∃a,a=c.bL[n]:=⟨_,rfl⟩;have kf:=aer (m:=m) (q:=q) hn;have vF:=UP (m:=m) (q:=q) hn;have hM:=(Nh aL aP jf (n+1) Aw).len;have Sw:=(H6 aL aP jf (n+1) Aw).len;rw[<-alQ] at qh nG ot qo kf vF;unfold o.Act.enc at nG;refine dV ?_;refine R_ [2,6,7,9,12] (λv:fk×fk=>[(10,.slice v.1.1 v.1.2.1 v.1.2.2),(11,.slice v.2.1 v.2.2.1 v.2.2.2)]) (λv W=>Ext bg W/\jZ T.a bg.heap.size W (.slice v.1.1 v.1.2.1 v.1.2.2) (ry m q c (n+1)) (.slice v.2.1 v.2.2.1 v.2.2.2) (kq m q c (n+1))) ?_ ?_;rotate_left
  .rintro v aZ w' ⟨hx,ale⟩;refine I ?_;exact⟨hn,aJ,v,⟨rfl,rfl,trivial⟩,hx,ale⟩
  have aw0:=(Nh aL aP jf n Aw).len;have aw2:=(H6 aL aP jf n Aw).len;have Da:=C9.ext aC;refine I ?_;intro bH b13 F5 bc gw;have gd:=aC.trans bc;have cL:=bC.trans gd;replace ao:=bc.obj ao;replace b3:=bc.obj b3;replace cG:=bc.obj cG;have C7:=gv.ext bc;have Ib:=gd.size;clear gv anK nG;refine I ?_;apply I_<;>intro g5
  .obtain⟨fj,dS⟩:=qh.chan (.inr g5);have dL:a.to.toNat<m.aA.length:=dS;obtain⟨cM,ig⟩:=qh.recv g5;have r6:a.loc.toNat<(m.procs[p]'(aP.au)).vars.length:=ig;have jN:=aP.zL aL;have s3:=tJ aL dL;have amI:=oT dL;have hT:=(aL.chan _ (E2 dL)).cap;obtain⟨je,eH⟩:=qc dL;obtain⟨f6,f7,f8⟩:=pT m;obtain⟨db,rfl⟩:=HC.addr;obtain⟨nW,rfl⟩:=J.addr;have zH:=HC.ext Flat.ext gd;have dK:=((J.at a.to.toNat dL).cells).ext cL;have u9:pD m q a=lX m a.to.toNat:=by unfold pD;rw[if_pos g5,if_neg Aw,if_neg Aw,if_pos g5,AF8]
   have qW:j5 m q a=lX m a.to.toNat++[((cV m q+1+a.loc.toNat:Nat):Int)]:=by unfold j5;rw[if_neg Aw,if_neg Aw,if_neg Aw,if_neg Aw,if_pos g5,mb]
   have dN:(lX m a.to.toNat).length<=64:=(CF aL dL).len;refine I ?_;intro cB bt;replace ao:=bt.obj ao;replace cG:=bt.obj cG;replace gw:=bt.obj gw;replace zH:=zH.ext Flat.ext bt;replace dK:=dK.ext bt;refine I ?_;refine K_ a.to.toNat Aw Aw ?_;refine I ?_;refine K_ a.to.toNat Aw dL ?_;refine I ?_;refine J_ (T9 (b6 m a.to.toNat) (1+gF m a.to.toNat) _ _ cB (by rw[eH]) Aw Aw) ?_;rintro u cD ⟨fy,b0⟩;have aar:bm 1 (Flat bX) cD u (lX m a.to.toNat):=aK.e4 (enc:=bX) (λ_=>rfl) fy;obtain⟨To,Pm,rfl,_⟩:=aar.form;have fA:=(gd.trans bt).trans b0;have yU:=(C7.ext bt).ext b0;replace cG:=b0.obj cG;replace gw:=b0.obj gw;have z9:=fA.size;clear ao zH dK;refine I ?_;refine jZ.app yU aar Aw z9 λor' DZ CI et qY mX=>?_;have p3:Ext bg et:=fA.grown mX λi U=>(yU.cR.lt i U).1;have QQ:=yU.cR.box mX gw BS;have alS:bm 1 (Flat bX) et (.slice To (lX m a.to.toNat).length Pm) (lX m a.to.toNat):=aK.e4 (enc:=bX) (λ_=>rfl) (fy.mod (Mod.grown (A:=λk=>(Value.slice vr.1 vr.2.1 vr.2.2).ownBlock=some k) mX λk e=>e) λk hk e=>by
    have a:=(fy.lt k hk).1;have b:=(C7.cR.lt k e).2;have c:=bt.size;omega)
   refine I ?_;intro ft ef;have j1:=p3.trans ef;have tQ:=qY.ext ef;have alT:=alS.ext Flat.ext ef;have aax:=ef.obj QQ;have TM:=oD.ext Flat.ext j1;have Gi:=(TM.at q sU) 0 (.I (o.layout m).insts[q]) rfl;rw[add_zero,iD] at Gi;have hA:(kq m q c n).length+(lX m a.to.toNat).length+1<=100000:=Aw
   refine _o (avc (base:=bg.heap.size) (b9:=b9) (b13:=b13) (q:=q) (ni:=(o.layout m).insts.length) (ci:=d2) (a2:=a2) (iq:=cV m q) (tl:=a.loc) (vw:=vw) (vr:=(or',DZ,CI)) (lw:=kq m q c n) (lr:=ry m q c n++lX m a.to.toNat) (ys:=lX m a.to.toNat) (va:=.slice To (lX m a.to.toNat).length Pm)
    (by simp[bE]) (by simp[bE]) (by simp[bE]) (by simp[bE]) (by simp[bE]) (fP (j1.obj vm) rfl) Gi (fP aax rfl) Aw Aw ?_ ?_ ?_ tQ alT hA j1.size ?_)
   .intro e;have:=(C7.cA.lt b9 e).1;have:=cq vm;omega
   .intro e;have dr:=(C7.cA.lt a2.block e).1;have iA:=ah5 ((oD.at q sU) 0 (.I (o.layout m).insts[q]) rfl);rw[add_zero,Ah] at iA;omega
   .intro e;obtain⟨cur,dr⟩:=tQ.cA.cy b13 e;rw[aax] at dr;injection dr with dr;injection dr with _ dr;exact absurd dr BS
   .intro aZ hf NU CU qV C6 de;have ajc:aZ 10 = .slice or' DZ CI:=by rw[CU 10 (.inl Aw)];simp[bE]
    refine I ?_;refine⟨((or',DZ,CI),NU),⟨ajc,qV,trivial⟩,de bg j1 (E1 _),?_⟩;rw[kf,vF,u9,qW,<-NC,show((cV m q+1+a.loc.toNat:Nat):Int)=(cV m q:Int)+1+a.loc from Aw];exact C6
  .have abM:=qh.val g5;have zc:=qh.kind;have aoA:=(wX aL aP abM (E1 _)).len;refine I ?_;refine J_ (Ng _ _ _ a.value m q p bH (b2.ext cL) aG aL (C9.ext gd) aP (qo.ext gd) abM) ?_;rintro u cB ⟨gy,bt⟩;have G2:bm 1 (Flat bX) cB u (kb m q a.value a.value.length):=aK.e4 (enc:=bX) (λ_=>rfl) gy;obtain⟨To,Pm,rfl,_⟩:=G2.form;have hR:=gd.trans bt;have Ic:=hR.size;have J3:=C7.ext bt;refine I ?_;refine jZ.app J3 G2 Aw Ic λor' DZ CI cD yU ub=>?_;have fA:Ext bg cD:=hR.grown ub λi U=>(J3.cR.lt i U).1;replace gw:=J3.cR.box ub (bt.obj gw) BS;replace ao:=fA.obj y4;replace b3:=fA.obj y5;replace cG:=fA.obj vm;have fO:=bC.trans fA;have z9:=fA.size;have ql:(ry m q c n++kb m q a.value a.value.length).length<=30000:=by rw[HO];omega
   clear G2 gy J3 C7;obtain⟨f6,f7,f8⟩:=pT m;refine I ?_;refine I_ (λcM=>?_) (λcM=>?_)
   .obtain⟨fj,v,aH,iE⟩:=qh.set cM;have dS:a.to.toNat<m.vars.length:=(List.getElem?_eq_some_iff.1 aH).1;obtain⟨dP,gn⟩:=rB dS;obtain⟨a0,rfl⟩:=BM.addr;have ayf:=BM.ext Flat.ext fA;have u9:pD m q a=kb m q a.value a.value.length:=by unfold pD;rw[if_neg Aw,if_neg Aw,if_neg Aw,if_neg Aw,S5]
    have qW:j5 m q a=[((gb m a.to.toNat:Nat):Int)]:=by unfold j5;rw[if_pos cM,mb]
    refine I ?_;refine K_ a.to.toNat Aw Aw ?_;refine I ?_;intro et pF sR cd gZ;refine I ?_;rw[gn] at gZ;have qY:=yU.ext cd;refine jZ.app qY.symm (Ht gZ) (by simp only[List.length_singleton];omega) (by have:=cd.size;omega) λxR xQ wQ ft tQ A4=>?_;refine I ?_;exact⟨((or',DZ,CI),(xR,xQ,wQ)),⟨rfl,rfl,trivial⟩,(fA.trans cd).grown A4 λi U=>(qY.cA.lt i U).1,by rw[kf,vF,u9,qW];exact tQ.symm⟩
   refine I ?_;refine I_ (λcW=>?_) (λcW=>?_)
   .obtain⟨fj,dS,A5⟩:=qh.item cW;have dL:a.to.toNat<m.vars.length:=dS;have gK:a.to=(a.to.toNat:Nat):=Aw
    have kz:=(wX aL aP A5 (E1 _)).len;have u9:pD m q a=kb m q a.value a.value.length++kb m q a.index a.index.length:=by unfold pD;rw[if_neg Aw,if_pos cW]
    have qW:j5 m q a=mC m q a.to.toNat (pX a):=by unfold j5;rw[if_neg cM,if_pos cW]
    have awP:=(SR aL aP.av dL (pX a)).len;refine I ?_;refine J_ (Ng _ _ _ a.index m q p cD (b2.ext fO) aG aL (C9.ext fA) aP (ot.ext fA) A5) ?_;rintro u et ⟨ou,cd⟩;have Sy:bm 1 (Flat bX) et u (kb m q a.index a.index.length):=aK.e4 (enc:=bX) (λ_=>rfl) ou;obtain⟨aqC,ahR,rfl,_⟩:=Sy.form;have qY:=yU.ext cd;have p3:=fA.trans cd;refine I ?_;refine jZ.app qY Sy Aw p3.size λM5 M1 Je ft tQ A4=>?_;have j1:Ext bg ft:=p3.grown A4 λi U=>(qY.cR.lt i U).1;replace gw:=qY.cR.box A4 (cd.obj gw) BS;replace ao:=j1.obj y4;replace cG:=j1.obj vm;have qV:=bC.trans j1;clear Sy ou qY;refine I ?_;intro hf dH;have mI:=j1.trans dH;have oc:=qV.trans dH;replace ao:=dH.obj ao;replace cG:=dH.obj cG;replace gw:=dH.obj gw;have C6:=tQ.ext dH;have aw4:=ot.ext mI;refine I ?_;apply I_<;>intro g6
    .have uj:=ae9 (a:=a) Aw;obtain⟨rQ,rfl⟩:=ot.addr;have nJ:=(A5.node 0 Aw).1;refine I ?_;refine K_ 0 rfl Aw ?_;refine I ?_;rw[gK];refine J_ (T4 _ _ m q a.to.toNat (decide ((a.index[0]' Aw).op=5)) hf (b2.ext oc) aG aL (C9.ext mI) aP.av dL (λa7=>afa aP nJ (by simpa using a7))) ?_;rw[<-uj];rintro u jX ⟨vD,fW⟩;have vH:bm 1 (Flat bX) jX u (mC m q a.to.toNat (pX a)):=aK.e4 (enc:=bX) (λ_=>rfl) vD;obtain⟨aqD,ahS,rfl,_⟩:=vH.form;have yT:=C6.ext fW;have oI:=mI.trans fW;refine I ?_;refine jZ.app yT.symm vH Aw oI.size λxR xQ wQ sm FR Gt=>?_;refine I ?_;refine⟨((M5,M1,Je),(xR,xQ,wQ)),⟨rfl,rfl,trivial⟩,oI.grown Gt λi U=>(yT.cA.lt i U).1,?_⟩;rw[kf,vF,u9,qW,<-NC];exact FR.symm
    .have uj:=ae8 (a:=a) Aw;refine I ?_;rw[gK];refine J_ (T4 _ _ m q a.to.toNat false hf (b2.ext oc) aG aL (C9.ext mI) aP.av dL (λa7=>by cases a7)) ?_;rw[<-uj];rintro u jX ⟨vD,fW⟩;have vH:bm 1 (Flat bX) jX u (mC m q a.to.toNat (pX a)):=aK.e4 (enc:=bX) (λ_=>rfl) vD;obtain⟨aqD,ahS,rfl,_⟩:=vH.form;have yT:=C6.ext fW;have oI:=mI.trans fW;refine I ?_;refine jZ.app yT.symm vH Aw oI.size λxR xQ wQ sm FR Gt=>?_;refine I ?_;refine⟨((M5,M1,Je),(xR,xQ,wQ)),⟨rfl,rfl,trivial⟩,oI.grown Gt λi U=>(yT.cA.lt i U).1,?_⟩;rw[kf,vF,u9,qW,<-NC];exact FR.symm
   refine I ?_;refine I_ (λfr=>?_) (λfr=>?_)
   .obtain⟨fj,dS⟩:=qh.loc fr;have dL:a.to.toNat<(m.procs[p]'(aP.au)).vars.length:=dS;have jN:=aP.zL aL;have u9:pD m q a=kb m q a.value a.value.length:=by unfold pD;rw[if_neg Aw,if_neg Aw,if_neg Aw,if_neg Aw,S5]
    have qW:j5 m q a=[((cV m q+1+a.to.toNat:Nat):Int)]:=by unfold j5;rw[if_neg Aw,if_neg Aw,if_pos fr,mb]
    have TN:=oD.ext Flat.ext fA;refine I ?_;intro et cd;refine I ?_;rw[iD];refine I ?_;intro ft avF awh ef al6;refine I ?_;have tQ:=(yU.ext cd).ext ef;refine jZ.app tQ.symm (Ht al6) (by simp only[List.length_singleton];omega) (by have:=cd.size;have:=ef.size;omega) λxR xQ wQ hf C6 vu=>?_;refine I ?_;refine⟨((or',DZ,CI),(xR,xQ,wQ)),⟨rfl,rfl,trivial⟩,((fA.trans cd).trans ef).grown vu λi U=>(tQ.cA.lt i U).1,?_⟩;rw[kf,vF,u9,qW,show((cV m q+1+a.to.toNat:Nat):Int)=(cV m q:Int)+1+a.to from Aw];exact C6.symm
   have hN:a.kind=4:=Aw
   obtain⟨fj,dS⟩:=qh.chan (.inl hN);have dL:a.to.toNat<m.aA.length:=dS;have s3:=tJ aL dL;have amI:=oT dL;have hT:=(aL.chan _ (E2 dL)).cap;obtain⟨je,eH⟩:=qc dL;obtain⟨db,rfl⟩:=HC.addr;obtain⟨nW,rfl⟩:=J.addr;have ar6:=HC.ext Flat.ext fA;have u9:pD m q a=kb m q a.value a.value.length++[((b6 m a.to.toNat:Nat):Int)]:=by unfold pD;rw[if_neg Aw,if_neg Aw,if_pos hN,mb]
   have qW:j5 m q a=lX m a.to.toNat:=by unfold j5;rw[if_neg Aw,if_neg Aw,if_neg Aw,if_pos hN]
   have dN:(lX m a.to.toNat).length<=64:=(CF aL dL).len;refine I ?_;refine K_ a.to.toNat Aw Aw ?_;refine I ?_;intro et pF sR cd gZ;refine I ?_;rw[eH] at gZ;have qY:=yU.ext cd;have p3:=fA.trans cd;refine jZ.app qY (Ht gZ) (by simp only[List.length_singleton];omega) (by have:=cd.size;omega) λM5 M1 Je ft tQ A4=>?_;have j1:Ext bg ft:=p3.grown A4 λi U=>(qY.cR.lt i U).1;replace gw:=qY.cR.box A4 (cd.obj gw) BS;replace ao:=j1.obj y4;replace cG:=j1.obj vm;have qV:=bC.trans j1;have aeh:=HC.ext Flat.ext j1;have dK:=((J.at a.to.toNat dL).cells).ext qV;clear qY ar6;refine I ?_;intro hf dH;replace ao:=dH.obj ao;replace cG:=dH.obj cG;replace gw:=dH.obj gw;replace aeh:=aeh.ext Flat.ext dH;replace dK:=dK.ext dH;refine I ?_;refine K_ a.to.toNat Aw Aw ?_;refine I ?_;refine K_ a.to.toNat Aw dL ?_;refine I ?_;refine J_ (T9 (b6 m a.to.toNat) (1+gF m a.to.toNat) _ _ hf (by rw[eH]) Aw Aw) ?_;rintro u jX ⟨vD,fW⟩;have vH:bm 1 (Flat bX) jX u (lX m a.to.toNat):=aK.e4 (enc:=bX) (λ_=>rfl) vD;obtain⟨aqC,ahR,rfl,_⟩:=vH.form;have yT:=(tQ.ext dH).ext fW;have oI:=(j1.trans dH).trans fW;refine I ?_;refine jZ.app yT.symm vH Aw oI.size λxR xQ wQ sm FR Gt=>?_;refine I ?_;refine⟨((M5,M1,Je),(xR,xQ,wQ)),⟨rfl,rfl,trivial⟩,oI.grown Gt λi U=>(yT.cA.lt i U).1,?_⟩;rw[kf,vF,u9,qW,<-NC];exact FR.symm
 .have vC:c.bL.length=n:=Aw
  have kf:=Nh aL aP jf n Aw;have vF:=H6 aL aP jf n Aw;have alu:c3 bp (.slice vr.1 vr.2.1 vr.2.2) (ry m q c n):=aK.e4 (enc:=bX) (λ_=>rfl) gv.cR;have Dc:c3 bp (.slice vw.1 vw.2.1 vw.2.2) (kq m q c n):=aK.e4 (enc:=bX) (λ_=>rfl) gv.cA;refine I ?_;refine J_ (aeO _ _ bp alu kf.aV (by have:=kf.len;omega)) ?_;rintro u bH ⟨⟨TT,RP,R3⟩,bc⟩;refine I ?_;refine J_ (aeO _ _ bH (Dc.ext Flat.ext bc) vF.aV (by have:=vF.len;omega)) ?_;rintro wb cB ⟨⟨HF,RQ,R4⟩,bt⟩;refine I ?_;have tk:=(bC.trans aC).size;have Ib:=bc.size;refine⟨⟨_,_,TT,HF,rfl,aK.ext bt (aK.low tk RP),aK.low (Ns tk Ib) RQ,?_⟩,((bC.trans aC).trans bc).trans bt⟩;subst tW;refine kM.of br ?_ ?_
  .rw[vC];exact asU R3 λx=>(asw m q _ n x).symm
  .rw[vC];exact R4
end Go.Proofs.R
namespace o
open Go
def ajY(x:Node)(h : -1000<=x.op/\x.op<=1000 /\ -1000<=x.n/\x.n<=1000):x.ok:=⟨pS ⟨h.1,h.2.1⟩,pS h.2.2⟩
end o
namespace o
def aee{s:C_ Scalar}{c:ea}{l:C_ Int}(aE:l.length=1+c.cap.toNat)(ad:1<=c.cap):mh s c l↔(0<=l[0]' Aw/\l[0]' Aw<=c.cap/\∀k (h:k+1<l.length),((k:Int)<l[0]' Aw->(e7 c.scalar c.aV c.U s).aV<=l[k+1]/\l[k+1]<=(e7 c.scalar c.aV c.U s).U)/\(l[0]' Aw<=k->l[k+1]=0)):=by
 unfold mh;constructor
 .rintro⟨n,h1,J,ab,aF⟩;obtain⟨_,rfl⟩:=List.getElem?_eq_some_iff.1 h1;refine⟨J,ab,λk h=>?_⟩;obtain⟨x,a7,bJ⟩:=aF k Aw;obtain⟨_,rfl⟩:=List.getElem?_eq_some_iff.1 a7;exact bJ
 .rintro⟨J,ab,aF⟩;exact⟨l[0]' Aw,List.getElem?_eq_getElem _,J,ab,λk h=>⟨l[k+1]' Aw,List.getElem?_eq_getElem _,aF k Aw⟩⟩
end o
namespace Go.Proofs.R
open Go Go.RowKit ba o
def yu.form{w:A_}{b:Nat}{m:o.Model}(h:yu w b m):∃bZ bz bN c1 bT c2 bW bw b1 bD eD d0 dI d1 ec d2 ep d3 eM d4 ca ci,
  w.heap[b]? = some (.cells #[.slice bZ (o.layout m).vars.length bz,.slice bN (o.layout m).aA.length c1,.slice bT (o.layout m).insts.length c2,.I (o.layout m).cells,.slice bW (o.layout m).aV.length bw,.slice b1 (o.layout m).U.length bD,
   .slice eD m.scalars.length d0,.slice dI m.vars.length d1,.slice ec m.aA.length d2,.slice ep m.procs.length d3,.slice eM m.props.length d4,.slice ca (o.insts m).length ci] T.iN) /\
  bm 1 (Flat bX) w (.slice bZ (o.layout m).vars.length bz) (o.layout m).vars/\bm 1 (Flat bX) w (.slice bN (o.layout m).aA.length c1) (o.layout m).aA/\bm 1 (Flat bX) w (.slice bT (o.layout m).insts.length c2) (o.layout m).insts /\
  bm 1 (Flat bX) w (.slice bW (o.layout m).aV.length bw) (o.layout m).aV/\bm 1 (Flat bX) w (.slice b1 (o.layout m).U.length bD) (o.layout m).U /\
  iz w (.slice eD m.scalars.length d0) m.scalars/\h8 w (.slice dI m.vars.length d1) m.vars/\nv w (.slice ec m.aA.length d2) m.aA/\rJ w (.slice ep m.procs.length d3) m.procs /\
  ix w (.slice ca (o.insts m).length ci) (o.insts m):=by
 obtain⟨xs,cs,bK,ak,ck,aL,aP⟩:=h.ex;obtain⟨bZ,bz,bN,c1,bT,c2,bW,bw,b1,bD,rfl,dF,cR,cA,eN,fs⟩:=ck.form;obtain⟨eD,d0,dI,d1,ec,d2,ep,d3,eM,d4,rfl,ad,h1,J,ab,aF,_⟩:=aL.form;obtain⟨ca,ci,rfl,_⟩:=aP.form;exact⟨bZ,bz,bN,c1,bT,c2,bW,bw,b1,bD,eD,d0,dI,d1,ec,d2,ep,d3,eM,d4,ca,ci,ak,dF,cR,cA,eN,fs,ad,h1,J,ab,aP⟩
def ar2(b i:Nat)(v:B_)(s:C_ Int)(m:o.Model)(w:A_)(aT:yu w b m)(aL:eE m)(U:i<m.aA.length)(aj:c3 w v s)(aE:s.length=di m) :
  Ei F.Jr #[.pointer (some ⟨b,0,none⟩),.I i,v] w λu w'=>(∃t:Bool,u = .bool t/\(t=true↔mh m.scalars m.aA[i] (n4 m i m.aA[i] s)))/\Ext w w':=by
 obtain⟨bZ,bz,bN,c1,bT,c2,bW,bw,b1,bD,eD,d0,dI,d1,ec,d2,ep,d3,eM,d4,ca,ci,ak,dF,cR,cA,eN,fs,ad,h1,J,ab,aP⟩:=aT.form;obtain⟨ei,eZ,rfl,fa⟩:=aj.form;have c9:=aL.chan _ (E2 U);have hT:=c9.cap;have gj:=aL.gj;obtain⟨je,eH⟩:=qc U;have oo:=wL U;have eI:=nC m;have jN:di m<=64:=iH aL;obtain⟨ac,rfl⟩:=J.addr;obtain⟨db,rfl⟩:=cR.addr;have dK:=(J.at i U).cells;refine bk E.Jr ?_;refine I ?_;intro w1 ia hi af b3;replace ak:=af.obj ak;replace ad:=ad.ext af;replace cR:=cR.ext Flat.ext af;replace aj:=aj.ext Flat.ext af;clear dK h1 J ab aP dF cA eN fs aT;refine I ?_;refine P_ (.tuple #[.I (e7 m.aA[i].scalar m.aA[i].aV m.aA[i].U m.scalars).aV,.I (e7 m.aA[i].scalar m.aA[i].aV m.aA[i].U m.scalars).U]) (λw' e=>by
  rw[show e7 m.aA[i].scalar m.aA[i].aV m.aA[i].U m.scalars=_ from An ⟨⟨#[]⟩,m.aA[i].scalar,0,m.aA[i].aV,m.aA[i].U,0⟩ m.scalars];exact IY ⟨⟨#[]⟩,m.aA[i].scalar,0,m.aA[i].aV,m.aA[i].U,0⟩ _ m.scalars w' (ad.ext e)) ?_
 refine I ?_;intro az ai;replace ak:=ai.obj ak;replace cR:=cR.ext Flat.ext ai;replace aj:=aj.ext Flat.ext ai;replace b3:=ai.obj b3;have aD:=af.trans ai;obtain⟨aV,hA⟩:∃aV,aV=(e7 m.aA[i].scalar m.aA[i].aV m.aA[i].U m.scalars).aV:=⟨_,rfl⟩;obtain⟨cw,ud⟩:∃U,U=(e7 m.aA[i].scalar m.aA[i].aV m.aA[i].U m.scalars).U:=⟨_,rfl⟩;rw[<-hA,<-ud];refine I ?_;refine _W (k:=.i64) (k':=.i64) (b6 m i) (b6 m i+(1+m.aA[i].cap.toNat)) aj (by simp[dc,bE,eH]) (by simp[dc,bE,eH];omega) Aw Aw λae c au=>?_;rw[show b6 m i+(1+m.aA[i].cap.toNat) - b6 m i=1+m.aA[i].cap.toNat from Aw] at au ⊢;obtain⟨l,ck⟩:∃l,l=n4 m i m.aA[i] s:=⟨_,rfl⟩;have au:bm 1 (Flat bX) az (.slice ae (1+m.aA[i].cap.toNat) c) l:=by rw[ck];exact au
 have ql:l.length=1+m.aA[i].cap.toNat:=au.len.1.symm;rw[<-ck];obtain⟨ap,rfl⟩:=au.addr;refine I ?_;intro aM ag;replace au:=au.ext Flat.ext ag;replace b3:=ag.obj b3;have aO:=aD.trans ag;have av:=aee (s:=m.scalars) (c:=m.aA[i]) (l:=l) ql hT.1;rw[<-hA,<-ud] at av;refine I ?_;refine K_ 0 rfl Aw ?_;refine I ?_;apply I_<;>intro g1
 .refine I ?_;intro aR aq;exact⟨⟨false,rfl,by simp only[Bool.false_eq_true,false_iff];intro h;exact absurd (av.1 h).1 Aw⟩,aO.trans aq⟩
 refine I ?_;refine K_ 0 rfl Aw ?_;refine I ?_;intro aR aq;replace au:=au.ext Flat.ext aq;replace b3:=aq.obj b3;replace aO:=aO.trans aq;apply I_<;>intro g2
 .refine I ?_;exact⟨⟨false,rfl,by simp only[Bool.false_eq_true,false_iff];intro h;exact absurd (av.1 h).2.1 Aw⟩,aO⟩
 have aB:=au.tail 1 Aw;refine I ?_;refine _8 (k:=.i64) 1 (by simp[oY]) ⟨Aw,au.len.2.1⟩ ?_;obtain⟨qs,het⟩:∃qs,qs=(if c=1 then some ap else (some ap).map (·.add (1*1))):=⟨_,rfl⟩;rw[<-het] at aB ⊢;have axd:(l.drop 1).length=m.aA[i].cap.toNat:=by rw[AF5];omega
 rw[show 1+m.aA[i].cap.toNat - 1=m.aA[i].cap.toNat from Aw] at aB ⊢;refine I ?_;refine L_ 74 m.aA[i].cap.toNat [7,8,9,10,72,73] (λ_:Unit=>[]) () (λk _ W=>Ext aR W/\∀j (h:j+1<l.length),j<k->((j:Int)<l[0]->aV<=l[j+1]/\l[j+1]<=cw)/\(l[0]<=j->l[j+1]=0)) a6 a6 ⟨Ext.refl _,λj _ h=>absurd h (E3 _)⟩ ?_;have Gd:=b3;clear b3;rintro k _ S bg hk ⟨ar,dx⟩;have b3:=ar.obj Gd;have bo:=aO.trans ar;refine I ?_;apply I_<;>intro g3
 .have a1:k<(l.drop 1).length:=Aw
  have b8:k+1<l.length:=Aw
  obtain⟨at_,rfl⟩:=aB.addr;have aH:(l.drop 1)[k]=l[k+1]:=by simp[Nat.add_comm]
  have bad:¬(((k:Int)<l[0]->aV<=l[k+1]/\l[k+1]<=cw)/\(l[0]<=k->l[k+1]=0))->(false=true↔mh m.scalars m.aA[i] l):=λh=>by
   simp only[Bool.false_eq_true,false_iff];exact λcI=>h ((av.1 cI).2.2 k b8)
  refine I ?_;refine K_ 0 rfl Aw ?_;refine I ?_;apply I_<;>intro g4
  .refine I ?_;apply I_<;>intro g5
   .refine I ?_;exact⟨⟨false,rfl,bad λh=>by have:=h.1 g4;omega⟩,bo⟩
   refine I ?_;apply I_<;>intro g6
   .refine I ?_;exact⟨⟨false,rfl,bad λh=>by have:=h.1 g4;omega⟩,bo⟩
   refine I ?_;refine K_ 0 rfl Aw ?_;refine I ?_;refine⟨Aw,aJ,(),trivial,ar,λj h ay=>?_⟩;by_cases hj:j=k
   .subst hj;exact⟨λ_=>Aw,λ_=>Aw⟩
   .exact dx j h Aw
  .refine I ?_;refine K_ 0 rfl Aw ?_;refine I ?_;apply I_<;>intro g5
   .refine I ?_;refine⟨Aw,aJ,(),trivial,ar,λj h ay=>?_⟩;by_cases hj:j=k
    .subst hj;exact⟨λ_=>Aw,λ_=>Aw⟩
    .exact dx j h Aw
   .refine I ?_;exact⟨⟨false,rfl,bad λh=>by have:=h.2 Aw;omega⟩,bo⟩
 .refine I ?_;exact⟨⟨true,rfl,by simp only[true_iff];exact av.2 ⟨Aw,Aw,λj h=>dx j h Aw⟩⟩,bo⟩
def asT(b:Nat)(v:B_)(s:C_ Int)(m:o.Model)(w:A_)(aT:yu w b m)(aL:eE m)(aj:c3 w v s) :
  Ei F.Jd #[.pointer (some ⟨b,0,none⟩),v] w λu w'=>(∃t:Bool,u = .bool t/\(t=true↔o.Fits m s))/\Ext w w':=by
 obtain⟨bZ,bz,bN,c1,bT,c2,bW,bw,b1,bD,eD,d0,dI,d1,ec,d2,ep,d3,eM,d4,ca,ci,ak,dF,cR,cA,eN,fs,ad,h1,J,ab,aP⟩:=aT.form;obtain⟨ei,eZ,rfl,fa⟩:=aj.form;have AE:(o.layout m).cells=(di m:Int):=rfl;have f2:=Ld m;have f3:=Lb m;have jN:di m<=64:=iH aL;have gj:=aL.gj;refine bk E.Jd ?_;refine I ?_;apply I_<;>intro g1;rotate_left
 .refine I ?_;exact⟨⟨false,rfl,by simp only[Bool.false_eq_true,false_iff];intro h;have:=h.len;omega⟩,Ext.refl _⟩
 have aE:s.length=di m:=Aw
 clear ad h1 ab aP dF cR cA;refine I ?_;refine L_ 22 m.aA.length [0,1,20,21] (λ_:Unit=>[]) () (λk _ W=>Ext w W/\∀j (h:j<m.aA.length),j<k->mh m.scalars m.aA[j] (n4 m j m.aA[j] s)) a6 a6 ⟨Ext.refl _,λj _ h=>absurd h (E3 _)⟩ ?_;rintro k _ S w1 hk ⟨af,dx⟩;refine I ?_;apply I_<;>intro g2
 .have a1:k<m.aA.length:=Aw
  refine I ?_;refine J_ (ar2 b k _ s m w1 (aT.ext af) aL a1 (aj.ext Flat.ext af) aE) ?_;rintro _ az ⟨⟨t,rfl,aB⟩,ai⟩;cases t with
  | false =>
   refine I ?_;exact⟨⟨false,rfl,by simp only[Bool.false_eq_true,false_iff];intro h;exact absurd (aB.2 (h.queue k a1)) CC⟩,af.trans ai⟩
  | true =>
   refine I ?_;refine⟨a1,aJ,(),trivial,af.trans ai,λj h ay=>?_⟩;by_cases hj:j=k
   .subst hj;exact aB.1 rfl
   .exact dx j h Aw
 have aoa:∀j (h:j<m.aA.length),mh m.scalars m.aA[j] (n4 m j m.aA[j] s):=λj h=>dx j h Aw;have Dg:=af.obj ak;refine I ?_;refine L_ 33 s.length [0,1,31,32] (λ_:Unit=>[]) () (λk _ W=>W=w1/\∀j (h:j<s.length) (bq:j<(cp m).length),j<k->(cp m)[j].aV<=s[j]/\s[j]<=(cp m)[j].U) a6 a6 ⟨rfl,λj _ _ h=>absurd h (E3 _)⟩ ?_;clear ak;rintro k' _ aZ az b8 ⟨rfl,De⟩;refine I ?_;apply I_<;>intro g3
 .have a1:k'<s.length:=Aw
  have oq:k'<(cp m).length:=by unfold di at aE;omega
  have dU:(o.layout m).aV[k']' Aw=(cp m)[k'].aV:=Lc _ oq;have eg:(o.layout m).U[k']' Aw=(cp m)[k'].U:=La _ oq;obtain⟨nY,rfl⟩:=aj.addr;obtain⟨a3,rfl⟩:=eN.addr;obtain⟨a4,rfl⟩:=fs.addr;have bad:¬((cp m)[k'].aV<=s[k']/\s[k']<=(cp m)[k'].U)->(false=true↔o.Fits m s):=λh=>by
   simp only[Bool.false_eq_true,false_iff];exact λcI=>h (cI.cell k' a1 oq)
  refine I ?_;apply I_<;>intro g4
  .refine I ?_;exact⟨⟨false,rfl,bad Aw⟩,af⟩
  refine I ?_;apply I_<;>intro g5
  .refine I ?_;exact⟨⟨false,rfl,bad Aw⟩,af⟩
  refine I ?_;refine⟨a1,aJ,(),trivial,aJ,λj h bq ay=>?_⟩;by_cases hj:j=k'
  .subst hj;omega
  .exact De j h bq Aw
 .refine I ?_;exact⟨⟨true,rfl,by simp only[true_iff];exact⟨aE,aoa,λj h bq=>De j h bq Aw⟩⟩,af⟩
end Go.Proofs.R
namespace o
open Classical in
noncomputable def HB(s:C_ Scalar)(c:ea)(l:C_ Int):Bool:=decide (mh s c l)
def TK{s:C_ Scalar}{c:ea}{l:C_ Int}:HB s c l=true↔mh s c l:=by unfold HB;simp
def ar0{s:C_ Scalar}{c:ea}{l:C_ Int}{t:Bool}(h:t=true↔mh s c l):t=HB s c l:=by
 rw[<-TK] at h;cases t<;>cases av:HB s c l<;>simp_all
end o
namespace Go.Proofs.R
open Go Go.RowKit ba o
def aft(cs:C_ B_)(m:o.Model)(v:B_)(s:C_ Int)(w:A_)(h:dh w cs m)(aG:m.cr)(aS:gQ w)(aj:c3 w v s) :
  Ei F.bx #[.agg cs.toArray,v] w λu w'=>(∃t:Bool,u = .bool t/\(t=true↔gE m s))/\Ext w w':=by
 have aL:=h;obtain⟨bZ,bz,bN,c1,bT,c2,bW,bw,b1,bD,rfl,_⟩:=h.form;refine bk E.bx ?_;refine I ?_;intro w1 bx cN af al;refine I ?_;refine J_ (asx _ m w1 (aL.ext af) aG (aS.ext af)) ?_;rintro _ az ⟨aT,ai⟩;have aD:=af.trans ai;rcases aT with ⟨rfl,hk⟩ | ⟨b,rfl,hk,aT⟩
 .refine I ?_;refine AB8 Cx ?_;refine I ?_;exact⟨⟨false,rfl,by simp only[Bool.false_eq_true,false_iff];exact λh=>hk h.1⟩,aD⟩
 .refine I ?_;refine AB9 Cx ?_;refine I ?_;refine J_ (asT b _ s m az aT (gU hk) (aj.ext Flat.ext aD)) ?_;rintro _ aM ⟨⟨t,rfl,aB⟩,ag⟩;refine I ?_;exact⟨⟨t,by cases t<;>rfl,aB.trans ⟨λh=>⟨hk,h⟩,λh=>h.2⟩⟩,aD.trans ag⟩
def MQ(cs:C_ B_)(m:o.Model)(w:A_)(h:dh w cs m)(aG:m.cr) :
  Ei F.LX #[.agg cs.toArray] w λv w'=>v = .bool (decide ((o.check m).cJ=0))/\Ext w w':=by
 obtain⟨bZ,bz,bN,c1,bT,c2,bW,bw,b1,bD,rfl,_⟩:=h.form;refine bk E.LX ?_;refine I ?_;intro w1 bx cN af al;refine I ?_;refine J_ (HI _ m w1 (h.ext af) aG) ?_;rintro _ az ⟨rfl,ai⟩;unfold vf;refine I ?_;refine Y_ (v:=.I (o.check m).cJ) rfl ?_;refine I ?_;exact⟨aJ,af.trans ai⟩
def asq(cs:C_ B_)(m:o.Model)(v:B_)(l:C_ Int)(i:Nat)(w:A_)(h:dh w cs m)(aL:eE m)(U:i<m.aA.length)(au:c3 w v l)(ql:l.length=1+m.aA[i].cap.toNat) :
  Ei F.Md #[.agg cs.toArray,v,.I i] w λu w'=>(∃t:Bool,u = .bool t/\(t=true↔mh m.scalars m.aA[i] l))/\Ext w w':=by
 obtain⟨bZ,bz,bN,c1,bT,c2,bW,bw,b1,bD,rfl,ad,h1,J,ab,aF,eB,dD,dO,dU,eg⟩:=h.form;obtain⟨ei,eZ,rfl,fa⟩:=au.form;have c9:=aL.chan _ (E2 U);have hT:=c9.cap;have gj:=aL.gj;obtain⟨ac,rfl⟩:=J.addr;obtain⟨ap,rfl⟩:=au.addr;have dK:=(J.at i U).cells;have av:=aee (s:=m.scalars) (c:=m.aA[i]) (l:=l) ql hT.1;obtain⟨aV,hA⟩:∃aV,aV=(e7 m.aA[i].scalar m.aA[i].aV m.aA[i].U m.scalars).aV:=⟨_,rfl⟩;obtain⟨cw,ud⟩:∃U,U=(e7 m.aA[i].scalar m.aA[i].aV m.aA[i].U m.scalars).U:=⟨_,rfl⟩;rw[<-hA,<-ud] at av;refine bk E.Md ?_;refine I ?_;intro w1 bx cN af al;replace dK:=dK.ext af;refine I ?_;intro az ia hi ai b3;replace al:=ai.obj al;have aD:=af.trans ai;replace au:=au.ext Flat.ext aD;clear dK;refine I ?_;refine K_ 0 rfl Aw ?_;refine I ?_;apply I_<;>intro g1
 .refine I ?_;intro aM ag;refine I ?_;exact⟨⟨false,rfl,by simp only[Bool.false_eq_true,false_iff];intro h;exact absurd (av.1 h).1 Aw⟩,aD.trans ag⟩
 refine I ?_;refine K_ 0 rfl Aw ?_;refine I ?_;intro aM ag;replace al:=ag.obj al;replace b3:=ag.obj b3;replace au:=au.ext Flat.ext ag;have aO:=aD.trans ag;apply I_<;>intro g2
 .refine I ?_;exact⟨⟨false,rfl,by simp only[Bool.false_eq_true,false_iff];intro h;exact absurd (av.1 h).2.1 Aw⟩,aO⟩
 refine I ?_;refine J_ (TX ⟨⟨#[]⟩,m.aA[i].scalar,0,m.aA[i].aV,m.aA[i].U,0⟩ _ m.scalars aM (ad.ext aO)) ?_;rintro _ aR ⟨rfl,aq⟩;have Zg:((o.bounds ⟨⟨#[]⟩,m.aA[i].scalar,0,m.aA[i].aV,m.aA[i].U,0⟩ m.scalars).1=aV)/\(o.bounds ⟨⟨#[]⟩,m.aA[i].scalar,0,m.aA[i].aV,m.aA[i].U,0⟩ m.scalars).2=cw:=by
  rw[hA,ud,show e7 m.aA[i].scalar m.aA[i].aV m.aA[i].U m.scalars=_ from An ⟨⟨#[]⟩,m.aA[i].scalar,0,m.aA[i].aV,m.aA[i].U,0⟩ m.scalars];exact⟨rfl,rfl⟩
 rw[Zg.1,Zg.2];have Gd:=aq.obj b3;replace au:=au.ext Flat.ext aq;have bo:=aO.trans aq;refine I ?_;refine _L [1,7,8,9] (λx:Nat=>[(10,.I ((x:Int)+1))]) 0 (λx W=>Ext aR W/\(x:Int)<=m.aA[i].cap/\∀j (h:j+1<l.length),j<x->((j:Int)<l[0]->aV<=l[j+1]/\l[j+1]<=cw)/\(l[0]<=j->l[j+1]=0)) (λx=>(m.aA[i].cap - x).toNat) a6 ⟨Ext.refl _,Aw,λj _ h=>absurd h (E3 _)⟩ ?_;clear al b3;rintro k S bg ⟨ar,hk,dx⟩;have b3:=ar.obj Gd;have bC:=bo.trans ar;replace au:=au.ext Flat.ext ar;refine I ?_;apply I_<;>intro g3
 .have b8:k+1<l.length:=Aw
  have bad:¬(((k:Int)<l[0]->aV<=l[k+1]/\l[k+1]<=cw)/\(l[0]<=k->l[k+1]=0))->(false=true↔mh m.scalars m.aA[i] l):=λh=>by
   simp only[Bool.false_eq_true,false_iff];exact λcI=>h ((av.1 cI).2.2 k b8)
  refine I ?_;refine K_ 0 rfl Aw ?_;refine I ?_;apply I_<;>intro g4
  .refine I ?_;apply I_<;>intro g5
   .refine I ?_;exact⟨⟨false,rfl,bad λh=>by have:=h.1 Aw;omega⟩,bC⟩
   refine I ?_;apply I_<;>intro g6
   .refine I ?_;exact⟨⟨false,rfl,bad λh=>by have:=h.1 Aw;omega⟩,bC⟩
   refine I ?_;refine K_ 0 rfl Aw ?_;refine I ?_;exact⟨k+1,a6,⟨ar,Aw,λj h ay=>by
    by_cases hj:j=k
    .subst hj;exact⟨λ_=>Aw,λ_=>Aw⟩
    .exact dx j h Aw⟩,Aw⟩
  .refine I ?_;refine K_ 0 rfl Aw ?_;refine I ?_;apply I_<;>intro g5
   .refine I ?_;exact⟨k+1,a6,⟨ar,Aw,λj h ay=>by
     by_cases hj:j=k
     .subst hj;exact⟨λ_=>Aw,λ_=>Aw⟩
     .exact dx j h Aw⟩,Aw⟩
   .refine I ?_;exact⟨⟨false,rfl,bad λh=>by have:=h.2 Aw;omega⟩,bC⟩
 .refine I ?_;exact⟨⟨true,rfl,by simp only[true_iff];exact av.2 ⟨Aw,Aw,λj h=>dx j h Aw⟩⟩,bC⟩
end Go.Proofs.R