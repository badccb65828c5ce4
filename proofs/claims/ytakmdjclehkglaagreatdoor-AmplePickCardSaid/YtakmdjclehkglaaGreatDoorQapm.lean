/- Parts. -/
import Derived.Test.YtakmdjclehkglaaGreatDoorQapl
import Derived.Shelf.SlGeneric
import Derived.Shelf.SlIterI.Nil
import Derived.Shelf.SortM.Plain
import Derived.Shelf.SortM.SortNone
set_option linter.all false
set_option maxRecDepth 8000
set_option maxHeartbeats 16000000
namespace o
open Go
structure fa(m:Model)(ref:Int)(q p k:Nat):Prop where
 ok:(check m).cJ=0
 aV:0<=ref
 U:ref.toNat<(refs m).length
 at_:WY m ((refs m)[ref.toNat]) q p k
def Told(m:Model)(ref:Int):Prop:=(check m).cJ=0/\0<=ref/\ref<(refs m).length
def mI{m:Model}{ref:Int}(h:Told m ref):∃q p k,fa m ref q p k:=by
 obtain⟨h1,I,ab⟩:=h;obtain⟨q,p,k,aC⟩:=asl (ED (show ref.toNat<(refs m).length by omega));exact⟨q,p,k,h1,I,Ad,aC⟩
def fa.told{m:Model}{ref:Int}{q p k:Nat}(h:fa m ref q p k):Told m ref:=⟨h.ok,h.aV,by have:=h.U;have:=h.aV;omega⟩
def fa.inst{m:Model}{ref:Int}{q p k:Nat}(h:fa m ref q p k):fJ m q p:=by
 obtain⟨gA,ar⟩:=A7 h.at_.U;have e:gA=p:=by
  have h1:=ar.eq;rw[h.at_.ip] at h1;omega
 subst e;exact ar
theorem fa.one{m:Model}{ref:Int}{q p k eK gA k':Nat}(h:fa m ref q p k)(br:fa m ref eK gA k'):q=eK/\p=gA/\k=k':=by
 have bF:q=eK:=by have a:=h.at_.mX;have b:=br.at_.mX;omega
 subst bF;have a:=h.at_.ip;have b:=br.at_.ip;have c:=h.at_.pI;have d:=br.at_.pI;exact⟨rfl,Ad,Ad⟩
def bN(m:Model)(p k:Nat):dI:=((m.procs[p]?.map (·.c0[k]?)).join).getD ⟨⟨#[]⟩,0,0,[],[],false⟩
def sv{m:Model}{p k:Nat}(ar:p<m.procs.length)(hk:k<m.procs[p].c0.length):bN m p k=m.procs[p].c0[k]:=by
 unfold bN;rw[List.getElem?_eq_getElem ar];simp[hk]
def fa.cin{m:Model}{ref:Int}{q p k:Nat}(h:fa m ref q p k):vS (inner (m.procs[p]'(h.at_.ar)) (ev m)) (bN m p k):=by
 rw[sv h.at_.ar h.at_.hk];exact aij h.ok h.at_.ar h.at_.hk
structure kB(m:Model)(ref:Int)(a b:List Int):Prop where
 there:∀q p k,fa m ref q p k->pk (ql m q (bN m p k) (bN m p k).bP.length) a/\pk (kg m q (bN m p k) (bN m p k).bP.length) b
 none:¬Told m ref->a=[]/\b=[]
def kB.eq{m:Model}{ref:Int}{a b cx fS:C_ Int}(h:kB m ref a b)(br:kB m ref cx fS):a=cx/\b=fS:=by
 by_cases aB:Told m ref
 .obtain⟨q,p,k,an⟩:=mI aB;obtain⟨h1,I⟩:=h.there q p k an;obtain⟨ab,aC⟩:=br.there q p k an;exact⟨h1.eq ab λ_=>Iff.rfl,I.eq aC λ_=>Iff.rfl⟩
 .obtain⟨rfl,rfl⟩:=h.none aB;obtain⟨rfl,rfl⟩:=br.none aB;exact⟨rfl,rfl⟩
theorem kB.of{m:Model}{ref:Int}{q p k:Nat}{a b:C_ Int}(an:fa m ref q p k)(h1:pk (ql m q (bN m p k) (bN m p k).bP.length) a)(I:pk (kg m q (bN m p k) (bN m p k).bP.length) b):kB m ref a b :=
 ⟨λeK gA k' h=>by obtain⟨rfl,rfl,rfl⟩:=an.one h;exact⟨h1,I⟩,λaw=>absurd an.told aw⟩
def kB.nil{m:Model}{ref:Int}(h:¬Told m ref):kB m ref [] []:=⟨λ_ _ _ an=>absurd an.told h,λ_=>⟨rfl,rfl⟩⟩
structure auU(m:Model)(ref:Int)(a:List Int):Prop where
 there:∀q p k,fa m ref q p k->pk (u2 m q (bN m p k)) a
 none:¬Told m ref->a=[]
def ey.lim{m:Model}(h:ey m):uF m:=⟨by have:=h.procs;omega,λp ar=>by have:=(h.proc p ar).gf;omega⟩
end o
namespace a8
open Go
def IL:C_ B_:=[.string ⟨#[]⟩,.int .i64 0,.int .i64 0,.slice none 0 0,.slice none 0 0,.bool false]
end a8
namespace Go.Proofs.R
open Go Go.RowKit a8
def af6(m:o.Model)(ref:Int)(v:B_)(w:A_):Prop :=
 (¬o.Told m ref/\v = .tuple #[.pointer none,.agg IL.toArray,.bool false]) \/
 (∃(b q p k:Nat) (fi va:B_),o.fa m ref q p k/\v = .tuple #[.pointer (some ⟨b,0,none⟩),.agg ((o.bN m p k).enc fi va).toArray,.bool true]/\pX w b m q/\o.eS w fi (o.bN m p k).guard/\o.mv w va (o.bN m p k).bP)
def aql(cs:C_ B_)(m:o.Model)(ref:Int)(w:A_)(h:o.dj w cs m)(aG:m.cv)(aQ:gJ w) :
  Du F.Ja #[.agg cs.toArray,.I ref] w λv w'=>af6 m ref v w'/\Ext w w':=by
 have b4:=h;obtain⟨b0,bz,bO,c1,bT,c2,bV,bu,b1,bB,rfl,ad,h1,I,ab,aC,eu,dz,dJ,dR,ee⟩:=h.form;refine bl E.Ja ?_;refine J ?_;intro w1 bQ c7 ag ao;refine J ?_;intro aA dF jt ai bI;have rO:=ai.obj ao;have aH:=ag.trans ai;refine J ?_;refine J_ (zh _ m aA (b4.ext aH) aG (aQ.ext aH)) ?_;rintro _ aM ⟨rfl,ah⟩;have aR:=aH.trans ah;replace ao:=ah.obj rO;replace bI:=ah.obj bI;have z5:=cq bI;have auR:=ag.size;clear rO;refine J ?_;refine Y_ (v:=.I (o.check m).cJ) rfl ?_;refine J ?_;refine I_ (λhk=>?_) (λhk=>?_);rotate_left
 .refine J ?_;intro aU dQ bo;refine J ?_;exact⟨.inl ⟨λaB=>hk aB.1,aK⟩,dQ.ext aR Ad⟩
 have aL:=o.hE hk;have ch:=aL.lim;have hR:=o.qo ch;refine J ?_;refine J_ (zt _ m aM (b4.ext aR) ch) ?_;rintro vr aU ⟨fD,aq⟩;obtain⟨e9,mJ,rfl,_⟩:=fD.form;have qO:bm 2 (Flat o.Ref.enc) aU (.slice e9 (o.refs m).length mJ) (o.refs m):=aJ.e3 (enc:=o.Ref.enc) (λ_=>rfl) fD;replace ao:=aq.obj ao;replace bI:=aq.obj bI;have bn:=aR.trans aq;clear fD;refine J ?_;apply I_<;>intro g1
 .refine J ?_;intro bh eY u4;refine J ?_;exact⟨.inl ⟨λaB=>by have:=aB.2;omega,aK⟩,eY.ext bn Ad⟩
 obtain⟨r,rfl⟩:=Nb (show 0<=ref by omega);refine J ?_;apply I_<;>intro g2
 .refine J ?_;intro bh eY u4;refine J ?_;exact⟨.inl ⟨λaB=>by have:=aB.2;omega,aK⟩,eY.ext bn Ad⟩
 have aB:o.Told m r:=⟨hk,Ad,Ad⟩;obtain⟨q,p,k,bw⟩:=o.mI aB;have au:=bw.at_.U;have ar:=bw.at_.ar;have hp:=bw.at_.hk;have fk:(o.refs m)[r].inst=(q:Int):=bw.at_.mX;have j7:(o.refs m)[r].cmd=(k:Int):=bw.at_.pI;have j5:=bw.at_.ip;obtain⟨l7,rfl⟩:=qO.addr;refine J ?_;intro bh av;replace ao:=av.obj ao;replace bI:=av.obj bI;have tE:=qO.ext Flat.ext av;have bC:=bn.trans av;refine J ?_;refine J_ (GR _ m bh (b4.ext bC) aG (aQ.ext bC)) ?_;rintro _ bq ⟨⟨xs,rfl,Aw⟩,aD⟩;rw[o.zg hk] at Aw;have Av:=Aw;replace Aw:=Aw.here;obtain⟨kT,d0,ie,d1,ji,d2,nd,d3,mu,d4,rfl,_⟩:=Aw.form;have b6:=bC.trans aD;refine⟨aD,?_⟩;refine J ?_;refine J_ (xl _ m bq (b4.ext b6) aG) ?_;rintro bK bH ⟨dP,bc⟩;obtain⟨b8,ci,rfl,_⟩:=dP.form;have cM:=b6.trans bc;refine⟨aD.trans bc,?_⟩;refine J ?_;intro cB jZ mc bt cD;have eN:=cM.trans bt;have Dd:ik cB (.slice b8 (o.insts m).length ci) (o.insts m):=aJ.e3 (enc:=o.cO.enc) (λ_=>rfl) (dP.ext bt);have ZS:=Aw.ext (bc.trans bt);rw[fk] at cD;have Qs:pX cB jZ m q:=⟨_,_,_,cD,b4.ext eN,ZS,Dd⟩;have P4:=(aD.trans bc).trans bt;have ZX:=tE.ext Flat.ext P4;replace ao:=P4.obj ao;replace bI:=P4.obj bI;have HP:=eN.size;obtain⟨gp,rfl⟩:=Dd.addr;obtain⟨a3,rfl⟩:=ab.addr;obtain⟨kr,bY,dV,c3,eQ,er⟩:=ab.at p ar;obtain⟨vC,uQ,rfl,vy⟩:=er.form;obtain⟨ac,rfl⟩:=er.addr;obtain⟨eC,fi,va,e2,gi,fb⟩:=er.at k hp;replace c3:=c3.ext eN;replace e2:=e2.ext eN;obtain⟨fA,fL,rfl,_⟩:=gi.form;obtain⟨oq,nP,rfl,_⟩:=fb.form;unfold o.dt.enc at c3;unfold o.dI.enc at e2;clear Aw qO tE ZS;refine J ?_;intro cG b2;replace ao:=b2.obj ao;replace bI:=b2.obj bI;replace cD:=b2.obj cD;replace ZX:=ZX.ext Flat.ext b2;replace Dd:=Dd.ext Flat.ext b2;replace c3:=c3.ext b2;replace e2:=e2.ext b2;refine J ?_;refine K_ p (by rw[j5]) ar ?_;refine J ?_;refine K_ k (by rw[j7]) hp ?_;refine J ?_;intro ew pF h4;refine J ?_;have fW:Ext w cG:=eN.trans b2;have qt:=aq.size;have pJ:=av.size;have asL:=aD.size;have axL:=bc.size;have kF:Ext w ew:=pF.ext fW Ad;have akY:=((Av.ext ((bc.trans bt).trans b2) asL).wr pF Ad).here;have amM:ik ew (.slice (some gp) (o.insts m).length ci) (o.insts m):=aJ.e3 (enc:=o.cO.enc) (λ_=>rfl) (aJ.wr pF Ad ((dP.ext bt).ext b2));have gR:=o.sv ar hp;refine⟨.inr ⟨jZ,q,p,k,.slice fA (o.bN m p k).guard.length fL,.slice oq (o.bN m p k).bP.length nP,bw,by rw[gR];rfl,⟨_,_,_,pF.obj cD Ad,b4.ext kF,akY,amM⟩,?_,?_⟩,kF⟩
 .rw[gR];exact gi.ext kF
 .rw[gR];exact fb.ext kF
end Go.Proofs.R
namespace Go.Proofs
open Go.Shelf
def Tryz.aco:Go.Shelf.Ren:=⟨λ| 7=>192 | 10=>243 | n=>n,λ| 23=>190 | 26=>3 | 3=>3 | 28=>117 | 0=>0 | 27=>116 | 33=>129 | 4=>4 | n=>n,λ| n=>n⟩
def Tryz.SG:Go.Proofs.SlLaysZI.n7 Tryz.prog Tryz.aco:={
 mixed:=Ci
 f7:=⟨Tryz.f192.name,By,Tryz.func192.trans (congrArg some Ci)⟩
 f10:=⟨Tryz.f243.name,By,Tryz.func243.trans (congrArg some Ci)⟩
 t0:=Tryz.underlying0
 a0:=Tryz.isAgg0
 z0:=Tryz.sizeOf0
 v0:=Tryz.zeroValue0
 t4:=Tryz.underlying4
 a4:=Tryz.isAgg4
 z4:=Tryz.sizeOf4
 v4:=Tryz.zeroValue4
 t23:=Tryz.underlying190
 a23:=Tryz.isAgg190
 z23:=Tryz.sizeOf190
 v23:=Tryz.zeroValue190
 t26:=Tryz.underlying3
 a26:=Tryz.isAgg3
 z26:=Tryz.sizeOf3
 v26:=Tryz.zeroValue3
 t27:=Tryz.underlying116
 a27:=Tryz.isAgg116
 z27:=Tryz.sizeOf116
 v27:=Tryz.zeroValue116
 t28:=Tryz.underlying117
 a28:=Tryz.isAgg117
 z28:=Tryz.sizeOf117
 v28:=Tryz.zeroValue117
 t33:=Tryz.underlying129
 a33:=Tryz.isAgg129
 z33:=Tryz.sizeOf129
 v33:=Tryz.zeroValue129 }
def Tryz.aeV:Go.Shelf.Ren:=⟨λ| 6=>191 | 8=>241 | 9=>242 | 11=>276 | 13=>245 | 12=>277 | 23=>286 | 24=>287 | 14=>297 | 15=>298 | 16=>299 | 17=>300 | 18=>301 | 19=>302 | 20=>303 | 21=>304 | 22=>305 | 25=>312 | 26=>307 | 27=>308 | 28=>313 | 29=>314 | 30=>315 | 31=>317 | n=>n,λ| 26=>3 | 28=>117 | 24=>29 | 0=>0 | 3=>3 | 37=>169 | 48=>337 | 50=>52 | 4=>4 | 40=>331 | 39=>330 | 45=>249 | 5=>5 | 9=>9 | 51=>346 | 55=>350 | 57=>355 | 58=>89 | 33=>129 | n=>n,λ| n=>n⟩
def Tryz.atl:Go.Proofs.SlLaysZI.n6 Tryz.prog Tryz.aeV:={
 mixed:=Ci
 f6:=⟨Tryz.f191.name,By,Tryz.func191.trans (congrArg some Ci)⟩
 f8:=⟨Tryz.f241.name,By,Tryz.func241.trans (congrArg some Ci)⟩
 f11:=⟨Tryz.f276.name,By,Tryz.func276.trans (congrArg some Ci)⟩
 t0:=Tryz.underlying0
 a0:=Tryz.isAgg0
 z0:=Tryz.sizeOf0
 v0:=Tryz.zeroValue0
 t24:=Tryz.underlying29
 a24:=Tryz.isAgg29
 z24:=Tryz.sizeOf29
 v24:=Tryz.zeroValue29
 t26:=Tryz.underlying3
 a26:=Tryz.isAgg3
 z26:=Tryz.sizeOf3
 v26:=Tryz.zeroValue3
 t28:=Tryz.underlying117
 a28:=Tryz.isAgg117
 z28:=Tryz.sizeOf117
 v28:=Tryz.zeroValue117
 i26:=by kernel_rfl }
def Tryz.atf:Go.Shelf.Ren:=⟨λ| 5=>242 | 8=>245 | 7=>277 | 19=>286 | 20=>287 | 10=>297 | 11=>298 | 12=>299 | 13=>300 | 14=>301 | 15=>302 | 16=>303 | 17=>304 | 18=>305 | 30=>312 | 31=>307 | 32=>308 | 33=>313 | 34=>314 | 35=>315 | 40=>317 | n=>n,λ| 23=>29 | 25=>3 | 3=>3 | 32=>169 | 22=>29 | 0=>0 | 44=>337 | 46=>52 | 4=>4 | 36=>331 | 35=>330 | 41=>249 | 5=>5 | 9=>9 | 53=>346 | 57=>350 | 63=>355 | 64=>89 | n=>n,λ| n=>n⟩
def Tryz.T0:Go.Proofs.SlLaysM.n5 Tryz.prog Tryz.atf:={
 mixed:=Ci
 f5:=⟨Tryz.f242.name,By,Tryz.func242.trans (congrArg some Ci)⟩
 f7:=⟨Tryz.f277.name,By,Tryz.func277.trans (congrArg some Ci)⟩
 f8:=Tryz.func245.trans (congrArg some Ci)
 f10:=⟨Tryz.f297.name,By,Tryz.func297.trans (congrArg some Ci)⟩
 f11:=⟨Tryz.f298.name,By,Tryz.func298.trans (congrArg some Ci)⟩
 f12:=⟨Tryz.f299.name,By,Tryz.func299.trans (congrArg some Ci)⟩
 f13:=⟨Tryz.f300.name,By,Tryz.func300.trans (congrArg some Ci)⟩
 f14:=⟨Tryz.f301.name,By,Tryz.func301.trans (congrArg some Ci)⟩
 f15:=⟨Tryz.f302.name,By,Tryz.func302.trans (congrArg some Ci)⟩
 f16:=⟨Tryz.f303.name,By,Tryz.func303.trans (congrArg some Ci)⟩
 f17:=⟨Tryz.f304.name,By,Tryz.func304.trans (congrArg some Ci)⟩
 f18:=⟨Tryz.f305.name,By,Tryz.func305.trans (congrArg some Ci)⟩
 f19:=Tryz.func286.trans (congrArg some Ci)
 f20:=Tryz.func287.trans (congrArg some Ci)
 f30:=⟨Tryz.f312.name,By,Tryz.func312.trans (congrArg some Ci)⟩
 f31:=Tryz.func307.trans (congrArg some Ci)
 f32:=Tryz.func308.trans (congrArg some Ci)
 f33:=⟨Tryz.f313.name,By,Tryz.func313.trans (congrArg some Ci)⟩
 f34:=⟨Tryz.f314.name,By,Tryz.func314.trans (congrArg some Ci)⟩
 f35:=⟨Tryz.f315.name,By,Tryz.func315.trans (congrArg some Ci)⟩
 f40:=⟨Tryz.f317.name,By,Tryz.func317.trans (congrArg some Ci)⟩
 t0:=Tryz.underlying0
 a0:=Tryz.isAgg0
 z0:=Tryz.sizeOf0
 v0:=Tryz.zeroValue0
 t3:=Tryz.underlying3
 a3:=Tryz.isAgg3
 z3:=Tryz.sizeOf3
 v3:=Tryz.zeroValue3
 t4:=Tryz.underlying4
 a4:=Tryz.isAgg4
 z4:=Tryz.sizeOf4
 v4:=Tryz.zeroValue4
 t5:=Tryz.underlying5
 a5:=Tryz.isAgg5
 z5:=Tryz.sizeOf5
 v5:=Tryz.zeroValue5
 t9:=Tryz.underlying9
 a9:=Tryz.isAgg9
 z9:=Tryz.sizeOf9
 v9:=Tryz.zeroValue9
 t22:=Tryz.underlying29
 a22:=Tryz.isAgg29
 z22:=Tryz.sizeOf29
 v22:=Tryz.zeroValue29
 t23:=Tryz.underlying29
 a23:=Tryz.isAgg29
 z23:=Tryz.sizeOf29
 v23:=Tryz.zeroValue29
 t25:=Tryz.underlying3
 a25:=Tryz.isAgg3
 z25:=Tryz.sizeOf3
 v25:=Tryz.zeroValue3
 t32:=Tryz.underlying169
 a32:=Tryz.isAgg169
 z32:=Tryz.sizeOf169
 v32:=Tryz.zeroValue169
 t35:=Tryz.underlying330
 a35:=Tryz.isAgg330
 z35:=Tryz.sizeOf330
 v35:=Tryz.zeroValue330
 t36:=Tryz.underlying331
 a36:=Tryz.isAgg331
 z36:=Tryz.sizeOf331
 v36:=Tryz.zeroValue331
 t41:=Tryz.underlying249
 a41:=Tryz.isAgg249
 z41:=Tryz.sizeOf249
 v41:=Tryz.zeroValue249
 t44:=Tryz.underlying337
 a44:=Tryz.isAgg337
 z44:=Tryz.sizeOf337
 v44:=Tryz.zeroValue337
 t46:=Tryz.underlying52
 a46:=Tryz.isAgg52
 z46:=Tryz.sizeOf52
 v46:=Tryz.zeroValue52
 t53:=Tryz.underlying346
 a53:=Tryz.isAgg346
 z53:=Tryz.sizeOf346
 v53:=Tryz.zeroValue346
 t57:=Tryz.underlying350
 a57:=Tryz.isAgg350
 z57:=Tryz.sizeOf350
 v57:=Tryz.zeroValue350
 t63:=Tryz.underlying355
 a63:=Tryz.isAgg355
 z63:=Tryz.sizeOf355
 v63:=Tryz.zeroValue355
 t64:=Tryz.underlying89
 a64:=Tryz.isAgg89
 z64:=Tryz.sizeOf89
 v64:=Tryz.zeroValue89 }
end Go.Proofs
namespace Go.Proofs
open Go Go.RowKit Go.Maps Go.Sort Go.Shelf
def Tryz.atn(m:Nat):AnyZI.SortsIn Tryz.prog Tryz.aeV Fence.wide m :=
 ⟨λcy off cap cg W hH hblk dq=>callsIn_wide.2 (AnyM.slices_Sort_int Tryz.T0 cy off cap cg W hH hblk dq),λp cap W=>callsIn_wide.2 (AnyM.slices_Sort_int_none Tryz.T0 p cap W)⟩
end Go.Proofs
namespace Go.Proofs.R
open Go Go.RowKit Go.Maps Go.Sort Go.Shelf a8
def aoD(G2:H_ Nat)(w:A_):Du F.an #[.map G2] w λv w'=>v = .func (.func F.g8) #[] #[.pointer (some ⟨w.heap.size,0,none⟩)]/\w'=w.alloc (.cells #[.map G2] T.s):=by
 have h:CallsIn Fence.wide 5 Tryz.prog F.an #[.map G2] w λe w'=>e = .returned (.func (.func F.g8) #[] #[.pointer (some ⟨w.heap.size,0,none⟩)])/\w'=w.alloc (.cells #[.map G2] T.s):=AnyZI.keys_in Tryz.SG Fence.wide 5 trivial rfl G2 w;exact Calls.mono (callsIn_wide.1 h) λe w' ⟨h1,I⟩=>⟨_,h1,rfl,I⟩
theorem acX:∀l:C_ Int,l.map encZ=l.flatMap bX
 | []=>rfl
 | x :: l=>by rw[AG1,AH8,acX l];rfl
def atm(b:Nat)(L:C_ Int)(w:A_)(h:fx w b L)(ch:L.length<=1000000) :
  Du F.ak #[.func (.func F.g8) #[] #[.pointer (some ⟨w.heap.size,0,none⟩)]] (w.alloc (.cells #[.map (some b)] T.s)) λv w'=>(∃r,aJ bX T.a 1 (w.alloc (.cells #[.map (some b)] T.s)).heap.size w' v r/\o.pk L r)/\Ext (w.alloc (.cells #[.map (some b)] T.s)) w':=by
 obtain⟨uA,gx,dq,RX⟩:=h.own (P:=Tryz.prog) (k:=T.a) Ci (by unfold maxLen;omega);have J5:=gx.lt;have tT:SeqGives Fence.wide 2 Tryz.prog F.g8 #[.pointer (some ⟨w.heap.size,0,none⟩)] encZ (λcg=>cg.Perm (intKeys uA)) (Maps.size uA) (w.alloc (.cells #[.map (some b)] T.s)) :=
  AnyZI.keys_gives (ρ:=Tryz.aco) { Tryz.SG with } Fence.wide _ trivial rfl Ad w.heap.size b _ uA _ CC CC (by
   obtain⟨es,clock,ak,afY,aj,gq⟩:=gx;exact⟨es,clock,(Below.heap_alloc _ _ b J5).trans ak,afY,aj,gq⟩)
 have X7:=AnyZI.sorted_in Tryz.atl Fence.wide 5 trivial trivial trivial trivial rfl Ad (Tryz.atn _) (Tryz.T0.f5.enters rfl) F.g8 #[.pointer (some ⟨w.heap.size,0,none⟩)] trivial (Tryz.SG.f10.enters rfl) _ _ (by unfold maxLen;omega) Ad _ tT;change CallsIn _ _ Tryz.prog F.ak _ _ _ at X7;refine Calls.mono (callsIn_wide.1 X7) ?_;rintro e w' ⟨v,cg,rfl,b5,kM,_,ak⟩;obtain⟨h1,I⟩:=RX cg b5;refine⟨v,rfl,⟨cg.mergeSort λx y=>decide (x<=y),?_,atk h1,λx=>?_⟩,ak⟩
 .unfold aJ;rw[<-acX,List.length_mergeSort];exact kM
 .rw[(List.mergeSort_perm cg _).mem_iff];exact I x
def aed(b:Nat)(L:C_ Int)(w:A_)(h:fx w b L)(ch:L.length<=1000000) :
  Du F.Jg #[.map (some b)] w λv w'=>(∃r,aJ bX T.a 1 w.heap.size w' v r/\o.pk L r)/\Ext w w':=by
 have he:Ext w (w.alloc (.cells #[.map (some b)] T.s)):=(Ext.refl w).alloc _;have hk:=aoD (some b) w;have aj:=atm b L w h ch;generalize w.alloc (.cells #[.map (some b)] T.s)=w1 at he hk aj;refine bl E.Jg ?_;refine J ?_;refine J_ hk ?_;rintro _ _ ⟨rfl,rfl⟩;refine J ?_;refine J_ aj ?_;rintro v aA ⟨⟨r,aQ,aS⟩,ai⟩;refine J ?_;exact⟨⟨r,aJ.low he.size aQ,aS⟩,he.trans ai⟩
end Go.Proofs.R
namespace Go.Proofs.R
open Go Go.RowKit a8
def Ws(cs:C_ B_)(m:o.Model)(ref:Int)(w:A_)(h:o.dj w cs m)(aG:m.cv)(aQ:gJ w) :
  Du F.a0 #[.agg cs.toArray,.I ref] w λv w'=>(∃va iJ a b,v = .tuple #[va,iJ]/\aJ bX T.a 1 w.heap.size w' va a/\aJ bX T.a 1 w.heap.size w' iJ b/\o.kB m ref a b)/\Ext w w':=by
 have b4:=h;obtain⟨b0,bz,bO,c1,bT,c2,bV,bu,b1,bB,rfl,_⟩:=h.form;refine bl E.a0 ?_;refine J ?_;intro w1 bQ c7 ag ao;refine J ?_;refine J_ (aql _ m ref w1 (b4.ext ag) aG (aQ.ext ag)) ?_;rintro _ aA ⟨hO,ai⟩;replace ao:=ai.obj ao;have aH:=ag.trans ai;rcases hO with ⟨AV,rfl⟩ | ⟨b,q,p,k,fi,va,bw,rfl,nu,gi,fb⟩
 .unfold IL;refine J ?_;intro wn dC e5 e8 eC;refine J ?_;intro aM fE bS;refine J ?_;exact⟨⟨_,_,[],[],rfl,aJ.nil _ _ _ _ _,aJ.nil _ _ _ _ _,o.kB.nil AV⟩,aH.trans (fE.ext e8 e5)⟩
 obtain⟨fA,fL,rfl,_⟩:=gi.form;obtain⟨oq,nP,rfl,_⟩:=fb.form;have aL:=o.hE bw.ok;have aP:=bw.inst;have iW:=bw.cin;have p9:=iW.gf;obtain⟨c,tI⟩:∃c,c=o.bN m p k:=⟨_,rfl⟩;rw[<-tI] at iW p9 gi fb ⊢;unfold o.dI.enc;refine J ?_;intro wn h2 gZ e8 eC;refine J ?_;intro aM fE bZ;have ah:Ext aA aM:=fE.ext e8 gZ;clear e8 eC fE;have aR:=aH.trans ah;have FE:=nu.ext ah;have anj:=gi.ext ah;have Ru:=fb.ext ah;have ve:=o.GH aL aP.au;clear ao nu gi fb;refine J ?_;refine _e λaU wq Qx aq FZ=>?_;refine J ?_;refine _e λbh dh av0 av u7=>?_;have Gr:=(fx.empty FZ).ext av;have eY:=fx.empty u7;have ct:wq≠dh:=by have:=cq FZ;omega
 have hh:=aq.trans av;have yQ:=hh.obj bZ;have alF:aM.heap.size<=dh:=by have:=aq.size;omega
 clear FZ u7;refine J ?_;refine J_ (F6 b q m bh (FE.ext hh) aP.au) ?_;rintro _ bq ⟨rfl,aD⟩;refine J ?_;refine J_ (um wq [] (o.cU m q) 1 _ _ bq (Gr.ext aD) rfl rfl Ad) ?_;rintro _ bH ⟨abw,hb⟩;have dw:=(eY.ext aD).mod hb (Ne.symm ct);have fZ:=hb.ext (hh.trans aD) λk hk e=>Ad
 refine J ?_;refine J_ (F6 b q m bH (FE.ext fZ) aP.au) ?_;rintro _ cB ⟨rfl,bt⟩;refine J ?_;refine J_ (um dh [] (o.cU m q) 1 _ _ cB (dw.ext bt) rfl rfl Ad) ?_;rintro _ cG ⟨gy,mh⟩;have abx:=(abw.ext bt).mod mh ct;have fw:=mh.ext (fZ.trans bt) λk hk e=>Ad
 have al0:=fw.obj bZ;refine J ?_;refine J_ (Fg c.guard _ b wq q p _ m aM cG FE fw Qx abx aL aP anj iW.guard) ?_;rintro _ ew ⟨RI,pB⟩;have pF:=gy.mod pB (Ne.symm ct);have pR:=pB.ext fw λk hk e=>Ad
 have alZ:=pR.obj bZ;rw[AF9] at pF RI;have ZA:fx ew wq (o.ql m q c 0):=by
  unfold o.ql o.u2;rw[AH6,AI1,SN];exact RI
 have ZB:fx ew dh (o.kg m q c 0):=by
  unfold o.kg;rw[AH6,AI1,SN];exact pF
 clear Gr eY abw dw abx gy RI pF yQ al0 hb mh pB aD bt hh fZ fw;refine J ?_;refine L_ 40 c.bP.length [6,7,9,10,38,39] (λ_:Unit=>[]) () (λn _ W=>Ext aM W/\fx W wq (o.ql m q c n)/\fx W dh (o.kg m q c n)) a6 a6 ⟨pR,ZA,ZB⟩ ?_;clear alZ ZA ZB pR;rintro n _ S fB aw ⟨jU,RJ,hT⟩;have ane:=Ru.ext jU;refine J ?_;apply I_<;>intro g1
 .have hc:n<c.bP.length:=Ad
  obtain⟨tk,rfl⟩:=Ru.addr;obtain⟨bK,bY,nv,ob,qd⟩:=Ru.at n hc;have p5:=iW.act n hc;obtain⟨b8,ci,rfl,_⟩:=ob.form;obtain⟨ei,eW,rfl,_⟩:=qd.form;replace nv:=nv.ext jU;clear ane;refine J ?_;intro hx Ce tF dW h5;have my:=jU.trans dW;have RK:=RJ.ext dW;have lS:=hT.ext dW;have kQ:¬Ce=wq:=λe=>by subst e;obtain⟨_,_,h,_⟩:=RK.ex;rw[h5] at h;cases h
  have ka:¬Ce=dh:=λe=>by subst e;obtain⟨_,_,h,_⟩:=lS.ex;rw[h5] at h;cases h
  clear nv RJ hT;refine J ?_;refine J_ (arZ c.bP[n] _ _ b wq q p _ m aM hx FE my Qx RK aL aP ob qd p5) ?_;rintro _ kx ⟨anH,tQ⟩;have ks:=lS.mod tQ (Ne.symm ct);have oy:=tQ.ext my λk hk e=>Ad
  replace h5:=tQ.obj kQ h5;clear RK lS;refine J ?_;refine J_ (auK c.bP[n] _ _ b dh q p _ m aM kx FE oy alF ks aL aP ob p5) ?_;rintro _ s6 ⟨y9,Ku⟩;have anI:=anH.mod Ku ct;have zF:=Ku.ext oy λk hk e=>Ad
  refine J ?_;exact⟨hc,aK,(),trivial,zF,by rw[o.ad1 hc];exact anI,by rw[o.Uv hc];exact y9⟩
 .have vj:c.bP.length=n:=Ad
  have hR:=(o.ad2 aL aP iW n Ad).len;have Sg:=(o.HJ aL aP iW n Ad).len;refine J ?_;refine J_ (aed wq _ fB RJ Ad) ?_;rintro u hx ⟨⟨Tz,Ry,RM⟩,dW⟩;refine J ?_;refine J_ (aed dh _ hx (hT.ext dW) Ad) ?_;rintro BF kx ⟨⟨Hj,Rz,RN⟩,gv⟩;refine J ?_;have UD:=(aR.trans jU).size;have z12:=dW.size;refine⟨⟨_,_,Tz,Hj,rfl,aJ.ext gv (aJ.low UD Ry),aJ.low (Nn UD z12) Rz,?_⟩,((aR.trans jU).trans dW).trans gv⟩;subst tI;refine o.kB.of bw ?_ ?_
  .rw[vj];exact RM
  .rw[vj];exact RN
def af5(cs:C_ B_)(m:o.Model)(ref:Int)(w:A_)(h:o.dj w cs m)(aG:m.cv)(aQ:gJ w) :
  Du F.a0 #[.agg cs.toArray,.I ref] w λv w'=>(∃va iJ a b,v = .tuple #[va,iJ]/\c9 w' va a/\c9 w' iJ b/\o.kB m ref a b)/\Ext w w' :=
 (Ws cs m ref w h aG aQ).mono λv w' ⟨⟨va,iJ,a,b,aF,aY,ak,bG⟩,he⟩=>⟨⟨va,iJ,a,b,aF,aJ.e3 (enc:=bX) (λ_=>rfl) aY,aJ.e3 (enc:=bX) (λ_=>rfl) ak,bG⟩,he⟩
end Go.Proofs.R
namespace o
open Go
theorem apm{v:Var}{s:C_ Scalar}(h:B8 v s)(ad:v.over≠0):∃(j:Nat) (az:j<s.length),v.over=(j:Int)+1/\cells v s=s[j].size/\1<=s[j].size/\s[j].size<=4:=by
 have h1:=h.ei.resolve_left ad;unfold cells;rw[if_neg ad];unfold size at h1 ⊢;cases af:s[(v.over - 1).toNat]? with
 | none=>rw[af] at h1;exact absurd rfl h1
 | some x =>
  rw[af] at h1;obtain⟨az,rfl⟩:=List.getElem?_eq_some_iff.1 af;simp only at h1 ⊢;split at h1
  .rename_i I;refine⟨(v.over - 1).toNat,az,Ad,?_,I.2.1,I.2.2⟩;rw[if_pos I]
  .exact absurd rfl h1
end o
namespace Go.Proofs.R
open Go Go.RowKit a8
def TN(a n:Nat)(x y:Int)(w:A_)(af:x=a)(bE:y=n)(hm:a+n<=1000000) :
  Du F.Mr #[.I x,.I y] w λu w'=>aJ bX T.a 1 w.heap.size w' u (o.gB a n)/\Ext w w':=by
 subst af bE;refine bl E.Mr ?_;refine J ?_;refine L_ 6 n [0,1] (λv:fy=>[(5,.slice v.1 v.2.1 v.2.2)]) (none,0,0) (λk v W=>Ext w W/\aJ bX T.a 1 w.heap.size W (.slice v.1 v.2.1 v.2.2) (o.gB a k)) a6 a6 ⟨Ext.refl _,aJ.nil _ _ _ _ _⟩ ?_;rintro k v S w1 hk ⟨ag,kL⟩;refine J ?_;apply I_<;>intro g1
 .refine J ?_;intro aA bQ c7 ai ao;refine J ?_;have fQ:=ag.size;refine S_ (y:=(a:Int)+(k:Int)) (kL.ext ai) ao rfl (λ_=>rfl) hA (by rw[o.M4];omega) (by rw[o.M4];unfold maxLen;omega) (by have:=ai.size;omega) λaN c d aM eT F9=>?_;refine J ?_;refine⟨Ad,aK,(aN,c,d),⟨rfl,trivial⟩,(ag.trans ai).grown F9 λi U=>(kL.lt i U).1,?_⟩;rw[o.TK,Int.natCast_add];exact eT
 .have gS:k=n:=Ad
  subst gS;refine J ?_;exact⟨kL,ag⟩
def ass(cs:C_ B_)(m:o.Model)(i:Nat)(w:A_)(h:o.dj w cs m)(aL:o.ey m)(U:i<m.vars.length) :
  Du F.Mq #[.agg cs.toArray,.I i] w λu w'=>u = .I (o.lu m i)/\Ext w w':=by
 obtain⟨b0,bz,bO,c1,bT,c2,bV,bu,b1,bB,rfl,ad,h1,I,ab,aC,eu,dz,dJ,dR,ee⟩:=h.form;have gf:=aL.gf;have c8:=aL.var _ (ED U);have vg:=o.q8 U;obtain⟨db,rfl⟩:=h1.addr;have dH:=(h1.at i U).cells;refine bl E.Mq ?_;refine J ?_;intro w1 bQ c7 ag ao;replace dH:=dH.ext ag;refine J ?_;apply I_<;>intro g1
 .have:o.cells m.vars[i] m.scalars=1:=by unfold o.cells;rw[if_pos g1]
  refine J ?_;exact⟨by rw[vg,this];rfl,ag⟩
 .obtain⟨j,az,bF,aH,aR,bn⟩:=o.apm c8 g1;obtain⟨a0,rfl⟩:=ad.addr;have gu:=((ad.at j az).cells).ext ag;refine J ?_;refine K_ j Ad az ?_;refine J ?_;intro aA ai;refine J ?_;exact⟨by rw[vg,aH,Int.toNat_of_nonneg Ad],ag.trans ai⟩
theorem TI(cs ys:C_ B_)(m:o.Model)(q i:Nat)(own:Bool)(w:A_)(h:o.dj w cs m)(aG:m.cv)(aL:o.ey m)(ch:o.jk w ys (o.layout m))(au:q<(o.insts m).length)(U:i<m.vars.length)(aQ:own=true->1<=(o.insts m)[q].elem) :
  Du F.Mp #[.agg cs.toArray,.agg ys.toArray,.I q,.I i,.bool own] w λu w'=>aJ bX T.a 1 w.heap.size w' u (o.mm m q i own)/\Ext w w':=by
 have b4:=h;obtain⟨b0,bz,bO,c1,bT,c2,bV,bu,b1,bB,rfl,ad,h1,I,ab,aC,eu,dz,dJ,dR,ee⟩:=h.form;obtain⟨kT,d0,ie,d1,ji,d2,nd,d3,mu,d4,rfl,dB,cP,cA,eI,fp⟩:=ch.form;obtain⟨dP,gk⟩:=o.ri U;have sO:=o.D4 aL U;have tK:=(o.q5 _ (ED au)).elem;have e8:=o.E6 au;obtain⟨a0,rfl⟩:=dB.addr;refine bl E.Mp ?_;refine J ?_;intro w1 dF jt ag bI;refine J ?_;intro aA dC e5 ai bS;replace bI:=ai.obj bI;have aH:=ag.trans ai;have axD:=dB.ext Flat.ext aH;cases own with
 | true =>
  have mS:=aQ rfl;refine J ?_;intro aM ah;have aR:=aH.trans ah;refine J ?_;refine J_ (s0 _ m aM (b4.ext aR) aG) ?_;rintro bK aU ⟨abG,aq⟩;obtain⟨b8,ci,rfl,_⟩:=abG.form;have en:ik aU _ _:=aJ.e3 (enc:=o.cO.enc) (λ_=>rfl) abG;obtain⟨gp,rfl⟩:=en.addr;refine⟨aq,?_⟩;refine J ?_;refine⟨aq,?_⟩;refine J ?_;intro bh avc CZ av u4;refine J ?_;have bC:=(aR.trans aq).trans av;refine⟨?_,bC⟩;unfold o.mm;rw[if_pos rfl,o.lY];exact aJ.ss _ u4 (by have:=aR.size;have:=aq.size;omega) (by rw[gk];simp[bX];omega) (λ_=>rfl) rfl (by show 1<=maxLen;unfold maxLen;decide)
 | false =>
  refine J ?_;intro aM ah;have aR:=aH.trans ah;refine J ?_;refine J_ (ass _ m i aM (b4.ext aR) aL U) ?_;rintro _ aU ⟨rfl,aq⟩;refine⟨aq,?_⟩;refine J ?_;refine J_ (TN (o.fY m i) (o.lu m i) _ _ aU (by rw[gk]) rfl Ad) ?_;rintro u bh ⟨dM,av⟩;refine J ?_;exact⟨aJ.low (aR.trans aq).size dM,(aR.trans aq).trans av⟩
theorem aeo(v:B_)(l:C_ Int)(w:A_)(h:c9 w v l)(ad:∀x∈l,0<=x/\x<80)(aE:l.length<=1000000) :
  Du F.Ms #[v] w λu w'=>(∃r,aJ bX T.a 1 w.heap.size w' u r/\o.pk l r)/\Ext w w':=by
 obtain⟨ei,eW,rfl,e6⟩:=h.form;refine bl E.Ms ?_;refine J ?_;refine _M [0] (λx:Bool×fy×Int=>[(3,.slice x.2.1.1 x.2.1.2.1 x.2.1.2.2),(4,.I x.2.2),(5,.bool x.1)]) (true,(none,0,0),-1)
  (λx W=>Ext w W/\∃out,aJ bX T.a 1 w.heap.size W (.slice x.2.1.1 x.2.1.2.1 x.2.1.2.2) out/\(x.1=true->o.uK l x.2.2 out)/\(x.1=false->o.pk l out)/\x.2.2<80) (λx=>if x.1=true then (81 - x.2.2).toNat else 0) a6 ⟨Ext.refl _,[],aJ.nil _ _ _ _ _,λ_=>o.uK.start λx af=>(ad x af).1,λh=>(by cases h),By⟩ ?_
 rintro⟨more,pb,last⟩ S w1 ⟨ag,out,kL,gL,gq,Rm⟩;cases more with
 | false =>
  refine J ?_;exact⟨⟨out,kL,gq rfl⟩,ag⟩
 | true =>
  have gL:o.uK l last out:=gL rfl;have pA:=gL.last;have Rm:last<80:=Rm;have anq:out.length<=80:=by
   have:=o.aec out 0 80 gL.lz λx af=>ad x ((gL.mem x).1 af).1
   omega
  have h1:=h.ext Flat.ext ag;refine J ?_;refine L_ 7 l.length [0,3,4,5] (λn:Int=>[(6,.I n)]) (-1) (λk n W=>W=w1/\o.si (l.take k) last n) a6 a6 ⟨rfl,o.si.nil _⟩ ?_;rintro k n aZ aA hk ⟨rfl,hm⟩;refine J ?_;apply I_<;>intro g1
  .have cb:k<l.length:=Ad
   obtain⟨a,rfl⟩:=h.addr;have za:=ad l[k] (ED cb);have mK:=Iu cb;refine J ?_;apply I_<;>intro g2
   .refine J ?_;apply I_<;>intro g3
    .refine J ?_;exact⟨cb,aK,l[k],⟨rfl,trivial⟩,aK,by rw[mK];exact hm.take za.1 ⟨Ad,.inl g3⟩⟩
    .refine J ?_;apply I_<;>intro g4
     .refine J ?_;exact⟨cb,aK,l[k],⟨rfl,trivial⟩,aK,by rw[mK];exact hm.take za.1 ⟨Ad,.inr g4⟩⟩
     .refine J ?_;exact⟨cb,aK,n,⟨rfl,trivial⟩,aK,by rw[mK];exact hm.skip Ad⟩
   .refine J ?_;exact⟨cb,aK,n,⟨rfl,trivial⟩,aK,by rw[mK];exact hm.skip Ad⟩
  .have gS:l.length<=k:=Ad
   rw[MC gS] at hm;refine J ?_;apply I_<;>intro g2
   .obtain⟨aln,cu,qb⟩:=gL.step hm Ad;have aw:=ad n qb;refine J ?_;intro aM bW eX ah ba;refine J ?_;have fQ:=ag.size;refine S_ (y:=n) (kL.ext ah) ba rfl (λ_=>rfl) hA Ad (by unfold maxLen;omega) (by have:=ah.size;omega) λaN c d aU dD n4=>?_;refine J ?_;exact⟨(true,(aN,c,d),n),⟨rfl,rfl,by simp[g2],trivial⟩,⟨(ag.trans ah).grown n4 λi U=>(kL.lt i U).1,out++[n],dD,λ_=>aln,λh=>(by cases h),by simp only;omega⟩,by simp only[if_true];omega⟩
   .have bG:=gL.done hm Ad;refine J ?_;exact⟨(false,pb,last),⟨rfl,rfl,by simp[g2],trivial⟩,⟨ag,out,kL,λh=>(by cases h),λ_=>bG,Rm⟩,by simp only[if_true,Bool.false_eq_true,if_false];omega⟩
end Go.Proofs.R
namespace o
open Go
def aeK{m:Model}{q p:Nat}(aP:fJ m q p){x:Node}(af:BY (inner (m.procs[p]'(aP.ar)) (ev m)) x)(h:x.op=5):1<=((insts m)[q]'(aP.au)).elem:=by
 have a1:=af.self h
 have:(inner (m.procs[p]'(aP.ar)) (ev m)).self=(m.procs[p]'(aP.ar)).over:=rfl
 exact aP.elem Ad
end o
namespace Go.Proofs.R
open Go Go.RowKit a8
def MZ(cs ys:C_ B_)(v:B_)(e:C_ o.Node)(m:o.Model)(q p:Nat)(w:A_)(h:o.dj w cs m)(aG:m.cv)(aL:o.ey m)(ch:o.jk w ys (o.layout m))(aP:o.fJ m q p)
  (aw:o.eS w v e)(af:o.ta (o.inner (m.procs[p]'(aP.ar)) (o.ev m)) e) :
  Du F.Mn #[.agg cs.toArray,.agg ys.toArray,.I q,v] w λu w'=>aJ bX T.a 1 w.heap.size w' u (o.j3 m q e e.length)/\Ext w w':=by
 have b4:=h;have py:=ch;obtain⟨b0,bz,bO,c1,bT,c2,bV,bu,b1,bB,rfl,ad,h1,I,ab,aC,eu,dz,dJ,dR,ee⟩:=h.form;obtain⟨kT,d0,ie,d1,ji,d2,nd,d3,mu,d4,rfl,dB,cP,cA,eI,fp⟩:=ch.form;obtain⟨ei,eW,rfl,e6⟩:=aw.form;have au:=aP.au;have j4:=aP.zu aL;have hle:=af.len;have gf:=o.xk aL;obtain⟨f6,f7,f8⟩:=o.pH m;refine bl E.Mn ?_;refine J ?_;intro w1 c6 fT ag bo;refine J ?_;intro aA dF jt ai bI;replace bo:=ai.obj bo;have aH:=ag.trans ai;refine J ?_;refine J_ (s0 _ m aA (b4.ext aH) aG) ?_;rintro bK aM ⟨dP,ah⟩;obtain⟨b8,ci,rfl,_⟩:=dP.form;have en:ik aM _ _:=aJ.e3 (enc:=o.cO.enc) (λ_=>rfl) dP;have J7:=ah.obj bo;have FQ:=ah.obj bI;have aR:=aH.trans ah;clear bo bI dP;refine J ?_;refine L_ 11 e.length [2,3,4,5,9] (λv:fy=>[(10,.slice v.1 v.2.1 v.2.2)]) (none,0,0) (λk v W=>Ext aM W/\aJ bX T.a 1 aM.heap.size W (.slice v.1 v.2.1 v.2.2) (o.j3 m q e k)) a6 a6 ⟨Ext.refl _,aJ.nil _ _ _ _ _⟩ ?_;rintro k pb S aU hk ⟨aq,dD⟩;have bo:=aq.obj J7;have bI:=aq.obj FQ;have ec:=aR.trans aq;have z3:=aR.size;have z4:=aq.size;have mQ:=aw.ext ec;refine J ?_;apply I_<;>intro g1;rotate_left
 .have AO:e.length=k:=Ad
  rw[AO];refine J ?_;exact⟨aJ.low aR.size dD,ec⟩
 have cb:k<e.length:=Ad
 obtain⟨nO,rfl⟩:=aw.addr;obtain⟨ny,aod⟩:=af.node k cb;have eG:=(aw.at k cb).ok;have A5:=eG.op;have A4:=eG.n;unfold o.dX at A5 A4;have mi:=(o.wJ aL aP af (n:=k) Ad).len;have vj:=(o.adg aL aP ny (o.q9 e k)).len;have vc:=o.PL (m:=m) (q:=q) cb;refine J ?_;apply I_<;>intro g2
 .obtain⟨fh,v,aF,iw⟩:=ny.var g2;have dO:e[k].n.toNat<m.vars.length:=(List.getElem?_eq_some_iff.1 aF).1;obtain⟨dP,gk⟩:=o.ri dO;obtain⟨a0,rfl⟩:=dB.addr;have DJ:=dB.ext Flat.ext ec;have bn:o.ef m q (o.q9 e k) e[k]=[((o.fY m e[k].n.toNat:Nat):Int)]:=by unfold o.ef;rw[if_pos g2,o.lY]
  refine J ?_;intro bh av;refine J ?_;refine K_ e[k].n.toNat Ad Ad ?_;refine J ?_;intro bq dC e5 aD bS;refine J ?_;refine S_ (y:=(o.fY m e[k].n.toNat:Int)) ((dD.ext av).ext aD) bS (by rw[gk];rfl) (λ_=>rfl) hA Ad (by unfold maxLen;omega) (by have:=av.size;have:=aD.size;omega) λaN c d bH dU ko=>?_;refine J ?_;refine⟨cb,aK,(aN,c,d),⟨rfl,trivial⟩,((aq.trans av).trans aD).grown ko λi U=>(dD.lt i U).1,by rw[vc,bn];exact dU⟩
 refine J ?_;apply I_<;>intro g3
 .have ft:=aod g3;obtain⟨j,rfl⟩:∃j,k=j+1:=⟨k - 1,Ad⟩;have az:j<e.length:=Ad
  obtain⟨fh,dO⟩:=ny.item g3;have dE:e[j+1].n.toNat<m.vars.length:=dO;have ai9:o.q9 e (j+1)=decide (e[j].op=5):=o.Td az;have bn:o.ef m q (o.q9 e (j+1)) e[j+1]=o.mm m q e[j+1].n.toNat (decide (e[j].op=5)):=by unfold o.ef;rw[if_neg g2,if_pos g3,ai9]
  rw[bn] at vj vc;have gG:e[j+1].n=(e[j+1].n.toNat:Nat):=Ad
  refine J ?_;intro bh av;refine J ?_;refine K_ j Ad az ?_;refine J ?_;have hh:=ec.trans av;rw[gG];refine J_ (TI _ _ m q e[j+1].n.toNat (decide (e[j].op=5)) bh (b4.ext hh) aG aL (py.ext hh) au dE (λa1=>o.aeK aP (af.node j az).1 (by simpa using a1))) ?_;rintro u bq ⟨dn,aD⟩;obtain⟨sY,nU,rfl,_⟩:=dn.form;refine J ?_;refine _n ((dD.ext av).ext aD) dn (λ_=>rfl) hA Ad (by unfold maxLen;omega) (by have:=av.size;have:=aD.size;omega) λbU bH dU ko=>?_;obtain⟨aN,c,rfl,_⟩:=dU.form;refine J ?_;exact⟨cb,aK,(aN,_,c),⟨rfl,trivial⟩,((aq.trans av).trans aD).grown ko λi U=>(dD.lt i U).1,by rw[vc];exact dU⟩
 refine J ?_;apply I_<;>intro g4
 .obtain⟨fh,dO⟩:=ny.loc g4;have dE:e[k].n.toNat<(m.procs[p]'(aP.ar)).vars.length:=dO;have bn:o.ef m q (o.q9 e k) e[k]=[((o.cU m q+1+e[k].n.toNat:Nat):Int)]:=by unfold o.ef;rw[if_neg g2,if_neg g3,if_pos g4,o.lY]
  obtain⟨sG,iv⟩:=o.oe au;obtain⟨a2,rfl⟩:=cA.addr;have xI:=cA.ext Flat.ext ec;refine J ?_;intro bh av;refine J ?_;rw[iv];refine J ?_;intro bq dC e5 aD bS;refine J ?_;refine S_ (y:=((o.cU m q+1+e[k].n.toNat:Nat):Int)) ((dD.ext av).ext aD) bS (by simp[bX];omega) (λ_=>rfl) hA Ad (by unfold maxLen;omega) (by have:=av.size;have:=aD.size;omega) λaN c d bH dU ko=>?_;refine J ?_;exact⟨cb,aK,(aN,c,d),⟨rfl,trivial⟩,((aq.trans av).trans aD).grown ko λi U=>(dD.lt i U).1,by rw[vc,bn];exact dU⟩
 refine J ?_;apply I_<;>intro g6
 .obtain⟨fh,dO⟩:=ny.len g6;have dE:e[k].n.toNat<m.ax.length:=dO;have bn:o.ef m q (o.q9 e k) e[k]=[((o.b7 m e[k].n.toNat:Nat):Int)]:=by unfold o.ef;rw[if_neg g2,if_neg g3,if_neg g4,if_pos g6,o.lY]
  obtain⟨iV,eB⟩:=o.p1 dE;obtain⟨db,rfl⟩:=cP.addr;have axH:=cP.ext Flat.ext ec;refine J ?_;intro bh av;refine J ?_;refine K_ e[k].n.toNat Ad Ad ?_;refine J ?_;intro bq dC e5 aD bS;refine J ?_;refine S_ (y:=(o.b7 m e[k].n.toNat:Int)) ((dD.ext av).ext aD) bS (by rw[eB];rfl) (λ_=>rfl) hA Ad (by unfold maxLen;omega) (by have:=av.size;have:=aD.size;omega) λaN c d bH dU ko=>?_;refine J ?_;exact⟨cb,aK,(aN,c,d),⟨rfl,trivial⟩,((aq.trans av).trans aD).grown ko λi U=>(dD.lt i U).1,by rw[vc,bn];exact dU⟩
 refine J ?_;apply I_<;>intro g7
 .have bn:o.ef m q (o.q9 e k) e[k]=o.nN m (e[k].n.tdiv 16) (o.insts m).length:=by unfold o.ef;rw[if_neg g2,if_neg g3,if_neg g4,if_neg g6,if_pos g7]
  rw[bn] at vc vj;obtain⟨fh,vk⟩:=ny.at_ g7;have RD:(e[k].n.tdiv 16).toNat<m.procs.length:=vk;have RH:=AK4 fh (show(0:Int)<=16 by omega);have RF:=aL.procs;refine J ?_;refine L_ 12 (o.insts m).length [2,3,4,5,9,11] (λv:fy=>[(10,.slice v.1 v.2.1 v.2.2)]) pb (λj v W=>Ext aM W/\aJ bX T.a 1 aM.heap.size W (.slice v.1 v.2.1 v.2.2) (o.j3 m q e k++o.nN m (e[k].n.tdiv 16) j)) a6 a6 ⟨aq,by simpa[o.nN] using dD⟩ ?_;clear bo bI dD mQ;rintro j pb aZ bh az ⟨av,dM⟩;have bo:=av.obj J7;have bI:=av.obj FQ;have hh:=aR.trans av;have Rh:=en.ext Flat.ext av;have z5:=av.size;refine J ?_;apply I_<;>intro g8
  .have ju:j<(o.insts m).length:=Ad
   obtain⟨gp,rfl⟩:=en.addr;have Qw:=(o.Ix aL (e[k].n.tdiv 16) j Ad).len;have Gl:=aw.ext hh;have has:=o.zX (m:=m) (p:=e[k].n.tdiv 16) ju;refine J ?_;refine _C Ad ?_;refine J ?_;intro bq aD;have gV:=hh.trans aD;replace bo:=aD.obj bo;replace bI:=aD.obj bI;have dn:=dM.ext aD;clear Gl Rh dM;refine J ?_;apply I_<;>intro g9
   .obtain⟨sG,iv⟩:=o.oe ju;obtain⟨a2,rfl⟩:=cA.addr;have MX:=cA.ext Flat.ext gV;refine J ?_;intro bH h2 gZ bc bZ;refine J ?_;refine S_ (y:=(o.cU m j:Int)) (dn.ext bc) bZ (by rw[iv];rfl) (λ_=>rfl) hA (by rw[MD];omega) (by rw[MD];unfold maxLen;omega) (by have:=aD.size;have:=bc.size;omega) λaN c d cB gw tM=>?_;refine J ?_;refine⟨ju,aK,(aN,c,d),⟨rfl,trivial⟩,?_,?_⟩
    .exact((av.trans aD).trans bc).grown tM λi U=>(dn.lt i U).1
    .rw[has,if_pos g9,o.lY,<-MV];exact gw
   .refine J ?_;refine⟨ju,aK,pb,⟨rfl,trivial⟩,av.trans aD,?_⟩;rw[has,if_neg g9,SN];exact dn
  .have aaY:(o.insts m).length=j:=Ad
   rw[aaY] at vc;refine J ?_;exact⟨cb,aK,pb,⟨rfl,trivial⟩,av,by rw[vc];exact dM⟩
 .have eN:o.ef m q (o.q9 e k) e[k]=[]:=by unfold o.ef;rw[if_neg g2,if_neg g3,if_neg g4,if_neg g6,if_neg g7]
  refine J ?_;exact⟨cb,aK,pb,⟨rfl,trivial⟩,aq,by rw[vc,eN,SN];exact dD⟩
def age(m:o.Model)(ref:Int)(v:B_)(w:A_):Prop :=
 (¬o.Told m ref/\v = .tuple #[.int .i64 0,.agg IL.toArray,.bool false]) \/
 (∃(q p k:Nat) (fi va:B_),o.fa m ref q p k/\v = .tuple #[.int .i64 q,.agg ((o.bN m p k).enc fi va).toArray,.bool true]/\o.eS w fi (o.bN m p k).guard/\o.mv w va (o.bN m p k).bP)
def arW(cs:C_ B_)(m:o.Model)(ref:Int)(w:A_)(h:o.dj w cs m)(aG:m.cv) :
  Du F.Mo #[.agg cs.toArray,.I ref] w λv w'=>age m ref v w'/\Ext w w':=by
 have b4:=h;obtain⟨b0,bz,bO,c1,bT,c2,bV,bu,b1,bB,rfl,ad,h1,I,ab,aC,eu,dz,dJ,dR,ee⟩:=h.form;refine bl E.Mo ?_;refine J ?_;intro w1 bQ c7 ag ao;refine J ?_;intro aA dF jt ai bI;have rO:=ai.obj ao;have aH:=ag.trans ai;refine J ?_;refine J_ (Hm _ m aA (b4.ext aH) aG) ?_;rintro _ aM ⟨rfl,ah⟩;have aR:=aH.trans ah;replace ao:=ah.obj rO;replace bI:=ah.obj bI;have z5:=cq bI;have auR:=ag.size;clear rO;unfold uZ;refine J ?_;refine Y_ (v:=.I (o.check m).cJ) rfl ?_;refine J ?_;refine I_ (λhk=>?_) (λhk=>?_);rotate_left
 .refine J ?_;intro aU dQ bo;refine J ?_;exact⟨.inl ⟨λaB=>hk aB.1,aK⟩,dQ.ext aR Ad⟩
 have aL:=o.hE hk;have ch:=aL.lim;have hR:=o.qo ch;refine J ?_;apply I_<;>intro g1
 .refine J ?_;intro bh eY u4;refine J ?_;exact⟨.inl ⟨λaB=>by have:=aB.2;omega,aK⟩,eY.ext aR Ad⟩
 obtain⟨r,rfl⟩:=Nb (show 0<=ref by omega);refine J ?_;refine J_ (Bs _ m aM (b4.ext aR) aG ch) ?_;rintro vr aU ⟨fD,aq⟩;obtain⟨e9,mJ,rfl,_⟩:=fD.form;replace ao:=aq.obj ao;replace bI:=aq.obj bI;have bn:=aR.trans aq;clear fD;refine J ?_;apply I_<;>intro g2
 .refine J ?_;intro bh eY u4;refine J ?_;exact⟨.inl ⟨λaB=>by have:=aB.2;omega,aK⟩,eY.ext bn Ad⟩
 have aB:o.Told m r:=⟨hk,Ad,Ad⟩;obtain⟨q,p,k,bw⟩:=o.mI aB;have au:=bw.at_.U;have ar:=bw.at_.ar;have hp:=bw.at_.hk;have fk:(o.refs m)[r].inst=(q:Int):=bw.at_.mX;have j7:(o.refs m)[r].cmd=(k:Int):=bw.at_.pI;have j5:=bw.at_.ip;refine J ?_;refine J_ (Bs _ m aU (b4.ext bn) aG ch) ?_;rintro vr bh ⟨fD,av⟩;obtain⟨e9,mJ,rfl,_⟩:=fD.form;have tE:bm 2 (Flat o.Ref.enc) bh (.slice e9 (o.refs m).length mJ) (o.refs m):=aJ.e3 (enc:=o.Ref.enc) (λ_=>rfl) fD;obtain⟨l7,rfl⟩:=tE.addr;replace ao:=av.obj ao;replace bI:=av.obj bI;have bC:=bn.trans av;clear fD;refine J ?_;intro bq h2 gZ aD bZ;have pt:(o.refs m)[r].enc=[.I q,.I k]:=by unfold o.Ref.enc;rw[fk,j7]
 rw[pt] at bZ;replace ao:=aD.obj ao;replace bI:=aD.obj bI;have b6:=bC.trans aD;clear tE;obtain⟨a3,rfl⟩:=ab.addr;obtain⟨kr,bY,dV,c3,eQ,er⟩:=ab.at p ar;obtain⟨vC,uQ,rfl,vy⟩:=er.form;obtain⟨ac,rfl⟩:=er.addr;obtain⟨eC,fi,va,e2,gi,fb⟩:=er.at k hp;obtain⟨fA,fL,rfl,_⟩:=gi.form;obtain⟨oq,nP,rfl,_⟩:=fb.form;have xb:=c3.ext b6;have tH:=e2.ext b6;unfold o.dt.enc at xb;unfold o.dI.enc at tH;clear c3 e2 ad h1 I aC;refine J ?_;intro bH bc;replace ao:=bc.obj ao;replace bI:=bc.obj bI;replace bZ:=bc.obj bZ;replace xb:=xb.ext bc;replace tH:=tH.ext bc;have cM:=b6.trans bc;refine J ?_;refine J_ (s0 _ m bH (b4.ext cM) aG) ?_;rintro bK cB ⟨dP,bt⟩;obtain⟨b8,ci,rfl,_⟩:=dP.form;have en:ik cB (.slice b8 (o.insts m).length ci) (o.insts m):=aJ.e3 (enc:=o.cO.enc) (λ_=>rfl) dP;obtain⟨gp,rfl⟩:=en.addr;clear dP;refine⟨bt,?_⟩;refine J ?_;refine⟨bt,?_⟩;refine J ?_;refine K_ p (by rw[j5]) ar ?_;refine J ?_;refine⟨bt,?_⟩;refine J ?_;refine⟨bt,?_⟩;replace bI:=bt.obj bI;refine J ?_;intro cG gy cE;refine J ?_;have eN:Ext w cB:=cM.trans bt;have fW:Ext w cG:=gy.ext eN Ad;have gR:=o.sv ar hp;refine⟨.inr ⟨q,p,k,.slice fA (o.bN m p k).guard.length fL,.slice oq (o.bN m p k).bP.length nP,bw,by rw[gR];rfl,?_,?_⟩,fW⟩
 .rw[gR];exact gi.ext fW
 .rw[gR];exact fb.ext fW
end Go.Proofs.R
namespace a8
open Go Go.RowKit
structure jS(e:TypeId)(base:Nat)(w:World)(v1:Value)(dz:List Int)(v2:Value)(dJ:List Int):Prop where
 cP:aJ bX e 1 base w v1 dz
 cA:aJ bX e 1 base w v2 dJ
 ap:∀k,v1.ownBlock=some k->v2.ownBlock≠some k
theorem jS.symm{e:F_}{base:Nat}{w:A_}{v1 v2:B_}{dz dJ:C_ Int}(h:jS e base w v1 dz v2 dJ):jS e base w v2 dJ v1 dz:=⟨h.cA,h.cP,λk a b=>h.ap k b a⟩
theorem jS.ext{e:F_}{base:Nat}{w w':A_}{v1 v2:B_}{dz dJ:C_ Int}(h:jS e base w v1 dz v2 dJ)(he:Ext w w'):jS e base w' v1 dz v2 dJ:=⟨h.cP.ext he,h.cA.ext he,h.ap⟩
theorem jS.app{P:D_}{cL:B_->A_->Prop}{e:F_}{base:Nat}{w:A_}{v1 v2 x:B_}{dz dJ ys:C_ Int}{ty:F_}{t}(h:jS e base w v1 dz v2 dJ)(af:bm 1 (Flat bX) w x ys)(aE:dz.length+ys.length<=100000)(ak:base<=w.heap.size)
  (hk:∀aN n c w',jS e base w' (.slice aN n c) (dz++ys) v2 dJ->w.grownBy w' v1.ownBlock->cL (.slice aN n c) w'):mw P ty e 1 8 v1 x w cL t:=by
 have key:∀bU w',aJ bX e 1 base w' bU (dz++ys)->w.grownBy w' v1.ownBlock->(bU.ownBlock=v1.ownBlock\/bU.ownBlock=some w.heap.size)->cL bU w':=λbU w' h1 I ab=>by
  obtain⟨aN,cap,rfl,_⟩:=h1.form;refine hk _ _ _ _ ⟨h1,h.cA.mod (Mod.grown (A:=λk=>v1.ownBlock=some k) I λk e=>e) λk a b=>h.ap k b a,λk a b=>?_⟩ I;rcases ab with ab | ab
  .exact h.ap k (ab ▸ a) b
  .have:=(h.cA.lt k b).2
   rw[a] at ab;injection ab with ab
   omega
 obtain⟨aN,cap,rfl,h1,I,ab,aC⟩:=af.ex;cases aN with
 | some a=>exact _T h.cP (λ_=>rfl) (bm.flat (enc:=bX) (λ_=>rfl) (λ_ _ h=>h) ⟨some a,cap,rfl,h1,I,ab,aC⟩) rfl hA Ad (by unfold maxLen;omega) ak key
 | none =>
  have:ys=[]:=Classical.byContradiction λaw=>by have:=ab aw;cases this
  subst this;rw[SN] at key;refine _c λ⟨aB,i,z,U,bA,A2,Az,zb,Gy⟩=>?_;exact⟨ty,v1,w,run_append_owned_none w base ty ty e i 1 aB U v1 _ _ h.cP,key v1 w h.cP ⟨rfl,rfl,rfl,EC _,λ_ _ _=>rfl⟩ (.inl rfl)⟩
end a8
namespace a8
open Go Go.RowKit
section
variable{P:Program}{C:World->Prop}{S:Fr}{w:World}{K:Fr->World->Prop}
def cX.aoj{d x i sz len cap k:Nat}{r:eo}{a:Addr}(af:S x = .slice (some a) len cap)(U:S i = .I k)(hk:k<len)(h:cX P C r (cc S d (.pointer (some (a.add (k*sz))))) w K):cX P C (.take ⟨some d,none,.p (.og sz (.tmp x) (.tmp i))⟩ r) S w K:=by
 refine cX.p ?_;rw[aqQ];show BT sz (S x) (S i) _;rw[af,U];exact abR k rfl hk h
def cX.agz{d x:Nat}{ty:F_}{n m:Int}{r:eo}(af:S x = .I n)(aS : -9223372036854775808<=n+m/\n+m<=9223372036854775807)(h:cX P C r (cc S d (.I (n+m))) w K):cX P C (.take ⟨some d,none,.p (.bin .add ty (.tmp x) (.const (.I m)))⟩ r) S w K:=by
 refine cX.p ?_;rw[ads];show nf P .add ty _ _ (S x) (.I m) _;rw[af,OV];exact wrap_i64 aS h
def cX.agy{d x y:Nat}{ty:F_}{n m:Int}{r:eo}(af:S x = .I n)(bE:S y = .I m)(aS : -9223372036854775808<=n+m/\n+m<=9223372036854775807)(h:cX P C r (cc S d (.I (n+m))) w K):cX P C (.take ⟨some d,none,.p (.bin .add ty (.tmp x) (.tmp y))⟩ r) S w K:=by
 refine cX.p ?_;rw[ads];show nf P .add ty _ _ (S x) (S y) _;rw[af,bE,OV];exact wrap_i64 aS h
end
def P0{w w':A_}{row:H_ Nat}{a:Addr}{v:B_}(aG:w.grownBy w' row)(an:w.cell? a=some v)(aw:row≠some a.block):w'.cell? a=some v:=by
 have cu:a.block<w.heap.size:=by
  unfold World.cell? at an;cases ak:w.heap[a.block]? with
  | none=>rw[ak] at an;cases an
  | some ae=>exact cq ak
 rw[<-an];simp only[World.cell?,aG.block a.block cu (Ne.symm aw)]
def G7{w:A_}{b:Nat}{y:Int}{e:F_}(h:w.heap[b]? = some (.cells #[.I y] e)):bm 1 (Flat bX) w (.slice (some ⟨b,0,none⟩) 1 1) [y] :=
 aJ.e3 (enc:=bX) (λ_=>rfl) (aJ.ss (base:=0) (enc:=bX) (sz:=1) [y] (cs:=[.I y]) h (AF6 _) rfl (λ_=>rfl) rfl (by show 1<=maxLen;unfold maxLen;decide))
end a8
namespace Go.Proofs.R
open Go Go.RowKit a8
def afC:eo :=
 (.take (aT 173 11) (.take (aT 174 14) (.take (fq 176 2 9) (.take (eE 177 176) (.take (aT 178 6) (.take (ij 179 1 177 178) (.take (eE 180 179) (.take (ki .add T.a 181 180 1) (.take (fq 182 2 13) (.take (eE 183 182) (.take (iL .add T.a 184 181 183) (.alt (dr 175 (.app T.b T.a 1 8 (aO 173) (aO 174))) (.ff (dr 185 (.kk T.a 1 1 [(.int .i64 0)] [(0,(aO 184))])) (.ff (dr 186 (.app T.b T.a 1 8 (aO 175) (aO 185))) (.take (aT 11 186) .done) .nil) .nil) (.ff (dr 185 (.kk T.a 1 1 [(.int .i64 0)] [(0,(aO 184))])) (.alt (dr 175 (.app T.b T.a 1 8 (aO 173) (aO 174))) (.ff (dr 186 (.app T.b T.a 1 8 (aO 175) (aO 185))) (.take (aT 11 186) .done) .nil) .nil) .nil)))))))))))))
def auH{w:A_}{S:Fr}{cL:Fr->A_->Prop}{base b9 b13 q ni ci:Nat}{a2:Addr}{iq tl:Int}{vw vr:H_ Addr×Nat×Nat}{lw lr ys:C_ Int}{va:B_}
  (CJ:S 11=ck vw)(CK:S 14=va)(ir:S 9 = .pointer (some ⟨b9,0,none⟩))(bJ:S 6 = .I q)(Ap:S 13 = .pointer (some ⟨b13,0,none⟩))
  (c1:w.cell? (Addr.add ⟨b9,0,none⟩ 2)=some (.slice (some a2) ni ci))(c2:w.cell? (a2.add (q*1))=some (.I iq))(bu:w.cell? (Addr.add ⟨b13,0,none⟩ 2)=some (.I tl))(au:q<ni)(awf:0<=iq/\iq<=1000/\0<=tl/\tl<=1000)
  (kQ:(ck vw).ownBlock≠some b9)(ka:(ck vw).ownBlock≠some a2.block)(o5:(ck vw).ownBlock≠some b13)
  (gq:jS T.a base w (ck vr) lr (ck vw) lw)(dv:bm 1 (Flat bX) w va ys)(tU:lw.length+ys.length+1<=100000)(ak:base<=w.heap.size)
  (hk:∀aZ w' NF,(∀t,t<11\/(11<t/\t<173)->aZ t=S t)->aZ 11=ck NF->jS T.a base w' (ck vr) lr (ck NF) (lw++ys++[iq+1+tl])->(∀w0,Ext w0 w->w0.heap.size<=base->Ext w0 w')->cL aZ w'):∃C:A_->Prop,C w/\cX Tryz.prog C afC S w cL:=by
 refine⟨λw=>w.cell? (Addr.add ⟨b9,0,none⟩ 2)=some (.slice (some a2) ni ci)/\w.cell? (a2.add (q*1))=some (.I iq)/\w.cell? (Addr.add ⟨b13,0,none⟩ 2)=some (.I tl),⟨c1,c2,bu⟩,?_⟩;unfold afC;refine cX.lv CJ ?_;refine cX.lv (v:=va) (by simp[bD,CK]) ?_;refine cX.jn (a:=⟨b9,0,none⟩) (by simp[bD,ir]) ?_;refine cX.ld (v:=.slice (some a2) ni ci) (by simp[bD]) (λw' m=>m.1) ?_;refine cX.lv (v:=.I q) (by simp[bD,bJ]) ?_;refine cX.aoj (a:=a2) (len:=ni) (cap:=ci) (k:=q) (by simp[bD]) (by simp[bD]) au ?_;refine cX.ld (v:=.I iq) (by simp[bD]) (λw' m=>m.2.1) ?_;refine cX.agz (n:=iq) (m:=1) (by simp[bD]) Ad ?_;refine cX.jn (a:=⟨b13,0,none⟩) (by simp[bD,Ap]) ?_;refine cX.ld (v:=.I tl) (by simp[bD]) (λw' m=>m.2.2) ?_;refine cX.agy (n:=iq+1) (m:=tl) (by simp[bD]) (by simp[bD]) Ad ?_;generalize rM:cc _ 184 _=rz;have CB:∀t,t<173->rz t=S t:=by
  subst rM;intro t aB;simp only[bD];rw[if_neg Ad,if_neg Ad,if_neg Ad,if_neg Ad,if_neg Ad,if_neg Ad,if_neg Ad,if_neg Ad,if_neg Ad,if_neg Ad,if_neg Ad]
 have YL:rz 173=ck vw:=by subst rM;simp[bD]
 have YM:rz 174=va:=by subst rM;simp[bD]
 have YO:rz 184 = .I (iq+1+tl):=by subst rM;simp[bD]
 clear rM;have lT:∀{w1 aA:A_} {row:H_ Nat},w1.grownBy aA row->(row≠some b9/\row≠some a2.block/\row≠some b13)->(w1.cell? (Addr.add ⟨b9,0,none⟩ 2)=some (.slice (some a2) ni ci)/\w1.cell? (a2.add (q*1))=some (.I iq)/\w1.cell? (Addr.add ⟨b13,0,none⟩ 2)=some (.I tl)) ->
   (aA.cell? (Addr.add ⟨b9,0,none⟩ 2)=some (.slice (some a2) ni ci)/\aA.cell? (a2.add (q*1))=some (.I iq)/\aA.cell? (Addr.add ⟨b13,0,none⟩ 2)=some (.I tl)):=λaG aw h =>
  ⟨P0 aG h.1 (by rw[zU];exact aw.1),P0 aG h.2.1 (by rw[zU];exact aw.2.1),P0 aG h.2.2 (by rw[zU];exact aw.2.2)⟩
 have out:∀{w1 aA:A_} {v:B_} {l:C_ Int},aJ bX T.a 1 base w1 v l->w1.grownBy aA v.ownBlock->(∀w0,Ext w0 w->w0.heap.size<=base->Ext w0 w1)->∀w0,Ext w0 w->w0.heap.size<=base->Ext w0 aA:=λaQ aG h w0 e ak=>(h w0 e ak).grown aG λk hk=>Nn ak (aQ.lt k hk).1;refine⟨lH.e ?_,ns.e ?_,trivial⟩
 .rw[E4];unfold aO;rw[dc,dc,YL,YM];refine EE λt=>jS.app gq.symm dv Ad ak λaN n c w1 Ft AJ=>⟨lT AJ ⟨kQ,ka,o5⟩ ⟨c1,c2,bu⟩,?_⟩;have g1:=out gq.cA AJ λw0 e _=>e;refine cX.u1 (ns.e ?_);have he:Ext w1 (w1.alloc (.cells #[.I (iq+1+tl)] T.a)):=(Ext.refl w1).alloc _;have ba:=heap_alloc_new w1 (.cells #[.I (iq+1+tl)] T.a);rw[PC];refine z6 (cs:=[.I (iq+1+tl)]) (Fh (by simp[gO,bD,YO])) ?_;show cX _ _ _ _ (w1.alloc (.cells #[.I (iq+1+tl)] T.a)) _;generalize w1.alloc (.cells #[.I (iq+1+tl)] T.a)=aA at he ba;have bA:=AJ.size;have sP:=he.size;refine cX.u1 (ns.e ?_);rw[E4];rw[dc,dc];simp only[gO,bD,Nat.reduceEqDiff,if_false,if_true];refine EE λt=>jS.app (Ft.ext he) (G7 ba) (by rw[MD];simp only[List.length_singleton];omega) Ad λiI iH iQ aM P9 F9=>?_;refine cX.lv (v:=.slice iI iH iQ) (by simp[gO,bD]) ?_;refine hk _ _ (iI,iH,iQ) (λt aB=>?_) (by simp[bD]) P9.symm (out (Ft.ext he).cP F9 λw0 e ak=>(g1 w0 e ak).trans he);simp only[gO,bD];rw[if_neg Ad,if_neg Ad,if_neg Ad,if_neg Ad];exact CB t Ad
 .have he:Ext w (w.alloc (.cells #[.I (iq+1+tl)] T.a)):=(Ext.refl w).alloc _;have ba:=heap_alloc_new w (.cells #[.I (iq+1+tl)] T.a);rw[PC];refine z6 (cs:=[.I (iq+1+tl)]) (Fh (by simp[aO,gO,bD,YO])) ?_;show cX _ _ _ _ (w.alloc (.cells #[.I (iq+1+tl)] T.a)) _;generalize w.alloc (.cells #[.I (iq+1+tl)] T.a)=w1 at he ba;have bA:=he.size;refine cX.zV (lH.e ?_);rw[E4];unfold aO;rw[dc,dc];simp only[gO,bD,Nat.reduceEqDiff,if_false,YL,YM];have Ft:=gq.ext he;refine EE λt=>jS.app Ft.symm (dv.ext Flat.ext he) Ad Ad λaN n c aA ZI C7=>⟨lT C7 ⟨kQ,ka,o5⟩ ⟨he.cell c1,he.cell c2,he.cell bu⟩,?_⟩;have g2:=out Ft.cA C7 λw0 e _=>e.trans he;have sP:=C7.size;have bo:aA.heap[w.heap.size]? = some (.cells #[.I (iq+1+tl)] T.a):=by
   rw[C7.block _ (by have:=cq ba;omega) λe=>?_]
   .exact ba
   .have:=(gq.cA.lt _ e.symm).2
    omega
  refine cX.u1 (ns.e ?_);rw[E4];rw[dc,dc];simp only[gO,bD,Nat.reduceEqDiff,if_false,if_true];refine EE λt=>jS.app ZI (G7 bo) (by rw[MD];simp only[List.length_singleton];omega) Ad λiI iH iQ aM P9 F9=>?_;refine cX.lv (v:=.slice iI iH iQ) (by simp[gO,bD]) ?_;refine hk _ _ (iI,iH,iQ) (λt aB=>?_) (by simp[bD]) P9.symm (out ZI.cP F9 g2);simp only[gO,bD];rw[if_neg Ad,if_neg Ad,if_neg Ad,if_neg Ad];exact CB t Ad
end Go.Proofs.R
namespace o
open Go
def agp{m:Model}(aL:ey m){q p:Nat}(h:fJ m q p){a:Act}(aY:nG (inner (m.procs[p]'(h.ar)) (ev m)) a):fe 3072 (po m q a):=by
 unfold po;by_cases a1:a.kind=5
 .rw[if_pos a1,if_neg Ad,if_neg Ad,if_pos a1,AF9];exact(Cm aL (aY.chan (.inr a1)).2).mono Ad
 .rw[if_neg a1];refine fe.app (b:=1536) (wJ aL h (aY.val a1) (EC _)) ?_ Ad;by_cases I:a.kind=2
  .rw[if_pos I];exact wJ aL h (aY.item I).2.2 (EC _)
  rw[if_neg I];by_cases aC:a.kind=4
  .rw[if_pos aC]
   have:=tv aL (aY.chan (.inl aC)).2
   exact fe.row Ad Ad
  .rw[if_neg aC,if_neg a1];exact fe.nil _
theorem M0{m:Model}(aL:ey m){q p:Nat}(h:fJ m q p){c:dI}(an:vS (inner (m.procs[p]'(h.ar)) (ev m)) c):∀n,n<=c.bP.length->fe (1537+3072*n) (re m q c n)
 | 0,_=>by
  unfold re;simpa using P1 aL h an
 | n+1,aw=>by
  rw[ad0 Ad];exact fe.app (M0 aL h an n Ad) (agp aL h (an.act n Ad)) Ad
def asp{l sR r:C_ Int}(h:pk l r)(e:∀x,x∈l↔x∈sR):pk sR r:=⟨h.lz,λx=>(h.mem x).trans (e x)⟩
end o
namespace a8
open Go Go.RowKit
theorem ahE{w:A_}{a:Addr}{v:B_}(an:w.cell? a=some v):a.block<w.heap.size:=by
 unfold World.cell? at an;cases ak:w.heap[a.block]? with
 | none=>rw[ak] at an;cases an
 | some ae=>exact cq ak
end a8
namespace Go.Proofs.R
open Go Go.RowKit a8
def adV(cs:C_ B_)(m:o.Model)(ref:Int)(w:A_)(h:o.dj w cs m)(aG:m.cv) :
  Du F.Mm #[.agg cs.toArray,.I ref] w λv w'=>(∃va iJ a b,v = .tuple #[va,iJ]/\aJ bX T.a 1 w.heap.size w' va a/\aJ bX T.a 1 w.heap.size w' iJ b/\o.kB m ref a b)/\Ext w w':=by
 have b4:=h;obtain⟨b0,bz,bO,c1,bT,c2,bV,bu,b1,bB,rfl,ad,h1,I,ab,aC,_⟩:=h.form;refine bl E.Mm ?_;refine J ?_;intro w1 bQ c7 ag ao;refine J ?_;refine J_ (arW _ m ref w1 (b4.ext ag) aG) ?_;rintro _ aA ⟨hO,ai⟩;replace ao:=ai.obj ao;have aH:=ag.trans ai;rcases hO with ⟨AV,rfl⟩ | ⟨q,p,k,fi,va,bw,rfl,gi,fb⟩
 .unfold IL;refine J ?_;intro wn dC e5 e8 eC;refine J ?_;intro aM fE bS;refine J ?_;exact⟨⟨_,_,[],[],rfl,aJ.nil _ _ _ _ _,aJ.nil _ _ _ _ _,o.kB.nil AV⟩,aH.trans (fE.ext e8 e5)⟩
 obtain⟨fA,fL,rfl,_⟩:=gi.form;obtain⟨oq,nP,rfl,_⟩:=fb.form;have aL:=o.hE bw.ok;have aP:=bw.inst;have iW:=bw.cin;have p9:=iW.gf;obtain⟨c,tI⟩:∃c,c=o.bN m p k:=⟨_,rfl⟩;rw[<-tI] at iW p9 gi fb ⊢;unfold o.dI.enc;refine J ?_;intro wn h2 gZ e8 eC;refine J ?_;intro aM fE bZ;have ah:Ext aA aM:=fE.ext e8 gZ;clear e8 eC fE;replace ao:=ah.obj ao;have aR:=aH.trans ah;refine J ?_;refine J_ (TG _ m aM (b4.ext aR) aG aL) ?_;rintro _ aU ⟨⟨ys,rfl,Av⟩,aq⟩;replace ao:=aq.obj ao;replace bZ:=aq.obj bZ;have bn:=aR.trans aq;have ch:=Av.here;obtain⟨kT,d0,ie,d1,ji,d2,nd,d3,mu,d4,rfl,dB,cP,cA,eI,fp⟩:=ch.form;clear Av;refine dS ?_;intro bh b9 lN av cE;have FP:=av.obj ao;have yQ:=av.obj bZ;have u5:=cE;have bC:=bn.trans av;obtain⟨sG,iv⟩:=o.oe aP.au;obtain⟨a2,rfl⟩:=cA.addr;have Br:=dB.ext Flat.ext av;have Hg:=cP.ext Flat.ext av;have ot:=cA.ext Flat.ext av;have CR:=ch.ext av;have Rv:=gi.ext (ah.trans (aq.trans av));have Di:=fb.ext (ah.trans (aq.trans av));have mi:=(o.wJ aL aP iW.guard (EC _)).len;have awc:=(o.P1 aL aP iW).len;clear ao bZ cE dB cP cA eI fp ch gi fb;refine dS ?_;refine R_ [2,6,7,9] (λv:fy=>[(10,.slice v.1 v.2.1 v.2.2)]) (λv W=>Ext bh W/\aJ bX T.a 1 bh.heap.size W (.slice v.1 v.2.1 v.2.2) (o.u2 m q c)) ?_ ?_
 .refine J ?_;intro bq aD;have b6:=bC.trans aD;have CS:=CR.ext aD;have abk:=Rv.ext aD;have MX:=ot.ext Flat.ext aD;refine J ?_;refine⟨?_,?_⟩
  .refine J ?_;intro bH agU FL bc FT;refine⟨bc,?_⟩;refine J ?_;have cM:=b6.trans bc;refine J_ (MZ _ _ _ _ m q p bH (b4.ext cM) aG aL (CS.ext bc) aP (abk.ext bc) iW.guard) ?_;rintro u cB ⟨gw,bt⟩;refine⟨bc.trans bt,?_⟩;have h1:aJ bX T.a 1 bq.heap.size cB (.slice (some ⟨agU,0,none⟩) 1 1) [(o.cU m q:Int)]:=aJ.ss _ (bt.obj FT) FL (by rw[iv];rfl) (λ_=>rfl) rfl (by show 1<=maxLen;unfold maxLen;decide);refine J ?_;refine _n h1 gw (λ_=>rfl) hA (by simp only[List.length_singleton];omega) (by simp only[List.length_singleton];unfold maxLen;omega) (by have:=bc.size;have:=bt.size;omega) λbU cG fu tN=>?_;have fW:Ext bq cG:=(bc.trans bt).grown tN λk hk=>(h1.lt k hk).1;have de:o.u2 m q c=[(o.cU m q:Int)]++o.j3 m q c.guard c.guard.length:=by unfold o.u2;rw[o.lY]
   rw[<-de] at fu;obtain⟨DH,Cr,rfl,_⟩:=fu.form;refine J ?_;exact⟨(DH,_,Cr),⟨rfl,trivial⟩,aD.trans fW,aJ.low aD.size fu⟩
  .refine J ?_;refine J_ (MZ _ _ _ _ m q p bq (b4.ext b6) aG aL CS aP abk iW.guard) ?_;rintro u bH ⟨dU,bc⟩;refine⟨bc,?_⟩;refine J ?_;intro cB agV avU bt al1;refine⟨bc.trans bt,?_⟩;have h1:aJ bX T.a 1 bq.heap.size cB (.slice (some ⟨agV,0,none⟩) 1 1) [(o.cU m q:Int)]:=aJ.ss _ al1 (by have:=bc.size;omega) (by rw[iv];rfl) (λ_=>rfl) rfl (by show 1<=maxLen;unfold maxLen;decide);refine J ?_;refine _n h1 (dU.ext bt) (λ_=>rfl) hA (by simp only[List.length_singleton];omega) (by simp only[List.length_singleton];unfold maxLen;omega) (by have:=bc.size;have:=bt.size;omega) λbU cG fu tN=>?_;have fW:Ext bq cG:=(bc.trans bt).grown tN λk hk=>(h1.lt k hk).1;have de:o.u2 m q c=[(o.cU m q:Int)]++o.j3 m q c.guard c.guard.length:=by unfold o.u2;rw[o.lY]
   rw[<-de] at fu;obtain⟨DH,Cr,rfl,_⟩:=fu.form;refine J ?_;exact⟨(DH,_,Cr),⟨rfl,trivial⟩,aD.trans fW,aJ.low aD.size fu⟩
 rintro vr S bq ⟨aD,dn⟩;have ao:=aD.obj FP;have bZ:=aD.obj yQ;have cE:=aD.obj u5;have MX:=ot.ext Flat.ext aD;refine J ?_;intro bH l8 wU bc iU;have CL:aJ bX T.a 1 bh.heap.size bH (.slice (some ⟨l8,0,none⟩) 1 1) (o.kg m q c 0):=aJ.ss _ iU (by have:=aD.size;omega) (by unfold o.kg;rw[iv,AH6,AI1,SN,o.lY];rfl) (λ_=>rfl) (by unfold o.kg;rw[AH6,AI1,SN,o.lY];rfl) (by unfold o.kg;rw[AH6,AI1,SN,o.lY];show 1<=maxLen;unfold maxLen;decide);have ZH:jS T.a bh.heap.size bH (.slice vr.1 vr.2.1 vr.2.2) (o.re m q c 0) (.slice (some ⟨l8,0,none⟩) 1 1) (o.kg m q c 0):=⟨by unfold o.re;rw[AH6,AI1,SN];exact dn.ext bc,CL,λk hk e=>by
  have:=(dn.lt k hk).2
  injection e with e
  have:k=l8:=e.symm
  omega⟩
 refine J ?_;refine L_ 12 c.bP.length [2,6,7,9] (λv:fy×fy=>[(10,.slice v.1.1 v.1.2.1 v.1.2.2),(11,.slice v.2.1 v.2.2.1 v.2.2.2)]) (vr,(some ⟨l8,0,none⟩,1,1)) (λk v W=>Ext bh W/\jS T.a bh.heap.size W (.slice v.1.1 v.1.2.1 v.1.2.2) (o.re m q c k) (.slice v.2.1 v.2.2.1 v.2.2.2) (o.kg m q c k)) a6 a6 ⟨aD.trans bc,ZH⟩ ?_;clear ZH CL dn ao bZ cE MX iU bc aD;rintro n ⟨vr,vw⟩ S bq aw ⟨aD,gq⟩;have ao:=aD.obj FP;have bZ:=aD.obj yQ;have cE:=aD.obj u5;have anf:=Di.ext aD;have uz:=aD.size;refine J ?_;apply I_<;>intro g1
 .have hc:n<c.bP.length:=Ad
  obtain⟨tk,rfl⟩:=Di.addr;obtain⟨bK,bY,nv,ob,qd⟩:=Di.at n hc;replace nv:=nv.ext aD;have p5:=iW.act n hc;obtain⟨b8,ci,rfl,apq⟩:=ob.form;obtain⟨ei,eW,rfl,axi⟩:=qd.form;obtain⟨a,alq⟩:∃a,a=c.bP[n]:=⟨_,rfl⟩;have j8:=o.ad0 (m:=m) (q:=q) hc;have vl:=o.Uv (m:=m) (q:=q) hc;have hR:=(o.M0 aL aP iW (n+1) Ad).len;have Sg:=(o.HJ aL aP iW (n+1) Ad).len;rw[<-alq] at p5 nv ob qd j8 vl;unfold o.Act.enc at nv;refine dS ?_;refine R_ [2,6,7,9,12] (λv:fy×fy=>[(10,.slice v.1.1 v.1.2.1 v.1.2.2),(11,.slice v.2.1 v.2.2.1 v.2.2.2)]) (λv W=>Ext bh W/\jS T.a bh.heap.size W (.slice v.1.1 v.1.2.1 v.1.2.2) (o.re m q c (n+1)) (.slice v.2.1 v.2.2.1 v.2.2.2) (o.kg m q c (n+1))) ?_ ?_;rotate_left
  .rintro v aZ w' ⟨hn,akP⟩;refine J ?_;exact⟨hc,aK,v,⟨rfl,rfl,trivial⟩,hn,akP⟩
  have awq:=(o.M0 aL aP iW n Ad).len;have aws:=(o.HJ aL aP iW n Ad).len;have CS:=CR.ext aD;refine J ?_;intro bH b13 FI bc gr;have fZ:=aD.trans bc;have cM:=bC.trans fZ;replace ao:=bc.obj ao;replace bZ:=bc.obj bZ;replace cE:=bc.obj cE;have CP:=gq.ext bc;have HO:=fZ.size;clear gq anf nv;refine J ?_;apply I_<;>intro g5
  .obtain⟨fh,dO⟩:=p5.chan (.inr g5);have dE:a.to.toNat<m.ax.length:=dO;obtain⟨cK,h6⟩:=p5.recv g5;have rV:a.loc.toNat<(m.procs[p]'(aP.ar)).vars.length:=h6;have j4:=aP.zu aL;have sO:=o.tv aL dE;have amg:=o.oL dE;have hL:=(aL.chan _ (ED dE)).cap;obtain⟨iV,eB⟩:=o.p1 dE;obtain⟨f6,f7,f8⟩:=o.pH m;obtain⟨db,rfl⟩:=Hg.addr;obtain⟨nM,rfl⟩:=I.addr;have zq:=Hg.ext Flat.ext fZ;have dH:=((I.at a.to.toNat dE).cells).ext cM;have uV:o.po m q a=o.lJ m a.to.toNat:=by unfold o.po;rw[if_pos g5,if_neg Ad,if_neg Ad,if_pos g5,AF9]
   have qL:o.jY m q a=o.lJ m a.to.toNat++[((o.cU m q+1+a.loc.toNat:Nat):Int)]:=by unfold o.jY;rw[if_neg Ad,if_neg Ad,if_neg Ad,if_neg Ad,if_pos g5,o.lY]
   have dL:(o.lJ m a.to.toNat).length<=64:=(o.Cm aL dE).len;refine J ?_;intro cB bt;replace ao:=bt.obj ao;replace cE:=bt.obj cE;replace gr:=bt.obj gr;replace zq:=zq.ext Flat.ext bt;replace dH:=dH.ext bt;refine J ?_;refine K_ a.to.toNat Ad Ad ?_;refine J ?_;refine K_ a.to.toNat Ad dE ?_;refine J ?_;refine J_ (TN (o.b7 m a.to.toNat) (1+o.gF m a.to.toNat) _ _ cB (by rw[eB]) Ad Ad) ?_;rintro u cG ⟨fu,b2⟩;have Z5:bm 1 (Flat bX) cG u (o.lJ m a.to.toNat):=aJ.e3 (enc:=bX) (λ_=>rfl) fu;obtain⟨S8,O3,rfl,_⟩:=Z5.form;have fw:=(fZ.trans bt).trans b2;have yG:=(CP.ext bt).ext b2;replace cE:=b2.obj cE;replace gr:=b2.obj gr;have z9:=fw.size;clear ao zq dH;refine J ?_;refine jS.app yG Z5 Ad z9 λor' DE Cq ew qN mO=>?_;have pR:Ext bh ew:=fw.grown mO λi U=>(yG.cP.lt i U).1;have QA:=yG.cP.box mO gr By;have als:bm 1 (Flat bX) ew (.slice S8 (o.lJ m a.to.toNat).length O3) (o.lJ m a.to.toNat):=aJ.e3 (enc:=bX) (λ_=>rfl) (fu.mod (Mod.grown (A:=λk=>(Value.slice vr.1 vr.2.1 vr.2.2).ownBlock=some k) mO λk e=>e) λk hk e=>by
    have a:=(fu.lt k hk).1;have b:=(CP.cP.lt k e).2;have c:=bt.size;omega)
   refine J ?_;intro fB ek;have jU:=pR.trans ek;have tB:=qN.ext ek;have alu:=als.ext Flat.ext ek;have aab:=ek.obj QA;have Tv:=ot.ext Flat.ext jU;have FY:=(Tv.at q sG) 0 (.I (o.layout m).insts[q]) rfl;rw[add_zero,iv] at FY;have hQ:(o.kg m q c n).length+(o.lJ m a.to.toNat).length+1<=100000:=Ad
   refine _o (auH (base:=bh.heap.size) (b9:=b9) (b13:=b13) (q:=q) (ni:=(o.layout m).insts.length) (ci:=d2) (a2:=a2) (iq:=o.cU m q) (tl:=a.loc) (vw:=vw) (vr:=(or',DE,Cq)) (lw:=o.kg m q c n) (lr:=o.re m q c n++o.lJ m a.to.toNat) (ys:=o.lJ m a.to.toNat) (va:=.slice S8 (o.lJ m a.to.toNat).length O3)
    (by simp[bD]) (by simp[bD]) (by simp[bD]) (by simp[bD]) (by simp[bD]) (fM (jU.obj u5) rfl) FY (fM aab rfl) Ad Ad ?_ ?_ ?_ tB alu hQ jU.size ?_)
   .intro e;have:=(CP.cA.lt b9 e).1;have:=cq u5;omega
   .intro e;have dp:=(CP.cA.lt a2.block e).1;have ir:=ahE ((ot.at q sG) 0 (.I (o.layout m).insts[q]) rfl);rw[add_zero,zU] at ir;omega
   .intro e;obtain⟨cur,dp⟩:=tB.cA.cy b13 e;rw[aab] at dp;injection dp with dp;injection dp with _ dp;exact absurd dp By
   .intro aZ hx NF CB uU CO de;have aiM:aZ 10 = .slice or' DE Cq:=by rw[CB 10 (.inl Ad)];simp[bD]
    refine J ?_;refine⟨((or',DE,Cq),NF),⟨aiM,uU,trivial⟩,de bh jU (EC _),?_⟩;rw[j8,vl,uV,qL,<-MV,show((o.cU m q+1+a.loc.toNat:Nat):Int)=(o.cU m q:Int)+1+a.loc from Ad];exact CO
  .have abn:=p5.val g5;have yX:=p5.kind;have an7:=(o.wJ aL aP abn (EC _)).len;refine J ?_;refine J_ (MZ _ _ _ a.value m q p bH (b4.ext cM) aG aL (CR.ext fZ) aP (qd.ext fZ) abn) ?_;rintro u cB ⟨gw,bt⟩;have GF:bm 1 (Flat bX) cB u (o.j3 m q a.value a.value.length):=aJ.e3 (enc:=bX) (λ_=>rfl) gw;obtain⟨S8,O3,rfl,_⟩:=GF.form;have hG:=fZ.trans bt;have HP:=hG.size;have JT:=CP.ext bt;refine J ?_;refine jS.app JT GF Ad HP λor' DE Cq cG yG tN=>?_;have fw:Ext bh cG:=hG.grown tN λi U=>(JT.cP.lt i U).1;replace gr:=JT.cP.box tN (bt.obj gr) By;replace ao:=fw.obj FP;replace bZ:=fw.obj yQ;replace cE:=fw.obj u5;have fW:=bC.trans fw;have z9:=fw.size;have qa:(o.re m q c n++o.j3 m q a.value a.value.length).length<=30000:=by rw[MD];omega
   clear GF gw JT CP;obtain⟨f6,f7,f8⟩:=o.pH m;refine J ?_;refine I_ (λcK=>?_) (λcK=>?_)
   .obtain⟨fh,v,aF,iw⟩:=p5.set cK;have dO:a.to.toNat<m.vars.length:=(List.getElem?_eq_some_iff.1 aF).1;obtain⟨dP,gk⟩:=o.ri dO;obtain⟨a0,rfl⟩:=Br.addr;have axF:=Br.ext Flat.ext fw;have uV:o.po m q a=o.j3 m q a.value a.value.length:=by unfold o.po;rw[if_neg Ad,if_neg Ad,if_neg Ad,if_neg Ad,SN]
    have qL:o.jY m q a=[((o.fY m a.to.toNat:Nat):Int)]:=by unfold o.jY;rw[if_pos cK,o.lY]
    refine J ?_;refine K_ a.to.toNat Ad Ad ?_;refine J ?_;intro ew rD wT cj h4;refine J ?_;rw[gk] at h4;have qN:=yG.ext cj;refine jS.app qN.symm (G7 h4) (by simp only[List.length_singleton];omega) (by have:=cj.size;omega) λxD xC wC fB tB AK=>?_;refine J ?_;exact⟨((or',DE,Cq),(xD,xC,wC)),⟨rfl,rfl,trivial⟩,(fw.trans cj).grown AK λi U=>(qN.cA.lt i U).1,by rw[j8,vl,uV,qL];exact tB.symm⟩
   refine J ?_;refine I_ (λcV=>?_) (λcV=>?_)
   .obtain⟨fh,dO,AL⟩:=p5.item cV;have dE:a.to.toNat<m.vars.length:=dO;have gG:a.to=(a.to.toNat:Nat):=Ad
    have kp:=(o.wJ aL aP AL (EC _)).len;have uV:o.po m q a=o.j3 m q a.value a.value.length++o.j3 m q a.index a.index.length:=by unfold o.po;rw[if_neg Ad,if_pos cV]
    have qL:o.jY m q a=o.mm m q a.to.toNat (o.pL a):=by unfold o.jY;rw[if_neg cK,if_pos cV]
    have awg:=(o.SB aL aP.au dE (o.pL a)).len;refine J ?_;refine J_ (MZ _ _ _ a.index m q p cG (b4.ext fW) aG aL (CR.ext fw) aP (ob.ext fw) AL) ?_;rintro u ew ⟨oc,cj⟩;have Sh:bm 1 (Flat bX) ew u (o.j3 m q a.index a.index.length):=aJ.e3 (enc:=bX) (λ_=>rfl) oc;obtain⟨ap6,ahq,rfl,_⟩:=Sh.form;have qN:=yG.ext cj;have pR:=fw.trans cj;refine J ?_;refine jS.app qN Sh Ad pR.size λMO ML IU fB tB AK=>?_;have jU:Ext bh fB:=pR.grown AK λi U=>(qN.cP.lt i U).1;replace gr:=qN.cP.box AK (cj.obj gr) By;replace ao:=jU.obj FP;replace cE:=jU.obj u5;have uU:=bC.trans jU;clear Sh oc qN;refine J ?_;intro hx dW;have my:=jU.trans dW;have ps:=uU.trans dW;replace ao:=dW.obj ao;replace cE:=dW.obj cE;replace gr:=dW.obj gr;have CO:=tB.ext dW;have awt:=ob.ext my;refine J ?_;apply I_<;>intro g6
    .have tS:=o.aeJ (a:=a) Ad;obtain⟨rC,rfl⟩:=ob.addr;have ny:=(AL.node 0 Ad).1;refine J ?_;refine K_ 0 rfl Ad ?_;refine J ?_;rw[gG];refine J_ (TI _ _ m q a.to.toNat (decide ((a.index[0]' Ad).op=5)) hx (b4.ext ps) aG aL (CR.ext my) aP.au dE (λa1=>o.aeK aP ny (by simpa using a1))) ?_;rw[<-tS];rintro u kx ⟨AW,gv⟩;have vn:bm 1 (Flat bX) kx u (o.mm m q a.to.toNat (o.pL a)):=aJ.e3 (enc:=bX) (λ_=>rfl) AW;obtain⟨ap7,ahr,rfl,_⟩:=vn.form;have yF:=CO.ext gv;have oy:=my.trans gv;refine J ?_;refine jS.app yF.symm vn Ad oy.size λxD xC wC s6 Fu F8=>?_;refine J ?_;refine⟨((MO,ML,IU),(xD,xC,wC)),⟨rfl,rfl,trivial⟩,oy.grown F8 λi U=>(yF.cA.lt i U).1,?_⟩;rw[j8,vl,uV,qL,<-MV];exact Fu.symm
    .have tS:=o.aeI (a:=a) Ad;refine J ?_;rw[gG];refine J_ (TI _ _ m q a.to.toNat false hx (b4.ext ps) aG aL (CR.ext my) aP.au dE (λa1=>by cases a1)) ?_;rw[<-tS];rintro u kx ⟨AW,gv⟩;have vn:bm 1 (Flat bX) kx u (o.mm m q a.to.toNat (o.pL a)):=aJ.e3 (enc:=bX) (λ_=>rfl) AW;obtain⟨ap7,ahr,rfl,_⟩:=vn.form;have yF:=CO.ext gv;have oy:=my.trans gv;refine J ?_;refine jS.app yF.symm vn Ad oy.size λxD xC wC s6 Fu F8=>?_;refine J ?_;refine⟨((MO,ML,IU),(xD,xC,wC)),⟨rfl,rfl,trivial⟩,oy.grown F8 λi U=>(yF.cA.lt i U).1,?_⟩;rw[j8,vl,uV,qL,<-MV];exact Fu.symm
   refine J ?_;refine I_ (λfo=>?_) (λfo=>?_)
   .obtain⟨fh,dO⟩:=p5.loc fo;have dE:a.to.toNat<(m.procs[p]'(aP.ar)).vars.length:=dO;have j4:=aP.zu aL;have uV:o.po m q a=o.j3 m q a.value a.value.length:=by unfold o.po;rw[if_neg Ad,if_neg Ad,if_neg Ad,if_neg Ad,SN]
    have qL:o.jY m q a=[((o.cU m q+1+a.to.toNat:Nat):Int)]:=by unfold o.jY;rw[if_neg Ad,if_neg Ad,if_pos fo,o.lY]
    have Tw:=ot.ext Flat.ext fw;refine J ?_;intro ew cj;refine J ?_;rw[iv];refine J ?_;intro fB au8 avK ek alH;refine J ?_;have tB:=(yG.ext cj).ext ek;refine jS.app tB.symm (G7 alH) (by simp only[List.length_singleton];omega) (by have:=cj.size;have:=ek.size;omega) λxD xC wC hx CO vd=>?_;refine J ?_;refine⟨((or',DE,Cq),(xD,xC,wC)),⟨rfl,rfl,trivial⟩,((fw.trans cj).trans ek).grown vd λi U=>(tB.cA.lt i U).1,?_⟩;rw[j8,vl,uV,qL,show((o.cU m q+1+a.to.toNat:Nat):Int)=(o.cU m q:Int)+1+a.to from Ad];exact CO.symm
   have hC:a.kind=4:=Ad
   obtain⟨fh,dO⟩:=p5.chan (.inl hC);have dE:a.to.toNat<m.ax.length:=dO;have sO:=o.tv aL dE;have amg:=o.oL dE;have hL:=(aL.chan _ (ED dE)).cap;obtain⟨iV,eB⟩:=o.p1 dE;obtain⟨db,rfl⟩:=Hg.addr;obtain⟨nM,rfl⟩:=I.addr;have arB:=Hg.ext Flat.ext fw;have uV:o.po m q a=o.j3 m q a.value a.value.length++[((o.b7 m a.to.toNat:Nat):Int)]:=by unfold o.po;rw[if_neg Ad,if_neg Ad,if_pos hC,o.lY]
   have qL:o.jY m q a=o.lJ m a.to.toNat:=by unfold o.jY;rw[if_neg Ad,if_neg Ad,if_neg Ad,if_pos hC]
   have dL:(o.lJ m a.to.toNat).length<=64:=(o.Cm aL dE).len;refine J ?_;refine K_ a.to.toNat Ad Ad ?_;refine J ?_;intro ew rD wT cj h4;refine J ?_;rw[eB] at h4;have qN:=yG.ext cj;have pR:=fw.trans cj;refine jS.app qN (G7 h4) (by simp only[List.length_singleton];omega) (by have:=cj.size;omega) λMO ML IU fB tB AK=>?_;have jU:Ext bh fB:=pR.grown AK λi U=>(qN.cP.lt i U).1;replace gr:=qN.cP.box AK (cj.obj gr) By;replace ao:=jU.obj FP;replace cE:=jU.obj u5;have uU:=bC.trans jU;have adR:=Hg.ext Flat.ext jU;have dH:=((I.at a.to.toNat dE).cells).ext uU;clear qN arB;refine J ?_;intro hx dW;replace ao:=dW.obj ao;replace cE:=dW.obj cE;replace gr:=dW.obj gr;replace adR:=adR.ext Flat.ext dW;replace dH:=dH.ext dW;refine J ?_;refine K_ a.to.toNat Ad Ad ?_;refine J ?_;refine K_ a.to.toNat Ad dE ?_;refine J ?_;refine J_ (TN (o.b7 m a.to.toNat) (1+o.gF m a.to.toNat) _ _ hx (by rw[eB]) Ad Ad) ?_;rintro u kx ⟨AW,gv⟩;have vn:bm 1 (Flat bX) kx u (o.lJ m a.to.toNat):=aJ.e3 (enc:=bX) (λ_=>rfl) AW;obtain⟨ap6,ahq,rfl,_⟩:=vn.form;have yF:=(tB.ext dW).ext gv;have oy:=(jU.trans dW).trans gv;refine J ?_;refine jS.app yF.symm vn Ad oy.size λxD xC wC s6 Fu F8=>?_;refine J ?_;refine⟨((MO,ML,IU),(xD,xC,wC)),⟨rfl,rfl,trivial⟩,oy.grown F8 λi U=>(yF.cA.lt i U).1,?_⟩;rw[j8,vl,uV,qL,<-MV];exact Fu.symm
 .have vj:c.bP.length=n:=Ad
  have j8:=o.M0 aL aP iW n Ad;have vl:=o.HJ aL aP iW n Ad;have ak3:c9 bq (.slice vr.1 vr.2.1 vr.2.2) (o.re m q c n):=aJ.e3 (enc:=bX) (λ_=>rfl) gq.cP;have CU:c9 bq (.slice vw.1 vw.2.1 vw.2.2) (o.kg m q c n):=aJ.e3 (enc:=bX) (λ_=>rfl) gq.cA;refine J ?_;refine J_ (aeo _ _ bq ak3 j8.aV (by have:=j8.len;omega)) ?_;rintro u bH ⟨⟨Tz,Ry,RM⟩,bc⟩;refine J ?_;refine J_ (aeo _ _ bH (CU.ext Flat.ext bc) vl.aV (by have:=vl.len;omega)) ?_;rintro BF cB ⟨⟨Hj,Rz,RN⟩,bt⟩;refine J ?_;have uz:=(bC.trans aD).size;have HO:=bc.size;refine⟨⟨_,_,Tz,Hj,rfl,aJ.ext bt (aJ.low uz Ry),aJ.low (Nn uz HO) Rz,?_⟩,((bC.trans aD).trans bc).trans bt⟩;subst tI;refine o.kB.of bw ?_ ?_
  .rw[vj];exact o.asp RM λx=>(o.ar0 m q _ n x).symm
  .rw[vj];exact RN
end Go.Proofs.R
namespace o
open Go
def ajy(x:Node)(h : -1000<=x.op/\x.op<=1000 /\ -1000<=x.n/\x.n<=1000):x.ok:=⟨pG ⟨h.1,h.2.1⟩,pG h.2.2⟩
end o
namespace o
def adO{s:C_ Scalar}{c:dZ}{l:C_ Int}(aE:l.length=1+c.cap.toNat)(ad:1<=c.cap):l3 s c l↔(0<=l[0]' Ad/\l[0]' Ad<=c.cap/\∀k (h:k+1<l.length),((k:Int)<l[0]' Ad->(e1 c.scalar c.aV c.U s).aV<=l[k+1]/\l[k+1]<=(e1 c.scalar c.aV c.U s).U)/\(l[0]' Ad<=k->l[k+1]=0)):=by
 unfold l3;constructor
 .rintro⟨n,h1,I,ab,aC⟩;obtain⟨_,rfl⟩:=List.getElem?_eq_some_iff.1 h1;refine⟨I,ab,λk h=>?_⟩;obtain⟨x,a1,bJ⟩:=aC k Ad;obtain⟨_,rfl⟩:=List.getElem?_eq_some_iff.1 a1;exact bJ
 .rintro⟨I,ab,aC⟩;exact⟨l[0]' Ad,List.getElem?_eq_getElem _,I,ab,λk h=>⟨l[k+1]' Ad,List.getElem?_eq_getElem _,aC k Ad⟩⟩
end o
namespace Go.Proofs.R
open Go Go.RowKit a8
def yf.form{w:A_}{b:Nat}{m:o.Model}(h:yf w b m):∃b0 bz bO c1 bT c2 bV bu b1 bB eH d0 dK d1 eg d2 eD d3 eU d4 b8 ci,
  w.heap[b]? = some (.cells #[.slice b0 (o.layout m).vars.length bz,.slice bO (o.layout m).ax.length c1,.slice bT (o.layout m).insts.length c2,.I (o.layout m).cells,.slice bV (o.layout m).aV.length bu,.slice b1 (o.layout m).U.length bB,
   .slice eH m.scalars.length d0,.slice dK m.vars.length d1,.slice eg m.ax.length d2,.slice eD m.procs.length d3,.slice eU m.props.length d4,.slice b8 (o.insts m).length ci] T.l7) /\
  bm 1 (Flat bX) w (.slice b0 (o.layout m).vars.length bz) (o.layout m).vars/\bm 1 (Flat bX) w (.slice bO (o.layout m).ax.length c1) (o.layout m).ax/\bm 1 (Flat bX) w (.slice bT (o.layout m).insts.length c2) (o.layout m).insts /\
  bm 1 (Flat bX) w (.slice bV (o.layout m).aV.length bu) (o.layout m).aV/\bm 1 (Flat bX) w (.slice b1 (o.layout m).U.length bB) (o.layout m).U /\
  o.il w (.slice eH m.scalars.length d0) m.scalars/\o.hZ w (.slice dK m.vars.length d1) m.vars/\o.nH w (.slice eg m.ax.length d2) m.ax/\o.rr w (.slice eD m.procs.length d3) m.procs /\
  ik w (.slice b8 (o.insts m).length ci) (o.insts m):=by
 obtain⟨xs,cs,bK,ak,ch,aL,aP⟩:=h.ex;obtain⟨b0,bz,bO,c1,bT,c2,bV,bu,b1,bB,rfl,dB,cP,cA,eI,fp⟩:=ch.form;obtain⟨eH,d0,dK,d1,eg,d2,eD,d3,eU,d4,rfl,ad,h1,I,ab,aC,_⟩:=aL.form;obtain⟨b8,ci,rfl,_⟩:=aP.form;exact⟨b0,bz,bO,c1,bT,c2,bV,bu,b1,bB,eH,d0,dK,d1,eg,d2,eD,d3,eU,d4,b8,ci,ak,dB,cP,cA,eI,fp,ad,h1,I,ab,aP⟩
def arx(b i:Nat)(v:B_)(s:C_ Int)(m:o.Model)(w:A_)(aS:yf w b m)(aL:o.ey m)(U:i<m.ax.length)(aj:c9 w v s)(aE:s.length=o.di m) :
  Du F.I7 #[.pointer (some ⟨b,0,none⟩),.I i,v] w λu w'=>(∃t:Bool,u = .bool t/\(t=true↔o.l3 m.scalars m.ax[i] (o.nR m i m.ax[i] s)))/\Ext w w':=by
 obtain⟨b0,bz,bO,c1,bT,c2,bV,bu,b1,bB,eH,d0,dK,d1,eg,d2,eD,d3,eU,d4,b8,ci,ak,dB,cP,cA,eI,fp,ad,h1,I,ab,aP⟩:=aS.form;obtain⟨ei,eW,rfl,e6⟩:=aj.form;have c8:=aL.chan _ (ED U);have hL:=c8.cap;have gf:=aL.gf;obtain⟨iV,eB⟩:=o.p1 U;have n3:=o.wv U;have eC:=o.nq m;have j4:o.di m<=64:=o.iG aL;obtain⟨ac,rfl⟩:=I.addr;obtain⟨db,rfl⟩:=cP.addr;have dH:=(I.at i U).cells;refine bl E.I7 ?_;refine J ?_;intro w1 h2 gZ ag bZ;replace ak:=ag.obj ak;replace ad:=ad.ext ag;replace cP:=cP.ext Flat.ext ag;replace aj:=aj.ext Flat.ext ag;clear dH h1 I ab aP dB cA eI fp aS;refine J ?_;refine P_ (.tuple #[.I (o.e1 m.ax[i].scalar m.ax[i].aV m.ax[i].U m.scalars).aV,.I (o.e1 m.ax[i].scalar m.ax[i].aV m.ax[i].U m.scalars).U]) (λw' e=>by
  rw[show o.e1 m.ax[i].scalar m.ax[i].aV m.ax[i].U m.scalars=_ from o.z1 ⟨⟨#[]⟩,m.ax[i].scalar,0,m.ax[i].aV,m.ax[i].U,0⟩ m.scalars];exact IB ⟨⟨#[]⟩,m.ax[i].scalar,0,m.ax[i].aV,m.ax[i].U,0⟩ _ m.scalars w' (ad.ext e)) ?_
 refine J ?_;intro aA ai;replace ak:=ai.obj ak;replace cP:=cP.ext Flat.ext ai;replace aj:=aj.ext Flat.ext ai;replace bZ:=ai.obj bZ;have aH:=ag.trans ai;obtain⟨aV,hQ⟩:∃aV,aV=(o.e1 m.ax[i].scalar m.ax[i].aV m.ax[i].U m.scalars).aV:=⟨_,rfl⟩;obtain⟨cw,tP⟩:∃U,U=(o.e1 m.ax[i].scalar m.ax[i].aV m.ax[i].U m.scalars).U:=⟨_,rfl⟩;rw[<-hQ,<-tP];refine J ?_;refine _W (k:=.i64) (k':=.i64) (o.b7 m i) (o.b7 m i+(1+m.ax[i].cap.toNat)) aj (by simp[dc,bD,eB]) (by simp[dc,bD,eB];omega) Ad Ad λae c ar=>?_;rw[show o.b7 m i+(1+m.ax[i].cap.toNat) - o.b7 m i=1+m.ax[i].cap.toNat from Ad] at ar ⊢;obtain⟨l,ch⟩:∃l,l=o.nR m i m.ax[i] s:=⟨_,rfl⟩;have ar:bm 1 (Flat bX) aA (.slice ae (1+m.ax[i].cap.toNat) c) l:=by rw[ch];exact ar
 have qa:l.length=1+m.ax[i].cap.toNat:=ar.len.1.symm;rw[<-ch];obtain⟨ap,rfl⟩:=ar.addr;refine J ?_;intro aM ah;replace ar:=ar.ext Flat.ext ah;replace bZ:=ah.obj bZ;have aR:=aH.trans ah;have au:=o.adO (s:=m.scalars) (c:=m.ax[i]) (l:=l) qa hL.1;rw[<-hQ,<-tP] at au;refine J ?_;refine K_ 0 rfl Ad ?_;refine J ?_;apply I_<;>intro g1
 .refine J ?_;intro aU aq;exact⟨⟨false,rfl,by simp only[Bool.false_eq_true,false_iff];intro h;exact absurd (au.1 h).1 Ad⟩,aR.trans aq⟩
 refine J ?_;refine K_ 0 rfl Ad ?_;refine J ?_;intro aU aq;replace ar:=ar.ext Flat.ext aq;replace bZ:=aq.obj bZ;replace aR:=aR.trans aq;apply I_<;>intro g2
 .refine J ?_;exact⟨⟨false,rfl,by simp only[Bool.false_eq_true,false_iff];intro h;exact absurd (au.1 h).2.1 Ad⟩,aR⟩
 have aB:=ar.tail 1 Ad;refine J ?_;refine _8 (k:=.i64) 1 (by simp[oO]) ⟨Ad,ar.len.2.1⟩ ?_;obtain⟨ui,het⟩:∃ui,ui=(if c=1 then some ap else (some ap).map (·.add (1*1))):=⟨_,rfl⟩;rw[<-het] at aB ⊢;have awC:(l.drop 1).length=m.ax[i].cap.toNat:=by rw[AF4];omega
 rw[show 1+m.ax[i].cap.toNat - 1=m.ax[i].cap.toNat from Ad] at aB ⊢;refine J ?_;refine L_ 74 m.ax[i].cap.toNat [7,8,9,10,72,73] (λ_:Unit=>[]) () (λk _ W=>Ext aU W/\∀j (h:j+1<l.length),j<k->((j:Int)<l[0]->aV<=l[j+1]/\l[j+1]<=cw)/\(l[0]<=j->l[j+1]=0)) a6 a6 ⟨Ext.refl _,λj _ h=>absurd h (HI _)⟩ ?_;have FT:=bZ;clear bZ;rintro k _ S bh hk ⟨av,dv⟩;have bZ:=av.obj FT;have bn:=aR.trans av;refine J ?_;apply I_<;>intro g3
 .have a7:k<(l.drop 1).length:=Ad
  have cb:k+1<l.length:=Ad
  obtain⟨at_,rfl⟩:=aB.addr;have aF:(l.drop 1)[k]=l[k+1]:=by simp[Nat.add_comm]
  have bad:¬(((k:Int)<l[0]->aV<=l[k+1]/\l[k+1]<=cw)/\(l[0]<=k->l[k+1]=0))->(false=true↔o.l3 m.scalars m.ax[i] l):=λh=>by
   simp only[Bool.false_eq_true,false_iff];exact λcR=>h ((au.1 cR).2.2 k cb)
  refine J ?_;refine K_ 0 rfl Ad ?_;refine J ?_;apply I_<;>intro g4
  .refine J ?_;apply I_<;>intro g5
   .refine J ?_;exact⟨⟨false,rfl,bad λh=>by have:=h.1 g4;omega⟩,bn⟩
   refine J ?_;apply I_<;>intro g6
   .refine J ?_;exact⟨⟨false,rfl,bad λh=>by have:=h.1 g4;omega⟩,bn⟩
   refine J ?_;refine K_ 0 rfl Ad ?_;refine J ?_;refine⟨Ad,aK,(),trivial,av,λj h az=>?_⟩;by_cases ha:j=k
   .subst ha;exact⟨λ_=>Ad,λ_=>Ad⟩
   .exact dv j h Ad
  .refine J ?_;refine K_ 0 rfl Ad ?_;refine J ?_;apply I_<;>intro g5
   .refine J ?_;refine⟨Ad,aK,(),trivial,av,λj h az=>?_⟩;by_cases ha:j=k
    .subst ha;exact⟨λ_=>Ad,λ_=>Ad⟩
    .exact dv j h Ad
   .refine J ?_;exact⟨⟨false,rfl,bad λh=>by have:=h.2 Ad;omega⟩,bn⟩
 .refine J ?_;exact⟨⟨true,rfl,by simp only[true_iff];exact au.2 ⟨Ad,Ad,λj h=>dv j h Ad⟩⟩,bn⟩
def aso(b:Nat)(v:B_)(s:C_ Int)(m:o.Model)(w:A_)(aS:yf w b m)(aL:o.ey m)(aj:c9 w v s) :
  Du F.ci #[.pointer (some ⟨b,0,none⟩),v] w λu w'=>(∃t:Bool,u = .bool t/\(t=true↔o.Fits m s))/\Ext w w':=by
 obtain⟨b0,bz,bO,c1,bT,c2,bV,bu,b1,bB,eH,d0,dK,d1,eg,d2,eD,d3,eU,d4,b8,ci,ak,dB,cP,cA,eI,fp,ad,h1,I,ab,aP⟩:=aS.form;obtain⟨ei,eW,rfl,e6⟩:=aj.form;have Zb:(o.layout m).cells=(o.di m:Int):=rfl;have f2:=o.K4 m;have f3:=o.K2 m;have j4:o.di m<=64:=o.iG aL;have gf:=aL.gf;refine bl E.ci ?_;refine J ?_;apply I_<;>intro g1;rotate_left
 .refine J ?_;exact⟨⟨false,rfl,by simp only[Bool.false_eq_true,false_iff];intro h;have:=h.len;omega⟩,Ext.refl _⟩
 have aE:s.length=o.di m:=Ad
 clear ad h1 ab aP dB cP cA;refine J ?_;refine L_ 22 m.ax.length [0,1,20,21] (λ_:Unit=>[]) () (λk _ W=>Ext w W/\∀j (h:j<m.ax.length),j<k->o.l3 m.scalars m.ax[j] (o.nR m j m.ax[j] s)) a6 a6 ⟨Ext.refl _,λj _ h=>absurd h (HI _)⟩ ?_;rintro k _ S w1 hk ⟨ag,dv⟩;refine J ?_;apply I_<;>intro g2
 .have a7:k<m.ax.length:=Ad
  refine J ?_;refine J_ (arx b k _ s m w1 (aS.ext ag) aL a7 (aj.ext Flat.ext ag) aE) ?_;rintro _ aA ⟨⟨t,rfl,aB⟩,ai⟩;cases t with
  | false =>
   refine J ?_;exact⟨⟨false,rfl,by simp only[Bool.false_eq_true,false_iff];intro h;exact absurd (aB.2 (h.queue k a7)) CC⟩,ag.trans ai⟩
  | true =>
   refine J ?_;refine⟨a7,aK,(),trivial,ag.trans ai,λj h az=>?_⟩;by_cases ha:j=k
   .subst ha;exact aB.1 rfl
   .exact dv j h Ad
 have anG:∀j (h:j<m.ax.length),o.l3 m.scalars m.ax[j] (o.nR m j m.ax[j] s):=λj h=>dv j h Ad;have CY:=ag.obj ak;refine J ?_;refine L_ 33 s.length [0,1,31,32] (λ_:Unit=>[]) () (λk _ W=>W=w1/\∀j (h:j<s.length) (br:j<(o.cp m).length),j<k->(o.cp m)[j].aV<=s[j]/\s[j]<=(o.cp m)[j].U) a6 a6 ⟨rfl,λj _ _ h=>absurd h (HI _)⟩ ?_;clear ak;rintro k' _ aZ aA cb ⟨rfl,CW⟩;refine J ?_;apply I_<;>intro g3
 .have a7:k'<s.length:=Ad
  have oa:k'<(o.cp m).length:=by unfold o.di at aE;omega
  have dR:(o.layout m).aV[k']' Ad=(o.cp m)[k'].aV:=o.K3 _ oa;have ee:(o.layout m).U[k']' Ad=(o.cp m)[k'].U:=o.K1 _ oa;obtain⟨nO,rfl⟩:=aj.addr;obtain⟨a3,rfl⟩:=eI.addr;obtain⟨a4,rfl⟩:=fp.addr;have bad:¬((o.cp m)[k'].aV<=s[k']/\s[k']<=(o.cp m)[k'].U)->(false=true↔o.Fits m s):=λh=>by
   simp only[Bool.false_eq_true,false_iff];exact λcR=>h (cR.cell k' a7 oa)
  refine J ?_;apply I_<;>intro g4
  .refine J ?_;exact⟨⟨false,rfl,bad Ad⟩,ag⟩
  refine J ?_;apply I_<;>intro g5
  .refine J ?_;exact⟨⟨false,rfl,bad Ad⟩,ag⟩
  refine J ?_;refine⟨a7,aK,(),trivial,aK,λj h br az=>?_⟩;by_cases ha:j=k'
  .subst ha;omega
  .exact CW j h br Ad
 .refine J ?_;exact⟨⟨true,rfl,by simp only[true_iff];exact⟨aE,anG,λj h br=>CW j h br Ad⟩⟩,ag⟩
end Go.Proofs.R
namespace o
open Classical in
noncomputable def Hf(s:C_ Scalar)(c:dZ)(l:C_ Int):Bool:=decide (l3 s c l)
def Tt{s:C_ Scalar}{c:dZ}{l:C_ Int}:Hf s c l=true↔l3 s c l:=by unfold Hf;simp
def arv{s:C_ Scalar}{c:dZ}{l:C_ Int}{t:Bool}(h:t=true↔l3 s c l):t=Hf s c l:=by
 rw[<-Tt] at h;cases t<;>cases au:Hf s c l<;>simp_all
end o
namespace Go.Proofs.R
open Go Go.RowKit a8
def ae3(cs:C_ B_)(m:o.Model)(v:B_)(s:C_ Int)(w:A_)(h:o.dj w cs m)(aG:m.cv)(aQ:gJ w)(aj:c9 w v s) :
  Du F.dh #[.agg cs.toArray,v] w λu w'=>(∃t:Bool,u = .bool t/\(t=true↔o.iN m s))/\Ext w w':=by
 have aL:=h;obtain⟨b0,bz,bO,c1,bT,c2,bV,bu,b1,bB,rfl,_⟩:=h.form;refine bl E.dh ?_;refine J ?_;intro w1 bx cN ag al;refine J ?_;refine J_ (ar1 _ m w1 (aL.ext ag) aG (aQ.ext ag)) ?_;rintro _ aA ⟨aS,ai⟩;have aH:=ag.trans ai;rcases aS with ⟨rfl,hk⟩ | ⟨b,rfl,hk,aS⟩
 .refine J ?_;refine AB8 Ci ?_;refine J ?_;exact⟨⟨false,rfl,by simp only[Bool.false_eq_true,false_iff];exact λh=>hk h.1⟩,aH⟩
 .refine J ?_;refine AB9 Ci ?_;refine J ?_;refine J_ (aso b _ s m aA aS (o.hE hk) (aj.ext Flat.ext aH)) ?_;rintro _ aM ⟨⟨t,rfl,aB⟩,ah⟩;refine J ?_;exact⟨⟨t,by cases t<;>rfl,aB.trans ⟨λh=>⟨hk,h⟩,λh=>h.2⟩⟩,aH.trans ah⟩
def MB(cs:C_ B_)(m:o.Model)(w:A_)(h:o.dj w cs m)(aG:m.cv) :
  Du F.LK #[.agg cs.toArray] w λv w'=>v = .bool (decide ((o.check m).cJ=0))/\Ext w w':=by
 obtain⟨b0,bz,bO,c1,bT,c2,bV,bu,b1,bB,rfl,_⟩:=h.form;refine bl E.LK ?_;refine J ?_;intro w1 bx cN ag al;refine J ?_;refine J_ (Hm _ m w1 (h.ext ag) aG) ?_;rintro _ aA ⟨rfl,ai⟩;unfold uZ;refine J ?_;refine Y_ (v:=.I (o.check m).cJ) rfl ?_;refine J ?_;exact⟨aK,ag.trans ai⟩
def arU(cs:C_ B_)(m:o.Model)(v:B_)(l:C_ Int)(i:Nat)(w:A_)(h:o.dj w cs m)(aL:o.ey m)(U:i<m.ax.length)(ar:c9 w v l)(qa:l.length=1+m.ax[i].cap.toNat) :
  Du F.L1 #[.agg cs.toArray,v,.I i] w λu w'=>(∃t:Bool,u = .bool t/\(t=true↔o.l3 m.scalars m.ax[i] l))/\Ext w w':=by
 obtain⟨b0,bz,bO,c1,bT,c2,bV,bu,b1,bB,rfl,ad,h1,I,ab,aC,eu,dz,dJ,dR,ee⟩:=h.form;obtain⟨ei,eW,rfl,e6⟩:=ar.form;have c8:=aL.chan _ (ED U);have hL:=c8.cap;have gf:=aL.gf;obtain⟨ac,rfl⟩:=I.addr;obtain⟨ap,rfl⟩:=ar.addr;have dH:=(I.at i U).cells;have au:=o.adO (s:=m.scalars) (c:=m.ax[i]) (l:=l) qa hL.1;obtain⟨aV,hQ⟩:∃aV,aV=(o.e1 m.ax[i].scalar m.ax[i].aV m.ax[i].U m.scalars).aV:=⟨_,rfl⟩;obtain⟨cw,tP⟩:∃U,U=(o.e1 m.ax[i].scalar m.ax[i].aV m.ax[i].U m.scalars).U:=⟨_,rfl⟩;rw[<-hQ,<-tP] at au;refine bl E.L1 ?_;refine J ?_;intro w1 bx cN ag al;replace dH:=dH.ext ag;refine J ?_;intro aA h2 gZ ai bZ;replace al:=ai.obj al;have aH:=ag.trans ai;replace ar:=ar.ext Flat.ext aH;clear dH;refine J ?_;refine K_ 0 rfl Ad ?_;refine J ?_;apply I_<;>intro g1
 .refine J ?_;intro aM ah;refine J ?_;exact⟨⟨false,rfl,by simp only[Bool.false_eq_true,false_iff];intro h;exact absurd (au.1 h).1 Ad⟩,aH.trans ah⟩
 refine J ?_;refine K_ 0 rfl Ad ?_;refine J ?_;intro aM ah;replace al:=ah.obj al;replace bZ:=ah.obj bZ;replace ar:=ar.ext Flat.ext ah;have aR:=aH.trans ah;apply I_<;>intro g2
 .refine J ?_;exact⟨⟨false,rfl,by simp only[Bool.false_eq_true,false_iff];intro h;exact absurd (au.1 h).2.1 Ad⟩,aR⟩
 refine J ?_;refine J_ (TC ⟨⟨#[]⟩,m.ax[i].scalar,0,m.ax[i].aV,m.ax[i].U,0⟩ _ m.scalars aM (ad.ext aR)) ?_;rintro _ aU ⟨rfl,aq⟩;have YT:((o.bounds ⟨⟨#[]⟩,m.ax[i].scalar,0,m.ax[i].aV,m.ax[i].U,0⟩ m.scalars).1=aV)/\(o.bounds ⟨⟨#[]⟩,m.ax[i].scalar,0,m.ax[i].aV,m.ax[i].U,0⟩ m.scalars).2=cw:=by
  rw[hQ,tP,show o.e1 m.ax[i].scalar m.ax[i].aV m.ax[i].U m.scalars=_ from o.z1 ⟨⟨#[]⟩,m.ax[i].scalar,0,m.ax[i].aV,m.ax[i].U,0⟩ m.scalars];exact⟨rfl,rfl⟩
 rw[YT.1,YT.2];have FT:=aq.obj bZ;replace ar:=ar.ext Flat.ext aq;have bn:=aR.trans aq;refine J ?_;refine _M [1,7,8,9] (λx:Nat=>[(10,.I ((x:Int)+1))]) 0 (λx W=>Ext aU W/\(x:Int)<=m.ax[i].cap/\∀j (h:j+1<l.length),j<x->((j:Int)<l[0]->aV<=l[j+1]/\l[j+1]<=cw)/\(l[0]<=j->l[j+1]=0)) (λx=>(m.ax[i].cap - x).toNat) a6 ⟨Ext.refl _,Ad,λj _ h=>absurd h (HI _)⟩ ?_;clear al bZ;rintro k S bh ⟨av,hk,dv⟩;have bZ:=av.obj FT;have bC:=bn.trans av;replace ar:=ar.ext Flat.ext av;refine J ?_;apply I_<;>intro g3
 .have cb:k+1<l.length:=Ad
  have bad:¬(((k:Int)<l[0]->aV<=l[k+1]/\l[k+1]<=cw)/\(l[0]<=k->l[k+1]=0))->(false=true↔o.l3 m.scalars m.ax[i] l):=λh=>by
   simp only[Bool.false_eq_true,false_iff];exact λcR=>h ((au.1 cR).2.2 k cb)
  refine J ?_;refine K_ 0 rfl Ad ?_;refine J ?_;apply I_<;>intro g4
  .refine J ?_;apply I_<;>intro g5
   .refine J ?_;exact⟨⟨false,rfl,bad λh=>by have:=h.1 Ad;omega⟩,bC⟩
   refine J ?_;apply I_<;>intro g6
   .refine J ?_;exact⟨⟨false,rfl,bad λh=>by have:=h.1 Ad;omega⟩,bC⟩
   refine J ?_;refine K_ 0 rfl Ad ?_;refine J ?_;exact⟨k+1,a6,⟨av,Ad,λj h az=>by
    by_cases ha:j=k
    .subst ha;exact⟨λ_=>Ad,λ_=>Ad⟩
    .exact dv j h Ad⟩,Ad⟩
  .refine J ?_;refine K_ 0 rfl Ad ?_;refine J ?_;apply I_<;>intro g5
   .refine J ?_;exact⟨k+1,a6,⟨av,Ad,λj h az=>by
     by_cases ha:j=k
     .subst ha;exact⟨λ_=>Ad,λ_=>Ad⟩
     .exact dv j h Ad⟩,Ad⟩
   .refine J ?_;exact⟨⟨false,rfl,bad λh=>by have:=h.2 Ad;omega⟩,bC⟩
 .refine J ?_;exact⟨⟨true,rfl,by simp only[true_iff];exact au.2 ⟨Ad,Ad,λj h=>dv j h Ad⟩⟩,bC⟩
end Go.Proofs.R