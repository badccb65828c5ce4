/- Parts. -/
import Derived.Test.YtfdohkdifdemeaaGreatDoorQdsk
import Derived.Maps.RangeRun
import Derived.Defers
import Derived.Recover
set_option linter.all false
set_option maxRecDepth 100000
set_option maxHeartbeats 16000000
section
namespace Go.Proofs.R
open Go Go.RowKit bt
theorem Bj(hD:Value)(e:List o.Node)(k:Int)(cs:List Value)(s:o.Scope)(w:World)(aE:o.gd w hD e)(h:o.fE w cs s) :
  bu Tryz.prog F.uW #[hD,.int .i64 k,.agg cs.toArray] w fun v w'=>v = .int .i64 (o.asked e k s)/\Ext w w':=by
 obtain⟨a0,bP,dJ,c1,a2,c2,a3,bQ,a4,bX,rfl,_⟩:=h.form;obtain⟨bm,cap,rfl,_⟩:=aE.form;refine bL E.uW ?_;refine bG ?_;refine aa ?_;intro av bC cR aB aq;refine aa ?_;refine K.call (XD _ e _ s av (aE.ext aB) (h.ext aB)) ?_;rintro _ aU ⟨rfl,aA⟩;rw[o.asked];refine aa ?_;apply K.cond<;>intro g1;rotate_left
 .refine aa ?_;exact⟨by rw[if_pos g1],aB.trans aA⟩
 rw[if_neg (by simpa using g1)];refine aa ?_;apply K.cond<;>intro g2;rotate_left
 .refine aa ?_;exact⟨by rw[if_pos g2],aB.trans aA⟩
 .refine aa ?_;exact⟨by rw[if_neg (by simpa using g2)],aB.trans aA⟩
theorem Ia(n:Int)(w:World)(h:0<=n/\n<=4611686018427387904):bu Tryz.prog F.r5 #[.int .i64 n] w fun v w'=>v = .int .i64 (if n=0 then 0 else 1+n)/\w'=w:=H9 n w h
theorem Nk(v:Value)(l:List o.Var)(n:Int)(cs:List Value)(s:o.Scope)(w:World)(aS:o.hi w v l)(h:o.fE w cs s) :
  bu Tryz.prog F.AQ #[v,.int .i64 n,.agg cs.toArray] w fun v w'=>v = .tuple #[.int .i64 (o.kH l n s).1,.int .i64 (o.kH l n s).2]/\Ext w w':=by
 obtain⟨a0,bP,dJ,c1,a2,c2,a3,bQ,a4,bX,rfl,_,_,_,_,_,eM,ej,ev,ea,ew⟩:=h.form;obtain⟨bm,cap,rfl,_⟩:=aS.form;refine bL E.AQ ?_;refine bG ?_;refine aa ?_;intro av bC cR aB aq;refine aa ?_;refine K.call (Fi _ l n _ s av (aS.ext aB) (h.ext aB)) ?_;rintro u aU ⟨⟨x,hu,ar⟩,aA⟩;cases hk:(o.fQ l n s).2.2 with
 | false =>
  rw[hk] at hu;subst hu;refine aa ?_;intro bb b4 fp ax bA;refine aa ?_;exact⟨by rw[o.kH,o.Ss hk],(aB.trans aA).trans ax⟩
 | true =>
  rw[hk] at hu;subst hu;obtain⟨bx,eD,fC,fU,gF⟩:=o.Su hk (ar hk);have hL:o.kH l n s=if x.over≠0 then (0,9) else ((if x.scalar=0 then 0 else 1+x.scalar),0):=by unfold o.kH;rw[bx]
  refine aa ?_;intro bb b4 fp ax bA;refine aa ?_;apply K.cond<;>intro g1
  .rw[if_neg (by simpa using g1)] at hL;refine aa ?_;refine K.call (Ia _ bb ⟨eD,by omega⟩) ?_;rintro _ _ ⟨rfl,rfl⟩;refine aa ?_;exact⟨by rw[hL],(aB.trans aA).trans ax⟩
  .rw[if_pos g1] at hL;refine aa ?_;exact⟨by rw[hL],(aB.trans aA).trans ax⟩
theorem agW(a:o.Act)(cx cE:Value)(cs:List Value)(s:o.Scope)(w:World)(ad:o.gd w cx a.index)(aT:o.gd w cE a.value)(h:o.fE w cs s) :
  bu Tryz.prog F.Eu #[.agg (a.enc cx cE).toArray,.agg cs.toArray] w fun v w'=>v = .int .i64 (o.yv a s)/\Ext w w':=by
 obtain⟨a0,bP,dJ,c1,a2,c2,a3,bQ,a4,bX,rfl,_,Mj,_,_,_,eM,ej,ev,ea,ew⟩:=h.form;obtain⟨_,_,rfl,_⟩:=ad.form;obtain⟨_,_,rfl,_⟩:=aT.form;refine bL E.Eu ?_;refine bG ?_;refine aa ?_;intro av bC cR aB aq;refine aa ?_;intro aU cp dR aA aQ;replace aq:=aA.obj aq;have c6:∀{w'},Ext aU w'->Ext w w':=fun e=>(aB.trans aA).trans e;refine aa ?_;refine K.call (Fi _ s.vars a.to _ s aU (Mj.ext (c6 (Ext.refl _))) (h.ext (c6 (Ext.refl _)))) ?_;rintro u bb ⟨⟨x,hu,ar⟩,ax⟩;replace aq:=ax.obj aq;replace aQ:=ax.obj aQ;cases hk:(o.fQ s.vars a.to s).2.2 with
 | false =>
  rw[hk] at hu;subst hu;refine aa ?_;intro bq cN fN aM bw;refine aa ?_;exact⟨by rw[o.yv,o.Ss hk],c6 (ax.trans aM)⟩
 | true =>
  rw[hk] at hu;subst hu;obtain⟨bx,eD,fC,fU,gF⟩:=o.Su hk (ar hk);have hL:o.yv a s=if x.over=0 then 9 else if o.asked a.index (1+x.over) s≠0 then o.asked a.index (1+x.over) s else o.asked a.value (if x.scalar=0 then 0 else 1+x.scalar) s:=by unfold o.yv;rw[bx]
  refine aa ?_;intro bq cN fN aM bw;replace aq:=aM.obj aq;replace aQ:=aM.obj aQ;have en:∀{w'},Ext bq w'->Ext w w':=fun e=>c6 ((ax.trans aM).trans e);refine aa ?_;apply K.cond<;>intro g1
  .rw[if_pos g1] at hL;refine aa ?_;exact⟨by rw[hL],en (Ext.refl _)⟩
  rw[if_neg g1] at hL;refine aa ?_;refine K.call (Bj _ a.index (1+x.over) _ s bq (ad.ext (en (Ext.refl _))) (h.ext (en (Ext.refl _)))) ?_;rintro _ bT ⟨rfl,aZ⟩;replace aq:=aZ.obj aq;replace aQ:=aZ.obj aQ;replace bw:=aZ.obj bw;have hS:∀{w'},Ext bT w'->Ext w w':=fun e=>en (aZ.trans e);refine aa ?_;apply K.cond<;>intro g2;rotate_left
  .rw[if_pos g2] at hL;refine aa ?_;exact⟨by rw[hL],hS (Ext.refl _)⟩
  rw[if_neg (by simpa using g2)] at hL;refine aa ?_;refine K.gN (.int .i64 (if x.scalar=0 then 0 else 1+x.scalar)) (fun w' e=>(Ia _ w' ⟨eD,by omega⟩).mono fun v b1 dt=>⟨dt.1,by rw[dt.2];exact Ext.refl _⟩) ?_;refine aa ?_;refine K.gN (.int .i64 (o.yv a s)) (fun w' e=>by rw[hL];exact Bj _ a.value _ _ s w' (aT.ext (hS e)) (h.ext (hS e))) ?_;refine aa ?_;intro bV a8;refine aa ?_;exact⟨bk,hS a8⟩
theorem Xw(a:o.Act)(comm:Bool)(cx cE:Value)(cs:List Value)(s:o.Scope)(w:World)(ad:o.gd w cx a.index)(aT:o.gd w cE a.value)(h:o.fE w cs s) :
  bu Tryz.prog F.Et #[.agg (a.enc cx cE).toArray,.agg cs.toArray,.bool comm] w fun v w'=>v = .int .i64 (o.kJ a s comm)/\Ext w w':=by
 obtain⟨a0,bP,dJ,c1,a2,c2,a3,bQ,a4,bX,rfl,_,Mj,_,_,kF,eM,ej,ev,ea,ew⟩:=h.form;obtain⟨_,_,rfl,_⟩:=ad.form;obtain⟨_,_,rfl,_⟩:=aT.form;refine bL E.Et ?_;refine bG ?_;refine aa ?_;intro av bC cR aB aq;refine aa ?_;intro aU cp dR aA aQ;replace aq:=aA.obj aq;have c6:∀{w'},Ext aU w'->Ext w w':=fun e=>(aB.trans aA).trans e;refine aa ?_;apply K.cond<;>intro g1
 .refine aa ?_;exact⟨by rw[o.kJ,if_pos (.inl g1)],c6 (Ext.refl _)⟩
 refine aa ?_;apply K.cond<;>intro g2
 .refine aa ?_;exact⟨by rw[o.kJ,if_pos (.inr g2)],c6 (Ext.refl _)⟩
 have qH:¬(a.kind<1\/5<a.kind):=by omega
 refine aa ?_;apply K.cond<;>intro g3
 .refine aa ?_;refine K.call (agW a _ _ _ s aU (ad.ext (c6 (Ext.refl _))) (aT.ext (c6 (Ext.refl _))) (h.ext (c6 (Ext.refl _)))) ?_;rintro _ bb ⟨rfl,ax⟩;refine aa ?_;exact⟨by rw[o.kJ,if_neg qH,if_pos g3],c6 ax⟩
 refine aa ?_;apply K.cond<;>intro g4
 .have a6:o.kJ a s comm=if (o.kH s.vars a.to s).2≠0 then (o.kH s.vars a.to s).2 else o.asked a.value (o.kH s.vars a.to s).1 s:=by
   rw[o.kJ,if_neg qH,if_neg g3,if_pos (.inl g4)];simp only[if_neg (by omega:¬a.kind=3)]
  refine aa ?_;refine K.call (Nk _ s.vars a.to _ s aU (Mj.ext (c6 (Ext.refl _))) (h.ext (c6 (Ext.refl _)))) ?_;rintro _ bb ⟨rfl,ax⟩;replace aq:=ax.obj aq;replace aQ:=ax.obj aQ;refine aa ?_;apply K.cond<;>intro g5;rotate_left
  .rw[if_pos g5] at a6;refine aa ?_;exact⟨by rw[a6],c6 ax⟩
  rw[if_neg (by simpa using g5)] at a6;refine aa ?_;refine K.call (Bj _ a.value _ _ s bb (aT.ext (c6 ax)) (h.ext (c6 ax))) ?_;rintro _ bq ⟨rfl,aM⟩;refine aa ?_;exact⟨by rw[a6],c6 (ax.trans aM)⟩
 refine aa ?_;apply K.cond<;>intro g5
 .have a6:o.kJ a s comm=if (o.kH s.locals a.to s).2≠0 then (o.kH s.locals a.to s).2 else o.asked a.value (o.kH s.locals a.to s).1 s:=by
   rw[o.kJ,if_neg qH,if_neg g3,if_pos (.inr g5)];simp only[if_pos g5]
  refine aa ?_;refine K.call (Nk _ s.locals a.to _ s aU (kF.ext (c6 (Ext.refl _))) (h.ext (c6 (Ext.refl _)))) ?_;rintro _ bb ⟨rfl,ax⟩;replace aq:=ax.obj aq;replace aQ:=ax.obj aQ;refine aa ?_;apply K.cond<;>intro g5;rotate_left
  .rw[if_pos g5] at a6;refine aa ?_;exact⟨by rw[a6],c6 ax⟩
  rw[if_neg (by simpa using g5)] at a6;refine aa ?_;refine K.call (Bj _ a.value _ _ s bb (aT.ext (c6 ax)) (h.ext (c6 ax))) ?_;rintro _ bq ⟨rfl,aM⟩;refine aa ?_;exact⟨by rw[a6],c6 (ax.trans aM)⟩
 have C0:¬(a.kind=1\/a.kind=3):=by omega
 refine aa ?_;refine K.dp (fun g6=>?_) (fun g6=>?_)
 .refine aa ?_;exact⟨by rw[o.kJ,if_neg qH,if_neg g3,if_neg C0,if_pos g6],c6 (Ext.refl _)⟩
 refine aa ?_;refine K.call (Xx a.to _ s aU (h.ext (c6 (Ext.refl _)))) ?_;rintro u bb ⟨⟨x,hu,ar⟩,ax⟩;replace aq:=ax.obj aq;replace aQ:=ax.obj aQ;by_cases hk:(o.jF a.to s).2=0;rotate_left
 .rw[decide_eq_false hk] at hu;subst hu;refine aa ?_;intro bq cN fN aM bw;refine aa ?_;exact⟨by rw[o.kJ,if_neg qH,if_neg g3,if_neg C0,if_neg (by simp[g6]),o.abg hk],c6 (ax.trans aM)⟩
 rw[decide_eq_true hk] at hu;subst hu;obtain⟨bx,eD,fC⟩:=o.abi hk (ar hk);have a6:o.kJ a s comm=if a.kind=4 then o.asked a.value (if x.scalar=0 then 0 else 1+x.scalar) s else if (o.kH s.locals a.loc s).2≠0 then (o.kH s.locals a.loc s).2 else if (o.kH s.locals a.loc s).1≠(if x.scalar=0 then 0 else 1+x.scalar) then 9 else 0:=by
  rw[o.kJ,if_neg qH,if_neg g3,if_neg C0,if_neg (by simp[g6]),bx]
 refine aa ?_;intro bq cN fN aM bw;replace aq:=aM.obj aq;replace aQ:=aM.obj aQ;have en:∀{w'},Ext bq w'->Ext w w':=fun e=>c6 ((ax.trans aM).trans e);refine aa ?_;apply K.cond<;>intro g7
 .rw[if_pos g7] at a6;refine aa ?_;refine K.gN (.int .i64 (if x.scalar=0 then 0 else 1+x.scalar)) (fun w' e=>(Ia _ w' ⟨eD,by omega⟩).mono fun v b1 dt=>⟨dt.1,by rw[dt.2];exact Ext.refl _⟩) ?_;refine aa ?_;refine K.gN (.int .i64 (o.kJ a s comm)) (fun w' e=>by rw[a6];exact Bj _ a.value _ _ s w' (aT.ext (en e)) (h.ext (en e))) ?_;refine aa ?_;intro bV a8;refine aa ?_;exact⟨bk,en a8⟩
 rw[if_neg g7] at a6;refine aa ?_;refine K.call (Nk _ s.locals a.loc _ s bq (kF.ext (en (Ext.refl _))) (h.ext (en (Ext.refl _)))) ?_;rintro _ bT ⟨rfl,aZ⟩;replace bw:=aZ.obj bw;refine aa ?_;apply K.cond<;>intro g8;rotate_left
 .rw[if_pos g8] at a6;refine aa ?_;exact⟨by rw[a6],en aZ⟩
 rw[if_neg (by simpa using g8)] at a6;refine aa ?_;refine K.call (Ia _ bT ⟨eD,by omega⟩) ?_;rintro _ _ ⟨rfl,rfl⟩;refine aa ?_;apply K.cond<;>intro g9
 .rw[if_neg (by simpa using g9)] at a6;refine aa ?_;exact⟨by rw[a6],en aZ⟩
 .rw[if_pos g9] at a6;refine aa ?_;exact⟨by rw[a6],en aZ⟩
end Go.Proofs.R
end
section
namespace o
theorem RH{s:Scope}{a:Act}{k:Nat}{b:Bool}{Z:Int×Int}:(if gO a&&b then ((2+(k:Int)),(7:Int)) else if jQ a s≠0 then (2+(k:Int),jQ a s) else Z)=if kJ a s b≠0 then (2+(k:Int),kJ a s b) else Z:=by
 rw[ajy];by_cases h:(gO a&&b)=true
 .simp[h]
 .simp[h]
end o
namespace Go.Proofs.R
open Go Go.RowKit bt
theorem ajE(c:o.dI)(fK ed:Value)(p:o.dy)(oG qf:Value)(cs:List Value)(s:o.Scope)(w:World)(aE:o.hR c.name)(a1:o.gd w fK c.guard)(bj:o.nz w ed c.b6)
  (aT:o.hi w oG p.vars)(aw:o.oP w qf p.cH)(h:o.fE w cs s) :
  bu Tryz.prog F.Er #[.agg (c.enc fK ed).toArray,.agg (p.enc oG qf).toArray,.agg cs.toArray] w fun v w' =>
   v = .tuple #[.int .i64 (o.iC c p.cw s).1,.int .i64 (o.iC c p.cw s).2]/\Ext w w':=by
 obtain⟨a0,bP,dJ,c1,a2,c2,a3,bQ,a4,bX,rfl,_⟩:=h.form;obtain⟨bm,cap,rfl,hlen⟩:=bj.form;obtain⟨iL,aaU,rfl,aft⟩:=a1.form;obtain⟨_,_,rfl,_⟩:=aT.form;obtain⟨_,_,rfl,_⟩:=aw.form;refine bL E.Er ?_;refine bG ?_;refine aa ?_;intro av bC cR aB aq;refine aa ?_;intro aU cp dR aA aQ;refine aa ?_;intro bb b4 fp ax bA;replace aq:=(aA.trans ax).obj aq;replace aQ:=ax.obj aQ;have fj:∀{w'},Ext bb w'->Ext w w':=fun e=>((aB.trans aA).trans ax).trans e;refine aa ?_;refine K.call (Bl c.name bb aE) ?_;rintro u bq ⟨hu,aM⟩;replace aq:=aM.obj aq;replace aQ:=aM.obj aQ;replace bA:=aM.obj bA;have en:∀{w'},Ext bq w'->Ext w w':=fun e=>fj (aM.trans e);have bx:∀n,o.head c p.cw=n->n≠0->o.iC c p.cw s=(0,n):=fun n e ak=>by unfold o.iC;rw[e,if_pos ak]
 cases fG:o.isName c.name with
 | false =>
  rw[fG] at hu;subst hu;refine aa ?_;exact⟨by rw[bx 6 (by unfold o.head;rw[if_pos fG]) (by decide)],en (Ext.refl _)⟩
 | true =>
  rw[fG] at hu;subst hu;have p8:¬o.isName c.name=false:=by rw[fG];simp
  refine aa ?_;apply K.cond<;>intro g1
  .refine aa ?_;exact⟨by rw[bx 10 (by unfold o.head;rw[if_neg p8,if_pos (by omega)]) (by decide)],en (Ext.refl _)⟩
  refine aa ?_;apply K.cond<;>intro g2
  .refine aa ?_;exact⟨by rw[bx 10 (by unfold o.head;rw[if_neg p8,if_pos (by omega)]) (by decide)],en (Ext.refl _)⟩
  refine aa ?_;apply K.cond<;>intro g3
  .refine aa ?_;exact⟨by rw[bx 10 (by unfold o.head;rw[if_neg p8,if_pos (by omega)]) (by decide)],en (Ext.refl _)⟩
  refine aa ?_;apply K.cond<;>intro g4
  .refine aa ?_;exact⟨by rw[bx 10 (by unfold o.head;rw[if_neg p8,if_pos (by omega)]) (by decide)],en (Ext.refl _)⟩
  have gZ:¬(c.from_<0\/p.cw<=c.from_\/c.to<0\/p.cw<=c.to):=by omega
  refine aa ?_;apply K.cond<;>intro g5
  .refine aa ?_;exact⟨by rw[bx 11 (by unfold o.head;rw[if_neg p8,if_neg gZ,if_pos (by omega)]) (by decide)],en (Ext.refl _)⟩
  have s5:o.iC c p.cw s=if c.guard.length > 0/\o.asked c.guard 1 s≠0 then (1,o.asked c.guard 1 s) else o.kd s c.b6 0 false:=by
   unfold o.iC;rw[if_neg];unfold o.head;rw[if_neg p8,if_neg gZ,if_neg (by omega)];simp
  clear bx;refine aa ?_;apply K.cond<;>intro g6
  .refine aa ?_;refine K.call (Bj _ c.guard 1 _ s bq (a1.ext (en (Ext.refl _))) (h.ext (en (Ext.refl _)))) ?_;rintro _ bT ⟨rfl,aZ⟩;replace aq:=aZ.obj aq;replace bA:=aZ.obj bA;have hS:∀{w'},Ext bT w'->Ext w w':=fun e=>en (aZ.trans e);refine aa ?_;apply K.cond<;>intro g7;rotate_left
   .rw[if_pos ⟨by omega,g7⟩] at s5;refine aa ?_;exact⟨by rw[s5],hS (Ext.refl _)⟩
   have a6:o.iC c p.cw s=o.kd s c.b6 0 false:=by rw[s5,if_neg (fun dt=>dt.2 (by simpa using g7))]
   refine aa ?_;refine K.dk 10 c.b6.length [3,4,5] (fun b=>[(9,.bool b)]) false (fun k b w'=>Ext bT w'/\o.kd s c.b6 0 false=o.kd s (c.b6.drop k) k b) bz bz ⟨Ext.refl _,by simp⟩ ?_;rintro k b S bV hk ⟨a8,bB⟩;replace aq:=a8.obj aq;replace bA:=a8.obj bA;refine aa ?_;apply K.cond<;>intro g1
   .have bp:k<c.b6.length:=by omega
    obtain⟨a,rfl⟩:=bj.addr (by omega);obtain⟨cx,cE,h0,fB,qZ⟩:=bj.at k bp;obtain⟨_,_,rfl,_⟩:=fB.form;obtain⟨_,_,rfl,_⟩:=qZ.form;rw[o.JJ bp,o.RH] at bB;replace h0:=h0.ext (hS (Ext.refl _));refine aa ?_;refine K.gN (.int .i64 (o.kJ c.b6[k] s b)) (fun w' e=>Xw c.b6[k] b _ _ _ s w' (fB.ext (hS (a8.trans e))) (qZ.ext (hS (a8.trans e))) (h.ext (hS (a8.trans e)))) ?_;refine aa ?_;intro cc bM;replace aq:=bM.obj aq;replace bA:=bM.obj bA;refine aa ?_;apply K.cond<;>intro g2;rotate_left
    .rw[if_pos g2] at bB;refine aa ?_;exact⟨by rw[a6,bB],hS (a8.trans bM)⟩
    rw[if_neg (by simpa using g2)] at bB;refine aa ?_;refine K.dp (fun g3=>?_) (fun g3=>?_)
    .subst g3;refine aa ?_;exact⟨bp,bk,true,bz,a8.trans bM,by simpa using bB⟩
    subst g3;refine aa ?_;apply K.cond<;>intro g4
    .have aO:o.gO c.b6[k]=true:=by unfold o.gO;rw[decide_eq_true_eq];omega
     refine aa ?_;exact⟨bp,bk,true,bz,a8.trans bM,by simpa[aO] using bB⟩
    have aO:o.gO c.b6[k]=decide (c.b6[k].kind=5):=by unfold o.gO;rw[Bool.eq_iff_iff,decide_eq_true_eq,decide_eq_true_eq];omega
    rw[Bool.false_or,aO] at bB;refine aa ?_;exact⟨bp,bk,decide (c.b6[k].kind=5),bz,a8.trans bM,bB⟩
   .rw[List.drop_eq_nil_of_le (by omega)] at bB;refine aa ?_;exact⟨by rw[a6,bB];rfl,hS a8⟩
  .have a6:o.iC c p.cw s=o.kd s c.b6 0 false:=by rw[s5,if_neg (fun dt=>g6 (by omega))]
   refine aa ?_;refine K.dk 10 c.b6.length [3,4,5] (fun b=>[(9,.bool b)]) false (fun k b w'=>Ext bq w'/\o.kd s c.b6 0 false=o.kd s (c.b6.drop k) k b) bz bz ⟨Ext.refl _,by simp⟩ ?_;rintro k b S bV hk ⟨a8,bB⟩;replace aq:=a8.obj aq;replace bA:=a8.obj bA;refine aa ?_;apply K.cond<;>intro g1
   .have bp:k<c.b6.length:=by omega
    obtain⟨a,rfl⟩:=bj.addr (by omega);obtain⟨cx,cE,h0,fB,qZ⟩:=bj.at k bp;obtain⟨_,_,rfl,_⟩:=fB.form;obtain⟨_,_,rfl,_⟩:=qZ.form;rw[o.JJ bp,o.RH] at bB;replace h0:=h0.ext (en (Ext.refl _));refine aa ?_;refine K.gN (.int .i64 (o.kJ c.b6[k] s b)) (fun w' e=>Xw c.b6[k] b _ _ _ s w' (fB.ext (en (a8.trans e))) (qZ.ext (en (a8.trans e))) (h.ext (en (a8.trans e)))) ?_;refine aa ?_;intro cc bM;replace aq:=bM.obj aq;replace bA:=bM.obj bA;refine aa ?_;apply K.cond<;>intro g2;rotate_left
    .rw[if_pos g2] at bB;refine aa ?_;exact⟨by rw[a6,bB],en (a8.trans bM)⟩
    rw[if_neg (by simpa using g2)] at bB;refine aa ?_;refine K.dp (fun g3=>?_) (fun g3=>?_)
    .subst g3;refine aa ?_;exact⟨bp,bk,true,bz,a8.trans bM,by simpa using bB⟩
    subst g3;refine aa ?_;apply K.cond<;>intro g4
    .have aO:o.gO c.b6[k]=true:=by unfold o.gO;rw[decide_eq_true_eq];omega
     refine aa ?_;exact⟨bp,bk,true,bz,a8.trans bM,by simpa[aO] using bB⟩
    have aO:o.gO c.b6[k]=decide (c.b6[k].kind=5):=by unfold o.gO;rw[Bool.eq_iff_iff,decide_eq_true_eq,decide_eq_true_eq];omega
    rw[Bool.false_or,aO] at bB;refine aa ?_;exact⟨bp,bk,decide (c.b6[k].kind=5),bz,a8.trans bM,bB⟩
   .rw[List.drop_eq_nil_of_le (by omega)] at bB;refine aa ?_;exact⟨by rw[a6,bB];rfl,en a8⟩
theorem akf(p:o.dy)(E0 cs:List Value)(s:o.Scope)(w:World)(aN:o.vC w E0 p)(h:o.fE w cs s)(a1:s.cQ)(nQ:p.cQ) :
  bu Tryz.prog F.Ev #[.agg E0.toArray,.agg cs.toArray] w fun v w'=>v = .tuple #[.int .i64 (o.ho p s).1,.int .i64 (o.ho p s).2.1,.int .i64 (o.ho p s).2.2]/\Ext w w':=by
 obtain⟨a0,bP,dJ,c1,a2,c2,a3,d3,a4,d4,rfl,ak,h1,U,ag,aJ,eM,ej,ev,ea,ew⟩:=h.form;obtain⟨aE,oG,qf,rfl,aT,ox⟩:=aN;obtain⟨cn,bQ,rfl,gi⟩:=aT.form;obtain⟨cB,bX,rfl,lc⟩:=ox.form;refine bL E.Ev ?_;refine bG ?_;refine aa ?_;intro av bC cR aB aq;refine aa ?_;intro aU cp dR aA aQ;replace aq:=aA.obj aq;have c6:∀{w'},Ext aU w'->Ext w w':=fun e=>(aB.trans aA).trans e;refine aa ?_;refine K.call (Bl p.name aU aE) ?_;rintro u bb ⟨hu,ax⟩;replace aq:=ax.obj aq;replace aQ:=ax.obj aQ;have fj:∀{w'},Ext bb w'->Ext w w':=fun e=>c6 (ax.trans e);have bx:∀n,o.whole p s=n->n≠0->o.ho p s=(0,0,n):=fun n e ak=>by unfold o.ho;rw[e,if_pos ak]
 cases fG:o.isName p.name with
 | false =>
  rw[fG] at hu;subst hu;refine aa ?_;exact⟨by rw[bx 6 (by unfold o.whole;rw[if_pos fG]) (by decide)],fj (Ext.refl _)⟩
 | true =>
  rw[fG] at hu;subst hu;have p8:¬o.isName p.name=false:=by rw[fG];simp
  refine aa ?_;apply K.cond<;>intro g1
  .refine aa ?_;exact⟨by rw[bx 8 (by unfold o.whole;rw[if_neg p8,if_pos (.inl g1)]) (by decide)],fj (Ext.refl _)⟩
  refine aa ?_;apply K.cond<;>intro g2
  .refine aa ?_;exact⟨by rw[bx 8 (by unfold o.whole;rw[if_neg p8,if_pos (.inr (by omega))]) (by decide)],fj (Ext.refl _)⟩
  have j4:¬(p.over<0\/(s.scalars.length:Int)<p.over):=by omega
  refine aa ?_;apply K.cond<;>intro g3
  .refine aa ?_;exact⟨by rw[bx 10 (by unfold o.whole;rw[if_neg p8,if_neg j4,if_pos (.inl g3)]) (by decide)],fj (Ext.refl _)⟩
  refine aa ?_;apply K.cond<;>intro g4
  .refine aa ?_;exact⟨by rw[bx 10 (by unfold o.whole;rw[if_neg p8,if_neg j4,if_pos (.inr (by omega))]) (by decide)],fj (Ext.refl _)⟩
  have jm:¬(p.cw<1\/12<p.cw):=by omega
  refine aa ?_;apply K.cond<;>intro g5
  .refine aa ?_;exact⟨by rw[bx 11 (by unfold o.whole;rw[if_neg p8,if_neg j4,if_neg jm,if_pos (by omega)]) (by decide)],fj (Ext.refl _)⟩
  have a6:o.ho p s=if (o.kI p s).2≠0 then (1,(o.kI p s).1,(o.kI p s).2) else o.kV (o.inner p s) p.cw p.cH p.cH 0:=by
   unfold o.ho;rw[if_neg];unfold o.whole;rw[if_neg p8,if_neg j4,if_neg jm,if_neg (by omega)];simp
  clear bx;refine aa ?_;refine K.call (XG _ _ p.vars s.scalars 4 bb (aT.ext (fj (Ext.refl _))) (ak.ext (fj (Ext.refl _)))) ?_;rintro _ bq ⟨rfl,aM⟩;replace aq:=aM.obj aq;replace aQ:=aM.obj aQ;have en:∀{w'},Ext bq w'->Ext w w':=fun e=>fj (aM.trans e);refine aa ?_;apply K.cond<;>intro g6;rotate_left
  .have aS:o.kI p s=o.vars p.vars s.scalars 4:=by unfold o.kI;rw[if_pos g6]
   rw[aS,if_pos g6] at a6;refine aa ?_;exact⟨by rw[a6],en (Ext.refl _)⟩
  have aS:o.kI p s=o.pt s p.vars 0:=by unfold o.kI;rw[if_neg (by simpa using g6)]
  rw[aS] at a6;refine aa ?_;refine K.dk 9 p.vars.length [2,3] (fun _:Unit=>[]) () (fun k _ w'=>Ext bq w'/\o.pt s p.vars 0=o.pt s (p.vars.drop k) k) bz bz ⟨Ext.refl _,by simp⟩ ?_;rintro k _ S bT hk ⟨aZ,bB⟩;replace aq:=aZ.obj aq;replace aQ:=aZ.obj aQ;refine aa ?_;apply K.cond<;>intro g7
  .have bp:k<p.vars.length:=by omega
   obtain⟨a,rfl⟩:=aT.addr (by omega);have ei:=((aT.at k bp).cells).ext (en aZ);rw[o.Wz bp] at bB;refine aa ?_;apply K.cond<;>intro g8;rotate_left
   .rw[if_pos g8] at bB;refine aa ?_;exact⟨by rw[a6,bB];rfl,en aZ⟩
   rw[if_neg (by simpa using g8)] at bB;refine aa ?_;refine K.dk 10 s.vars.length [2,3,9] (fun _:Unit=>[]) () (fun j _ w'=>Ext bT w'/\∀t (aO:t<s.vars.length),t<j->¬s.vars[t].name=p.vars[k].name) bz bz ⟨Ext.refl _,fun _ _ h=>absurd h (Nat.not_lt_zero _)⟩ ?_;rintro j _ bh bV aR ⟨a8,p1⟩;replace aq:=a8.obj aq;replace aQ:=a8.obj aQ;have lg:∀{w'},Ext bV w'->Ext w w':=fun e=>en ((aZ.trans a8).trans e);refine aa ?_;apply K.cond<;>intro g9
   .have eL:j<s.vars.length:=by omega
    obtain⟨c5,rfl⟩:=h1.addr (by omega);have gA:=((h1.at j eL).cells).ext (lg (Ext.refl _));replace ei:=ei.ext a8;refine aa ?_;intro cc bM;replace aq:=bM.obj aq;replace aQ:=bM.obj aQ;refine aa ?_;apply K.cond<;>intro g10
    .have x8:s.vars.any (fun x=>decide (x.name=p.vars[k].name))=true:=List.any_eq_true.2 ⟨s.vars[j],List.getElem_mem _,by simpa using g10⟩;rw[if_pos x8] at bB;refine aa ?_;exact⟨by rw[a6,bB];rfl,lg bM⟩
    .refine aa ?_;exact⟨eL,bk,(),trivial,a8.trans bM,fun t aO h=>by
      by_cases e:t=j
      .subst e;exact g10
      .exact p1 t aO (by omega)⟩
   .have x8:¬s.vars.any (fun x=>decide (x.name=p.vars[k].name))=true:=by
     intro dt;obtain⟨x,ar,gT⟩:=List.any_eq_true.1 dt;obtain⟨t,aO,rfl⟩:=List.mem_iff_getElem.1 ar;exact p1 t aO (by omega) (by simpa using gT)
    rw[if_neg x8] at bB;refine aa ?_;exact⟨bp,bk,(),trivial,aZ.trans a8,bB⟩
  rw[List.drop_eq_nil_of_le (by omega)] at bB;replace a6:o.ho p s=o.kV (o.inner p s) p.cw p.cH p.cH 0:=by rw[a6,bB];rfl
  clear bB aS;have eU:∀w',Ext w w'->o.fE w' [.slice a0 s.scalars.length bP,.slice dJ s.vars.length c1,.slice a2 s.aL.length c2,.slice a3 s.procs.length d3,.slice cn p.vars.length bQ,.int .i64 p.over] (o.inner p s):=fun w' e =>
   ⟨(a1.inner nQ).ql.1,_,_,_,_,_,rfl,ak.ext e,h1.ext e,U.ext e,ag.ext e,aT.ext e,(a1.inner nQ).ql.2⟩
  refine aa ?_;intro bV b4 fp a8 bA;replace aq:=a8.obj aq;replace aQ:=a8.obj aQ;have lg:∀{w'},Ext bV w'->Ext w w':=fun e=>en ((aZ.trans a8).trans e);refine aa ?_;refine K.dk 12 p.cH.length [2,3,11] (fun _:Unit=>[]) () (fun k _ w'=>Ext bV w'/\o.kV (o.inner p s) p.cw p.cH p.cH 0=o.kV (o.inner p s) p.cw p.cH (p.cH.drop k) k) bz bz ⟨Ext.refl _,by simp⟩ ?_;rintro k _ S cc hk ⟨bM,bB⟩;replace aq:=bM.obj aq;replace aQ:=bM.obj aQ;replace bA:=bM.obj bA;have jN:∀{w'},Ext cc w'->Ext w w':=fun e=>lg (bM.trans e);refine aa ?_;apply K.cond<;>intro g7
  .have bp:k<p.cH.length:=by omega
   obtain⟨a,rfl⟩:=ox.addr (by omega);obtain⟨ay,fK,ed,gx,wC,uI⟩:=ox.at k bp;obtain⟨iL,je,rfl,ahG⟩:=wC.form;obtain⟨bm,gf,rfl,oC⟩:=uI.form;rw[o.Sc bp] at bB;replace gx:=gx.ext (jN (Ext.refl _));refine aa ?_;refine K.gN (.tuple #[.int .i64 (o.iC p.cH[k] p.cw (o.inner p s)).1,.int .i64 (o.iC p.cH[k] p.cw (o.inner p s)).2]) (fun w' e=>ajE p.cH[k] _ _ p _ _ _ (o.inner p s) w' ay (wC.ext (jN e)) (uI.ext (jN e)) (aT.ext (jN e)) (ox.ext (jN e)) (eU _ (jN e))) ?_;refine aa ?_;intro di bY;replace aq:=bY.obj aq;replace aQ:=bY.obj aQ;replace bA:=bY.obj bA;replace gx:=gx.ext bY;have kP:∀{w'},Ext di w'->Ext w w':=fun e=>jN (bY.trans e);refine aa ?_;apply K.cond<;>intro g8;rotate_left
   .rw[if_pos g8] at bB;refine aa ?_;exact⟨by rw[a6,bB],kP (Ext.refl _)⟩
   rw[if_neg (by simpa using g8)] at bB;refine aa ?_;refine K.dk 15 k [2,3,11,12] (fun _:Unit=>[]) () (fun j _ w'=>Ext di w'/\∀t (aO:t<p.cH.length),t<j->¬p.cH[t].name=p.cH[k].name) bz bz ⟨Ext.refl _,fun _ _ h=>absurd h (Nat.not_lt_zero _)⟩ ?_;rintro j _ bh dX aR ⟨cr,p1⟩;replace aq:=cr.obj aq;replace aQ:=cr.obj aQ;replace bA:=cr.obj bA;have jO:∀{w'},Ext dX w'->Ext w w':=fun e=>kP (cr.trans e);refine aa ?_;apply K.cond<;>intro g9
   .have eL:j<p.cH.length:=by omega
    obtain⟨_,apC,I2,Uf,_,_⟩:=ox.at j eL;replace Uf:=Uf.ext (jO (Ext.refl _));replace gx:=gx.ext cr;refine aa ?_;intro fw dc;replace aq:=dc.obj aq;replace aQ:=dc.obj aQ;replace bA:=dc.obj bA;refine aa ?_;apply K.cond<;>intro g10
    .have x8:(p.cH.take k).any (fun x=>decide (x.name=p.cH[k].name))=true:=List.any_eq_true.2 ⟨p.cH[j],by rw[List.mem_iff_getElem];exact⟨j,by simp;omega,by simp⟩,by simpa using g10⟩;rw[if_pos x8] at bB;refine aa ?_;exact⟨by rw[a6,bB],jO dc⟩
    .refine aa ?_;exact⟨by omega,bk,(),trivial,cr.trans dc,fun t aO h=>by
      by_cases e:t=j
      .subst e;exact g10
      .exact p1 t aO (by omega)⟩
   .have x8:¬(p.cH.take k).any (fun x=>decide (x.name=p.cH[k].name))=true:=by
     intro dt;obtain⟨x,ar,gT⟩:=List.any_eq_true.1 dt;obtain⟨t,aO,rfl⟩:=List.mem_iff_getElem.1 ar;have Ml:t<k/\t<p.cH.length:=by simp at aO;omega
     exact p1 t Ml.2 (by omega) (by simpa using gT)
    rw[if_neg x8] at bB;refine aa ?_;exact⟨bp,bk,(),trivial,(bM.trans bY).trans cr,bB⟩
  .rw[List.drop_eq_nil_of_le (by omega)] at bB;refine aa ?_;exact⟨by rw[a6,bB];rfl,jN (Ext.refl _)⟩
theorem ajQ(cs:List Value)(m:o.Model)(k:Nat)(w:World)(h:o.dY w cs m)(a1:m.cQ)(hk:k<m.procs.length)(DD:k<=6)(Hv:m.scalars.length<=2/\m.vars.length<=12/\m.aL.length<=4)(afM:k<6->∀j,j<k->(o.hX m j).1=0) :
  bu Tryz.prog F.EE #[.agg cs.toArray,.int .i64 k] w fun v w'=>v=wa (if (o.hX m k).1≠0 then ⟨(o.hX m k).1,4,k,(o.hX m k).2⟩ else o.sO)/\Ext w w':=by
 have br:=h;obtain⟨cy,bP,b9,c1,ck,c2,cn,bQ,cB,bX,rfl,ak,h1,U,ag,aJ,eM,ej,ev,ea,ew⟩:=h.form;have ef:=o.Kx hk;refine bL E.EE ?_;refine bG ?_;refine aa ?_;intro av bC cR aB aq;refine aa ?_;intro aU cp dR aA aQ;replace aq:=aA.obj aq;have aW:=aB.trans aA;have gl:=cG aq;have z2:=aB.size;refine aa ?_;apply K.cond<;>intro g1
 .rw[if_pos (by omega)] at ef;refine aa ?_;intro bb fT bA;refine aa ?_;exact⟨by rw[ef];rfl,fT.ext aW (by omega)⟩
 rw[if_neg (by omega)] at ef;obtain⟨a,rfl⟩:=ag.addr (by omega);obtain⟨nS,cE,dU,aN,eT,dZ⟩:=ag.at k hk;obtain⟨e3,fy,rfl,gi⟩:=eT.form;obtain⟨oE,kz,rfl,lc⟩:=dZ.form;have nQ:=a1.proc _ (List.getElem_mem hk);replace aN:=aN.ext aW;refine aa ?_;intro bb dO kX ax cC;replace aq:=ax.obj aq;replace aQ:=ax.obj aQ;refine aa ?_;intro bq aM;replace aq:=aM.obj aq;replace aQ:=aM.obj aQ;replace cC:=aM.obj cC;have bZ:=(aW.trans ax).trans aM;refine aa ?_;refine K.call (ajT (w0:=w) _ m k bq br bZ a1) ?_;rintro _ bT ⟨⟨am5,rfl,k3⟩,aZ⟩;refine⟨aZ,?_⟩;have b5:=bZ.trans aZ;obtain⟨lb,FH,j8,kN,j9,kv,n0,y5,nw,y6,rfl,_⟩:=(k3 _ b5).form;refine aa ?_;refine K.call (akf m.procs[k] _ _ (o.gM m k) bT ⟨nS,_,_,rfl,eT.ext b5,dZ.ext b5⟩ (k3 _ b5) (a1.gM _) nQ) ?_;rintro _ bV ⟨rfl,a8⟩;replace aq:=(aZ.trans a8).obj aq;replace aQ:=(aZ.trans a8).obj aQ;replace cC:=(aZ.trans a8).obj cC;have cM:=b5.trans a8;clear aW bZ aN;have eU:=o.Xb m.procs[k] (o.gM m k) 140737488351232 fun c aw=>by have:=(nQ.cmd c aw).b6;unfold o.dK at this;omega
 have agr:m.procs[k].vars.length<=140737488351232:=by have:=nQ.vars;unfold o.dK at this;omega
 have nM:m.procs[k].cH.length<=140737488351232:=by have:=nQ.cH;unfold o.dK at this;omega
 refine aa ?_;apply K.cond<;>intro g2;rotate_left
 .rw[if_pos g2] at ef;refine aa ?_;intro cc dx cU;refine aa ?_;exact⟨by rw[ef,if_pos g2];rfl,dx.ext cM (by omega)⟩
 rw[if_neg (by simpa using g2)] at ef;have hlen:∀(i:Int),m.scalars.length+o.cP 1 4 i m.vars.length+o.cP 2 4 i m.aL.length+o.cP 3 4 k m.procs.length+o.hs 4 i m.props.length<=8000000000000:=fun i=>by
  have dH:=o.vl 1 4 i m.vars.length;have dN:=o.vl 2 4 i m.aL.length;have eb:o.cP 3 4 k m.procs.length<=k:=by unfold o.cP; (repeat' split)<;>omega
  have hd:o.hs 4 i m.props.length=0:=by unfold o.hs;rw[if_neg (by decide)]
  omega
 refine aa ?_;intro cc bM;replace aq:=bM.obj aq;replace aQ:=bM.obj aQ;replace cC:=bM.obj cC;have dz:=cM.trans bM;refine aa ?_;refine K.call (B6 _ m 4 k cc (br.ext dz) (by omega) (by omega) (hlen k)) ?_;rintro _ di ⟨⟨v,rfl,gr⟩,bY⟩;refine⟨bY,?_⟩;rw[o.Z0] at gr;replace aq:=bY.obj aq;replace aQ:=bY.obj aQ;replace cC:=bY.obj cC;have eg:=dz.trans bY;refine aa ?_;refine K.call (Dd v _ m.procs[k].name _ di gr) ?_;rintro _ nv ⟨rfl,rfl⟩;refine aa ?_;apply K.cond<;>intro g3
 .rw[if_pos g3] at ef;refine aa ?_;intro dX iV dM;refine aa ?_;exact⟨by rw[ef];rfl,iV.ext eg (by omega)⟩
 rw[if_neg g3] at ef;have qX:m.procs.length*80<=140737488355328:=by have:=a1.procs;unfold o.dK at this;omega
 have DH:m.scalars.length+o.cP 1 5 (0:Nat) m.vars.length+o.cP 2 5 (0:Nat) m.aL.length+o.cP 3 5 (0:Nat) m.procs.length+o.hs 5 (0:Nat) m.props.length<=8000000000000:=by
  have dH:=o.vl 1 5 (0:Nat) m.vars.length;have dN:=o.vl 2 5 (0:Nat) m.aL.length;have eb:=o.vl 3 5 (0:Nat) m.procs.length;have hd:o.hs 5 (0:Nat) m.props.length=0:=by unfold o.hs;rw[if_pos (by decide)];simp
  omega
 have wh:=aq;have ya:=aQ;have T3:=cC;clear aq aQ cC gr;have aq:=wh;have cC:=T3;refine aa ?_;refine K.dk 9 m.procs[k].vars.length [1,2,4,5] (fun _:Unit=>[]) () (fun j _ w'=>Ext nv w'/\∀i,i<j->o.pX m m.procs[k] i=0) bz bz ⟨Ext.refl _,fun j h=>absurd h (Nat.not_lt_zero _)⟩ ?_;clear aq cC;rintro j _ S dX aR ⟨cr,bN⟩;have aq:=cr.obj wh;have aQ:=cr.obj ya;have cC:=cr.obj T3;have ig:=eg.trans cr;refine aa ?_;apply K.cond<;>intro g4
 .have eL:j<m.procs[k].vars.length:=by omega
  obtain⟨c5,rfl⟩:=eT.addr (by omega);have ei:=((eT.at j eL).cells).ext ig;have fG:=o.A7 (f:=fun x:o.Var=>x.name) eL;refine aa ?_;intro fw dc;replace aq:=dc.obj aq;replace aQ:=dc.obj aQ;replace cC:=dc.obj cC;replace ei:=ei.ext dc;have kA:=ig.trans dc;refine aa ?_;refine K.call (B6 _ m 5 (0:Nat) fw (br.ext kA) (by omega) (by omega) DH) ?_;rintro _ gw ⟨⟨v2,rfl,DR⟩,fY⟩;refine⟨fY,?_⟩;rw[o.RP] at DR;replace aq:=fY.obj aq;replace aQ:=fY.obj aQ;replace cC:=fY.obj cC;have tW:=kA.trans fY;refine aa ?_;refine K.call (Dd v2 _ m.procs[k].vars[j].name _ gw DR) ?_;rintro _ y3 ⟨rfl,rfl⟩;have dC:o.q5 m 0=o.iv m m.procs.length:=by simp[o.q5]
  rw[dC];refine aa ?_;apply K.cond<;>intro g5
  .have uv:o.pX m m.procs[k] j=7:=by unfold o.pX;rw[fG,if_pos g5]
   rw[o.iF eL bN (by rw[uv];decide),uv,if_pos (show(7:Int)≠0 by decide)] at ef;refine aa ?_;intro la oA um;refine aa ?_;exact⟨by rw[ef];rfl,oA.ext tW (by omega)⟩
  .refine aa ?_;refine⟨eL,bk,(),trivial,(cr.trans dc).trans fY,fun i ad=>?_⟩;by_cases Am:i=j
   .subst Am;unfold o.pX;rw[fG,if_neg g5]
   .exact bN i (by omega)
 .rw[o.ot fun i ad=>bN i (by omega),if_neg (by simp)] at ef;refine aa ?_;intro fw qb jy;refine aa ?_;exact⟨by rw[ef];rfl,qb.ext ig (by omega)⟩
theorem ajR(cs:List Value)(m:o.Model)(k:Nat)(w:World)(h:o.dY w cs m)(a1:m.cQ)(hk:k<m.props.length)(UO:k<=8)(Hv:m.scalars.length<=2/\m.vars.length<=12/\m.aL.length<=4)(afM:m.procs.length<=6) :
  bu Tryz.prog F.EF #[.agg cs.toArray,.int .i64 k] w fun v w'=>v = .int .i64 (o.mn m k)/\Ext w w':=by
 have br:=h;obtain⟨cy,bP,b9,c1,ck,c2,cn,bQ,cB,bX,rfl,ak,h1,U,ag,aJ,eM,ej,ev,ea,ew⟩:=h.form;have ef:=o.CK hk;refine bL E.EF ?_;refine bG ?_;refine aa ?_;intro av bC cR aB aq;refine aa ?_;apply K.cond<;>intro g1
 .rw[if_pos (by omega)] at ef;refine aa ?_;exact⟨by rw[ef],aB⟩
 rw[if_neg (by omega)] at ef;obtain⟨a,rfl⟩:=aJ.addr (by omega);obtain⟨nS,hD,aN,hL⟩:=aJ.at k hk;obtain⟨Na,ce,rfl,le⟩:=hL.form;replace aN:=aN.ext aB;refine aa ?_;intro aU dO kX aA cC;replace aq:=aA.obj aq;have aW:=aB.trans aA;refine aa ?_;refine K.call (Bl m.props[k].name aU nS) ?_;rintro _ bb ⟨rfl,ax⟩;replace aq:=ax.obj aq;replace cC:=ax.obj cC;have bJ:=aW.trans ax;refine aa ?_;refine K.dp (fun g2=>?_) (fun g2=>?_);rotate_left
 .rw[if_pos g2] at ef;refine aa ?_;exact⟨by rw[ef],bJ⟩
 rw[if_neg (by rw[g2];decide)] at ef;refine aa ?_;intro bq aM;replace aq:=aM.obj aq;replace cC:=aM.obj cC;have bZ:=bJ.trans aM;refine aa ?_;refine K.call (B6 _ m 5 k bq (br.ext bZ) (by omega) (by omega) (by
  have dH:=o.vl 1 5 k m.vars.length;have dN:=o.vl 2 5 k m.aL.length;have eb:=o.vl 3 5 k m.procs.length;have hd:o.hs 5 k m.props.length<=k:=by unfold o.hs; (repeat' split)<;>omega
  omega)) ?_
 rintro _ bT ⟨⟨v2,rfl,DR⟩,aZ⟩;refine⟨aZ,?_⟩;rw[o.RP] at DR;replace aq:=aZ.obj aq;replace cC:=aZ.obj cC;have b5:=bZ.trans aZ;refine aa ?_;refine K.call (Dd v2 _ m.props[k].name _ bT DR) ?_;rintro _ y3 ⟨rfl,rfl⟩;refine aa ?_;apply K.cond<;>intro g3
 .rw[if_pos g3] at ef;refine aa ?_;exact⟨by rw[ef],b5⟩
 rw[if_neg g3] at ef;have k3:∀w',Ext w w'->o.fE w' [.slice cy m.scalars.length bP,.slice b9 m.vars.length c1,.slice ck m.aL.length c2,.slice cn m.procs.length bQ,.slice none 0 0,.int .i64 0] (o.eR m):=fun w' e =>
  ⟨a1.scope.ql.1,_,_,_,_,_,rfl,ak.ext e,h1.ext e,U.ext e,ag.ext e,bE.nil,a1.scope.ql.2⟩
 refine aa ?_;refine K.call (XD _ m.props[k].expr _ (o.eR m) _ (hL.ext b5) (k3 _ b5)) ?_;rintro _ bV ⟨rfl,a8⟩;refine aa ?_;apply K.cond<;>intro g4;rotate_left
 .rw[if_pos g4] at ef;refine aa ?_;exact⟨by rw[ef],b5.trans a8⟩
 rw[if_neg (by simpa using g4)] at ef;refine aa ?_;apply K.cond<;>intro g5;rotate_left
 .rw[if_pos g5] at ef;refine aa ?_;exact⟨by rw[ef],b5.trans a8⟩
 rw[if_neg (by simpa using g5)] at ef;refine aa ?_;exact⟨by rw[ef],b5.trans a8⟩
theorem NO(cs:List Value)(m:o.Model)(w:World)(h:o.dY w cs m)(a1:m.cQ) :
  bu Tryz.prog F.yH #[.agg cs.toArray] w fun v w'=>v=wa (o.check m)/\Ext w w':=by
 have br:=h;obtain⟨cy,bP,b9,c1,ck,c2,cn,bQ,cB,bX,rfl,ak,h1,U,ag,aJ,eM,ej,ev,ea,ew⟩:=h.form;refine bL E.yH ?_;refine bG ?_;simp -dsimp only[cF];refine ee ?_;intro av bC cR aB aq;refine ee ?_;intro aU cp dR aA aQ;replace aq:=aA.obj aq;have aW:=aB.trans aA;have gl:=cG aq;have z2:=cG aQ;have z3:=aB.size;refine ee ?_;simp -dsimp only[cF];refine ee ?_;refine K.call (ajL _ m aU (br.ext aW)) ?_;rintro _ bb ⟨rfl,ax⟩;replace aq:=ax.obj aq;replace aQ:=ax.obj aQ;unfold wa;have z4:=aA.size;have z5:=ax.size;refine ee ?_;intro bq b4 fp aM bA;replace aq:=aM.obj aq;replace aQ:=aM.obj aQ;have bZ:=(aW.trans ax).trans aM;have BE:=cG bA;have wh:=aq;have ya:=aQ;have ano:=br.ext bZ;refine ee ?_;refine K.hl [1,2,3] (fun _:o.ru=>[]) (fun f w'=>Mod (fun i=>i=b4) bq w'/\w'.heap[b4]? = some (.cells #[.int .i64 f.c3,.int .i64 f.part,.int .i64 f.item,.int .i64 f.sub] T.w) /\
  ((f.c3≠0/\f=o.check m)\/(f.c3=0/\(o.data m).c3=0/\∀j,j<m.procs.length->(o.hX m j).1=0))) ?_ ?_
 .refine aa ?_;refine K.dk 4 m.procs.length [1,2,3] (fun _:o.ru=>[]) (o.data m) (fun k f w'=>Mod (fun i=>i=b4) bq w'/\w'.heap[b4]? = some (.cells #[.int .i64 f.c3,.int .i64 f.part,.int .i64 f.item,.int .i64 f.sub] T.w) /\
   ((f=o.data m/\(o.data m).c3≠0)\/((o.data m).c3=0/\f.c3=0/\∀j,j<k->(o.hX m j).1=0)\/((o.data m).c3=0/\f=o.lO m/\(o.lO m).c3≠0))) bz bz ⟨Mod.refl _ _,bA,by
     by_cases h:(o.data m).c3=0
     .exact .inr (.inl ⟨h,h,fun j h=>absurd h (Nat.not_lt_zero _)⟩)
     .exact .inl ⟨rfl,h⟩⟩ ?_
  clear aq aQ bA;rintro k f S bT hk ⟨m5,bA,aK⟩;have aq:=m5.obj (by omega) wh;have aQ:=m5.obj (by omega) ya;have b5:=m5.ext bZ (fun i ad e=>by omega);have Tb:f.c3≠0->(f.c3≠0/\f=o.check m):=fun hw=>⟨hw,by
   rcases aK with ⟨rfl,h⟩ | ⟨_,h,_⟩ | ⟨h1,rfl,U⟩
   .rw[o.check,if_pos h]
   .exact absurd h hw
   .rw[o.check,if_neg (by simpa using h1),if_pos U]⟩
  refine aa ?_;apply K.cond<;>intro g1
  .have bp:k<m.procs.length:=by omega
   refine aa ?_;apply K.cond<;>intro g2
   .have mB:(o.data m).c3=0/\f.c3=0/\∀j,j<k->(o.hX m j).1=0:=by
     rcases aK with ⟨rfl,h⟩ | h | ⟨h1,rfl,U⟩
     .exact absurd g2 h
     .exact h
     .exact absurd g2 U
    have DD:k<=6:=by
     apply Classical.byContradiction;intro aE
     have:=o.GS (m:=m) (i:=6) (by omega) (mB.2.2 6 (by omega))
     omega
    refine aa ?_;refine K.call (ajQ _ m k bT (br.ext b5) a1 bp DD (o.GM mB.1) fun _=>mB.2.2) ?_;rintro _ bV ⟨rfl,a8⟩;unfold wa;replace aq:=a8.obj aq;replace aQ:=a8.obj aQ;replace bA:=a8.obj bA;refine aa ?_;intro cc dx cU;refine aa ?_;refine⟨bp,bk,_,trivial,(m5.trans a8.mod).trans (dx.mod rfl),cU,?_⟩;by_cases ak:(o.hX m k).1=0
    .rw[if_neg (by simpa using ak)];refine .inr (.inl ⟨mB.1,rfl,fun j aR=>?_⟩);by_cases h3:j=k
     .subst h3;exact ak
     .exact mB.2.2 j (by omega)
    .rw[if_pos ak]
     have:=o.E3 bp mB.2.2 ak
     exact .inr (.inr ⟨mB.1,this.symm,by rw[this];exact ak⟩)
   .refine aa ?_;exact⟨f,trivial,m5,bA,.inl (Tb g2)⟩
  .refine aa ?_;refine⟨f,trivial,m5,bA,?_⟩;by_cases hw:f.c3=0
   .refine .inr ?_;rcases aK with ⟨rfl,h⟩ | ⟨h1,U,ag⟩ | ⟨h1,rfl,U⟩
    .exact absurd hw h
    .exact⟨U,h1,fun j aR=>ag j (by omega)⟩
    .exact absurd hw U
   .exact .inl (Tb hw)
 clear aq aQ bA;rintro f S bT ⟨m5,bA,aK⟩;have aq:=m5.obj (by omega) wh;have aQ:=m5.obj (by omega) ya;have b5:=m5.ext bZ (fun i ad e=>by omega);refine aa ?_;apply K.cond<;>intro g1;rotate_left
 .have kY:f=o.check m:=by
   rcases aK with ⟨_,h⟩ | ⟨h,_⟩
   .exact h
   .exact absurd h g1
  refine aa ?_;intro bV gh ct;refine aa ?_;exact⟨by rw[kY],gh.ext b5 (by omega)⟩
 have dq:(o.data m).c3=0/\∀j,j<m.procs.length->(o.hX m j).1=0:=by
  rcases aK with ⟨h,_⟩ | ⟨_,h⟩
  .exact absurd g1 h
  .exact h
 obtain⟨bx,x4⟩:=dq;have Hv:=o.GM bx;have qX:m.procs.length<=6:=by
  apply Classical.byContradiction;intro aE
  have:=o.GS (i:=6) (by omega) (x4 6 (by omega))
  omega
 have s0:o.tF m:=⟨by omega,by omega,by omega,fun p aN=>by
  obtain⟨j,aR,rfl⟩:=List.mem_iff_getElem.1 aN
  have:=o.No (o.zU aR (x4 j aR)).2.1
  omega⟩
 have p9:=o.Nq x4;have kY:o.check m=if (o.lO m).c3≠0 then o.lO m else o.oF m:=by rw[o.check,if_neg (by simpa using bx)]
 clear bA;refine aa ?_;refine K.call (ajP _ m bT (br.ext b5) s0) ?_;rintro _ bV ⟨rfl,a8⟩;replace aq:=a8.obj aq;replace aQ:=a8.obj aQ;have cM:=b5.trans a8;refine aa ?_;apply K.cond<;>intro g2
 .rw[if_pos (.inl (by omega))] at p9;rw[p9,if_pos (show(11:Int)≠0 by decide)] at kY;refine aa ?_;intro cc dx cU;refine aa ?_;exact⟨by rw[kY];rfl,dx.ext cM (by omega)⟩
 refine aa ?_;apply K.cond<;>intro g3
 .rw[if_pos (.inr (by omega))] at p9;rw[p9,if_pos (show(11:Int)≠0 by decide)] at kY;refine aa ?_;intro cc dx cU;refine aa ?_;exact⟨by rw[kY];rfl,dx.ext cM (by omega)⟩
 rw[if_neg (by omega)] at p9;rw[p9,if_neg (by simp[o.sO])] at kY;have aet:=aq;have aeu:=aQ;refine aa ?_;refine K.dk 8 m.props.length [1,2] (fun _:Unit=>[]) () (fun k _ w'=>Ext bV w'/\∀j,j<k->o.mn m j=0) bz bz ⟨Ext.refl _,fun j h=>absurd h (Nat.not_lt_zero _)⟩ ?_;clear aq aQ;rintro k _ kR cc hk ⟨bM,bN⟩;have aq:=bM.obj aet;have aQ:=bM.obj aeu;have dz:=cM.trans bM;refine aa ?_;apply K.cond<;>intro g4
 .have bp:k<m.props.length:=by omega
  have UO:k<=8:=by
   apply Classical.byContradiction;intro aE
   have:=o.aco (m:=m) (i:=8) (by omega) (bN 8 (by omega))
   omega
  refine aa ?_;refine K.call (ajR _ m k cc (br.ext dz) a1 bp UO Hv qX) ?_;rintro _ di ⟨rfl,bY⟩;replace aq:=bY.obj aq;replace aQ:=bY.obj aQ;refine aa ?_;apply K.cond<;>intro g5;rotate_left
  .rw[o.Xd bp bN g5] at kY;refine aa ?_;intro dX iV dM;refine aa ?_;exact⟨by rw[kY];rfl,iV.ext (dz.trans bY) (by omega)⟩
  .refine aa ?_;refine⟨bp,bk,(),trivial,bM.trans bY,fun j aR=>?_⟩;by_cases h3:j=k
   .subst h3;simpa using g5
   .exact bN j (by omega)
 .rw[o.Nr fun j aR=>bN j (by omega)] at kY;refine aa ?_;intro di iJ cL;refine aa ?_;exact⟨by rw[kY];rfl,iJ.ext dz (by omega)⟩
end Go.Proofs.R
end
section
namespace bt
open Go Go.RowKit
def ts(l:List ByteArray):List (ByteArray×Value):=l.map fun x=>(x,.bool true)
theorem akF(l:List ByteArray)(x:ByteArray):((ts l).find? (fun p=>decide (x=p.1))).map (·.2)=if x∈l then some (.bool true) else none:=by
 induction l with
 | nil=>rfl
 | cons y l e1 =>
  simp only[ts,List.map_cons,List.find?_cons,List.mem_cons];by_cases h:x=y
  .simp[h]
  .simp only[h,decide_false,false_or];exact e1
structure zi(es:Array MapEntry)(c:Nat)(L:List ByteArray):Prop where
 yw:∃l,hT Value.string es.toList (ts l)/\∀x,x∈l↔x∈L
 born:∀e∈es.toList,e.born<c
 nodup:(es.toList.map (·.born)).Nodup
theorem hT.mem{l:List ByteArray}:∀{es:List MapEntry},hT Value.string es (ts l)->∀e∈es,∃x∈l,e.key = .string x/\e.val = .bool true:=by
 induction l with
 | nil=>intro es h e he;cases es with | nil=>cases he | cons _ _=>simp[hT,ts] at h
 | cons y l e1 =>
  intro es h e he;cases es with
  | nil=>cases he
  | cons f es =>
   simp only[hT,ts,List.map_cons,List.cons.injEq,Prod.mk.injEq] at h;rcases List.mem_cons.1 he with rfl | he
   .exact⟨y,by simp,h.1.1,h.1.2⟩
   .obtain⟨x,ar,U⟩:=e1 (es:=es) h.2 e he;exact⟨x,by simp[ar],U⟩
theorem hT.Nc{l:List ByteArray}:∀{es:List MapEntry},hT Value.string es (ts l)->∀x∈l,∃e∈es,e.key = .string x:=by
 induction l with
 | nil=>intro es h x ar;cases ar
 | cons y l e1 =>
  intro es h x ar;cases es with
  | nil=>simp[hT,ts] at h
  | cons f es =>
   simp only[hT,ts,List.map_cons,List.cons.injEq,Prod.mk.injEq] at h;rcases List.mem_cons.1 ar with rfl | ar
   .exact⟨f,by simp,h.1.1⟩
   .obtain⟨e,he,U⟩:=e1 (es:=es) h.2 x ar;exact⟨e,by simp[he],U⟩
theorem zi.mem{es:Array MapEntry}{c:Nat}{L:List ByteArray}(h:zi es c L):∀e∈es.toList,∃x∈L,e.key = .string x/\e.val = .bool true:=fun e he=>by
 obtain⟨l,h1,U⟩:=h.yw;obtain⟨x,ar,ag⟩:=h1.mem e he;exact⟨x,(U x).1 ar,ag⟩
theorem zi.Nc{es:Array MapEntry}{c:Nat}{L:List ByteArray}(h:zi es c L):∀x∈L,∃e∈es.toList,e.key = .string x:=fun x ar=>by
 obtain⟨l,h1,U⟩:=h.yw;exact h1.Nc x ((U x).2 ar)
theorem KG{d:TypeDesc}{k:Value}:∀{es:List MapEntry} {i j:Nat} {v:Value},Instr.findNow d k es i=some (some (j,v))->i<=j/\∃e,es[j - i]? = some e/\Instr.sameNow d k e.key=some true
 | [],i,j,v,h=>by simp[Instr.findNow] at h
 | e :: es,i,j,v,h=>by
  unfold Instr.findNow at h;split at h
  .rename_i ay;injection h with h;injection h with h;injection h with h1 U
   subst h1;exact⟨Nat.le_refl _,e,by simp,ay⟩
  .obtain⟨h1,e',U,ag⟩:=KG h;refine⟨by omega,e',?_,ag⟩;rw[show j - i=(j - (i+1))+1 from by omega,List.getElem?_cons_succ];exact U
  .cases h
theorem ah3{es:Array MapEntry}{j:Nat}{e:MapEntry}{f:MapEntry->MapEntry}(aR:es[j]? = some e)(aK:f e=e):es.modify j f=es:=by
 apply Array.ext_getElem?;intro i;rw[Array.getElem?_modify];by_cases h:j=i
 .subst h;rw[if_pos rfl,aR,Option.map_some,aK]
 .rw[if_neg h]
def fF(w:World)(b:Nat)(L:List ByteArray):Prop := ∃es c,w.heap[b]? = some (.map es c)/\zi es c L
theorem fF.of{w w':World}{b:Nat}{L:List ByteArray}(h:fF w b L)(e:w'.heap[b]? = w.heap[b]?):fF w' b L:=let ⟨es,c,h1,U⟩:=h; ⟨es,c,e.trans h1,U⟩
theorem fF.lt{w:World}{b:Nat}{L:List ByteArray}(h:fF w b L):b<w.heap.size:=let ⟨_,_,h1,_⟩:=h;cG h1
theorem fF.ext{w w':World}{b:Nat}{L:List ByteArray}(h:fF w b L)(e:Ext w w'):fF w' b L:=h.of (e.heap h.lt)
theorem fF.wr{w w':World}{b k:Nat}{L:List ByteArray}(h:fF w b L)(e:dA k w w')(hk:b≠k):fF w' b L:=h.of (e.block b hk)
theorem fF.iy{w:World}{b:Nat}{L mP:List ByteArray}(h:fF w b L)(e:∀x,x∈L↔x∈mP):fF w b mP:=by
 obtain⟨es,c,h1,⟨⟨l,U,ag⟩,aJ,bg⟩⟩:=h;exact⟨es,c,h1,⟨⟨l,U,fun x=>(ag x).trans (e x)⟩,aJ,bg⟩⟩
theorem fF.empty{w:World}{b:Nat}(h:w.heap[b]? = some (.map #[] 0)):fF w b []:=⟨_,_,h,⟨⟨[],rfl,fun _=>Iff.rfl⟩,fun e he=>by simp at he,by simp⟩⟩
theorem fF.look{w:World}{b:Nat}{L:List ByteArray}(h:fF w b L)(x:ByteArray):∃es r,qs w (.map (some b)) es/\Instr.findNow .string (.string x) es.toList 0=some r/\l9 (.bool false) false r = .bool (decide (x∈L)):=by
 obtain⟨es,c,h1,⟨⟨l,U,ag⟩,_,_⟩⟩:=h;obtain⟨r,ko,hM⟩:=xV IF x es.toList _ 0 U;rw[akF] at hM;refine⟨es,r,.inr ⟨b,c,rfl,h1⟩,ko,?_⟩;by_cases ar:x∈L
 .rw[if_pos ((ag x).2 ar)] at hM;simp[l9,hM,ar]
 .rw[if_neg (fun h=>ar ((ag x).1 h))] at hM;simp[l9,hM,ar]
theorem fF.put{w:World}{b:Nat}{L:List ByteArray}(h:fF w b L)(x:ByteArray):∃es c q,w.heap[b]? = some (.map es c)/\Instr.findNow .string (.string x) es.toList 0=some q /\
  ∀w':World,w'.heap[b]? = some (q4 es c (.string x) (.bool true) q)->fF w' b (L++[x]):=by
 obtain⟨es,c,h1,hm⟩:=h;obtain⟨l,U,ag⟩:=hm.yw;obtain⟨r,ko,hM⟩:=xV IF x es.toList _ 0 U;refine⟨es,c,r,h1,ko,fun w' hw=>?_⟩;cases r with
 | none =>
  refine⟨_,_,hw,⟨⟨l++[x],?_,fun y=>?_⟩,?_,?_⟩⟩
  .have:=hT.push U x (.bool true) c
   simpa[ts] using this
  .simp[ag y]
  .intro e he;simp only[Array.toList_push,List.mem_append,List.mem_singleton] at he;rcases he with he | rfl
   .have:=hm.born e he;omega
   .show c<c+1;omega
  .simp only[Array.toList_push,List.map_append,List.map_cons,List.map_nil];rw[List.nodup_append];refine⟨hm.nodup,by simp,fun a bj gm qL=>?_⟩;obtain⟨e,he,rfl⟩:=List.mem_map.1 bj;simp only[List.mem_singleton] at qL
   have:=hm.born e he
   omega
 | some MJ =>
  obtain⟨j,v⟩:=MJ;obtain⟨_,e,he,ay⟩:=KG ko;have wx:e∈es.toList:=List.mem_of_getElem? he;obtain⟨y,b2,hk,aT⟩:=hm.mem e wx;have MB:x=y:=by rw[hk,IF] at ay;simpa using ay
  subst MB;have age:es.modify j (fun e=>{ e with key:=.string x,val:=.bool true })=es:=ah3 (e:=e) (by simpa using he) (by cases e;simp only at hk aT;subst hk aT;rfl);have s9:w'.heap[b]? = some (.map es c):=by rw[hw];show some (Obj.map (es.modify j _) c)=_;rw[age]
  exact⟨es,c,s9,⟨⟨l,U,fun z=>by rw[ag z];simp;rintro rfl;exact b2⟩,hm.born,hm.nodup⟩⟩
def mO(w:World)(r b:Nat)(L D:List ByteArray)(n:Nat)(cur:Option ByteArray):Prop :=
 ∃es c since seen bP,w.heap[b]? = some (.map es c)/\zi es c L/\w.heap[r]? = some (.mapIter (some b) since seen bP)/\(∀x∈es.toList,x.born<since)/\since<=bP/\since<=c/\(leftOf es seen).size=n /\
  (∀e∈es.toList,seen.contains e.born=true->∃x∈D,e.key = .string x)/\(∀x∈D,x∈L)/\(∀x,cur=some x->∃(N1:Array Nat) (e:MapEntry),bP=c/\seen=N1.push e.born/\e∈es.toList/\e.key = .string x/\e.val = .bool true)
theorem mO.of{w w':World}{r b:Nat}{L D:List ByteArray}{n:Nat}{cur:Option ByteArray}(h:mO w r b L D n cur)(bR:w'.heap[b]? = w.heap[b]?)(aW:w'.heap[r]? = w.heap[r]?):mO w' r b L D n cur :=
 let ⟨es,c,since,seen,bP,h1,U,ag,aJ⟩:=h; ⟨es,c,since,seen,bP,bR.trans h1,U,aW.trans ag,aJ⟩
theorem mO.sub{w:World}{r b:Nat}{L D:List ByteArray}{n:Nat}{cur:Option ByteArray}(h:mO w r b L D n cur):∀x∈D,x∈L:=let ⟨_,_,_,_,_,_,_,_,_,_,_,_,_,U,_⟩:=h;U
theorem mO.ne{w:World}{r b:Nat}{L D:List ByteArray}{n:Nat}{cur:Option ByteArray}(h:mO w r b L D n cur):r≠b:=by
 obtain⟨es,c,since,seen,bP,h1,U,ag,aJ⟩:=h;intro e;rw[e,h1] at ag;cases ag
theorem mO.lt{w:World}{r b:Nat}{L D:List ByteArray}{n:Nat}{cur:Option ByteArray}(h:mO w r b L D n cur):r<w.heap.size:=by
 obtain⟨es,c,since,seen,bP,h1,U,ag,aJ⟩:=h;exact cG ag
theorem mO.wr{w w':World}{r b k:Nat}{L D:List ByteArray}{n:Nat}{cur:Option ByteArray}(h:mO w r b L D n cur)(e:dA k w w')(h1:b≠k)(U:r≠k):mO w' r b L D n cur:=h.of (e.block b h1) (e.block r U)
theorem ami(k:Nat)(w:World):dA k w w.drew:=⟨rfl,rfl,rfl,rfl,fun _ _=>rfl⟩
section
variable{P:Program}{c9:Value->World->Prop}{S:Fr}{w:World}{gu:World->Prop}{aI:Value->Prop}
theorem K.Wy{b:Nat}{L:List ByteArray}{x:ByteArray}{t}(h:fF w b L)(hk:aI (.bool (decide (x∈L)))):zh .string (.bool false) false (.map (some b)) (.string x) w aI t:=by
 obtain⟨es,r,h1,U,ag⟩:=h.look x;exact K.mE h1 U (by rw[ag];exact hk)
theorem K.Im{b:Nat}{L:List ByteArray}{x:ByteArray}{t}(h:fF w b L)(hk:∀av,dA b w av->fF av b (L++[x])->gu av):xj .string (.map (some b)) (.string x) (.bool true) w gu t:=by
 obtain⟨es,c,q,h1,U,ag⟩:=h.put x;exact K.iX h1 U (hk _ (dA.fe w b _) (ag _ (Br (cG h1))))
theorem K.aj4{b:Nat}{L:List ByteArray}{x:Operand}{hg k e ty:TypeId}{t}(ar:bo S x = .map (some b))(aO:P.underlying hg=some (.map k e))(h:fF w b L)
  (hk:∀av r n,w.heap.size<=r->Ext w av->mO av r b L [] n none->c9 (.pointer (some ⟨r,0,none⟩)) av):tI P (.range hg x) ty S w c9 t:=by
 obtain⟨es,c,h1,U⟩:=h;have hn:=run_range_map (P:=P) w hg k e b es c aO h1;refine K.raw (v:=.pointer (some ⟨w.heap.size,0,none⟩)) (w':=w.alloc (.mapIter (some b) c #[] c)) (by simp[execOp,ar,hn,Result.andThen]) ?_;refine hk _ _ _ (Nat.le_refl _) ((Ext.refl w).alloc _) ⟨es,c,c,#[],c,heap_alloc_old h1,U,heap_alloc_new w _,U.born,Nat.le_refl _,Nat.le_refl _,rfl,?_,?_,?_⟩
 .intro e _ h;simp at h
 .intro x ar;cases ar
 .intro x ar;cases ar
theorem K.aip{r b n:Nat}{L D:List ByteArray}{cur:Option ByteArray}{x:Operand}{ty:TypeId}{t}(ar:bo S x = .pointer (some ⟨r,0,none⟩))(h:mO w r b L D n cur)
  (ak:(∀y∈L,y∈D)->c9 (.tuple #[.bool false]) w)
  (h1:∀y av jH,y∈L->jH<n->dA r w av->mO av r b L (D++[y]) jH (some y)->c9 (.tuple #[.bool true,.string y,.bool true]) av):tI P (.next x false) ty S w c9 t:=by
 have cI:=h.ne;obtain⟨es,c,since,seen,bP,aC,hm,a6,hold,k3,Mf,aE,lz,TD,_⟩:=h;rcases run_next_at (P:=P) w ty r b since bP seen es c a6 aC hold k3 with ⟨bN,hn⟩ | ⟨e,he,av,TY,hn⟩
 .refine K.raw (v:=.tuple #[.bool false]) (w':=w) (by simp[execOp,ar,hn,Result.andThen]) (ak fun y b2=>?_);obtain⟨e,he,hk⟩:=hm.Nc y b2;obtain⟨z,Vw,wD⟩:=lz e he (all_seen es seen bN e he);rw[hk] at wD;injection wD with wD
  rw[wD];exact Vw
 .obtain⟨LD,anZ⟩:=mem_left he;obtain⟨y,b2,hk,aT⟩:=hm.mem e LD;have nh:dA r w av:=by
   rcases TY with rfl | rfl
   .exact dA.refl _ _
   .exact ami r w
  have dm:av.heap.size=w.heap.size:=nh.size;have j1:r<av.heap.size:=by rw[dm];exact cG a6
  have DV:Go.ChangeMaps.setBlock av r (.mapIter (some b) since (seen.push e.born) c)=bt.fe av r (.mapIter (some b) since (seen.push e.born) c):=rfl;rw[DV] at hn;refine K.raw (v:=.tuple #[.bool true,e.key,e.val]) (w':=fe av r (.mapIter (some b) since (seen.push e.born) c)) (by simp[execOp,ar,hn,Result.andThen]) ?_;rw[hk,aT];refine h1 y _ _ b2 (Nat.lt_of_lt_of_eq (left_shrinks es seen e he) aE) (nh.trans (dA.fe _ _ _)) ⟨es,c,since,seen.push e.born,c,?_,hm,Br j1,hold,Mf,Mf,rfl,fun f aK aw=>?_,fun z bN=>?_,fun z bN=>?_⟩
  .rw[N3 (Ne.symm cI)];rcases TY with rfl | rfl<;>exact aC
  .rw[contains_push] at aw;rcases Bool.or_eq_true_iff.1 aw with aw | aw
   .obtain⟨x,kq,gT⟩:=lz f aK aw;exact⟨x,by simp[kq],gT⟩
   .have sT:f.born=e.born:=by simpa using aw
    have bg:=find_born f es.toList hm.nodup aK;rw[sT,find_born e es.toList hm.nodup LD] at bg;injection bg with bg
    have:f=e:=bg.symm
    subst this;exact⟨y,by simp,hk⟩
  .rcases List.mem_append.1 bN with bN | bN
   .exact TD z bN
   .simp only[List.mem_singleton] at bN;subst bN;exact b2
  .injection bN with bN
   subst bN;exact⟨seen,e,rfl,rfl,LD,hk,aT⟩
theorem K.aci{r b n:Nat}{L D:List ByteArray}{y:ByteArray}{x:Operand}{ty:TypeId}{t}(ar:bo S x = .pointer (some ⟨r,0,none⟩))(h:mO w r b L D n (some y))
  (hk:c9 (.tuple #[.string y,.bool true]) w):tI P (.entry x) ty S w c9 t:=by
 obtain⟨es,c,since,seen,bP,aC,hm,a6,hold,k3,Mf,aE,lz,TD,aw⟩:=h;obtain⟨N1,e,rfl,rfl,he,yi,du⟩:=aw y rfl;have hn:(Instr.entry (.pointer (some ⟨r,0,none⟩))).run P w = .ok (.tuple #[e.key,e.val]) w:=run_entry_at w r b since N1 es bP e a6 aC he hm.nodup;refine K.raw (v:=.tuple #[e.key,e.val]) (w':=w) (by simp[execOp,ar,hn,Result.andThen]) ?_;rw[yi,du];exact hk
end
end bt
end
section
namespace Go.Proofs.R
open Go Go.RowKit bt
def vj(f:o.ru):List PanicEntry:=[{ v:=.iface T.ap (.agg #[.int .i64 f.c3,.int .i64 f.part,.int .i64 f.item,.int .i64 f.sub]),recovered:=false }]
theorem qm(e p i s:Int)(w:World):qt Tryz.prog F.b #[.int .i64 e,.int .i64 p,.int .i64 i,.int .i64 s] w (fun _ w'=>e=0/\w'=w) (fun c w'=>e≠0/\c=vj ⟨e,p,i,s⟩/\w'=w):=by
 refine K.Ft mC E.b (args:=[_,_,_,_]) (Nat.le_of_ble_eq_true rfl) ?_;dsimp only[C.b];refine bG ?_;refine aa ?_;refine K.cond (fun g=>?_) (fun g=>?_)
 .refine aa ?_;exact⟨g,bk⟩
 .refine aa ?_;exact⟨g,bk,bk⟩
theorem IW(b:Nat)(L:List ByteArray)(x:ByteArray)(p i:Int)(w:World)(h:fF w b L):qt Tryz.prog F.z #[.map (some b),.string x,.int .i64 p,.int .i64 i] w
  (fun _ w' => ¬x∈L/\dA b w w'/\fF w' b (L++[x])) (fun c w'=>x∈L/\c=vj ⟨7,p,i,0⟩/\w'=w):=by
 refine K.Ft mC E.z (args:=[_,_,_,_]) (Nat.le_of_ble_eq_true rfl) ?_;dsimp only[C.z];refine bG ?_;refine aa ?_;refine K.Wy h ?_;refine aa ?_;refine K.cond (fun g=>?_) (fun g=>?_)
 .refine aa ?_;refine K.ff (qm 7 p i 0 w) ?_ ?_
  .rintro _ _ ⟨ak,_⟩;exact absurd ak (by decide)
  .rintro c _ ⟨_,rfl,rfl⟩;refine aa ?_;exact⟨g,bk,bk⟩
 .refine aa ?_;refine K.Im h fun av hw h1=>?_;refine aa ?_;exact⟨g,hw,h1⟩
end Go.Proofs.R
end
section
namespace Go.Proofs.R
open Go Go.RowKit bt
structure jt(w0 w:World)(er bC:Nat)(cs:List Value)(w':World)(L:List ByteArray):Prop where
 ext:Ext w0 w'
 mod:Mod (fun k=>k=er) w w'
 box:w'.heap[bC]? = some (.cells cs.toArray T.b)
 set:fF w' er L
 low:w0.heap.size<=er
 ne:bC≠er
section
variable{w0 w w' b1:World}{er bC:Nat}{cs:List Value}{L mP:List ByteArray}
theorem jt.then(h:jt w0 w er bC cs w' L)(he:Ext w' b1):jt w0 w er bC cs b1 L:=⟨h.ext.trans he,h.mod.trans he.mod,he.obj h.box,h.set.ext he,h.low,h.ne⟩
theorem jt.wr(h:jt w0 w er bC cs w' L)(hw:dA er w' b1)(ay:fF b1 er mP):jt w0 w er bC cs b1 mP:=⟨hw.ext h.ext h.low,h.mod.trans (hw.mod rfl),hw.obj h.box h.ne,ay,h.low,h.ne⟩
theorem jt.iy(h:jt w0 w er bC cs w' L)(e:L=mP):jt w0 w er bC cs w' mP:=e ▸ h
end
theorem adu{w0:World}(cs:List Value)(m:o.Model)(er:Nat)(w:World)(h:o.dY w0 cs m)(dQ:Ext w0 w)(Ac:w0.heap.size<=er)(ba:ht w0)(ay:fF w er []) :
  qt Tryz.prog F.vS #[.agg cs.toArray,.map (some er)] w (fun _ w'=>(o.data m).c3=0/\Ext w0 w'/\Mod (fun k=>k=er) w w'/\fF w' er (o.mG m m.aL.length))
   (fun c w'=>(o.data m).c3≠0/\c=vj (o.data m)/\Ext w0 w'/\Mod (fun k=>k=er) w w'):=by
 obtain⟨cy,bP,b9,c1,ck,c2,cn,bQ,cB,bX,rfl,ak,h1,U,ag,aJ,eM,ej,ev,ea,ew⟩:=h.form;refine K.Ft mC E.vS (args:=[_,_]) (Nat.le_of_ble_eq_true rfl) ?_;dsimp only[C.vS];refine bG ?_;refine aa ?_;intro av bC cR aB aq;have st1:jt w0 w er bC _ av []:=⟨dQ.trans aB,aB.mod,aq,ay.ext aB,Ac,by have:=ay.lt;omega⟩;clear ay;refine aa ?_;refine K.call (akA _ m.scalars av (ba.ext st1.ext) (ak.ext st1.ext)) ?_;rintro _ aU ⟨rfl,aA⟩;replace st1:=st1.then aA;clear aq;refine aa ?_;refine K.ff (qm (o.scalars m.scalars).2 1 (o.scalars m.scalars).1 0 aU) ?_ ?_;rotate_left
 .rintro c _ ⟨g,rfl,rfl⟩;refine aa ?_;rw[o.Sr g];exact⟨g,rfl,st1.ext,st1.mod⟩
 rintro _ _ ⟨cq,rfl⟩;have aq:=st1.box;refine aa ?_;refine K.dk 24 m.scalars.length [1,2,22,23] (fun _:Unit=>[]) () (fun k _ w'=>jt w0 w er bC _ w' ((m.scalars.take k).map (·.name))) bz bz (st1.iy (by simp)) ?_;clear aq aA st1;rintro k _ S bb hk k8;have aq:=k8.box;have bJ:=k8.ext;refine aa ?_;apply K.cond<;>intro g1
 .have bp:k<m.scalars.length:=by omega
  obtain⟨a,rfl⟩:=ak.addr (by omega);refine aa ?_;intro bq b4 fp aM bA;have ku:=k8.then aM;refine aa ?_;refine K.Im ku.set fun bT hw uG=>?_;refine aa ?_;exact⟨bp,bk,(),trivial,(ku.wr hw uG).iy (o.Bw _ _ bp).symm⟩
 replace k8:=k8.iy (show _=o.q6 m 0 by rw[List.take_of_length_le (by omega)];simp);refine aa ?_;refine K.call (YS _ _ m.vars m.scalars 12 bb (ba.ext bJ) (h1.ext bJ) (ak.ext bJ)) ?_;rintro _ bq ⟨rfl,aM⟩;replace k8:=k8.then aM;clear aq bJ;have aq:=k8.box;rw[o.al2];refine aa ?_;refine K.dk 43 m.vars.length [1,2,4,5,41,42] (fun _:Unit=>[]) () (fun k _ w'=>jt w0 w er bC _ w' (o.q6 m k)/\∀j,j<k->o.iT m j=0) bz bz ⟨k8,fun j h=>absurd h (Nat.not_lt_zero _)⟩ ?_;clear aq k8 aM;rintro k _ bh bT hk ⟨hC,bN⟩;have aq:=hC.box;have b5:=hC.ext;refine aa ?_;apply K.cond<;>intro g1
 .have bp:k<m.vars.length:=by omega
  obtain⟨a,rfl⟩:=h1.addr (by omega);have fG:=o.A7 (f:=fun x:o.Var=>x.name) bp;refine aa ?_;intro BC hv lB mz p2;refine ee ?_;intro bV gh ct;have a8:=gh.ext mz lB;have hf:=hC.then a8;replace aq:=hf.box;clear p2 mz;refine ee ?_;refine K.hl [1,2,4,5,8,9,41,42,43] (fun _:Unit=>[]) (fun _ w'=>w'=bV/\o.nu m k=0) ?_ ?_
  .refine aa ?_;apply K.cond<;>intro g2
   .refine aa ?_;refine K.ff (qm (o.first m.vars.length (o.nu m)).2 2 k 0 bV) ?_ ?_
    .rintro _ _ ⟨gK,rfl⟩;refine aa ?_;exact⟨(),trivial,bk,o.ud gK k bp⟩
    .rintro c _ ⟨gK,rfl,rfl⟩;obtain⟨i,ad,bR,aW⟩:=o.Tg gK;obtain rfl:k=i:=by omega
     rw[aW] at gK;have kk:o.iT m k=o.nu m k:=by unfold o.iT;rw[if_pos gK]
     have bx:=o.GN cq bp bN (by rw[kk];exact gK);rw[kk] at bx;refine aa ?_;rw[bx,aW];exact⟨gK,bk,hf.ext,hf.mod⟩
   .refine aa ?_;refine⟨(),trivial,bk,?_⟩;apply Classical.byContradiction;intro cI;apply g2;rw[o.iF bp (fun j aR=>o.I5 (bN j aR)) cI]
  rintro _ kR _ ⟨rfl,iI⟩;refine aa ?_;refine K.ff (IW er (o.q6 m k) m.vars[k].name 2 k _ hf.set) ?_ ?_
  .rintro _ cc ⟨aE,dx,jC⟩;refine aa ?_;refine⟨bp,bk,(),trivial,(hf.wr dx jC).iy (by simp only[o.q6,o.yN];rw[o.Bw (fun x:o.Var=>x.name) _ bp,List.append_assoc]),fun j aR=>?_⟩;by_cases h3:j=k
   .subst h3;unfold o.iT;rw[if_neg (by simpa using iI),fG,if_neg aE]
   .exact bN j (by omega)
  .rintro c _ ⟨aE,rfl,rfl⟩;have kk:o.iT m k=7:=by unfold o.iT;rw[if_neg (by simpa using iI),fG,if_pos aE]
   have bx:=o.GN cq bp bN (by rw[kk];decide);rw[kk] at bx;refine aa ?_;rw[bx];exact⟨(show(7:Int)≠0 by decide),bk,hf.ext,hf.mod⟩
 have l5:m.vars.length<=k:=by omega
 have nb:∀j,j<m.vars.length->o.iT m j=0:=fun j aR=>bN j (by omega);replace hC:=hC.iy (show _=o.mG m 0 by simp only[o.mG,o.q6,o.yN,o.yM];rw[List.take_of_length_le l5];simp);refine aa ?_;refine K.call (abm _ _ m.aL m.scalars bT (ba.ext b5) (U.ext b5) (ak.ext b5)) ?_;rintro _ bV ⟨rfl,a8⟩;replace hC:=hC.then a8;clear aq b5;have aq:=hC.box;rw[o.abl];refine aa ?_;refine K.dk 71 m.aL.length [1,2,4,5,69,70] (fun _:Unit=>[]) () (fun k _ w'=>jt w0 w er bC _ w' (o.mG m k)/\∀j,j<k->o.jU m j=0) bz bz ⟨hC,fun j h=>absurd h (Nat.not_lt_zero _)⟩ ?_;clear aq hC a8;rintro k _ bh cc hk ⟨iM,bN⟩;have aq:=iM.box;have dz:=iM.ext;refine aa ?_;apply K.cond<;>intro g1
 .have bp:k<m.aL.length:=by omega
  obtain⟨a,rfl⟩:=U.addr (by omega);have fG:=o.A7 (f:=fun x:o.dr=>x.name) bp;refine aa ?_;intro BC hv lB mz p2;refine ee ?_;intro bV gh ct;have a8:=gh.ext mz lB;have hf:=iM.then a8;replace aq:=hf.box;clear p2 mz;refine ee ?_;refine K.hl [1,2,4,5,10,11,69,70,71] (fun _:Unit=>[]) (fun _ w'=>w'=bV/\o.mY m k=0) ?_ ?_
  .refine aa ?_;apply K.cond<;>intro g2
   .refine aa ?_;refine K.ff (qm (o.first m.aL.length (o.mY m)).2 3 k 0 bV) ?_ ?_
    .rintro _ _ ⟨gK,rfl⟩;refine aa ?_;exact⟨(),trivial,bk,o.ud gK k bp⟩
    .rintro c _ ⟨gK,rfl,rfl⟩;obtain⟨i,ad,bR,aW⟩:=o.Tg gK;obtain rfl:k=i:=by omega
     rw[aW] at gK;have kk:o.jU m k=o.mY m k:=by unfold o.jU;rw[if_pos gK]
     have bx:=o.GL cq nb bp bN (by rw[kk];exact gK);rw[kk] at bx;refine aa ?_;rw[bx,aW];exact⟨gK,bk,hf.ext,hf.mod⟩
   .refine aa ?_;refine⟨(),trivial,bk,?_⟩;apply Classical.byContradiction;intro cI;apply g2;rw[o.iF bp (fun j aR=>o.GC (bN j aR)) cI]
  rintro _ kR _ ⟨rfl,iI⟩;refine aa ?_;refine K.ff (IW er (o.mG m k) m.aL[k].name 3 k _ hf.set) ?_ ?_
  .rintro _ cc ⟨aE,dx,jC⟩;refine aa ?_;refine⟨bp,bk,(),trivial,(hf.wr dx jC).iy (by simp only[o.mG,o.yM];rw[o.Bw (fun x:o.dr=>x.name) _ bp,List.append_assoc]),fun j aR=>?_⟩;by_cases h3:j=k
   .subst h3;unfold o.jU;rw[if_neg (by simpa using iI),fG,if_neg aE]
   .exact bN j (by omega)
  .rintro c _ ⟨aE,rfl,rfl⟩;have kk:o.jU m k=7:=by unfold o.jU;rw[if_neg (by simpa using iI),fG,if_pos aE]
   have bx:=o.GL cq nb bp bN (by rw[kk];decide);rw[kk] at bx;refine aa ?_;rw[bx];exact⟨(show(7:Int)≠0 by decide),bk,hf.ext,hf.mod⟩
 have qQ:m.aL.length<=k:=by omega
 refine aa ?_;refine⟨by rw[o.Sp cq nb fun j aR=>bN j (by omega)];rfl,iM.ext,iM.mod,(iM.iy ?_).set⟩;simp only[o.mG,o.yM];rw[List.take_of_length_le qQ,List.take_of_length_le (Nat.le_refl _)]
end Go.Proofs.R
end
section
namespace Go.Proofs.R
open Go Go.RowKit bt
theorem jt.OA{w0 w w' b1:World}{er bC k:Nat}{cs:List Value}{L:List ByteArray}(h:jt w0 w er bC cs w' L)(dm:w0.heap.size<=w.heap.size)(hw:dA k w' b1)(hk:w.heap.size<=k)(h1:bC≠k)(U:er≠k):jt w0 w er bC cs b1 L :=
 ⟨hw.ext h.ext (Nat.le_trans dm hk),h.mod.then (hw.mod (A:=fun j=>j=k) rfl) fun i ad e=>absurd e (by omega),hw.obj h.box h1,h.set.wr hw U,h.low,h.ne⟩
theorem ai8{w0:World}(cs:List Value)(m:o.Model)(er:Nat)(w:World)(h:o.dY w0 cs m)(a1:m.cQ)(dQ:Ext w0 w)(Ac:w0.heap.size<=er)(ba:ht w0)(bx:(o.data m).c3=0)(ay:fF w er (o.mG m m.aL.length)) :
  qt Tryz.prog F.vT #[.agg cs.toArray,.map (some er)] w (fun _ w'=>(o.lO m).c3=0/\Ext w0 w'/\Mod (fun k=>k=er) w w'/\fF w' er (o.iv m m.procs.length))
   (fun c w'=>(o.lO m).c3≠0/\c=vj (o.lO m)/\Ext w0 w'/\Mod (fun k=>k=er) w w'):=by
 have br:=h;obtain⟨cy,bP,b9,c1,ck,c2,cn,bQ,cB,bX,rfl,ak,h1,U,ag,aJ,eM,ej,ev,ea,ew⟩:=h.form;have dm:=dQ.size;refine K.Ft mC E.vT (args:=[_,_]) (Nat.le_of_ble_eq_true rfl) ?_;dsimp only[C.vT];refine bG ?_;refine aa ?_;intro av bC cR aB aq;have st1:jt w0 w er bC _ av (o.mG m m.aL.length):=⟨dQ.trans aB,aB.mod,aq,ay.ext aB,Ac,by have:=ay.lt;omega⟩;have amr:=ay.lt;have gl:=cG aq;clear ay aq;refine aa ?_;refine K.A8 fun aU gn anH aA fq=>?_;replace st1:=st1.then aA;have vd:fF aU gn []:=fF.empty fq;have z0:=aB.size;have z2:=vd.lt;clear fq;refine aa ?_;refine K.aj4 (b:=er) rfl (k:=T.j) (e:=T.p) (by kernel_rfl) st1.set fun bb r n a6 ax pg=>?_;replace st1:=st1.then ax;replace vd:=vd.ext ax;have z4:=aA.size;have z5:=pg.lt;refine aa ?_;refine K.w9 [1,2,4,20] (fun _:List ByteArray×Nat=>[]) ([],n) (fun x w'=>jt w0 w er bC _ w' (o.mG m m.aL.length)/\fF w' gn x.1/\∃cur,mO w' r er (o.mG m m.aL.length) x.1 x.2 cur) (fun x=>x.2) bz ⟨st1,vd,_,pg⟩ ?_;clear st1 vd pg;rintro⟨D,jH⟩ S bq ⟨ku,vd,cur,pg⟩;have aq:=ku.box;refine aa ?_;refine K.aip rfl pg (fun dC=>?_) (fun y bT jm b2 cv e0 UG=>?_);rotate_left
 .have hC:=ku.OA dm e0 (by omega) (by omega) (by omega);have aks:=vd.wr e0 (by omega);refine aa ?_;refine K.aci rfl UG ?_;refine aa ?_;refine K.Im aks fun bV gh akt=>?_;have hf:=hC.OA dm gh (by omega) (by omega) (by omega);have afi:=UG.wr gh (by omega) (by omega);refine aa ?_;exact⟨(D++[y],jm),trivial,⟨hf,akt,_,afi⟩,cv⟩
 have ja:fF bq gn (o.iv m 0):=vd.iy fun x=>by
  have Mi:=pg.sub;simp only[o.iv,o.wQ,List.take_zero,List.map_nil,List.append_nil];exact⟨fun ar=>Mi x ar,fun ar=>dC x ar⟩
 clear vd pg dC;refine aa ?_;refine K.dk 30 m.procs.length [1,2,4,28,29] (fun _:Unit=>[]) () (fun k _ w'=>jt w0 w er bC _ w' (o.mG m m.aL.length)/\fF w' gn (o.iv m k)) bz bz ⟨ku,ja⟩ ?_;clear aq ku ja;rintro k _ bh bT hk ⟨hC,ja⟩;have aq:=hC.box;have b5:=hC.ext;refine aa ?_;apply K.cond<;>intro g1
 .have bp:k<m.procs.length:=by omega
  obtain⟨a,rfl⟩:=ag.addr (by omega);obtain⟨_,cE,dU,aN,eT,dZ⟩:=ag.at k bp;obtain⟨e3,fy,rfl,gi⟩:=eT.form;obtain⟨oE,kz,rfl,lc⟩:=dZ.form;replace aN:=aN.ext b5;refine aa ?_;intro bV l1 jX a8 cU;have hf:=hC.then a8;replace ja:=ja.ext a8;refine aa ?_;refine K.Im ja fun cc dx akx=>?_;have iM:=hf.OA dm dx (by omega) (by omega) (by omega);refine aa ?_;exact⟨bp,bk,(),trivial,iM,by simp only[o.iv,o.wQ];rw[o.Bw (fun x:o.dy=>x.name) _ bp,<-List.append_assoc];exact akx⟩
 have Ya:∀{w'},fF w' gn (o.iv m k)->fF w' gn (o.iv m m.procs.length):=fun h=>h.iy fun x=>by
  simp only[o.iv,o.wQ];rw[List.take_of_length_le (by omega),List.take_of_length_le (Nat.le_refl _)]
 replace ja:=Ya ja;clear Ya;replace hC:=hC.iy (show _=o.iv m 0 by simp[o.iv]);refine aa ?_;refine K.dk 41 m.procs.length [1,2,4,39,40] (fun _:Unit=>[]) () (fun k _ w'=>jt w0 w er bC _ w' (o.iv m k)/\fF w' gn (o.iv m m.procs.length)/\∀j,j<k->(o.hX m j).1=0) bz bz ⟨hC,ja,fun j h=>absurd h (Nat.not_lt_zero _)⟩ ?_;clear aq b5 hC ja;rintro k _ kR bV hk ⟨hf,ja,bN⟩;have aq:=hf.box;have cM:=hf.ext;have BE:=hf.mod.size;refine aa ?_;apply K.cond<;>intro g1
 .have bp:k<m.procs.length:=by omega
  obtain⟨a,rfl⟩:=ag.addr (by omega);obtain⟨nS,cE,dU,aN,eT,dZ⟩:=ag.at k bp;obtain⟨e3,fy,rfl,gi⟩:=eT.form;obtain⟨oE,kz,rfl,lc⟩:=dZ.form;have nQ:=a1.proc _ (List.getElem_mem bp);have ef:=o.Kx bp;replace aN:=aN.ext cM;refine aa ?_;intro BC hv lB mz p2;refine ee ?_;intro cc dx dM;have bM:=dx.ext mz lB;have iM:=hf.then bM;replace ja:=ja.ext bM;replace aq:=iM.box;have ap9:=cG dM;have FJ:=ja.lt;have dz:=iM.ext;clear p2 mz dx;refine aa ?_;apply K.cond<;>intro g2
  .have bS:6<=k:=by omega
   rw[if_pos bS] at ef;have jY:=o.E3 bp bN (by rw[ef];decide);rw[ef] at jY;refine aa ?_;refine K.ff (qm 11 4 k 0 cc) ?_ ?_
   .rintro _ _ ⟨gK,_⟩;exact absurd gK (by decide)
   .rintro c _ ⟨_,rfl,rfl⟩;refine aa ?_;rw[jY];exact⟨(show(11:Int)≠0 by decide),bk,dz,iM.mod⟩
  rw[if_neg (by omega)] at ef;refine aa ?_;intro di bY;replace aq:=bY.obj aq;replace dM:=bY.obj dM;refine aa ?_;refine K.call (Yc _ m k di (br.ext (dz.trans bY)) a1) ?_;rintro _ dX ⟨⟨am6,rfl,HN⟩,cr⟩;refine⟨cr,?_⟩;have k3:=HN.here;obtain⟨lb,FH,j8,kN,j9,kv,n0,y5,nw,y6,rfl,_⟩:=k3.form;refine aa ?_;refine K.call (ai0 m.procs[k] _ _ (o.gM m k) dX (ba.ext (dz.trans (bY.trans cr))) ⟨nS,_,_,rfl,eT.ext (dz.trans (bY.trans cr)),dZ.ext (dz.trans (bY.trans cr))⟩ k3 (a1.gM _) nQ) ?_;rintro _ fw ⟨rfl,dc⟩;have SO:=(bY.trans cr).trans dc;have yV:=iM.then SO;replace ja:=ja.ext SO;replace aq:=yV.box;replace dM:=(cr.trans dc).obj dM;have ap8:=cG dM;have ap6:=ja.lt;clear k3 HN iM dz;have kA:=yV.ext;have eU:=o.Xb m.procs[k] (o.gM m k) 140737488351232 fun c aw=>by have:=(nQ.cmd c aw).b6;unfold o.dK at this;omega
  have agr:m.procs[k].vars.length<=140737488351232:=by have:=nQ.vars;unfold o.dK at this;omega
  have nM:m.procs[k].cH.length<=140737488351232:=by have:=nQ.cH;unfold o.dK at this;omega
  refine aa ?_;refine K.ff (qm (o.ho m.procs[k] (o.gM m k)).2.2 4 k (16*(o.ho m.procs[k] (o.gM m k)).1+(o.ho m.procs[k] (o.gM m k)).2.1) fw) ?_ ?_;rotate_left
  .rintro c _ ⟨gK,rfl,rfl⟩;rw[if_pos gK] at ef;have jY:=o.E3 bp bN (by rw[ef];exact gK);rw[ef] at jY;refine aa ?_;rw[jY];exact⟨gK,bk,kA,yV.mod⟩
  rintro _ nv ⟨gK,rfl⟩;rw[if_neg (by simpa using gK)] at ef;refine aa ?_;refine K.ff (IW er (o.iv m k) m.procs[k].name 4 k nv yV.set) ?_ ?_;rotate_left
  .rintro c _ ⟨aE,rfl,rfl⟩;rw[if_pos aE] at ef;have jY:=o.E3 bp bN (by rw[ef];decide);rw[ef] at jY;refine aa ?_;rw[jY];exact⟨(show(7:Int)≠0 by decide),bk,kA,yV.mod⟩
  rintro _ gw ⟨aE,hA,aga⟩;rw[if_neg aE] at ef;have IP:jt w0 w er bC _ gw (o.iv m (k+1)):=(yV.wr hA aga).iy (by simp only[o.iv,o.wQ];rw[o.Bw (fun x:o.dy=>x.name) _ bp,List.append_assoc]);replace ja:=ja.wr hA (by omega);replace aq:=IP.box;replace dM:=hA.obj dM (by omega);have tW:=IP.ext;have OJ:=hA.size;clear yV kA;refine aa ?_;refine K.dk 74 m.procs[k].vars.length [1,2,4,8,9,39,40,41,72,73] (fun _:Unit=>[]) () (fun j _ w'=>jt w0 w er bC _ w' (o.iv m (k+1))/\fF w' gn (o.iv m m.procs.length)/\Ext gw w'/\∀i,i<j->o.pX m m.procs[k] i=0) bz bz ⟨IP,ja,Ext.refl _,fun j h=>absurd h (Nat.not_lt_zero _)⟩ ?_;have nL:=dM;clear IP ja aq dM tW;rintro j _ JB la aR ⟨IQ,ja,fv,wD⟩;have aq:=IQ.box;have dM:=fv.obj nL;have vX:=IQ.ext;refine aa ?_;apply K.cond<;>intro g3
  .have eL:j<m.procs[k].vars.length:=by omega
   obtain⟨c5,rfl⟩:=eT.addr (by omega);have ei:=((eT.at j eL).cells).ext vX;have fG:=o.A7 (f:=fun x:o.Var=>x.name) eL;refine aa ?_;intro apP amP aeg Uw Li;refine ee ?_;intro pz kp aeq;have jA:=kp.ext Uw aeg;have IS:=IQ.then jA;replace ja:=ja.ext jA;replace aq:=IS.box;clear Li Uw kp;refine aa ?_;refine K.Wy ja ?_;refine aa ?_;apply K.cond<;>intro g4
   .have uv:o.pX m m.procs[k] j=7:=by unfold o.pX;rw[fG,if_pos g4]
    rw[o.iF eL wD (by rw[uv];decide),uv,if_pos (show(7:Int)≠0 by decide)] at ef;have jY:=o.E3 bp bN (by rw[ef];exact(show(7:Int)≠0 by decide));rw[ef] at jY;refine aa ?_;refine K.ff (qm 7 4 k (16+j) pz) ?_ ?_
    .rintro _ _ ⟨x0,_⟩;exact absurd x0 (by decide)
    .rintro c _ ⟨_,rfl,rfl⟩;refine aa ?_;rw[jY];exact⟨(show(7:Int)≠0 by decide),bk,IS.ext,IS.mod⟩
   .refine aa ?_;refine⟨eL,bk,(),trivial,IS,ja,fv.trans jA,fun i ad=>?_⟩;by_cases Am:i=j
    .subst Am;unfold o.pX;rw[fG,if_neg g4]
    .exact wD i (by omega)
  .rw[o.ot fun i ad=>wD i (by omega),if_neg (by simp)] at ef;refine aa ?_;refine⟨bp,bk,(),trivial,IQ,ja,fun i ad=>?_⟩;by_cases An:i=k
   .subst An;rw[ef]
   .exact bN i (by omega)
 have wu:m.procs.length<=k:=by omega
 have x4:∀j,j<m.procs.length->(o.hX m j).1=0:=fun j aR=>bN j (by omega);have Hv:=o.GM bx;have qX:m.procs.length<=6:=by
  apply Classical.byContradiction;intro aE
  have:=o.GS (i:=6) (by omega) (x4 6 (by omega))
  omega
 have s0:o.tF m:=⟨by omega,by omega,by omega,fun p aN=>by
  obtain⟨j,aR,rfl⟩:=List.mem_iff_getElem.1 aN
  have:=o.No (o.zU aR (x4 j aR)).2.1
  omega⟩
 refine aa ?_;refine K.call (ai1 _ m bV (br.ext cM) s0) ?_;rintro _ cc ⟨rfl,bM⟩;have iM:=hf.then bM;replace aq:=iM.box;have p9:=o.Nq x4;have DV:fF cc er (o.iv m m.procs.length):=by
  have h:=iM.set;simp only[o.iv,o.wQ] at h ⊢;rw[List.take_of_length_le wu] at h;rw[List.take_of_length_le (Nat.le_refl _)];exact h
 refine aa ?_;apply K.cond<;>intro g2
 .rw[if_pos (.inl (by omega))] at p9;refine aa ?_;refine K.ff (qm 11 4 m.procs.length 0 cc) ?_ ?_
  .rintro _ _ ⟨x0,_⟩;exact absurd x0 (by decide)
  .rintro c _ ⟨_,rfl,rfl⟩;refine aa ?_;rw[p9];exact⟨(show(11:Int)≠0 by decide),bk,iM.ext,iM.mod⟩
 refine aa ?_;apply K.cond<;>intro g3
 .rw[if_pos (.inr (by omega))] at p9;refine aa ?_;refine K.ff (qm 11 4 m.procs.length 0 cc) ?_ ?_
  .rintro _ _ ⟨x0,_⟩;exact absurd x0 (by decide)
  .rintro c _ ⟨_,rfl,rfl⟩;refine aa ?_;rw[p9];exact⟨(show(11:Int)≠0 by decide),bk,iM.ext,iM.mod⟩
 rw[if_neg (by omega)] at p9;refine aa ?_;exact⟨by rw[p9];rfl,iM.ext,iM.mod,DV⟩
theorem ajc{w0:World}(cs:List Value)(m:o.Model)(er:Nat)(w:World)(h:o.dY w0 cs m)(a1:m.cQ)(dQ:Ext w0 w)(Ac:w0.heap.size<=er)(ba:ht w0)(ay:fF w er (o.iv m m.procs.length)) :
  qt Tryz.prog F.vU #[.agg cs.toArray,.map (some er)] w (fun _ w'=>(o.oF m).c3=0/\Ext w0 w'/\Mod (fun k=>k=er) w w')
   (fun c w'=>(o.oF m).c3≠0/\c=vj (o.oF m)/\Ext w0 w'/\Mod (fun k=>k=er) w w'):=by
 have br:=h;obtain⟨cy,bP,b9,c1,ck,c2,cn,bQ,cB,bX,rfl,ak,h1,U,ag,aJ,eM,ej,ev,ea,ew⟩:=h.form;refine K.Ft mC E.vU (args:=[_,_]) (Nat.le_of_ble_eq_true rfl) ?_;dsimp only[C.vU];refine bG ?_;refine aa ?_;intro av bC cR aB aq;have st1:jt w0 w er bC _ av (o.q5 m 0):=⟨dQ.trans aB,aB.mod,aq,by have:=ay.ext aB;simpa[o.q5] using this,Ac,by have:=ay.lt;omega⟩;have amr:=ay.lt;have z0:=aB.size;clear ay;refine aa ?_;refine K.call (Yc _ m (-1) av (br.ext st1.ext) a1) ?_;rintro _ aU ⟨⟨am4,rfl,ir⟩,aA⟩;rw[o.Iw (.inl (by decide))] at ir;have k3:=ir.here;obtain⟨lb,FH,j8,kN,j9,kv,n0,y5,nw,y6,rfl,_⟩:=k3.form;clear k3;have st2:=st1.then aA;clear aq st1;have gl:=aA.size;refine aa ?_;intro bb cN fN ax bw;have ym:=ir.ext ax gl;have k8:=st2.then ax;have aq:=k8.box;clear ir st2;refine aa ?_;refine K.dk 14 m.props.length [1,2,4,12,13] (fun _:Unit=>[]) () (fun k _ w'=>jt w0 w er bC _ w' (o.q5 m k)/\eF av (fun w=>o.fE w _ (o.eR m)) w'/\w'.heap[cN]? = some (.cells (List.toArray [_,_,_,_,_,_]) T.e)/\av.heap.size<=w'.heap.size/\∀j,j<k->o.mn m j=0) bz bz ⟨k8,ym,bw,by have:=ax.size;omega,fun j h=>absurd h (Nat.not_lt_zero _)⟩ ?_;clear aq k8 ym bw;rintro k _ S bq hk ⟨ku,mD,bw,z4,bN⟩;have aq:=ku.box;have bZ:=ku.ext;refine aa ?_;apply K.cond<;>intro g1
 .have bp:k<m.props.length:=by omega
  obtain⟨a,rfl⟩:=aJ.addr (by omega);obtain⟨nS,hD,aN,hL⟩:=aJ.at k bp;obtain⟨Na,ce,rfl,le⟩:=hL.form;have ef:=o.CK bp;replace aN:=aN.ext bZ;have z5:=ku.mod.size;refine aa ?_;intro BC fl gq mz p2;refine ee ?_;intro bT e0 ct;have aZ:=e0.ext mz gq;have hC:=ku.then aZ;replace mD:=mD.ext aZ z4;replace bw:=aZ.obj bw;replace aq:=hC.box;have b5:=hC.ext;clear p2 mz e0 ku;have bx:o.mn m k≠0->o.oF m=⟨o.mn m k,5,k,0⟩:=o.Xd bp bN;refine aa ?_;apply K.cond<;>intro g2
  .rw[if_pos (by omega)] at ef;rw[ef] at bx;replace bx:=bx (by decide);refine aa ?_;refine K.ff (qm 11 5 k 0 bT) ?_ ?_
   .rintro _ _ ⟨gK,_⟩;exact absurd gK (by decide)
   .rintro c _ ⟨_,rfl,rfl⟩;refine aa ?_;rw[bx];exact⟨(show(11:Int)≠0 by decide),bk,b5,hC.mod⟩
  rw[if_neg (by omega)] at ef;refine aa ?_;refine K.call (Io m.props[k].name bT (ba.ext b5) nS) ?_;rintro _ bV ⟨rfl,a8⟩;have hf:=hC.then a8;replace mD:=mD.ext a8 (by have:=aZ.size;omega);replace bw:=a8.obj bw;replace ct:=a8.obj ct;replace aq:=hf.box;have cM:=hf.ext;clear hC;refine aa ?_;refine K.dp (fun g3=>?_) (fun g3=>?_);rotate_left
  .rw[if_pos g3] at ef;rw[ef] at bx;replace bx:=bx (by decide);refine aa ?_;refine K.ff (qm 6 5 k 0 bV) ?_ ?_
   .rintro _ _ ⟨gK,_⟩;exact absurd gK (by decide)
   .rintro c _ ⟨_,rfl,rfl⟩;refine aa ?_;rw[bx];exact⟨(show(6:Int)≠0 by decide),bk,cM,hf.mod⟩
  rw[if_neg (by rw[g3];decide)] at ef;refine aa ?_;refine K.ff (IW er (o.q5 m k) m.props[k].name 5 k bV hf.set) ?_ ?_;rotate_left
  .rintro c _ ⟨aE,rfl,rfl⟩;rw[if_pos aE] at ef;rw[ef] at bx;replace bx:=bx (by decide);refine aa ?_;rw[bx];exact⟨(show(7:Int)≠0 by decide),bk,hf.ext,hf.mod⟩
  rintro _ cc ⟨aE,dx,jC⟩;rw[if_neg aE] at ef;have iM:jt w0 w er bC _ cc (o.q5 m (k+1)):=(hf.wr dx jC).iy (by simp only[o.q5,o.M1];rw[o.Bw (fun x:o.kQ=>x.name) _ bp,List.append_assoc]);replace mD:=mD.wr dx (by omega);replace bw:=dx.obj bw (by omega);replace ct:=dx.obj ct (by omega);replace aq:=iM.box;have dz:=iM.ext;clear hf cM;refine aa ?_;refine K.call (V7 _ m.props[k].expr _ _ cc (hL.ext dz) mD.here) ?_;rintro _ di ⟨rfl,bY⟩;have Fs:=iM.then bY;have Zf:=dx.size;replace mD:=mD.ext bY (by have:=aZ.size;have:=a8.size;omega);replace bw:=bY.obj bw;replace aq:=Fs.box;have eg:=Fs.ext;clear iM;refine aa ?_;refine K.ff (qm (o.kind m.props[k].expr (o.eR m)).2 5 k 0 di) ?_ ?_;rotate_left
  .rintro c _ ⟨gK,rfl,rfl⟩;rw[if_pos gK] at ef;rw[ef] at bx;replace bx:=bx gK;refine aa ?_;rw[bx];exact⟨gK,bk,eg,Fs.mod⟩
  rintro _ dX ⟨gK,rfl⟩;rw[if_neg (by simpa using gK)] at ef;refine aa ?_;apply K.cond<;>intro g4;rotate_left
  .rw[if_pos g4] at ef;rw[ef] at bx;replace bx:=bx (by decide);refine aa ?_;refine K.ff (qm 9 5 k 0 dX) ?_ ?_
   .rintro _ _ ⟨x0,_⟩;exact absurd x0 (by decide)
   .rintro c _ ⟨_,rfl,rfl⟩;refine aa ?_;rw[bx];exact⟨(show(9:Int)≠0 by decide),bk,eg,Fs.mod⟩
  rw[if_neg (by simpa using g4)] at ef;refine aa ?_;refine⟨bp,bk,(),trivial,Fs,mD,bw,by have:=aZ.size;have:=a8.size;have:=bY.size;omega,fun i ad=>?_⟩;by_cases An:i=k
  .subst An;rw[ef]
  .exact bN i (by omega)
 refine aa ?_;exact⟨by rw[o.Nr fun j aR=>bN j (by omega)];rfl,bZ,ku.mod⟩
end Go.Proofs.R
end
section
namespace bt
open Go Go.RowKit
structure zc where
 n:Nat
 res:List me
 pre:fa
 b7:List Step
 fn:Operand
 rest:fa
def Kl(al:Oper):Option Operand :=
 match al.guard,al.dst,al.op with
 | none,none,.defer ⟨.value x,args,_⟩=>match args.toList with | []=>some x | _=>none
 | _,_,_=>none
def Se(P:Program)(fn:Func):Code->Option zc
 | .seq a (.seq (.region _ ops false) c) =>
  match ops.toList.getLast?.bind Kl,comp P fn.ntmps a,o5 P fn.ntmps ops ops.toList.dropLast,comp P fn.ntmps c,vR P fn.results.toList with
  | some x,some oC,some b7,some lc,some r=>some ⟨fn.ntmps,r,oC,b7,x,lc⟩
  | _,_,_,_,_=>none
 | _=>none
def GG(P:Program)(f:FuncId):Option zc :=
 match P.funcs[f]? with
 | some fn=>match fn.body with | some c=>Se P fn c | none=>none
 | none=>none
def su(P:Program)(f:FuncId)(cap:Array Value)(u:FrameMode)(w:World)(R:World->Prop):Prop :=
 CallsD P f cap u w fun e jL w'=>(∃v,e = .returned v)/\settle jL = .returning/\R w'
def CI(P:Program)(res:List me)(f:FuncId)(cap:Array Value)(R:Value->World->Prop):dW->Fr->World->Prop
 | .normal,S,w=>su P f cap .returning w fun w'=>oJ res S w' fun vs=>R (gG vs) w'
 | .ret,S,w=>su P f cap .returning w fun w'=>oJ res S w' fun vs=>R (gG vs) w'
 | .exit _,_,_=>False
 | .fV c,S,w=>su P f cap (.panicking c) w fun w'=>oJ res S w' fun vs=>R (gG vs) w'
def al6(P:Program)(L:zc)(R:Value->World->Prop)(S:Fr)(w:World):Prop :=
 dU P L.pre (tx (fun S w=>steps P L.b7 S w fun S w => ∃f cap,bo S L.fn = .func (.func f) #[] cap/\okF P f=true/\dU P L.rest (CI P L.res f cap R) S w) (fun _ _ _=>False)) S w
theorem abR{al:Oper}{x:Operand}(h:Kl al=some x):∃ty pos after mJ,al=⟨none,.defer ⟨.value x,#[],mJ⟩,ty,pos,after,none⟩:=by
 obtain⟨dst,op,ty,pos,after,guard⟩:=al;unfold Kl at h;split at h
 .rename_i h1 U ag;simp only at h1 U ag;split at h
  .rename_i aJ;injection h with h
   have bg:=Array.toList_eq_nil_iff.1 aJ;subst h1 U ag h bg;exact⟨_,_,_,_,rfl⟩
  .cases h
 .cases h
theorem acj{P:Program}{f:FuncId}{L:zc}(hm:P.follows .mixedOrders=true)(aw:GG P f=some L){args:List Value}{w:World}{R:Value->World->Prop}(bj:args.length<=L.n)
  (h:al6 P L R (hY args 0) w):bu P f args.toArray w R:=by
 unfold GG at aw;split at aw
 .rename_i fn kl;split at aw
  .rename_i c aC;unfold Se at aw;split at aw
   .rename_i a id ops mW;split at aw
    .rename_i x oC b7 lc r h1 U ag aJ bg;injection aw with aw;subst aw
     obtain⟨al,ba,ar⟩:=Option.bind_eq_some_iff.1 h1;obtain⟨ty,pos,after,mJ,rfl⟩:=abR ar;have afv:ops.toList=ops.toList.dropLast++[⟨none,.defer ⟨.value x,#[],mJ⟩,ty,pos,after,none⟩]:=by
      have cI:ops.toList≠[]:=by intro e;rw[e] at ba;cases ba
      rw[List.getLast?_eq_some_getLast cI] at ba;injection ba with ba
      rw[<-ba,List.dropLast_concat_getLast cI]
     have fin:∀(g:FuncId) (cap:Array Value) (S:Fr) (c5:Act) (w':World) (u:FrameMode),u≠.run->okF P g=true->Fits [{ target:=.fn (.func g) cap,args:=#[] }] c5 S fn.ntmps->su P g cap u w' (fun w'=>oJ r S w' fun vs=>R (gG vs) w') ->
       Leaves P fn c5.tmps (fun e w' => ∃v,e = .returned v/\R v w') c5.defers u w':=by
      intro g cap S c5 w' u hu dq aK aS;rw[aK.1];refine leaves_cons hu (f:=g) (args:=cap) (by simp[invoke,Fh dq]) (CallsD.mono aS ?_);rintro e jL b1 ⟨⟨v,rfl⟩,ay,a6⟩;simp only[ay];obtain⟨vs,bS,cj⟩:=rh aK _ _ _ bg a6;exact⟨_,va bS,_,rfl,cj⟩
     refine calls_of_wp_defers kl aC ((wpIn_wide (n:=0)).1 ?_);refine wpIn_seq (wpIn_mono (sound (ds:=[]) (r:=none) (m:=0) hm a oC U _ _ (hY args 0) w (KJ bj) h) fun e c5 w' aD=>?_);cases e with
     | normal =>
      obtain⟨S,aK,aD⟩:=aD;refine wpIn_seq (wpIn_region_list ?_);rw[afv];refine w5 (r:=none) (tl:=[_]) ?_ ?_ _ b7 c5 S w' ag aK aD
      .rintro a2 kR aU mB ⟨g,cap,he,dq,aT⟩;have hw:Region.wanted (⟨none,.defer ⟨.value x,#[],mJ⟩,ty,pos,after,none⟩:Oper) (yielded ops a2.tmps)=true:=rfl;simp only[wpListIn,hw,if_true];have hn:∀ρ:Operand->Value,ρ x = .func (.func g) #[] cap->((⟨none,.defer ⟨.value x,#[],mJ⟩,ty,pos,after,none⟩:Oper).semAt none ρ).run P aU = .ok (.defer { target:=.fn (.func g) cap,args:=#[] }) aU:=by
        intro ρ agH;simp[Oper.semAt,execOp,resolve,Deferred.ofValue,agH,go_sem]
       refine⟨fun _ _=>trivial,?_⟩;rw[show(mM none).round=none from rfl,hn a2.eval (by rw[mB.eval];exact he)];have ae4:Fits [{ target:=.fn (.func g) cap,args:=#[] }] ({ a2 with defers:={ target:=.fn (.func g) cap,args:=#[] } :: a2.defers }:Act) kR fn.ntmps:=⟨by rw[mB.1],mB.2⟩;refine wpIn_mono (sound (ds:=[{ target:=.fn (.func g) cap,args:=#[] }]) (r:=none) (m:=0) hm mW lc aJ _ _ kR aU ae4 aT) fun e a4 bq aD=>?_;cases e with
       | normal=>obtain⟨rB,pd,aD⟩:=aD;exact fin g cap rB a4 bq .returning (by simp) dq pd aD
       | ret=>obtain⟨rB,pd,aD⟩:=aD;exact fin g cap rB a4 bq .returning (by simp) dq pd aD
       | exit i=>obtain⟨rB,pd,aD⟩:=aD;exact aD.elim
       | panic J4=>obtain⟨rB,pd,aD⟩:=aD;exact fin g cap rB a4 bq (.panicking J4) (by simp) dq pd aD
       | _=>exact aD.elim
      .rintro⟨_,_,ar⟩;obtain⟨_,h1,_⟩:=ar;cases h1
     | ret=>obtain⟨S,aK,aD⟩:=aD;exact aD.elim
     | exit i=>obtain⟨S,aK,aD⟩:=aD;exact aD.elim
     | panic J4=>obtain⟨S,aK,aD⟩:=aD;exact aD.elim
     | _=>exact aD.elim
    .cases aw
   .cases aw
  .cases aw
 .cases aw
structure BX where
 n:Nat
 res:List me
 d:Nat
 e:Nat
 rest:fa
def NL(al:Oper):Option Nat :=
 match al.guard,al.op,al.dst with
 | none,.call ⟨.builtin .recover,args,_⟩,some d=>match args.toList with | []=>some d | _=>none
 | _,_,_=>none
def JM(al:Oper):Option (Nat×Nat) :=
 match al.guard,al.op,al.dst with
 | none,.assign (.tmp d),some e=>some (d,e)
 | _,_,_=>none
def Sf(P:Program)(fn:Func):Code->Option BX
 | .seq (.region _ ops false) c =>
  match ops.toList with
  | [b9,ck]=>match NL b9,JM ck,comp P fn.ntmps c,vR P fn.results.toList with
   | some d,some (tT,e),some lc,some r=>if d=tT/\d<fn.ntmps/\e<fn.ntmps then some ⟨fn.ntmps,r,d,e,lc⟩ else none
   | _,_,_,_=>none
  | _=>none
 | _=>none
def GH(P:Program)(f:FuncId):Option BX :=
 match P.funcs[f]? with
 | some fn=>match fn.body with | some c=>Sf P fn c | none=>none
 | none=>none
def oH:FrameMode->Value×FrameMode
 | .panicking ({ v,recovered:=false,goexit:=false } :: aiy)=>(v,.panicking ({ v,recovered:=true } :: aiy))
 | u=>(.nilIface,u)
theorem ajI(c:Frame)(cs:List Frame):(match recoverD (c :: cs) with | some (v,iD)=>(v,iD) | none=>(.nilIface,c :: cs))=((oH c.mode).1,{ c with mode:=(oH c.mode).2 } :: cs):=by
 obtain⟨fn,tmps,todo,defers,mode,kind,ro⟩:=c;unfold recoverD oH;cases mode with
 | run=>rfl
 | returning=>rfl
 | panicking l =>
  cases l with
  | nil=>rfl
  | cons p r =>
   obtain⟨v,rc,ge⟩:=p;cases rc<;>cases ge<;>rfl
theorem ajG{al:Oper}{d:Nat}(h:NL al=some d):∃mJ ty pos after,al=⟨some d,.call ⟨.builtin .recover,#[],mJ⟩,ty,pos,after,none⟩:=by
 obtain⟨dst,op,ty,pos,after,guard⟩:=al;unfold NL at h;split at h
 .rename_i h1 U ag;simp only at h1 U ag;split at h
  .rename_i aJ;injection h with h
   have bg:=Array.toList_eq_nil_iff.1 aJ;subst h1 U ag h bg;exact⟨_,_,_,_,rfl⟩
  .cases h
 .cases h
theorem aab{al:Oper}{d e:Nat}(h:JM al=some (d,e)):∃ty pos after,al=⟨some e,.assign (.tmp d),ty,pos,after,none⟩:=by
 obtain⟨dst,op,ty,pos,after,guard⟩:=al;unfold JM at h;split at h
 .rename_i h1 U ag;simp only at h1 U ag;injection h with h
  injection h with bg bS
  subst h1 U ag bg bS;exact⟨_,_,_,rfl⟩
 .cases h
theorem ack{P:Program}{f:FuncId}{L:BX}(hm:P.follows .mixedOrders=true)(aw:GH P f=some L){args:List Value}{u:FrameMode}{w:World}{R:Value->World->Prop}(bj:args.length<=L.n)
  (h:dU P L.rest (CH L.res R) (cm (cm (hY args 0) L.d (oH u).1) L.e (oH u).1) w):CallsD P f args.toArray u w fun e jL w'=>jL=(oH u).2/\∃v,e = .returned v/\R v w':=by
 unfold GH at aw;split at aw
 .rename_i fn kl;split at aw
  .rename_i c aC;unfold Sf at aw;split at aw
   .rename_i id ops mW;split at aw
    .rename_i b9 ck DP;split at aw
     .rename_i d tT e lc r h1 U ag aJ;split at aw
      .rename_i aeU;obtain⟨aeT,bx,he⟩:=aeU;subst aeT;injection aw with aw;subst aw
       obtain⟨mJ,alP,ai6,ZX,rfl⟩:=ajG h1;obtain⟨alQ,ai7,ZY,rfl⟩:=aab U;refine callsD_of_wpS kl aC fun zS cs hu=>?_;refine wpS_seq (wpS_region ?_);have dm:ops.size=2:=by rw[<-Array.length_toList,DP];rfl
       have HD:ops[0]? = ops.toList[0]? := by simp
       have LJ:ops[1]? = ops.toList[1]? := by simp
       rw[DP] at HD LJ;simp only[List.getElem?_cons_zero,List.getElem?_cons_succ] at HD LJ;have a6:List.range ops.size=[0,1]:=by rw[dm];rfl
       rw[a6];have af6:∀(ρ:Operand->Value),(execOp ρ ⟨some d,.call ⟨.builtin .recover,#[],mJ⟩,alP,ai6,ZX,none⟩).run P w = .ok .recover w:=by
        intro ρ;simp[execOp,resolve,invoke,builtin,go_sem]
       have HW:∀(dst:Option Nat) (op:Op) (ty:TypeId) (pos:String) (after:Array Edge) (y:Nat->Option Bool),Region.wanted (⟨dst,op,ty,pos,after,none⟩:Oper) y=true:=fun _ _ _ _ _ _=>rfl;have ae3:=KJ (n:=fn.ntmps) bj;have key:∀(v:Value) (iD:List Frame),dU P lc (CH r R) (cm (cm (hY args 0) d v) e v) w->(iD = { zS with mode:=(oH u).2 } :: cs) ->
         wpOpsS P ops (Exit.thenS (mW.wpS P (bodyPostS P fn zS cs fun e jL w'=>jL=(oH u).2/\∃v,e = .returned v/\R v w')) (bodyPostS P fn zS cs fun e jL w'=>jL=(oH u).2/\∃v,e = .returned v/\R v w')) [1]
          (({ tmps:=args.toArray++Array.replicate (fn.ntmps - args.toArray.size) undef,defers:=[] }:Act).put (some d) v) iD w:=by
        intro v iD aT gA;have yf:=ae3.put (d:=some d) (by simpa[vV] using bx) v;have ar:(execOp (({ tmps:=args.toArray++Array.replicate (fn.ntmps - args.toArray.size) undef,defers:=[] }:Act).put (some d) v).eval ⟨some e,.assign (.tmp d),alQ,ai7,ZY,none⟩).run P w = .ok (.value v) w:=by
         rw[yf.eval];simp[execOp,bo,bt.put,cm]
        simp only[wpOpsS,LJ,HW,if_true,ar];rw[Oper.upon_value];have mB:=yf.put (d:=some e) (by simpa[vV] using he) v;refine wpS_of_wp ((wpIn_wide (n:=0)).1 (wpIn_mono (sound (ds:=[]) (r:=none) (m:=0) hm mW lc ag _ _ _ w mB aT) fun x a4 bq aD=>?_));cases x with
        | normal =>
         obtain⟨rB,pd,aD⟩:=aD;obtain⟨vs,bS,cj⟩:=rh pd _ _ _ aJ aD;exact⟨pd.1,_,gA,_,va bS,rfl,_,rfl,cj⟩
        | ret =>
         obtain⟨rB,pd,aD⟩:=aD;obtain⟨vs,bS,cj⟩:=rh pd _ _ _ aJ aD;exact⟨pd.1,_,gA,_,va bS,rfl,_,rfl,cj⟩
        | exit i=>obtain⟨rB,pd,aD⟩:=aD;exact aD.elim
        | panic J4=>obtain⟨rB,pd,aD⟩:=aD;exact aD.elim
        | _=>exact aD.elim
       have qa:=ajI zS cs;rw[hu] at qa;unfold wpOpsS;simp only[HD,HW,if_true,af6];cases HP:recoverD (zS :: cs) with
       | none =>
        rw[HP] at qa;injection qa with bR aW
        exact key .nilIface (zS :: cs) (by rw[bR];exact h) aW
       | some al5 =>
        obtain⟨v,iD⟩:=al5;rw[HP] at qa;injection qa with bR aW
        exact key v iD (by rw[bR];exact h) aW
      .cases aw
     .cases aw
    .cases aw
   .cases aw
  .cases aw
 .cases aw
end bt
namespace bt
open Go Go.RowKit
def Jk(P:Program)(v:Value)(K:FuncId->Array Value->Prop):Prop := ∃f cap,v = .func (.func f) #[] cap/\okF P f=true/\K f cap
section
variable{P:Program}{S:Fr}{w:World}{res:List me}{R:Value->World->Prop}
theorem K.alk{f:FuncId}{L:zc}(hm:P.follows .mixedOrders=true)(aw:GG P f=some L){args:List Value}(bj:args.length<=L.n)
  (h:dV P L.pre (hr (fun S w=>jK P L.b7 S w (fun S w=>Jk P (bo S L.fn) fun g cap=>dV P L.rest (CI P L.res g cap R) S w ⟨⟩) ⟨⟩) (fun _ _ _=>False) ⟨⟩) (hY args 0) w ⟨⟩):bu P f args.toArray w R:=by
 refine acj hm aw bj ?_;unfold dV hr jK Jk at h;exact h
theorem K.defer{g:FuncId}{cap:Array Value}{K:FuncId->Array Value->Prop}(dq:okF P g=true)(h:K g cap):Jk P (.func (.func g) #[] cap) K:=⟨g,cap,rfl,dq,h⟩
theorem K.abZ{g:FuncId}{cap:Array Value}(h:su P g cap .returning w fun w'=>iz res S w' (fun vs=>R (gG vs) w') ⟨⟩):CI P res g cap R .ret S w:=by
 unfold iz at h;exact h
theorem K.abY{g:FuncId}{cap:Array Value}{c:List PanicEntry}(h:su P g cap (.panicking c) w fun w'=>iz res S w' (fun vs=>R (gG vs) w') ⟨⟩):CI P res g cap R (.fV c) S w:=by
 unfold iz at h;exact h
theorem su.of{g:FuncId}{cap:Array Value}{u vk:FrameMode}{B1 B2:World->Prop}(h:CallsD P g cap u w fun e jL w'=>jL=vk/\∃v,e = .returned v/\B1 w')(ay:settle vk = .returning)(hk:∀w',B1 w'->B2 w'):su P g cap u w B2 :=
 CallsD.mono h fun e jL w' ⟨h1,v,U,ag⟩=>⟨⟨v,U⟩,by rw[h1];exact ay,hk _ ag⟩
theorem K.Yw{f:FuncId}{L:BX}(hm:P.follows .mixedOrders=true)(aw:GH P f=some L){args:List Value}{u:FrameMode}(bj:args.length<=L.n)
  (h:dV P L.rest (rM L.res R ⟨⟩) (cm (cm (hY args 0) L.d (oH u).1) L.e (oH u).1) w ⟨⟩):CallsD P f args.toArray u w fun e jL w'=>jL=(oH u).2/\∃v,e = .returned v/\R v w':=by
 refine ack hm aw bj ?_;unfold dV rM at h;exact h
theorem X2(d:Nat){t:TypeId}{ms:Array (String×TypeId)}(h:P.underlying t=some (.interface ms))(w:World):(Op.equalIn (d+1) t .nilIface .nilIface).run P w = .ok true w/\∀T v,(Op.equalIn (d+1) t (.iface T v) .nilIface).run P w = .ok false w:=by
 constructor
 .simp[Op.equalIn,run_underlying h]
 .intro T v;simp[Op.equalIn,run_underlying h]
theorem VE{t:TypeId}(h:(P.underlying t).map wG=some true):∃ms,P.underlying t=some (.interface ms):=by
 obtain⟨d,bx,ad⟩:=Option.map_eq_some_iff.1 h;cases d<;>first | exact⟨_,bx⟩ | (simp[wG] at ad;done)
theorem K.aib{hg:TypeId}{x:Operand}{v:Value}{aI:Value->Prop}{t}(h:(P.underlying hg).map wG=some true)(hk:aI (.bool false)):gH P .neq hg x (.const v) .nilIface .nilIface aI t :=
 K.bin (v:=.bool false) (fun w=>by
  obtain⟨ms,h⟩:=VE h;have h1:=(X2 9999 h w).1;have U:(Op.equalIn Op.maxDepth hg .nilIface .nilIface).run P w = .ok true w:=h1;cases x<;>simp[eqGuard,binOp,Op.equal,go_sem,U,Result.andThen]) hk
theorem K.aic{hg T:TypeId}{x y:Operand}{v:Value}{aI:Value->Prop}{t}(h:(P.underlying hg).map wG=some true)(hk:aI (.bool true)):gH P .neq hg x y (.iface T v) .nilIface aI t :=
 K.bin (v:=.bool true) (fun w=>by
  obtain⟨ms,h⟩:=VE h;have U:(Op.equalIn Op.maxDepth hg (.iface T v) .nilIface).run P w = .ok false w:=(X2 9999 h w).2 T v;simp[eqGuard,binOp,Op.equal,go_sem,U,Result.andThen]) hk
theorem K.aac{x:Operand}{Za T ty:TypeId}{v:Value}{c9:Value->World->Prop}{t}(ar:bo S x = .iface T v)(h:(P.underlying T).map wG=some false)(hk:c9 (.tuple #[v,.bool true]) w):tI P (.typeAssert x Za T true) ty S w c9 t:=by
 refine K.raw (v:=.tuple #[v,.bool true]) (w':=w) ?_ hk;obtain⟨d,bx,ad⟩:=Option.map_eq_some_iff.1 h;have h1:(Instr.typeAssert (.iface T v) Za T true).run P w = .ok (.tuple #[v,.bool true]) w:=by
  cases d<;>first | (simp[wG] at ad;done) | (simp[Instr.typeAssert,run_underlying bx])
 simp[execOp,ar,h1,Result.andThen]
end
end bt
end
section
namespace Go.Proofs.R
open Go bt Go.Proofs
abbrev F.t:FuncId:=75
def Pq.h:zc:=⟨16,[.ie 4 2], (.bO [aG 1 (.box T.b (ab 0)),aG 2 (.new T.w (.agg #[au,au,au,au]))]),
 [bc 4 (.jG F.t [] [(ab 2)])],(ab 4), (J [aG 5 .r8,I 3 5] (.seq (.ff [bd 6 5 1,I 7 3] (some 8) F.vS [(ab 6),(ab 7)]) (.seq (.ff [bd 9 5 1,I 10 3] (some 11) F.vT [(ab 9),(ab 10)]) (.seq (.ff [bd 12 5 1,I 13 3] (some 14) F.vU [(ab 12),(ab 13)]) (J [bc 15 (.cW [au,au,au,au] [(0,1),(1,1),(2,1),(3,1)] []),cg 4 2 15] .ret)))))⟩
theorem Zn.h:GG Tryz.prog F.h=some Pq.h:=by kernel_rfl
def Jj.t:BX:=⟨17,[],4,1, (J [I 5 1,bc 6 (.bin .neq T.o0 (ab 5) (.const .nilIface))] (aF 6 (J [I 8 1,aG 9 (.raw (.typeAssert (ab 8) T.o0 T.ap true) T.a3),I 7 9,bD 10 7 0,bD 11 7 1,aG 2 (.new T.ap (.agg #[au,au,au,au])),cg 4 2 10,I 3 11] (.seq (J [I 12 3,bc 13 (.un .not (ab 12))] (aF 13 (.ra [I 14 1] (ab 14)) .skip)) (.bO [ah 15 0 2,bd 16 4 15,cg 4 0 16]))) .skip))⟩
theorem Ps.t:GH Tryz.prog F.t=some Jj.t:=by kernel_rfl
end Go.Proofs.R
end