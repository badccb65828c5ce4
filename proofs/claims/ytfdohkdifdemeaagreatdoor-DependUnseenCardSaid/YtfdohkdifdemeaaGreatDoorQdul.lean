/- Parts. -/
import Derived.Test.YtfdohkdifdemeaaGreatDoorQduk
import Derived.Maps.RangeRun
import Derived.Defers
import Derived.Recover
set_option linter.all false
set_option maxRecDepth 100000
set_option maxHeartbeats 16000000
section
namespace Go.Proofs.R
open Go Go.RowKit bt
theorem Bf(ht:Value)(e:List o.Node)(k:Int)(cs:List Value)(s:o.Scope)(w:World)(aD:o.fW w ht e)(h:o.fC w cs s) :
  bu Tryz.prog F.uO #[ht,.int .i64 k,.agg cs.toArray] w fun v w'=>v = .int .i64 (o.asked e k s)/\Ext w w':=by
 obtain⟨a0,bS,dD,c1,a2,c2,a3,bP,a4,bX,rfl,_⟩:=h.form;obtain⟨bl,cap,rfl,_⟩:=aD.form;refine bL E.uO ?_;refine bG ?_;refine aa ?_;intro av bC cR aB ao;refine aa ?_;refine K.call (Xy _ e _ s av (aD.ext aB) (h.ext aB)) ?_;rintro _ aU ⟨rfl,aA⟩;rw[o.asked];refine aa ?_;apply K.cond<;>intro g1;rotate_left
 .refine aa ?_;exact⟨by rw[if_pos g1],aB.trans aA⟩
 rw[if_neg (by simpa using g1)];refine aa ?_;apply K.cond<;>intro g2;rotate_left
 .refine aa ?_;exact⟨by rw[if_pos g2],aB.trans aA⟩
 .refine aa ?_;exact⟨by rw[if_neg (by simpa using g2)],aB.trans aA⟩
theorem H5(n:Int)(w:World)(h:0<=n/\n<=4611686018427387904):bu Tryz.prog F.rX #[.int .i64 n] w fun v w'=>v = .int .i64 (if n=0 then 0 else 1+n)/\w'=w:=H4 n w h
theorem Nc(v:Value)(l:List o.Var)(n:Int)(cs:List Value)(s:o.Scope)(w:World)(aS:o.hh w v l)(h:o.fC w cs s) :
  bu Tryz.prog F.AM #[v,.int .i64 n,.agg cs.toArray] w fun v w'=>v = .tuple #[.int .i64 (o.kD l n s).1,.int .i64 (o.kD l n s).2]/\Ext w w':=by
 obtain⟨a0,bS,dD,c1,a2,c2,a3,bP,a4,bX,rfl,_,_,_,_,_,eI,ej,eo,dX,ep⟩:=h.form;obtain⟨bl,cap,rfl,_⟩:=aS.form;refine bL E.AM ?_;refine bG ?_;refine aa ?_;intro av bC cR aB ao;refine aa ?_;refine K.call (E8 _ l n _ s av (aS.ext aB) (h.ext aB)) ?_;rintro u aU ⟨⟨x,hu,au⟩,aA⟩;cases hk:(o.fP l n s).2.2 with
 | false =>
  rw[hk] at hu;subst hu;refine aa ?_;intro bb b5 fo ax bz;refine aa ?_;exact⟨by rw[o.kD,o.Sl hk],(aB.trans aA).trans ax⟩
 | true =>
  rw[hk] at hu;subst hu;obtain⟨bw,eO,fz,gb,gA⟩:=o.Sn hk (au hk);have gY:o.kD l n s=if x.over≠0 then (0,9) else ((if x.scalar=0 then 0 else 1+x.scalar),0):=by unfold o.kD;rw[bw]
  refine aa ?_;intro bb b5 fo ax bz;refine aa ?_;apply K.cond<;>intro g1
  .rw[if_neg (by simpa using g1)] at gY;refine aa ?_;refine K.call (H5 _ bb ⟨eO,by omega⟩) ?_;rintro _ _ ⟨rfl,rfl⟩;refine aa ?_;exact⟨by rw[gY],(aB.trans aA).trans ax⟩
  .rw[if_pos g1] at gY;refine aa ?_;exact⟨by rw[gY],(aB.trans aA).trans ax⟩
theorem agV(a:o.Act)(cy cE:Value)(cs:List Value)(s:o.Scope)(w:World)(ad:o.fW w cy a.index)(aT:o.fW w cE a.value)(h:o.fC w cs s) :
  bu Tryz.prog F.Ek #[.agg (a.enc cy cE).toArray,.agg cs.toArray] w fun v w'=>v = .int .i64 (o.yn a s)/\Ext w w':=by
 obtain⟨a0,bS,dD,c1,a2,c2,a3,bP,a4,bX,rfl,_,Mh,_,_,_,eI,ej,eo,dX,ep⟩:=h.form;obtain⟨_,_,rfl,_⟩:=ad.form;obtain⟨_,_,rfl,_⟩:=aT.form;refine bL E.Ek ?_;refine bG ?_;refine aa ?_;intro av bC cR aB ao;refine aa ?_;intro aU cr dQ aA aP;replace ao:=aA.obj ao;have c9:∀{w'},Ext aU w'->Ext w w':=fun e=>(aB.trans aA).trans e;refine aa ?_;refine K.call (E8 _ s.vars a.to _ s aU (Mh.ext (c9 (Ext.refl _))) (h.ext (c9 (Ext.refl _)))) ?_;rintro u bb ⟨⟨x,hu,au⟩,ax⟩;replace ao:=ax.obj ao;replace aP:=ax.obj aP;cases hk:(o.fP s.vars a.to s).2.2 with
 | false =>
  rw[hk] at hu;subst hu;refine aa ?_;intro bp cM fM aN bA;refine aa ?_;exact⟨by rw[o.yn,o.Sl hk],c9 (ax.trans aN)⟩
 | true =>
  rw[hk] at hu;subst hu;obtain⟨bw,eO,fz,gb,gA⟩:=o.Sn hk (au hk);have gY:o.yn a s=if x.over=0 then 9 else if o.asked a.index (1+x.over) s≠0 then o.asked a.index (1+x.over) s else o.asked a.value (if x.scalar=0 then 0 else 1+x.scalar) s:=by unfold o.yn;rw[bw]
  refine aa ?_;intro bp cM fM aN bA;replace ao:=aN.obj ao;replace aP:=aN.obj aP;have et:∀{w'},Ext bp w'->Ext w w':=fun e=>c9 ((ax.trans aN).trans e);refine aa ?_;apply K.cond<;>intro g1
  .rw[if_pos g1] at gY;refine aa ?_;exact⟨by rw[gY],et (Ext.refl _)⟩
  rw[if_neg g1] at gY;refine aa ?_;refine K.call (Bf _ a.index (1+x.over) _ s bp (ad.ext (et (Ext.refl _))) (h.ext (et (Ext.refl _)))) ?_;rintro _ bR ⟨rfl,aW⟩;replace ao:=aW.obj ao;replace aP:=aW.obj aP;replace bA:=aW.obj bA;have hS:∀{w'},Ext bR w'->Ext w w':=fun e=>et (aW.trans e);refine aa ?_;apply K.cond<;>intro g2;rotate_left
  .rw[if_pos g2] at gY;refine aa ?_;exact⟨by rw[gY],hS (Ext.refl _)⟩
  rw[if_neg (by simpa using g2)] at gY;refine aa ?_;refine K.gB (.int .i64 (if x.scalar=0 then 0 else 1+x.scalar)) (fun w' e=>(H5 _ w' ⟨eO,by omega⟩).mono fun v b2 dm=>⟨dm.1,by rw[dm.2];exact Ext.refl _⟩) ?_;refine aa ?_;refine K.gB (.int .i64 (o.yn a s)) (fun w' e=>by rw[gY];exact Bf _ a.value _ _ s w' (aT.ext (hS e)) (h.ext (hS e))) ?_;refine aa ?_;intro bY a8;refine aa ?_;exact⟨bk,hS a8⟩
theorem Xs(a:o.Act)(comm:Bool)(cy cE:Value)(cs:List Value)(s:o.Scope)(w:World)(ad:o.fW w cy a.index)(aT:o.fW w cE a.value)(h:o.fC w cs s) :
  bu Tryz.prog F.Ej #[.agg (a.enc cy cE).toArray,.agg cs.toArray,.bool comm] w fun v w'=>v = .int .i64 (o.kF a s comm)/\Ext w w':=by
 obtain⟨a0,bS,dD,c1,a2,c2,a3,bP,a4,bX,rfl,_,Mh,_,_,kA,eI,ej,eo,dX,ep⟩:=h.form;obtain⟨_,_,rfl,_⟩:=ad.form;obtain⟨_,_,rfl,_⟩:=aT.form;refine bL E.Ej ?_;refine bG ?_;refine aa ?_;intro av bC cR aB ao;refine aa ?_;intro aU cr dQ aA aP;replace ao:=aA.obj ao;have c9:∀{w'},Ext aU w'->Ext w w':=fun e=>(aB.trans aA).trans e;refine aa ?_;apply K.cond<;>intro g1
 .refine aa ?_;exact⟨by rw[o.kF,if_pos (.inl g1)],c9 (Ext.refl _)⟩
 refine aa ?_;apply K.cond<;>intro g2
 .refine aa ?_;exact⟨by rw[o.kF,if_pos (.inr g2)],c9 (Ext.refl _)⟩
 have qH:¬(a.kind<1\/5<a.kind):=by omega
 refine aa ?_;apply K.cond<;>intro g3
 .refine aa ?_;refine K.call (agV a _ _ _ s aU (ad.ext (c9 (Ext.refl _))) (aT.ext (c9 (Ext.refl _))) (h.ext (c9 (Ext.refl _)))) ?_;rintro _ bb ⟨rfl,ax⟩;refine aa ?_;exact⟨by rw[o.kF,if_neg qH,if_pos g3],c9 ax⟩
 refine aa ?_;apply K.cond<;>intro g4
 .have ba:o.kF a s comm=if (o.kD s.vars a.to s).2≠0 then (o.kD s.vars a.to s).2 else o.asked a.value (o.kD s.vars a.to s).1 s:=by
   rw[o.kF,if_neg qH,if_neg g3,if_pos (.inl g4)];simp only[if_neg (by omega:¬a.kind=3)]
  refine aa ?_;refine K.call (Nc _ s.vars a.to _ s aU (Mh.ext (c9 (Ext.refl _))) (h.ext (c9 (Ext.refl _)))) ?_;rintro _ bb ⟨rfl,ax⟩;replace ao:=ax.obj ao;replace aP:=ax.obj aP;refine aa ?_;apply K.cond<;>intro g5;rotate_left
  .rw[if_pos g5] at ba;refine aa ?_;exact⟨by rw[ba],c9 ax⟩
  rw[if_neg (by simpa using g5)] at ba;refine aa ?_;refine K.call (Bf _ a.value _ _ s bb (aT.ext (c9 ax)) (h.ext (c9 ax))) ?_;rintro _ bp ⟨rfl,aN⟩;refine aa ?_;exact⟨by rw[ba],c9 (ax.trans aN)⟩
 refine aa ?_;apply K.cond<;>intro g5
 .have ba:o.kF a s comm=if (o.kD s.locals a.to s).2≠0 then (o.kD s.locals a.to s).2 else o.asked a.value (o.kD s.locals a.to s).1 s:=by
   rw[o.kF,if_neg qH,if_neg g3,if_pos (.inr g5)];simp only[if_pos g5]
  refine aa ?_;refine K.call (Nc _ s.locals a.to _ s aU (kA.ext (c9 (Ext.refl _))) (h.ext (c9 (Ext.refl _)))) ?_;rintro _ bb ⟨rfl,ax⟩;replace ao:=ax.obj ao;replace aP:=ax.obj aP;refine aa ?_;apply K.cond<;>intro g5;rotate_left
  .rw[if_pos g5] at ba;refine aa ?_;exact⟨by rw[ba],c9 ax⟩
  rw[if_neg (by simpa using g5)] at ba;refine aa ?_;refine K.call (Bf _ a.value _ _ s bb (aT.ext (c9 ax)) (h.ext (c9 ax))) ?_;rintro _ bp ⟨rfl,aN⟩;refine aa ?_;exact⟨by rw[ba],c9 (ax.trans aN)⟩
 have CS:¬(a.kind=1\/a.kind=3):=by omega
 refine aa ?_;refine K.du (fun g6=>?_) (fun g6=>?_)
 .refine aa ?_;exact⟨by rw[o.kF,if_neg qH,if_neg g3,if_neg CS,if_pos g6],c9 (Ext.refl _)⟩
 refine aa ?_;refine K.call (Xt a.to _ s aU (h.ext (c9 (Ext.refl _)))) ?_;rintro u bb ⟨⟨x,hu,au⟩,ax⟩;replace ao:=ax.obj ao;replace aP:=ax.obj aP;by_cases hk:(o.jE a.to s).2=0;rotate_left
 .rw[decide_eq_false hk] at hu;subst hu;refine aa ?_;intro bp cM fM aN bA;refine aa ?_;exact⟨by rw[o.kF,if_neg qH,if_neg g3,if_neg CS,if_neg (by simp[g6]),o.abb hk],c9 (ax.trans aN)⟩
 rw[decide_eq_true hk] at hu;subst hu;obtain⟨bw,eO,fz⟩:=o.abd hk (au hk);have ba:o.kF a s comm=if a.kind=4 then o.asked a.value (if x.scalar=0 then 0 else 1+x.scalar) s else if (o.kD s.locals a.loc s).2≠0 then (o.kD s.locals a.loc s).2 else if (o.kD s.locals a.loc s).1≠(if x.scalar=0 then 0 else 1+x.scalar) then 9 else 0:=by
  rw[o.kF,if_neg qH,if_neg g3,if_neg CS,if_neg (by simp[g6]),bw]
 refine aa ?_;intro bp cM fM aN bA;replace ao:=aN.obj ao;replace aP:=aN.obj aP;have et:∀{w'},Ext bp w'->Ext w w':=fun e=>c9 ((ax.trans aN).trans e);refine aa ?_;apply K.cond<;>intro g7
 .rw[if_pos g7] at ba;refine aa ?_;refine K.gB (.int .i64 (if x.scalar=0 then 0 else 1+x.scalar)) (fun w' e=>(H5 _ w' ⟨eO,by omega⟩).mono fun v b2 dm=>⟨dm.1,by rw[dm.2];exact Ext.refl _⟩) ?_;refine aa ?_;refine K.gB (.int .i64 (o.kF a s comm)) (fun w' e=>by rw[ba];exact Bf _ a.value _ _ s w' (aT.ext (et e)) (h.ext (et e))) ?_;refine aa ?_;intro bY a8;refine aa ?_;exact⟨bk,et a8⟩
 rw[if_neg g7] at ba;refine aa ?_;refine K.call (Nc _ s.locals a.loc _ s bp (kA.ext (et (Ext.refl _))) (h.ext (et (Ext.refl _)))) ?_;rintro _ bR ⟨rfl,aW⟩;replace bA:=aW.obj bA;refine aa ?_;apply K.cond<;>intro g8;rotate_left
 .rw[if_pos g8] at ba;refine aa ?_;exact⟨by rw[ba],et aW⟩
 rw[if_neg (by simpa using g8)] at ba;refine aa ?_;refine K.call (H5 _ bR ⟨eO,by omega⟩) ?_;rintro _ _ ⟨rfl,rfl⟩;refine aa ?_;apply K.cond<;>intro g9
 .rw[if_neg (by simpa using g9)] at ba;refine aa ?_;exact⟨by rw[ba],et aW⟩
 .rw[if_pos g9] at ba;refine aa ?_;exact⟨by rw[ba],et aW⟩
end Go.Proofs.R
end
section
namespace o
theorem RE{s:Scope}{a:Act}{k:Nat}{b:Bool}{Z:Int×Int}:(if gK a&&b then ((2+(k:Int)),(7:Int)) else if jN a s≠0 then (2+(k:Int),jN a s) else Z)=if kF a s b≠0 then (2+(k:Int),kF a s b) else Z:=by
 rw[ajG];by_cases h:(gK a&&b)=true
 .simp[h]
 .simp[h]
end o
namespace Go.Proofs.R
open Go Go.RowKit bt
theorem ajM(c:o.dI)(fB ee:Value)(p:o.dz)(oG qa:Value)(cs:List Value)(s:o.Scope)(w:World)(aD:o.hR c.name)(aZ:o.fW w fB c.guard)(bo:o.nt w ee c.cb)
  (aT:o.hh w oG p.vars)(aw:o.oO w qa p.cI)(h:o.fC w cs s) :
  bu Tryz.prog F.Eh #[.agg (c.enc fB ee).toArray,.agg (p.enc oG qa).toArray,.agg cs.toArray] w fun v w' =>
   v = .tuple #[.int .i64 (o.ix c p.cx s).1,.int .i64 (o.ix c p.cx s).2]/\Ext w w':=by
 obtain⟨a0,bS,dD,c1,a2,c2,a3,bP,a4,bX,rfl,_⟩:=h.form;obtain⟨bl,cap,rfl,hlen⟩:=bo.form;obtain⟨hM,aaP,rfl,afn⟩:=aZ.form;obtain⟨_,_,rfl,_⟩:=aT.form;obtain⟨_,_,rfl,_⟩:=aw.form;refine bL E.Eh ?_;refine bG ?_;refine aa ?_;intro av bC cR aB ao;refine aa ?_;intro aU cr dQ aA aP;refine aa ?_;intro bb b5 fo ax bz;replace ao:=(aA.trans ax).obj ao;replace aP:=ax.obj aP;have fj:∀{w'},Ext bb w'->Ext w w':=fun e=>((aB.trans aA).trans ax).trans e;refine aa ?_;refine K.call (Bh c.name bb aD) ?_;rintro u bp ⟨hu,aN⟩;replace ao:=aN.obj ao;replace aP:=aN.obj aP;replace bz:=aN.obj bz;have et:∀{w'},Ext bp w'->Ext w w':=fun e=>fj (aN.trans e);have bw:∀n,o.head c p.cx=n->n≠0->o.ix c p.cx s=(0,n):=fun n e ak=>by unfold o.ix;rw[e,if_pos ak]
 cases fI:o.isName c.name with
 | false =>
  rw[fI] at hu;subst hu;refine aa ?_;exact⟨by rw[bw 6 (by unfold o.head;rw[if_pos fI]) (by decide)],et (Ext.refl _)⟩
 | true =>
  rw[fI] at hu;subst hu;have p2:¬o.isName c.name=false:=by rw[fI];simp
  refine aa ?_;apply K.cond<;>intro g1
  .refine aa ?_;exact⟨by rw[bw 10 (by unfold o.head;rw[if_neg p2,if_pos (by omega)]) (by decide)],et (Ext.refl _)⟩
  refine aa ?_;apply K.cond<;>intro g2
  .refine aa ?_;exact⟨by rw[bw 10 (by unfold o.head;rw[if_neg p2,if_pos (by omega)]) (by decide)],et (Ext.refl _)⟩
  refine aa ?_;apply K.cond<;>intro g3
  .refine aa ?_;exact⟨by rw[bw 10 (by unfold o.head;rw[if_neg p2,if_pos (by omega)]) (by decide)],et (Ext.refl _)⟩
  refine aa ?_;apply K.cond<;>intro g4
  .refine aa ?_;exact⟨by rw[bw 10 (by unfold o.head;rw[if_neg p2,if_pos (by omega)]) (by decide)],et (Ext.refl _)⟩
  have hz:¬(c.from_<0\/p.cx<=c.from_\/c.to<0\/p.cx<=c.to):=by omega
  refine aa ?_;apply K.cond<;>intro g5
  .refine aa ?_;exact⟨by rw[bw 11 (by unfold o.head;rw[if_neg p2,if_neg hz,if_pos (by omega)]) (by decide)],et (Ext.refl _)⟩
  have sX:o.ix c p.cx s=if c.guard.length > 0/\o.asked c.guard 1 s≠0 then (1,o.asked c.guard 1 s) else o.j6 s c.cb 0 false:=by
   unfold o.ix;rw[if_neg];unfold o.head;rw[if_neg p2,if_neg hz,if_neg (by omega)];simp
  clear bw;refine aa ?_;apply K.cond<;>intro g6
  .refine aa ?_;refine K.call (Bf _ c.guard 1 _ s bp (aZ.ext (et (Ext.refl _))) (h.ext (et (Ext.refl _)))) ?_;rintro _ bR ⟨rfl,aW⟩;replace ao:=aW.obj ao;replace bz:=aW.obj bz;have hS:∀{w'},Ext bR w'->Ext w w':=fun e=>et (aW.trans e);refine aa ?_;apply K.cond<;>intro g7;rotate_left
   .rw[if_pos ⟨by omega,g7⟩] at sX;refine aa ?_;exact⟨by rw[sX],hS (Ext.refl _)⟩
   have ba:o.ix c p.cx s=o.j6 s c.cb 0 false:=by rw[sX,if_neg (fun dm=>dm.2 (by simpa using g7))]
   refine aa ?_;refine K.dj 10 c.cb.length [3,4,5] (fun b=>[(9,.bool b)]) false (fun k b w'=>Ext bR w'/\o.j6 s c.cb 0 false=o.j6 s (c.cb.drop k) k b) bx bx ⟨Ext.refl _,by simp⟩ ?_;rintro k b S bY hk ⟨a8,bB⟩;replace ao:=a8.obj ao;replace bz:=a8.obj bz;refine aa ?_;apply K.cond<;>intro g1
   .have br:k<c.cb.length:=by omega
    obtain⟨a,rfl⟩:=bo.addr (by omega);obtain⟨cy,cE,h0,fy,qX⟩:=bo.at k br;obtain⟨_,_,rfl,_⟩:=fy.form;obtain⟨_,_,rfl,_⟩:=qX.form;rw[o.JE br,o.RE] at bB;replace h0:=h0.ext (hS (Ext.refl _));refine aa ?_;refine K.gB (.int .i64 (o.kF c.cb[k] s b)) (fun w' e=>Xs c.cb[k] b _ _ _ s w' (fy.ext (hS (a8.trans e))) (qX.ext (hS (a8.trans e))) (h.ext (hS (a8.trans e)))) ?_;refine aa ?_;intro cd bJ;replace ao:=bJ.obj ao;replace bz:=bJ.obj bz;refine aa ?_;apply K.cond<;>intro g2;rotate_left
    .rw[if_pos g2] at bB;refine aa ?_;exact⟨by rw[ba,bB],hS (a8.trans bJ)⟩
    rw[if_neg (by simpa using g2)] at bB;refine aa ?_;refine K.du (fun g3=>?_) (fun g3=>?_)
    .subst g3;refine aa ?_;exact⟨br,bk,true,bx,a8.trans bJ,by simpa using bB⟩
    subst g3;refine aa ?_;apply K.cond<;>intro g4
    .have aL:o.gK c.cb[k]=true:=by unfold o.gK;rw[decide_eq_true_eq];omega
     refine aa ?_;exact⟨br,bk,true,bx,a8.trans bJ,by simpa[aL] using bB⟩
    have aL:o.gK c.cb[k]=decide (c.cb[k].kind=5):=by unfold o.gK;rw[Bool.eq_iff_iff,decide_eq_true_eq,decide_eq_true_eq];omega
    rw[Bool.false_or,aL] at bB;refine aa ?_;exact⟨br,bk,decide (c.cb[k].kind=5),bx,a8.trans bJ,bB⟩
   .rw[List.drop_eq_nil_of_le (by omega)] at bB;refine aa ?_;exact⟨by rw[ba,bB];rfl,hS a8⟩
  .have ba:o.ix c p.cx s=o.j6 s c.cb 0 false:=by rw[sX,if_neg (fun dm=>g6 (by omega))]
   refine aa ?_;refine K.dj 10 c.cb.length [3,4,5] (fun b=>[(9,.bool b)]) false (fun k b w'=>Ext bp w'/\o.j6 s c.cb 0 false=o.j6 s (c.cb.drop k) k b) bx bx ⟨Ext.refl _,by simp⟩ ?_;rintro k b S bY hk ⟨a8,bB⟩;replace ao:=a8.obj ao;replace bz:=a8.obj bz;refine aa ?_;apply K.cond<;>intro g1
   .have br:k<c.cb.length:=by omega
    obtain⟨a,rfl⟩:=bo.addr (by omega);obtain⟨cy,cE,h0,fy,qX⟩:=bo.at k br;obtain⟨_,_,rfl,_⟩:=fy.form;obtain⟨_,_,rfl,_⟩:=qX.form;rw[o.JE br,o.RE] at bB;replace h0:=h0.ext (et (Ext.refl _));refine aa ?_;refine K.gB (.int .i64 (o.kF c.cb[k] s b)) (fun w' e=>Xs c.cb[k] b _ _ _ s w' (fy.ext (et (a8.trans e))) (qX.ext (et (a8.trans e))) (h.ext (et (a8.trans e)))) ?_;refine aa ?_;intro cd bJ;replace ao:=bJ.obj ao;replace bz:=bJ.obj bz;refine aa ?_;apply K.cond<;>intro g2;rotate_left
    .rw[if_pos g2] at bB;refine aa ?_;exact⟨by rw[ba,bB],et (a8.trans bJ)⟩
    rw[if_neg (by simpa using g2)] at bB;refine aa ?_;refine K.du (fun g3=>?_) (fun g3=>?_)
    .subst g3;refine aa ?_;exact⟨br,bk,true,bx,a8.trans bJ,by simpa using bB⟩
    subst g3;refine aa ?_;apply K.cond<;>intro g4
    .have aL:o.gK c.cb[k]=true:=by unfold o.gK;rw[decide_eq_true_eq];omega
     refine aa ?_;exact⟨br,bk,true,bx,a8.trans bJ,by simpa[aL] using bB⟩
    have aL:o.gK c.cb[k]=decide (c.cb[k].kind=5):=by unfold o.gK;rw[Bool.eq_iff_iff,decide_eq_true_eq,decide_eq_true_eq];omega
    rw[Bool.false_or,aL] at bB;refine aa ?_;exact⟨br,bk,decide (c.cb[k].kind=5),bx,a8.trans bJ,bB⟩
   .rw[List.drop_eq_nil_of_le (by omega)] at bB;refine aa ?_;exact⟨by rw[ba,bB];rfl,et a8⟩
theorem akn(p:o.dz)(ES cs:List Value)(s:o.Scope)(w:World)(aO:o.vp w ES p)(h:o.fC w cs s)(aZ:s.cQ)(nO:p.cQ) :
  bu Tryz.prog F.El #[.agg ES.toArray,.agg cs.toArray] w fun v w'=>v = .tuple #[.int .i64 (o.ho p s).1,.int .i64 (o.ho p s).2.1,.int .i64 (o.ho p s).2.2]/\Ext w w':=by
 obtain⟨a0,bS,dD,c1,a2,c2,a3,d3,a4,d4,rfl,ak,h1,U,ag,aJ,eI,ej,eo,dX,ep⟩:=h.form;obtain⟨aD,oG,qa,rfl,aT,ot⟩:=aO;obtain⟨cp,bP,rfl,ga⟩:=aT.form;obtain⟨cA,bX,rfl,lc⟩:=ot.form;refine bL E.El ?_;refine bG ?_;refine aa ?_;intro av bC cR aB ao;refine aa ?_;intro aU cr dQ aA aP;replace ao:=aA.obj ao;have c9:∀{w'},Ext aU w'->Ext w w':=fun e=>(aB.trans aA).trans e;refine aa ?_;refine K.call (Bh p.name aU aD) ?_;rintro u bb ⟨hu,ax⟩;replace ao:=ax.obj ao;replace aP:=ax.obj aP;have fj:∀{w'},Ext bb w'->Ext w w':=fun e=>c9 (ax.trans e);have bw:∀n,o.whole p s=n->n≠0->o.ho p s=(0,0,n):=fun n e ak=>by unfold o.ho;rw[e,if_pos ak]
 cases fI:o.isName p.name with
 | false =>
  rw[fI] at hu;subst hu;refine aa ?_;exact⟨by rw[bw 6 (by unfold o.whole;rw[if_pos fI]) (by decide)],fj (Ext.refl _)⟩
 | true =>
  rw[fI] at hu;subst hu;have p2:¬o.isName p.name=false:=by rw[fI];simp
  refine aa ?_;apply K.cond<;>intro g1
  .refine aa ?_;exact⟨by rw[bw 8 (by unfold o.whole;rw[if_neg p2,if_pos (.inl g1)]) (by decide)],fj (Ext.refl _)⟩
  refine aa ?_;apply K.cond<;>intro g2
  .refine aa ?_;exact⟨by rw[bw 8 (by unfold o.whole;rw[if_neg p2,if_pos (.inr (by omega))]) (by decide)],fj (Ext.refl _)⟩
  have lD:¬(p.over<0\/(s.scalars.length:Int)<p.over):=by omega
  refine aa ?_;apply K.cond<;>intro g3
  .refine aa ?_;exact⟨by rw[bw 10 (by unfold o.whole;rw[if_neg p2,if_neg lD,if_pos (.inl g3)]) (by decide)],fj (Ext.refl _)⟩
  refine aa ?_;apply K.cond<;>intro g4
  .refine aa ?_;exact⟨by rw[bw 10 (by unfold o.whole;rw[if_neg p2,if_neg lD,if_pos (.inr (by omega))]) (by decide)],fj (Ext.refl _)⟩
  have jY:¬(p.cx<1\/12<p.cx):=by omega
  refine aa ?_;apply K.cond<;>intro g5
  .refine aa ?_;exact⟨by rw[bw 11 (by unfold o.whole;rw[if_neg p2,if_neg lD,if_neg jY,if_pos (by omega)]) (by decide)],fj (Ext.refl _)⟩
  have ba:o.ho p s=if (o.kE p s).2≠0 then (1,(o.kE p s).1,(o.kE p s).2) else o.kO (o.inner p s) p.cx p.cI p.cI 0:=by
   unfold o.ho;rw[if_neg];unfold o.whole;rw[if_neg p2,if_neg lD,if_neg jY,if_neg (by omega)];simp
  clear bw;refine aa ?_;refine K.call (XC _ _ p.vars s.scalars 4 bb (aT.ext (fj (Ext.refl _))) (ak.ext (fj (Ext.refl _)))) ?_;rintro _ bp ⟨rfl,aN⟩;replace ao:=aN.obj ao;replace aP:=aN.obj aP;have et:∀{w'},Ext bp w'->Ext w w':=fun e=>fj (aN.trans e);refine aa ?_;apply K.cond<;>intro g6;rotate_left
  .have aS:o.kE p s=o.vars p.vars s.scalars 4:=by unfold o.kE;rw[if_pos g6]
   rw[aS,if_pos g6] at ba;refine aa ?_;exact⟨by rw[ba],et (Ext.refl _)⟩
  have aS:o.kE p s=o.pk s p.vars 0:=by unfold o.kE;rw[if_neg (by simpa using g6)]
  rw[aS] at ba;refine aa ?_;refine K.dj 9 p.vars.length [2,3] (fun _:Unit=>[]) () (fun k _ w'=>Ext bp w'/\o.pk s p.vars 0=o.pk s (p.vars.drop k) k) bx bx ⟨Ext.refl _,by simp⟩ ?_;rintro k _ S bR hk ⟨aW,bB⟩;replace ao:=aW.obj ao;replace aP:=aW.obj aP;refine aa ?_;apply K.cond<;>intro g7
  .have br:k<p.vars.length:=by omega
   obtain⟨a,rfl⟩:=aT.addr (by omega);have en:=((aT.at k br).cells).ext (et aW);rw[o.Ww br] at bB;refine aa ?_;apply K.cond<;>intro g8;rotate_left
   .rw[if_pos g8] at bB;refine aa ?_;exact⟨by rw[ba,bB];rfl,et aW⟩
   rw[if_neg (by simpa using g8)] at bB;refine aa ?_;refine K.dj 10 s.vars.length [2,3,9] (fun _:Unit=>[]) () (fun j _ w'=>Ext bR w'/\∀t (aL:t<s.vars.length),t<j->¬s.vars[t].name=p.vars[k].name) bx bx ⟨Ext.refl _,fun _ _ h=>absurd h (Nat.not_lt_zero _)⟩ ?_;rintro j _ bh bY aR ⟨a8,pT⟩;replace ao:=a8.obj ao;replace aP:=a8.obj aP;have k6:∀{w'},Ext bY w'->Ext w w':=fun e=>et ((aW.trans a8).trans e);refine aa ?_;apply K.cond<;>intro g9
   .have eP:j<s.vars.length:=by omega
    obtain⟨di,rfl⟩:=h1.addr (by omega);have gy:=((h1.at j eP).cells).ext (k6 (Ext.refl _));replace en:=en.ext a8;refine aa ?_;intro cd bJ;replace ao:=bJ.obj ao;replace aP:=bJ.obj aP;refine aa ?_;apply K.cond<;>intro g10
    .have x3:s.vars.any (fun x=>decide (x.name=p.vars[k].name))=true:=List.any_eq_true.2 ⟨s.vars[j],List.getElem_mem _,by simpa using g10⟩;rw[if_pos x3] at bB;refine aa ?_;exact⟨by rw[ba,bB];rfl,k6 bJ⟩
    .refine aa ?_;exact⟨eP,bk,(),trivial,a8.trans bJ,fun t aL h=>by
      by_cases e:t=j
      .subst e;exact g10
      .exact pT t aL (by omega)⟩
   .have x3:¬s.vars.any (fun x=>decide (x.name=p.vars[k].name))=true:=by
     intro dm;obtain⟨x,au,hA⟩:=List.any_eq_true.1 dm;obtain⟨t,aL,rfl⟩:=List.mem_iff_getElem.1 au;exact pT t aL (by omega) (by simpa using hA)
    rw[if_neg x3] at bB;refine aa ?_;exact⟨br,bk,(),trivial,aW.trans a8,bB⟩
  rw[List.drop_eq_nil_of_le (by omega)] at bB;replace ba:o.ho p s=o.kO (o.inner p s) p.cx p.cI p.cI 0:=by rw[ba,bB];rfl
  clear bB aS;have eU:∀w',Ext w w'->o.fC w' [.slice a0 s.scalars.length bS,.slice dD s.vars.length c1,.slice a2 s.aM.length c2,.slice a3 s.procs.length d3,.slice cp p.vars.length bP,.int .i64 p.over] (o.inner p s):=fun w' e =>
   ⟨(aZ.inner nO).qi.1,_,_,_,_,_,rfl,ak.ext e,h1.ext e,U.ext e,ag.ext e,aT.ext e,(aZ.inner nO).qi.2⟩
  refine aa ?_;intro bY b5 fo a8 bz;replace ao:=a8.obj ao;replace aP:=a8.obj aP;have k6:∀{w'},Ext bY w'->Ext w w':=fun e=>et ((aW.trans a8).trans e);refine aa ?_;refine K.dj 12 p.cI.length [2,3,11] (fun _:Unit=>[]) () (fun k _ w'=>Ext bY w'/\o.kO (o.inner p s) p.cx p.cI p.cI 0=o.kO (o.inner p s) p.cx p.cI (p.cI.drop k) k) bx bx ⟨Ext.refl _,by simp⟩ ?_;rintro k _ S cd hk ⟨bJ,bB⟩;replace ao:=bJ.obj ao;replace aP:=bJ.obj aP;replace bz:=bJ.obj bz;have jL:∀{w'},Ext cd w'->Ext w w':=fun e=>k6 (bJ.trans e);refine aa ?_;apply K.cond<;>intro g7
  .have br:k<p.cI.length:=by omega
   obtain⟨a,rfl⟩:=ot.addr (by omega);obtain⟨ay,fB,ee,gu,wx,uB⟩:=ot.at k br;obtain⟨hM,gF,rfl,ahF⟩:=wx.form;obtain⟨bl,gO,rfl,oC⟩:=uB.form;rw[o.R6 br] at bB;replace gu:=gu.ext (jL (Ext.refl _));refine aa ?_;refine K.gB (.tuple #[.int .i64 (o.ix p.cI[k] p.cx (o.inner p s)).1,.int .i64 (o.ix p.cI[k] p.cx (o.inner p s)).2]) (fun w' e=>ajM p.cI[k] _ _ p _ _ _ (o.inner p s) w' ay (wx.ext (jL e)) (uB.ext (jL e)) (aT.ext (jL e)) (ot.ext (jL e)) (eU _ (jL e))) ?_;refine aa ?_;intro dg bV;replace ao:=bV.obj ao;replace aP:=bV.obj aP;replace bz:=bV.obj bz;replace gu:=gu.ext bV;have kJ:∀{w'},Ext dg w'->Ext w w':=fun e=>jL (bV.trans e);refine aa ?_;apply K.cond<;>intro g8;rotate_left
   .rw[if_pos g8] at bB;refine aa ?_;exact⟨by rw[ba,bB],kJ (Ext.refl _)⟩
   rw[if_neg (by simpa using g8)] at bB;refine aa ?_;refine K.dj 15 k [2,3,11,12] (fun _:Unit=>[]) () (fun j _ w'=>Ext dg w'/\∀t (aL:t<p.cI.length),t<j->¬p.cI[t].name=p.cI[k].name) bx bx ⟨Ext.refl _,fun _ _ h=>absurd h (Nat.not_lt_zero _)⟩ ?_;rintro j _ bh ea aR ⟨b1,pT⟩;replace ao:=b1.obj ao;replace aP:=b1.obj aP;replace bz:=b1.obj bz;have jM:∀{w'},Ext ea w'->Ext w w':=fun e=>kJ (b1.trans e);refine aa ?_;apply K.cond<;>intro g9
   .have eP:j<p.cI.length:=by omega
    obtain⟨_,apN,IX,Ua,_,_⟩:=ot.at j eP;replace Ua:=Ua.ext (jM (Ext.refl _));replace gu:=gu.ext b1;refine aa ?_;intro e3 cv;replace ao:=cv.obj ao;replace aP:=cv.obj aP;replace bz:=cv.obj bz;refine aa ?_;apply K.cond<;>intro g10
    .have x3:(p.cI.take k).any (fun x=>decide (x.name=p.cI[k].name))=true:=List.any_eq_true.2 ⟨p.cI[j],by rw[List.mem_iff_getElem];exact⟨j,by simp;omega,by simp⟩,by simpa using g10⟩;rw[if_pos x3] at bB;refine aa ?_;exact⟨by rw[ba,bB],jM cv⟩
    .refine aa ?_;exact⟨by omega,bk,(),trivial,b1.trans cv,fun t aL h=>by
      by_cases e:t=j
      .subst e;exact g10
      .exact pT t aL (by omega)⟩
   .have x3:¬(p.cI.take k).any (fun x=>decide (x.name=p.cI[k].name))=true:=by
     intro dm;obtain⟨x,au,hA⟩:=List.any_eq_true.1 dm;obtain⟨t,aL,rfl⟩:=List.mem_iff_getElem.1 au;have agi:t<k/\t<p.cI.length:=by simp at aL;omega
     exact pT t agi.2 (by omega) (by simpa using hA)
    rw[if_neg x3] at bB;refine aa ?_;exact⟨br,bk,(),trivial,(bJ.trans bV).trans b1,bB⟩
  .rw[List.drop_eq_nil_of_le (by omega)] at bB;refine aa ?_;exact⟨by rw[ba,bB];rfl,jL (Ext.refl _)⟩
theorem ajX(cs:List Value)(m:o.Model)(k:Nat)(w:World)(h:o.ec w cs m)(aZ:m.cQ)(hk:k<m.procs.length)(Ds:k<=6)(Ho:m.scalars.length<=2/\m.vars.length<=12/\m.aM.length<=4)(afJ:k<6->∀j,j<k->(o.hX m j).1=0) :
  bu Tryz.prog F.Eu #[.agg cs.toArray,.int .i64 k] w fun v w'=>v=vU (if (o.hX m k).1≠0 then ⟨(o.hX m k).1,4,k,(o.hX m k).2⟩ else o.sI)/\Ext w w':=by
 have bq:=h;obtain⟨cz,bS,b9,c1,cn,c2,cp,bP,cA,bX,rfl,ak,h1,U,ag,aJ,eI,ej,eo,dX,ep⟩:=h.form;have ei:=o.Kt hk;refine bL E.Eu ?_;refine bG ?_;refine aa ?_;intro av bC cR aB ao;refine aa ?_;intro aU cr dQ aA aP;replace ao:=aA.obj ao;have a6:=aB.trans aA;have gh:=cH ao;have z2:=aB.size;refine aa ?_;apply K.cond<;>intro g1
 .rw[if_pos (by omega)] at ei;refine aa ?_;intro bb fR bz;refine aa ?_;exact⟨by rw[ei];rfl,fR.ext a6 (by omega)⟩
 rw[if_neg (by omega)] at ei;obtain⟨a,rfl⟩:=ag.addr (by omega);obtain⟨mr,cE,dT,aO,eR,dL⟩:=ag.at k hk;obtain⟨e1,fv,rfl,ga⟩:=eR.form;obtain⟨oE,oe,rfl,lc⟩:=dL.form;have nO:=aZ.proc _ (List.getElem_mem hk);replace aO:=aO.ext a6;refine aa ?_;intro bb dR kR ax cD;replace ao:=ax.obj ao;replace aP:=ax.obj aP;refine aa ?_;intro bp aN;replace ao:=aN.obj ao;replace aP:=aN.obj aP;replace cD:=aN.obj cD;have b0:=(a6.trans ax).trans aN;refine aa ?_;refine K.call (aj0 (w0:=w) _ m k bp bq b0 aZ) ?_;rintro _ bR ⟨⟨ano,rfl,kX⟩,aW⟩;refine⟨aW,?_⟩;have b3:=b0.trans aW;obtain⟨k3,Fx,j1,kI,j2,kq,nY,yZ,nq,y0,rfl,_⟩:=(kX _ b3).form;refine aa ?_;refine K.call (akn m.procs[k] _ _ (o.gJ m k) bR ⟨mr,_,_,rfl,eR.ext b3,dL.ext b3⟩ (kX _ b3) (aZ.gJ _) nO) ?_;rintro _ bY ⟨rfl,a8⟩;replace ao:=(aW.trans a8).obj ao;replace aP:=(aW.trans a8).obj aP;replace cD:=(aW.trans a8).obj cD;have cV:=b3.trans a8;clear a6 b0 aO;have eU:=o.Xa m.procs[k] (o.gJ m k) 140737488351232 fun c aw=>by have:=(nO.cmd c aw).cb;unfold o.dN at this;omega
 have ago:m.procs[k].vars.length<=140737488351232:=by have:=nO.vars;unfold o.dN at this;omega
 have nJ:m.procs[k].cI.length<=140737488351232:=by have:=nO.cI;unfold o.dN at this;omega
 refine aa ?_;apply K.cond<;>intro g2;rotate_left
 .rw[if_pos g2] at ei;refine aa ?_;intro cd dB cS;refine aa ?_;exact⟨by rw[ei,if_pos g2];rfl,dB.ext cV (by omega)⟩
 rw[if_neg (by simpa using g2)] at ei;have hlen:∀(i:Int),m.scalars.length+o.cP 1 4 i m.vars.length+o.cP 2 4 i m.aM.length+o.cP 3 4 k m.procs.length+o.hs 4 i m.props.length<=8000000000000:=fun i=>by
  have dH:=o.va 1 4 i m.vars.length;have dM:=o.va 2 4 i m.aM.length;have eh:o.cP 3 4 k m.procs.length<=k:=by unfold o.cP; (repeat' split)<;>omega
  have hc:o.hs 4 i m.props.length=0:=by unfold o.hs;rw[if_neg (by decide)]
  omega
 refine aa ?_;intro cd bJ;replace ao:=bJ.obj ao;replace aP:=bJ.obj aP;replace cD:=bJ.obj cD;have dw:=cV.trans bJ;refine aa ?_;refine K.call (BZ _ m 4 k cd (bq.ext dw) (by omega) (by omega) (hlen k)) ?_;rintro _ dg ⟨⟨v,rfl,gj⟩,bV⟩;refine⟨bV,?_⟩;rw[o.ZX] at gj;replace ao:=bV.obj ao;replace aP:=bV.obj aP;replace cD:=bV.obj cD;have dW:=dw.trans bV;refine aa ?_;refine K.call (C2 v _ m.procs[k].name _ dg gj) ?_;rintro _ np ⟨rfl,rfl⟩;refine aa ?_;apply K.cond<;>intro g3
 .rw[if_pos g3] at ei;refine aa ?_;intro ea iQ dJ;refine aa ?_;exact⟨by rw[ei];rfl,iQ.ext dW (by omega)⟩
 rw[if_neg g3] at ei;have qV:m.procs.length*80<=140737488355328:=by have:=aZ.procs;unfold o.dN at this;omega
 have Dw:m.scalars.length+o.cP 1 5 (0:Nat) m.vars.length+o.cP 2 5 (0:Nat) m.aM.length+o.cP 3 5 (0:Nat) m.procs.length+o.hs 5 (0:Nat) m.props.length<=8000000000000:=by
  have dH:=o.va 1 5 (0:Nat) m.vars.length;have dM:=o.va 2 5 (0:Nat) m.aM.length;have eh:=o.va 3 5 (0:Nat) m.procs.length;have hc:o.hs 5 (0:Nat) m.props.length=0:=by unfold o.hs;rw[if_pos (by decide)];simp
  omega
 have vZ:=ao;have x5:=aP;have TY:=cD;clear ao aP cD gj;have ao:=vZ;have cD:=TY;refine aa ?_;refine K.dj 9 m.procs[k].vars.length [1,2,4,5] (fun _:Unit=>[]) () (fun j _ w'=>Ext np w'/\∀i,i<j->o.pO m m.procs[k] i=0) bx bx ⟨Ext.refl _,fun j h=>absurd h (Nat.not_lt_zero _)⟩ ?_;clear ao cD;rintro j _ S ea aR ⟨b1,bQ⟩;have ao:=b1.obj vZ;have aP:=b1.obj x5;have cD:=b1.obj TY;have iz:=dW.trans b1;refine aa ?_;apply K.cond<;>intro g4
 .have eP:j<m.procs[k].vars.length:=by omega
  obtain⟨di,rfl⟩:=eR.addr (by omega);have en:=((eR.at j eP).cells).ext iz;have fI:=o.A0 (f:=fun x:o.Var=>x.name) eP;refine aa ?_;intro e3 cv;replace ao:=cv.obj ao;replace aP:=cv.obj aP;replace cD:=cv.obj cD;replace en:=en.ext cv;have jv:=iz.trans cv;refine aa ?_;refine K.call (BZ _ m 5 (0:Nat) e3 (bq.ext jv) (by omega) (by omega) Dw) ?_;rintro _ gg ⟨⟨v2,rfl,DG⟩,fH⟩;refine⟨fH,?_⟩;rw[o.RK] at DG;replace ao:=fH.obj ao;replace aP:=fH.obj aP;replace cD:=fH.obj cD;have sC:=jv.trans fH;refine aa ?_;refine K.call (C2 v2 _ m.procs[k].vars[j].name _ gg DG) ?_;rintro _ yX ⟨rfl,rfl⟩;have dF:o.q4 m 0=o.im m m.procs.length:=by simp[o.q4]
  rw[dF];refine aa ?_;apply K.cond<;>intro g5
  .have um:o.pO m m.procs[k] j=7:=by unfold o.pO;rw[fI,if_pos g5]
   rw[o.iB eP bQ (by rw[um];decide),um,if_pos (show(7:Int)≠0 by decide)] at ei;refine aa ?_;intro lI oz ug;refine aa ?_;exact⟨by rw[ei];rfl,oz.ext sC (by omega)⟩
  .refine aa ?_;refine⟨eP,bk,(),trivial,(b1.trans cv).trans fH,fun i ad=>?_⟩;by_cases Aj:i=j
   .subst Aj;unfold o.pO;rw[fI,if_neg g5]
   .exact bQ i (by omega)
 .rw[o.oj fun i ad=>bQ i (by omega),if_neg (by simp)] at ei;refine aa ?_;intro e3 p5 hJ;refine aa ?_;exact⟨by rw[ei];rfl,p5.ext iz (by omega)⟩
theorem ajY(cs:List Value)(m:o.Model)(k:Nat)(w:World)(h:o.ec w cs m)(aZ:m.cQ)(hk:k<m.props.length)(UJ:k<=8)(Ho:m.scalars.length<=2/\m.vars.length<=12/\m.aM.length<=4)(afJ:m.procs.length<=6) :
  bu Tryz.prog F.Ev #[.agg cs.toArray,.int .i64 k] w fun v w'=>v = .int .i64 (o.mb m k)/\Ext w w':=by
 have bq:=h;obtain⟨cz,bS,b9,c1,cn,c2,cp,bP,cA,bX,rfl,ak,h1,U,ag,aJ,eI,ej,eo,dX,ep⟩:=h.form;have ei:=o.CE hk;refine bL E.Ev ?_;refine bG ?_;refine aa ?_;intro av bC cR aB ao;refine aa ?_;apply K.cond<;>intro g1
 .rw[if_pos (by omega)] at ei;refine aa ?_;exact⟨by rw[ei],aB⟩
 rw[if_neg (by omega)] at ei;obtain⟨a,rfl⟩:=aJ.addr (by omega);obtain⟨mr,ht,aO,gY⟩:=aJ.at k hk;obtain⟨Iq,ce,rfl,le⟩:=gY.form;replace aO:=aO.ext aB;refine aa ?_;intro aU dR kR aA cD;replace ao:=aA.obj ao;have a6:=aB.trans aA;refine aa ?_;refine K.call (Bh m.props[k].name aU mr) ?_;rintro _ bb ⟨rfl,ax⟩;replace ao:=ax.obj ao;replace cD:=ax.obj cD;have bK:=a6.trans ax;refine aa ?_;refine K.du (fun g2=>?_) (fun g2=>?_);rotate_left
 .rw[if_pos g2] at ei;refine aa ?_;exact⟨by rw[ei],bK⟩
 rw[if_neg (by rw[g2];decide)] at ei;refine aa ?_;intro bp aN;replace ao:=aN.obj ao;replace cD:=aN.obj cD;have b0:=bK.trans aN;refine aa ?_;refine K.call (BZ _ m 5 k bp (bq.ext b0) (by omega) (by omega) (by
  have dH:=o.va 1 5 k m.vars.length;have dM:=o.va 2 5 k m.aM.length;have eh:=o.va 3 5 k m.procs.length;have hc:o.hs 5 k m.props.length<=k:=by unfold o.hs; (repeat' split)<;>omega
  omega)) ?_
 rintro _ bR ⟨⟨v2,rfl,DG⟩,aW⟩;refine⟨aW,?_⟩;rw[o.RK] at DG;replace ao:=aW.obj ao;replace cD:=aW.obj cD;have b3:=b0.trans aW;refine aa ?_;refine K.call (C2 v2 _ m.props[k].name _ bR DG) ?_;rintro _ yX ⟨rfl,rfl⟩;refine aa ?_;apply K.cond<;>intro g3
 .rw[if_pos g3] at ei;refine aa ?_;exact⟨by rw[ei],b3⟩
 rw[if_neg g3] at ei;have kX:∀w',Ext w w'->o.fC w' [.slice cz m.scalars.length bS,.slice b9 m.vars.length c1,.slice cn m.aM.length c2,.slice cp m.procs.length bP,.slice none 0 0,.int .i64 0] (o.eN m):=fun w' e =>
  ⟨aZ.scope.qi.1,_,_,_,_,_,rfl,ak.ext e,h1.ext e,U.ext e,ag.ext e,bF.nil,aZ.scope.qi.2⟩
 refine aa ?_;refine K.call (Xy _ m.props[k].expr _ (o.eN m) _ (gY.ext b3) (kX _ b3)) ?_;rintro _ bY ⟨rfl,a8⟩;refine aa ?_;apply K.cond<;>intro g4;rotate_left
 .rw[if_pos g4] at ei;refine aa ?_;exact⟨by rw[ei],b3.trans a8⟩
 rw[if_neg (by simpa using g4)] at ei;refine aa ?_;apply K.cond<;>intro g5;rotate_left
 .rw[if_pos g5] at ei;refine aa ?_;exact⟨by rw[ei],b3.trans a8⟩
 rw[if_neg (by simpa using g5)] at ei;refine aa ?_;exact⟨by rw[ei],b3.trans a8⟩
theorem NK(cs:List Value)(m:o.Model)(w:World)(h:o.ec w cs m)(aZ:m.cQ) :
  bu Tryz.prog F.yz #[.agg cs.toArray] w fun v w'=>v=vU (o.check m)/\Ext w w':=by
 have bq:=h;obtain⟨cz,bS,b9,c1,cn,c2,cp,bP,cA,bX,rfl,ak,h1,U,ag,aJ,eI,ej,eo,dX,ep⟩:=h.form;refine bL E.yz ?_;refine bG ?_;simp -dsimp only[cF];refine ef ?_;intro av bC cR aB ao;refine ef ?_;intro aU cr dQ aA aP;replace ao:=aA.obj ao;have a6:=aB.trans aA;have gh:=cH ao;have z2:=cH aP;have z3:=aB.size;refine ef ?_;simp -dsimp only[cF];refine ef ?_;refine K.call (ajT _ m aU (bq.ext a6)) ?_;rintro _ bb ⟨rfl,ax⟩;replace ao:=ax.obj ao;replace aP:=ax.obj aP;unfold vU;have z4:=aA.size;have z5:=ax.size;refine ef ?_;intro bp b5 fo aN bz;replace ao:=aN.obj ao;replace aP:=aN.obj aP;have b0:=(a6.trans ax).trans aN;have By:=cH bz;have vZ:=ao;have x5:=aP;have anF:=bq.ext b0;refine ef ?_;refine K.gU [1,2,3] (fun _:o.rq=>[]) (fun f w'=>Mod (fun i=>i=b5) bp w'/\w'.heap[b5]? = some (.cells #[.int .i64 f.cX,.int .i64 f.part,.int .i64 f.item,.int .i64 f.sub] T.v) /\
  ((f.cX≠0/\f=o.check m)\/(f.cX=0/\(o.data m).cX=0/\∀j,j<m.procs.length->(o.hX m j).1=0))) ?_ ?_
 .refine aa ?_;refine K.dj 4 m.procs.length [1,2,3] (fun _:o.rq=>[]) (o.data m) (fun k f w'=>Mod (fun i=>i=b5) bp w'/\w'.heap[b5]? = some (.cells #[.int .i64 f.cX,.int .i64 f.part,.int .i64 f.item,.int .i64 f.sub] T.v) /\
   ((f=o.data m/\(o.data m).cX≠0)\/((o.data m).cX=0/\f.cX=0/\∀j,j<k->(o.hX m j).1=0)\/((o.data m).cX=0/\f=o.lE m/\(o.lE m).cX≠0))) bx bx ⟨Mod.refl _ _,bz,by
     by_cases h:(o.data m).cX=0
     .exact .inr (.inl ⟨h,h,fun j h=>absurd h (Nat.not_lt_zero _)⟩)
     .exact .inl ⟨rfl,h⟩⟩ ?_
  clear ao aP bz;rintro k f S bR hk ⟨m5,bz,aK⟩;have ao:=m5.obj (by omega) vZ;have aP:=m5.obj (by omega) x5;have b3:=m5.ext b0 (fun i ad e=>by omega);have S3:f.cX≠0->(f.cX≠0/\f=o.check m):=fun hw=>⟨hw,by
   rcases aK with ⟨rfl,h⟩ | ⟨_,h,_⟩ | ⟨h1,rfl,U⟩
   .rw[o.check,if_pos h]
   .exact absurd h hw
   .rw[o.check,if_neg (by simpa using h1),if_pos U]⟩
  refine aa ?_;apply K.cond<;>intro g1
  .have br:k<m.procs.length:=by omega
   refine aa ?_;apply K.cond<;>intro g2
   .have ou:(o.data m).cX=0/\f.cX=0/\∀j,j<k->(o.hX m j).1=0:=by
     rcases aK with ⟨rfl,h⟩ | h | ⟨h1,rfl,U⟩
     .exact absurd g2 h
     .exact h
     .exact absurd g2 U
    have Ds:k<=6:=by
     apply Classical.byContradiction;intro aD
     have:=o.GL (m:=m) (i:=6) (by omega) (ou.2.2 6 (by omega))
     omega
    refine aa ?_;refine K.call (ajX _ m k bR (bq.ext b3) aZ br Ds (o.GD ou.1) fun _=>ou.2.2) ?_;rintro _ bY ⟨rfl,a8⟩;unfold vU;replace ao:=a8.obj ao;replace aP:=a8.obj aP;replace bz:=a8.obj bz;refine aa ?_;intro cd dB cS;refine aa ?_;refine⟨br,bk,_,trivial,(m5.trans a8.mod).trans (dB.mod rfl),cS,?_⟩;by_cases ak:(o.hX m k).1=0
    .rw[if_neg (by simpa using ak)];refine .inr (.inl ⟨ou.1,rfl,fun j aR=>?_⟩);by_cases h2:j=k
     .subst h2;exact ak
     .exact ou.2.2 j (by omega)
    .rw[if_pos ak]
     have:=o.EV br ou.2.2 ak
     exact .inr (.inr ⟨ou.1,this.symm,by rw[this];exact ak⟩)
   .refine aa ?_;exact⟨f,trivial,m5,bz,.inl (S3 g2)⟩
  .refine aa ?_;refine⟨f,trivial,m5,bz,?_⟩;by_cases hw:f.cX=0
   .refine .inr ?_;rcases aK with ⟨rfl,h⟩ | ⟨h1,U,ag⟩ | ⟨h1,rfl,U⟩
    .exact absurd hw h
    .exact⟨U,h1,fun j aR=>ag j (by omega)⟩
    .exact absurd hw U
   .exact .inl (S3 hw)
 clear ao aP bz;rintro f S bR ⟨m5,bz,aK⟩;have ao:=m5.obj (by omega) vZ;have aP:=m5.obj (by omega) x5;have b3:=m5.ext b0 (fun i ad e=>by omega);refine aa ?_;apply K.cond<;>intro g1;rotate_left
 .have kS:f=o.check m:=by
   rcases aK with ⟨_,h⟩ | ⟨h,_⟩
   .exact h
   .exact absurd h g1
  refine aa ?_;intro bY fZ ct;refine aa ?_;exact⟨by rw[kS],fZ.ext b3 (by omega)⟩
 have dt:(o.data m).cX=0/\∀j,j<m.procs.length->(o.hX m j).1=0:=by
  rcases aK with ⟨h,_⟩ | ⟨_,h⟩
  .exact absurd g1 h
  .exact h
 obtain⟨bw,x0⟩:=dt;have Ho:=o.GD bw;have qV:m.procs.length<=6:=by
  apply Classical.byContradiction;intro aD
  have:=o.GL (i:=6) (by omega) (x0 6 (by omega))
  omega
 have rM:o.tx m:=⟨by omega,by omega,by omega,fun p aO=>by
  obtain⟨j,aR,rfl⟩:=List.mem_iff_getElem.1 aO
  have:=o.Ng (o.zR aR (x0 j aR)).2.1
  omega⟩
 have p3:=o.Ni x0;have kS:o.check m=if (o.lE m).cX≠0 then o.lE m else o.oF m:=by rw[o.check,if_neg (by simpa using bw)]
 clear bz;refine aa ?_;refine K.call (ajW _ m bR (bq.ext b3) rM) ?_;rintro _ bY ⟨rfl,a8⟩;replace ao:=a8.obj ao;replace aP:=a8.obj aP;have cV:=b3.trans a8;refine aa ?_;apply K.cond<;>intro g2
 .rw[if_pos (.inl (by omega))] at p3;rw[p3,if_pos (show(11:Int)≠0 by decide)] at kS;refine aa ?_;intro cd dB cS;refine aa ?_;exact⟨by rw[kS];rfl,dB.ext cV (by omega)⟩
 refine aa ?_;apply K.cond<;>intro g3
 .rw[if_pos (.inr (by omega))] at p3;rw[p3,if_pos (show(11:Int)≠0 by decide)] at kS;refine aa ?_;intro cd dB cS;refine aa ?_;exact⟨by rw[kS];rfl,dB.ext cV (by omega)⟩
 rw[if_neg (by omega)] at p3;rw[p3,if_neg (by simp[o.sI])] at kS;have aeo:=ao;have aep:=aP;refine aa ?_;refine K.dj 8 m.props.length [1,2] (fun _:Unit=>[]) () (fun k _ w'=>Ext bY w'/\∀j,j<k->o.mb m j=0) bx bx ⟨Ext.refl _,fun j h=>absurd h (Nat.not_lt_zero _)⟩ ?_;clear ao aP;rintro k _ kt cd hk ⟨bJ,bQ⟩;have ao:=bJ.obj aeo;have aP:=bJ.obj aep;have dw:=cV.trans bJ;refine aa ?_;apply K.cond<;>intro g4
 .have br:k<m.props.length:=by omega
  have UJ:k<=8:=by
   apply Classical.byContradiction;intro aD
   have:=o.aci (m:=m) (i:=8) (by omega) (bQ 8 (by omega))
   omega
  refine aa ?_;refine K.call (ajY _ m k cd (bq.ext dw) aZ br UJ Ho qV) ?_;rintro _ dg ⟨rfl,bV⟩;replace ao:=bV.obj ao;replace aP:=bV.obj aP;refine aa ?_;apply K.cond<;>intro g5;rotate_left
  .rw[o.Xd br bQ g5] at kS;refine aa ?_;intro ea iQ dJ;refine aa ?_;exact⟨by rw[kS];rfl,iQ.ext (dw.trans bV) (by omega)⟩
  .refine aa ?_;refine⟨br,bk,(),trivial,bJ.trans bV,fun j aR=>?_⟩;by_cases h2:j=k
   .subst h2;simpa using g5
   .exact bQ j (by omega)
 .rw[o.Nk fun j aR=>bQ j (by omega)] at kS;refine aa ?_;intro dg iG cK;refine aa ?_;exact⟨by rw[kS];rfl,iG.ext dw (by omega)⟩
end Go.Proofs.R
end
section
namespace bt
open Go Go.RowKit
def tk(l:List ByteArray):List (ByteArray×Value):=l.map fun x=>(x,.bool true)
theorem akM(l:List ByteArray)(x:ByteArray):((tk l).find? (fun p=>decide (x=p.1))).map (·.2)=if x∈l then some (.bool true) else none:=by
 induction l with
 | nil=>rfl
 | cons y l eV =>
  simp only[tk,List.map_cons,List.find?_cons,List.mem_cons];by_cases h:x=y
  .simp[h]
  .simp only[h,decide_false,false_or];exact eV
structure zc(es:Array MapEntry)(c:Nat)(L:List ByteArray):Prop where
 yo:∃l,hT Value.string es.toList (tk l)/\∀x,x∈l↔x∈L
 born:∀e∈es.toList,e.born<c
 nodup:(es.toList.map (·.born)).Nodup
theorem hT.mem{l:List ByteArray}:∀{es:List MapEntry},hT Value.string es (tk l)->∀e∈es,∃x∈l,e.key = .string x/\e.val = .bool true:=by
 induction l with
 | nil=>intro es h e he;cases es with | nil=>cases he | cons _ _=>simp[hT,tk] at h
 | cons y l eV =>
  intro es h e he;cases es with
  | nil=>cases he
  | cons f es =>
   simp only[hT,tk,List.map_cons,List.cons.injEq,Prod.mk.injEq] at h;rcases List.mem_cons.1 he with rfl | he
   .exact⟨y,by simp,h.1.1,h.1.2⟩
   .obtain⟨x,au,U⟩:=eV (es:=es) h.2 e he;exact⟨x,by simp[au],U⟩
theorem hT.M8{l:List ByteArray}:∀{es:List MapEntry},hT Value.string es (tk l)->∀x∈l,∃e∈es,e.key = .string x:=by
 induction l with
 | nil=>intro es h x au;cases au
 | cons y l eV =>
  intro es h x au;cases es with
  | nil=>simp[hT,tk] at h
  | cons f es =>
   simp only[hT,tk,List.map_cons,List.cons.injEq,Prod.mk.injEq] at h;rcases List.mem_cons.1 au with rfl | au
   .exact⟨f,by simp,h.1.1⟩
   .obtain⟨e,he,U⟩:=eV (es:=es) h.2 x au;exact⟨e,by simp[he],U⟩
theorem zc.mem{es:Array MapEntry}{c:Nat}{L:List ByteArray}(h:zc es c L):∀e∈es.toList,∃x∈L,e.key = .string x/\e.val = .bool true:=fun e he=>by
 obtain⟨l,h1,U⟩:=h.yo;obtain⟨x,au,ag⟩:=h1.mem e he;exact⟨x,(U x).1 au,ag⟩
theorem zc.M8{es:Array MapEntry}{c:Nat}{L:List ByteArray}(h:zc es c L):∀x∈L,∃e∈es.toList,e.key = .string x:=fun x au=>by
 obtain⟨l,h1,U⟩:=h.yo;exact h1.M8 x ((U x).2 au)
theorem KB{d:TypeDesc}{k:Value}:∀{es:List MapEntry} {i j:Nat} {v:Value},Instr.findNow d k es i=some (some (j,v))->i<=j/\∃e,es[j - i]? = some e/\Instr.sameNow d k e.key=some true
 | [],i,j,v,h=>by simp[Instr.findNow] at h
 | e :: es,i,j,v,h=>by
  unfold Instr.findNow at h;split at h
  .rename_i ay;injection h with h;injection h with h;injection h with h1 U
   subst h1;exact⟨Nat.le_refl _,e,by simp,ay⟩
  .obtain⟨h1,e',U,ag⟩:=KB h;refine⟨by omega,e',?_,ag⟩;rw[show j - i=(j - (i+1))+1 from by omega,List.getElem?_cons_succ];exact U
  .cases h
theorem ah5{es:Array MapEntry}{j:Nat}{e:MapEntry}{f:MapEntry->MapEntry}(aR:es[j]? = some e)(aK:f e=e):es.modify j f=es:=by
 apply Array.ext_getElem?;intro i;rw[Array.getElem?_modify];by_cases h:j=i
 .subst h;rw[if_pos rfl,aR,Option.map_some,aK]
 .rw[if_neg h]
def fD(w:World)(b:Nat)(L:List ByteArray):Prop := ∃es c,w.heap[b]? = some (.map es c)/\zc es c L
theorem fD.of{w w':World}{b:Nat}{L:List ByteArray}(h:fD w b L)(e:w'.heap[b]? = w.heap[b]?):fD w' b L:=let ⟨es,c,h1,U⟩:=h; ⟨es,c,e.trans h1,U⟩
theorem fD.lt{w:World}{b:Nat}{L:List ByteArray}(h:fD w b L):b<w.heap.size:=let ⟨_,_,h1,_⟩:=h;cH h1
theorem fD.ext{w w':World}{b:Nat}{L:List ByteArray}(h:fD w b L)(e:Ext w w'):fD w' b L:=h.of (e.heap h.lt)
theorem fD.wr{w w':World}{b k:Nat}{L:List ByteArray}(h:fD w b L)(e:dC k w w')(hk:b≠k):fD w' b L:=h.of (e.block b hk)
theorem fD.iu{w:World}{b:Nat}{L mH:List ByteArray}(h:fD w b L)(e:∀x,x∈L↔x∈mH):fD w b mH:=by
 obtain⟨es,c,h1,⟨⟨l,U,ag⟩,aJ,bg⟩⟩:=h;exact⟨es,c,h1,⟨⟨l,U,fun x=>(ag x).trans (e x)⟩,aJ,bg⟩⟩
theorem fD.empty{w:World}{b:Nat}(h:w.heap[b]? = some (.map #[] 0)):fD w b []:=⟨_,_,h,⟨⟨[],rfl,fun _=>Iff.rfl⟩,fun e he=>by simp at he,by simp⟩⟩
theorem fD.look{w:World}{b:Nat}{L:List ByteArray}(h:fD w b L)(x:ByteArray):∃es r,qs w (.map (some b)) es/\Instr.findNow .string (.string x) es.toList 0=some r/\lY (.bool false) false r = .bool (decide (x∈L)):=by
 obtain⟨es,c,h1,⟨⟨l,U,ag⟩,_,_⟩⟩:=h;obtain⟨r,kj,jj⟩:=xR IB x es.toList _ 0 U;rw[akM] at jj;refine⟨es,r,.inr ⟨b,c,rfl,h1⟩,kj,?_⟩;by_cases au:x∈L
 .rw[if_pos ((ag x).2 au)] at jj;simp[lY,jj,au]
 .rw[if_neg (fun h=>au ((ag x).1 h))] at jj;simp[lY,jj,au]
theorem fD.put{w:World}{b:Nat}{L:List ByteArray}(h:fD w b L)(x:ByteArray):∃es c q,w.heap[b]? = some (.map es c)/\Instr.findNow .string (.string x) es.toList 0=some q /\
  ∀w':World,w'.heap[b]? = some (q3 es c (.string x) (.bool true) q)->fD w' b (L++[x]):=by
 obtain⟨es,c,h1,hm⟩:=h;obtain⟨l,U,ag⟩:=hm.yo;obtain⟨r,kj,jj⟩:=xR IB x es.toList _ 0 U;refine⟨es,c,r,h1,kj,fun w' hw=>?_⟩;cases r with
 | none =>
  refine⟨_,_,hw,⟨⟨l++[x],?_,fun y=>?_⟩,?_,?_⟩⟩
  .have:=hT.push U x (.bool true) c
   simpa[tk] using this
  .simp[ag y]
  .intro e he;simp only[Array.toList_push,List.mem_append,List.mem_singleton] at he;rcases he with he | rfl
   .have:=hm.born e he;omega
   .show c<c+1;omega
  .simp only[Array.toList_push,List.map_append,List.map_cons,List.map_nil];rw[List.nodup_append];refine⟨hm.nodup,by simp,fun a bo ib C3=>?_⟩;obtain⟨e,he,rfl⟩:=List.mem_map.1 bo;simp only[List.mem_singleton] at C3
   have:=hm.born e he
   omega
 | some MG =>
  obtain⟨j,v⟩:=MG;obtain⟨_,e,he,ay⟩:=KB kj;have wi:e∈es.toList:=List.mem_of_getElem? he;obtain⟨y,b8,hk,aT⟩:=hm.mem e wi;have agA:x=y:=by rw[hk,IB] at ay;simpa using ay
  subst agA;have aga:es.modify j (fun e=>{ e with key:=.string x,val:=.bool true })=es:=ah5 (e:=e) (by simpa using he) (by cases e;simp only at hk aT;subst hk aT;rfl);have s0:w'.heap[b]? = some (.map es c):=by rw[hw];show some (Obj.map (es.modify j _) c)=_;rw[aga]
  exact⟨es,c,s0,⟨⟨l,U,fun z=>by rw[ag z];simp;rintro rfl;exact b8⟩,hm.born,hm.nodup⟩⟩
def mG(w:World)(r b:Nat)(L D:List ByteArray)(n:Nat)(cur:Option ByteArray):Prop :=
 ∃es c since seen bS,w.heap[b]? = some (.map es c)/\zc es c L/\w.heap[r]? = some (.mapIter (some b) since seen bS)/\(∀x∈es.toList,x.born<since)/\since<=bS/\since<=c/\(leftOf es seen).size=n /\
  (∀e∈es.toList,seen.contains e.born=true->∃x∈D,e.key = .string x)/\(∀x∈D,x∈L)/\(∀x,cur=some x->∃(NY:Array Nat) (e:MapEntry),bS=c/\seen=NY.push e.born/\e∈es.toList/\e.key = .string x/\e.val = .bool true)
theorem mG.of{w w':World}{r b:Nat}{L D:List ByteArray}{n:Nat}{cur:Option ByteArray}(h:mG w r b L D n cur)(bU:w'.heap[b]? = w.heap[b]?)(a6:w'.heap[r]? = w.heap[r]?):mG w' r b L D n cur :=
 let ⟨es,c,since,seen,bS,h1,U,ag,aJ⟩:=h; ⟨es,c,since,seen,bS,bU.trans h1,U,a6.trans ag,aJ⟩
theorem mG.sub{w:World}{r b:Nat}{L D:List ByteArray}{n:Nat}{cur:Option ByteArray}(h:mG w r b L D n cur):∀x∈D,x∈L:=let ⟨_,_,_,_,_,_,_,_,_,_,_,_,_,U,_⟩:=h;U
theorem mG.ne{w:World}{r b:Nat}{L D:List ByteArray}{n:Nat}{cur:Option ByteArray}(h:mG w r b L D n cur):r≠b:=by
 obtain⟨es,c,since,seen,bS,h1,U,ag,aJ⟩:=h;intro e;rw[e,h1] at ag;cases ag
theorem mG.lt{w:World}{r b:Nat}{L D:List ByteArray}{n:Nat}{cur:Option ByteArray}(h:mG w r b L D n cur):r<w.heap.size:=by
 obtain⟨es,c,since,seen,bS,h1,U,ag,aJ⟩:=h;exact cH ag
theorem mG.wr{w w':World}{r b k:Nat}{L D:List ByteArray}{n:Nat}{cur:Option ByteArray}(h:mG w r b L D n cur)(e:dC k w w')(h1:b≠k)(U:r≠k):mG w' r b L D n cur:=h.of (e.block b h1) (e.block r U)
theorem amx(k:Nat)(w:World):dC k w w.drew:=⟨rfl,rfl,rfl,rfl,fun _ _=>rfl⟩
section
variable{P:Program}{da:Value->World->Prop}{S:Fr}{w:World}{gm:World->Prop}{aI:Value->Prop}
theorem K.Wv{b:Nat}{L:List ByteArray}{x:ByteArray}{t}(h:fD w b L)(hk:aI (.bool (decide (x∈L)))):zb .string (.bool false) false (.map (some b)) (.string x) w aI t:=by
 obtain⟨es,r,h1,U,ag⟩:=h.look x;exact K.mv h1 U (by rw[ag];exact hk)
theorem K.Ih{b:Nat}{L:List ByteArray}{x:ByteArray}{t}(h:fD w b L)(hk:∀av,dC b w av->fD av b (L++[x])->gm av):xd .string (.map (some b)) (.string x) (.bool true) w gm t:=by
 obtain⟨es,c,q,h1,U,ag⟩:=h.put x;exact K.iS h1 U (hk _ (dC.fe w b _) (ag _ (Bm (cH h1))))
theorem K.akc{b:Nat}{L:List ByteArray}{x:Operand}{hf k e ty:TypeId}{t}(au:bn S x = .map (some b))(aL:P.underlying hf=some (.map k e))(h:fD w b L)
  (hk:∀av r n,w.heap.size<=r->Ext w av->mG av r b L [] n none->da (.pointer (some ⟨r,0,none⟩)) av):tB P (.range hf x) ty S w da t:=by
 obtain⟨es,c,h1,U⟩:=h;have hn:=run_range_map (P:=P) w hf k e b es c aL h1;refine K.raw (v:=.pointer (some ⟨w.heap.size,0,none⟩)) (w':=w.alloc (.mapIter (some b) c #[] c)) (by simp[execOp,au,hn,Result.andThen]) ?_;refine hk _ _ _ (Nat.le_refl _) ((Ext.refl w).alloc _) ⟨es,c,c,#[],c,heap_alloc_old h1,U,heap_alloc_new w _,U.born,Nat.le_refl _,Nat.le_refl _,rfl,?_,?_,?_⟩
 .intro e _ h;simp at h
 .intro x au;cases au
 .intro x au;cases au
theorem K.ait{r b n:Nat}{L D:List ByteArray}{cur:Option ByteArray}{x:Operand}{ty:TypeId}{t}(au:bn S x = .pointer (some ⟨r,0,none⟩))(h:mG w r b L D n cur)
  (ak:(∀y∈L,y∈D)->da (.tuple #[.bool false]) w)
  (h1:∀y av jG,y∈L->jG<n->dC r w av->mG av r b L (D++[y]) jG (some y)->da (.tuple #[.bool true,.string y,.bool true]) av):tB P (.next x false) ty S w da t:=by
 have c5:=h.ne;obtain⟨es,c,since,seen,bS,aC,hm,ba,hold,kX,Me,aD,lo,Tv,_⟩:=h;rcases run_next_at (P:=P) w ty r b since bS seen es c ba aC hold kX with ⟨bQ,hn⟩ | ⟨e,he,av,TR,hn⟩
 .refine K.raw (v:=.tuple #[.bool false]) (w':=w) (by simp[execOp,au,hn,Result.andThen]) (ak fun y b8=>?_);obtain⟨e,he,hk⟩:=hm.M8 y b8;obtain⟨z,HX,s6⟩:=lo e he (all_seen es seen bQ e he);rw[hk] at s6;injection s6 with s6
  rw[s6];exact HX
 .obtain⟨LB,aof⟩:=mem_left he;obtain⟨y,b8,hk,aT⟩:=hm.mem e LB;have na:dC r w av:=by
   rcases TR with rfl | rfl
   .exact dC.refl _ _
   .exact amx r w
  have dn:av.heap.size=w.heap.size:=na.size;have kk:r<av.heap.size:=by rw[dn];exact cH ba
  have DK:Go.ChangeMaps.setBlock av r (.mapIter (some b) since (seen.push e.born) c)=bt.fe av r (.mapIter (some b) since (seen.push e.born) c):=rfl;rw[DK] at hn;refine K.raw (v:=.tuple #[.bool true,e.key,e.val]) (w':=fe av r (.mapIter (some b) since (seen.push e.born) c)) (by simp[execOp,au,hn,Result.andThen]) ?_;rw[hk,aT];refine h1 y _ _ b8 (Nat.lt_of_lt_of_eq (left_shrinks es seen e he) aD) (na.trans (dC.fe _ _ _)) ⟨es,c,since,seen.push e.born,c,?_,hm,Bm kk,hold,Me,Me,rfl,fun f aK aw=>?_,fun z bQ=>?_,fun z bQ=>?_⟩
  .rw[N0 (Ne.symm c5)];rcases TR with rfl | rfl<;>exact aC
  .rw[contains_push] at aw;rcases Bool.or_eq_true_iff.1 aw with aw | aw
   .obtain⟨x,kl,hA⟩:=lo f aK aw;exact⟨x,by simp[kl],hA⟩
   .have sO:f.born=e.born:=by simpa using aw
    have bg:=find_born f es.toList hm.nodup aK;rw[sO,find_born e es.toList hm.nodup LB] at bg;injection bg with bg
    have:f=e:=bg.symm
    subst this;exact⟨y,by simp,hk⟩
  .rcases List.mem_append.1 bQ with bQ | bQ
   .exact Tv z bQ
   .simp only[List.mem_singleton] at bQ;subst bQ;exact b8
  .injection bQ with bQ
   subst bQ;exact⟨seen,e,rfl,rfl,LB,hk,aT⟩
theorem K.acb{r b n:Nat}{L D:List ByteArray}{y:ByteArray}{x:Operand}{ty:TypeId}{t}(au:bn S x = .pointer (some ⟨r,0,none⟩))(h:mG w r b L D n (some y))
  (hk:da (.tuple #[.string y,.bool true]) w):tB P (.entry x) ty S w da t:=by
 obtain⟨es,c,since,seen,bS,aC,hm,ba,hold,kX,Me,aD,lo,Tv,aw⟩:=h;obtain⟨NY,e,rfl,rfl,he,yd,de⟩:=aw y rfl;have hn:(Instr.entry (.pointer (some ⟨r,0,none⟩))).run P w = .ok (.tuple #[e.key,e.val]) w:=run_entry_at w r b since NY es bS e ba aC he hm.nodup;refine K.raw (v:=.tuple #[e.key,e.val]) (w':=w) (by simp[execOp,au,hn,Result.andThen]) ?_;rw[yd,de];exact hk
end
end bt
end
section
namespace Go.Proofs.R
open Go Go.RowKit bt
def u9(f:o.rq):List PanicEntry:=[{ v:=.iface T.ap (.agg #[.int .i64 f.cX,.int .i64 f.part,.int .i64 f.item,.int .i64 f.sub]),recovered:=false }]
theorem qj(e p i s:Int)(w:World):qu Tryz.prog F.b #[.int .i64 e,.int .i64 p,.int .i64 i,.int .i64 s] w (fun _ w'=>e=0/\w'=w) (fun c w'=>e≠0/\c=u9 ⟨e,p,i,s⟩/\w'=w):=by
 refine K.Fi mn E.b (args:=[_,_,_,_]) (Nat.le_of_ble_eq_true rfl) ?_;dsimp only[C.b];refine bG ?_;refine aa ?_;refine K.cond (fun g=>?_) (fun g=>?_)
 .refine aa ?_;exact⟨g,bk⟩
 .refine aa ?_;exact⟨g,bk,bk⟩
theorem IP(b:Nat)(L:List ByteArray)(x:ByteArray)(p i:Int)(w:World)(h:fD w b L):qu Tryz.prog F.z #[.map (some b),.string x,.int .i64 p,.int .i64 i] w
  (fun _ w' => ¬x∈L/\dC b w w'/\fD w' b (L++[x])) (fun c w'=>x∈L/\c=u9 ⟨7,p,i,0⟩/\w'=w):=by
 refine K.Fi mn E.z (args:=[_,_,_,_]) (Nat.le_of_ble_eq_true rfl) ?_;dsimp only[C.z];refine bG ?_;refine aa ?_;refine K.Wv h ?_;refine aa ?_;refine K.cond (fun g=>?_) (fun g=>?_)
 .refine aa ?_;refine K.ff (qj 7 p i 0 w) ?_ ?_
  .rintro _ _ ⟨ak,_⟩;exact absurd ak (by decide)
  .rintro c _ ⟨_,rfl,rfl⟩;refine aa ?_;exact⟨g,bk,bk⟩
 .refine aa ?_;refine K.Ih h fun av hw h1=>?_;refine aa ?_;exact⟨g,hw,h1⟩
end Go.Proofs.R
end
section
namespace Go.Proofs.R
open Go Go.RowKit bt
structure jr(w0 w:World)(dU bC:Nat)(cs:List Value)(w':World)(L:List ByteArray):Prop where
 ext:Ext w0 w'
 mod:Mod (fun k=>k=dU) w w'
 box:w'.heap[bC]? = some (.cells cs.toArray T.b)
 set:fD w' dU L
 low:w0.heap.size<=dU
 ne:bC≠dU
section
variable{w0 w w' b2:World}{dU bC:Nat}{cs:List Value}{L mH:List ByteArray}
theorem jr.then(h:jr w0 w dU bC cs w' L)(he:Ext w' b2):jr w0 w dU bC cs b2 L:=⟨h.ext.trans he,h.mod.trans he.mod,he.obj h.box,h.set.ext he,h.low,h.ne⟩
theorem jr.wr(h:jr w0 w dU bC cs w' L)(hw:dC dU w' b2)(ay:fD b2 dU mH):jr w0 w dU bC cs b2 mH:=⟨hw.ext h.ext h.low,h.mod.trans (hw.mod rfl),hw.obj h.box h.ne,ay,h.low,h.ne⟩
theorem jr.iu(h:jr w0 w dU bC cs w' L)(e:L=mH):jr w0 w dU bC cs w' mH:=e ▸ h
end
theorem ado{w0:World}(cs:List Value)(m:o.Model)(dU:Nat)(w:World)(h:o.ec w0 cs m)(dS:Ext w0 w)(z8:w0.heap.size<=dU)(bc:hv w0)(ay:fD w dU []) :
  qu Tryz.prog F.vL #[.agg cs.toArray,.map (some dU)] w (fun _ w'=>(o.data m).cX=0/\Ext w0 w'/\Mod (fun k=>k=dU) w w'/\fD w' dU (o.mw m m.aM.length))
   (fun c w'=>(o.data m).cX≠0/\c=u9 (o.data m)/\Ext w0 w'/\Mod (fun k=>k=dU) w w'):=by
 obtain⟨cz,bS,b9,c1,cn,c2,cp,bP,cA,bX,rfl,ak,h1,U,ag,aJ,eI,ej,eo,dX,ep⟩:=h.form;refine K.Fi mn E.vL (args:=[_,_]) (Nat.le_of_ble_eq_true rfl) ?_;dsimp only[C.vL];refine bG ?_;refine aa ?_;intro av bC cR aB ao;have st1:jr w0 w dU bC _ av []:=⟨dS.trans aB,aB.mod,ao,ay.ext aB,z8,by have:=ay.lt;omega⟩;clear ay;refine aa ?_;refine K.call (akH _ m.scalars av (bc.ext st1.ext) (ak.ext st1.ext)) ?_;rintro _ aU ⟨rfl,aA⟩;replace st1:=st1.then aA;clear ao;refine aa ?_;refine K.ff (qj (o.scalars m.scalars).2 1 (o.scalars m.scalars).1 0 aU) ?_ ?_;rotate_left
 .rintro c _ ⟨g,rfl,rfl⟩;refine aa ?_;rw[o.Sk g];exact⟨g,rfl,st1.ext,st1.mod⟩
 rintro _ _ ⟨cg,rfl⟩;have ao:=st1.box;refine aa ?_;refine K.dj 24 m.scalars.length [1,2,22,23] (fun _:Unit=>[]) () (fun k _ w'=>jr w0 w dU bC _ w' ((m.scalars.take k).map (·.name))) bx bx (st1.iu (by simp)) ?_;clear ao aA st1;rintro k _ S bb hk k1;have ao:=k1.box;have bK:=k1.ext;refine aa ?_;apply K.cond<;>intro g1
 .have br:k<m.scalars.length:=by omega
  obtain⟨a,rfl⟩:=ak.addr (by omega);refine aa ?_;intro bp b5 fo aN bz;have kp:=k1.then aN;refine aa ?_;refine K.Ih kp.set fun bR hw uy=>?_;refine aa ?_;exact⟨br,bk,(),trivial,(kp.wr hw uy).iu (o.Bq _ _ br).symm⟩
 replace k1:=k1.iu (show _=o.q5 m 0 by rw[List.take_of_length_le (by omega)];simp);refine aa ?_;refine K.call (YN _ _ m.vars m.scalars 12 bb (bc.ext bK) (h1.ext bK) (ak.ext bK)) ?_;rintro _ bp ⟨rfl,aN⟩;replace k1:=k1.then aN;clear ao bK;have ao:=k1.box;rw[o.amh];refine aa ?_;refine K.dj 43 m.vars.length [1,2,4,5,41,42] (fun _:Unit=>[]) () (fun k _ w'=>jr w0 w dU bC _ w' (o.q5 m k)/\∀j,j<k->o.iN m j=0) bx bx ⟨k1,fun j h=>absurd h (Nat.not_lt_zero _)⟩ ?_;clear ao k1 aN;rintro k _ bh bR hk ⟨hD,bQ⟩;have ao:=hD.box;have b3:=hD.ext;refine aa ?_;apply K.cond<;>intro g1
 .have br:k<m.vars.length:=by omega
  obtain⟨a,rfl⟩:=h1.addr (by omega);have fI:=o.A0 (f:=fun x:o.Var=>x.name) br;refine aa ?_;intro Bw hi lp ml pU;refine ef ?_;intro bY fZ ct;have a8:=fZ.ext ml lp;have hd:=hD.then a8;replace ao:=hd.box;clear pU ml;refine ef ?_;refine K.gU [1,2,4,5,8,9,41,42,43] (fun _:Unit=>[]) (fun _ w'=>w'=bY/\o.nm m k=0) ?_ ?_
  .refine aa ?_;apply K.cond<;>intro g2
   .refine aa ?_;refine K.ff (qj (o.first m.vars.length (o.nm m)).2 2 k 0 bY) ?_ ?_
    .rintro _ _ ⟨gG,rfl⟩;refine aa ?_;exact⟨(),trivial,bk,o.tY gG k br⟩
    .rintro c _ ⟨gG,rfl,rfl⟩;obtain⟨i,ad,bU,a6⟩:=o.S8 gG;obtain rfl:k=i:=by omega
     rw[a6] at gG;have kf:o.iN m k=o.nm m k:=by unfold o.iN;rw[if_pos gG]
     have bw:=o.GF cg br bQ (by rw[kf];exact gG);rw[kf] at bw;refine aa ?_;rw[bw,a6];exact⟨gG,bk,hd.ext,hd.mod⟩
   .refine aa ?_;refine⟨(),trivial,bk,?_⟩;apply Classical.byContradiction;intro c5;apply g2;rw[o.iB br (fun j aR=>o.I0 (bQ j aR)) c5]
  rintro _ kt _ ⟨rfl,iF⟩;refine aa ?_;refine K.ff (IP dU (o.q5 m k) m.vars[k].name 2 k _ hd.set) ?_ ?_
  .rintro _ cd ⟨aD,dB,jC⟩;refine aa ?_;refine⟨br,bk,(),trivial,(hd.wr dB jC).iu (by simp only[o.q5,o.yH];rw[o.Bq (fun x:o.Var=>x.name) _ br,List.append_assoc]),fun j aR=>?_⟩;by_cases h2:j=k
   .subst h2;unfold o.iN;rw[if_neg (by simpa using iF),fI,if_neg aD]
   .exact bQ j (by omega)
  .rintro c _ ⟨aD,rfl,rfl⟩;have kf:o.iN m k=7:=by unfold o.iN;rw[if_neg (by simpa using iF),fI,if_pos aD]
   have bw:=o.GF cg br bQ (by rw[kf];decide);rw[kf] at bw;refine aa ?_;rw[bw];exact⟨(show(7:Int)≠0 by decide),bk,hd.ext,hd.mod⟩
 have lT:m.vars.length<=k:=by omega
 have mV:∀j,j<m.vars.length->o.iN m j=0:=fun j aR=>bQ j (by omega);replace hD:=hD.iu (show _=o.mw m 0 by simp only[o.mw,o.q5,o.yH,o.yG];rw[List.take_of_length_le lT];simp);refine aa ?_;refine K.call (abh _ _ m.aM m.scalars bR (bc.ext b3) (U.ext b3) (ak.ext b3)) ?_;rintro _ bY ⟨rfl,a8⟩;replace hD:=hD.then a8;clear ao b3;have ao:=hD.box;rw[o.abg];refine aa ?_;refine K.dj 71 m.aM.length [1,2,4,5,69,70] (fun _:Unit=>[]) () (fun k _ w'=>jr w0 w dU bC _ w' (o.mw m k)/\∀j,j<k->o.jQ m j=0) bx bx ⟨hD,fun j h=>absurd h (Nat.not_lt_zero _)⟩ ?_;clear ao hD a8;rintro k _ bh cd hk ⟨iJ,bQ⟩;have ao:=iJ.box;have dw:=iJ.ext;refine aa ?_;apply K.cond<;>intro g1
 .have br:k<m.aM.length:=by omega
  obtain⟨a,rfl⟩:=U.addr (by omega);have fI:=o.A0 (f:=fun x:o.dv=>x.name) br;refine aa ?_;intro Bw hi lp ml pU;refine ef ?_;intro bY fZ ct;have a8:=fZ.ext ml lp;have hd:=iJ.then a8;replace ao:=hd.box;clear pU ml;refine ef ?_;refine K.gU [1,2,4,5,10,11,69,70,71] (fun _:Unit=>[]) (fun _ w'=>w'=bY/\o.mT m k=0) ?_ ?_
  .refine aa ?_;apply K.cond<;>intro g2
   .refine aa ?_;refine K.ff (qj (o.first m.aM.length (o.mT m)).2 3 k 0 bY) ?_ ?_
    .rintro _ _ ⟨gG,rfl⟩;refine aa ?_;exact⟨(),trivial,bk,o.tY gG k br⟩
    .rintro c _ ⟨gG,rfl,rfl⟩;obtain⟨i,ad,bU,a6⟩:=o.S8 gG;obtain rfl:k=i:=by omega
     rw[a6] at gG;have kf:o.jQ m k=o.mT m k:=by unfold o.jQ;rw[if_pos gG]
     have bw:=o.GC cg mV br bQ (by rw[kf];exact gG);rw[kf] at bw;refine aa ?_;rw[bw,a6];exact⟨gG,bk,hd.ext,hd.mod⟩
   .refine aa ?_;refine⟨(),trivial,bk,?_⟩;apply Classical.byContradiction;intro c5;apply g2;rw[o.iB br (fun j aR=>o.Gu (bQ j aR)) c5]
  rintro _ kt _ ⟨rfl,iF⟩;refine aa ?_;refine K.ff (IP dU (o.mw m k) m.aM[k].name 3 k _ hd.set) ?_ ?_
  .rintro _ cd ⟨aD,dB,jC⟩;refine aa ?_;refine⟨br,bk,(),trivial,(hd.wr dB jC).iu (by simp only[o.mw,o.yG];rw[o.Bq (fun x:o.dv=>x.name) _ br,List.append_assoc]),fun j aR=>?_⟩;by_cases h2:j=k
   .subst h2;unfold o.jQ;rw[if_neg (by simpa using iF),fI,if_neg aD]
   .exact bQ j (by omega)
  .rintro c _ ⟨aD,rfl,rfl⟩;have kf:o.jQ m k=7:=by unfold o.jQ;rw[if_neg (by simpa using iF),fI,if_pos aD]
   have bw:=o.GC cg mV br bQ (by rw[kf];decide);rw[kf] at bw;refine aa ?_;rw[bw];exact⟨(show(7:Int)≠0 by decide),bk,hd.ext,hd.mod⟩
 have qO:m.aM.length<=k:=by omega
 refine aa ?_;refine⟨by rw[o.Si cg mV fun j aR=>bQ j (by omega)];rfl,iJ.ext,iJ.mod,(iJ.iu ?_).set⟩;simp only[o.mw,o.yG];rw[List.take_of_length_le qO,List.take_of_length_le (Nat.le_refl _)]
end Go.Proofs.R
end
section
namespace Go.Proofs.R
open Go Go.RowKit bt
theorem jr.Oy{w0 w w' b2:World}{dU bC k:Nat}{cs:List Value}{L:List ByteArray}(h:jr w0 w dU bC cs w' L)(dn:w0.heap.size<=w.heap.size)(hw:dC k w' b2)(hk:w.heap.size<=k)(h1:bC≠k)(U:dU≠k):jr w0 w dU bC cs b2 L :=
 ⟨hw.ext h.ext (Nat.le_trans dn hk),h.mod.then (hw.mod (A:=fun j=>j=k) rfl) fun i ad e=>absurd e (by omega),hw.obj h.box h1,h.set.wr hw U,h.low,h.ne⟩
theorem ajf{w0:World}(cs:List Value)(m:o.Model)(dU:Nat)(w:World)(h:o.ec w0 cs m)(aZ:m.cQ)(dS:Ext w0 w)(z8:w0.heap.size<=dU)(bc:hv w0)(bw:(o.data m).cX=0)(ay:fD w dU (o.mw m m.aM.length)) :
  qu Tryz.prog F.vM #[.agg cs.toArray,.map (some dU)] w (fun _ w'=>(o.lE m).cX=0/\Ext w0 w'/\Mod (fun k=>k=dU) w w'/\fD w' dU (o.im m m.procs.length))
   (fun c w'=>(o.lE m).cX≠0/\c=u9 (o.lE m)/\Ext w0 w'/\Mod (fun k=>k=dU) w w'):=by
 have bq:=h;obtain⟨cz,bS,b9,c1,cn,c2,cp,bP,cA,bX,rfl,ak,h1,U,ag,aJ,eI,ej,eo,dX,ep⟩:=h.form;have dn:=dS.size;refine K.Fi mn E.vM (args:=[_,_]) (Nat.le_of_ble_eq_true rfl) ?_;dsimp only[C.vM];refine bG ?_;refine aa ?_;intro av bC cR aB ao;have st1:jr w0 w dU bC _ av (o.mw m m.aM.length):=⟨dS.trans aB,aB.mod,ao,ay.ext aB,z8,by have:=ay.lt;omega⟩;have amG:=ay.lt;have gh:=cH ao;clear ay ao;refine aa ?_;refine K.A1 fun aU hj anW aA fp=>?_;replace st1:=st1.then aA;have u2:fD aU hj []:=fD.empty fp;have z0:=aB.size;have z2:=u2.lt;clear fp;refine aa ?_;refine K.akc (b:=dU) rfl (k:=T.k) (e:=T.p) (by kernel_rfl) st1.set fun bb r n ba ax pb=>?_;replace st1:=st1.then ax;replace u2:=u2.ext ax;have z4:=aA.size;have z5:=pb.lt;refine aa ?_;refine K.w3 [1,2,4,20] (fun _:List ByteArray×Nat=>[]) ([],n) (fun x w'=>jr w0 w dU bC _ w' (o.mw m m.aM.length)/\fD w' hj x.1/\∃cur,mG w' r dU (o.mw m m.aM.length) x.1 x.2 cur) (fun x=>x.2) bx ⟨st1,u2,_,pb⟩ ?_;clear st1 u2 pb;rintro⟨D,jG⟩ S bp ⟨kp,u2,cur,pb⟩;have ao:=kp.box;refine aa ?_;refine K.ait rfl pb (fun dF=>?_) (fun y bR jY b8 cw eZ UB=>?_);rotate_left
 .have hD:=kp.Oy dn eZ (by omega) (by omega) (by omega);have akA:=u2.wr eZ (by omega);refine aa ?_;refine K.acb rfl UB ?_;refine aa ?_;refine K.Ih akA fun bY fZ akB=>?_;have hd:=hD.Oy dn fZ (by omega) (by omega) (by omega);have afd:=UB.wr fZ (by omega) (by omega);refine aa ?_;exact⟨(D++[y],jY),trivial,⟨hd,akB,_,afd⟩,cw⟩
 have iV:fD bp hj (o.im m 0):=u2.iu fun x=>by
  have agh:=pb.sub;simp only[o.im,o.wJ,List.take_zero,List.map_nil,List.append_nil];exact⟨fun au=>agh x au,fun au=>dF x au⟩
 clear u2 pb dF;refine aa ?_;refine K.dj 30 m.procs.length [1,2,4,28,29] (fun _:Unit=>[]) () (fun k _ w'=>jr w0 w dU bC _ w' (o.mw m m.aM.length)/\fD w' hj (o.im m k)) bx bx ⟨kp,iV⟩ ?_;clear ao kp iV;rintro k _ bh bR hk ⟨hD,iV⟩;have ao:=hD.box;have b3:=hD.ext;refine aa ?_;apply K.cond<;>intro g1
 .have br:k<m.procs.length:=by omega
  obtain⟨a,rfl⟩:=ag.addr (by omega);obtain⟨_,cE,dT,aO,eR,dL⟩:=ag.at k br;obtain⟨e1,fv,rfl,ga⟩:=eR.form;obtain⟨oE,oe,rfl,lc⟩:=dL.form;replace aO:=aO.ext b3;refine aa ?_;intro bY lh jw a8 cS;have hd:=hD.then a8;replace iV:=iV.ext a8;refine aa ?_;refine K.Ih iV fun cd dB akE=>?_;have iJ:=hd.Oy dn dB (by omega) (by omega) (by omega);refine aa ?_;exact⟨br,bk,(),trivial,iJ,by simp only[o.im,o.wJ];rw[o.Bq (fun x:o.dz=>x.name) _ br,<-List.append_assoc];exact akE⟩
 have X4:∀{w'},fD w' hj (o.im m k)->fD w' hj (o.im m m.procs.length):=fun h=>h.iu fun x=>by
  simp only[o.im,o.wJ];rw[List.take_of_length_le (by omega),List.take_of_length_le (Nat.le_refl _)]
 replace iV:=X4 iV;clear X4;replace hD:=hD.iu (show _=o.im m 0 by simp[o.im]);refine aa ?_;refine K.dj 41 m.procs.length [1,2,4,39,40] (fun _:Unit=>[]) () (fun k _ w'=>jr w0 w dU bC _ w' (o.im m k)/\fD w' hj (o.im m m.procs.length)/\∀j,j<k->(o.hX m j).1=0) bx bx ⟨hD,iV,fun j h=>absurd h (Nat.not_lt_zero _)⟩ ?_;clear ao b3 hD iV;rintro k _ kt bY hk ⟨hd,iV,bQ⟩;have ao:=hd.box;have cV:=hd.ext;have By:=hd.mod.size;refine aa ?_;apply K.cond<;>intro g1
 .have br:k<m.procs.length:=by omega
  obtain⟨a,rfl⟩:=ag.addr (by omega);obtain⟨mr,cE,dT,aO,eR,dL⟩:=ag.at k br;obtain⟨e1,fv,rfl,ga⟩:=eR.form;obtain⟨oE,oe,rfl,lc⟩:=dL.form;have nO:=aZ.proc _ (List.getElem_mem br);have ei:=o.Kt br;replace aO:=aO.ext cV;refine aa ?_;intro Bw hi lp ml pU;refine ef ?_;intro cd dB dJ;have bJ:=dB.ext ml lp;have iJ:=hd.then bJ;replace iV:=iV.ext bJ;replace ao:=iJ.box;have aqg:=cH dJ;have Fz:=iV.lt;have dw:=iJ.ext;clear pU ml dB;refine aa ?_;apply K.cond<;>intro g2
  .have bO:6<=k:=by omega
   rw[if_pos bO] at ei;have kT:=o.EV br bQ (by rw[ei];decide);rw[ei] at kT;refine aa ?_;refine K.ff (qj 11 4 k 0 cd) ?_ ?_
   .rintro _ _ ⟨gG,_⟩;exact absurd gG (by decide)
   .rintro c _ ⟨_,rfl,rfl⟩;refine aa ?_;rw[kT];exact⟨(show(11:Int)≠0 by decide),bk,dw,iJ.mod⟩
  rw[if_neg (by omega)] at ei;refine aa ?_;intro dg bV;replace ao:=bV.obj ao;replace dJ:=bV.obj dJ;refine aa ?_;refine K.call (X6 _ m k dg (bq.ext (dw.trans bV)) aZ) ?_;rintro _ ea ⟨⟨anp,rfl,HH⟩,b1⟩;refine⟨b1,?_⟩;have kX:=HH.here;obtain⟨k3,Fx,j1,kI,j2,kq,nY,yZ,nq,y0,rfl,_⟩:=kX.form;refine aa ?_;refine K.call (ai6 m.procs[k] _ _ (o.gJ m k) ea (bc.ext (dw.trans (bV.trans b1))) ⟨mr,_,_,rfl,eR.ext (dw.trans (bV.trans b1)),dL.ext (dw.trans (bV.trans b1))⟩ kX (aZ.gJ _) nO) ?_;rintro _ e3 ⟨rfl,cv⟩;have SH:=(bV.trans b1).trans cv;have yO:=iJ.then SH;replace iV:=iV.ext SH;replace ao:=yO.box;replace dJ:=(b1.trans cv).obj dJ;have aqf:=cH dJ;have aqd:=iV.lt;clear kX HH iJ dw;have jv:=yO.ext;have eU:=o.Xa m.procs[k] (o.gJ m k) 140737488351232 fun c aw=>by have:=(nO.cmd c aw).cb;unfold o.dN at this;omega
  have ago:m.procs[k].vars.length<=140737488351232:=by have:=nO.vars;unfold o.dN at this;omega
  have nJ:m.procs[k].cI.length<=140737488351232:=by have:=nO.cI;unfold o.dN at this;omega
  refine aa ?_;refine K.ff (qj (o.ho m.procs[k] (o.gJ m k)).2.2 4 k (16*(o.ho m.procs[k] (o.gJ m k)).1+(o.ho m.procs[k] (o.gJ m k)).2.1) e3) ?_ ?_;rotate_left
  .rintro c _ ⟨gG,rfl,rfl⟩;rw[if_pos gG] at ei;have kT:=o.EV br bQ (by rw[ei];exact gG);rw[ei] at kT;refine aa ?_;rw[kT];exact⟨gG,bk,jv,yO.mod⟩
  rintro _ np ⟨gG,rfl⟩;rw[if_neg (by simpa using gG)] at ei;refine aa ?_;refine K.ff (IP dU (o.im m k) m.procs[k].name 4 k np yO.set) ?_ ?_;rotate_left
  .rintro c _ ⟨aD,rfl,rfl⟩;rw[if_pos aD] at ei;have kT:=o.EV br bQ (by rw[ei];decide);rw[ei] at kT;refine aa ?_;rw[kT];exact⟨(show(7:Int)≠0 by decide),bk,jv,yO.mod⟩
  rintro _ gg ⟨aD,gZ,af6⟩;rw[if_neg aD] at ei;have IJ:jr w0 w dU bC _ gg (o.im m (k+1)):=(yO.wr gZ af6).iu (by simp only[o.im,o.wJ];rw[o.Bq (fun x:o.dz=>x.name) _ br,List.append_assoc]);replace iV:=iV.wr gZ (by omega);replace ao:=IJ.box;replace dJ:=gZ.obj dJ (by omega);have sC:=IJ.ext;have OG:=gZ.size;clear yO jv;refine aa ?_;refine K.dj 74 m.procs[k].vars.length [1,2,4,8,9,39,40,41,72,73] (fun _:Unit=>[]) () (fun j _ w'=>jr w0 w dU bC _ w' (o.im m (k+1))/\fD w' hj (o.im m m.procs.length)/\Ext gg w'/\∀i,i<j->o.pO m m.procs[k] i=0) bx bx ⟨IJ,iV,Ext.refl _,fun j h=>absurd h (Nat.not_lt_zero _)⟩ ?_;have mj:=dJ;clear IJ iV ao dJ sC;rintro j _ Jx lI aR ⟨IK,iV,fx,s6⟩;have ao:=IK.box;have dJ:=fx.obj mj;have zQ:=IK.ext;refine aa ?_;apply K.cond<;>intro g3
  .have eP:j<m.procs[k].vars.length:=by omega
   obtain⟨di,rfl⟩:=eR.addr (by omega);have en:=((eR.at j eP).cells).ext zQ;have fI:=o.A0 (f:=fun x:o.Var=>x.name) eP;refine aa ?_;intro apW am5 aeb Ur Lc;refine ef ?_;intro nn hK ael;have ke:=hK.ext Ur aeb;have IL:=IK.then ke;replace iV:=iV.ext ke;replace ao:=IL.box;clear Lc Ur hK;refine aa ?_;refine K.Wv iV ?_;refine aa ?_;apply K.cond<;>intro g4
   .have um:o.pO m m.procs[k] j=7:=by unfold o.pO;rw[fI,if_pos g4]
    rw[o.iB eP s6 (by rw[um];decide),um,if_pos (show(7:Int)≠0 by decide)] at ei;have kT:=o.EV br bQ (by rw[ei];exact(show(7:Int)≠0 by decide));rw[ei] at kT;refine aa ?_;refine K.ff (qj 7 4 k (16+j) nn) ?_ ?_
    .rintro _ _ ⟨xW,_⟩;exact absurd xW (by decide)
    .rintro c _ ⟨_,rfl,rfl⟩;refine aa ?_;rw[kT];exact⟨(show(7:Int)≠0 by decide),bk,IL.ext,IL.mod⟩
   .refine aa ?_;refine⟨eP,bk,(),trivial,IL,iV,fx.trans ke,fun i ad=>?_⟩;by_cases Aj:i=j
    .subst Aj;unfold o.pO;rw[fI,if_neg g4]
    .exact s6 i (by omega)
  .rw[o.oj fun i ad=>s6 i (by omega),if_neg (by simp)] at ei;refine aa ?_;refine⟨br,bk,(),trivial,IK,iV,fun i ad=>?_⟩;by_cases Ak:i=k
   .subst Ak;rw[ei]
   .exact bQ i (by omega)
 have wg:m.procs.length<=k:=by omega
 have x0:∀j,j<m.procs.length->(o.hX m j).1=0:=fun j aR=>bQ j (by omega);have Ho:=o.GD bw;have qV:m.procs.length<=6:=by
  apply Classical.byContradiction;intro aD
  have:=o.GL (i:=6) (by omega) (x0 6 (by omega))
  omega
 have rM:o.tx m:=⟨by omega,by omega,by omega,fun p aO=>by
  obtain⟨j,aR,rfl⟩:=List.mem_iff_getElem.1 aO
  have:=o.Ng (o.zR aR (x0 j aR)).2.1
  omega⟩
 refine aa ?_;refine K.call (ai7 _ m bY (bq.ext cV) rM) ?_;rintro _ cd ⟨rfl,bJ⟩;have iJ:=hd.then bJ;replace ao:=iJ.box;have p3:=o.Ni x0;have DK:fD cd dU (o.im m m.procs.length):=by
  have h:=iJ.set;simp only[o.im,o.wJ] at h ⊢;rw[List.take_of_length_le wg] at h;rw[List.take_of_length_le (Nat.le_refl _)];exact h
 refine aa ?_;apply K.cond<;>intro g2
 .rw[if_pos (.inl (by omega))] at p3;refine aa ?_;refine K.ff (qj 11 4 m.procs.length 0 cd) ?_ ?_
  .rintro _ _ ⟨xW,_⟩;exact absurd xW (by decide)
  .rintro c _ ⟨_,rfl,rfl⟩;refine aa ?_;rw[p3];exact⟨(show(11:Int)≠0 by decide),bk,iJ.ext,iJ.mod⟩
 refine aa ?_;apply K.cond<;>intro g3
 .rw[if_pos (.inr (by omega))] at p3;refine aa ?_;refine K.ff (qj 11 4 m.procs.length 0 cd) ?_ ?_
  .rintro _ _ ⟨xW,_⟩;exact absurd xW (by decide)
  .rintro c _ ⟨_,rfl,rfl⟩;refine aa ?_;rw[p3];exact⟨(show(11:Int)≠0 by decide),bk,iJ.ext,iJ.mod⟩
 rw[if_neg (by omega)] at p3;refine aa ?_;exact⟨by rw[p3];rfl,iJ.ext,iJ.mod,DK⟩
theorem ajh{w0:World}(cs:List Value)(m:o.Model)(dU:Nat)(w:World)(h:o.ec w0 cs m)(aZ:m.cQ)(dS:Ext w0 w)(z8:w0.heap.size<=dU)(bc:hv w0)(ay:fD w dU (o.im m m.procs.length)) :
  qu Tryz.prog F.vN #[.agg cs.toArray,.map (some dU)] w (fun _ w'=>(o.oF m).cX=0/\Ext w0 w'/\Mod (fun k=>k=dU) w w')
   (fun c w'=>(o.oF m).cX≠0/\c=u9 (o.oF m)/\Ext w0 w'/\Mod (fun k=>k=dU) w w'):=by
 have bq:=h;obtain⟨cz,bS,b9,c1,cn,c2,cp,bP,cA,bX,rfl,ak,h1,U,ag,aJ,eI,ej,eo,dX,ep⟩:=h.form;refine K.Fi mn E.vN (args:=[_,_]) (Nat.le_of_ble_eq_true rfl) ?_;dsimp only[C.vN];refine bG ?_;refine aa ?_;intro av bC cR aB ao;have st1:jr w0 w dU bC _ av (o.q4 m 0):=⟨dS.trans aB,aB.mod,ao,by have:=ay.ext aB;simpa[o.q4] using this,z8,by have:=ay.lt;omega⟩;have amG:=ay.lt;have z0:=aB.size;clear ay;refine aa ?_;refine K.call (X6 _ m (-1) av (bq.ext st1.ext) aZ) ?_;rintro _ aU ⟨⟨ann,rfl,ki⟩,aA⟩;rw[o.Iu (.inl (by decide))] at ki;have kX:=ki.here;obtain⟨k3,Fx,j1,kI,j2,kq,nY,yZ,nq,y0,rfl,_⟩:=kX.form;clear kX;have st2:=st1.then aA;clear ao st1;have gh:=aA.size;refine aa ?_;intro bb cM fM ax bA;have UY:=ki.ext ax gh;have k1:=st2.then ax;have ao:=k1.box;clear ki st2;refine aa ?_;refine K.dj 14 m.props.length [1,2,4,12,13] (fun _:Unit=>[]) () (fun k _ w'=>jr w0 w dU bC _ w' (o.q4 m k)/\eH av (fun w=>o.fC w _ (o.eN m)) w'/\w'.heap[cM]? = some (.cells (List.toArray [_,_,_,_,_,_]) T.e)/\av.heap.size<=w'.heap.size/\∀j,j<k->o.mb m j=0) bx bx ⟨k1,UY,bA,by have:=ax.size;omega,fun j h=>absurd h (Nat.not_lt_zero _)⟩ ?_;clear ao k1 UY bA;rintro k _ S bp hk ⟨kp,ox,bA,z4,bQ⟩;have ao:=kp.box;have b0:=kp.ext;refine aa ?_;apply K.cond<;>intro g1
 .have br:k<m.props.length:=by omega
  obtain⟨a,rfl⟩:=aJ.addr (by omega);obtain⟨mr,ht,aO,gY⟩:=aJ.at k br;obtain⟨Iq,ce,rfl,le⟩:=gY.form;have ei:=o.CE br;replace aO:=aO.ext b0;have z5:=kp.mod.size;refine aa ?_;intro Bw ek e6 ml pU;refine ef ?_;intro bR eZ ct;have aW:=eZ.ext ml e6;have hD:=kp.then aW;replace ox:=ox.ext aW z4;replace bA:=aW.obj bA;replace ao:=hD.box;have b3:=hD.ext;clear pU ml eZ kp;have bw:o.mb m k≠0->o.oF m=⟨o.mb m k,5,k,0⟩:=o.Xd br bQ;refine aa ?_;apply K.cond<;>intro g2
  .rw[if_pos (by omega)] at ei;rw[ei] at bw;replace bw:=bw (by decide);refine aa ?_;refine K.ff (qj 11 5 k 0 bR) ?_ ?_
   .rintro _ _ ⟨gG,_⟩;exact absurd gG (by decide)
   .rintro c _ ⟨_,rfl,rfl⟩;refine aa ?_;rw[bw];exact⟨(show(11:Int)≠0 by decide),bk,b3,hD.mod⟩
  rw[if_neg (by omega)] at ei;refine aa ?_;refine K.call (Ii m.props[k].name bR (bc.ext b3) mr) ?_;rintro _ bY ⟨rfl,a8⟩;have hd:=hD.then a8;replace ox:=ox.ext a8 (by have:=aW.size;omega);replace bA:=a8.obj bA;replace ct:=a8.obj ct;replace ao:=hd.box;have cV:=hd.ext;clear hD;refine aa ?_;refine K.du (fun g3=>?_) (fun g3=>?_);rotate_left
  .rw[if_pos g3] at ei;rw[ei] at bw;replace bw:=bw (by decide);refine aa ?_;refine K.ff (qj 6 5 k 0 bY) ?_ ?_
   .rintro _ _ ⟨gG,_⟩;exact absurd gG (by decide)
   .rintro c _ ⟨_,rfl,rfl⟩;refine aa ?_;rw[bw];exact⟨(show(6:Int)≠0 by decide),bk,cV,hd.mod⟩
  rw[if_neg (by rw[g3];decide)] at ei;refine aa ?_;refine K.ff (IP dU (o.q4 m k) m.props[k].name 5 k bY hd.set) ?_ ?_;rotate_left
  .rintro c _ ⟨aD,rfl,rfl⟩;rw[if_pos aD] at ei;rw[ei] at bw;replace bw:=bw (by decide);refine aa ?_;rw[bw];exact⟨(show(7:Int)≠0 by decide),bk,hd.ext,hd.mod⟩
  rintro _ cd ⟨aD,dB,jC⟩;rw[if_neg aD] at ei;have iJ:jr w0 w dU bC _ cd (o.q4 m (k+1)):=(hd.wr dB jC).iu (by simp only[o.q4,o.MZ];rw[o.Bq (fun x:o.ks=>x.name) _ br,List.append_assoc]);replace ox:=ox.wr dB (by omega);replace bA:=dB.obj bA (by omega);replace ct:=dB.obj ct (by omega);replace ao:=iJ.box;have dw:=iJ.ext;clear hd cV;refine aa ?_;refine K.call (V4 _ m.props[k].expr _ _ cd (gY.ext dw) ox.here) ?_;rintro _ dg ⟨rfl,bV⟩;have Fh:=iJ.then bV;have Ze:=dB.size;replace ox:=ox.ext bV (by have:=aW.size;have:=a8.size;omega);replace bA:=bV.obj bA;replace ao:=Fh.box;have dW:=Fh.ext;clear iJ;refine aa ?_;refine K.ff (qj (o.kind m.props[k].expr (o.eN m)).2 5 k 0 dg) ?_ ?_;rotate_left
  .rintro c _ ⟨gG,rfl,rfl⟩;rw[if_pos gG] at ei;rw[ei] at bw;replace bw:=bw gG;refine aa ?_;rw[bw];exact⟨gG,bk,dW,Fh.mod⟩
  rintro _ ea ⟨gG,rfl⟩;rw[if_neg (by simpa using gG)] at ei;refine aa ?_;apply K.cond<;>intro g4;rotate_left
  .rw[if_pos g4] at ei;rw[ei] at bw;replace bw:=bw (by decide);refine aa ?_;refine K.ff (qj 9 5 k 0 ea) ?_ ?_
   .rintro _ _ ⟨xW,_⟩;exact absurd xW (by decide)
   .rintro c _ ⟨_,rfl,rfl⟩;refine aa ?_;rw[bw];exact⟨(show(9:Int)≠0 by decide),bk,dW,Fh.mod⟩
  rw[if_neg (by simpa using g4)] at ei;refine aa ?_;refine⟨br,bk,(),trivial,Fh,ox,bA,by have:=aW.size;have:=a8.size;have:=bV.size;omega,fun i ad=>?_⟩;by_cases Ak:i=k
  .subst Ak;rw[ei]
  .exact bQ i (by omega)
 refine aa ?_;exact⟨by rw[o.Nk fun j aR=>bQ j (by omega)];rfl,b0,kp.mod⟩
end Go.Proofs.R
end
section
namespace bt
open Go Go.RowKit
structure y6 where
 n:Nat
 res:List l3
 pre:fa
 b6:List Step
 fn:Operand
 rest:fa
def Kf(al:Oper):Option Operand :=
 match al.guard,al.dst,al.op with
 | none,none,.defer ⟨.value x,args,_⟩=>match args.toList with | []=>some x | _=>none
 | _,_,_=>none
def R8(P:Program)(fn:Func):Code->Option y6
 | .seq a (.seq (.region _ ops false) c) =>
  match ops.toList.getLast?.bind Kf,comp P fn.ntmps a,o1 P fn.ntmps ops ops.toList.dropLast,comp P fn.ntmps c,vK P fn.results.toList with
  | some x,some oC,some b6,some lc,some r=>some ⟨fn.ntmps,r,oC,b6,x,lc⟩
  | _,_,_,_,_=>none
 | _=>none
def Gx(P:Program)(f:FuncId):Option y6 :=
 match P.funcs[f]? with
 | some fn=>match fn.body with | some c=>R8 P fn c | none=>none
 | none=>none
def sl(P:Program)(f:FuncId)(cap:Array Value)(u:FrameMode)(w:World)(R:World->Prop):Prop :=
 CallsD P f cap u w fun e jJ w'=>(∃v,e = .returned v)/\settle jJ = .returning/\R w'
def CC(P:Program)(res:List l3)(f:FuncId)(cap:Array Value)(R:Value->World->Prop):eb->Fr->World->Prop
 | .normal,S,w=>sl P f cap .returning w fun w'=>oJ res S w' fun vs=>R (gC vs) w'
 | .ret,S,w=>sl P f cap .returning w fun w'=>oJ res S w' fun vs=>R (gC vs) w'
 | .exit _,_,_=>False
 | .fS c,S,w=>sl P f cap (.panicking c) w fun w'=>oJ res S w' fun vs=>R (gC vs) w'
def aml(P:Program)(L:y6)(R:Value->World->Prop)(S:Fr)(w:World):Prop :=
 dT P L.pre (tr (fun S w=>steps P L.b6 S w fun S w => ∃f cap,bn S L.fn = .func (.func f) #[] cap/\okF P f=true/\dT P L.rest (CC P L.res f cap R) S w) (fun _ _ _=>False)) S w
theorem abM{al:Oper}{x:Operand}(h:Kf al=some x):∃ty pos after mA,al=⟨none,.defer ⟨.value x,#[],mA⟩,ty,pos,after,none⟩:=by
 obtain⟨dst,op,ty,pos,after,guard⟩:=al;unfold Kf at h;split at h
 .rename_i h1 U ag;simp only at h1 U ag;split at h
  .rename_i aJ;injection h with h
   have bg:=Array.toList_eq_nil_iff.1 aJ;subst h1 U ag h bg;exact⟨_,_,_,_,rfl⟩
  .cases h
 .cases h
theorem acd{P:Program}{f:FuncId}{L:y6}(hm:P.follows .mixedOrders=true)(aw:Gx P f=some L){args:List Value}{w:World}{R:Value->World->Prop}(bo:args.length<=L.n)
  (h:aml P L R (hY args 0) w):bu P f args.toArray w R:=by
 unfold Gx at aw;split at aw
 .rename_i fn kg;split at aw
  .rename_i c aC;unfold R8 at aw;split at aw
   .rename_i a id ops mR;split at aw
    .rename_i x oC b6 lc r h1 U ag aJ bg;injection aw with aw;subst aw
     obtain⟨al,bc,au⟩:=Option.bind_eq_some_iff.1 h1;obtain⟨ty,pos,after,mA,rfl⟩:=abM au;have afp:ops.toList=ops.toList.dropLast++[⟨none,.defer ⟨.value x,#[],mA⟩,ty,pos,after,none⟩]:=by
      have c5:ops.toList≠[]:=by intro e;rw[e] at bc;cases bc
      rw[List.getLast?_eq_some_getLast c5] at bc;injection bc with bc
      rw[<-bc,List.dropLast_concat_getLast c5]
     have fin:∀(g:FuncId) (cap:Array Value) (S:Fr) (di:Act) (w':World) (u:FrameMode),u≠.run->okF P g=true->Fits [{ target:=.fn (.func g) cap,args:=#[] }] di S fn.ntmps->sl P g cap u w' (fun w'=>oJ r S w' fun vs=>R (gC vs) w') ->
       Leaves P fn di.tmps (fun e w' => ∃v,e = .returned v/\R v w') di.defers u w':=by
      intro g cap S di w' u hu dt aK aS;rw[aK.1];refine leaves_cons hu (f:=g) (args:=cap) (by simp[invoke,E7 dt]) (CallsD.mono aS ?_);rintro e jJ b2 ⟨⟨v,rfl⟩,ay,ba⟩;simp only[ay];obtain⟨vs,bO,cj⟩:=rf aK _ _ _ bg ba;exact⟨_,uZ bO,_,rfl,cj⟩
     refine calls_of_wp_defers kg aC ((wpIn_wide (n:=0)).1 ?_);refine wpIn_seq (wpIn_mono (sound (ds:=[]) (r:=none) (m:=0) hm a oC U _ _ (hY args 0) w (KE bo) h) fun e di w' aG=>?_);cases e with
     | normal =>
      obtain⟨S,aK,aG⟩:=aG;refine wpIn_seq (wpIn_region_list ?_);rw[afp];refine wX (r:=none) (tl:=[_]) ?_ ?_ _ b6 di S w' ag aK aG
      .rintro a2 kt aU ou ⟨g,cap,he,dt,aT⟩;have hw:Region.wanted (⟨none,.defer ⟨.value x,#[],mA⟩,ty,pos,after,none⟩:Oper) (yielded ops a2.tmps)=true:=rfl;simp only[wpListIn,hw,if_true];have hn:∀ρ:Operand->Value,ρ x = .func (.func g) #[] cap->((⟨none,.defer ⟨.value x,#[],mA⟩,ty,pos,after,none⟩:Oper).semAt none ρ).run P aU = .ok (.defer { target:=.fn (.func g) cap,args:=#[] }) aU:=by
        intro ρ agH;simp[Oper.semAt,execOp,resolve,Deferred.ofValue,agH,go_sem]
       refine⟨fun _ _=>trivial,?_⟩;rw[show(mE none).round=none from rfl,hn a2.eval (by rw[ou.eval];exact he)];have aeZ:Fits [{ target:=.fn (.func g) cap,args:=#[] }] ({ a2 with defers:={ target:=.fn (.func g) cap,args:=#[] } :: a2.defers }:Act) kt fn.ntmps:=⟨by rw[ou.1],ou.2⟩;refine wpIn_mono (sound (ds:=[{ target:=.fn (.func g) cap,args:=#[] }]) (r:=none) (m:=0) hm mR lc aJ _ _ kt aU aeZ aT) fun e a4 bp aG=>?_;cases e with
       | normal=>obtain⟨rA,o8,aG⟩:=aG;exact fin g cap rA a4 bp .returning (by simp) dt o8 aG
       | ret=>obtain⟨rA,o8,aG⟩:=aG;exact fin g cap rA a4 bp .returning (by simp) dt o8 aG
       | exit i=>obtain⟨rA,o8,aG⟩:=aG;exact aG.elim
       | panic sw=>obtain⟨rA,o8,aG⟩:=aG;exact fin g cap rA a4 bp (.panicking sw) (by simp) dt o8 aG
       | _=>exact aG.elim
      .rintro⟨_,_,au⟩;obtain⟨_,h1,_⟩:=au;cases h1
     | ret=>obtain⟨S,aK,aG⟩:=aG;exact aG.elim
     | exit i=>obtain⟨S,aK,aG⟩:=aG;exact aG.elim
     | panic sw=>obtain⟨S,aK,aG⟩:=aG;exact aG.elim
     | _=>exact aG.elim
    .cases aw
   .cases aw
  .cases aw
 .cases aw
structure BQ where
 n:Nat
 res:List l3
 d:Nat
 e:Nat
 rest:fa
def NH(al:Oper):Option Nat :=
 match al.guard,al.op,al.dst with
 | none,.call ⟨.builtin .recover,args,_⟩,some d=>match args.toList with | []=>some d | _=>none
 | _,_,_=>none
def JH(al:Oper):Option (Nat×Nat) :=
 match al.guard,al.op,al.dst with
 | none,.assign (.tmp d),some e=>some (d,e)
 | _,_,_=>none
def R9(P:Program)(fn:Func):Code->Option BQ
 | .seq (.region _ ops false) c =>
  match ops.toList with
  | [b9,cn]=>match NH b9,JH cn,comp P fn.ntmps c,vK P fn.results.toList with
   | some d,some (tP,e),some lc,some r=>if d=tP/\d<fn.ntmps/\e<fn.ntmps then some ⟨fn.ntmps,r,d,e,lc⟩ else none
   | _,_,_,_=>none
  | _=>none
 | _=>none
def Gy(P:Program)(f:FuncId):Option BQ :=
 match P.funcs[f]? with
 | some fn=>match fn.body with | some c=>R9 P fn c | none=>none
 | none=>none
def oH:FrameMode->Value×FrameMode
 | .panicking ({ v,recovered:=false,goexit:=false } :: aiC)=>(v,.panicking ({ v,recovered:=true } :: aiC))
 | u=>(.nilIface,u)
theorem ajQ(c:Frame)(cs:List Frame):(match recoverD (c :: cs) with | some (v,iy)=>(v,iy) | none=>(.nilIface,c :: cs))=((oH c.mode).1,{ c with mode:=(oH c.mode).2 } :: cs):=by
 obtain⟨fn,tmps,todo,defers,mode,kind,ro⟩:=c;unfold recoverD oH;cases mode with
 | run=>rfl
 | returning=>rfl
 | panicking l =>
  cases l with
  | nil=>rfl
  | cons p r =>
   obtain⟨v,rc,ge⟩:=p;cases rc<;>cases ge<;>rfl
theorem ajO{al:Oper}{d:Nat}(h:NH al=some d):∃mA ty pos after,al=⟨some d,.call ⟨.builtin .recover,#[],mA⟩,ty,pos,after,none⟩:=by
 obtain⟨dst,op,ty,pos,after,guard⟩:=al;unfold NH at h;split at h
 .rename_i h1 U ag;simp only at h1 U ag;split at h
  .rename_i aJ;injection h with h
   have bg:=Array.toList_eq_nil_iff.1 aJ;subst h1 U ag h bg;exact⟨_,_,_,_,rfl⟩
  .cases h
 .cases h
theorem Z8{al:Oper}{d e:Nat}(h:JH al=some (d,e)):∃ty pos after,al=⟨some e,.assign (.tmp d),ty,pos,after,none⟩:=by
 obtain⟨dst,op,ty,pos,after,guard⟩:=al;unfold JH at h;split at h
 .rename_i h1 U ag;simp only at h1 U ag;injection h with h
  injection h with bg bO
  subst h1 U ag bg bO;exact⟨_,_,_,rfl⟩
 .cases h
theorem ace{P:Program}{f:FuncId}{L:BQ}(hm:P.follows .mixedOrders=true)(aw:Gy P f=some L){args:List Value}{u:FrameMode}{w:World}{R:Value->World->Prop}(bo:args.length<=L.n)
  (h:dT P L.rest (CB L.res R) (cq (cq (hY args 0) L.d (oH u).1) L.e (oH u).1) w):CallsD P f args.toArray u w fun e jJ w'=>jJ=(oH u).2/\∃v,e = .returned v/\R v w':=by
 unfold Gy at aw;split at aw
 .rename_i fn kg;split at aw
  .rename_i c aC;unfold R9 at aw;split at aw
   .rename_i id ops mR;split at aw
    .rename_i b9 cn DE;split at aw
     .rename_i d tP e lc r h1 U ag aJ;split at aw
      .rename_i aeP;obtain⟨aeO,bw,he⟩:=aeP;subst aeO;injection aw with aw;subst aw
       obtain⟨mA,al1,ajc,ZU,rfl⟩:=ajO h1;obtain⟨al2,ajd,ZV,rfl⟩:=Z8 U;refine callsD_of_wpS kg aC fun zN cs hu=>?_;refine wpS_seq (wpS_region ?_);have dn:ops.size=2:=by rw[<-Array.length_toList,DE];rfl
       have Hx:ops[0]? = ops.toList[0]? := by simp
       have LH:ops[1]? = ops.toList[1]? := by simp
       rw[DE] at Hx LH;simp only[List.getElem?_cons_zero,List.getElem?_cons_succ] at Hx LH;have ba:List.range ops.size=[0,1]:=by rw[dn];rfl
       rw[ba];have af2:∀(ρ:Operand->Value),(execOp ρ ⟨some d,.call ⟨.builtin .recover,#[],mA⟩,al1,ajc,ZU,none⟩).run P w = .ok .recover w:=by
        intro ρ;simp[execOp,resolve,invoke,builtin,go_sem]
       have HR:∀(dst:Option Nat) (op:Op) (ty:TypeId) (pos:String) (after:Array Edge) (y:Nat->Option Bool),Region.wanted (⟨dst,op,ty,pos,after,none⟩:Oper) y=true:=fun _ _ _ _ _ _=>rfl;have aeY:=KE (n:=fn.ntmps) bo;have key:∀(v:Value) (iy:List Frame),dT P lc (CB r R) (cq (cq (hY args 0) d v) e v) w->(iy = { zN with mode:=(oH u).2 } :: cs) ->
         wpOpsS P ops (Exit.thenS (mR.wpS P (bodyPostS P fn zN cs fun e jJ w'=>jJ=(oH u).2/\∃v,e = .returned v/\R v w')) (bodyPostS P fn zN cs fun e jJ w'=>jJ=(oH u).2/\∃v,e = .returned v/\R v w')) [1]
          (({ tmps:=args.toArray++Array.replicate (fn.ntmps - args.toArray.size) undef,defers:=[] }:Act).put (some d) v) iy w:=by
        intro v iy aT gy;have Hv:=aeY.put (d:=some d) (by simpa[vO] using bw) v;have au:(execOp (({ tmps:=args.toArray++Array.replicate (fn.ntmps - args.toArray.size) undef,defers:=[] }:Act).put (some d) v).eval ⟨some e,.assign (.tmp d),al2,ajd,ZV,none⟩).run P w = .ok (.value v) w:=by
         rw[Hv.eval];simp[execOp,bn,bt.put,cq]
        simp only[wpOpsS,LH,HR,if_true,au];rw[Oper.upon_value];have ou:=Hv.put (d:=some e) (by simpa[vO] using he) v;refine wpS_of_wp ((wpIn_wide (n:=0)).1 (wpIn_mono (sound (ds:=[]) (r:=none) (m:=0) hm mR lc ag _ _ _ w ou aT) fun x a4 bp aG=>?_));cases x with
        | normal =>
         obtain⟨rA,o8,aG⟩:=aG;obtain⟨vs,bO,cj⟩:=rf o8 _ _ _ aJ aG;exact⟨o8.1,_,gy,_,uZ bO,rfl,_,rfl,cj⟩
        | ret =>
         obtain⟨rA,o8,aG⟩:=aG;obtain⟨vs,bO,cj⟩:=rf o8 _ _ _ aJ aG;exact⟨o8.1,_,gy,_,uZ bO,rfl,_,rfl,cj⟩
        | exit i=>obtain⟨rA,o8,aG⟩:=aG;exact aG.elim
        | panic sw=>obtain⟨rA,o8,aG⟩:=aG;exact aG.elim
        | _=>exact aG.elim
       have p4:=ajQ zN cs;rw[hu] at p4;unfold wpOpsS;simp only[Hx,HR,if_true,af2];cases HJ:recoverD (zN :: cs) with
       | none =>
        rw[HJ] at p4;injection p4 with bU a6
        exact key .nilIface (zN :: cs) (by rw[bU];exact h) a6
       | some amk =>
        obtain⟨v,iy⟩:=amk;rw[HJ] at p4;injection p4 with bU a6
        exact key v iy (by rw[bU];exact h) a6
      .cases aw
     .cases aw
    .cases aw
   .cases aw
  .cases aw
 .cases aw
end bt
namespace bt
open Go Go.RowKit
def Jf(P:Program)(v:Value)(K:FuncId->Array Value->Prop):Prop := ∃f cap,v = .func (.func f) #[] cap/\okF P f=true/\K f cap
section
variable{P:Program}{S:Fr}{w:World}{res:List l3}{R:Value->World->Prop}
theorem K.alu{f:FuncId}{L:y6}(hm:P.follows .mixedOrders=true)(aw:Gx P f=some L){args:List Value}(bo:args.length<=L.n)
  (h:dZ P L.pre (hr (fun S w=>jI P L.b6 S w (fun S w=>Jf P (bn S L.fn) fun g cap=>dZ P L.rest (CC P L.res g cap R) S w ⟨⟩) ⟨⟩) (fun _ _ _=>False) ⟨⟩) (hY args 0) w ⟨⟩):bu P f args.toArray w R:=by
 refine acd hm aw bo ?_;unfold dZ hr jI Jf at h;exact h
theorem K.defer{g:FuncId}{cap:Array Value}{K:FuncId->Array Value->Prop}(dt:okF P g=true)(h:K g cap):Jf P (.func (.func g) #[] cap) K:=⟨g,cap,rfl,dt,h⟩
theorem K.abS{g:FuncId}{cap:Array Value}(h:sl P g cap .returning w fun w'=>iv res S w' (fun vs=>R (gC vs) w') ⟨⟩):CC P res g cap R .ret S w:=by
 unfold iv at h;exact h
theorem K.abR{g:FuncId}{cap:Array Value}{c:List PanicEntry}(h:sl P g cap (.panicking c) w fun w'=>iv res S w' (fun vs=>R (gC vs) w') ⟨⟩):CC P res g cap R (.fS c) S w:=by
 unfold iv at h;exact h
theorem sl.of{g:FuncId}{cap:Array Value}{u w1:FrameMode}{BU BV:World->Prop}(h:CallsD P g cap u w fun e jJ w'=>jJ=w1/\∃v,e = .returned v/\BU w')(ay:settle w1 = .returning)(hk:∀w',BU w'->BV w'):sl P g cap u w BV :=
 CallsD.mono h fun e jJ w' ⟨h1,v,U,ag⟩=>⟨⟨v,U⟩,by rw[h1];exact ay,hk _ ag⟩
theorem K.Yq{f:FuncId}{L:BQ}(hm:P.follows .mixedOrders=true)(aw:Gy P f=some L){args:List Value}{u:FrameMode}(bo:args.length<=L.n)
  (h:dZ P L.rest (rJ L.res R ⟨⟩) (cq (cq (hY args 0) L.d (oH u).1) L.e (oH u).1) w ⟨⟩):CallsD P f args.toArray u w fun e jJ w'=>jJ=(oH u).2/\∃v,e = .returned v/\R v w':=by
 refine ace hm aw bo ?_;unfold dZ rJ at h;exact h
theorem XW(d:Nat){t:TypeId}{ms:Array (String×TypeId)}(h:P.underlying t=some (.interface ms))(w:World):(Op.equalIn (d+1) t .nilIface .nilIface).run P w = .ok true w/\∀T v,(Op.equalIn (d+1) t (.iface T v) .nilIface).run P w = .ok false w:=by
 constructor
 .simp[Op.equalIn,run_underlying h]
 .intro T v;simp[Op.equalIn,run_underlying h]
theorem VA{t:TypeId}(h:(P.underlying t).map wz=some true):∃ms,P.underlying t=some (.interface ms):=by
 obtain⟨d,bw,ad⟩:=Option.map_eq_some_iff.1 h;cases d<;>first | exact⟨_,bw⟩ | (simp[wz] at ad;done)
theorem K.aid{hf:TypeId}{x:Operand}{v:Value}{aI:Value->Prop}{t}(h:(P.underlying hf).map wz=some true)(hk:aI (.bool false)):gq P .neq hf x (.const v) .nilIface .nilIface aI t :=
 K.bin (v:=.bool false) (fun w=>by
  obtain⟨ms,h⟩:=VA h;have h1:=(XW 9999 h w).1;have U:(Op.equalIn Op.maxDepth hf .nilIface .nilIface).run P w = .ok true w:=h1;cases x<;>simp[eqGuard,binOp,Op.equal,go_sem,U,Result.andThen]) hk
theorem K.aie{hf T:TypeId}{x y:Operand}{v:Value}{aI:Value->Prop}{t}(h:(P.underlying hf).map wz=some true)(hk:aI (.bool true)):gq P .neq hf x y (.iface T v) .nilIface aI t :=
 K.bin (v:=.bool true) (fun w=>by
  obtain⟨ms,h⟩:=VA h;have U:(Op.equalIn Op.maxDepth hf (.iface T v) .nilIface).run P w = .ok false w:=(XW 9999 h w).2 T v;simp[eqGuard,binOp,Op.equal,go_sem,U,Result.andThen]) hk
theorem K.Z9{x:Operand}{Y9 T ty:TypeId}{v:Value}{da:Value->World->Prop}{t}(au:bn S x = .iface T v)(h:(P.underlying T).map wz=some false)(hk:da (.tuple #[v,.bool true]) w):tB P (.typeAssert x Y9 T true) ty S w da t:=by
 refine K.raw (v:=.tuple #[v,.bool true]) (w':=w) ?_ hk;obtain⟨d,bw,ad⟩:=Option.map_eq_some_iff.1 h;have h1:(Instr.typeAssert (.iface T v) Y9 T true).run P w = .ok (.tuple #[v,.bool true]) w:=by
  cases d<;>first | (simp[wz] at ad;done) | (simp[Instr.typeAssert,run_underlying bw])
 simp[execOp,au,h1,Result.andThen]
end
end bt
end
section
namespace Go.Proofs.R
open Go bt Go.Proofs
abbrev F.u:FuncId:=75
def Pp.i:y6:=⟨16,[.ic 4 2], (.bN [aF 1 (.box T.b (ab 0)),aF 2 (.new T.v (.agg #[ar,ar,ar,ar]))]),
 [bd 4 (.jF F.u [] [(ab 2)])],(ab 4), (J [aF 5 .r0,I 3 5] (.seq (.ff [a7 6 5 1,I 7 3] (some 8) F.vL [(ab 6),(ab 7)]) (.seq (.ff [a7 9 5 1,I 10 3] (some 11) F.vM [(ab 9),(ab 10)]) (.seq (.ff [a7 12 5 1,I 13 3] (some 14) F.vN [(ab 12),(ab 13)]) (J [bd 15 (.cY [ar,ar,ar,ar] [(0,1),(1,1),(2,1),(3,1)] []),ca 4 2 15] .ret)))))⟩
theorem Zm.i:Gx Tryz.prog F.i=some Pp.i:=by kernel_rfl
def Je.u:BQ:=⟨17,[],4,1, (J [I 5 1,bd 6 (.bin .neq T.sv (ab 5) (.const .nilIface))] (aE 6 (J [I 8 1,aF 9 (.raw (.typeAssert (ab 8) T.sv T.ap true) T.a4),I 7 9,bD 10 7 0,bD 11 7 1,aF 2 (.new T.ap (.agg #[ar,ar,ar,ar])),ca 4 2 10,I 3 11] (.seq (J [I 12 3,bd 13 (.un .not (ab 12))] (aE 13 (.q9 [I 14 1] (ab 14)) .skip)) (.bN [ah 15 0 2,a7 16 4 15,ca 4 0 16]))) .skip))⟩
theorem Pr.u:Gy Tryz.prog F.u=some Je.u:=by kernel_rfl
end Go.Proofs.R
end