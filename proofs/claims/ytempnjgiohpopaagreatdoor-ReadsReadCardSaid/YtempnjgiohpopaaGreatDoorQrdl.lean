/- Texts joined: RefA RefB RefC ModJ LiteM ModA ModD ModE ModF LiteD CodeD. -/
import Derived.Test.YtempnjgiohpopaaGreatDoorQrdd
import Derived.Test.YtempnjgiohpopaaGreatDoorQrdg
import Derived.Test.YtempnjgiohpopaaGreatDoorQrdh
import Derived.Test.YtempnjgiohpopaaGreatDoorQrdi
import Derived.Test.YtempnjgiohpopaaGreatDoorQrdk
import Derived.Maps.RangeRun
import Derived.Defers
import Derived.Recover
set_option linter.all false
set_option maxRecDepth 100000
set_option maxHeartbeats 16000000
section
namespace Go.Proofs.R
open Go Go.RowKit bt
theorem zA(hs:Value)(e:List o.Node)(k:Int)(cs:List Value)(s:o.Scope)(w:World)(aI:o.fG w hs e)(h:o.e6 w cs s) :
  bu Tryz.prog F.ti #[hs,.int .i64 k,.agg cs.toArray] w fun v w'=>v = .int .i64 (o.asked e k s)∧Ext w w':=by
 obtain⟨a0,bO,dy,c1,a2,c2,a3,bN,a4,bT,rfl,_⟩:=h.form;obtain⟨bl,cap,rfl,_⟩:=aI.form;refine bM E.ti ?_;refine bF ?_;refine aa ?_;intro av bC cL aA aq;refine aa ?_;refine K.call (TN _ e _ s av (aI.ext aA) (h.ext aA)) ?_;rintro _ aT ⟨rfl,aC⟩;rw[o.asked];refine aa ?_;apply K.cond<;>intro g1;rotate_left
 ·refine aa ?_;exact⟨by rw[if_pos g1],aA.trans aC⟩
 rw[if_neg (by simpa using g1)];refine aa ?_;apply K.cond<;>intro g2;rotate_left
 ·refine aa ?_;exact⟨by rw[if_pos g2],aA.trans aC⟩
 ·refine aa ?_;exact⟨by rw[if_neg (by simpa using g2)],aA.trans aC⟩
theorem FQ(n:Int)(w:World)(h:0≤n∧n≤4611686018427387904):bu Tryz.prog F.qL #[.int .i64 n] w fun v w'=>v = .int .i64 (if n=0 then 0 else 1+n)∧w'=w:=FP n w h
theorem Kt(v:Value)(l:List o.Var)(n:Int)(cs:List Value)(s:o.Scope)(w:World)(aP:o.gJ w v l)(h:o.e6 w cs s) :
  bu Tryz.prog F.zg #[v,.int .i64 n,.agg cs.toArray] w fun v w'=>v = .tuple #[.int .i64 (o.jQ l n s).1,.int .i64 (o.jQ l n s).2]∧Ext w w':=by
 obtain⟨a0,bO,dy,c1,a2,c2,a3,bN,a4,bT,rfl,_,_,_,_,_,eG,du,dF,dV,eo⟩:=h.form;obtain⟨bl,cap,rfl,_⟩:=aP.form;refine bM E.zg ?_;refine bF ?_;refine aa ?_;intro av bC cL aA aq;refine aa ?_;refine K.call (Df _ l n _ s av (aP.ext aA) (h.ext aA)) ?_;rintro u aT ⟨⟨x,hu,ar⟩,aC⟩;cases hk:(o.fq l n s).2.2 with
 | false =>
  rw[hk] at hu;subst hu;refine aa ?_;intro bf b5 fU aw bK;refine aa ?_;exact⟨by rw[o.jQ,o.Pp hk],(aA.trans aC).trans aw⟩
 | true =>
  rw[hk] at hu;subst hu;obtain⟨br,ff,gf,gV,ij⟩:=o.Pr hk (ar hk);have iE:o.jQ l n s=if x.over≠0 then (0,9) else ((if x.scalar=0 then 0 else 1+x.scalar),0):=by unfold o.jQ;rw[br]
  refine aa ?_;intro bf b5 fU aw bK;refine aa ?_;apply K.cond<;>intro g1
  ·rw[if_neg (by simpa using g1)] at iE;refine aa ?_;refine K.call (FQ _ bf ⟨ff,by omega⟩) ?_;rintro _ _ ⟨rfl,rfl⟩;refine aa ?_;exact⟨by rw[iE],(aA.trans aC).trans aw⟩
  ·rw[if_pos g1] at iE;refine aa ?_;exact⟨by rw[iE],(aA.trans aC).trans aw⟩
theorem abV(a:o.Act)(cr ct:Value)(cs:List Value)(s:o.Scope)(w:World)(ad:o.fG w cr a.index)(aS:o.fG w ct a.value)(h:o.e6 w cs s) :
  bu Tryz.prog F.Cr #[.agg (a.enc cr ct).toArray,.agg cs.toArray] w fun v w'=>v = .int .i64 (o.wW a s)∧Ext w w':=by
 obtain⟨a0,bO,dy,c1,a2,c2,a3,bN,a4,bT,rfl,_,JC,_,_,_,eG,du,dF,dV,eo⟩:=h.form;obtain⟨_,_,rfl,_⟩:=ad.form;obtain⟨_,_,rfl,_⟩:=aS.form;refine bM E.Cr ?_;refine bF ?_;refine aa ?_;intro av bC cL aA aq;refine aa ?_;intro aT ca dB aC aM;replace aq:=aC.obj aq;have cR:∀{w'},Ext aT w'→Ext w w':=fun e=>(aA.trans aC).trans e;refine aa ?_;refine K.call (Df _ s.vars a.to _ s aT (JC.ext (cR (Ext.refl _))) (h.ext (cR (Ext.refl _)))) ?_;rintro u bf ⟨⟨x,hu,ar⟩,aw⟩;replace aq:=aw.obj aq;replace aM:=aw.obj aM;cases hk:(o.fq s.vars a.to s).2.2 with
 | false =>
  rw[hk] at hu;subst hu;refine aa ?_;intro bq cO fo aR bI;refine aa ?_;exact⟨by rw[o.wW,o.Pp hk],cR (aw.trans aR)⟩
 | true =>
  rw[hk] at hu;subst hu;obtain⟨br,ff,gf,gV,ij⟩:=o.Pr hk (ar hk);have iE:o.wW a s=if x.over=0 then 9 else if o.asked a.index (1+x.over) s≠0 then o.asked a.index (1+x.over) s else o.asked a.value (if x.scalar=0 then 0 else 1+x.scalar) s:=by unfold o.wW;rw[br]
  refine aa ?_;intro bq cO fo aR bI;replace aq:=aR.obj aq;replace aM:=aR.obj aM;have ed:∀{w'},Ext bq w'→Ext w w':=fun e=>cR ((aw.trans aR).trans e);refine aa ?_;apply K.cond<;>intro g1
  ·rw[if_pos g1] at iE;refine aa ?_;exact⟨by rw[iE],ed (Ext.refl _)⟩
  rw[if_neg g1] at iE;refine aa ?_;refine K.call (zA _ a.index (1+x.over) _ s bq (ad.ext (ed (Ext.refl _))) (h.ext (ed (Ext.refl _)))) ?_;rintro _ bS ⟨rfl,bj⟩;replace aq:=bj.obj aq;replace aM:=bj.obj aM;replace bI:=bj.obj bI;have iq:∀{w'},Ext bS w'→Ext w w':=fun e=>ed (bj.trans e);refine aa ?_;apply K.cond<;>intro g2;rotate_left
  ·rw[if_pos g2] at iE;refine aa ?_;exact⟨by rw[iE],iq (Ext.refl _)⟩
  rw[if_neg (by simpa using g2)] at iE;refine aa ?_;refine K.gn (.int .i64 (if x.scalar=0 then 0 else 1+x.scalar)) (fun w' e=>(FQ _ w' ⟨ff,by omega⟩).mono fun v bZ c7=>⟨c7.1,by rw[c7.2];exact Ext.refl _⟩) ?_;refine aa ?_;refine K.gn (.int .i64 (o.wW a s)) (fun w' e=>by rw[iE];exact zA _ a.value _ _ s w' (aS.ext (iq e)) (h.ext (iq e))) ?_;refine aa ?_;intro bX bk;refine aa ?_;exact⟨bw,iq bk⟩
theorem TI(a:o.Act)(comm:Bool)(cr ct:Value)(cs:List Value)(s:o.Scope)(w:World)(ad:o.fG w cr a.index)(aS:o.fG w ct a.value)(h:o.e6 w cs s) :
  bu Tryz.prog F.Cq #[.agg (a.enc cr ct).toArray,.agg cs.toArray,.bool comm] w fun v w'=>v = .int .i64 (o.jT a s comm)∧Ext w w':=by
 obtain⟨a0,bO,dy,c1,a2,c2,a3,bN,a4,bT,rfl,_,JC,_,_,lB,eG,du,dF,dV,eo⟩:=h.form;obtain⟨_,_,rfl,_⟩:=ad.form;obtain⟨_,_,rfl,_⟩:=aS.form;refine bM E.Cq ?_;refine bF ?_;refine aa ?_;intro av bC cL aA aq;refine aa ?_;intro aT ca dB aC aM;replace aq:=aC.obj aq;have cR:∀{w'},Ext aT w'→Ext w w':=fun e=>(aA.trans aC).trans e;refine aa ?_;apply K.cond<;>intro g1
 ·refine aa ?_;exact⟨by rw[o.jT,if_pos (.inl g1)],cR (Ext.refl _)⟩
 refine aa ?_;apply K.cond<;>intro g2
 ·refine aa ?_;exact⟨by rw[o.jT,if_pos (.inr g2)],cR (Ext.refl _)⟩
 have pG:¬(a.kind<1∨5<a.kind):=by omega
 refine aa ?_;apply K.cond<;>intro g3
 ·refine aa ?_;refine K.call (abV a _ _ _ s aT (ad.ext (cR (Ext.refl _))) (aS.ext (cR (Ext.refl _))) (h.ext (cR (Ext.refl _)))) ?_;rintro _ bf ⟨rfl,aw⟩;refine aa ?_;exact⟨by rw[o.jT,if_neg pG,if_pos g3],cR aw⟩
 refine aa ?_;apply K.cond<;>intro g4
 ·have bd:o.jT a s comm=if (o.jQ s.vars a.to s).2≠0 then (o.jQ s.vars a.to s).2 else o.asked a.value (o.jQ s.vars a.to s).1 s:=by
   rw[o.jT,if_neg pG,if_neg g3,if_pos (.inl g4)];simp only[if_neg (by omega:¬a.kind=3)]
  refine aa ?_;refine K.call (Kt _ s.vars a.to _ s aT (JC.ext (cR (Ext.refl _))) (h.ext (cR (Ext.refl _)))) ?_;rintro _ bf ⟨rfl,aw⟩;replace aq:=aw.obj aq;replace aM:=aw.obj aM;refine aa ?_;apply K.cond<;>intro g5;rotate_left
  ·rw[if_pos g5] at bd;refine aa ?_;exact⟨by rw[bd],cR aw⟩
  rw[if_neg (by simpa using g5)] at bd;refine aa ?_;refine K.call (zA _ a.value _ _ s bf (aS.ext (cR aw)) (h.ext (cR aw))) ?_;rintro _ bq ⟨rfl,aR⟩;refine aa ?_;exact⟨by rw[bd],cR (aw.trans aR)⟩
 refine aa ?_;apply K.cond<;>intro g5
 ·have bd:o.jT a s comm=if (o.jQ s.locals a.to s).2≠0 then (o.jQ s.locals a.to s).2 else o.asked a.value (o.jQ s.locals a.to s).1 s:=by
   rw[o.jT,if_neg pG,if_neg g3,if_pos (.inr g5)];simp only[if_pos g5]
  refine aa ?_;refine K.call (Kt _ s.locals a.to _ s aT (lB.ext (cR (Ext.refl _))) (h.ext (cR (Ext.refl _)))) ?_;rintro _ bf ⟨rfl,aw⟩;replace aq:=aw.obj aq;replace aM:=aw.obj aM;refine aa ?_;apply K.cond<;>intro g5;rotate_left
  ·rw[if_pos g5] at bd;refine aa ?_;exact⟨by rw[bd],cR aw⟩
  rw[if_neg (by simpa using g5)] at bd;refine aa ?_;refine K.call (zA _ a.value _ _ s bf (aS.ext (cR aw)) (h.ext (cR aw))) ?_;rintro _ bq ⟨rfl,aR⟩;refine aa ?_;exact⟨by rw[bd],cR (aw.trans aR)⟩
 have A9:¬(a.kind=1∨a.kind=3):=by omega
 refine aa ?_;refine K.c4 (fun g6=>?_) (fun g6=>?_)
 ·refine aa ?_;exact⟨by rw[o.jT,if_neg pG,if_neg g3,if_neg A9,if_pos g6],cR (Ext.refl _)⟩
 refine aa ?_;refine K.call (TJ a.to _ s aT (h.ext (cR (Ext.refl _)))) ?_;rintro u bf ⟨⟨x,hu,ar⟩,aw⟩;replace aq:=aw.obj aq;replace aM:=aw.obj aM;by_cases hk:(o.iT a.to s).2=0;rotate_left
 ·rw[decide_eq_false hk] at hu;subst hu;refine aa ?_;intro bq cO fo aR bI;refine aa ?_;exact⟨by rw[o.jT,if_neg pG,if_neg g3,if_neg A9,if_neg (by simp[g6]),o.Xk hk],cR (aw.trans aR)⟩
 rw[decide_eq_true hk] at hu;subst hu;obtain⟨br,ff,gf⟩:=o.Xm hk (ar hk);have bd:o.jT a s comm=if a.kind=4 then o.asked a.value (if x.scalar=0 then 0 else 1+x.scalar) s else if (o.jQ s.locals a.loc s).2≠0 then (o.jQ s.locals a.loc s).2 else if (o.jQ s.locals a.loc s).1≠(if x.scalar=0 then 0 else 1+x.scalar) then 9 else 0:=by
  rw[o.jT,if_neg pG,if_neg g3,if_neg A9,if_neg (by simp[g6]),br]
 refine aa ?_;intro bq cO fo aR bI;replace aq:=aR.obj aq;replace aM:=aR.obj aM;have ed:∀{w'},Ext bq w'→Ext w w':=fun e=>cR ((aw.trans aR).trans e);refine aa ?_;apply K.cond<;>intro g7
 ·rw[if_pos g7] at bd;refine aa ?_;refine K.gn (.int .i64 (if x.scalar=0 then 0 else 1+x.scalar)) (fun w' e=>(FQ _ w' ⟨ff,by omega⟩).mono fun v bZ c7=>⟨c7.1,by rw[c7.2];exact Ext.refl _⟩) ?_;refine aa ?_;refine K.gn (.int .i64 (o.jT a s comm)) (fun w' e=>by rw[bd];exact zA _ a.value _ _ s w' (aS.ext (ed e)) (h.ext (ed e))) ?_;refine aa ?_;intro bX bk;refine aa ?_;exact⟨bw,ed bk⟩
 rw[if_neg g7] at bd;refine aa ?_;refine K.call (Kt _ s.locals a.loc _ s bq (lB.ext (ed (Ext.refl _))) (h.ext (ed (Ext.refl _)))) ?_;rintro _ bS ⟨rfl,bj⟩;replace bI:=bj.obj bI;refine aa ?_;apply K.cond<;>intro g8;rotate_left
 ·rw[if_pos g8] at bd;refine aa ?_;exact⟨by rw[bd],ed bj⟩
 rw[if_neg (by simpa using g8)] at bd;refine aa ?_;refine K.call (FQ _ bS ⟨ff,by omega⟩) ?_;rintro _ _ ⟨rfl,rfl⟩;refine aa ?_;apply K.cond<;>intro g9
 ·rw[if_neg (by simpa using g9)] at bd;refine aa ?_;exact⟨by rw[bd],ed bj⟩
 ·rw[if_pos g9] at bd;refine aa ?_;exact⟨by rw[bd],ed bj⟩
end Go.Proofs.R
end
section
namespace o
theorem OG{s:Scope}{a:Act}{k:Nat}{b:Bool}{Z:Int×Int}:(if gh a&&b then ((2+(k:Int)),(7:Int)) else if jb a s≠0 then (2+(k:Int),jb a s) else Z)=if jT a s b≠0 then (2+(k:Int),jT a s b) else Z:=by
 rw[aev];by_cases h:(gh a&&b)=true
 ·simp[h]
 ·simp[h]
end o
namespace Go.Proofs.R
open Go Go.RowKit bt
theorem aeB(c:o.dG)(fD eD:Value)(p:o.dj)(nu pd:Value)(cs:List Value)(s:o.Scope)(w:World)(aI:o.hZ c.name)(a8:o.fG w fD c.guard)(bp:o.mR w eD c.b4)
  (aS:o.gJ w nu p.vars)(ax:o.pq w pd p.cB)(h:o.e6 w cs s) :
  bu Tryz.prog F.Co #[.agg (c.enc fD eD).toArray,.agg (p.enc nu pd).toArray,.agg cs.toArray] w fun v w' =>
   v = .tuple #[.int .i64 (o.h4 c p.cz s).1,.int .i64 (o.h4 c p.cz s).2]∧Ext w w':=by
 obtain⟨a0,bO,dy,c1,a2,c2,a3,bN,a4,bT,rfl,_⟩:=h.form;obtain⟨bl,cap,rfl,hlen⟩:=bp.form;obtain⟨oo,WX,rfl,aaE⟩:=a8.form;obtain⟨_,_,rfl,_⟩:=aS.form;obtain⟨_,_,rfl,_⟩:=ax.form;refine bM E.Co ?_;refine bF ?_;refine aa ?_;intro av bC cL aA aq;refine aa ?_;intro aT ca dB aC aM;refine aa ?_;intro bf b5 fU aw bK;replace aq:=(aC.trans aw).obj aq;replace aM:=aw.obj aM;have fF:∀{w'},Ext bf w'→Ext w w':=fun e=>((aA.trans aC).trans aw).trans e;refine aa ?_;refine K.call (zB c.name bf aI) ?_;rintro u bq ⟨hu,aR⟩;replace aq:=aR.obj aq;replace aM:=aR.obj aM;replace bK:=aR.obj bK;have ed:∀{w'},Ext bq w'→Ext w w':=fun e=>fF (aR.trans e);have br:∀n,o.head c p.cz=n→n≠0→o.h4 c p.cz s=(0,n):=fun n e aj=>by unfold o.h4;rw[e,if_pos aj]
 cases fb:o.isName c.name with
 | false =>
  rw[fb] at hu;subst hu;refine aa ?_;exact⟨by rw[br 6 (by unfold o.head;rw[if_pos fb]) (by decide)],ed (Ext.refl _)⟩
 | true =>
  rw[fb] at hu;subst hu;have o5:¬o.isName c.name=false:=by rw[fb];simp
  refine aa ?_;apply K.cond<;>intro g1
  ·refine aa ?_;exact⟨by rw[br 10 (by unfold o.head;rw[if_neg o5,if_pos (by omega)]) (by decide)],ed (Ext.refl _)⟩
  refine aa ?_;apply K.cond<;>intro g2
  ·refine aa ?_;exact⟨by rw[br 10 (by unfold o.head;rw[if_neg o5,if_pos (by omega)]) (by decide)],ed (Ext.refl _)⟩
  refine aa ?_;apply K.cond<;>intro g3
  ·refine aa ?_;exact⟨by rw[br 10 (by unfold o.head;rw[if_neg o5,if_pos (by omega)]) (by decide)],ed (Ext.refl _)⟩
  refine aa ?_;apply K.cond<;>intro g4
  ·refine aa ?_;exact⟨by rw[br 10 (by unfold o.head;rw[if_neg o5,if_pos (by omega)]) (by decide)],ed (Ext.refl _)⟩
  have hg:¬(c.from_<0∨p.cz≤c.from_∨c.to<0∨p.cz≤c.to):=by omega
  refine aa ?_;apply K.cond<;>intro g5
  ·refine aa ?_;exact⟨by rw[br 11 (by unfold o.head;rw[if_neg o5,if_neg hg,if_pos (by omega)]) (by decide)],ed (Ext.refl _)⟩
  have yV:o.h4 c p.cz s=if c.guard.length > 0∧o.asked c.guard 1 s≠0 then (1,o.asked c.guard 1 s) else o.jv s c.b4 0 false:=by
   unfold o.h4;rw[if_neg];unfold o.head;rw[if_neg o5,if_neg hg,if_neg (by omega)];simp
  clear br;refine aa ?_;apply K.cond<;>intro g6
  ·refine aa ?_;refine K.call (zA _ c.guard 1 _ s bq (a8.ext (ed (Ext.refl _))) (h.ext (ed (Ext.refl _)))) ?_;rintro _ bS ⟨rfl,bj⟩;replace aq:=bj.obj aq;replace bK:=bj.obj bK;have iq:∀{w'},Ext bS w'→Ext w w':=fun e=>ed (bj.trans e);refine aa ?_;apply K.cond<;>intro g7;rotate_left
   ·rw[if_pos ⟨by omega,g7⟩] at yV;refine aa ?_;exact⟨by rw[yV],iq (Ext.refl _)⟩
   have bd:o.h4 c p.cz s=o.jv s c.b4 0 false:=by rw[yV,if_neg (fun c7=>c7.2 (by simpa using g7))]
   refine aa ?_;refine K.df 10 c.b4.length [3,4,5] (fun b=>[(9,.bool b)]) false (fun k b w'=>Ext bS w'∧o.jv s c.b4 0 false=o.jv s (c.b4.drop k) k b) bB bB ⟨Ext.refl _,by simp⟩ ?_;rintro k b S bX hk ⟨bk,bH⟩;replace aq:=bk.obj aq;replace bK:=bk.obj bK;refine aa ?_;apply K.cond<;>intro g1
   ·have bh:k<c.b4.length:=by omega
    obtain⟨a,rfl⟩:=bp.addr (by omega);obtain⟨cr,ct,mD,fm,pM⟩:=bp.at k bh;obtain⟨_,_,rfl,_⟩:=fm.form;obtain⟨_,_,rfl,_⟩:=pM.form;rw[o.Hf bh,o.OG] at bH;replace mD:=mD.ext (iq (Ext.refl _));refine aa ?_;refine K.gn (.int .i64 (o.jT c.b4[k] s b)) (fun w' e=>TI c.b4[k] b _ _ _ s w' (fm.ext (iq (bk.trans e))) (pM.ext (iq (bk.trans e))) (h.ext (iq (bk.trans e)))) ?_;refine aa ?_;intro cn bR;replace aq:=bR.obj aq;replace bK:=bR.obj bK;refine aa ?_;apply K.cond<;>intro g2;rotate_left
    ·rw[if_pos g2] at bH;refine aa ?_;exact⟨by rw[bd,bH],iq (bk.trans bR)⟩
    rw[if_neg (by simpa using g2)] at bH;refine aa ?_;refine K.c4 (fun g3=>?_) (fun g3=>?_)
    ·subst g3;refine aa ?_;exact⟨bh,bw,true,bB,bk.trans bR,by simpa using bH⟩
    subst g3;refine aa ?_;apply K.cond<;>intro g4
    ·have aL:o.gh c.b4[k]=true:=by unfold o.gh;rw[decide_eq_true_eq];omega
     refine aa ?_;exact⟨bh,bw,true,bB,bk.trans bR,by simpa[aL] using bH⟩
    have aL:o.gh c.b4[k]=decide (c.b4[k].kind=5):=by unfold o.gh;rw[Bool.eq_iff_iff,decide_eq_true_eq,decide_eq_true_eq];omega
    rw[Bool.false_or,aL] at bH;refine aa ?_;exact⟨bh,bw,decide (c.b4[k].kind=5),bB,bk.trans bR,bH⟩
   ·rw[List.drop_eq_nil_of_le (by omega)] at bH;refine aa ?_;exact⟨by rw[bd,bH];rfl,iq bk⟩
  ·have bd:o.h4 c p.cz s=o.jv s c.b4 0 false:=by rw[yV,if_neg (fun c7=>g6 (by omega))]
   refine aa ?_;refine K.df 10 c.b4.length [3,4,5] (fun b=>[(9,.bool b)]) false (fun k b w'=>Ext bq w'∧o.jv s c.b4 0 false=o.jv s (c.b4.drop k) k b) bB bB ⟨Ext.refl _,by simp⟩ ?_;rintro k b S bX hk ⟨bk,bH⟩;replace aq:=bk.obj aq;replace bK:=bk.obj bK;refine aa ?_;apply K.cond<;>intro g1
   ·have bh:k<c.b4.length:=by omega
    obtain⟨a,rfl⟩:=bp.addr (by omega);obtain⟨cr,ct,mD,fm,pM⟩:=bp.at k bh;obtain⟨_,_,rfl,_⟩:=fm.form;obtain⟨_,_,rfl,_⟩:=pM.form;rw[o.Hf bh,o.OG] at bH;replace mD:=mD.ext (ed (Ext.refl _));refine aa ?_;refine K.gn (.int .i64 (o.jT c.b4[k] s b)) (fun w' e=>TI c.b4[k] b _ _ _ s w' (fm.ext (ed (bk.trans e))) (pM.ext (ed (bk.trans e))) (h.ext (ed (bk.trans e)))) ?_;refine aa ?_;intro cn bR;replace aq:=bR.obj aq;replace bK:=bR.obj bK;refine aa ?_;apply K.cond<;>intro g2;rotate_left
    ·rw[if_pos g2] at bH;refine aa ?_;exact⟨by rw[bd,bH],ed (bk.trans bR)⟩
    rw[if_neg (by simpa using g2)] at bH;refine aa ?_;refine K.c4 (fun g3=>?_) (fun g3=>?_)
    ·subst g3;refine aa ?_;exact⟨bh,bw,true,bB,bk.trans bR,by simpa using bH⟩
    subst g3;refine aa ?_;apply K.cond<;>intro g4
    ·have aL:o.gh c.b4[k]=true:=by unfold o.gh;rw[decide_eq_true_eq];omega
     refine aa ?_;exact⟨bh,bw,true,bB,bk.trans bR,by simpa[aL] using bH⟩
    have aL:o.gh c.b4[k]=decide (c.b4[k].kind=5):=by unfold o.gh;rw[Bool.eq_iff_iff,decide_eq_true_eq,decide_eq_true_eq];omega
    rw[Bool.false_or,aL] at bH;refine aa ?_;exact⟨bh,bw,decide (c.b4[k].kind=5),bB,bk.trans bR,bH⟩
   ·rw[List.drop_eq_nil_of_le (by omega)] at bH;refine aa ?_;exact⟨by rw[bd,bH];rfl,ed bk⟩
theorem ae9(p:o.dj)(CW cs:List Value)(s:o.Scope)(w:World)(aO:o.tX w CW p)(h:o.e6 w cs s)(a8:s.cX)(mI:p.cX) :
  bu Tryz.prog F.Cs #[.agg CW.toArray,.agg cs.toArray] w fun v w'=>v = .tuple #[.int .i64 (o.gD p s).1,.int .i64 (o.gD p s).2.1,.int .i64 (o.gD p s).2.2]∧Ext w w':=by
 obtain⟨a0,bO,dy,c1,a2,c2,a3,d3,a4,d4,rfl,aj,h1,U,ag,aK,eG,du,dF,dV,eo⟩:=h.form;obtain⟨aI,nu,pd,rfl,aS,pI⟩:=aO;obtain⟨cm,bN,rfl,fQ⟩:=aS.form;obtain⟨cA,bT,rfl,lc⟩:=pI.form;refine bM E.Cs ?_;refine bF ?_;refine aa ?_;intro av bC cL aA aq;refine aa ?_;intro aT ca dB aC aM;replace aq:=aC.obj aq;have cR:∀{w'},Ext aT w'→Ext w w':=fun e=>(aA.trans aC).trans e;refine aa ?_;refine K.call (zB p.name aT aI) ?_;rintro u bf ⟨hu,aw⟩;replace aq:=aw.obj aq;replace aM:=aw.obj aM;have fF:∀{w'},Ext bf w'→Ext w w':=fun e=>cR (aw.trans e);have br:∀n,o.whole p s=n→n≠0→o.gD p s=(0,0,n):=fun n e aj=>by unfold o.gD;rw[e,if_pos aj]
 cases fb:o.isName p.name with
 | false =>
  rw[fb] at hu;subst hu;refine aa ?_;exact⟨by rw[br 6 (by unfold o.whole;rw[if_pos fb]) (by decide)],fF (Ext.refl _)⟩
 | true =>
  rw[fb] at hu;subst hu;have o5:¬o.isName p.name=false:=by rw[fb];simp
  refine aa ?_;apply K.cond<;>intro g1
  ·refine aa ?_;exact⟨by rw[br 8 (by unfold o.whole;rw[if_neg o5,if_pos (.inl g1)]) (by decide)],fF (Ext.refl _)⟩
  refine aa ?_;apply K.cond<;>intro g2
  ·refine aa ?_;exact⟨by rw[br 8 (by unfold o.whole;rw[if_neg o5,if_pos (.inr (by omega))]) (by decide)],fF (Ext.refl _)⟩
  have kL:¬(p.over<0∨(s.scalars.length:Int)<p.over):=by omega
  refine aa ?_;apply K.cond<;>intro g3
  ·refine aa ?_;exact⟨by rw[br 10 (by unfold o.whole;rw[if_neg o5,if_neg kL,if_pos (.inl g3)]) (by decide)],fF (Ext.refl _)⟩
  refine aa ?_;apply K.cond<;>intro g4
  ·refine aa ?_;exact⟨by rw[br 10 (by unfold o.whole;rw[if_neg o5,if_neg kL,if_pos (.inr (by omega))]) (by decide)],fF (Ext.refl _)⟩
  have jl:¬(p.cz<1∨12<p.cz):=by omega
  refine aa ?_;apply K.cond<;>intro g5
  ·refine aa ?_;exact⟨by rw[br 11 (by unfold o.whole;rw[if_neg o5,if_neg kL,if_neg jl,if_pos (by omega)]) (by decide)],fF (Ext.refl _)⟩
  have bd:o.gD p s=if (o.jR p s).2≠0 then (1,(o.jR p s).1,(o.jR p s).2) else o.j2 (o.inner p s) p.cz p.cB p.cB 0:=by
   unfold o.gD;rw[if_neg];unfold o.whole;rw[if_neg o5,if_neg kL,if_neg jl,if_neg (by omega)];simp
  clear br;refine aa ?_;refine K.call (TQ _ _ p.vars s.scalars 4 bf (aS.ext (fF (Ext.refl _))) (aj.ext (fF (Ext.refl _)))) ?_;rintro _ bq ⟨rfl,aR⟩;replace aq:=aR.obj aq;replace aM:=aR.obj aM;have ed:∀{w'},Ext bq w'→Ext w w':=fun e=>fF (aR.trans e);refine aa ?_;apply K.cond<;>intro g6;rotate_left
  ·have aP:o.jR p s=o.vars p.vars s.scalars 4:=by unfold o.jR;rw[if_pos g6]
   rw[aP,if_pos g6] at bd;refine aa ?_;exact⟨by rw[bd],ed (Ext.refl _)⟩
  have aP:o.jR p s=o.oj s p.vars 0:=by unfold o.jR;rw[if_neg (by simpa using g6)]
  rw[aP] at bd;refine aa ?_;refine K.df 9 p.vars.length [2,3] (fun _:Unit=>[]) () (fun k _ w'=>Ext bq w'∧o.oj s p.vars 0=o.oj s (p.vars.drop k) k) bB bB ⟨Ext.refl _,by simp⟩ ?_;rintro k _ S bS hk ⟨bj,bH⟩;replace aq:=bj.obj aq;replace aM:=bj.obj aM;refine aa ?_;apply K.cond<;>intro g7
  ·have bh:k<p.vars.length:=by omega
   obtain⟨a,rfl⟩:=aS.addr (by omega);have et:=((aS.at k bh).cells).ext (ed bj);rw[o.SU bh] at bH;refine aa ?_;apply K.cond<;>intro g8;rotate_left
   ·rw[if_pos g8] at bH;refine aa ?_;exact⟨by rw[bd,bH];rfl,ed bj⟩
   rw[if_neg (by simpa using g8)] at bH;refine aa ?_;refine K.df 10 s.vars.length [2,3,9] (fun _:Unit=>[]) () (fun j _ w'=>Ext bS w'∧∀t (aL:t<s.vars.length),t<j→¬s.vars[t].name=p.vars[k].name) bB bB ⟨Ext.refl _,fun _ _ h=>absurd h (Nat.not_lt_zero _)⟩ ?_;rintro j _ a6 bX aU ⟨bk,qw⟩;replace aq:=bk.obj aq;replace aM:=bk.obj aM;have kj:∀{w'},Ext bX w'→Ext w w':=fun e=>ed ((bj.trans bk).trans e);refine aa ?_;apply K.cond<;>intro g9
   ·have ef:j<s.vars.length:=by omega
    obtain⟨dt,rfl⟩:=h1.addr (by omega);have fV:=((h1.at j ef).cells).ext (kj (Ext.refl _));replace et:=et.ext bk;refine aa ?_;intro cn bR;replace aq:=bR.obj aq;replace aM:=bR.obj aM;refine aa ?_;apply K.cond<;>intro g10
    ·have wA:s.vars.any (fun x=>decide (x.name=p.vars[k].name))=true:=List.any_eq_true.2 ⟨s.vars[j],List.getElem_mem _,by simpa using g10⟩;rw[if_pos wA] at bH;refine aa ?_;exact⟨by rw[bd,bH];rfl,kj bR⟩
    ·refine aa ?_;exact⟨ef,bw,(),trivial,bk.trans bR,fun t aL h=>by
      by_cases e:t=j
      ·subst e;exact g10
      ·exact qw t aL (by omega)⟩
   ·have wA:¬s.vars.any (fun x=>decide (x.name=p.vars[k].name))=true:=by
     intro c7;obtain⟨x,ar,hV⟩:=List.any_eq_true.1 c7;obtain⟨t,aL,rfl⟩:=List.mem_iff_getElem.1 ar;exact qw t aL (by omega) (by simpa using hV)
    rw[if_neg wA] at bH;refine aa ?_;exact⟨bh,bw,(),trivial,bj.trans bk,bH⟩
  rw[List.drop_eq_nil_of_le (by omega)] at bH;replace bd:o.gD p s=o.j2 (o.inner p s) p.cz p.cB p.cB 0:=by rw[bd,bH];rfl
  clear bH aP;have fw:∀w',Ext w w'→o.e6 w' [.slice a0 s.scalars.length bO,.slice dy s.vars.length c1,.slice a2 s.aJ.length c2,.slice a3 s.procs.length d3,.slice cm p.vars.length bN,.int .i64 p.over] (o.inner p s):=fun w' e =>
   ⟨(a8.inner mI).pj.1,_,_,_,_,_,rfl,aj.ext e,h1.ext e,U.ext e,ag.ext e,aS.ext e,(a8.inner mI).pj.2⟩
  refine aa ?_;intro bX b5 fU bk bK;replace aq:=bk.obj aq;replace aM:=bk.obj aM;have kj:∀{w'},Ext bX w'→Ext w w':=fun e=>ed ((bj.trans bk).trans e);refine aa ?_;refine K.df 12 p.cB.length [2,3,11] (fun _:Unit=>[]) () (fun k _ w'=>Ext bX w'∧o.j2 (o.inner p s) p.cz p.cB p.cB 0=o.j2 (o.inner p s) p.cz p.cB (p.cB.drop k) k) bB bB ⟨Ext.refl _,by simp⟩ ?_;rintro k _ S cn hk ⟨bR,bH⟩;replace aq:=bR.obj aq;replace aM:=bR.obj aM;replace bK:=bR.obj bK;have gI:∀{w'},Ext cn w'→Ext w w':=fun e=>kj (bR.trans e);refine aa ?_;apply K.cond<;>intro g7
  ·have bh:k<p.cB.length:=by omega
   obtain⟨a,rfl⟩:=pI.addr (by omega);obtain⟨ay,fD,eD,gr,rI,qJ⟩:=pI.at k bh;obtain⟨oo,kU,rfl,SN⟩:=rI.form;obtain⟨bl,iz,rfl,oi⟩:=qJ.form;rw[o.Pa bh] at bH;replace gr:=gr.ext (gI (Ext.refl _));refine aa ?_;refine K.gn (.tuple #[.int .i64 (o.h4 p.cB[k] p.cz (o.inner p s)).1,.int .i64 (o.h4 p.cB[k] p.cz (o.inner p s)).2]) (fun w' e=>aeB p.cB[k] _ _ p _ _ _ (o.inner p s) w' ay (rI.ext (gI e)) (qJ.ext (gI e)) (aS.ext (gI e)) (pI.ext (gI e)) (fw _ (gI e))) ?_;refine aa ?_;intro dv bW;replace aq:=bW.obj aq;replace aM:=bW.obj aM;replace bK:=bW.obj bK;replace gr:=gr.ext bW;have jX:∀{w'},Ext dv w'→Ext w w':=fun e=>gI (bW.trans e);refine aa ?_;apply K.cond<;>intro g8;rotate_left
   ·rw[if_pos g8] at bH;refine aa ?_;exact⟨by rw[bd,bH],jX (Ext.refl _)⟩
   rw[if_neg (by simpa using g8)] at bH;refine aa ?_;refine K.df 15 k [2,3,11,12] (fun _:Unit=>[]) () (fun j _ w'=>Ext dv w'∧∀t (aL:t<p.cB.length),t<j→¬p.cB[t].name=p.cB[k].name) bB bB ⟨Ext.refl _,fun _ _ h=>absurd h (Nat.not_lt_zero _)⟩ ?_;rintro j _ a6 eA aU ⟨cp,qw⟩;replace aq:=cp.obj aq;replace aM:=cp.obj aM;replace bK:=cp.obj bK;have kk:∀{w'},Ext eA w'→Ext w w':=fun e=>jX (cp.trans e);refine aa ?_;apply K.cond<;>intro g9
   ·have ef:j<p.cB.length:=by omega
    obtain⟨_,ajG,GB,QU,_,_⟩:=pI.at j ef;replace QU:=QU.ext (kk (Ext.refl _));replace gr:=gr.ext cp;refine aa ?_;intro eR dJ;replace aq:=dJ.obj aq;replace aM:=dJ.obj aM;replace bK:=dJ.obj bK;refine aa ?_;apply K.cond<;>intro g10
    ·have wA:(p.cB.take k).any (fun x=>decide (x.name=p.cB[k].name))=true:=List.any_eq_true.2 ⟨p.cB[j],by rw[List.mem_iff_getElem];exact⟨j,by simp;omega,by simp⟩,by simpa using g10⟩;rw[if_pos wA] at bH;refine aa ?_;exact⟨by rw[bd,bH],kk dJ⟩
    ·refine aa ?_;exact⟨by omega,bw,(),trivial,cp.trans dJ,fun t aL h=>by
      by_cases e:t=j
      ·subst e;exact g10
      ·exact qw t aL (by omega)⟩
   ·have wA:¬(p.cB.take k).any (fun x=>decide (x.name=p.cB[k].name))=true:=by
     intro c7;obtain⟨x,ar,hV⟩:=List.any_eq_true.1 c7;obtain⟨t,aL,rfl⟩:=List.mem_iff_getElem.1 ar;have abg:t<k∧t<p.cB.length:=by simp at aL;omega
     exact qw t abg.2 (by omega) (by simpa using hV)
    rw[if_neg wA] at bH;refine aa ?_;exact⟨bh,bw,(),trivial,(bR.trans bW).trans cp,bH⟩
  ·rw[List.drop_eq_nil_of_le (by omega)] at bH;refine aa ?_;exact⟨by rw[bd,bH];rfl,gI (Ext.refl _)⟩
theorem aeO(cs:List Value)(m:o.Model)(k:Nat)(w:World)(h:o.er w cs m)(a8:m.cX)(hk:k<m.procs.length)(BD:k≤6)(Fe:m.scalars.length≤2∧m.vars.length≤12∧m.aJ.length≤4)(aaU:k<6→∀j,j<k→(o.hc m j).1=0) :
  bu Tryz.prog F.Cz #[.agg cs.toArray,.int .i64 k] w fun v w'=>v=ux (if (o.hc m k).1≠0 then ⟨(o.hc m k).1,4,k,(o.hc m k).2⟩ else o.rn)∧Ext w w':=by
 have bg:=h;obtain⟨cy,bO,b9,c1,ch,c2,cm,bN,cA,bT,rfl,aj,h1,U,ag,aK,eG,du,dF,dV,eo⟩:=h.form;have dL:=o.H0 hk;refine bM E.Cz ?_;refine bF ?_;refine aa ?_;intro av bC cL aA aq;refine aa ?_;intro aT ca dB aC aM;replace aq:=aC.obj aq;have ba:=aA.trans aC;have fE:=cM aq;have z2:=aA.size;refine aa ?_;apply K.cond<;>intro g1
 ·rw[if_pos (by omega)] at dL;refine aa ?_;intro bf eZ bK;refine aa ?_;exact⟨by rw[dL];rfl,eZ.ext ba (by omega)⟩
 rw[if_neg (by omega)] at dL;obtain⟨a,rfl⟩:=ag.addr (by omega);obtain⟨oa,ct,dM,aO,eJ,ej⟩:=ag.at k hk;obtain⟨e1,fu,rfl,fQ⟩:=eJ.form;obtain⟨om,j0,rfl,lc⟩:=ej.form;have mI:=a8.proc _ (List.getElem_mem hk);replace aO:=aO.ext ba;refine aa ?_;intro bf dH mB aw cC;replace aq:=aw.obj aq;replace aM:=aw.obj aM;refine aa ?_;intro bq aR;replace aq:=aR.obj aq;replace aM:=aR.obj aM;replace cC:=aR.obj cC;have b3:=(ba.trans aw).trans aR;refine aa ?_;refine K.call (aeR (w0:=w) _ m k bq bg b3 a8) ?_;rintro _ bS ⟨⟨ahi,rfl,j8⟩,bj⟩;refine⟨bj,?_⟩;have cc:=b3.trans bj;obtain⟨jW,DC,lK,nB,lL,mP,mi,zT,lM,xF,rfl,_⟩:=(j8 _ cc).form;refine aa ?_;refine K.call (ae9 m.procs[k] _ _ (o.gg m k) bS ⟨oa,_,_,rfl,eJ.ext cc,ej.ext cc⟩ (j8 _ cc) (a8.gg _) mI) ?_;rintro _ bX ⟨rfl,bk⟩;replace aq:=(bj.trans bk).obj aq;replace aM:=(bj.trans bk).obj aM;replace cC:=(bj.trans bk).obj cC;have c0:=cc.trans bk;clear ba b3 aO;have fw:=o.Tt m.procs[k] (o.gg m k) 140737488351232 fun c ax=>by have:=(mI.cmd c ax).b4;unfold o.dY at this;omega
 have abo:m.procs[k].vars.length≤140737488351232:=by have:=mI.vars;unfold o.dY at this;omega
 have mC:m.procs[k].cB.length≤140737488351232:=by have:=mI.cB;unfold o.dY at this;omega
 refine aa ?_;apply K.cond<;>intro g2;rotate_left
 ·rw[if_pos g2] at dL;refine aa ?_;intro cn ek da;refine aa ?_;exact⟨by rw[dL,if_pos g2];rfl,ek.ext c0 (by omega)⟩
 rw[if_neg (by simpa using g2)] at dL;have hlen:∀(i:Int),m.scalars.length+o.cD 1 4 i m.vars.length+o.cD 2 4 i m.aJ.length+o.cD 3 4 k m.procs.length+o.gG 4 i m.props.length≤8000000000000:=fun i=>by
  have dO:=o.tI 1 4 i m.vars.length;have dP:=o.tI 2 4 i m.aJ.length;have eg:o.cD 3 4 k m.procs.length≤k:=by unfold o.cD; (repeat' split)<;>omega
  have gR:o.gG 4 i m.props.length=0:=by unfold o.gG;rw[if_neg (by decide)]
  omega
 refine aa ?_;intro cn bR;replace aq:=bR.obj aq;replace aM:=bR.obj aM;replace cC:=bR.obj cC;have dZ:=c0.trans bR;refine aa ?_;refine K.call (As _ m 4 k cn (bg.ext dZ) (by omega) (by omega) (hlen k)) ?_;rintro _ dv ⟨⟨v,rfl,fI⟩,bW⟩;refine⟨bW,?_⟩;rw[o.V3] at fI;replace aq:=bW.obj aq;replace aM:=bW.obj aM;replace cC:=bW.obj cC;have eW:=dZ.trans bW;refine aa ?_;refine K.call (Bg v _ m.procs[k].name _ dv fI) ?_;rintro _ mh ⟨rfl,rfl⟩;refine aa ?_;apply K.cond<;>intro g3
 ·rw[if_pos g3] at dL;refine aa ?_;intro eA lC dI;refine aa ?_;exact⟨by rw[dL];rfl,lC.ext eW (by omega)⟩
 rw[if_neg g3] at dL;have qG:m.procs.length*80≤140737488355328:=by have:=a8.procs;unfold o.dY at this;omega
 have BI:m.scalars.length+o.cD 1 5 (0:Nat) m.vars.length+o.cD 2 5 (0:Nat) m.aJ.length+o.cD 3 5 (0:Nat) m.procs.length+o.gG 5 (0:Nat) m.props.length≤8000000000000:=by
  have dO:=o.tI 1 5 (0:Nat) m.vars.length;have dP:=o.tI 2 5 (0:Nat) m.aJ.length;have eg:=o.tI 3 5 (0:Nat) m.procs.length;have gR:o.gG 5 (0:Nat) m.props.length=0:=by unfold o.gG;rw[if_pos (by decide)];simp
  omega
 have uB:=aq;have wD:=aM;have QH:=cC;clear aq aM cC fI;have aq:=uB;have cC:=QH;refine aa ?_;refine K.df 9 m.procs[k].vars.length [1,2,4,5] (fun _:Unit=>[]) () (fun j _ w'=>Ext mh w'∧∀i,i<j→o.oX m m.procs[k] i=0) bB bB ⟨Ext.refl _,fun j h=>absurd h (Nat.not_lt_zero _)⟩ ?_;clear aq cC;rintro j _ S eA aU ⟨cp,bU⟩;have aq:=cp.obj uB;have aM:=cp.obj wD;have cC:=cp.obj QH;have nd:=eW.trans cp;refine aa ?_;apply K.cond<;>intro g4
 ·have ef:j<m.procs[k].vars.length:=by omega
  obtain⟨dt,rfl⟩:=eJ.addr (by omega);have et:=((eJ.at j ef).cells).ext nd;have fb:=o.zs (f:=fun x:o.Var=>x.name) ef;refine aa ?_;intro eR dJ;replace aq:=dJ.obj aq;replace aM:=dJ.obj aM;replace cC:=dJ.obj cC;replace et:=et.ext dJ;have j3:=nd.trans dJ;refine aa ?_;refine K.call (As _ m 5 (0:Nat) eR (bg.ext j3) (by omega) (by omega) BI) ?_;rintro _ gH ⟨⟨v2,rfl,BR⟩,hf⟩;refine⟨hf,?_⟩;rw[o.OO] at BR;replace aq:=hf.obj aq;replace aM:=hf.obj aM;replace cC:=hf.obj cC;have nN:=j3.trans hf;refine aa ?_;refine K.call (Bg v2 _ m.procs[k].vars[j].name _ gH BR) ?_;rintro _ xD ⟨rfl,rfl⟩;have c9:o.pU m 0=o.hG m m.procs.length:=by simp[o.pU]
  rw[c9];refine aa ?_;apply K.cond<;>intro g5
  ·have sP:o.oX m m.procs[k] j=7:=by unfold o.oX;rw[fb,if_pos g5]
   rw[o.hR ef bU (by rw[sP];decide),sP,if_pos (show(7:Int)≠0 by decide)] at dL;refine aa ?_;intro kh nq ry;refine aa ?_;exact⟨by rw[dL];rfl,nq.ext nN (by omega)⟩
  ·refine aa ?_;refine⟨ef,bw,(),trivial,(cp.trans dJ).trans hf,fun i ad=>?_⟩;by_cases Ft:i=j
   ·subst Ft;unfold o.oX;rw[fb,if_neg g5]
   ·exact bU i (by omega)
 ·rw[o.ng fun i ad=>bU i (by omega),if_neg (by simp)] at dL;refine aa ?_;intro eR k1 kB;refine aa ?_;exact⟨by rw[dL];rfl,k1.ext nd (by omega)⟩
theorem aeP(cs:List Value)(m:o.Model)(k:Nat)(w:World)(h:o.er w cs m)(a8:m.cX)(hk:k<m.props.length)(Rn:k≤8)(Fe:m.scalars.length≤2∧m.vars.length≤12∧m.aJ.length≤4)(aaU:m.procs.length≤6) :
  bu Tryz.prog F.CA #[.agg cs.toArray,.int .i64 k] w fun v w'=>v = .int .i64 (o.ll m k)∧Ext w w':=by
 have bg:=h;obtain⟨cy,bO,b9,c1,ch,c2,cm,bN,cA,bT,rfl,aj,h1,U,ag,aK,eG,du,dF,dV,eo⟩:=h.form;have dL:=o.PO hk;refine bM E.CA ?_;refine bF ?_;refine aa ?_;intro av bC cL aA aq;refine aa ?_;apply K.cond<;>intro g1
 ·rw[if_pos (by omega)] at dL;refine aa ?_;exact⟨by rw[dL],aA⟩
 rw[if_neg (by omega)] at dL;obtain⟨a,rfl⟩:=aK.addr (by omega);obtain⟨oa,hs,aO,iE⟩:=aK.at k hk;obtain⟨Th,ce,rfl,le⟩:=iE.form;replace aO:=aO.ext aA;refine aa ?_;intro aT dH mB aC cC;replace aq:=aC.obj aq;have ba:=aA.trans aC;refine aa ?_;refine K.call (zB m.props[k].name aT oa) ?_;rintro _ bf ⟨rfl,aw⟩;replace aq:=aw.obj aq;replace cC:=aw.obj cC;have bQ:=ba.trans aw;refine aa ?_;refine K.c4 (fun g2=>?_) (fun g2=>?_);rotate_left
 ·rw[if_pos g2] at dL;refine aa ?_;exact⟨by rw[dL],bQ⟩
 rw[if_neg (by rw[g2];decide)] at dL;refine aa ?_;intro bq aR;replace aq:=aR.obj aq;replace cC:=aR.obj cC;have b3:=bQ.trans aR;refine aa ?_;refine K.call (As _ m 5 k bq (bg.ext b3) (by omega) (by omega) (by
  have dO:=o.tI 1 5 k m.vars.length;have dP:=o.tI 2 5 k m.aJ.length;have eg:=o.tI 3 5 k m.procs.length;have gR:o.gG 5 k m.props.length≤k:=by unfold o.gG; (repeat' split)<;>omega
  omega)) ?_
 rintro _ bS ⟨⟨v2,rfl,BR⟩,bj⟩;refine⟨bj,?_⟩;rw[o.OO] at BR;replace aq:=bj.obj aq;replace cC:=bj.obj cC;have cc:=b3.trans bj;refine aa ?_;refine K.call (Bg v2 _ m.props[k].name _ bS BR) ?_;rintro _ xD ⟨rfl,rfl⟩;refine aa ?_;apply K.cond<;>intro g3
 ·rw[if_pos g3] at dL;refine aa ?_;exact⟨by rw[dL],cc⟩
 rw[if_neg g3] at dL;have j8:∀w',Ext w w'→o.e6 w' [.slice cy m.scalars.length bO,.slice b9 m.vars.length c1,.slice ch m.aJ.length c2,.slice cm m.procs.length bN,.slice none 0 0,.int .i64 0] (o.eU m):=fun w' e =>
  ⟨a8.scope.pj.1,_,_,_,_,_,rfl,aj.ext e,h1.ext e,U.ext e,ag.ext e,bz.nil,a8.scope.pj.2⟩
 refine aa ?_;refine K.call (TN _ m.props[k].expr _ (o.eU m) _ (iE.ext cc) (j8 _ cc)) ?_;rintro _ bX ⟨rfl,bk⟩;refine aa ?_;apply K.cond<;>intro g4;rotate_left
 ·rw[if_pos g4] at dL;refine aa ?_;exact⟨by rw[dL],cc.trans bk⟩
 rw[if_neg (by simpa using g4)] at dL;refine aa ?_;apply K.cond<;>intro g5;rotate_left
 ·rw[if_pos g5] at dL;refine aa ?_;exact⟨by rw[dL],cc.trans bk⟩
 rw[if_neg (by simpa using g5)] at dL;refine aa ?_;exact⟨by rw[dL],cc.trans bk⟩
theorem KN(cs:List Value)(m:o.Model)(w:World)(h:o.er w cs m)(a8:m.cX) :
  bu Tryz.prog F.w9 #[.agg cs.toArray] w fun v w'=>v=ux (o.check m)∧Ext w w':=by
 have bg:=h;obtain⟨cy,bO,b9,c1,ch,c2,cm,bN,cA,bT,rfl,aj,h1,U,ag,aK,eG,du,dF,dV,eo⟩:=h.form;refine bM E.w9 ?_;refine bF ?_;simp -dsimp only[cw];refine ei ?_;intro av bC cL aA aq;refine ei ?_;intro aT ca dB aC aM;replace aq:=aC.obj aq;have ba:=aA.trans aC;have fE:=cM aq;have z2:=cM aM;have z3:=aA.size;refine ei ?_;simp -dsimp only[cw];refine ei ?_;refine K.call (aeJ _ m aT (bg.ext ba)) ?_;rintro _ bf ⟨rfl,aw⟩;replace aq:=aw.obj aq;replace aM:=aw.obj aM;unfold ux;have z4:=aC.size;have z5:=aw.size;refine ei ?_;intro bq b5 fU aR bK;replace aq:=aR.obj aq;replace aM:=aR.obj aM;have b3:=(ba.trans aw).trans aR;have DG:=cM bK;have uB:=aq;have wD:=aM;have ahz:=bg.ext b3;refine ei ?_;refine K.hQ [1,2,3] (fun _:o.p9=>[]) (fun f w'=>Mod (fun i=>i=b5) bq w'∧w'.heap[b5]? = some (.cells #[.int .i64 f.dp,.int .i64 f.part,.int .i64 f.item,.int .i64 f.sub] T.s) ∧
  ((f.dp≠0∧f=o.check m)∨(f.dp=0∧(o.data m).dp=0∧∀j,j<m.procs.length→(o.hc m j).1=0))) ?_ ?_
 ·refine aa ?_;refine K.df 4 m.procs.length [1,2,3] (fun _:o.p9=>[]) (o.data m) (fun k f w'=>Mod (fun i=>i=b5) bq w'∧w'.heap[b5]? = some (.cells #[.int .i64 f.dp,.int .i64 f.part,.int .i64 f.item,.int .i64 f.sub] T.s) ∧
   ((f=o.data m∧(o.data m).dp≠0)∨((o.data m).dp=0∧f.dp=0∧∀j,j<k→(o.hc m j).1=0)∨((o.data m).dp=0∧f=o.lF m∧(o.lF m).dp≠0))) bB bB ⟨Mod.refl _ _,bK,by
     by_cases h:(o.data m).dp=0
     ·exact .inr (.inl ⟨h,h,fun j h=>absurd h (Nat.not_lt_zero _)⟩)
     ·exact .inl ⟨rfl,h⟩⟩ ?_
  clear aq aM bK;rintro k f S bS hk ⟨m5,bK,aN⟩;have aq:=m5.obj (by omega) uB;have aM:=m5.obj (by omega) wD;have cc:=m5.ext b3 (fun i ad e=>by omega);have P0:f.dp≠0→(f.dp≠0∧f=o.check m):=fun hw=>⟨hw,by
   rcases aN with ⟨rfl,h⟩ | ⟨_,h,_⟩ | ⟨h1,rfl,U⟩
   ·rw[o.check,if_pos h]
   ·exact absurd h hw
   ·rw[o.check,if_neg (by simpa using h1),if_pos U]⟩
  refine aa ?_;apply K.cond<;>intro g1
  ·have bh:k<m.procs.length:=by omega
   refine aa ?_;apply K.cond<;>intro g2
   ·have nk:(o.data m).dp=0∧f.dp=0∧∀j,j<k→(o.hc m j).1=0:=by
     rcases aN with ⟨rfl,h⟩ | h | ⟨h1,rfl,U⟩
     ·exact absurd g2 h
     ·exact h
     ·exact absurd g2 U
    have BD:k≤6:=by
     apply Classical.byContradiction;intro aI
     have:=o.EL (m:=m) (i:=6) (by omega) (nk.2.2 6 (by omega))
     omega
    refine aa ?_;refine K.call (aeO _ m k bS (bg.ext cc) a8 bh BD (o.EE nk.1) fun _=>nk.2.2) ?_;rintro _ bX ⟨rfl,bk⟩;unfold ux;replace aq:=bk.obj aq;replace aM:=bk.obj aM;replace bK:=bk.obj bK;refine aa ?_;intro cn ek da;refine aa ?_;refine⟨bh,bw,_,trivial,(m5.trans bk.mod).trans (ek.mod rfl),da,?_⟩;by_cases aj:(o.hc m k).1=0
    ·rw[if_neg (by simpa using aj)];refine .inr (.inl ⟨nk.1,rfl,fun j aU=>?_⟩);by_cases hC:j=k
     ·subst hC;exact aj
     ·exact nk.2.2 j (by omega)
    ·rw[if_pos aj]
     have:=o.CZ bh nk.2.2 aj
     exact .inr (.inr ⟨nk.1,this.symm,by rw[this];exact aj⟩)
   ·refine aa ?_;exact⟨f,trivial,m5,bK,.inl (P0 g2)⟩
  ·refine aa ?_;refine⟨f,trivial,m5,bK,?_⟩;by_cases hw:f.dp=0
   ·refine .inr ?_;rcases aN with ⟨rfl,h⟩ | ⟨h1,U,ag⟩ | ⟨h1,rfl,U⟩
    ·exact absurd hw h
    ·exact⟨U,h1,fun j aU=>ag j (by omega)⟩
    ·exact absurd hw U
   ·exact .inl (P0 hw)
 clear aq aM bK;rintro f S bS ⟨m5,bK,aN⟩;have aq:=m5.obj (by omega) uB;have aM:=m5.obj (by omega) wD;have cc:=m5.ext b3 (fun i ad e=>by omega);refine aa ?_;apply K.cond<;>intro g1;rotate_left
 ·have kX:f=o.check m:=by
   rcases aN with ⟨_,h⟩ | ⟨h,_⟩
   ·exact h
   ·exact absurd h g1
  refine aa ?_;intro bX fW dr;refine aa ?_;exact⟨by rw[kX],fW.ext cc (by omega)⟩
 have dh:(o.data m).dp=0∧∀j,j<m.procs.length→(o.hc m j).1=0:=by
  rcases aN with ⟨h,_⟩ | ⟨_,h⟩
  ·exact absurd g1 h
  ·exact h
 obtain⟨br,wx⟩:=dh;have Fe:=o.EE br;have qG:m.procs.length≤6:=by
  apply Classical.byContradiction;intro aI
  have:=o.EL (i:=6) (by omega) (wx 6 (by omega))
  omega
 have rC:o.sa m:=⟨by omega,by omega,by omega,fun p aO=>by
  obtain⟨j,aU,rfl⟩:=List.mem_iff_getElem.1 aO
  have:=o.Kw (o.A3 aU (wx j aU)).2.1
  omega⟩
 have o6:=o.Kx wx;have kX:o.check m=if (o.lF m).dp≠0 then o.lF m else o.ou m:=by rw[o.check,if_neg (by simpa using br)]
 clear bK;refine aa ?_;refine K.call (aeN _ m bS (bg.ext cc) rC) ?_;rintro _ bX ⟨rfl,bk⟩;replace aq:=bk.obj aq;replace aM:=bk.obj aM;have c0:=cc.trans bk;refine aa ?_;apply K.cond<;>intro g2
 ·rw[if_pos (.inl (by omega))] at o6;rw[o6,if_pos (show(11:Int)≠0 by decide)] at kX;refine aa ?_;intro cn ek da;refine aa ?_;exact⟨by rw[kX];rfl,ek.ext c0 (by omega)⟩
 refine aa ?_;apply K.cond<;>intro g3
 ·rw[if_pos (.inr (by omega))] at o6;rw[o6,if_pos (show(11:Int)≠0 by decide)] at kX;refine aa ?_;intro cn ek da;refine aa ?_;exact⟨by rw[kX];rfl,ek.ext c0 (by omega)⟩
 rw[if_neg (by omega)] at o6;rw[o6,if_neg (by simp[o.rn])] at kX;have ZN:=aq;have ZO:=aM;refine aa ?_;refine K.df 8 m.props.length [1,2] (fun _:Unit=>[]) () (fun k _ w'=>Ext bX w'∧∀j,j<k→o.ll m j=0) bB bB ⟨Ext.refl _,fun j h=>absurd h (Nat.not_lt_zero _)⟩ ?_;clear aq aM;rintro k _ lW cn hk ⟨bR,bU⟩;have aq:=bR.obj ZN;have aM:=bR.obj ZO;have dZ:=c0.trans bR;refine aa ?_;apply K.cond<;>intro g4
 ·have bh:k<m.props.length:=by omega
  have Rn:k≤8:=by
   apply Classical.byContradiction;intro aI
   have:=o.Yd (m:=m) (i:=8) (by omega) (bU 8 (by omega))
   omega
  refine aa ?_;refine K.call (aeP _ m k cn (bg.ext dZ) a8 bh Rn Fe qG) ?_;rintro _ dv ⟨rfl,bW⟩;replace aq:=bW.obj aq;replace aM:=bW.obj aM;refine aa ?_;apply K.cond<;>intro g5;rotate_left
  ·rw[o.Tv bh bU g5] at kX;refine aa ?_;intro eA lC dI;refine aa ?_;exact⟨by rw[kX];rfl,lC.ext (dZ.trans bW) (by omega)⟩
  ·refine aa ?_;refine⟨bh,bw,(),trivial,bR.trans bW,fun j aU=>?_⟩;by_cases hC:j=k
   ·subst hC;simpa using g5
   ·exact bU j (by omega)
 ·rw[o.Kz fun j aU=>bU j (by omega)] at kX;refine aa ?_;intro dv kG eN;refine aa ?_;exact⟨by rw[kX];rfl,kG.ext dZ (by omega)⟩
end Go.Proofs.R
end
section
namespace bt
open Go Go.RowKit
def rX(l:List ByteArray):List (ByteArray×Value):=l.map fun x=>(x,.bool true)
theorem afw(l:List ByteArray)(x:ByteArray):((rX l).find? (fun p=>decide (x=p.1))).map (·.2)=if x∈l then some (.bool true) else none:=by
 induction l with
 | nil=>rfl
 | cons y l fB =>
  simp only[rX,List.map_cons,List.find?_cons,List.mem_cons];by_cases h:x=y
  ·simp[h]
  ·simp only[h,decide_false,false_or];exact fB
structure xQ(es:Array MapEntry)(c:Nat)(L:List ByteArray):Prop where
 wX:∃l,ha Value.string es.toList (rX l)∧∀x,x∈l↔x∈L
 born:∀e∈es.toList,e.born<c
 nodup:(es.toList.map (·.born)).Nodup
theorem ha.mem{l:List ByteArray}:∀{es:List MapEntry},ha Value.string es (rX l)→∀e∈es,∃x∈l,e.key = .string x∧e.val = .bool true:=by
 induction l with
 | nil=>intro es h e he;cases es with | nil=>cases he | cons _ _=>simp[ha,rX] at h
 | cons y l fB =>
  intro es h e he;cases es with
  | nil=>cases he
  | cons f es =>
   simp only[ha,rX,List.map_cons,List.cons.injEq,Prod.mk.injEq] at h;rcases List.mem_cons.1 he with rfl | he
   ·exact⟨y,by simp,h.1.1,h.1.2⟩
   ·obtain⟨x,ar,U⟩:=fB (es:=es) h.2 e he;exact⟨x,by simp[ar],U⟩
theorem ha.Km{l:List ByteArray}:∀{es:List MapEntry},ha Value.string es (rX l)→∀x∈l,∃e∈es,e.key = .string x:=by
 induction l with
 | nil=>intro es h x ar;cases ar
 | cons y l fB =>
  intro es h x ar;cases es with
  | nil=>simp[ha,rX] at h
  | cons f es =>
   simp only[ha,rX,List.map_cons,List.cons.injEq,Prod.mk.injEq] at h;rcases List.mem_cons.1 ar with rfl | ar
   ·exact⟨f,by simp,h.1.1⟩
   ·obtain⟨e,he,U⟩:=fB (es:=es) h.2 x ar;exact⟨e,by simp[he],U⟩
theorem xQ.mem{es:Array MapEntry}{c:Nat}{L:List ByteArray}(h:xQ es c L):∀e∈es.toList,∃x∈L,e.key = .string x∧e.val = .bool true:=fun e he=>by
 obtain⟨l,h1,U⟩:=h.wX;obtain⟨x,ar,ag⟩:=h1.mem e he;exact⟨x,(U x).1 ar,ag⟩
theorem xQ.Km{es:Array MapEntry}{c:Nat}{L:List ByteArray}(h:xQ es c L):∀x∈L,∃e∈es.toList,e.key = .string x:=fun x ar=>by
 obtain⟨l,h1,U⟩:=h.wX;exact h1.Km x ((U x).2 ar)
theorem Ie{d:TypeDesc}{k:Value}:∀{es:List MapEntry} {i j:Nat} {v:Value},Instr.findNow d k es i=some (some (j,v))→i≤j∧∃e,es[j - i]? = some e∧Instr.sameNow d k e.key=some true
 | [],i,j,v,h=>by simp[Instr.findNow] at h
 | e :: es,i,j,v,h=>by
  unfold Instr.findNow at h;split at h
  ·rename_i ay;injection h with h;injection h with h;injection h with h1 U
   subst h1;exact⟨Nat.le_refl _,e,by simp,ay⟩
  ·obtain⟨h1,e',U,ag⟩:=Ie h;refine⟨by omega,e',?_,ag⟩;rw[show j - i=(j - (i+1))+1 from by omega,List.getElem?_cons_succ];exact U
  ·cases h
theorem ac4{es:Array MapEntry}{j:Nat}{e:MapEntry}{f:MapEntry→MapEntry}(aU:es[j]? = some e)(aN:f e=e):es.modify j f=es:=by
 apply Array.ext_getElem?;intro i;rw[Array.getElem?_modify];by_cases h:j=i
 ·subst h;rw[if_pos rfl,aU,Option.map_some,aN]
 ·rw[if_neg h]
def e7(w:World)(b:Nat)(L:List ByteArray):Prop := ∃es c,w.heap[b]? = some (.map es c)∧xQ es c L
theorem e7.of{w w':World}{b:Nat}{L:List ByteArray}(h:e7 w b L)(e:w'.heap[b]? = w.heap[b]?):e7 w' b L:=let ⟨es,c,h1,U⟩:=h; ⟨es,c,e.trans h1,U⟩
theorem e7.lt{w:World}{b:Nat}{L:List ByteArray}(h:e7 w b L):b<w.heap.size:=let ⟨_,_,h1,_⟩:=h;cM h1
theorem e7.ext{w w':World}{b:Nat}{L:List ByteArray}(h:e7 w b L)(e:Ext w w'):e7 w' b L:=h.of (e.heap h.lt)
theorem e7.wr{w w':World}{b k:Nat}{L:List ByteArray}(h:e7 w b L)(e:dK k w w')(hk:b≠k):e7 w' b L:=h.of (e.block b hk)
theorem e7.hK{w:World}{b:Nat}{L vw:List ByteArray}(h:e7 w b L)(e:∀x,x∈L↔x∈vw):e7 w b vw:=by
 obtain⟨es,c,h1,⟨⟨l,U,ag⟩,aK,bc⟩⟩:=h;exact⟨es,c,h1,⟨⟨l,U,fun x=>(ag x).trans (e x)⟩,aK,bc⟩⟩
theorem e7.empty{w:World}{b:Nat}(h:w.heap[b]? = some (.map #[] 0)):e7 w b []:=⟨_,_,h,⟨⟨[],rfl,fun _=>Iff.rfl⟩,fun e he=>by simp at he,by simp⟩⟩
theorem e7.look{w:World}{b:Nat}{L:List ByteArray}(h:e7 w b L)(x:ByteArray):∃es r,ps w (.map (some b)) es∧Instr.findNow .string (.string x) es.toList 0=some r∧k4 (.bool false) false r = .bool (decide (x∈L)):=by
 obtain⟨es,c,h1,⟨⟨l,U,ag⟩,_,_⟩⟩:=h;obtain⟨r,nm,jP⟩:=wg Gg x es.toList _ 0 U;rw[afw] at jP;refine⟨es,r,.inr ⟨b,c,rfl,h1⟩,nm,?_⟩;by_cases ar:x∈L
 ·rw[if_pos ((ag x).2 ar)] at jP;simp[k4,jP,ar]
 ·rw[if_neg (fun h=>ar ((ag x).1 h))] at jP;simp[k4,jP,ar]
theorem e7.put{w:World}{b:Nat}{L:List ByteArray}(h:e7 w b L)(x:ByteArray):∃es c q,w.heap[b]? = some (.map es c)∧Instr.findNow .string (.string x) es.toList 0=some q ∧
  ∀w':World,w'.heap[b]? = some (pS es c (.string x) (.bool true) q)→e7 w' b (L++[x]):=by
 obtain⟨es,c,h1,hm⟩:=h;obtain⟨l,U,ag⟩:=hm.wX;obtain⟨r,nm,jP⟩:=wg Gg x es.toList _ 0 U;refine⟨es,c,r,h1,nm,fun w' hw=>?_⟩;cases r with
 | none =>
  refine⟨_,_,hw,⟨⟨l++[x],?_,fun y=>?_⟩,?_,?_⟩⟩
  ·have:=ha.push U x (.bool true) c
   simpa[rX] using this
  ·simp[ag y]
  ·intro e he;simp only[Array.toList_push,List.mem_append,List.mem_singleton] at he;rcases he with he | rfl
   ·have:=hm.born e he;omega
   ·show c<c+1;omega
  ·simp only[Array.toList_push,List.map_append,List.map_cons,List.map_nil];rw[List.nodup_append];refine⟨hm.nodup,by simp,fun a bp mZ Bh=>?_⟩;obtain⟨e,he,rfl⟩:=List.mem_map.1 bp;simp only[List.mem_singleton] at Bh
   have:=hm.born e he
   omega
 | some JV =>
  obtain⟨j,v⟩:=JV;obtain⟨_,e,he,ay⟩:=Ie nm;have uM:e∈es.toList:=List.mem_of_getElem? he;obtain⟨y,cx,hk,aS⟩:=hm.mem e uM;have abB:x=y:=by rw[hk,Gg] at ay;simpa using ay
  subst abB;have abd:es.modify j (fun e=>{ e with key:=.string x,val:=.bool true })=es:=ac4 (e:=e) (by simpa using he) (by cases e;simp only at hk aS;subst hk aS;rfl);have rJ:w'.heap[b]? = some (.map es c):=by rw[hw];show some (Obj.map (es.modify j _) c)=_;rw[abd]
  exact⟨es,c,rJ,⟨⟨l,U,fun z=>by rw[ag z];simp;rintro rfl;exact cx⟩,hm.born,hm.nodup⟩⟩
def lQ(w:World)(r b:Nat)(L D:List ByteArray)(n:Nat)(cur:Option ByteArray):Prop :=
 ∃es c since seen bO,w.heap[b]? = some (.map es c)∧xQ es c L∧w.heap[r]? = some (.mapIter (some b) since seen bO)∧(∀x∈es.toList,x.born<since)∧since≤bO∧since≤c∧(leftOf es seen).size=n ∧
  (∀e∈es.toList,seen.contains e.born=true→∃x∈D,e.key = .string x)∧(∀x∈D,x∈L)∧(∀x,cur=some x→∃(KX:Array Nat) (e:MapEntry),bO=c∧seen=KX.push e.born∧e∈es.toList∧e.key = .string x∧e.val = .bool true)
theorem lQ.of{w w':World}{r b:Nat}{L D:List ByteArray}{n:Nat}{cur:Option ByteArray}(h:lQ w r b L D n cur)(bP:w'.heap[b]? = w.heap[b]?)(ba:w'.heap[r]? = w.heap[r]?):lQ w' r b L D n cur :=
 let ⟨es,c,since,seen,bO,h1,U,ag,aK⟩:=h; ⟨es,c,since,seen,bO,bP.trans h1,U,ba.trans ag,aK⟩
theorem lQ.sub{w:World}{r b:Nat}{L D:List ByteArray}{n:Nat}{cur:Option ByteArray}(h:lQ w r b L D n cur):∀x∈D,x∈L:=let ⟨_,_,_,_,_,_,_,_,_,_,_,_,_,U,_⟩:=h;U
theorem lQ.ne{w:World}{r b:Nat}{L D:List ByteArray}{n:Nat}{cur:Option ByteArray}(h:lQ w r b L D n cur):r≠b:=by
 obtain⟨es,c,since,seen,bO,h1,U,ag,aK⟩:=h;intro e;rw[e,h1] at ag;cases ag
theorem lQ.lt{w:World}{r b:Nat}{L D:List ByteArray}{n:Nat}{cur:Option ByteArray}(h:lQ w r b L D n cur):r<w.heap.size:=by
 obtain⟨es,c,since,seen,bO,h1,U,ag,aK⟩:=h;exact cM ag
theorem lQ.wr{w w':World}{r b k:Nat}{L D:List ByteArray}{n:Nat}{cur:Option ByteArray}(h:lQ w r b L D n cur)(e:dK k w w')(h1:b≠k)(U:r≠k):lQ w' r b L D n cur:=h.of (e.block b h1) (e.block r U)
theorem agL(k:Nat)(w:World):dK k w w.drew:=⟨rfl,rfl,rfl,rfl,fun _ _=>rfl⟩
section
variable{P:Program}{c6:Value→World→Prop}{S:Fr}{w:World}{hb:World→Prop}{aF:Value→Prop}
theorem K.SR{b:Nat}{L:List ByteArray}{x:ByteArray}{t}(h:e7 w b L)(hk:aF (.bool (decide (x∈L)))):xP .string (.bool false) false (.map (some b)) (.string x) w aF t:=by
 obtain⟨es,r,h1,U,ag⟩:=h.look x;exact K.lD h1 U (by rw[ag];exact hk)
theorem K.FZ{b:Nat}{L:List ByteArray}{x:ByteArray}{t}(h:e7 w b L)(hk:∀av,dK b w av→e7 av b (L++[x])→hb av):vz .string (.map (some b)) (.string x) (.bool true) w hb t:=by
 obtain⟨es,c,q,h1,U,ag⟩:=h.put x;exact K.ig h1 U (hk _ (dK.e5 w b _) (ag _ (zH (cM h1))))
theorem K.ae2{b:Nat}{L:List ByteArray}{x:Operand}{hr k e ty:TypeId}{t}(ar:bb S x = .map (some b))(aL:P.underlying hr=some (.map k e))(h:e7 w b L)
  (hk:∀av r n,w.heap.size≤r→Ext w av→lQ av r b L [] n none→c6 (.pointer (some ⟨r,0,none⟩)) av):tZ P (.range hr x) ty S w c6 t:=by
 obtain⟨es,c,h1,U⟩:=h;have gC:=run_range_map (P:=P) w hr k e b es c aL h1;refine K.raw (v:=.pointer (some ⟨w.heap.size,0,none⟩)) (w':=w.alloc (.mapIter (some b) c #[] c)) (by simp[execOp,ar,gC,Result.andThen]) ?_;refine hk _ _ _ (Nat.le_refl _) ((Ext.refl w).alloc _) ⟨es,c,c,#[],c,heap_alloc_old h1,U,heap_alloc_new w _,U.born,Nat.le_refl _,Nat.le_refl _,rfl,?_,?_,?_⟩
 ·intro e _ h;simp at h
 ·intro x ar;cases ar
 ·intro x ar;cases ar
theorem K.adp{r b n:Nat}{L D:List ByteArray}{cur:Option ByteArray}{x:Operand}{ty:TypeId}{t}(ar:bb S x = .pointer (some ⟨r,0,none⟩))(h:lQ w r b L D n cur)
  (aj:(∀y∈L,y∈D)→c6 (.tuple #[.bool false]) w)
  (h1:∀y av iU,y∈L→iU<n→dK r w av→lQ av r b L (D++[y]) iU (some y)→c6 (.tuple #[.bool true,.string y,.bool true]) av):tZ P (.next x false) ty S w c6 t:=by
 have dg:=h.ne;obtain⟨es,c,since,seen,bO,aD,hm,bd,hold,j8,Jy,aI,nQ,Qo,_⟩:=h;rcases run_next_at (P:=P) w ty r b since bO seen es c bd aD hold j8 with ⟨bU,gC⟩ | ⟨e,he,av,E2,gC⟩
 ·refine K.raw (v:=.tuple #[.bool false]) (w':=w) (by simp[execOp,ar,gC,Result.andThen]) (aj fun y cx=>?_);obtain⟨e,he,hk⟩:=hm.Km y cx;obtain⟨z,JL,s8⟩:=nQ e he (all_seen es seen bU e he);rw[hk] at s8;injection s8 with s8
  rw[s8];exact JL
 ·obtain⟨I0,ah0⟩:=mem_left he;obtain⟨y,cx,hk,aS⟩:=hm.mem e I0;have oe:dK r w av:=by
   rcases E2 with rfl | rfl
   ·exact dK.refl _ _
   ·exact agL r w
  have c8:av.heap.size=w.heap.size:=oe.size;have lA:r<av.heap.size:=by rw[c8];exact cM bd
  have Jw:Go.ChangeMaps.setBlock av r (.mapIter (some b) since (seen.push e.born) c)=bt.e5 av r (.mapIter (some b) since (seen.push e.born) c):=rfl;rw[Jw] at gC;refine K.raw (v:=.tuple #[.bool true,e.key,e.val]) (w':=e5 av r (.mapIter (some b) since (seen.push e.born) c)) (by simp[execOp,ar,gC,Result.andThen]) ?_;rw[hk,aS];refine h1 y _ _ cx (Nat.lt_of_lt_of_eq (left_shrinks es seen e he) aI) (oe.trans (dK.e5 _ _ _)) ⟨es,c,since,seen.push e.born,c,?_,hm,zH lA,hold,Jy,Jy,rfl,fun f aN ax=>?_,fun z bU=>?_,fun z bU=>?_⟩
  ·rw[KY (Ne.symm dg)];rcases E2 with rfl | rfl<;>exact aD
  ·rw[contains_push] at ax;rcases Bool.or_eq_true_iff.1 ax with ax | ax
   ·obtain⟨x,pN,hV⟩:=nQ f aN ax;exact⟨x,by simp[pN],hV⟩
   ·have ru:f.born=e.born:=by simpa using ax
    have bc:=find_born f es.toList hm.nodup aN;rw[ru,find_born e es.toList hm.nodup I0] at bc;injection bc with bc
    have:f=e:=bc.symm
    subst this;exact⟨y,by simp,hk⟩
  ·rcases List.mem_append.1 bU with bU | bU
   ·exact Qo z bU
   ·simp only[List.mem_singleton] at bU;subst bU;exact cx
  ·injection bU with bU
   subst bU;exact⟨seen,e,rfl,rfl,I0,hk,aS⟩
theorem K.X8{r b n:Nat}{L D:List ByteArray}{y:ByteArray}{x:Operand}{ty:TypeId}{t}(ar:bb S x = .pointer (some ⟨r,0,none⟩))(h:lQ w r b L D n (some y))
  (hk:c6 (.tuple #[.string y,.bool true]) w):tZ P (.entry x) ty S w c6 t:=by
 obtain⟨es,c,since,seen,bO,aD,hm,bd,hold,j8,Jy,aI,nQ,Qo,ax⟩:=h;obtain⟨KX,e,rfl,rfl,he,Je,eO⟩:=ax y rfl;have gC:(Instr.entry (.pointer (some ⟨r,0,none⟩))).run P w = .ok (.tuple #[e.key,e.val]) w:=run_entry_at w r b since KX es bO e bd aD he hm.nodup;refine K.raw (v:=.tuple #[e.key,e.val]) (w':=w) (by simp[execOp,ar,gC,Result.andThen]) ?_;rw[Je,eO];exact hk
end
end bt
end
section
namespace Go.Proofs.R
open Go Go.RowKit bt
def tH(f:o.p9):List PanicEntry:=[{ v:=.iface T.kq (.agg #[.int .i64 f.dp,.int .i64 f.part,.int .i64 f.item,.int .i64 f.sub]),recovered:=false }]
theorem pk(e p i s:Int)(w:World):pv Tryz.prog F.b #[.int .i64 e,.int .i64 p,.int .i64 i,.int .i64 s] w (fun _ w'=>e=0∧w'=w) (fun c w'=>e≠0∧c=tH ⟨e,p,i,s⟩∧w'=w):=by
 refine K.Dn lx E.b (args:=[_,_,_,_]) (Nat.le_of_ble_eq_true rfl) ?_;dsimp only[C.b];refine bF ?_;refine aa ?_;refine K.cond (fun g=>?_) (fun g=>?_)
 ·refine aa ?_;exact⟨g,bw⟩
 ·refine aa ?_;exact⟨g,bw,bw⟩
theorem Gv(b:Nat)(L:List ByteArray)(x:ByteArray)(p i:Int)(w:World)(h:e7 w b L):pv Tryz.prog F.s #[.map (some b),.string x,.int .i64 p,.int .i64 i] w
  (fun _ w' => ¬x∈L∧dK b w w'∧e7 w' b (L++[x])) (fun c w'=>x∈L∧c=tH ⟨7,p,i,0⟩∧w'=w):=by
 refine K.Dn lx E.s (args:=[_,_,_,_]) (Nat.le_of_ble_eq_true rfl) ?_;dsimp only[C.s];refine bF ?_;refine aa ?_;refine K.SR h ?_;refine aa ?_;refine K.cond (fun g=>?_) (fun g=>?_)
 ·refine aa ?_;refine K.eQ (pk 7 p i 0 w) ?_ ?_
  ·rintro _ _ ⟨aj,_⟩;exact absurd aj (by decide)
  ·rintro c _ ⟨_,rfl,rfl⟩;refine aa ?_;exact⟨g,bw,bw⟩
 ·refine aa ?_;refine K.FZ h fun av hw h1=>?_;refine aa ?_;exact⟨g,hw,h1⟩
end Go.Proofs.R
end
section
namespace Go.Proofs.R
open Go Go.RowKit bt
structure iN(w0 w:World)(dz bC:Nat)(cs:List Value)(w':World)(L:List ByteArray):Prop where
 ext:Ext w0 w'
 mod:Mod (fun k=>k=dz) w w'
 box:w'.heap[bC]? = some (.cells cs.toArray T.c)
 set:e7 w' dz L
 low:w0.heap.size≤dz
 ne:bC≠dz
section
variable{w0 w w' bZ:World}{dz bC:Nat}{cs:List Value}{L vw:List ByteArray}
theorem iN.then(h:iN w0 w dz bC cs w' L)(he:Ext w' bZ):iN w0 w dz bC cs bZ L:=⟨h.ext.trans he,h.mod.trans he.mod,he.obj h.box,h.set.ext he,h.low,h.ne⟩
theorem iN.wr(h:iN w0 w dz bC cs w' L)(hw:dK dz w' bZ)(ay:e7 bZ dz vw):iN w0 w dz bC cs bZ vw:=⟨hw.ext h.ext h.low,h.mod.trans (hw.mod rfl),hw.obj h.box h.ne,ay,h.low,h.ne⟩
theorem iN.hK(h:iN w0 w dz bC cs w' L)(e:L=vw):iN w0 w dz bC cs w' vw:=e ▸ h
end
theorem Y6{w0:World}(cs:List Value)(m:o.Model)(dz:Nat)(w:World)(h:o.er w0 cs m)(dw:Ext w0 w)(yD:w0.heap.size≤dz)(a1:iu w0)(ay:e7 w dz []) :
  pv Tryz.prog F.bT #[.agg cs.toArray,.map (some dz)] w (fun _ w'=>(o.data m).dp=0∧Ext w0 w'∧Mod (fun k=>k=dz) w w'∧e7 w' dz (o.lE m m.aJ.length))
   (fun c w'=>(o.data m).dp≠0∧c=tH (o.data m)∧Ext w0 w'∧Mod (fun k=>k=dz) w w'):=by
 obtain⟨cy,bO,b9,c1,ch,c2,cm,bN,cA,bT,rfl,aj,h1,U,ag,aK,eG,du,dF,dV,eo⟩:=h.form;refine K.Dn lx E.bT (args:=[_,_]) (Nat.le_of_ble_eq_true rfl) ?_;dsimp only[C.bT];refine bF ?_;refine aa ?_;intro av bC cL aA aq;have st1:iN w0 w dz bC _ av []:=⟨dw.trans aA,aA.mod,aq,ay.ext aA,yD,by have:=ay.lt;omega⟩;clear ay;refine aa ?_;refine K.call (afu _ m.scalars av (a1.ext st1.ext) (aj.ext st1.ext)) ?_;rintro _ aT ⟨rfl,aC⟩;replace st1:=st1.then aC;clear aq;refine aa ?_;refine K.eQ (pk (o.scalars m.scalars).2 1 (o.scalars m.scalars).1 0 aT) ?_ ?_;rotate_left
 ·rintro c _ ⟨g,rfl,rfl⟩;refine aa ?_;rw[o.Po g];exact⟨g,rfl,st1.ext,st1.mod⟩
 rintro _ _ ⟨ck,rfl⟩;have aq:=st1.box;refine aa ?_;refine K.df 24 m.scalars.length [1,2,22,23] (fun _:Unit=>[]) () (fun k _ w'=>iN w0 w dz bC _ w' ((m.scalars.take k).map (·.name))) bB bB (st1.hK (by simp)) ?_;clear aq aC st1;rintro k _ S bf hk ke;have aq:=ke.box;have bQ:=ke.ext;refine aa ?_;apply K.cond<;>intro g1
 ·have bh:k<m.scalars.length:=by omega
  obtain⟨a,rfl⟩:=aj.addr (by omega);refine aa ?_;intro bq b5 fU aR bK;have jK:=ke.then aR;refine aa ?_;refine K.FZ jK.set fun bS hw s3=>?_;refine aa ?_;exact⟨bh,bw,(),trivial,(jK.wr hw s3).hK (o.zM _ _ bh).symm⟩
 replace ke:=ke.hK (show _=o.pV m 0 by rw[List.take_of_length_le (by omega)];simp);refine aa ?_;refine K.call (U0 _ _ m.vars m.scalars 12 bf (a1.ext bQ) (h1.ext bQ) (aj.ext bQ)) ?_;rintro _ bq ⟨rfl,aR⟩;replace ke:=ke.then aR;clear aq bQ;have aq:=ke.box;rw[o.agv];refine aa ?_;refine K.df 43 m.vars.length [1,2,4,5,41,42] (fun _:Unit=>[]) () (fun k _ w'=>iN w0 w dz bC _ w' (o.pV m k)∧∀j,j<k→o.h6 m j=0) bB bB ⟨ke,fun j h=>absurd h (Nat.not_lt_zero _)⟩ ?_;clear aq ke aR;rintro k _ a6 bS hk ⟨gS,bU⟩;have aq:=gS.box;have cc:=gS.ext;refine aa ?_;apply K.cond<;>intro g1
 ·have bh:k<m.vars.length:=by omega
  obtain⟨a,rfl⟩:=h1.addr (by omega);have fb:=o.zs (f:=fun x:o.Var=>x.name) bh;refine aa ?_;intro zS iy kz lu qy;refine ei ?_;intro bX fW dr;have bk:=fW.ext lu kz;have gw:=gS.then bk;replace aq:=gw.box;clear qy lu;refine ei ?_;refine K.hQ [1,2,4,5,8,9,41,42,43] (fun _:Unit=>[]) (fun _ w'=>w'=bX∧o.mf m k=0) ?_ ?_
  ·refine aa ?_;apply K.cond<;>intro g2
   ·refine aa ?_;refine K.eQ (pk (o.first m.vars.length (o.mf m)).2 2 k 0 bX) ?_ ?_
    ·rintro _ _ ⟨gb,rfl⟩;refine aa ?_;exact⟨(),trivial,bw,o.sD gb k bh⟩
    ·rintro c _ ⟨gb,rfl,rfl⟩;obtain⟨i,ad,bP,ba⟩:=o.P5 gb;obtain rfl:k=i:=by omega
     rw[ba] at gb;have jD:o.h6 m k=o.mf m k:=by unfold o.h6;rw[if_pos gb]
     have br:=o.EF ck bh bU (by rw[jD];exact gb);rw[jD] at br;refine aa ?_;rw[br,ba];exact⟨gb,bw,gw.ext,gw.mod⟩
   ·refine aa ?_;refine⟨(),trivial,bw,?_⟩;apply Classical.byContradiction;intro dg;apply g2;rw[o.hR bh (fun j aU=>o.GF (bU j aU)) dg]
  rintro _ lW _ ⟨rfl,jG⟩;refine aa ?_;refine K.eQ (Gv dz (o.pV m k) m.vars[k].name 2 k _ gw.set) ?_ ?_
  ·rintro _ cn ⟨aI,ek,iQ⟩;refine aa ?_;refine⟨bh,bw,(),trivial,(gw.wr ek iQ).hK (by simp only[o.pV,o.xi];rw[o.zM (fun x:o.Var=>x.name) _ bh,List.append_assoc]),fun j aU=>?_⟩;by_cases hC:j=k
   ·subst hC;unfold o.h6;rw[if_neg (by simpa using jG),fb,if_neg aI]
   ·exact bU j (by omega)
  ·rintro c _ ⟨aI,rfl,rfl⟩;have jD:o.h6 m k=7:=by unfold o.h6;rw[if_neg (by simpa using jG),fb,if_pos aI]
   have br:=o.EF ck bh bU (by rw[jD];decide);rw[jD] at br;refine aa ?_;rw[br];exact⟨(show(7:Int)≠0 by decide),bw,gw.ext,gw.mod⟩
 have kZ:m.vars.length≤k:=by omega
 have ky:∀j,j<m.vars.length→o.h6 m j=0:=fun j aU=>bU j (by omega);replace gS:=gS.hK (show _=o.lE m 0 by simp only[o.lE,o.pV,o.xi,o.xh];rw[List.take_of_length_le kZ];simp);refine aa ?_;refine K.call (Xq _ _ m.aJ m.scalars bS (a1.ext cc) (U.ext cc) (aj.ext cc)) ?_;rintro _ bX ⟨rfl,bk⟩;replace gS:=gS.then bk;clear aq cc;have aq:=gS.box;rw[o.Xp];refine aa ?_;refine K.df 71 m.aJ.length [1,2,4,5,69,70] (fun _:Unit=>[]) () (fun k _ w'=>iN w0 w dz bC _ w' (o.lE m k)∧∀j,j<k→o.jf m j=0) bB bB ⟨gS,fun j h=>absurd h (Nat.not_lt_zero _)⟩ ?_;clear aq gS bk;rintro k _ a6 cn hk ⟨hY,bU⟩;have aq:=hY.box;have dZ:=hY.ext;refine aa ?_;apply K.cond<;>intro g1
 ·have bh:k<m.aJ.length:=by omega
  obtain⟨a,rfl⟩:=U.addr (by omega);have fb:=o.zs (f:=fun x:o.c5=>x.name) bh;refine aa ?_;intro zS iy kz lu qy;refine ei ?_;intro bX fW dr;have bk:=fW.ext lu kz;have gw:=hY.then bk;replace aq:=gw.box;clear qy lu;refine ei ?_;refine K.hQ [1,2,4,5,10,11,69,70,71] (fun _:Unit=>[]) (fun _ w'=>w'=bX∧o.l1 m k=0) ?_ ?_
  ·refine aa ?_;apply K.cond<;>intro g2
   ·refine aa ?_;refine K.eQ (pk (o.first m.aJ.length (o.l1 m)).2 3 k 0 bX) ?_ ?_
    ·rintro _ _ ⟨gb,rfl⟩;refine aa ?_;exact⟨(),trivial,bw,o.sD gb k bh⟩
    ·rintro c _ ⟨gb,rfl,rfl⟩;obtain⟨i,ad,bP,ba⟩:=o.P5 gb;obtain rfl:k=i:=by omega
     rw[ba] at gb;have jD:o.jf m k=o.l1 m k:=by unfold o.jf;rw[if_pos gb]
     have br:=o.ED ck ky bh bU (by rw[jD];exact gb);rw[jD] at br;refine aa ?_;rw[br,ba];exact⟨gb,bw,gw.ext,gw.mod⟩
   ·refine aa ?_;refine⟨(),trivial,bw,?_⟩;apply Classical.byContradiction;intro dg;apply g2;rw[o.hR bh (fun j aU=>o.Ev (bU j aU)) dg]
  rintro _ lW _ ⟨rfl,jG⟩;refine aa ?_;refine K.eQ (Gv dz (o.lE m k) m.aJ[k].name 3 k _ gw.set) ?_ ?_
  ·rintro _ cn ⟨aI,ek,iQ⟩;refine aa ?_;refine⟨bh,bw,(),trivial,(gw.wr ek iQ).hK (by simp only[o.lE,o.xh];rw[o.zM (fun x:o.c5=>x.name) _ bh,List.append_assoc]),fun j aU=>?_⟩;by_cases hC:j=k
   ·subst hC;unfold o.jf;rw[if_neg (by simpa using jG),fb,if_neg aI]
   ·exact bU j (by omega)
  ·rintro c _ ⟨aI,rfl,rfl⟩;have jD:o.jf m k=7:=by unfold o.jf;rw[if_neg (by simpa using jG),fb,if_pos aI]
   have br:=o.ED ck ky bh bU (by rw[jD];decide);rw[jD] at br;refine aa ?_;rw[br];exact⟨(show(7:Int)≠0 by decide),bw,gw.ext,gw.mod⟩
 have yO:m.aJ.length≤k:=by omega
 refine aa ?_;refine⟨by rw[o.Pm ck ky fun j aU=>bU j (by omega)];rfl,hY.ext,hY.mod,(hY.hK ?_).set⟩;simp only[o.lE,o.xh];rw[List.take_of_length_le yO,List.take_of_length_le (Nat.le_refl _)]
end Go.Proofs.R
end
section
namespace Go.Proofs.R
open Go Go.RowKit bt
theorem iN.Lq{w0 w w' bZ:World}{dz bC k:Nat}{cs:List Value}{L:List ByteArray}(h:iN w0 w dz bC cs w' L)(c8:w0.heap.size≤w.heap.size)(hw:dK k w' bZ)(hk:w.heap.size≤k)(h1:bC≠k)(U:dz≠k):iN w0 w dz bC cs bZ L :=
 ⟨hw.ext h.ext (Nat.le_trans c8 hk),h.mod.then (hw.mod (A:=fun j=>j=k) rfl) fun i ad e=>absurd e (by omega),hw.obj h.box h1,h.set.wr hw U,h.low,h.ne⟩
theorem ad6{w0:World}(cs:List Value)(m:o.Model)(dz:Nat)(w:World)(h:o.er w0 cs m)(a8:m.cX)(dw:Ext w0 w)(yD:w0.heap.size≤dz)(a1:iu w0)(br:(o.data m).dp=0)(ay:e7 w dz (o.lE m m.aJ.length)) :
  pv Tryz.prog F.nI #[.agg cs.toArray,.map (some dz)] w (fun _ w'=>(o.lF m).dp=0∧Ext w0 w'∧Mod (fun k=>k=dz) w w'∧e7 w' dz (o.hG m m.procs.length))
   (fun c w'=>(o.lF m).dp≠0∧c=tH (o.lF m)∧Ext w0 w'∧Mod (fun k=>k=dz) w w'):=by
 have bg:=h;obtain⟨cy,bO,b9,c1,ch,c2,cm,bN,cA,bT,rfl,aj,h1,U,ag,aK,eG,du,dF,dV,eo⟩:=h.form;have c8:=dw.size;refine K.Dn lx E.nI (args:=[_,_]) (Nat.le_of_ble_eq_true rfl) ?_;dsimp only[C.nI];refine bF ?_;refine aa ?_;intro av bC cL aA aq;have st1:iN w0 w dz bC _ av (o.lE m m.aJ.length):=⟨dw.trans aA,aA.mod,aq,ay.ext aA,yD,by have:=ay.lt;omega⟩;have agQ:=ay.lt;have fE:=cM aq;clear ay aq;refine aa ?_;refine K.vc fun aT gz ahM aC fz=>?_;replace st1:=st1.then aC;have tz:e7 aT gz []:=e7.empty fz;have z0:=aA.size;have z2:=tz.lt;clear fz;refine aa ?_;refine K.ae2 (b:=dz) rfl (k:=T.h) (e:=T.rb) (by kernel_rfl) st1.set fun bf r n bd aw n1=>?_;replace st1:=st1.then aw;replace tz:=tz.ext aw;have z4:=aC.size;have z5:=n1.lt;refine aa ?_;refine K.DA [1,2,4,20] (fun _:List ByteArray×Nat=>[]) ([],n) (fun x w'=>iN w0 w dz bC _ w' (o.lE m m.aJ.length)∧e7 w' gz x.1∧∃cur,lQ w' r dz (o.lE m m.aJ.length) x.1 x.2 cur) (fun x=>x.2) bB ⟨st1,tz,_,n1⟩ ?_;clear st1 tz n1;rintro⟨D,iU⟩ S bq ⟨jK,tz,cur,n1⟩;have aq:=jK.box;refine aa ?_;refine K.adp rfl n1 (fun c9=>?_) (fun y bS jl cx cq fx Re=>?_);rotate_left
 ·have gS:=jK.Lq c8 fx (by omega) (by omega) (by omega);have afo:=tz.wr fx (by omega);refine aa ?_;refine K.X8 rfl Re ?_;refine aa ?_;refine K.FZ afo fun bX fW afp=>?_;have gw:=gS.Lq c8 fW (by omega) (by omega) (by omega);have aav:=Re.wr fW (by omega) (by omega);refine aa ?_;exact⟨(D++[y],jl),trivial,⟨gw,afp,_,aav⟩,cq⟩
 have ik:e7 bq gz (o.hG m 0):=tz.hK fun x=>by
  have JB:=n1.sub;simp only[o.hG,o.vb,List.take_zero,List.map_nil,List.append_nil];exact⟨fun ar=>JB x ar,fun ar=>c9 x ar⟩
 clear tz n1 c9;refine aa ?_;refine K.df 30 m.procs.length [1,2,4,28,29] (fun _:Unit=>[]) () (fun k _ w'=>iN w0 w dz bC _ w' (o.lE m m.aJ.length)∧e7 w' gz (o.hG m k)) bB bB ⟨jK,ik⟩ ?_;clear aq jK ik;rintro k _ a6 bS hk ⟨gS,ik⟩;have aq:=gS.box;have cc:=gS.ext;refine aa ?_;apply K.cond<;>intro g1
 ·have bh:k<m.procs.length:=by omega
  obtain⟨a,rfl⟩:=ag.addr (by omega);obtain⟨_,ct,dM,aO,eJ,ej⟩:=ag.at k bh;obtain⟨e1,fu,rfl,fQ⟩:=eJ.form;obtain⟨om,j0,rfl,lc⟩:=ej.form;replace aO:=aO.ext cc;refine aa ?_;intro bX lZ jC bk da;have gw:=gS.then bk;replace ik:=ik.ext bk;refine aa ?_;refine K.FZ ik fun cn ek afr=>?_;have hY:=gw.Lq c8 ek (by omega) (by omega) (by omega);refine aa ?_;exact⟨bh,bw,(),trivial,hY,by simp only[o.hG,o.vb];rw[o.zM (fun x:o.dj=>x.name) _ bh,←List.append_assoc];exact afr⟩
 have Ul:∀{w'},e7 w' gz (o.hG m k)→e7 w' gz (o.hG m m.procs.length):=fun h=>h.hK fun x=>by
  simp only[o.hG,o.vb];rw[List.take_of_length_le (by omega),List.take_of_length_le (Nat.le_refl _)]
 replace ik:=Ul ik;clear Ul;replace gS:=gS.hK (show _=o.hG m 0 by simp[o.hG]);refine aa ?_;refine K.df 41 m.procs.length [1,2,4,39,40] (fun _:Unit=>[]) () (fun k _ w'=>iN w0 w dz bC _ w' (o.hG m k)∧e7 w' gz (o.hG m m.procs.length)∧∀j,j<k→(o.hc m j).1=0) bB bB ⟨gS,ik,fun j h=>absurd h (Nat.not_lt_zero _)⟩ ?_;clear aq cc gS ik;rintro k _ lW bX hk ⟨gw,ik,bU⟩;have aq:=gw.box;have c0:=gw.ext;have DG:=gw.mod.size;refine aa ?_;apply K.cond<;>intro g1
 ·have bh:k<m.procs.length:=by omega
  obtain⟨a,rfl⟩:=ag.addr (by omega);obtain⟨oa,ct,dM,aO,eJ,ej⟩:=ag.at k bh;obtain⟨e1,fu,rfl,fQ⟩:=eJ.form;obtain⟨om,j0,rfl,lc⟩:=ej.form;have mI:=a8.proc _ (List.getElem_mem bh);have dL:=o.H0 bh;replace aO:=aO.ext c0;refine aa ?_;intro zS iy kz lu qy;refine ei ?_;intro cn ek dI;have bR:=ek.ext lu kz;have hY:=gw.then bR;replace ik:=ik.ext bR;replace aq:=hY.box;have aka:=cM dI;have DH:=ik.lt;have dZ:=hY.ext;clear qy lu ek;refine aa ?_;apply K.cond<;>intro g2
  ·have bD:6≤k:=by omega
   rw[if_pos bD] at dL;have j6:=o.CZ bh bU (by rw[dL];decide);rw[dL] at j6;refine aa ?_;refine K.eQ (pk 11 4 k 0 cn) ?_ ?_
   ·rintro _ _ ⟨gb,_⟩;exact absurd gb (by decide)
   ·rintro c _ ⟨_,rfl,rfl⟩;refine aa ?_;rw[j6];exact⟨(show(11:Int)≠0 by decide),bw,dZ,hY.mod⟩
  rw[if_neg (by omega)] at dL;refine aa ?_;intro dv bW;replace aq:=bW.obj aq;replace dI:=bW.obj dI;refine aa ?_;refine K.call (Un _ m k dv (bg.ext (dZ.trans bW)) a8) ?_;rintro _ eA ⟨⟨ahj,rfl,Fy⟩,cp⟩;refine⟨cp,?_⟩;have j8:=Fy.here;obtain⟨jW,DC,lK,nB,lL,mP,mi,zT,lM,xF,rfl,_⟩:=j8.form;refine aa ?_;refine K.call (adY m.procs[k] _ _ (o.gg m k) eA (a1.ext (dZ.trans (bW.trans cp))) ⟨oa,_,_,rfl,eJ.ext (dZ.trans (bW.trans cp)),ej.ext (dZ.trans (bW.trans cp))⟩ j8 (a8.gg _) mI) ?_;rintro _ eR ⟨rfl,dJ⟩;have PH:=(bW.trans cp).trans dJ;have xv:=hY.then PH;replace ik:=ik.ext PH;replace aq:=xv.box;replace dI:=(cp.trans dJ).obj dI;have aj9:=cM dI;have aj7:=ik.lt;clear j8 Fy hY dZ;have j3:=xv.ext;have fw:=o.Tt m.procs[k] (o.gg m k) 140737488351232 fun c ax=>by have:=(mI.cmd c ax).b4;unfold o.dY at this;omega
  have abo:m.procs[k].vars.length≤140737488351232:=by have:=mI.vars;unfold o.dY at this;omega
  have mC:m.procs[k].cB.length≤140737488351232:=by have:=mI.cB;unfold o.dY at this;omega
  refine aa ?_;refine K.eQ (pk (o.gD m.procs[k] (o.gg m k)).2.2 4 k (16*(o.gD m.procs[k] (o.gg m k)).1+(o.gD m.procs[k] (o.gg m k)).2.1) eR) ?_ ?_;rotate_left
  ·rintro c _ ⟨gb,rfl,rfl⟩;rw[if_pos gb] at dL;have j6:=o.CZ bh bU (by rw[dL];exact gb);rw[dL] at j6;refine aa ?_;rw[j6];exact⟨gb,bw,j3,xv.mod⟩
  rintro _ mh ⟨gb,rfl⟩;rw[if_neg (by simpa using gb)] at dL;refine aa ?_;refine K.eQ (Gv dz (o.hG m k) m.procs[k].name 4 k mh xv.set) ?_ ?_;rotate_left
  ·rintro c _ ⟨aI,rfl,rfl⟩;rw[if_pos aI] at dL;have j6:=o.CZ bh bU (by rw[dL];decide);rw[dL] at j6;refine aa ?_;rw[j6];exact⟨(show(7:Int)≠0 by decide),bw,j3,xv.mod⟩
  rintro _ gH ⟨aI,ib,aa8⟩;rw[if_neg aI] at dL;have Gp:iN w0 w dz bC _ gH (o.hG m (k+1)):=(xv.wr ib aa8).hK (by simp only[o.hG,o.vb];rw[o.zM (fun x:o.dj=>x.name) _ bh,List.append_assoc]);replace ik:=ik.wr ib (by omega);replace aq:=Gp.box;replace dI:=ib.obj dI (by omega);have nN:=Gp.ext;have ajX:=ib.size;clear xv j3;refine aa ?_;refine K.df 74 m.procs[k].vars.length [1,2,4,8,9,39,40,41,72,73] (fun _:Unit=>[]) () (fun j _ w'=>iN w0 w dz bC _ w' (o.hG m (k+1))∧e7 w' gz (o.hG m m.procs.length)∧Ext gH w'∧∀i,i<j→o.oX m m.procs[k] i=0) bB bB ⟨Gp,ik,Ext.refl _,fun j h=>absurd h (Nat.not_lt_zero _)⟩ ?_;have nR:=dI;clear Gp ik aq dI nN;rintro j _ VK kh aU ⟨Gq,ik,fl,s8⟩;have aq:=Gq.box;have dI:=fl.obj nR;have yv:=Gq.ext;refine aa ?_;apply K.cond<;>intro g3
  ·have ef:j<m.procs[k].vars.length:=by omega
   obtain⟨dt,rfl⟩:=eJ.addr (by omega);have et:=((eJ.at j ef).cells).ext yv;have fb:=o.zs (f:=fun x:o.Var=>x.name) ef;refine aa ?_;intro ajP ag6 ZG Q1 IK;refine ei ?_;intro oy j9 II;have hB:=j9.ext Q1 ZG;have Gr:=Gq.then hB;replace ik:=ik.ext hB;replace aq:=Gr.box;clear IK Q1 j9;refine aa ?_;refine K.SR ik ?_;refine aa ?_;apply K.cond<;>intro g4
   ·have sP:o.oX m m.procs[k] j=7:=by unfold o.oX;rw[fb,if_pos g4]
    rw[o.hR ef s8 (by rw[sP];decide),sP,if_pos (show(7:Int)≠0 by decide)] at dL;have j6:=o.CZ bh bU (by rw[dL];exact(show(7:Int)≠0 by decide));rw[dL] at j6;refine aa ?_;refine K.eQ (pk 7 4 k (16+j) oy) ?_ ?_
    ·rintro _ _ ⟨wm,_⟩;exact absurd wm (by decide)
    ·rintro c _ ⟨_,rfl,rfl⟩;refine aa ?_;rw[j6];exact⟨(show(7:Int)≠0 by decide),bw,Gr.ext,Gr.mod⟩
   ·refine aa ?_;refine⟨ef,bw,(),trivial,Gr,ik,fl.trans hB,fun i ad=>?_⟩;by_cases Ft:i=j
    ·subst Ft;unfold o.oX;rw[fb,if_neg g4]
    ·exact s8 i (by omega)
  ·rw[o.ng fun i ad=>s8 i (by omega),if_neg (by simp)] at dL;refine aa ?_;refine⟨bh,bw,(),trivial,Gq,ik,fun i ad=>?_⟩;by_cases yL:i=k
   ·subst yL;rw[dL]
   ·exact bU i (by omega)
 have uJ:m.procs.length≤k:=by omega
 have wx:∀j,j<m.procs.length→(o.hc m j).1=0:=fun j aU=>bU j (by omega);have Fe:=o.EE br;have qG:m.procs.length≤6:=by
  apply Classical.byContradiction;intro aI
  have:=o.EL (i:=6) (by omega) (wx 6 (by omega))
  omega
 have rC:o.sa m:=⟨by omega,by omega,by omega,fun p aO=>by
  obtain⟨j,aU,rfl⟩:=List.mem_iff_getElem.1 aO
  have:=o.Kw (o.A3 aU (wx j aU)).2.1
  omega⟩
 refine aa ?_;refine K.call (adZ _ m bX (bg.ext c0) rC) ?_;rintro _ cn ⟨rfl,bR⟩;have hY:=gw.then bR;replace aq:=hY.box;have o6:=o.Kx wx;have Jw:e7 cn dz (o.hG m m.procs.length):=by
  have h:=hY.set;simp only[o.hG,o.vb] at h ⊢;rw[List.take_of_length_le uJ] at h;rw[List.take_of_length_le (Nat.le_refl _)];exact h
 refine aa ?_;apply K.cond<;>intro g2
 ·rw[if_pos (.inl (by omega))] at o6;refine aa ?_;refine K.eQ (pk 11 4 m.procs.length 0 cn) ?_ ?_
  ·rintro _ _ ⟨wm,_⟩;exact absurd wm (by decide)
  ·rintro c _ ⟨_,rfl,rfl⟩;refine aa ?_;rw[o6];exact⟨(show(11:Int)≠0 by decide),bw,hY.ext,hY.mod⟩
 refine aa ?_;apply K.cond<;>intro g3
 ·rw[if_pos (.inr (by omega))] at o6;refine aa ?_;refine K.eQ (pk 11 4 m.procs.length 0 cn) ?_ ?_
  ·rintro _ _ ⟨wm,_⟩;exact absurd wm (by decide)
  ·rintro c _ ⟨_,rfl,rfl⟩;refine aa ?_;rw[o6];exact⟨(show(11:Int)≠0 by decide),bw,hY.ext,hY.mod⟩
 rw[if_neg (by omega)] at o6;refine aa ?_;exact⟨by rw[o6];rfl,hY.ext,hY.mod,Jw⟩
theorem ad7{w0:World}(cs:List Value)(m:o.Model)(dz:Nat)(w:World)(h:o.er w0 cs m)(a8:m.cX)(dw:Ext w0 w)(yD:w0.heap.size≤dz)(a1:iu w0)(ay:e7 w dz (o.hG m m.procs.length)) :
  pv Tryz.prog F.pB #[.agg cs.toArray,.map (some dz)] w (fun _ w'=>(o.ou m).dp=0∧Ext w0 w'∧Mod (fun k=>k=dz) w w')
   (fun c w'=>(o.ou m).dp≠0∧c=tH (o.ou m)∧Ext w0 w'∧Mod (fun k=>k=dz) w w'):=by
 have bg:=h;obtain⟨cy,bO,b9,c1,ch,c2,cm,bN,cA,bT,rfl,aj,h1,U,ag,aK,eG,du,dF,dV,eo⟩:=h.form;refine K.Dn lx E.pB (args:=[_,_]) (Nat.le_of_ble_eq_true rfl) ?_;dsimp only[C.pB];refine bF ?_;refine aa ?_;intro av bC cL aA aq;have st1:iN w0 w dz bC _ av (o.pU m 0):=⟨dw.trans aA,aA.mod,aq,by have:=ay.ext aA;simpa[o.pU] using this,yD,by have:=ay.lt;omega⟩;have agQ:=ay.lt;have z0:=aA.size;clear ay;refine aa ?_;refine K.call (Un _ m (-1) av (bg.ext st1.ext) a8) ?_;rintro _ aT ⟨⟨ahh,rfl,jE⟩,aC⟩;rw[o.F5 (.inl (by decide))] at jE;have j8:=jE.here;obtain⟨jW,DC,lK,nB,lL,mP,mi,zT,lM,xF,rfl,_⟩:=j8.form;clear j8;have st2:=st1.then aC;clear aq st1;have fE:=aC.size;refine aa ?_;intro bf cO fo aw bI;have RB:=jE.ext aw fE;have ke:=st2.then aw;have aq:=ke.box;clear jE st2;refine aa ?_;refine K.df 14 m.props.length [1,2,4,12,13] (fun _:Unit=>[]) () (fun k _ w'=>iN w0 w dz bC _ w' (o.pU m k)∧ev av (fun w=>o.e6 w _ (o.eU m)) w'∧w'.heap[cO]? = some (.cells (List.toArray [_,_,_,_,_,_]) T.d)∧av.heap.size≤w'.heap.size∧∀j,j<k→o.ll m j=0) bB bB ⟨ke,RB,bI,by have:=aw.size;omega,fun j h=>absurd h (Nat.not_lt_zero _)⟩ ?_;clear aq ke RB bI;rintro k _ S bq hk ⟨jK,pL,bI,z4,bU⟩;have aq:=jK.box;have b3:=jK.ext;refine aa ?_;apply K.cond<;>intro g1
 ·have bh:k<m.props.length:=by omega
  obtain⟨a,rfl⟩:=aK.addr (by omega);obtain⟨oa,hs,aO,iE⟩:=aK.at k bh;obtain⟨Th,ce,rfl,le⟩:=iE.form;have dL:=o.PO bh;replace aO:=aO.ext b3;have z5:=jK.mod.size;refine aa ?_;intro zS ix gM lu qy;refine ei ?_;intro bS fx dr;have bj:=fx.ext lu gM;have gS:=jK.then bj;replace pL:=pL.ext bj z4;replace bI:=bj.obj bI;replace aq:=gS.box;have cc:=gS.ext;clear qy lu fx jK;have br:o.ll m k≠0→o.ou m=⟨o.ll m k,5,k,0⟩:=o.Tv bh bU;refine aa ?_;apply K.cond<;>intro g2
  ·rw[if_pos (by omega)] at dL;rw[dL] at br;replace br:=br (by decide);refine aa ?_;refine K.eQ (pk 11 5 k 0 bS) ?_ ?_
   ·rintro _ _ ⟨gb,_⟩;exact absurd gb (by decide)
   ·rintro c _ ⟨_,rfl,rfl⟩;refine aa ?_;rw[br];exact⟨(show(11:Int)≠0 by decide),bw,cc,gS.mod⟩
  rw[if_neg (by omega)] at dL;refine aa ?_;refine K.call (F0 m.props[k].name bS (a1.ext cc) oa) ?_;rintro _ bX ⟨rfl,bk⟩;have gw:=gS.then bk;replace pL:=pL.ext bk (by have:=bj.size;omega);replace bI:=bk.obj bI;replace dr:=bk.obj dr;replace aq:=gw.box;have c0:=gw.ext;clear gS;refine aa ?_;refine K.c4 (fun g3=>?_) (fun g3=>?_);rotate_left
  ·rw[if_pos g3] at dL;rw[dL] at br;replace br:=br (by decide);refine aa ?_;refine K.eQ (pk 6 5 k 0 bX) ?_ ?_
   ·rintro _ _ ⟨gb,_⟩;exact absurd gb (by decide)
   ·rintro c _ ⟨_,rfl,rfl⟩;refine aa ?_;rw[br];exact⟨(show(6:Int)≠0 by decide),bw,c0,gw.mod⟩
  rw[if_neg (by rw[g3];decide)] at dL;refine aa ?_;refine K.eQ (Gv dz (o.pU m k) m.props[k].name 5 k bX gw.set) ?_ ?_;rotate_left
  ·rintro c _ ⟨aI,rfl,rfl⟩;rw[if_pos aI] at dL;rw[dL] at br;replace br:=br (by decide);refine aa ?_;rw[br];exact⟨(show(7:Int)≠0 by decide),bw,gw.ext,gw.mod⟩
  rintro _ cn ⟨aI,ek,iQ⟩;rw[if_neg aI] at dL;have hY:iN w0 w dz bC _ cn (o.pU m (k+1)):=(gw.wr ek iQ).hK (by simp only[o.pU,o.Kc];rw[o.zM (fun x:o.kn=>x.name) _ bh,List.append_assoc]);replace pL:=pL.wr ek (by omega);replace bI:=ek.obj bI (by omega);replace dr:=ek.obj dr (by omega);replace aq:=hY.box;have dZ:=hY.ext;clear gw c0;refine aa ?_;refine K.call (Ss _ m.props[k].expr _ _ cn (iE.ext dZ) pL.here) ?_;rintro _ dv ⟨rfl,bW⟩;have Dm:=hY.then bW;have Vj:=ek.size;replace pL:=pL.ext bW (by have:=bj.size;have:=bk.size;omega);replace bI:=bW.obj bI;replace aq:=Dm.box;have eW:=Dm.ext;clear hY;refine aa ?_;refine K.eQ (pk (o.kind m.props[k].expr (o.eU m)).2 5 k 0 dv) ?_ ?_;rotate_left
  ·rintro c _ ⟨gb,rfl,rfl⟩;rw[if_pos gb] at dL;rw[dL] at br;replace br:=br gb;refine aa ?_;rw[br];exact⟨gb,bw,eW,Dm.mod⟩
  rintro _ eA ⟨gb,rfl⟩;rw[if_neg (by simpa using gb)] at dL;refine aa ?_;apply K.cond<;>intro g4;rotate_left
  ·rw[if_pos g4] at dL;rw[dL] at br;replace br:=br (by decide);refine aa ?_;refine K.eQ (pk 9 5 k 0 eA) ?_ ?_
   ·rintro _ _ ⟨wm,_⟩;exact absurd wm (by decide)
   ·rintro c _ ⟨_,rfl,rfl⟩;refine aa ?_;rw[br];exact⟨(show(9:Int)≠0 by decide),bw,eW,Dm.mod⟩
  rw[if_neg (by simpa using g4)] at dL;refine aa ?_;refine⟨bh,bw,(),trivial,Dm,pL,bI,by have:=bj.size;have:=bk.size;have:=bW.size;omega,fun i ad=>?_⟩;by_cases yL:i=k
  ·subst yL;rw[dL]
  ·exact bU i (by omega)
 refine aa ?_;exact⟨by rw[o.Kz fun j aU=>bU j (by omega)];rfl,b3,jK.mod⟩
end Go.Proofs.R
end
section
namespace bt
open Go Go.RowKit
structure xM where
 n:Nat
 res:List lS
 pre:eV
 bY:List Step
 fn:Operand
 rest:eV
def HO(au:Oper):Option Operand :=
 match au.guard,au.dst,au.op with
 | none,none,.defer ⟨.value x,args,_⟩=>match args.toList with | []=>some x | _=>none
 | _,_,_=>none
def Pc(P:Program)(fn:Func):Code→Option xM
 | .seq a (.seq (.region _ ops false) c) =>
  match ops.toList.getLast?.bind HO,comp P fn.ntmps a,nL P fn.ntmps ops ops.toList.dropLast,comp P fn.ntmps c,um P fn.results.toList with
  | some x,some oi,some bY,some lc,some r=>some ⟨fn.ntmps,r,oi,bY,x,lc⟩
  | _,_,_,_,_=>none
 | _=>none
def Ey(P:Program)(f:FuncId):Option xM :=
 match P.funcs[f]? with
 | some fn=>match fn.body with | some c=>Pc P fn c | none=>none
 | none=>none
def q5(P:Program)(f:FuncId)(cap:Array Value)(u:FrameMode)(w:World)(R:World→Prop):Prop :=
 CallsD P f cap u w fun e iY w'=>(∃v,e = .returned v)∧settle iY = .returning∧R w'
def A2(P:Program)(res:List lS)(f:FuncId)(cap:Array Value)(R:Value→World→Prop):dN→Fr→World→Prop
 | .normal,S,w=>q5 P f cap .returning w fun w'=>ny res S w' fun vs=>R (fY vs) w'
 | .ret,S,w=>q5 P f cap .returning w fun w'=>ny res S w' fun vs=>R (fY vs) w'
 | .exit _,_,_=>False
 | .fK c,S,w=>q5 P f cap (.panicking c) w fun w'=>ny res S w' fun vs=>R (fY vs) w'
def agz(P:Program)(L:xM)(R:Value→World→Prop)(S:Fr)(w:World):Prop :=
 dM P L.pre (tG (fun S w=>steps P L.bY S w fun S w => ∃f cap,bb S L.fn = .func (.func f) #[] cap∧okF P f=true∧dM P L.rest (A2 P L.res f cap R) S w) (fun _ _ _=>False)) S w
theorem XO{au:Oper}{x:Operand}(h:HO au=some x):∃ty pos after lI,au=⟨none,.defer ⟨.value x,#[],lI⟩,ty,pos,after,none⟩:=by
 obtain⟨dst,op,ty,pos,after,guard⟩:=au;unfold HO at h;split at h
 ·rename_i h1 U ag;simp only at h1 U ag;split at h
  ·rename_i aK;injection h with h
   have bc:=Array.toList_eq_nil_iff.1 aK;subst h1 U ag h bc;exact⟨_,_,_,_,rfl⟩
  ·cases h
 ·cases h
theorem X9{P:Program}{f:FuncId}{L:xM}(hm:P.follows .mixedOrders=true)(ax:Ey P f=some L){args:List Value}{w:World}{R:Value→World→Prop}(bp:args.length≤L.n)
  (h:agz P L R (hd args 0) w):bu P f args.toArray w R:=by
 unfold Ey at ax;split at ax
 ·rename_i fn qB;split at ax
  ·rename_i c aD;unfold Pc at ax;split at ax
   ·rename_i a id ops l0;split at ax
    ·rename_i x oi bY lc r h1 U ag aK bc;injection ax with ax;subst ax
     obtain⟨au,a1,ar⟩:=Option.bind_eq_some_iff.1 h1;obtain⟨ty,pos,after,lI,rfl⟩:=XO ar;have aaG:ops.toList=ops.toList.dropLast++[⟨none,.defer ⟨.value x,#[],lI⟩,ty,pos,after,none⟩]:=by
      have dg:ops.toList≠[]:=by intro e;rw[e] at a1;cases a1
      rw[List.getLast?_eq_some_getLast dg] at a1;injection a1 with a1
      rw[←a1,List.dropLast_concat_getLast dg]
     have fin:∀(g:FuncId) (cap:Array Value) (S:Fr) (dt:Act) (w':World) (u:FrameMode),u≠.run→okF P g=true→Fits [{ target:=.fn (.func g) cap,args:=#[] }] dt S fn.ntmps→q5 P g cap u w' (fun w'=>ny r S w' fun vs=>R (fY vs) w') →
       Leaves P fn dt.tmps (fun e w' => ∃v,e = .returned v∧R v w') dt.defers u w':=by
      intro g cap S dt w' u hu dh aN aP;rw[aN.1];refine leaves_cons hu (f:=g) (args:=cap) (by simp[invoke,De dh]) (CallsD.mono aP ?_);rintro e iY bZ ⟨⟨v,rfl⟩,ay,bd⟩;simp only[ay];obtain⟨vs,bD,b6⟩:=p1 aN _ _ _ bc bd;exact⟨_,tv bD,_,rfl,b6⟩
     refine calls_of_wp_defers qB aD ((wpIn_wide (n:=0)).1 ?_);refine wpIn_seq (wpIn_mono (sound (ds:=[]) (r:=none) (m:=0) hm a oi U _ _ (hd args 0) w (Ih bp) h) fun e dt w' aB=>?_);cases e with
     | normal =>
      obtain⟨S,aN,aB⟩:=aB;refine wpIn_seq (wpIn_region_list ?_);rw[aaG];refine vn (r:=none) (tl:=[_]) ?_ ?_ _ bY dt S w' ag aN aB
      ·rintro a2 lW aT nk ⟨g,cap,he,dh,aS⟩;have hw:Region.wanted (⟨none,.defer ⟨.value x,#[],lI⟩,ty,pos,after,none⟩:Oper) (yielded ops a2.tmps)=true:=rfl;simp only[wpListIn,hw,if_true];have gC:∀ρ:Operand→Value,ρ x = .func (.func g) #[] cap→((⟨none,.defer ⟨.value x,#[],lI⟩,ty,pos,after,none⟩:Oper).semAt none ρ).run P aT = .ok (.defer { target:=.fn (.func g) cap,args:=#[] }) aT:=by
        intro ρ abH;simp[Oper.semAt,execOp,resolve,Deferred.ofValue,abH,go_sem]
       refine⟨fun _ _=>trivial,?_⟩;rw[show(mS none).round=none from rfl,gC a2.eval (by rw[nk.eval];exact he)];have aak:Fits [{ target:=.fn (.func g) cap,args:=#[] }] ({ a2 with defers:={ target:=.fn (.func g) cap,args:=#[] } :: a2.defers }:Act) lW fn.ntmps:=⟨by rw[nk.1],nk.2⟩;refine wpIn_mono (sound (ds:=[{ target:=.fn (.func g) cap,args:=#[] }]) (r:=none) (m:=0) hm l0 lc aK _ _ lW aT aak aS) fun e a4 bq aB=>?_;cases e with
       | normal=>obtain⟨qc,nX,aB⟩:=aB;exact fin g cap qc a4 bq .returning (by simp) dh nX aB
       | ret=>obtain⟨qc,nX,aB⟩:=aB;exact fin g cap qc a4 bq .returning (by simp) dh nX aB
       | exit i=>obtain⟨qc,nX,aB⟩:=aB;exact aB.elim
       | panic rh=>obtain⟨qc,nX,aB⟩:=aB;exact fin g cap qc a4 bq (.panicking rh) (by simp) dh nX aB
       | _=>exact aB.elim
      ·rintro⟨_,_,ar⟩;obtain⟨_,h1,_⟩:=ar;cases h1
     | ret=>obtain⟨S,aN,aB⟩:=aB;exact aB.elim
     | exit i=>obtain⟨S,aN,aB⟩:=aB;exact aB.elim
     | panic rh=>obtain⟨S,aN,aB⟩:=aB;exact aB.elim
     | _=>exact aB.elim
    ·cases ax
   ·cases ax
  ·cases ax
 ·cases ax
structure Aj where
 n:Nat
 res:List lS
 d:Nat
 e:Nat
 rest:eV
def KK(au:Oper):Option Nat :=
 match au.guard,au.op,au.dst with
 | none,.call ⟨.builtin .recover,args,_⟩,some d=>match args.toList with | []=>some d | _=>none
 | _,_,_=>none
def Hi(au:Oper):Option (Nat×Nat) :=
 match au.guard,au.op,au.dst with
 | none,.assign (.tmp d),some e=>some (d,e)
 | _,_,_=>none
def Pd(P:Program)(fn:Func):Code→Option Aj
 | .seq (.region _ ops false) c =>
  match ops.toList with
  | [b9,ch]=>match KK b9,Hi ch,comp P fn.ntmps c,um P fn.results.toList with
   | some d,some (Pl,e),some lc,some r=>if d=Pl∧d<fn.ntmps∧e<fn.ntmps then some ⟨fn.ntmps,r,d,e,lc⟩ else none
   | _,_,_,_=>none
  | _=>none
 | _=>none
def Ez(P:Program)(f:FuncId):Option Aj :=
 match P.funcs[f]? with
 | some fn=>match fn.body with | some c=>Pd P fn c | none=>none
 | none=>none
def nw:FrameMode→Value×FrameMode
 | .panicking ({ v,recovered:=false,goexit:=false } :: adz)=>(v,.panicking ({ v,recovered:=true } :: adz))
 | u=>(.nilIface,u)
theorem aeG(c:Frame)(cs:List Frame):(match recoverD (c :: cs) with | some (v,hP)=>(v,hP) | none=>(.nilIface,c :: cs))=((nw c.mode).1,{ c with mode:=(nw c.mode).2 } :: cs):=by
 obtain⟨fn,tmps,todo,defers,mode,kind,ro⟩:=c;unfold recoverD nw;cases mode with
 | run=>rfl
 | returning=>rfl
 | panicking l =>
  cases l with
  | nil=>rfl
  | cons p r =>
   obtain⟨v,rc,ge⟩:=p;cases rc<;>cases ge<;>rfl
theorem aeE{au:Oper}{d:Nat}(h:KK au=some d):∃lI ty pos after,au=⟨some d,.call ⟨.builtin .recover,#[],lI⟩,ty,pos,after,none⟩:=by
 obtain⟨dst,op,ty,pos,after,guard⟩:=au;unfold KK at h;split at h
 ·rename_i h1 U ag;simp only at h1 U ag;split at h
  ·rename_i aK;injection h with h
   have bc:=Array.toList_eq_nil_iff.1 aK;subst h1 U ag h bc;exact⟨_,_,_,_,rfl⟩
  ·cases h
 ·cases h
theorem We{au:Oper}{d e:Nat}(h:Hi au=some (d,e)):∃ty pos after,au=⟨some e,.assign (.tmp d),ty,pos,after,none⟩:=by
 obtain⟨dst,op,ty,pos,after,guard⟩:=au;unfold Hi at h;split at h
 ·rename_i h1 U ag;simp only at h1 U ag;injection h with h
  injection h with bc bD
  subst h1 U ag bc bD;exact⟨_,_,_,rfl⟩
 ·cases h
theorem Ya{P:Program}{f:FuncId}{L:Aj}(hm:P.follows .mixedOrders=true)(ax:Ez P f=some L){args:List Value}{u:FrameMode}{w:World}{R:Value→World→Prop}(bp:args.length≤L.n)
  (h:dM P L.rest (A1 L.res R) (b7 (b7 (hd args 0) L.d (nw u).1) L.e (nw u).1) w):CallsD P f args.toArray u w fun e iY w'=>iY=(nw u).2∧∃v,e = .returned v∧R v w':=by
 unfold Ez at ax;split at ax
 ·rename_i fn qB;split at ax
  ·rename_i c aD;unfold Pd at ax;split at ax
   ·rename_i id ops l0;split at ax
    ·rename_i b9 ch BP;split at ax
     ·rename_i d Pl e lc r h1 U ag aK;split at ax
      ·rename_i aac;obtain⟨aab,br,he⟩:=aac;subst aab;injection ax with ax;subst ax
       obtain⟨lI,agl,ad4,V0,rfl⟩:=aeE h1;obtain⟨agm,ad5,V1,rfl⟩:=We U;refine callsD_of_wpS qB aD fun yt cs hu=>?_;refine wpS_seq (wpS_region ?_);have c8:ops.size=2:=by rw[←Array.length_toList,BP];rfl
       have Fo:ops[0]? = ops.toList[0]? := by simp
       have I3:ops[1]? = ops.toList[1]? := by simp
       rw[BP] at Fo I3;simp only[List.getElem?_cons_zero,List.getElem?_cons_succ] at Fo I3;have bd:List.range ops.size=[0,1]:=by rw[c8];rfl
       rw[bd];have aa5:∀(ρ:Operand→Value),(execOp ρ ⟨some d,.call ⟨.builtin .recover,#[],lI⟩,agl,ad4,V0,none⟩).run P w = .ok .recover w:=by
        intro ρ;simp[execOp,resolve,invoke,builtin,go_sem]
       have FG:∀(dst:Option Nat) (op:Op) (ty:TypeId) (pos:String) (after:Array Edge) (y:Nat→Option Bool),Region.wanted (⟨dst,op,ty,pos,after,none⟩:Oper) y=true:=fun _ _ _ _ _ _=>rfl;have aaj:=Ih (n:=fn.ntmps) bp;have key:∀(v:Value) (hP:List Frame),dM P lc (A1 r R) (b7 (b7 (hd args 0) d v) e v) w→(hP = { yt with mode:=(nw u).2 } :: cs) →
         wpOpsS P ops (Exit.thenS (l0.wpS P (bodyPostS P fn yt cs fun e iY w'=>iY=(nw u).2∧∃v,e = .returned v∧R v w')) (bodyPostS P fn yt cs fun e iY w'=>iY=(nw u).2∧∃v,e = .returned v∧R v w')) [1]
          (({ tmps:=args.toArray++Array.replicate (fn.ntmps - args.toArray.size) undef,defers:=[] }:Act).put (some d) v) hP w:=by
        intro v hP aS fV;have Fl:=aaj.put (d:=some d) (by simpa[uo] using br) v;have ar:(execOp (({ tmps:=args.toArray++Array.replicate (fn.ntmps - args.toArray.size) undef,defers:=[] }:Act).put (some d) v).eval ⟨some e,.assign (.tmp d),agm,ad5,V1,none⟩).run P w = .ok (.value v) w:=by
         rw[Fl.eval];simp[execOp,bb,bt.put,b7]
        simp only[wpOpsS,I3,FG,if_true,ar];rw[Oper.upon_value];have nk:=Fl.put (d:=some e) (by simpa[uo] using he) v;refine wpS_of_wp ((wpIn_wide (n:=0)).1 (wpIn_mono (sound (ds:=[]) (r:=none) (m:=0) hm l0 lc ag _ _ _ w nk aS) fun x a4 bq aB=>?_));cases x with
        | normal =>
         obtain⟨qc,nX,aB⟩:=aB;obtain⟨vs,bD,b6⟩:=p1 nX _ _ _ aK aB;exact⟨nX.1,_,fV,_,tv bD,rfl,_,rfl,b6⟩
        | ret =>
         obtain⟨qc,nX,aB⟩:=aB;obtain⟨vs,bD,b6⟩:=p1 nX _ _ _ aK aB;exact⟨nX.1,_,fV,_,tv bD,rfl,_,rfl,b6⟩
        | exit i=>obtain⟨qc,nX,aB⟩:=aB;exact aB.elim
        | panic rh=>obtain⟨qc,nX,aB⟩:=aB;exact aB.elim
        | _=>exact aB.elim
       have o7:=aeG yt cs;rw[hu] at o7;unfold wpOpsS;simp only[Fo,FG,if_true,aa5];cases RO:recoverD (yt :: cs) with
       | none =>
        rw[RO] at o7;injection o7 with bP ba
        exact key .nilIface (yt :: cs) (by rw[bP];exact h) ba
       | some agy =>
        obtain⟨v,hP⟩:=agy;rw[RO] at o7;injection o7 with bP ba
        exact key v hP (by rw[bP];exact h) ba
      ·cases ax
     ·cases ax
    ·cases ax
   ·cases ax
  ·cases ax
 ·cases ax
end bt
namespace bt
open Go Go.RowKit
def GV(P:Program)(v:Value)(K:FuncId→Array Value→Prop):Prop := ∃f cap,v = .func (.func f) #[] cap∧okF P f=true∧K f cap
section
variable{P:Program}{S:Fr}{w:World}{res:List lS}{R:Value→World→Prop}
theorem K.afW{f:FuncId}{L:xM}(hm:P.follows .mixedOrders=true)(ax:Ey P f=some L){args:List Value}(bp:args.length≤L.n)
  (h:dT P L.pre (h0 (fun S w=>iX P L.bY S w (fun S w=>GV P (bb S L.fn) fun g cap=>dT P L.rest (A2 P L.res g cap R) S w ⟨⟩) ⟨⟩) (fun _ _ _=>False) ⟨⟩) (hd args 0) w ⟨⟩):bu P f args.toArray w R:=by
 refine X9 hm ax bp ?_;unfold dT h0 iX GV at h;exact h
theorem K.defer{g:FuncId}{cap:Array Value}{K:FuncId→Array Value→Prop}(dh:okF P g=true)(h:K g cap):GV P (.func (.func g) #[] cap) K:=⟨g,cap,rfl,dh,h⟩
theorem K.XT{g:FuncId}{cap:Array Value}(h:q5 P g cap .returning w fun w'=>hL res S w' (fun vs=>R (fY vs) w') ⟨⟩):A2 P res g cap R .ret S w:=by
 unfold hL at h;exact h
theorem K.XS{g:FuncId}{cap:Array Value}{c:List PanicEntry}(h:q5 P g cap (.panicking c) w fun w'=>hL res S w' (fun vs=>R (fY vs) w') ⟨⟩):A2 P res g cap R (.fK c) S w:=by
 unfold hL at h;exact h
theorem q5.of{g:FuncId}{cap:Array Value}{u zO:FrameMode}{Am An:World→Prop}(h:CallsD P g cap u w fun e iY w'=>iY=zO∧∃v,e = .returned v∧Am w')(ay:settle zO = .returning)(hk:∀w',Am w'→An w'):q5 P g cap u w An :=
 CallsD.mono h fun e iY w' ⟨h1,v,U,ag⟩=>⟨⟨v,U⟩,by rw[h1];exact ay,hk _ ag⟩
theorem K.UH{f:FuncId}{L:Aj}(hm:P.follows .mixedOrders=true)(ax:Ez P f=some L){args:List Value}{u:FrameMode}(bp:args.length≤L.n)
  (h:dT P L.rest (sx L.res R ⟨⟩) (b7 (b7 (hd args 0) L.d (nw u).1) L.e (nw u).1) w ⟨⟩):CallsD P f args.toArray u w fun e iY w'=>iY=(nw u).2∧∃v,e = .returned v∧R v w':=by
 refine Ya hm ax bp ?_;unfold dT sx at h;exact h
theorem Uc(d:Nat){t:TypeId}{ms:Array (String×TypeId)}(h:P.underlying t=some (.interface ms))(w:World):(Op.equalIn (d+1) t .nilIface .nilIface).run P w = .ok true w∧∀T v,(Op.equalIn (d+1) t (.iface T v) .nilIface).run P w = .ok false w:=by
 constructor
 ·simp[Op.equalIn,run_underlying h]
 ·intro T v;simp[Op.equalIn,run_underlying h]
theorem R7{t:TypeId}(h:(P.underlying t).map uW=some true):∃ms,P.underlying t=some (.interface ms):=by
 obtain⟨d,br,ad⟩:=Option.map_eq_some_iff.1 h;cases d<;>first | exact⟨_,br⟩ | (simp[uW] at ad;done)
theorem K.adh{hr:TypeId}{x:Operand}{v:Value}{aF:Value→Prop}{t}(h:(P.underlying hr).map uW=some true)(hk:aF (.bool false)):gx P .neq hr x (.const v) .nilIface .nilIface aF t :=
 K.bin (v:=.bool false) (fun w=>by
  obtain⟨ms,h⟩:=R7 h;have h1:=(Uc 9999 h w).1;have U:(Op.equalIn Op.maxDepth hr .nilIface .nilIface).run P w = .ok true w:=h1;cases x<;>simp[eqGuard,binOp,Op.equal,go_sem,U,Result.andThen]) hk
theorem K.adi{hr T:TypeId}{x y:Operand}{v:Value}{aF:Value→Prop}{t}(h:(P.underlying hr).map uW=some true)(hk:aF (.bool true)):gx P .neq hr x y (.iface T v) .nilIface aF t :=
 K.bin (v:=.bool true) (fun w=>by
  obtain⟨ms,h⟩:=R7 h;have U:(Op.equalIn Op.maxDepth hr (.iface T v) .nilIface).run P w = .ok false w:=(Uc 9999 h w).2 T v;simp[eqGuard,binOp,Op.equal,go_sem,U,Result.andThen]) hk
theorem K.Wf{x:Operand}{Vf T ty:TypeId}{v:Value}{c6:Value→World→Prop}{t}(ar:bb S x = .iface T v)(h:(P.underlying T).map uW=some false)(hk:c6 (.tuple #[v,.bool true]) w):tZ P (.typeAssert x Vf T true) ty S w c6 t:=by
 refine K.raw (v:=.tuple #[v,.bool true]) (w':=w) ?_ hk;obtain⟨d,br,ad⟩:=Option.map_eq_some_iff.1 h;have h1:(Instr.typeAssert (.iface T v) Vf T true).run P w = .ok (.tuple #[v,.bool true]) w:=by
  cases d<;>first | (simp[uW] at ad;done) | (simp[Instr.typeAssert,run_underlying br])
 simp[execOp,ar,h1,Result.andThen]
end
end bt
end
section
namespace Go.Proofs.R
open Go bt Go.Proofs
abbrev F.n:FuncId:=110
def Mg.z:xM:=⟨16,[.hN 4 2], (.bJ [aG 1 (.box T.c (ab 0)),aG 2 (.new T.s (.agg #[an,an,an,an]))]),
 [a7 4 (.kc F.n [] [(ab 2)])],(ab 4), (J [aG 5 .pa,I 3 5] (.seq (.eQ [bn 6 5 1,I 7 3] (some 8) F.bT [(ab 6),(ab 7)]) (.seq (.eQ [bn 9 5 1,I 10 3] (some 11) F.nI [(ab 9),(ab 10)]) (.seq (.eQ [bn 12 5 1,I 13 3] (some 14) F.pB [(ab 12),(ab 13)]) (J [a7 15 (.cF [an,an,an,an] [(0,1),(1,1),(2,1),(3,1)] []),cf 4 2 15] .ret)))))⟩
theorem Vq.z:Ey Tryz.prog F.z=some Mg.z:=by kernel_rfl
def GU.n:Aj:=⟨17,[],4,1, (J [I 5 1,a7 6 (.bin .neq T.oR (ab 5) (.const .nilIface))] (aE 6 (J [I 8 1,aG 9 (.raw (.typeAssert (ab 8) T.oR T.kq true) T.a0),I 7 9,bx 10 7 0,bx 11 7 1,aG 2 (.new T.kq (.agg #[an,an,an,an])),cf 4 2 10,I 3 11] (.seq (J [I 12 3,a7 13 (.un .not (ab 12))] (aE 13 (.pZ [I 14 1] (ab 14)) .skip)) (.bJ [af 15 0 2,bn 16 4 15,cf 4 0 16]))) .skip))⟩
theorem Ml.n:Ez Tryz.prog F.n=some GU.n:=by kernel_rfl
end Go.Proofs.R
end