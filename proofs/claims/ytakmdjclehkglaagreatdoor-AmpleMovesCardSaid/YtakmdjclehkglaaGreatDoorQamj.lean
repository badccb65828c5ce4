/- Parts. -/
import Derived.Test.YtakmdjclehkglaaGreatDoorQami
import Derived.Maps.RangeRun
import Derived.Defers
import Derived.Recover
set_option linter.all false
set_option maxRecDepth 100000
set_option maxHeartbeats 16000000
namespace Go.Proofs.R
open Go Go.RowKit ba
def D8(gX:B_)(e:C_ o.Node)(k:Int)(cs:C_ B_)(s:o.Scope)(w:A_)(aw:o.eW w gX e)(h:o.gk w cs s) :
  Ei F.LO #[gX,.I k,.agg cs.toArray] w λv w'=>v = .I (o.asked e k s)/\Ext w w':=by
 obtain⟨a0,bz,db,c1,a2,c2,a3,bw,a4,bD,rfl,_⟩:=h.form;obtain⟨aN,cap,rfl,_⟩:=aw.form;refine bk E.LO ?_;refine aa ?_;intro w1 bx cN af al;refine aa ?_;refine J_ (aev _ e _ s w1 (aw.ext af) (h.ext af)) ?_;rintro _ az ⟨rfl,ai⟩;rw[o.asked];refine aa ?_;apply I_<;>intro g1;rotate_left
 .refine aa ?_;exact⟨by rw[if_pos g1],af.trans ai⟩
 rw[if_neg (by simpa using g1)];refine aa ?_;apply I_<;>intro g2;rotate_left
 .refine aa ?_;exact⟨by rw[if_pos g2],af.trans ai⟩
 .refine aa ?_;exact⟨by rw[if_neg (by simpa using g2)],af.trans ai⟩
def K5(n:Int)(w:A_)(h:0<=n/\n<=4611686018427387904):Ei F.Hg #[.I n] w λv w'=>v = .I (if n=0 then 0 else 1+n)/\w'=w:=K4 n w h
theorem Tz(v:B_)(l:C_ o.Var)(n:Int)(cs:C_ B_)(s:o.Scope)(w:A_)(aE:o.h8 w v l)(h:o.gk w cs s) :
  Ei F.LQ #[v,.I n,.agg cs.toArray] w λv w'=>v = .tuple #[.I (o.l8 l n s).1,.I (o.l8 l n s).2]/\Ext w w':=by
 obtain⟨a0,bz,db,c1,a2,c2,a3,bw,a4,bD,rfl,_,_,_,_,_,eB,dD,dO,dU,eg⟩:=h.form;obtain⟨aN,cap,rfl,_⟩:=aE.form;refine bk E.LQ ?_;refine aa ?_;intro w1 bx cN af al;refine aa ?_;refine J_ (HK _ l n _ s w1 (aE.ext af) (h.ext af)) ?_;rintro u az ⟨⟨x,hu,ah⟩,ai⟩;cases hk:(o.gB l n s).2.2 with
 | false =>
  rw[hk] at hu;subst hu;refine aa ?_;intro aM bV eX ag a8;refine aa ?_;exact⟨by rw[o.l8,o.YU hk],(af.trans ai).trans ag⟩
 | true =>
  rw[hk] at hu;subst hu;obtain⟨bb,dI,ec,ep,eM⟩:=o.YW hk (ah hk);have ho:o.l8 l n s=if x.over≠0 then (0,9) else ((if x.scalar=0 then 0 else 1+x.scalar),0):=by unfold o.l8;rw[bb]
  refine aa ?_;intro aM bV eX ag a8;refine aa ?_;apply I_<;>intro g1
  .rw[if_neg (by simpa using g1)] at ho;refine aa ?_;refine J_ (K5 _ aM ⟨dI,Aw⟩) ?_;rintro _ _ ⟨rfl,rfl⟩;refine aa ?_;exact⟨by rw[ho],(af.trans ai).trans ag⟩
  .rw[if_pos g1] at ho;refine aa ?_;exact⟨by rw[ho],(af.trans ai).trans ag⟩
theorem aoZ(a:o.Act)(bK bY:B_)(cs:C_ B_)(s:o.Scope)(w:A_)(U:o.eW w bK a.index)(aH:o.eW w bY a.value)(h:o.gk w cs s) :
  Ei F.LP #[.agg (a.enc bK bY).toArray,.agg cs.toArray] w λv w'=>v = .I (o.Bu a s)/\Ext w w':=by
 obtain⟨a0,bz,db,c1,a2,c2,a3,bw,a4,bD,rfl,_,Sf,_,_,_,eB,dD,dO,dU,eg⟩:=h.form;obtain⟨_,_,rfl,_⟩:=U.form;obtain⟨_,_,rfl,_⟩:=aH.form;refine bk E.LP ?_;refine aa ?_;intro w1 bx cN af al;refine aa ?_;intro az bP c8 ai ao;replace al:=ai.obj al;have df:∀{w'},Ext az w'->Ext w w':=λe=>(af.trans ai).trans e;refine aa ?_;refine J_ (HK _ s.vars a.to _ s az (Sf.ext (df (Ext.refl _))) (h.ext (df (Ext.refl _)))) ?_;rintro u aM ⟨⟨x,hu,ah⟩,ag⟩;replace al:=ag.obj al;replace ao:=ag.obj ao;cases hk:(o.gB s.vars a.to s).2.2 with
 | false =>
  rw[hk] at hu;subst hu;refine aa ?_;intro aR cQ fD aq bn;refine aa ?_;exact⟨by rw[o.Bu,o.YU hk],df (ag.trans aq)⟩
 | true =>
  rw[hk] at hu;subst hu;obtain⟨bb,dI,ec,ep,eM⟩:=o.YW hk (ah hk);have ho:o.Bu a s=if x.over=0 then 9 else if o.asked a.index (1+x.over) s≠0 then o.asked a.index (1+x.over) s else o.asked a.value (if x.scalar=0 then 0 else 1+x.scalar) s:=by unfold o.Bu;rw[bb]
  refine aa ?_;intro aR cQ fD aq bn;replace al:=aq.obj al;replace ao:=aq.obj ao;have dX:∀{w'},Ext aR w'->Ext w w':=λe=>df ((ag.trans aq).trans e);refine aa ?_;apply I_<;>intro g1
  .rw[if_pos g1] at ho;refine aa ?_;exact⟨by rw[ho],dX (Ext.refl _)⟩
  rw[if_neg g1] at ho;refine aa ?_;refine J_ (D8 _ a.index (1+x.over) _ s aR (U.ext (dX (Ext.refl _))) (h.ext (dX (Ext.refl _)))) ?_;rintro _ bg ⟨rfl,ar⟩;replace al:=ar.obj al;replace ao:=ar.obj ao;replace bn:=ar.obj bn;have hq:∀{w'},Ext bg w'->Ext w w':=λe=>dX (ar.trans e);refine aa ?_;apply I_<;>intro g2;rotate_left
  .rw[if_pos g2] at ho;refine aa ?_;exact⟨by rw[ho],hq (Ext.refl _)⟩
  rw[if_neg (by simpa using g2)] at ho;refine aa ?_;refine P_ (.I (if x.scalar=0 then 0 else 1+x.scalar)) (λw' e=>(K5 _ w' ⟨dI,Aw⟩).mono λv bO cI=>⟨cI.1,by rw[cI.2];exact Ext.refl _⟩) ?_;refine aa ?_;refine P_ (.I (o.Bu a s)) (λw' e=>by rw[ho];exact D8 _ a.value _ _ s w' (aH.ext (hq e)) (h.ext (hq e))) ?_;refine aa ?_;intro bp aC;refine aa ?_;exact⟨aJ,hq aC⟩
def aen(a:o.Act)(comm:Bool)(bK bY:B_)(cs:C_ B_)(s:o.Scope)(w:A_)(U:o.eW w bK a.index)(aH:o.eW w bY a.value)(h:o.gk w cs s) :
  Ei F.LN #[.agg (a.enc bK bY).toArray,.agg cs.toArray,.bool comm] w λv w'=>v = .I (o.ma a s comm)/\Ext w w':=by
 obtain⟨a0,bz,db,c1,a2,c2,a3,bw,a4,bD,rfl,_,Sf,_,_,jT,eB,dD,dO,dU,eg⟩:=h.form;obtain⟨_,_,rfl,_⟩:=U.form;obtain⟨_,_,rfl,_⟩:=aH.form;refine bk E.LN ?_;refine aa ?_;intro w1 bx cN af al;refine aa ?_;intro az bP c8 ai ao;replace al:=ai.obj al;have df:∀{w'},Ext az w'->Ext w w':=λe=>(af.trans ai).trans e;refine aa ?_;apply I_<;>intro g1
 .refine aa ?_;exact⟨by rw[o.ma,if_pos (.inl g1)],df (Ext.refl _)⟩
 refine aa ?_;apply I_<;>intro g2
 .refine aa ?_;exact⟨by rw[o.ma,if_pos (.inr g2)],df (Ext.refl _)⟩
 have sN:¬(a.kind<1\/5<a.kind):=Aw
 refine aa ?_;apply I_<;>intro g3
 .refine aa ?_;refine J_ (aoZ a _ _ _ s az (U.ext (df (Ext.refl _))) (aH.ext (df (Ext.refl _))) (h.ext (df (Ext.refl _)))) ?_;rintro _ aM ⟨rfl,ag⟩;refine aa ?_;exact⟨by rw[o.ma,if_neg sN,if_pos g3],df ag⟩
 refine aa ?_;apply I_<;>intro g4
 .have aT:o.ma a s comm=if (o.l8 s.vars a.to s).2≠0 then (o.l8 s.vars a.to s).2 else o.asked a.value (o.l8 s.vars a.to s).1 s:=by
   rw[o.ma,if_neg sN,if_neg g3,if_pos (.inl g4)];simp only[if_neg (by omega:¬a.kind=3)]
  refine aa ?_;refine J_ (Tz _ s.vars a.to _ s az (Sf.ext (df (Ext.refl _))) (h.ext (df (Ext.refl _)))) ?_;rintro _ aM ⟨rfl,ag⟩;replace al:=ag.obj al;replace ao:=ag.obj ao;refine aa ?_;apply I_<;>intro g5;rotate_left
  .rw[if_pos g5] at aT;refine aa ?_;exact⟨by rw[aT],df ag⟩
  rw[if_neg (by simpa using g5)] at aT;refine aa ?_;refine J_ (D8 _ a.value _ _ s aM (aH.ext (df ag)) (h.ext (df ag))) ?_;rintro _ aR ⟨rfl,aq⟩;refine aa ?_;exact⟨by rw[aT],df (ag.trans aq)⟩
 refine aa ?_;apply I_<;>intro g5
 .have aT:o.ma a s comm=if (o.l8 s.locals a.to s).2≠0 then (o.l8 s.locals a.to s).2 else o.asked a.value (o.l8 s.locals a.to s).1 s:=by
   rw[o.ma,if_neg sN,if_neg g3,if_pos (.inr g5)];simp only[if_pos g5]
  refine aa ?_;refine J_ (Tz _ s.locals a.to _ s az (jT.ext (df (Ext.refl _))) (h.ext (df (Ext.refl _)))) ?_;rintro _ aM ⟨rfl,ag⟩;replace al:=ag.obj al;replace ao:=ag.obj ao;refine aa ?_;apply I_<;>intro g5;rotate_left
  .rw[if_pos g5] at aT;refine aa ?_;exact⟨by rw[aT],df ag⟩
  rw[if_neg (by simpa using g5)] at aT;refine aa ?_;refine J_ (D8 _ a.value _ _ s aM (aH.ext (df ag)) (h.ext (df ag))) ?_;rintro _ aR ⟨rfl,aq⟩;refine aa ?_;exact⟨by rw[aT],df (ag.trans aq)⟩
 have AJ:¬(a.kind=1\/a.kind=3):=Aw
 refine aa ?_;refine N_ (λg6=>?_) (λg6=>?_)
 .refine aa ?_;exact⟨by rw[o.ma,if_neg sN,if_neg g3,if_neg AJ,if_pos g6],df (Ext.refl _)⟩
 refine aa ?_;refine J_ (aeo a.to _ s az (h.ext (df (Ext.refl _)))) ?_;rintro u aM ⟨⟨x,hu,ah⟩,ag⟩;replace al:=ag.obj al;replace ao:=ag.obj ao;by_cases hk:(o.kX a.to s).2=0;rotate_left
 .rw[decide_eq_false hk] at hu;subst hu;refine aa ?_;intro aR cQ fD aq bn;refine aa ?_;exact⟨by rw[o.ma,if_neg sN,if_neg g3,if_neg AJ,if_neg (by simp[g6]),o.aiq hk],df (ag.trans aq)⟩
 rw[decide_eq_true hk] at hu;subst hu;obtain⟨bb,dI,ec⟩:=o.ais hk (ah hk);have aT:o.ma a s comm=if a.kind=4 then o.asked a.value (if x.scalar=0 then 0 else 1+x.scalar) s else if (o.l8 s.locals a.loc s).2≠0 then (o.l8 s.locals a.loc s).2 else if (o.l8 s.locals a.loc s).1≠(if x.scalar=0 then 0 else 1+x.scalar) then 9 else 0:=by
  rw[o.ma,if_neg sN,if_neg g3,if_neg AJ,if_neg (by simp[g6]),bb]
 refine aa ?_;intro aR cQ fD aq bn;replace al:=aq.obj al;replace ao:=aq.obj ao;have dX:∀{w'},Ext aR w'->Ext w w':=λe=>df ((ag.trans aq).trans e);refine aa ?_;apply I_<;>intro g7
 .rw[if_pos g7] at aT;refine aa ?_;refine P_ (.I (if x.scalar=0 then 0 else 1+x.scalar)) (λw' e=>(K5 _ w' ⟨dI,Aw⟩).mono λv bO cI=>⟨cI.1,by rw[cI.2];exact Ext.refl _⟩) ?_;refine aa ?_;refine P_ (.I (o.ma a s comm)) (λw' e=>by rw[aT];exact D8 _ a.value _ _ s w' (aH.ext (dX e)) (h.ext (dX e))) ?_;refine aa ?_;intro bp aC;refine aa ?_;exact⟨aJ,dX aC⟩
 rw[if_neg g7] at aT;refine aa ?_;refine J_ (Tz _ s.locals a.loc _ s aR (jT.ext (dX (Ext.refl _))) (h.ext (dX (Ext.refl _)))) ?_;rintro _ bg ⟨rfl,ar⟩;replace bn:=ar.obj bn;refine aa ?_;apply I_<;>intro g8;rotate_left
 .rw[if_pos g8] at aT;refine aa ?_;exact⟨by rw[aT],dX ar⟩
 rw[if_neg (by simpa using g8)] at aT;refine aa ?_;refine J_ (K5 _ bg ⟨dI,Aw⟩) ?_;rintro _ _ ⟨rfl,rfl⟩;refine aa ?_;apply I_<;>intro g9
 .rw[if_neg (by simpa using g9)] at aT;refine aa ?_;exact⟨by rw[aT],dX ar⟩
 .rw[if_pos g9] at aT;refine aa ?_;exact⟨by rw[aT],dX ar⟩
end Go.Proofs.R
namespace o
def XX{s:Scope}{a:Act}{k:Nat}{b:Bool}{Z:Int×Int}:(if hF a&&b then ((2+(k:Int)),(7:Int)) else if k5 a s≠0 then (2+(k:Int),k5 a s) else Z)=if ma a s b≠0 then (2+(k:Int),ma a s b) else Z:=by
 rw[asj];by_cases h:(hF a&&b)=true
 .simp[h]
 .simp[h]
end o
namespace Go.Proofs.R
open Go Go.RowKit ba o
theorem asr(c:dG)(eY va:B_)(p:dv)(qu se:B_)(cs:C_ B_)(s:o.Scope)(w:A_)(aw:jV c.name)(aG:eW w eY c.guard)(aY:lP w va c.bL)
  (aH:h8 w qu p.vars)(an:su w se p.c4)(h:gk w cs s) :
  Ei F.LK #[.agg (c.enc eY va).toArray,.agg (p.enc qu se).toArray,.agg cs.toArray] w λv w' =>
   v = .tuple #[.I (j7 c p.cn s).1,.I (j7 c p.cn s).2]/\Ext w w':=by
 obtain⟨a0,bz,db,c1,a2,c2,a3,bw,a4,bD,rfl,_⟩:=h.form;obtain⟨aN,cap,rfl,hlen⟩:=aY.form;obtain⟨fE,ahW,rfl,anv⟩:=aG.form;obtain⟨_,_,rfl,_⟩:=aH.form;obtain⟨_,_,rfl,_⟩:=an.form;refine bk E.LK ?_;refine aa ?_;intro w1 bx cN af al;refine aa ?_;intro az bP c8 ai ao;refine aa ?_;intro aM bV eX ag a8;replace al:=(ai.trans ag).obj al;replace ao:=ag.obj ao;have fw:∀{w'},Ext aM w'->Ext w w':=λe=>((af.trans ai).trans ag).trans e;refine aa ?_;refine J_ (Ea c.name aM aw) ?_;rintro u aR ⟨hu,aq⟩;replace al:=aq.obj al;replace ao:=aq.obj ao;replace a8:=aq.obj a8;have dX:∀{w'},Ext aR w'->Ext w w':=λe=>fw (aq.trans e);have bb:∀n,o.head c p.cn=n->n≠0->j7 c p.cn s=(0,n):=λn e ad=>by unfold j7;rw[e,if_pos ad]
 cases gm:o.isName c.name with
 | false =>
  rw[gm] at hu;subst hu;refine aa ?_;exact⟨by rw[bb 6 (by unfold o.head;rw[if_pos gm]) BS],dX (Ext.refl _)⟩
 | true =>
  rw[gm] at hu;subst hu;have qn:¬o.isName c.name=false:=by rw[gm];simp
  refine aa ?_;apply I_<;>intro g1
  .refine aa ?_;exact⟨by rw[bb 10 (by unfold o.head;rw[if_neg qn,if_pos Aw]) BS],dX (Ext.refl _)⟩
  refine aa ?_;apply I_<;>intro g2
  .refine aa ?_;exact⟨by rw[bb 10 (by unfold o.head;rw[if_neg qn,if_pos Aw]) BS],dX (Ext.refl _)⟩
  refine aa ?_;apply I_<;>intro g3
  .refine aa ?_;exact⟨by rw[bb 10 (by unfold o.head;rw[if_neg qn,if_pos Aw]) BS],dX (Ext.refl _)⟩
  refine aa ?_;apply I_<;>intro g4
  .refine aa ?_;exact⟨by rw[bb 10 (by unfold o.head;rw[if_neg qn,if_pos Aw]) BS],dX (Ext.refl _)⟩
  have ey:¬(c.from_<0\/p.cn<=c.from_\/c.to<0\/p.cn<=c.to):=Aw
  refine aa ?_;apply I_<;>intro g5
  .refine aa ?_;exact⟨by rw[bb 11 (by unfold o.head;rw[if_neg qn,if_neg ey,if_pos Aw]) BS],dX (Ext.refl _)⟩
  have DF:j7 c p.cn s=if c.guard.length > 0/\o.asked c.guard 1 s≠0 then (1,o.asked c.guard 1 s) else lv s c.bL 0 false:=by
   unfold j7;rw[if_neg];unfold o.head;rw[if_neg qn,if_neg ey,if_neg Aw];simp
  clear bb;refine aa ?_;apply I_<;>intro g6
  .refine aa ?_;refine J_ (D8 _ c.guard 1 _ s aR (aG.ext (dX (Ext.refl _))) (h.ext (dX (Ext.refl _)))) ?_;rintro _ bg ⟨rfl,ar⟩;replace al:=ar.obj al;replace a8:=ar.obj a8;have hq:∀{w'},Ext bg w'->Ext w w':=λe=>dX (ar.trans e);refine aa ?_;apply I_<;>intro g7;rotate_left
   .rw[if_pos ⟨Aw,g7⟩] at DF;refine aa ?_;exact⟨by rw[DF],hq (Ext.refl _)⟩
   have aT:j7 c p.cn s=lv s c.bL 0 false:=by rw[DF,if_neg (λcI=>cI.2 (by simpa using g7))]
   refine aa ?_;refine L_ 10 c.bL.length [3,4,5] (λb=>[(9,.bool b)]) false (λk b w'=>Ext bg w'/\lv s c.bL 0 false=lv s (c.bL.drop k) k b) a6 a6 ⟨Ext.refl _,CC⟩ ?_;rintro k b S bp hk ⟨aC,aP⟩;replace al:=aC.obj al;replace a8:=aC.obj a8;refine aa ?_;apply I_<;>intro g1
   .have a1:k<c.bL.length:=Aw
    obtain⟨a,rfl⟩:=aY.addr;obtain⟨bK,bY,gI,dP,rj⟩:=aY.at k a1;obtain⟨_,_,rfl,_⟩:=dP.form;obtain⟨_,_,rfl,_⟩:=rj.form;rw[O2 a1,XX] at aP;replace gI:=gI.ext (hq (Ext.refl _));refine aa ?_;refine P_ (.I (ma c.bL[k] s b)) (λw' e=>aen c.bL[k] b _ _ _ s w' (dP.ext (hq (aC.trans e))) (rj.ext (hq (aC.trans e))) (h.ext (hq (aC.trans e)))) ?_;refine aa ?_;intro bH bc;replace al:=bc.obj al;replace a8:=bc.obj a8;refine aa ?_;apply I_<;>intro g2;rotate_left
    .rw[if_pos g2] at aP;refine aa ?_;exact⟨by rw[aT,aP],hq (aC.trans bc)⟩
    rw[if_neg (by simpa using g2)] at aP;refine aa ?_;refine N_ (λg3=>?_) (λg3=>?_)
    .subst g3;refine aa ?_;exact⟨a1,aJ,true,a6,aC.trans bc,by simpa using aP⟩
    subst g3;refine aa ?_;apply I_<;>intro g4
    .have aB:hF c.bL[k]=true:=by unfold hF;rw[decide_eq_true_eq];omega
     refine aa ?_;exact⟨a1,aJ,true,a6,aC.trans bc,by simpa[aB] using aP⟩
    have aB:hF c.bL[k]=decide (c.bL[k].kind=5):=by unfold hF;rw[AG4,decide_eq_true_eq,decide_eq_true_eq];omega
    rw[Bool.false_or,aB] at aP;refine aa ?_;exact⟨a1,aJ,decide (c.bL[k].kind=5),a6,aC.trans bc,aP⟩
   .rw[AE9 Aw] at aP;refine aa ?_;exact⟨by rw[aT,aP];rfl,hq aC⟩
  .have aT:j7 c p.cn s=lv s c.bL 0 false:=by rw[DF,if_neg (λcI=>g6 Aw)]
   refine aa ?_;refine L_ 10 c.bL.length [3,4,5] (λb=>[(9,.bool b)]) false (λk b w'=>Ext aR w'/\lv s c.bL 0 false=lv s (c.bL.drop k) k b) a6 a6 ⟨Ext.refl _,CC⟩ ?_;rintro k b S bp hk ⟨aC,aP⟩;replace al:=aC.obj al;replace a8:=aC.obj a8;refine aa ?_;apply I_<;>intro g1
   .have a1:k<c.bL.length:=Aw
    obtain⟨a,rfl⟩:=aY.addr;obtain⟨bK,bY,gI,dP,rj⟩:=aY.at k a1;obtain⟨_,_,rfl,_⟩:=dP.form;obtain⟨_,_,rfl,_⟩:=rj.form;rw[O2 a1,XX] at aP;replace gI:=gI.ext (dX (Ext.refl _));refine aa ?_;refine P_ (.I (ma c.bL[k] s b)) (λw' e=>aen c.bL[k] b _ _ _ s w' (dP.ext (dX (aC.trans e))) (rj.ext (dX (aC.trans e))) (h.ext (dX (aC.trans e)))) ?_;refine aa ?_;intro bH bc;replace al:=bc.obj al;replace a8:=bc.obj a8;refine aa ?_;apply I_<;>intro g2;rotate_left
    .rw[if_pos g2] at aP;refine aa ?_;exact⟨by rw[aT,aP],dX (aC.trans bc)⟩
    rw[if_neg (by simpa using g2)] at aP;refine aa ?_;refine N_ (λg3=>?_) (λg3=>?_)
    .subst g3;refine aa ?_;exact⟨a1,aJ,true,a6,aC.trans bc,by simpa using aP⟩
    subst g3;refine aa ?_;apply I_<;>intro g4
    .have aB:hF c.bL[k]=true:=by unfold hF;rw[decide_eq_true_eq];omega
     refine aa ?_;exact⟨a1,aJ,true,a6,aC.trans bc,by simpa[aB] using aP⟩
    have aB:hF c.bL[k]=decide (c.bL[k].kind=5):=by unfold hF;rw[AG4,decide_eq_true_eq,decide_eq_true_eq];omega
    rw[Bool.false_or,aB] at aP;refine aa ?_;exact⟨a1,aJ,decide (c.bL[k].kind=5),a6,aC.trans bc,aP⟩
   .rw[AE9 Aw] at aP;refine aa ?_;exact⟨by rw[aT,aP];rfl,dX aC⟩
theorem as5(p:dv)(Hv cs:C_ B_)(s:o.Scope)(w:A_)(au:yq w Hv p)(h:gk w cs s)(aG:s.cr)(pP:p.cr) :
  Ei F.LR #[.agg Hv.toArray,.agg cs.toArray] w λv w'=>v = .tuple #[.I (ij p s).1,.I (ij p s).2.1,.I (ij p s).2.2]/\Ext w w':=by
 obtain⟨a0,bz,db,c1,a2,c2,a3,d3,a4,d4,rfl,ad,h1,J,ab,aF,eB,dD,dO,dU,eg⟩:=h.form;obtain⟨aw,qu,se,rfl,aH,oi⟩:=au;obtain⟨bW,bw,rfl,fa⟩:=aH.form;obtain⟨b1,bD,rfl,lc⟩:=oi.form;refine bk E.LR ?_;refine aa ?_;intro w1 bx cN af al;refine aa ?_;intro az bP c8 ai ao;replace al:=ai.obj al;have df:∀{w'},Ext az w'->Ext w w':=λe=>(af.trans ai).trans e;refine aa ?_;refine J_ (Ea p.name az aw) ?_;rintro u aM ⟨hu,ag⟩;replace al:=ag.obj al;replace ao:=ag.obj ao;have fw:∀{w'},Ext aM w'->Ext w w':=λe=>df (ag.trans e);have bb:∀n,o.whole p s=n->n≠0->ij p s=(0,0,n):=λn e ad=>by unfold ij;rw[e,if_pos ad]
 cases gm:o.isName p.name with
 | false =>
  rw[gm] at hu;subst hu;refine aa ?_;exact⟨by rw[bb 6 (by unfold o.whole;rw[if_pos gm]) BS],fw (Ext.refl _)⟩
 | true =>
  rw[gm] at hu;subst hu;have qn:¬o.isName p.name=false:=by rw[gm];simp
  refine aa ?_;apply I_<;>intro g1
  .refine aa ?_;exact⟨by rw[bb 8 (by unfold o.whole;rw[if_neg qn,if_pos (.inl g1)]) BS],fw (Ext.refl _)⟩
  refine aa ?_;apply I_<;>intro g2
  .refine aa ?_;exact⟨by rw[bb 8 (by unfold o.whole;rw[if_neg qn,if_pos (.inr Aw)]) BS],fw (Ext.refl _)⟩
  have kj:¬(p.over<0\/(s.scalars.length:Int)<p.over):=Aw
  refine aa ?_;apply I_<;>intro g3
  .refine aa ?_;exact⟨by rw[bb 10 (by unfold o.whole;rw[if_neg qn,if_neg kj,if_pos (.inl g3)]) BS],fw (Ext.refl _)⟩
  refine aa ?_;apply I_<;>intro g4
  .refine aa ?_;exact⟨by rw[bb 10 (by unfold o.whole;rw[if_neg qn,if_neg kj,if_pos (.inr Aw)]) BS],fw (Ext.refl _)⟩
  have jD:¬(p.cn<1\/12<p.cn):=Aw
  refine aa ?_;apply I_<;>intro g5
  .refine aa ?_;exact⟨by rw[bb 11 (by unfold o.whole;rw[if_neg qn,if_neg kj,if_neg jD,if_pos Aw]) BS],fw (Ext.refl _)⟩
  have aT:ij p s=if (l9 p s).2≠0 then (1,(l9 p s).1,(l9 p s).2) else mq (o.inner p s) p.cn p.c4 p.c4 0:=by
   unfold ij;rw[if_neg];unfold o.whole;rw[if_neg qn,if_neg kj,if_neg jD,if_neg Aw];simp
  clear bb;refine aa ?_;refine J_ (aew _ _ p.vars s.scalars 4 aM (aH.ext (fw (Ext.refl _))) (ad.ext (fw (Ext.refl _)))) ?_;rintro _ aR ⟨rfl,aq⟩;replace al:=aq.obj al;replace ao:=aq.obj ao;have dX:∀{w'},Ext aR w'->Ext w w':=λe=>fw (aq.trans e);refine aa ?_;apply I_<;>intro g6;rotate_left
  .have aE:l9 p s=o.vars p.vars s.scalars 4:=by unfold l9;rw[if_pos g6]
   rw[aE,if_pos g6] at aT;refine aa ?_;exact⟨by rw[aT],dX (Ext.refl _)⟩
  have aE:l9 p s=rn s p.vars 0:=by unfold l9;rw[if_neg (by simpa using g6)]
  rw[aE] at aT;refine aa ?_;refine L_ 9 p.vars.length [2,3] (λ_:Unit=>[]) () (λk _ w'=>Ext aR w'/\rn s p.vars 0=rn s (p.vars.drop k) k) a6 a6 ⟨Ext.refl _,CC⟩ ?_;rintro k _ S bg hk ⟨ar,aP⟩;replace al:=ar.obj al;replace ao:=ar.obj ao;refine aa ?_;apply I_<;>intro g7
  .have a1:k<p.vars.length:=Aw
   obtain⟨a,rfl⟩:=aH.addr;have dK:=((aH.at k a1).cells).ext (dX ar);rw[adh a1] at aP;refine aa ?_;apply I_<;>intro g8;rotate_left
   .rw[if_pos g8] at aP;refine aa ?_;exact⟨by rw[aT,aP];rfl,dX ar⟩
   rw[if_neg (by simpa using g8)] at aP;refine aa ?_;refine L_ 10 s.vars.length [2,3,9] (λ_:Unit=>[]) () (λj _ w'=>Ext bg w'/\∀t (aB:t<s.vars.length),t<j->¬s.vars[t].name=p.vars[k].name) a6 a6 ⟨Ext.refl _,λ_ _ h=>absurd h (E3 _)⟩ ?_;rintro j _ aZ bp ay ⟨aC,rX⟩;replace al:=aC.obj al;replace ao:=aC.obj ao;have hg:∀{w'},Ext bp w'->Ext w w':=λe=>dX ((ar.trans aC).trans e);refine aa ?_;apply I_<;>intro g9
   .have eT:j<s.vars.length:=Aw
    obtain⟨cx,rfl⟩:=h1.addr;have gx:=((h1.at j eT).cells).ext (hg (Ext.refl _));replace dK:=dK.ext aC;refine aa ?_;intro bH bc;replace al:=bc.obj al;replace ao:=bc.obj ao;refine aa ?_;apply I_<;>intro g10
    .have AT:s.vars.any (λx=>decide (x.name=p.vars[k].name))=true:=List.any_eq_true.2 ⟨s.vars[j],E2 _,by simpa using g10⟩;rw[if_pos AT] at aP;refine aa ?_;exact⟨by rw[aT,aP];rfl,hg bc⟩
    .refine aa ?_;exact⟨eT,aJ,(),trivial,aC.trans bc,λt aB h=>by
      by_cases e:t=j
      .subst e;exact g10
      .exact rX t aB Aw⟩
   .have AT:¬s.vars.any (λx=>decide (x.name=p.vars[k].name))=true:=by
     intro cI;obtain⟨x,ah,hb⟩:=List.any_eq_true.1 cI;obtain⟨t,aB,rfl⟩:=List.mem_iff_getElem.1 ah;exact rX t aB Aw (by simpa using hb)
    rw[if_neg AT] at aP;refine aa ?_;exact⟨a1,aJ,(),trivial,ar.trans aC,aP⟩
  rw[AE9 Aw] at aP;replace aT:ij p s=mq (o.inner p s) p.cn p.c4 p.c4 0:=by rw[aT,aP];rfl
  clear aP aE;have eh:∀w',Ext w w'->gk w' [.slice a0 s.scalars.length bz,.slice db s.vars.length c1,.slice a2 s.aA.length c2,.slice a3 s.procs.length d3,.slice bW p.vars.length bw,.I p.over] (o.inner p s):=λw' e =>
   ⟨(aG.inner pP).sh.1,_,_,_,_,_,rfl,ad.ext e,h1.ext e,J.ext e,ab.ext e,aH.ext e,(aG.inner pP).sh.2⟩
  refine aa ?_;intro bp bV eX aC a8;replace al:=aC.obj al;replace ao:=aC.obj ao;have hg:∀{w'},Ext bp w'->Ext w w':=λe=>dX ((ar.trans aC).trans e);refine aa ?_;refine L_ 12 p.c4.length [2,3,11] (λ_:Unit=>[]) () (λk _ w'=>Ext bp w'/\mq (o.inner p s) p.cn p.c4 p.c4 0=mq (o.inner p s) p.cn p.c4 (p.c4.drop k) k) a6 a6 ⟨Ext.refl _,CC⟩ ?_;rintro k _ S bH hk ⟨bc,aP⟩;replace al:=bc.obj al;replace ao:=bc.obj ao;replace a8:=bc.obj a8;have gd:∀{w'},Ext bH w'->Ext w w':=λe=>hg (bc.trans e);refine aa ?_;apply I_<;>intro g7
  .have a1:k<p.c4.length:=Aw
   obtain⟨a,rfl⟩:=oi.addr;obtain⟨aj,eY,va,e0,zm,xu⟩:=oi.at k a1;obtain⟨fE,fN,rfl,apG⟩:=zm.form;obtain⟨aN,fh,rfl,qp⟩:=xu.form;rw[YE a1] at aP;replace e0:=e0.ext (gd (Ext.refl _));refine aa ?_;refine P_ (.tuple #[.I (j7 p.c4[k] p.cn (o.inner p s)).1,.I (j7 p.c4[k] p.cn (o.inner p s)).2]) (λw' e=>asr p.c4[k] _ _ p _ _ _ (o.inner p s) w' aj (zm.ext (gd e)) (xu.ext (gd e)) (aH.ext (gd e)) (oi.ext (gd e)) (eh _ (gd e))) ?_;refine aa ?_;intro cB bt;replace al:=bt.obj al;replace ao:=bt.obj ao;replace a8:=bt.obj a8;replace e0:=e0.ext bt;have hR:∀{w'},Ext cB w'->Ext w w':=λe=>gd (bt.trans e);refine aa ?_;apply I_<;>intro g8;rotate_left
   .rw[if_pos g8] at aP;refine aa ?_;exact⟨by rw[aT,aP],hR (Ext.refl _)⟩
   rw[if_neg (by simpa using g8)] at aP;refine aa ?_;refine L_ 15 k [2,3,11,12] (λ_:Unit=>[]) () (λj _ w'=>Ext cB w'/\∀t (aB:t<p.c4.length),t<j->¬p.c4[t].name=p.c4[k].name) a6 a6 ⟨Ext.refl _,λ_ _ h=>absurd h (E3 _)⟩ ?_;rintro j _ aZ cD ay ⟨b0,rX⟩;replace al:=b0.obj al;replace ao:=b0.obj ao;replace a8:=b0.obj a8;have fA:∀{w'},Ext cD w'->Ext w w':=λe=>hR (b0.trans e);refine aa ?_;apply I_<;>intro g9
   .have eT:j<p.c4.length:=Aw
    obtain⟨_,ayr,NO,aaM,_,_⟩:=oi.at j eT;replace aaM:=aaM.ext (fA (Ext.refl _));replace e0:=e0.ext b0;refine aa ?_;intro et cd;replace al:=cd.obj al;replace ao:=cd.obj ao;replace a8:=cd.obj a8;refine aa ?_;apply I_<;>intro g10
    .have AT:(p.c4.take k).any (λx=>decide (x.name=p.c4[k].name))=true:=List.any_eq_true.2 ⟨p.c4[j],by rw[List.mem_iff_getElem];exact⟨j,by simp;omega,CC⟩,by simpa using g10⟩;rw[if_pos AT] at aP;refine aa ?_;exact⟨by rw[aT,aP],fA cd⟩
    .refine aa ?_;exact⟨Aw,aJ,(),trivial,b0.trans cd,λt aB h=>by
      by_cases e:t=j
      .subst e;exact g10
      .exact rX t aB Aw⟩
   .have AT:¬(p.c4.take k).any (λx=>decide (x.name=p.c4[k].name))=true:=by
     intro cI;obtain⟨x,ah,hb⟩:=List.any_eq_true.1 cI;obtain⟨t,aB,rfl⟩:=List.mem_iff_getElem.1 ah;have aos:t<k/\t<p.c4.length:=by simp at aB;omega
     exact rX t aos.2 Aw (by simpa using hb)
    rw[if_neg AT] at aP;refine aa ?_;exact⟨a1,aJ,(),trivial,(bc.trans bt).trans b0,aP⟩
  .rw[AE9 Aw] at aP;refine aa ?_;exact⟨by rw[aT,aP];rfl,gd (Ext.refl _)⟩
def asH(cs:C_ B_)(m:o.Model)(k:Nat)(w:A_)(h:dh w cs m)(aG:m.cr)(hk:k<m.procs.length)(Gy:k<=6)(Kp:m.scalars.length<=2/\m.vars.length<=12/\m.aA.length<=4)(an1:k<6->∀j,j<k->(ja m j).1=0) :
  Ei F.L2 #[.agg cs.toArray,.I k] w λv w'=>v=vf (if (ja m k).1≠0 then ⟨(ja m k).1,4,k,(ja m k).2⟩ else vg)/\Ext w w':=by
 have aL:=h;obtain⟨bZ,bz,bN,c1,bT,c2,bW,bw,b1,bD,rfl,ad,h1,J,ab,aF,eB,dD,dO,dU,eg⟩:=h.form;have eL:=PY hk;refine bk E.L2 ?_;refine aa ?_;intro w1 bx cN af al;refine aa ?_;intro az bP c8 ai ao;replace al:=ai.obj al;have aD:=af.trans ai;have fT:=cq al;have z2:=af.size;refine aa ?_;apply I_<;>intro g1
 .rw[if_pos Aw] at eL;refine aa ?_;intro aM fF a8;refine aa ?_;exact⟨by rw[eL];rfl,fF.ext aD Aw⟩
 rw[if_neg Aw] at eL;obtain⟨a,rfl⟩:=ab.addr;obtain⟨kC,bY,dQ,au,eU,c5⟩:=ab.at k hk;obtain⟨ei,eZ,rfl,fa⟩:=eU.form;obtain⟨pj,oU,rfl,lc⟩:=c5.form;have pP:=aG.proc _ (E2 hk);replace au:=au.ext aD;refine aa ?_;intro aM dJ jc ag bI;replace al:=ag.obj al;replace ao:=ag.obj ao;refine aa ?_;intro aR aq;replace al:=aq.obj al;replace ao:=aq.obj ao;replace bI:=aq.obj bI;have bo:=(aD.trans ag).trans aq;refine aa ?_;refine J_ (asL (w0:=w) _ m k aR aL bo aG) ?_;rintro _ bg ⟨⟨aiW,rfl,mA⟩,ar⟩;refine⟨ar,?_⟩;have bC:=bo.trans ar;obtain⟨k1,H9,ir,jY,jn,jK,nt,sn,mG,Ez,rfl,_⟩:=(mA _ bC).form;refine aa ?_;refine J_ (as5 m.procs[k] _ _ (hE m k) bg ⟨kC,_,_,rfl,eU.ext bC,c5.ext bC⟩ (mA _ bC) (aG.hE _) pP) ?_;rintro _ bp ⟨rfl,aC⟩;replace al:=(ar.trans aC).obj al;replace ao:=(ar.trans aC).obj ao;replace bI:=(ar.trans aC).obj bI;have b5:=bC.trans aC;clear aD bo au;have eh:=ad1 m.procs[k] (hE m k) 140737488351232 λc an=>by have:=(pP.cmd c an).bL;unfold ev at this;omega
 have aoy:m.procs[k].vars.length<=140737488351232:=by have:=pP.vars;unfold ev at this;omega
 have pL:m.procs[k].c4.length<=140737488351232:=by have:=pP.c4;unfold ev at this;omega
 refine aa ?_;apply I_<;>intro g2;rotate_left
 .rw[if_pos g2] at eL;refine aa ?_;intro bH dz b3;refine aa ?_;exact⟨by rw[eL,if_pos g2];rfl,dz.ext b5 Aw⟩
 rw[if_neg (by simpa using g2)] at eL;have hlen:∀(i:Int),m.scalars.length+cZ 1 4 i m.vars.length+cZ 2 4 i m.aA.length+cZ 3 4 k m.procs.length+im 4 i m.props.length<=8000000000000:=λi=>by
  have c7:=x8 1 4 i m.vars.length;have dE:=x8 2 4 i m.aA.length;have ed:cZ 3 4 k m.procs.length<=k:=by unfold cZ; (repeat' split)<;>omega
  have gW:im 4 i m.props.length=0:=by unfold im;rw[if_neg BS]
  omega
 refine aa ?_;intro bH bc;replace al:=bc.obj al;replace ao:=bc.obj ao;replace bI:=bc.obj bI;have cL:=b5.trans bc;refine aa ?_;refine J_ (EZ _ m 4 k bH (aL.ext cL) Aw Aw (hlen k)) ?_;rintro _ cB ⟨⟨v,rfl,gz⟩,bt⟩;refine⟨bt,?_⟩;rw[ag4] at gz;replace al:=bt.obj al;replace ao:=bt.obj ao;replace bI:=bt.obj bI;have eK:=cL.trans bt;refine aa ?_;refine J_ (F4 v _ m.procs[k].name _ cB gz) ?_;rintro _ ps ⟨rfl,rfl⟩;refine aa ?_;apply I_<;>intro g3
 .rw[if_pos g3] at eL;refine aa ?_;intro cD gA cG;refine aa ?_;exact⟨by rw[eL];rfl,gA.ext eK Aw⟩
 rw[if_neg g3] at eL;have sZ:m.procs.length*80<=140737488355328:=by have:=aG.procs;unfold ev at this;omega
 have GF:m.scalars.length+cZ 1 5 (0:Nat) m.vars.length+cZ 2 5 (0:Nat) m.aA.length+cZ 3 5 (0:Nat) m.procs.length+im 5 (0:Nat) m.props.length<=8000000000000:=by
  have c7:=x8 1 5 (0:Nat) m.vars.length;have dE:=x8 2 5 (0:Nat) m.aA.length;have ed:=x8 3 5 (0:Nat) m.procs.length;have gW:im 5 (0:Nat) m.props.length=0:=by unfold im;rw[if_pos BS];simp
  omega
 have y3:=al;have AW:=ao;have aaA:=bI;clear al ao bI gz;have al:=y3;have bI:=aaA;refine aa ?_;refine L_ 9 m.procs[k].vars.length [1,2,4,5] (λ_:Unit=>[]) () (λj _ w'=>Ext ps w'/\∀i,i<j->rU m m.procs[k] i=0) a6 a6 ⟨Ext.refl _,λj h=>absurd h (E3 _)⟩ ?_;clear al bI;rintro j _ S cD ay ⟨b0,bB⟩;have al:=b0.obj y3;have ao:=b0.obj AW;have bI:=b0.obj aaA;have fO:=eK.trans b0;refine aa ?_;apply I_<;>intro g4
 .have eT:j<m.procs[k].vars.length:=Aw
  obtain⟨cx,rfl⟩:=eU.addr;have dK:=((eU.at j eT).cells).ext fO;have gm:=DW (f:=λx:o.Var=>x.name) eT;refine aa ?_;intro et cd;replace al:=cd.obj al;replace ao:=cd.obj ao;replace bI:=cd.obj bI;replace dK:=dK.ext cd;have j8:=fO.trans cd;refine aa ?_;refine J_ (EZ _ m 5 (0:Nat) et (aL.ext j8) Aw Aw GF) ?_;rintro _ ft ⟨⟨v2,rfl,GM⟩,ef⟩;refine⟨ef,?_⟩;rw[X1] at GM;replace al:=ef.obj al;replace ao:=ef.obj ao;replace bI:=ef.obj bI;have qV:=j8.trans ef;refine aa ?_;refine J_ (F4 v2 _ m.procs[k].vars[j].name _ ft GM) ?_;rintro _ B0 ⟨rfl,rfl⟩;have dx:s9 m 0=jE m m.procs.length:=by simp[s9]
  rw[dx];refine aa ?_;apply I_<;>intro g5
  .have tY:rU m m.procs[k] j=7:=by unfold rU;rw[gm,if_pos g5]
   rw[jM eT bB (by rw[tY];decide),tY,if_pos (show(7:Int)≠0 by decide)] at eL;refine aa ?_;intro hf l5 ic;refine aa ?_;exact⟨by rw[eL];rfl,l5.ext qV Aw⟩
  .refine aa ?_;refine⟨eT,aJ,(),trivial,(b0.trans cd).trans ef,λi U=>?_⟩;by_cases Dv:i=j
   .subst Dv;unfold rU;rw[gm,if_neg g5]
   .exact bB i Aw
 .rw[qf λi U=>bB i Aw,if_neg CC] at eL;refine aa ?_;intro et pR gZ;refine aa ?_;exact⟨by rw[eL];rfl,pR.ext fO Aw⟩
def asI(cs:C_ B_)(m:o.Model)(k:Nat)(w:A_)(h:dh w cs m)(aG:m.cr)(hk:k<m.props.length)(abn:k<=8)(Kp:m.scalars.length<=2/\m.vars.length<=12/\m.aA.length<=4)(an1:m.procs.length<=6) :
  Ei F.L3 #[.agg cs.toArray,.I k] w λv w'=>v = .I (od m k)/\Ext w w':=by
 have aL:=h;obtain⟨bZ,bz,bN,c1,bT,c2,bW,bw,b1,bD,rfl,ad,h1,J,ab,aF,eB,dD,dO,dU,eg⟩:=h.form;have eL:=FE hk;refine bk E.L3 ?_;refine aa ?_;intro w1 bx cN af al;refine aa ?_;apply I_<;>intro g1
 .rw[if_pos Aw] at eL;refine aa ?_;exact⟨by rw[eL],af⟩
 rw[if_neg Aw] at eL;obtain⟨a,rfl⟩:=aF.addr;obtain⟨kC,gX,au,ho⟩:=aF.at k hk;obtain⟨M3,ce,rfl,le⟩:=ho.form;replace au:=au.ext af;refine aa ?_;intro az dJ jc ai bI;replace al:=ai.obj al;have aD:=af.trans ai;refine aa ?_;refine J_ (Ea m.props[k].name az kC) ?_;rintro _ aM ⟨rfl,ag⟩;replace al:=ag.obj al;replace bI:=ag.obj bI;have aO:=aD.trans ag;refine aa ?_;refine N_ (λg2=>?_) (λg2=>?_);rotate_left
 .rw[if_pos g2] at eL;refine aa ?_;exact⟨by rw[eL],aO⟩
 rw[if_neg (by rw[g2];decide)] at eL;refine aa ?_;intro aR aq;replace al:=aq.obj al;replace bI:=aq.obj bI;have bo:=aO.trans aq;refine aa ?_;refine J_ (EZ _ m 5 k aR (aL.ext bo) Aw Aw (by
  have c7:=x8 1 5 k m.vars.length;have dE:=x8 2 5 k m.aA.length;have ed:=x8 3 5 k m.procs.length;have gW:im 5 k m.props.length<=k:=by unfold im; (repeat' split)<;>omega
  omega)) ?_
 rintro _ bg ⟨⟨v2,rfl,GM⟩,ar⟩;refine⟨ar,?_⟩;rw[X1] at GM;replace al:=ar.obj al;replace bI:=ar.obj bI;have bC:=bo.trans ar;refine aa ?_;refine J_ (F4 v2 _ m.props[k].name _ bg GM) ?_;rintro _ B0 ⟨rfl,rfl⟩;refine aa ?_;apply I_<;>intro g3
 .rw[if_pos g3] at eL;refine aa ?_;exact⟨by rw[eL],bC⟩
 rw[if_neg g3] at eL;have mA:∀w',Ext w w'->gk w' [.slice bZ m.scalars.length bz,.slice bN m.vars.length c1,.slice bT m.aA.length c2,.slice bW m.procs.length bw,.slice none 0 0,.I 0] (eC m):=λw' e =>
  ⟨aG.scope.sh.1,_,_,_,_,_,rfl,ad.ext e,h1.ext e,J.ext e,ab.ext e,bm.nil,aG.scope.sh.2⟩
 refine aa ?_;refine J_ (aev _ m.props[k].expr _ (eC m) _ (ho.ext bC) (mA _ bC)) ?_;rintro _ bp ⟨rfl,aC⟩;refine aa ?_;apply I_<;>intro g4;rotate_left
 .rw[if_pos g4] at eL;refine aa ?_;exact⟨by rw[eL],bC.trans aC⟩
 rw[if_neg (by simpa using g4)] at eL;refine aa ?_;apply I_<;>intro g5;rotate_left
 .rw[if_pos g5] at eL;refine aa ?_;exact⟨by rw[eL],bC.trans aC⟩
 rw[if_neg (by simpa using g5)] at eL;refine aa ?_;exact⟨by rw[eL],bC.trans aC⟩
def HI(cs:C_ B_)(m:o.Model)(w:A_)(h:dh w cs m)(aG:m.cr) :
  Ei F.LV #[.agg cs.toArray] w λv w'=>v=vf (o.check m)/\Ext w w':=by
 have aL:=h;obtain⟨bZ,bz,bN,c1,bT,c2,bW,bw,b1,bD,rfl,ad,h1,J,ab,aF,eB,dD,dO,dU,eg⟩:=h.form;refine bk E.LV ?_;simp -dsimp only[cK];refine dV ?_;intro w1 bx cN af al;refine dV ?_;intro az bP c8 ai ao;replace al:=ai.obj al;have aD:=af.trans ai;have fT:=cq al;have z2:=cq ao;have z3:=af.size;refine dV ?_;simp -dsimp only[cK];refine dV ?_;refine J_ (asD _ m az (aL.ext aD)) ?_;rintro _ aM ⟨rfl,ag⟩;replace al:=ag.obj al;replace ao:=ag.obj ao;unfold vf;have z4:=ai.size;have z5:=ag.size;refine dV ?_;intro aR bV eX aq a8;replace al:=aq.obj al;replace ao:=aq.obj ao;have bo:=(aD.trans ag).trans aq;have tk:=cq a8;have y3:=al;have AW:=ao;have Db:=aL.ext bo;refine dV ?_;refine R_ [1,2,3] (λ_:tq=>[]) (λf w'=>Mod (λi=>i=bV) aR w'/\w'.heap[bV]? = some (.cells #[.I f.cJ,.I f.part,.I f.item,.I f.sub] T.x) /\
  ((f.cJ≠0/\f=o.check m)\/(f.cJ=0/\(o.data m).cJ=0/\∀j,j<m.procs.length->(ja m j).1=0))) ?_ ?_
 .refine aa ?_;refine L_ 4 m.procs.length [1,2,3] (λ_:tq=>[]) (o.data m) (λk f w'=>Mod (λi=>i=bV) aR w'/\w'.heap[bV]? = some (.cells #[.I f.cJ,.I f.part,.I f.item,.I f.sub] T.x) /\
   ((f=o.data m/\(o.data m).cJ≠0)\/((o.data m).cJ=0/\f.cJ=0/\∀j,j<k->(ja m j).1=0)\/((o.data m).cJ=0/\f=nh m/\(nh m).cJ≠0))) a6 a6 ⟨Mod.refl _ _,a8,by
     by_cases h:(o.data m).cJ=0
     .exact .inr (.inl ⟨h,h,λj h=>absurd h (E3 _)⟩)
     .exact .inl ⟨rfl,h⟩⟩ ?_
  clear al ao a8;rintro k f S bg hk ⟨m5,a8,ax⟩;have al:=m5.obj Aw y3;have ao:=m5.obj Aw AW;have bC:=m5.ext bo (λi U e=>Aw);have ZA:f.cJ≠0->(f.cJ≠0/\f=o.check m):=λhw=>⟨hw,by
   rcases ax with ⟨rfl,h⟩ | ⟨_,h,_⟩ | ⟨h1,rfl,J⟩
   .rw[o.check,if_pos h]
   .exact absurd h hw
   .rw[o.check,if_neg (by simpa using h1),if_pos J]⟩
  refine aa ?_;apply I_<;>intro g1
  .have a1:k<m.procs.length:=Aw
   refine aa ?_;apply I_<;>intro g2
   .have mW:(o.data m).cJ=0/\f.cJ=0/\∀j,j<k->(ja m j).1=0:=by
     rcases ax with ⟨rfl,h⟩ | h | ⟨h1,rfl,J⟩
     .exact absurd g2 h
     .exact h
     .exact absurd g2 J
    have Gy:k<=6:=by
     apply Classical.byContradiction;intro aw
     have:=JA (m:=m) (i:=6) Aw (mW.2.2 6 Aw)
     omega
    refine aa ?_;refine J_ (asH _ m k bg (aL.ext bC) aG a1 Gy (Jh mW.1) λ_=>mW.2.2) ?_;rintro _ bp ⟨rfl,aC⟩;unfold vf;replace al:=aC.obj al;replace ao:=aC.obj ao;replace a8:=aC.obj a8;refine aa ?_;intro bH dz b3;refine aa ?_;refine⟨a1,aJ,_,trivial,(m5.trans aC.mod).trans (dz.mod rfl),b3,?_⟩;by_cases ad:(ja m k).1=0
    .rw[if_neg (by simpa using ad)];refine .inr (.inl ⟨mW.1,rfl,λj ay=>?_⟩);by_cases hj:j=k
     .subst hj;exact ad
     .exact mW.2.2 j Aw
    .rw[if_pos ad]
     have:=Hy a1 mW.2.2 ad
     exact .inr (.inr ⟨mW.1,this.symm,by rw[this];exact ad⟩)
   .refine aa ?_;exact⟨f,trivial,m5,a8,.inl (ZA g2)⟩
  .refine aa ?_;refine⟨f,trivial,m5,a8,?_⟩;by_cases hw:f.cJ=0
   .refine .inr ?_;rcases ax with ⟨rfl,h⟩ | ⟨h1,J,ab⟩ | ⟨h1,rfl,J⟩
    .exact absurd hw h
    .exact⟨J,h1,λj ay=>ab j Aw⟩
    .exact absurd hw J
   .exact .inl (ZA hw)
 clear al ao a8;rintro f S bg ⟨m5,a8,ax⟩;have al:=m5.obj Aw y3;have ao:=m5.obj Aw AW;have bC:=m5.ext bo (λi U e=>Aw);refine aa ?_;apply I_<;>intro g1;rotate_left
 .have mw:f=o.check m:=by
   rcases ax with ⟨_,h⟩ | ⟨h,_⟩
   .exact h
   .exact absurd h g1
  refine aa ?_;intro bp gJ bS;refine aa ?_;exact⟨by rw[mw],gJ.ext bC Aw⟩
 have c9:(o.data m).cJ=0/\∀j,j<m.procs.length->(ja m j).1=0:=by
  rcases ax with ⟨h,_⟩ | ⟨_,h⟩
  .exact absurd g1 h
  .exact h
 obtain⟨bb,lb⟩:=c9;have Kp:=Jh bb;have sZ:m.procs.length<=6:=by
  apply Classical.byContradiction;intro aw
  have:=JA (i:=6) Aw (lb 6 Aw)
  omega
 have qk:wj m:=⟨Aw,Aw,Aw,λp au=>by
  obtain⟨j,ay,rfl⟩:=List.mem_iff_getElem.1 au
  have:=TC (FD ay (lb j ay)).2.1
  omega⟩
 have r9:=TD lb;have mw:o.check m=if (nh m).cJ≠0 then nh m else qt m:=by rw[o.check,if_neg (by simpa using bb)]
 clear a8;refine aa ?_;refine J_ (asG _ m bg (aL.ext bC) qk) ?_;rintro _ bp ⟨rfl,aC⟩;replace al:=aC.obj al;replace ao:=aC.obj ao;have b5:=bC.trans aC;refine aa ?_;apply I_<;>intro g2
 .rw[if_pos (.inl Aw)] at r9;rw[r9,if_pos (show(11:Int)≠0 by decide)] at mw;refine aa ?_;intro bH dz b3;refine aa ?_;exact⟨by rw[mw];rfl,dz.ext b5 Aw⟩
 refine aa ?_;apply I_<;>intro g3
 .rw[if_pos (.inr Aw)] at r9;rw[r9,if_pos (show(11:Int)≠0 by decide)] at mw;refine aa ?_;intro bH dz b3;refine aa ?_;exact⟨by rw[mw];rfl,dz.ext b5 Aw⟩
 rw[if_neg Aw] at r9;rw[r9,if_neg (by simp[vg])] at mw;have al9:=al;have ame:=ao;refine aa ?_;refine L_ 8 m.props.length [1,2] (λ_:Unit=>[]) () (λk _ w'=>Ext bp w'/\∀j,j<k->od m j=0) a6 a6 ⟨Ext.refl _,λj h=>absurd h (E3 _)⟩ ?_;clear al ao;rintro k _ j3 bH hk ⟨bc,bB⟩;have al:=bc.obj al9;have ao:=bc.obj ame;have cL:=b5.trans bc;refine aa ?_;apply I_<;>intro g4
 .have a1:k<m.props.length:=Aw
  have abn:k<=8:=by
   apply Classical.byContradiction;intro aw
   have:=ajA (m:=m) (i:=8) Aw (bB 8 Aw)
   omega
  refine aa ?_;refine J_ (asI _ m k bH (aL.ext cL) aG a1 abn Kp sZ) ?_;rintro _ cB ⟨rfl,bt⟩;replace al:=bt.obj al;replace ao:=bt.obj ao;refine aa ?_;apply I_<;>intro g5;rotate_left
  .rw[ad5 a1 bB g5] at mw;refine aa ?_;intro cD gA cG;refine aa ?_;exact⟨by rw[mw];rfl,gA.ext (cL.trans bt) Aw⟩
  .refine aa ?_;refine⟨a1,aJ,(),trivial,bc.trans bt,λj ay=>?_⟩;by_cases hj:j=k
   .subst hj;simpa using g5
   .exact bB j Aw
 .rw[TG λj ay=>bB j Aw] at mw;refine aa ?_;intro cB ji cF;refine aa ?_;exact⟨by rw[mw];rfl,ji.ext cL Aw⟩
end Go.Proofs.R
namespace ba
open Go Go.RowKit
def vY(l:C_ ByteArray):C_ (ByteArray×B_):=l.map λx=>(x,.bool true)
theorem atx(l:C_ ByteArray)(x:ByteArray):((vY l).find? (λp=>decide (x=p.1))).map (·.2)=if x∈l then some (.bool true) else none:=by
 induction l with
 | nil=>rfl
 | cons y l fq =>
  simp only[vY,List.map_cons,List.find?_cons,List.mem_cons];by_cases h:x=y
  .simp[h]
  .simp only[h,decide_false,false_or];exact fq
structure Cg(es:Array MapEntry)(c:Nat)(L:List ByteArray):Prop where
 Bx:∃l,iV Value.string es.toList (vY l)/\∀x,x∈l↔x∈L
 born:∀e∈es.toList,e.born<c
 nodup:(es.toList.map (·.born)).Nodup
theorem iV.mem{l:C_ ByteArray}:∀{es:C_ MapEntry},iV Value.string es (vY l)->∀e∈es,∃x∈l,e.key = .string x/\e.val = .bool true:=by
 induction l with
 | nil=>intro es h e he;cases es with | nil=>cases he | cons _ _=>simp[iV,vY] at h
 | cons y l fq =>
  intro es h e he;cases es with
  | nil=>cases he
  | cons f es =>
   simp only[iV,vY,List.map_cons,List.cons.injEq,Prod.mk.injEq] at h;rcases List.mem_cons.1 he with rfl | he
   .exact⟨y,CC,h.1.1,h.1.2⟩
   .obtain⟨x,ah,J⟩:=fq (es:=es) h.2 e he;exact⟨x,by simp[ah],J⟩
theorem iV.Tp{l:C_ ByteArray}:∀{es:C_ MapEntry},iV Value.string es (vY l)->∀x∈l,∃e∈es,e.key = .string x:=by
 induction l with
 | nil=>intro es h x ah;cases ah
 | cons y l fq =>
  intro es h x ah;cases es with
  | nil=>simp[iV,vY] at h
  | cons f es =>
   simp only[iV,vY,List.map_cons,List.cons.injEq,Prod.mk.injEq] at h;rcases List.mem_cons.1 ah with rfl | ah
   .exact⟨f,CC,h.1.1⟩
   .obtain⟨e,he,J⟩:=fq (es:=es) h.2 x ah;exact⟨e,by simp[he],J⟩
def Cg.mem{es:Array MapEntry}{c:Nat}{L:C_ ByteArray}(h:Cg es c L):∀e∈es.toList,∃x∈L,e.key = .string x/\e.val = .bool true:=λe he=>by
 obtain⟨l,h1,J⟩:=h.Bx;obtain⟨x,ah,ab⟩:=h1.mem e he;exact⟨x,(J x).1 ah,ab⟩
def Cg.Tp{es:Array MapEntry}{c:Nat}{L:C_ ByteArray}(h:Cg es c L):∀x∈L,∃e∈es.toList,e.key = .string x:=λx ah=>by
 obtain⟨l,h1,J⟩:=h.Bx;exact h1.Tp x ((J x).2 ah)
theorem P6{d:TypeDesc}{k:B_}:∀{es:C_ MapEntry} {i j:Nat} {v:B_},Instr.findNow d k es i=some (some (j,v))->i<=j/\∃e,es[j - i]? = some e/\Instr.sameNow d k e.key=some true
 | [],i,j,v,h=>by simp[Instr.findNow] at h
 | e :: es,i,j,v,h=>by
  unfold Instr.findNow at h;split at h
  .rename_i aj;injection h with h;injection h with h;injection h with h1 J
   subst h1;exact⟨E1 _,e,CC,aj⟩
  .obtain⟨h1,e',J,ab⟩:=P6 h;refine⟨Aw,e',?_,ab⟩;rw[show j - i=(j - (i+1))+1 from Aw,List.getElem?_cons_succ];exact J
  .cases h
def ap3{es:Array MapEntry}{j:Nat}{e:MapEntry}{f:MapEntry->MapEntry}(ay:es[j]? = some e)(ax:f e=e):es.modify j f=es:=by
 apply Array.ext_getElem?;intro i;rw[Array.getElem?_modify];by_cases h:j=i
 .subst h;rw[if_pos rfl,ay,AG3,ax]
 .rw[if_neg h]
def gl(w:A_)(b:Nat)(L:C_ ByteArray):Prop := ∃es c,w.heap[b]? = some (.map es c)/\Cg es c L
theorem gl.of{w w':A_}{b:Nat}{L:C_ ByteArray}(h:gl w b L)(e:w'.heap[b]? = w.heap[b]?):gl w' b L:=let ⟨es,c,h1,J⟩:=h; ⟨es,c,e.trans h1,J⟩
def gl.lt{w:A_}{b:Nat}{L:C_ ByteArray}(h:gl w b L):b<w.heap.size:=let ⟨_,_,h1,_⟩:=h;cq h1
theorem gl.ext{w w':A_}{b:Nat}{L:C_ ByteArray}(h:gl w b L)(e:Ext w w'):gl w' b L:=h.of (e.heap h.lt)
def gl.wr{w w':A_}{b k:Nat}{L:C_ ByteArray}(h:gl w b L)(e:dw k w w')(hk:b≠k):gl w' b L:=h.of (e.block b hk)
def gl.jG{w:A_}{b:Nat}{L nS:C_ ByteArray}(h:gl w b L)(e:∀x,x∈L↔x∈nS):gl w b nS:=by
 obtain⟨es,c,h1,⟨⟨l,J,ab⟩,aF,a7⟩⟩:=h;exact⟨es,c,h1,⟨⟨l,J,λx=>(ab x).trans (e x)⟩,aF,a7⟩⟩
def gl.empty{w:A_}{b:Nat}(h:w.heap[b]? = some (.map #[] 0)):gl w b []:=⟨_,_,h,⟨⟨[],rfl,λ_=>Iff.rfl⟩,λe he=>by simp at he,CC⟩⟩
def gl.look{w:A_}{b:Nat}{L:C_ ByteArray}(h:gl w b L)(x:ByteArray):∃es r,sv w (.map (some b)) es/\Instr.findNow .string (.string x) es.toList 0=some r/\nL (.bool false) false r = .bool (decide (x∈L)):=by
 obtain⟨es,c,h1,⟨⟨l,J,ab⟩,_,_⟩⟩:=h;obtain⟨r,lg,jS⟩:=AF No x es.toList _ 0 J;rw[atx] at jS;refine⟨es,r,.inr ⟨b,c,rfl,h1⟩,lg,?_⟩;by_cases ah:x∈L
 .rw[if_pos ((ab x).2 ah)] at jS;simp[nL,jS,ah]
 .rw[if_neg (λh=>ah ((ab x).1 h))] at jS;simp[nL,jS,ah]
theorem gl.put{w:A_}{b:Nat}{L:C_ ByteArray}(h:gl w b L)(x:ByteArray):∃es c q,w.heap[b]? = some (.map es c)/\Instr.findNow .string (.string x) es.toList 0=some q /\
  ∀w':A_,w'.heap[b]? = some (s8 es c (.string x) (.bool true) q)->gl w' b (L++[x]):=by
 obtain⟨es,c,h1,hm⟩:=h;obtain⟨l,J,ab⟩:=hm.Bx;obtain⟨r,lg,jS⟩:=AF No x es.toList _ 0 J;refine⟨es,c,r,h1,lg,λw' hw=>?_⟩;cases r with
 | none =>
  refine⟨_,_,hw,⟨⟨l++[x],?_,λy=>?_⟩,?_,?_⟩⟩
  .have:=iV.push J x (.bool true) c
   simpa[vY] using this
  .simp[ab y]
  .intro e he;simp only[Array.toList_push,List.mem_append,List.mem_singleton] at he;rcases he with he | rfl
   .have:=hm.born e he;omega
   .show c<c+1;omega
  .simp only[Array.toList_push,List.map_append,List.map_cons,List.map_nil];rw[AK4];refine⟨hm.nodup,CC,λa aY fV Dg=>?_⟩;obtain⟨e,he,rfl⟩:=List.mem_map.1 aY;simp only[List.mem_singleton] at Dg
   have:=hm.born e he
   omega
 | some SU =>
  obtain⟨j,v⟩:=SU;obtain⟨_,e,he,aj⟩:=P6 lg;have o8:e∈es.toList:=List.mem_of_getElem? he;obtain⟨y,bF,hk,aH⟩:=hm.mem e o8;have aoG:x=y:=by rw[hk,No] at aj;simpa using aj
  subst aoG;have aol:es.modify j (λe=>{ e with key:=.string x,val:=.bool true })=es:=ap3 (e:=e) (by simpa using he) (by cases e;simp only at hk aH;subst hk aH;rfl);have ov:w'.heap[b]? = some (.map es c):=by rw[hw];show some (Obj.map (es.modify j _) c)=_;rw[aol]
  exact⟨es,c,ov,⟨⟨l,J,λz=>by rw[ab z];simp;rintro rfl;exact bF⟩,hm.born,hm.nodup⟩⟩
def oL(w:A_)(r b:Nat)(L D:C_ ByteArray)(n:Nat)(cur:H_ ByteArray):Prop :=
 ∃es c since seen bz,w.heap[b]? = some (.map es c)/\Cg es c L/\w.heap[r]? = some (.mapIter (some b) since seen bz)/\(∀x∈es.toList,x.born<since)/\since<=bz/\since<=c/\(leftOf es seen).size=n /\
  (∀e∈es.toList,seen.contains e.born=true->∃x∈D,e.key = .string x)/\(∀x∈D,x∈L)/\(∀x,cur=some x->∃(Uh:Array Nat) (e:MapEntry),bz=c/\seen=Uh.push e.born/\e∈es.toList/\e.key = .string x/\e.val = .bool true)
theorem oL.of{w w':A_}{r b:Nat}{L D:C_ ByteArray}{n:Nat}{cur:H_ ByteArray}(h:oL w r b L D n cur)(bG:w'.heap[b]? = w.heap[b]?)(aD:w'.heap[r]? = w.heap[r]?):oL w' r b L D n cur :=
 let ⟨es,c,since,seen,bz,h1,J,ab,aF⟩:=h; ⟨es,c,since,seen,bz,bG.trans h1,J,aD.trans ab,aF⟩
def oL.sub{w:A_}{r b:Nat}{L D:C_ ByteArray}{n:Nat}{cur:H_ ByteArray}(h:oL w r b L D n cur):∀x∈D,x∈L:=let ⟨_,_,_,_,_,_,_,_,_,_,_,_,_,J,_⟩:=h;J
def oL.ne{w:A_}{r b:Nat}{L D:C_ ByteArray}{n:Nat}{cur:H_ ByteArray}(h:oL w r b L D n cur):r≠b:=by
 obtain⟨es,c,since,seen,bz,h1,J,ab,aF⟩:=h;intro e;rw[e,h1] at ab;cases ab
def oL.lt{w:A_}{r b:Nat}{L D:C_ ByteArray}{n:Nat}{cur:H_ ByteArray}(h:oL w r b L D n cur):r<w.heap.size:=by
 obtain⟨es,c,since,seen,bz,h1,J,ab,aF⟩:=h;exact cq ab
def oL.wr{w w':A_}{r b k:Nat}{L D:C_ ByteArray}{n:Nat}{cur:H_ ByteArray}(h:oL w r b L D n cur)(e:dw k w w')(h1:b≠k)(J:r≠k):oL w' r b L D n cur:=h.of (e.block b h1) (e.block r J)
def avd(k:Nat)(w:A_):dw k w w.drew:=⟨rfl,rfl,rfl,rfl,λ_ _=>rfl⟩
section
variable{P:Program}{cO:Value->World->Prop}{S:Fr}{w:World}{KW:World->Prop}{bl:Value->Prop}
def AA2{b:Nat}{L:C_ ByteArray}{x:ByteArray}{t}(h:gl w b L)(hk:bl (.bool (decide (x∈L)))):EM .string (.bool false) false (.map (some b)) (.string x) w bl t:=by
 obtain⟨es,r,h1,J,ab⟩:=h.look x;exact _m h1 J (by rw[ab];exact hk)
def _x{b:Nat}{L:C_ ByteArray}{x:ByteArray}{t}(h:gl w b L)(hk:∀w1,dw b w w1->gl w1 b (L++[x])->KW w1):Ch .string (.map (some b)) (.string x) (.bool true) w KW t:=by
 obtain⟨es,c,q,h1,J,ab⟩:=h.put x;exact _u h1 J (hk _ (dw.fJ w b _) (ab _ (Eh (cq h1))))
def AC1{b:Nat}{L:C_ ByteArray}{x:G_}{h5 k e ty:F_}{t}(ah:bu S x = .map (some b))(aB:P.underlying h5=some (.map k e))(h:gl w b L)
  (hk:∀w1 r n,w.heap.size<=r->Ext w w1->oL w1 r b L [] n none->cO (.pointer (some ⟨r,0,none⟩)) w1):uW P (.range h5 x) ty S w cO t:=by
 obtain⟨es,c,h1,J⟩:=h;have ih:=run_range_map (P:=P) w h5 k e b es c aB h1;refine _G (v:=.pointer (some ⟨w.heap.size,0,none⟩)) (w':=w.alloc (.mapIter (some b) c #[] c)) (by simp[execOp,ah,ih,Result.andThen]) ?_;refine hk _ _ _ (E1 _) ((Ext.refl w).alloc _) ⟨es,c,c,#[],c,heap_alloc_old h1,J,heap_alloc_new w _,J.born,E1 _,E1 _,rfl,?_,?_,?_⟩
 .intro e _ h;simp at h
 .intro x ah;cases ah
 .intro x ah;cases ah
def AC2{r b n:Nat}{L D:C_ ByteArray}{cur:H_ ByteArray}{x:G_}{ty:F_}{t}(ah:bu S x = .pointer (some ⟨r,0,none⟩))(h:oL w r b L D n cur)
  (ad:(∀y∈L,y∈D)->cO (.tuple #[.bool false]) w)
  (h1:∀y w1 iO,y∈L->iO<n->dw r w w1->oL w1 r b L (D++[y]) iO (some y)->cO (.tuple #[.bool true,.string y,.bool true]) w1):uW P (.next x false) ty S w cO t:=by
 have cv:=h.ne;obtain⟨es,c,since,seen,bz,ak,hm,aT,hold,mA,Sa,aw,gv,Z5,_⟩:=h;rcases run_next_at (P:=P) w ty r b since bz seen es c aT ak hold mA with ⟨bB,ih⟩ | ⟨e,he,w1,QM,ih⟩
 .refine _G (v:=.tuple #[.bool false]) (w':=w) (by simp[execOp,ah,ih,Result.andThen]) (ad λy bF=>?_);obtain⟨e,he,hk⟩:=hm.Tp y bF;obtain⟨z,ab9,s4⟩:=gv e he (all_seen es seen bB e he);rw[hk] at s4;injection s4 with s4
  rw[s4];exact ab9
 .obtain⟨Rk,vt⟩:=mem_left he;obtain⟨y,bF,hk,aH⟩:=hm.mem e Rk;have iF:dw r w w1:=by
   rcases QM with rfl | rfl
   .exact dw.refl _ _
   .exact avd r w
  have dt:w1.heap.size=w.heap.size:=iF.size;have hM:r<w1.heap.size:=by rw[dt];exact cq aT
  have R9:Go.ChangeMaps.setBlock w1 r (.mapIter (some b) since (seen.push e.born) c)=ba.fJ w1 r (.mapIter (some b) since (seen.push e.born) c):=rfl;rw[R9] at ih;refine _G (v:=.tuple #[.bool true,e.key,e.val]) (w':=fJ w1 r (.mapIter (some b) since (seen.push e.born) c)) (by simp[execOp,ah,ih,Result.andThen]) ?_;rw[hk,aH];refine h1 y _ _ bF (Nat.lt_of_lt_of_eq (left_shrinks es seen e he) aw) (iF.trans (dw.fJ _ _ _)) ⟨es,c,since,seen.push e.born,c,?_,hm,Eh hM,hold,Sa,Sa,rfl,λf ax an=>?_,λz bB=>?_,λz bB=>?_⟩
  .rw[Uk (Ne.symm cv)];rcases QM with rfl | rfl<;>exact ak
  .rw[contains_push] at an;rcases Bool.or_eq_true_iff.1 an with an | an
   .obtain⟨x,pa,hb⟩:=gv f ax an;exact⟨x,by simp[pa],hb⟩
   .have q1:f.born=e.born:=by simpa using an
    have a7:=find_born f es.toList hm.nodup ax;rw[q1,find_born e es.toList hm.nodup Rk] at a7;injection a7 with a7
    have:f=e:=a7.symm
    subst this;exact⟨y,CC,hk⟩
  .rcases List.mem_append.1 bB with bB | bB
   .exact Z5 z bB
   .simp only[List.mem_singleton] at bB;subst bB;exact bF
  .injection bB with bB
   subst bB;exact⟨seen,e,rfl,rfl,Rk,hk,aH⟩
def AC3{r b n:Nat}{L D:C_ ByteArray}{y:ByteArray}{x:G_}{ty:F_}{t}(ah:bu S x = .pointer (some ⟨r,0,none⟩))(h:oL w r b L D n (some y))
  (hk:cO (.tuple #[.string y,.bool true]) w):uW P (.entry x) ty S w cO t:=by
 obtain⟨es,c,since,seen,bz,ak,hm,aT,hold,mA,Sa,aw,gv,Z5,an⟩:=h;obtain⟨Uh,e,rfl,rfl,he,A6,b8⟩:=an y rfl;have ih:(Instr.entry (.pointer (some ⟨r,0,none⟩))).run P w = .ok (.tuple #[e.key,e.val]) w:=run_entry_at w r b since Uh es bz e aT ak he hm.nodup;refine _G (v:=.tuple #[e.key,e.val]) (w':=w) (by simp[execOp,ah,ih,Result.andThen]) ?_;rw[A6,b8];exact hk
end
end ba
namespace Go.Proofs.R
open Go Go.RowKit ba
def x6(f:o.tq):C_ PanicEntry:=[{ v:=.iface T.nW (.agg #[.int .i64 f.cJ,.int .i64 f.part,.int .i64 f.item,.int .i64 f.sub]),recovered:=false }]
def sj(e p i s:Int)(w:A_):rM Tryz.prog F.a #[.I e,.I p,.I i,.I s] w (λ_ w'=>e=0/\w'=w) (λc w'=>e≠0/\c=x6 ⟨e,p,i,s⟩/\w'=w):=by
 refine _p l3 E.a Cv (args:=[_,_,_,_]) (Nat.le_of_ble_eq_true rfl) ?_;dsimp only[C.a];refine oR ?_;refine aa ?_;refine I_ (λg=>?_) (λg=>?_)
 .refine aa ?_;exact⟨g,aJ⟩
 .refine aa ?_;exact⟨g,aJ,aJ⟩
def NJ(b:Nat)(L:C_ ByteArray)(x:ByteArray)(p i:Int)(w:A_)(h:gl w b L):rM Tryz.prog F.i #[.map (some b),.string x,.I p,.I i] w
  (λ_ w' => ¬x∈L/\dw b w w'/\gl w' b (L++[x])) (λc w'=>x∈L/\c=x6 ⟨7,p,i,0⟩/\w'=w):=by
 refine _p l3 E.i Cv (args:=[_,_,_,_]) (Nat.le_of_ble_eq_true rfl) ?_;dsimp only[C.i];refine oR ?_;refine aa ?_;refine AA2 h ?_;refine aa ?_;refine I_ (λg=>?_) (λg=>?_)
 .refine aa ?_;refine W_ (sj 7 p i 0 w) ?_ ?_
  .rintro _ _ ⟨ad,_⟩;exact absurd ad BS
  .rintro c _ ⟨_,rfl,rfl⟩;refine aa ?_;exact⟨g,aJ,aJ⟩
 .refine aa ?_;refine _x h λw1 hw h1=>?_;refine aa ?_;exact⟨g,hw,h1⟩
end Go.Proofs.R
namespace Go.Proofs.R
open Go Go.RowKit ba o
structure kN(w0 w:World)(cz bx:Nat)(cs:List Value)(w':World)(L:List ByteArray):Prop where
 ext:Ext w0 w'
 mod:Mod (λk=>k=cz) w w'
 box:w'.heap[bx]? = some (.cells cs.toArray T.f)
 set:gl w' cz L
 low:w0.heap.size<=cz
 ne:bx≠cz
section
variable{w0 w w' bO:World}{cz bx:Nat}{cs:List Value}{L nS:List ByteArray}
theorem kN.then(h:kN w0 w cz bx cs w' L)(he:Ext w' bO):kN w0 w cz bx cs bO L:=⟨h.ext.trans he,h.mod.trans he.mod,he.obj h.box,h.set.ext he,h.low,h.ne⟩
def kN.wr(h:kN w0 w cz bx cs w' L)(hw:dw cz w' bO)(aj:gl bO cz nS):kN w0 w cz bx cs bO nS:=⟨hw.ext h.ext h.low,h.mod.trans (hw.mod rfl),hw.obj h.box h.ne,aj,h.low,h.ne⟩
def kN.jG(h:kN w0 w cz bx cs w' L)(e:L=nS):kN w0 w cz bx cs w' nS:=e ▸ h
end
def akX{w0:A_}(cs:C_ B_)(m:o.Model)(cz:Nat)(w:A_)(h:dh w0 cs m)(ej:Ext w0 w)(qi:w0.heap.size<=cz)(aS:gQ w0)(aj:gl w cz []) :
  rM Tryz.prog F.tE #[.agg cs.toArray,.map (some cz)] w (λ_ w'=>(o.data m).cJ=0/\Ext w0 w'/\Mod (λk=>k=cz) w w'/\gl w' cz (oz m m.aA.length))
   (λc w'=>(o.data m).cJ≠0/\c=x6 (o.data m)/\Ext w0 w'/\Mod (λk=>k=cz) w w'):=by
 obtain⟨bZ,bz,bN,c1,bT,c2,bW,bw,b1,bD,rfl,ad,h1,J,ab,aF,eB,dD,dO,dU,eg⟩:=h.form;refine _p l3 E.tE Cv (args:=[_,_]) (Nat.le_of_ble_eq_true rfl) ?_;dsimp only[C.tE];refine oR ?_;refine aa ?_;intro w1 bx cN af al;have st1:kN w0 w cz bx _ w1 []:=⟨ej.trans af,af.mod,al,aj.ext af,qi,by have:=aj.lt;omega⟩;clear aj;refine aa ?_;refine J_ (atq _ m.scalars w1 (aS.ext st1.ext) (ad.ext st1.ext)) ?_;rintro _ az ⟨rfl,ai⟩;replace st1:=st1.then ai;clear al;refine aa ?_;refine W_ (sj (o.scalars m.scalars).2 1 (o.scalars m.scalars).1 0 az) ?_ ?_;rotate_left
 .rintro c _ ⟨g,rfl,rfl⟩;refine aa ?_;rw[YT g];exact⟨g,rfl,st1.ext,st1.mod⟩
 rintro _ _ ⟨b7,rfl⟩;have al:=st1.box;refine aa ?_;refine L_ 24 m.scalars.length [1,2,22,23] (λ_:Unit=>[]) () (λk _ w'=>kN w0 w cz bx _ w' ((m.scalars.take k).map (·.name))) a6 a6 (st1.jG CC) ?_;clear al ai st1;rintro k _ S aM hk mE;have al:=mE.box;have aO:=mE.ext;refine aa ?_;apply I_<;>intro g1
 .have a1:k<m.scalars.length:=Aw
  obtain⟨a,rfl⟩:=ad.addr;refine aa ?_;intro aR bV eX aq a8;have lO:=mE.then aq;refine aa ?_;refine _x lO.set λbg hw rf=>?_;refine aa ?_;exact⟨a1,aJ,(),trivial,(lO.wr hw rf).jG (Eo _ _ a1).symm⟩
 replace mE:=mE.jG (show _=ta m 0 by rw[MT Aw];simp);refine aa ?_;refine J_ (afQ _ _ m.vars m.scalars 12 aM (aS.ext aO) (h1.ext aO) (ad.ext aO)) ?_;rintro _ aR ⟨rfl,aq⟩;replace mE:=mE.then aq;clear al aO;have al:=mE.box;rw[auP];refine aa ?_;refine L_ 43 m.vars.length [1,2,4,5,41,42] (λ_:Unit=>[]) () (λk _ w'=>kN w0 w cz bx _ w' (ta m k)/\∀j,j<k->ka m j=0) a6 a6 ⟨mE,λj h=>absurd h (E3 _)⟩ ?_;clear al mE aq;rintro k _ aZ bg hk ⟨iK,bB⟩;have al:=iK.box;have bC:=iK.ext;refine aa ?_;apply I_<;>intro g1
 .have a1:k<m.vars.length:=Aw
  obtain⟨a,rfl⟩:=h1.addr;have gm:=DW (f:=λx:o.Var=>x.name) a1;refine aa ?_;intro Ex b9 lZ oj qj;refine dV ?_;intro bp gJ bS;have aC:=gJ.ext oj lZ;have h4:=iK.then aC;replace al:=h4.box;clear qj oj;refine dV ?_;refine R_ [1,2,4,5,8,9,41,42,43] (λ_:Unit=>[]) (λ_ w'=>w'=bp/\pr m k=0) ?_ ?_
  .refine aa ?_;apply I_<;>intro g2
   .refine aa ?_;refine W_ (sj (o.first m.vars.length (pr m)).2 2 k 0 bp) ?_ ?_
    .rintro _ _ ⟨hv,rfl⟩;refine aa ?_;exact⟨(),trivial,aJ,w2 hv k a1⟩
    .rintro c _ ⟨hv,rfl,rfl⟩;obtain⟨i,U,bG,aD⟩:=ZF hv;obtain rfl:k=i:=Aw
     rw[aD] at hv;have lE:ka m k=pr m k:=by unfold ka;rw[if_pos hv]
     have bb:=Ji b7 a1 bB (by rw[lE];exact hv);rw[lE] at bb;refine aa ?_;rw[bb,aD];exact⟨hv,aJ,h4.ext,h4.mod⟩
   .refine aa ?_;refine⟨(),trivial,aJ,?_⟩;apply Classical.byContradiction;intro cv;apply g2;rw[jM a1 (λj ay=>NT (bB j ay)) cv]
  rintro _ j3 _ ⟨rfl,iE⟩;refine aa ?_;refine W_ (NJ cz (ta m k) m.vars[k].name 2 k _ h4.set) ?_ ?_
  .rintro _ bH ⟨aw,dz,kB⟩;refine aa ?_;refine⟨a1,aJ,(),trivial,(h4.wr dz kB).jG (by simp only[ta,BC];rw[Eo (λx:o.Var=>x.name) _ a1,NC]),λj ay=>?_⟩;by_cases hj:j=k
   .subst hj;unfold ka;rw[if_neg (by simpa using iE),gm,if_neg aw]
   .exact bB j Aw
  .rintro c _ ⟨aw,rfl,rfl⟩;have lE:ka m k=7:=by unfold ka;rw[if_neg (by simpa using iE),gm,if_pos aw]
   have bb:=Ji b7 a1 bB (by rw[lE];decide);rw[lE] at bb;refine aa ?_;rw[bb];exact⟨(show(7:Int)≠0 by decide),aJ,h4.ext,h4.mod⟩
 have my:m.vars.length<=k:=Aw
 have nF:∀j,j<m.vars.length->ka m j=0:=λj ay=>bB j Aw;replace iK:=iK.jG (show _=oz m 0 by simp only[oz,ta,BC,BB];rw[MT my];simp);refine aa ?_;refine J_ (aiw _ _ m.aA m.scalars bg (aS.ext bC) (J.ext bC) (ad.ext bC)) ?_;rintro _ bp ⟨rfl,aC⟩;replace iK:=iK.then aC;clear al bC;have al:=iK.box;rw[aiv];refine aa ?_;refine L_ 71 m.aA.length [1,2,4,5,69,70] (λ_:Unit=>[]) () (λk _ w'=>kN w0 w cz bx _ w' (oz m k)/\∀j,j<k->k7 m j=0) a6 a6 ⟨iK,λj h=>absurd h (E3 _)⟩ ?_;clear al iK aC;rintro k _ aZ bH hk ⟨jU,bB⟩;have al:=jU.box;have cL:=jU.ext;refine aa ?_;apply I_<;>intro g1
 .have a1:k<m.aA.length:=Aw
  obtain⟨a,rfl⟩:=J.addr;have gm:=DW (f:=λx:ea=>x.name) a1;refine aa ?_;intro Ex b9 lZ oj qj;refine dV ?_;intro bp gJ bS;have aC:=gJ.ext oj lZ;have h4:=jU.then aC;replace al:=h4.box;clear qj oj;refine dV ?_;refine R_ [1,2,4,5,10,11,69,70,71] (λ_:Unit=>[]) (λ_ w'=>w'=bp/\oV m k=0) ?_ ?_
  .refine aa ?_;apply I_<;>intro g2
   .refine aa ?_;refine W_ (sj (o.first m.aA.length (oV m)).2 3 k 0 bp) ?_ ?_
    .rintro _ _ ⟨hv,rfl⟩;refine aa ?_;exact⟨(),trivial,aJ,w2 hv k a1⟩
    .rintro c _ ⟨hv,rfl,rfl⟩;obtain⟨i,U,bG,aD⟩:=ZF hv;obtain rfl:k=i:=Aw
     rw[aD] at hv;have lE:k7 m k=oV m k:=by unfold k7;rw[if_pos hv]
     have bb:=Jg b7 nF a1 bB (by rw[lE];exact hv);rw[lE] at bb;refine aa ?_;rw[bb,aD];exact⟨hv,aJ,h4.ext,h4.mod⟩
   .refine aa ?_;refine⟨(),trivial,aJ,?_⟩;apply Classical.byContradiction;intro cv;apply g2;rw[jM a1 (λj ay=>I5 (bB j ay)) cv]
  rintro _ j3 _ ⟨rfl,iE⟩;refine aa ?_;refine W_ (NJ cz (oz m k) m.aA[k].name 3 k _ h4.set) ?_ ?_
  .rintro _ bH ⟨aw,dz,kB⟩;refine aa ?_;refine⟨a1,aJ,(),trivial,(h4.wr dz kB).jG (by simp only[oz,BB];rw[Eo (λx:ea=>x.name) _ a1,NC]),λj ay=>?_⟩;by_cases hj:j=k
   .subst hj;unfold k7;rw[if_neg (by simpa using iE),gm,if_neg aw]
   .exact bB j Aw
  .rintro c _ ⟨aw,rfl,rfl⟩;have lE:k7 m k=7:=by unfold k7;rw[if_neg (by simpa using iE),gm,if_pos aw]
   have bb:=Jg b7 nF a1 bB (by rw[lE];decide);rw[lE] at bb;refine aa ?_;rw[bb];exact⟨(show(7:Int)≠0 by decide),aJ,h4.ext,h4.mod⟩
 have r5:m.aA.length<=k:=Aw
 refine aa ?_;refine⟨by rw[YR b7 nF λj ay=>bB j Aw];rfl,jU.ext,jU.mod,(jU.jG ?_).set⟩;simp only[oz,BB];rw[MT r5,MT (E1 _)]
end Go.Proofs.R
namespace Go.Proofs.R
open Go Go.RowKit ba o
def kN.UO{w0 w w' bO:A_}{cz bx k:Nat}{cs:C_ B_}{L:C_ ByteArray}(h:kN w0 w cz bx cs w' L)(dt:w0.heap.size<=w.heap.size)(hw:dw k w' bO)(hk:w.heap.size<=k)(h1:bx≠k)(J:cz≠k):kN w0 w cz bx cs bO L :=
 ⟨hw.ext h.ext (Ns dt hk),h.mod.then (hw.mod (A:=λj=>j=k) rfl) λi U e=>absurd e Aw,hw.obj h.box h1,h.set.wr hw J,h.low,h.ne⟩
def arE{w0:A_}(cs:C_ B_)(m:o.Model)(cz:Nat)(w:A_)(h:dh w0 cs m)(aG:m.cr)(ej:Ext w0 w)(qi:w0.heap.size<=cz)(aS:gQ w0)(bb:(o.data m).cJ=0)(aj:gl w cz (oz m m.aA.length)) :
  rM Tryz.prog F.nY #[.agg cs.toArray,.map (some cz)] w (λ_ w'=>(nh m).cJ=0/\Ext w0 w'/\Mod (λk=>k=cz) w w'/\gl w' cz (jE m m.procs.length))
   (λc w'=>(nh m).cJ≠0/\c=x6 (nh m)/\Ext w0 w'/\Mod (λk=>k=cz) w w'):=by
 have aL:=h;obtain⟨bZ,bz,bN,c1,bT,c2,bW,bw,b1,bD,rfl,ad,h1,J,ab,aF,eB,dD,dO,dU,eg⟩:=h.form;have dt:=ej.size;refine _p l3 E.nY Cv (args:=[_,_]) (Nat.le_of_ble_eq_true rfl) ?_;dsimp only[C.nY];refine oR ?_;refine aa ?_;intro w1 bx cN af al;have st1:kN w0 w cz bx _ w1 (oz m m.aA.length):=⟨ej.trans af,af.mod,al,aj.ext af,qi,by have:=aj.lt;omega⟩;have avn:=aj.lt;have fT:=cq al;clear aj al;refine aa ?_;refine _e λaz gM awu ai fX=>?_;replace st1:=st1.then ai;have xZ:gl az gM []:=gl.empty fX;have z0:=af.size;have z2:=xZ.lt;clear fX;refine aa ?_;refine AC1 (b:=cz) rfl (k:=T.n) (e:=T.k) Cx st1.set λaM r n aT ag o6=>?_;replace st1:=st1.then ag;replace xZ:=xZ.ext ag;have z4:=ai.size;have z5:=o6.lt;refine aa ?_;refine _L [1,2,4,20] (λ_:C_ ByteArray×Nat=>[]) ([],n) (λx w'=>kN w0 w cz bx _ w' (oz m m.aA.length)/\gl w' gM x.1/\∃cur,oL w' r cz (oz m m.aA.length) x.1 x.2 cur) (λx=>x.2) a6 ⟨st1,xZ,_,o6⟩ ?_;clear st1 xZ o6;rintro⟨D,iO⟩ S aR ⟨lO,xZ,cur,o6⟩;have al:=lO.box;refine aa ?_;refine AC2 rfl o6 (λdx=>?_) (λy bg jD bF cu e3 abf=>?_);rotate_left
 .have iK:=lO.UO dt e3 Aw Aw Aw;have ati:=xZ.wr e3 Aw;refine aa ?_;refine AC3 rfl abf ?_;refine aa ?_;refine _x ati λbp gJ atj=>?_;have h4:=iK.UO dt gJ Aw Aw Aw;have anj:=abf.wr gJ Aw Aw;refine aa ?_;exact⟨(D++[y],jD),trivial,⟨h4,atj,_,anj⟩,cu⟩
 have km:gl aR gM (jE m 0):=xZ.jG λx=>by
  have aor:=o6.sub;simp only[jE,zB,List.take_zero,List.map_nil,List.append_nil];exact⟨λah=>aor x ah,λah=>dx x ah⟩
 clear xZ o6 dx;refine aa ?_;refine L_ 30 m.procs.length [1,2,4,28,29] (λ_:Unit=>[]) () (λk _ w'=>kN w0 w cz bx _ w' (oz m m.aA.length)/\gl w' gM (jE m k)) a6 a6 ⟨lO,km⟩ ?_;clear al lO km;rintro k _ aZ bg hk ⟨iK,km⟩;have al:=iK.box;have bC:=iK.ext;refine aa ?_;apply I_<;>intro g1
 .have a1:k<m.procs.length:=Aw
  obtain⟨a,rfl⟩:=ab.addr;obtain⟨_,bY,dQ,au,eU,c5⟩:=ab.at k a1;obtain⟨ei,eZ,rfl,fa⟩:=eU.form;obtain⟨pj,oU,rfl,lc⟩:=c5.form;replace au:=au.ext bC;refine aa ?_;intro bp ia hi aC b3;have h4:=iK.then aC;replace km:=km.ext aC;refine aa ?_;refine _x km λbH dz atn=>?_;have jU:=h4.UO dt dz Aw Aw Aw;refine aa ?_;exact⟨a1,aJ,(),trivial,jU,by simp only[jE,zB];rw[Eo (λx:dv=>x.name) _ a1,<-NC];exact atn⟩
 have ae3:∀{w'},gl w' gM (jE m k)->gl w' gM (jE m m.procs.length):=λh=>h.jG λx=>by
  simp only[jE,zB];rw[MT Aw,MT (E1 _)]
 replace km:=ae3 km;clear ae3;replace iK:=iK.jG (show _=jE m 0 by simp[jE]);refine aa ?_;refine L_ 41 m.procs.length [1,2,4,39,40] (λ_:Unit=>[]) () (λk _ w'=>kN w0 w cz bx _ w' (jE m k)/\gl w' gM (jE m m.procs.length)/\∀j,j<k->(ja m j).1=0) a6 a6 ⟨iK,km,λj h=>absurd h (E3 _)⟩ ?_;clear al bC iK km;rintro k _ j3 bp hk ⟨h4,km,bB⟩;have al:=h4.box;have b5:=h4.ext;have tk:=h4.mod.size;refine aa ?_;apply I_<;>intro g1
 .have a1:k<m.procs.length:=Aw
  obtain⟨a,rfl⟩:=ab.addr;obtain⟨kC,bY,dQ,au,eU,c5⟩:=ab.at k a1;obtain⟨ei,eZ,rfl,fa⟩:=eU.form;obtain⟨pj,oU,rfl,lc⟩:=c5.form;have pP:=aG.proc _ (E2 a1);have eL:=PY a1;replace au:=au.ext b5;refine aa ?_;intro Ex b9 lZ oj qj;refine dV ?_;intro bH dz cG;have bc:=dz.ext oj lZ;have jU:=h4.then bc;replace km:=km.ext bc;replace al:=jU.box;have ayZ:=cq cG;have Ie:=km.lt;have cL:=jU.ext;clear qj oj dz;refine aa ?_;apply I_<;>intro g2
  .have bJ:6<=k:=Aw
   rw[if_pos bJ] at eL;have hV:=Hy a1 bB (by rw[eL];decide);rw[eL] at hV;refine aa ?_;refine W_ (sj 11 4 k 0 bH) ?_ ?_
   .rintro _ _ ⟨hv,_⟩;exact absurd hv BS
   .rintro c _ ⟨_,rfl,rfl⟩;refine aa ?_;rw[hV];exact⟨(show(11:Int)≠0 by decide),aJ,cL,jU.mod⟩
  rw[if_neg Aw] at eL;refine aa ?_;intro cB bt;replace al:=bt.obj al;replace cG:=bt.obj cG;refine aa ?_;refine J_ (ae5 _ m k cB (aL.ext (cL.trans bt)) aG) ?_;rintro _ cD ⟨⟨avX,rfl,KF⟩,b0⟩;refine⟨b0,?_⟩;have mA:=KF.here;obtain⟨k1,H9,ir,jY,jn,jK,nt,sn,mG,Ez,rfl,_⟩:=mA.form;refine aa ?_;refine J_ (aru m.procs[k] _ _ (hE m k) cD (aS.ext (cL.trans (bt.trans b0))) ⟨kC,_,_,rfl,eU.ext (cL.trans (bt.trans b0)),c5.ext (cL.trans (bt.trans b0))⟩ mA (aG.hE _) pP) ?_;rintro _ et ⟨rfl,cd⟩;have Zf:=(bt.trans b0).trans cd;have BT:=jU.then Zf;replace km:=km.ext Zf;replace al:=BT.box;replace cG:=(b0.trans cd).obj cG;have ayW:=cq cG;have ayU:=km.lt;clear mA KF jU cL;have j8:=BT.ext;have eh:=ad1 m.procs[k] (hE m k) 140737488351232 λc an=>by have:=(pP.cmd c an).bL;unfold ev at this;omega
  have aoy:m.procs[k].vars.length<=140737488351232:=by have:=pP.vars;unfold ev at this;omega
  have pL:m.procs[k].c4.length<=140737488351232:=by have:=pP.c4;unfold ev at this;omega
  refine aa ?_;refine W_ (sj (ij m.procs[k] (hE m k)).2.2 4 k (16*(ij m.procs[k] (hE m k)).1+(ij m.procs[k] (hE m k)).2.1) et) ?_ ?_;rotate_left
  .rintro c _ ⟨hv,rfl,rfl⟩;rw[if_pos hv] at eL;have hV:=Hy a1 bB (by rw[eL];exact hv);rw[eL] at hV;refine aa ?_;rw[hV];exact⟨hv,aJ,j8,BT.mod⟩
  rintro _ ps ⟨hv,rfl⟩;rw[if_neg (by simpa using hv)] at eL;refine aa ?_;refine W_ (NJ cz (jE m k) m.procs[k].name 4 k ps BT.set) ?_ ?_;rotate_left
  .rintro c _ ⟨aw,rfl,rfl⟩;rw[if_pos aw] at eL;have hV:=Hy a1 bB (by rw[eL];decide);rw[eL] at hV;refine aa ?_;rw[hV];exact⟨(show(7:Int)≠0 by decide),aJ,j8,BT.mod⟩
  rintro _ ft ⟨aw,hZ,abY⟩;rw[if_neg aw] at eL;have Nz:kN w0 w cz bx _ ft (jE m (k+1)):=(BT.wr hZ abY).jG (by simp only[jE,zB];rw[Eo (λx:dv=>x.name) _ a1,NC]);replace km:=km.wr hZ Aw;replace al:=Nz.box;replace cG:=hZ.obj cG Aw;have qV:=Nz.ext;have UZ:=hZ.size;clear BT j8;refine aa ?_;refine L_ 74 m.procs[k].vars.length [1,2,4,8,9,39,40,41,72,73] (λ_:Unit=>[]) () (λj _ w'=>kN w0 w cz bx _ w' (jE m (k+1))/\gl w' gM (jE m m.procs.length)/\Ext ft w'/\∀i,i<j->rU m m.procs[k] i=0) a6 a6 ⟨Nz,km,Ext.refl _,λj h=>absurd h (E3 _)⟩ ?_;have jd:=cG;clear Nz km al cG qV;rintro j _ EX hf ay ⟨NA,km,dH,s4⟩;have al:=NA.box;have cG:=dH.obj jd;have oc:=NA.ext;refine aa ?_;apply I_<;>intro g3
  .have eT:j<m.procs[k].vars.length:=Aw
   obtain⟨cx,rfl⟩:=eU.addr;have dK:=((eU.at j eT).cells).ext oc;have gm:=DW (f:=λx:o.Var=>x.name) eT;refine aa ?_;intro ayy tG Dh aa4 QW;refine dV ?_;intro jX kD o2;have fW:=kD.ext aa4 Dh;have NB:=NA.then fW;replace km:=km.ext fW;replace al:=NB.box;clear QW aa4 kD;refine aa ?_;refine AA2 km ?_;refine aa ?_;apply I_<;>intro g4
   .have tY:rU m m.procs[k] j=7:=by unfold rU;rw[gm,if_pos g4]
    rw[jM eT s4 (by rw[tY];decide),tY,if_pos (show(7:Int)≠0 by decide)] at eL;have hV:=Hy a1 bB (by rw[eL];exact(show(7:Int)≠0 by decide));rw[eL] at hV;refine aa ?_;refine W_ (sj 7 4 k (16+j) jX) ?_ ?_
    .rintro _ _ ⟨AI,_⟩;exact absurd AI BS
    .rintro c _ ⟨_,rfl,rfl⟩;refine aa ?_;rw[hV];exact⟨(show(7:Int)≠0 by decide),aJ,NB.ext,NB.mod⟩
   .refine aa ?_;refine⟨eT,aJ,(),trivial,NB,km,dH.trans fW,λi U=>?_⟩;by_cases Dv:i=j
    .subst Dv;unfold rU;rw[gm,if_neg g4]
    .exact s4 i Aw
  .rw[qf λi U=>s4 i Aw,if_neg CC] at eL;refine aa ?_;refine⟨a1,aJ,(),trivial,NA,km,λi U=>?_⟩;by_cases Dw:i=k
   .subst Dw;rw[eL]
   .exact bB i Aw
 have vy:m.procs.length<=k:=Aw
 have lb:∀j,j<m.procs.length->(ja m j).1=0:=λj ay=>bB j Aw;have Kp:=Jh bb;have sZ:m.procs.length<=6:=by
  apply Classical.byContradiction;intro aw
  have:=JA (i:=6) Aw (lb 6 Aw)
  omega
 have qk:wj m:=⟨Aw,Aw,Aw,λp au=>by
  obtain⟨j,ay,rfl⟩:=List.mem_iff_getElem.1 au
  have:=TC (FD ay (lb j ay)).2.1
  omega⟩
 refine aa ?_;refine J_ (arx _ m bp (aL.ext b5) qk) ?_;rintro _ bH ⟨rfl,bc⟩;have jU:=h4.then bc;replace al:=jU.box;have r9:=TD lb;have R9:gl bH cz (jE m m.procs.length):=by
  have h:=jU.set;simp only[jE,zB] at h ⊢;rw[MT vy] at h;rw[MT (E1 _)];exact h
 refine aa ?_;apply I_<;>intro g2
 .rw[if_pos (.inl Aw)] at r9;refine aa ?_;refine W_ (sj 11 4 m.procs.length 0 bH) ?_ ?_
  .rintro _ _ ⟨AI,_⟩;exact absurd AI BS
  .rintro c _ ⟨_,rfl,rfl⟩;refine aa ?_;rw[r9];exact⟨(show(11:Int)≠0 by decide),aJ,jU.ext,jU.mod⟩
 refine aa ?_;apply I_<;>intro g3
 .rw[if_pos (.inr Aw)] at r9;refine aa ?_;refine W_ (sj 11 4 m.procs.length 0 bH) ?_ ?_
  .rintro _ _ ⟨AI,_⟩;exact absurd AI BS
  .rintro c _ ⟨_,rfl,rfl⟩;refine aa ?_;rw[r9];exact⟨(show(11:Int)≠0 by decide),aJ,jU.ext,jU.mod⟩
 rw[if_neg Aw] at r9;refine aa ?_;exact⟨by rw[r9];rfl,jU.ext,jU.mod,R9⟩
def arI{w0:A_}(cs:C_ B_)(m:o.Model)(cz:Nat)(w:A_)(h:dh w0 cs m)(aG:m.cr)(ej:Ext w0 w)(qi:w0.heap.size<=cz)(aS:gQ w0)(aj:gl w cz (jE m m.procs.length)) :
  rM Tryz.prog F.tF #[.agg cs.toArray,.map (some cz)] w (λ_ w'=>(qt m).cJ=0/\Ext w0 w'/\Mod (λk=>k=cz) w w')
   (λc w'=>(qt m).cJ≠0/\c=x6 (qt m)/\Ext w0 w'/\Mod (λk=>k=cz) w w'):=by
 have aL:=h;obtain⟨bZ,bz,bN,c1,bT,c2,bW,bw,b1,bD,rfl,ad,h1,J,ab,aF,eB,dD,dO,dU,eg⟩:=h.form;refine _p l3 E.tF Cv (args:=[_,_]) (Nat.le_of_ble_eq_true rfl) ?_;dsimp only[C.tF];refine oR ?_;refine aa ?_;intro w1 bx cN af al;have st1:kN w0 w cz bx _ w1 (s9 m 0):=⟨ej.trans af,af.mod,al,by have:=aj.ext af;simpa[s9] using this,qi,by have:=aj.lt;omega⟩;have avn:=aj.lt;have z0:=af.size;clear aj;refine aa ?_;refine J_ (ae5 _ m (-1) w1 (aL.ext st1.ext) aG) ?_;rintro _ az ⟨⟨avW,rfl,hn⟩,ai⟩;rw[M7 (.inl BS)] at hn;have mA:=hn.here;obtain⟨k1,H9,ir,jY,jn,jK,nt,sn,mG,Ez,rfl,_⟩:=mA.form;clear mA;have st2:=st1.then ai;clear al st1;have fT:=ai.size;refine aa ?_;intro aM cQ fD ag bn;have ze:=hn.ext ag fT;have mE:=st2.then ag;have al:=mE.box;clear hn st2;refine aa ?_;refine L_ 14 m.props.length [1,2,4,12,13] (λ_:Unit=>[]) () (λk _ w'=>kN w0 w cz bx _ w' (s9 m k)/\er w1 (λw=>gk w _ (eC m)) w'/\w'.heap[cQ]? = some (.cells (List.toArray [_,_,_,_,_,_]) T.w)/\w1.heap.size<=w'.heap.size/\∀j,j<k->od m j=0) a6 a6 ⟨mE,ze,bn,by have:=ag.size;omega,λj h=>absurd h (E3 _)⟩ ?_;clear al mE ze bn;rintro k _ S aR hk ⟨lO,na,bn,z4,bB⟩;have al:=lO.box;have bo:=lO.ext;refine aa ?_;apply I_<;>intro g1
 .have a1:k<m.props.length:=Aw
  obtain⟨a,rfl⟩:=aF.addr;obtain⟨kC,gX,au,ho⟩:=aF.at k a1;obtain⟨M3,ce,rfl,le⟩:=ho.form;have eL:=FE a1;replace au:=au.ext bo;have z5:=lO.mod.size;refine aa ?_;intro Ex dm e8 oj qj;refine dV ?_;intro bg e3 bS;have ar:=e3.ext oj e8;have iK:=lO.then ar;replace na:=na.ext ar z4;replace bn:=ar.obj bn;replace al:=iK.box;have bC:=iK.ext;clear qj oj e3 lO;have bb:od m k≠0->qt m=⟨od m k,5,k,0⟩:=ad5 a1 bB;refine aa ?_;apply I_<;>intro g2
  .rw[if_pos Aw] at eL;rw[eL] at bb;replace bb:=bb BS;refine aa ?_;refine W_ (sj 11 5 k 0 bg) ?_ ?_
   .rintro _ _ ⟨hv,_⟩;exact absurd hv BS
   .rintro c _ ⟨_,rfl,rfl⟩;refine aa ?_;rw[bb];exact⟨(show(11:Int)≠0 by decide),aJ,bC,iK.mod⟩
  rw[if_neg Aw] at eL;refine aa ?_;refine J_ (MU m.props[k].name bg (aS.ext bC) kC) ?_;rintro _ bp ⟨rfl,aC⟩;have h4:=iK.then aC;replace na:=na.ext aC (by have:=ar.size;omega);replace bn:=aC.obj bn;replace bS:=aC.obj bS;replace al:=h4.box;have b5:=h4.ext;clear iK;refine aa ?_;refine N_ (λg3=>?_) (λg3=>?_);rotate_left
  .rw[if_pos g3] at eL;rw[eL] at bb;replace bb:=bb BS;refine aa ?_;refine W_ (sj 6 5 k 0 bp) ?_ ?_
   .rintro _ _ ⟨hv,_⟩;exact absurd hv BS
   .rintro c _ ⟨_,rfl,rfl⟩;refine aa ?_;rw[bb];exact⟨(show(6:Int)≠0 by decide),aJ,b5,h4.mod⟩
  rw[if_neg (by rw[g3];decide)] at eL;refine aa ?_;refine W_ (NJ cz (s9 m k) m.props[k].name 5 k bp h4.set) ?_ ?_;rotate_left
  .rintro c _ ⟨aw,rfl,rfl⟩;rw[if_pos aw] at eL;rw[eL] at bb;replace bb:=bb BS;refine aa ?_;rw[bb];exact⟨(show(7:Int)≠0 by decide),aJ,h4.ext,h4.mod⟩
  rintro _ bH ⟨aw,dz,kB⟩;rw[if_neg aw] at eL;have jU:kN w0 w cz bx _ bH (s9 m (k+1)):=(h4.wr dz kB).jG (by simp only[s9,Td];rw[Eo (λx:lS=>x.name) _ a1,NC]);replace na:=na.wr dz Aw;replace bn:=dz.obj bn Aw;replace bS:=dz.obj bS Aw;replace al:=jU.box;have cL:=jU.ext;clear h4 b5;refine aa ?_;refine J_ (acR _ m.props[k].expr _ _ bH (ho.ext cL) na.here) ?_;rintro _ cB ⟨rfl,bt⟩;have HT:=jU.then bt;have Ib:=dz.size;replace na:=na.ext bt (by have:=ar.size;have:=aC.size;omega);replace bn:=bt.obj bn;replace al:=HT.box;have eK:=HT.ext;clear jU;refine aa ?_;refine W_ (sj (o.kind m.props[k].expr (eC m)).2 5 k 0 cB) ?_ ?_;rotate_left
  .rintro c _ ⟨hv,rfl,rfl⟩;rw[if_pos hv] at eL;rw[eL] at bb;replace bb:=bb hv;refine aa ?_;rw[bb];exact⟨hv,aJ,eK,HT.mod⟩
  rintro _ cD ⟨hv,rfl⟩;rw[if_neg (by simpa using hv)] at eL;refine aa ?_;apply I_<;>intro g4;rotate_left
  .rw[if_pos g4] at eL;rw[eL] at bb;replace bb:=bb BS;refine aa ?_;refine W_ (sj 9 5 k 0 cD) ?_ ?_
   .rintro _ _ ⟨AI,_⟩;exact absurd AI BS
   .rintro c _ ⟨_,rfl,rfl⟩;refine aa ?_;rw[bb];exact⟨(show(9:Int)≠0 by decide),aJ,eK,HT.mod⟩
  rw[if_neg (by simpa using g4)] at eL;refine aa ?_;refine⟨a1,aJ,(),trivial,HT,na,bn,by have:=ar.size;have:=aC.size;have:=bt.size;omega,λi U=>?_⟩;by_cases Dw:i=k
  .subst Dw;rw[eL]
  .exact bB i Aw
 refine aa ?_;exact⟨by rw[TG λj ay=>bB j Aw];rfl,bo,lO.mod⟩
end Go.Proofs.R
namespace ba
open Go Go.RowKit
structure Ca where
 n:Nat
 res:List nz
 pre:e6
 cj:List Step
 fn:Operand
 rest:e6
def PL(ae:Oper):H_ G_ :=
 match ae.guard,ae.dst,ae.op with
 | none,none,.defer ⟨.value x,args,_⟩=>match args.toList with | []=>some x | _=>none
 | _,_,_=>none
def YI(P:D_)(fn:Func):Code->H_ Ca
 | .seq a (.seq (.region _ ops false) c) =>
  match ops.toList.getLast?.bind PL,comp P fn.ntmps a,qT P fn.ntmps ops ops.toList.dropLast,comp P fn.ntmps c,yJ P fn.results.toList with
  | some x,some qp,some cj,some lc,some r=>some ⟨fn.ntmps,r,qp,cj,x,lc⟩
  | _,_,_,_,_=>none
 | _=>none
def I8(P:D_)(f:E_):H_ Ca :=
 match P.funcs[f]? with
 | some fn=>match fn.body with | some c=>YI P fn c | none=>none
 | none=>none
def uT(P:D_)(f:E_)(cap:Array B_)(u:FrameMode)(w:A_)(R:A_->Prop):Prop :=
 CallsD P f cap u w λe kZ w'=>(∃v,e = .returned v)/\settle kZ = .returning/\R w'
def FB(P:D_)(res:C_ nz)(f:E_)(cap:Array B_)(R:B_->A_->Prop):fM->Fr->A_->Prop
 | .normal,S,w=>uT P f cap .returning w λw'=>qy res S w' λvs=>R (jJ vs) w'
 | .ret,S,w=>uT P f cap .returning w λw'=>qy res S w' λvs=>R (jJ vs) w'
 | .exit _,_,_=>False
 | .hD c,S,w=>uT P f cap (.panicking c) w λw'=>qy res S w' λvs=>R (jJ vs) w'
def auU(P:D_)(L:Ca)(R:B_->A_->Prop)(S:Fr)(w:A_):Prop :=
 dQ P L.pre (wa (λS w=>steps P L.cj S w λS w => ∃f cap,bu S L.fn = .func (.func f) #[] cap/\okF P f=true/\dQ P L.rest (FB P L.res f cap R) S w) (λ_ _ _=>False)) S w
def ai0{ae:Oper}{x:G_}(h:PL ae=some x):∃ty pos after oF,ae=⟨none,.defer ⟨.value x,#[],oF⟩,ty,pos,after,none⟩:=by
 obtain⟨dst,op,ty,pos,after,guard⟩:=ae;unfold PL at h;split at h
 .rename_i h1 J ab;simp only at h1 J ab;split at h
  .rename_i aF;injection h with h
   have a7:=Array.toList_eq_nil_iff.1 aF;subst h1 J ab h a7;exact⟨_,_,_,_,rfl⟩
  .cases h
 .cases h
def ajv{P:D_}{f:E_}{L:Ca}(hm:P.follows .mixedOrders=true)(an:I8 P f=some L){args:C_ B_}{w:A_}{R:B_->A_->Prop}(aY:args.length<=L.n)
  (h:auU P L R (jb args 0) w):aW P f args.toArray w R:=by
 unfold I8 at an;split at an
 .rename_i fn lG;split at an
  .rename_i c ak;unfold YI at an;split at an
   .rename_i a id ops iY;split at an
    .rename_i x qp cj lc r h1 J ab aF a7;injection an with an;subst an
     obtain⟨ae,aS,ah⟩:=Option.bind_eq_some_iff.1 h1;obtain⟨ty,pos,after,oF,rfl⟩:=ai0 ah;have anw:ops.toList=ops.toList.dropLast++[⟨none,.defer ⟨.value x,#[],oF⟩,ty,pos,after,none⟩]:=by
      have cv:ops.toList≠[]:=by intro e;rw[e] at aS;cases aS
      rw[List.getLast?_eq_some_getLast cv] at aS;injection aS with aS
      rw[<-aS,AL0 cv]
     have fin:∀(g:E_) (cap:Array B_) (S:Fr) (cx:Act) (w':A_) (u:FrameMode),u≠.run->okF P g=true->Fits [{ target:=.fn (.func g) cap,args:=#[] }] cx S fn.ntmps->uT P g cap u w' (λw'=>qy r S w' λvs=>R (jJ vs) w') ->
       Leaves P fn cx.tmps (λe w' => ∃v,e = .returned v/\R v w') cx.defers u w':=by
      intro g cap S cx w' u hu c9 ax aE;rw[ax.1];refine leaves_cons hu (f:=g) (args:=cap) (by simp[invoke,Ed c9]) (CallsD.mono aE ?_);rintro e kZ bO ⟨⟨v,rfl⟩,aj,aT⟩;simp only[aj];obtain⟨vs,bJ,ct⟩:=th ax _ _ _ a7 aT;exact⟨_,xX bJ,_,rfl,ct⟩
     refine calls_of_wp_defers lG ak ((wpIn_wide (n:=0)).1 ?_);refine wpIn_seq (wpIn_mono (sound (ds:=[]) (r:=none) (m:=0) hm a qp J _ _ (jb args 0) w (P9 aY) h) λe cx w' av=>?_);cases e with
     | normal =>
      obtain⟨S,ax,av⟩:=av;refine wpIn_seq (wpIn_region_list ?_);rw[anw];refine zP (r:=none) (tl:=[_]) ?_ ?_ _ cj cx S w' ab ax av
      .rintro a2 j3 az mW ⟨g,cap,he,c9,aH⟩;have hw:Region.wanted (⟨none,.defer ⟨.value x,#[],oF⟩,ty,pos,after,none⟩:Oper) (yielded ops a2.tmps)=true:=rfl;simp only[wpListIn,hw,if_true];have ih:∀ρ:G_->B_,ρ x = .func (.func g) #[] cap->((⟨none,.defer ⟨.value x,#[],oF⟩,ty,pos,after,none⟩:Oper).semAt none ρ).run P az = .ok (.defer { target:=.fn (.func g) cap,args:=#[] }) az:=by
        intro ρ aoJ;simp[Oper.semAt,execOp,resolve,Deferred.ofValue,aoJ,go_sem]
       refine⟨λ_ _=>trivial,?_⟩;rw[show(oK none).round=none from rfl,ih a2.eval (by rw[mW.eval];exact he)];have am3:Fits [{ target:=.fn (.func g) cap,args:=#[] }] ({ a2 with defers:={ target:=.fn (.func g) cap,args:=#[] } :: a2.defers }:Act) j3 fn.ntmps:=⟨by rw[mW.1],mW.2⟩;refine wpIn_mono (sound (ds:=[{ target:=.fn (.func g) cap,args:=#[] }]) (r:=none) (m:=0) hm iY lc aF _ _ j3 az am3 aH) λe a4 aR av=>?_;cases e with
       | normal=>obtain⟨p8,ra,av⟩:=av;exact fin g cap p8 a4 aR .returning CC c9 ra av
       | ret=>obtain⟨p8,ra,av⟩:=av;exact fin g cap p8 a4 aR .returning CC c9 ra av
       | exit i=>obtain⟨p8,ra,av⟩:=av;exact av.elim
       | panic Fs=>obtain⟨p8,ra,av⟩:=av;exact fin g cap p8 a4 aR (.panicking Fs) CC c9 ra av
       | _=>exact av.elim
      .rintro⟨_,_,ah⟩;obtain⟨_,h1,_⟩:=ah;cases h1
     | ret=>obtain⟨S,ax,av⟩:=av;exact av.elim
     | exit i=>obtain⟨S,ax,av⟩:=av;exact av.elim
     | panic Fs=>obtain⟨S,ax,av⟩:=av;exact av.elim
     | _=>exact av.elim
    .cases an
   .cases an
  .cases an
 .cases an
structure ER where
 n:Nat
 res:List nz
 d:Nat
 e:Nat
 rest:e6
def TW(ae:Oper):H_ Nat :=
 match ae.guard,ae.op,ae.dst with
 | none,.call ⟨.builtin .recover,args,_⟩,some d=>match args.toList with | []=>some d | _=>none
 | _,_,_=>none
def O7(ae:Oper):H_ (Nat×Nat) :=
 match ae.guard,ae.op,ae.dst with
 | none,.assign (.tmp d),some e=>some (d,e)
 | _,_,_=>none
def YJ(P:D_)(fn:Func):Code->H_ ER
 | .seq (.region _ ops false) c =>
  match ops.toList with
  | [bN,bT]=>match TW bN,O7 bT,comp P fn.ntmps c,yJ P fn.results.toList with
   | some d,some (wR,e),some lc,some r=>if d=wR/\d<fn.ntmps/\e<fn.ntmps then some ⟨fn.ntmps,r,d,e,lc⟩ else none
   | _,_,_,_=>none
  | _=>none
 | _=>none
def I9(P:D_)(f:E_):H_ ER :=
 match P.funcs[f]? with
 | some fn=>match fn.body with | some c=>YJ P fn c | none=>none
 | none=>none
def qw:FrameMode->B_×FrameMode
 | .panicking ({ v,recovered:=false,goexit:=false } :: aqM)=>(v,.panicking ({ v,recovered:=true } :: aqM))
 | u=>(.nilIface,u)
theorem asA(c:Frame)(cs:C_ Frame):(match recoverD (c :: cs) with | some (v,js)=>(v,js) | none=>(.nilIface,c :: cs))=((qw c.mode).1,{ c with mode:=(qw c.mode).2 } :: cs):=by
 obtain⟨fn,tmps,todo,defers,mode,kind,ro⟩:=c;unfold recoverD qw;cases mode with
 | run=>rfl
 | returning=>rfl
 | panicking l =>
  cases l with
  | nil=>rfl
  | cons p r =>
   obtain⟨v,rc,ge⟩:=p;cases rc<;>cases ge<;>rfl
def asy{ae:Oper}{d:Nat}(h:TW ae=some d):∃oF ty pos after,ae=⟨some d,.call ⟨.builtin .recover,#[],oF⟩,ty,pos,after,none⟩:=by
 obtain⟨dst,op,ty,pos,after,guard⟩:=ae;unfold TW at h;split at h
 .rename_i h1 J ab;simp only at h1 J ab;split at h
  .rename_i aF;injection h with h
   have a7:=Array.toList_eq_nil_iff.1 aF;subst h1 J ab h a7;exact⟨_,_,_,_,rfl⟩
  .cases h
 .cases h
def ahf{ae:Oper}{d e:Nat}(h:O7 ae=some (d,e)):∃ty pos after,ae=⟨some e,.assign (.tmp d),ty,pos,after,none⟩:=by
 obtain⟨dst,op,ty,pos,after,guard⟩:=ae;unfold O7 at h;split at h
 .rename_i h1 J ab;simp only at h1 J ab;injection h with h
  injection h with a7 bJ
  subst h1 J ab a7 bJ;exact⟨_,_,_,rfl⟩
 .cases h
def ajw{P:D_}{f:E_}{L:ER}(hm:P.follows .mixedOrders=true)(an:I9 P f=some L){args:C_ B_}{u:FrameMode}{w:A_}{R:B_->A_->Prop}(aY:args.length<=L.n)
  (h:dQ P L.rest (FA L.res R) (cg (cg (jb args 0) L.d (qw u).1) L.e (qw u).1) w):CallsD P f args.toArray u w λe kZ w'=>kZ=(qw u).2/\∃v,e = .returned v/\R v w':=by
 unfold I9 at an;split at an
 .rename_i fn lG;split at an
  .rename_i c ak;unfold YJ at an;split at an
   .rename_i id ops iY;split at an
    .rename_i bN bT GL;split at an
     .rename_i d wR e lc r h1 J ab aF;split at an
      .rename_i amR;obtain⟨amQ,bb,he⟩:=amR;subst amQ;injection an with an;subst an
       obtain⟨oF,auB,arC,ag1,rfl⟩:=asy h1;obtain⟨auC,arD,ag2,rfl⟩:=ahf J;refine callsD_of_wpS lG ak λCL cs hu=>?_;refine wpS_seq (wpS_region ?_);have dt:ops.size=2:=by rw[<-Array.length_toList,GL];rfl
       have Dq:ops[0]? = ops.toList[0]? := by simp
       have A3:ops[1]? = ops.toList[1]? := by simp
       rw[GL] at Dq A3;simp only[List.getElem?_cons_zero,List.getElem?_cons_succ] at Dq A3;have aT:List.range ops.size=[0,1]:=by rw[dt];rfl
       rw[aT];have aoc:∀(ρ:G_->B_),(execOp ρ ⟨some d,.call ⟨.builtin .recover,#[],oF⟩,auB,arC,ag1,none⟩).run P w = .ok .recover w:=by
        intro ρ;simp[execOp,resolve,invoke,builtin,go_sem]
       have KS:∀(dst:H_ Nat) (op:Op) (ty:F_) (pos:String) (after:Array Edge) (y:Nat->H_ Bool),Region.wanted (⟨dst,op,ty,pos,after,none⟩:Oper) y=true:=λ_ _ _ _ _ _=>rfl;have am2:=P9 (n:=fn.ntmps) aY;have key:∀(v:B_) (js:C_ Frame),dQ P lc (FA r R) (cg (cg (jb args 0) d v) e v) w->(js = { CL with mode:=(qw u).2 } :: cs) ->
         wpOpsS P ops (Exit.thenS (iY.wpS P (bodyPostS P fn CL cs λe kZ w'=>kZ=(qw u).2/\∃v,e = .returned v/\R v w')) (bodyPostS P fn CL cs λe kZ w'=>kZ=(qw u).2/\∃v,e = .returned v/\R v w')) [1]
          (({ tmps:=args.toArray++Array.replicate (fn.ntmps - args.toArray.size) undef,defers:=[] }:Act).put (some d) v) js w:=by
        intro v js aH gx;have Kw:=am2.put (d:=some d) (by simpa[yL] using bb) v;have ah:(execOp (({ tmps:=args.toArray++Array.replicate (fn.ntmps - args.toArray.size) undef,defers:=[] }:Act).put (some d) v).eval ⟨some e,.assign (.tmp d),auC,arD,ag2,none⟩).run P w = .ok (.value v) w:=by
         rw[Kw.eval];simp[execOp,bu,ba.put,cg]
        simp only[wpOpsS,A3,KS,if_true,ah];rw[Oper.upon_value];have mW:=Kw.put (d:=some e) (by simpa[yL] using he) v;refine wpS_of_wp ((wpIn_wide (n:=0)).1 (wpIn_mono (sound (ds:=[]) (r:=none) (m:=0) hm iY lc ab _ _ _ w mW aH) λx a4 aR av=>?_));cases x with
        | normal =>
         obtain⟨p8,ra,av⟩:=av;obtain⟨vs,bJ,ct⟩:=th ra _ _ _ aF av;exact⟨ra.1,_,gx,_,xX bJ,rfl,_,rfl,ct⟩
        | ret =>
         obtain⟨p8,ra,av⟩:=av;obtain⟨vs,bJ,ct⟩:=th ra _ _ _ aF av;exact⟨ra.1,_,gx,_,xX bJ,rfl,_,rfl,ct⟩
        | exit i=>obtain⟨p8,ra,av⟩:=av;exact av.elim
        | panic Fs=>obtain⟨p8,ra,av⟩:=av;exact av.elim
        | _=>exact av.elim
       have sa:=asA CL cs;rw[hu] at sa;unfold wpOpsS;simp only[Dq,KS,if_true,aoc];cases KL:recoverD (CL :: cs) with
       | none =>
        rw[KL] at sa;injection sa with bG aD
        exact key .nilIface (CL :: cs) (by rw[bG];exact h) aD
       | some auT =>
        obtain⟨v,js⟩:=auT;rw[KL] at sa;injection sa with bG aD
        exact key v js (by rw[bG];exact h) aD
      .cases an
     .cases an
    .cases an
   .cases an
  .cases an
 .cases an
end ba
namespace ba
open Go Go.RowKit
def Od(P:D_)(v:B_)(K:E_->Array B_->Prop):Prop := ∃f cap,v = .func (.func f) #[] cap/\okF P f=true/\K f cap
section
variable{P:Program}{S:Fr}{w:World}{res:List nz}{R:Value->World->Prop}
def AC4{f:E_}{L:Ca}(hm:P.follows .mixedOrders=true)(an:I8 P f=some L){args:C_ B_}(aY:args.length<=L.n)
  (h:e5 P L.pre (jI (λS w=>qC P L.cj S w (λS w=>Od P (bu S L.fn) λg cap=>e5 P L.rest (FB P L.res g cap R) S w ⟨⟩) ⟨⟩) (λ_ _ _=>False) ⟨⟩) (jb args 0) w ⟨⟩):aW P f args.toArray w R:=by
 refine ajv hm an aY ?_;unfold e5 jI qC Od at h;exact h
def AC5{g:E_}{cap:Array B_}{K:E_->Array B_->Prop}(c9:okF P g=true)(h:K g cap):Od P (.func (.func g) #[] cap) K:=⟨g,cap,rfl,c9,h⟩
def AC6{g:E_}{cap:Array B_}(h:uT P g cap .returning w λw'=>oE res S w' (λvs=>R (jJ vs) w') ⟨⟩):FB P res g cap R .ret S w:=by
 unfold oE at h;exact h
def AC7{g:E_}{cap:Array B_}{c:C_ PanicEntry}(h:uT P g cap (.panicking c) w λw'=>oE res S w' (λvs=>R (jJ vs) w') ⟨⟩):FB P res g cap R (.hD c) S w:=by
 unfold oE at h;exact h
theorem uT.of{g:E_}{cap:Array B_}{u wb:FrameMode}{EU EV:A_->Prop}(h:CallsD P g cap u w λe kZ w'=>kZ=wb/\∃v,e = .returned v/\EU w')(aj:settle wb = .returning)(hk:∀w',EU w'->EV w'):uT P g cap u w EV :=
 CallsD.mono h λe kZ w' ⟨h1,v,J,ab⟩=>⟨⟨v,J⟩,by rw[h1];exact aj,hk _ ab⟩
def AA3{f:E_}{L:ER}(hm:P.follows .mixedOrders=true)(an:I9 P f=some L){args:C_ B_}{u:FrameMode}(aY:args.length<=L.n)
  (h:e5 P L.rest (tO L.res R ⟨⟩) (cg (cg (jb args 0) L.d (qw u).1) L.e (qw u).1) w ⟨⟩):CallsD P f args.toArray u w λe kZ w'=>kZ=(qw u).2/\∃v,e = .returned v/\R v w':=by
 refine ajw hm an aY ?_;unfold e5 tO at h;exact h
def aeU(d:Nat){t:F_}{ms:Array (String×F_)}(h:P.underlying t=some (.interface ms))(w:A_):(Op.equalIn (d+1) t .nilIface .nilIface).run P w = .ok true w/\∀T v,(Op.equalIn (d+1) t (.iface T v) .nilIface).run P w = .ok false w:=by
 constructor
 .simp[Op.equalIn,run_underlying h]
 .intro T v;simp[Op.equalIn,run_underlying h]
def acj{t:F_}(h:(P.underlying t).map zr=some true):∃ms,P.underlying t=some (.interface ms):=by
 obtain⟨d,bb,U⟩:=Option.map_eq_some_iff.1 h;cases d<;>first | exact⟨_,bb⟩ | (simp[zr] at U;done)
def AC8{h5:F_}{x:G_}{v:B_}{bl:B_->Prop}{t}(h:(P.underlying h5).map zr=some true)(hk:bl (.bool false)):kJ P .neq h5 x (.const v) .nilIface .nilIface bl t :=
 _X (v:=.bool false) (λw=>by
  obtain⟨ms,h⟩:=acj h;have h1:=(aeU 9999 h w).1;have J:(Op.equalIn Op.maxDepth h5 .nilIface .nilIface).run P w = .ok true w:=h1;cases x<;>simp[eqGuard,binOp,Op.equal,go_sem,J,Result.andThen]) hk
def AC9{h5 T:F_}{x y:G_}{v:B_}{bl:B_->Prop}{t}(h:(P.underlying h5).map zr=some true)(hk:bl (.bool true)):kJ P .neq h5 x y (.iface T v) .nilIface bl t :=
 _X (v:=.bool true) (λw=>by
  obtain⟨ms,h⟩:=acj h;have J:(Op.equalIn Op.maxDepth h5 (.iface T v) .nilIface).run P w = .ok false w:=(aeU 9999 h w).2 T v;simp[eqGuard,binOp,Op.equal,go_sem,J,Result.andThen]) hk
def AD0{x:G_}{af7 T ty:F_}{v:B_}{cO:B_->A_->Prop}{t}(ah:bu S x = .iface T v)(h:(P.underlying T).map zr=some false)(hk:cO (.tuple #[v,.bool true]) w):uW P (.typeAssert x af7 T true) ty S w cO t:=by
 refine _G (v:=.tuple #[v,.bool true]) (w':=w) ?_ hk;obtain⟨d,bb,U⟩:=Option.map_eq_some_iff.1 h;have h1:(Instr.typeAssert (.iface T v) af7 T true).run P w = .ok (.tuple #[v,.bool true]) w:=by
  cases d<;>first | (simp[zr] at U;done) | (simp[Instr.typeAssert,run_underlying bb])
 simp[execOp,ah,h1,Result.andThen]
end
end ba
namespace Go.Proofs.R
open Go ba Go.Proofs
abbrev F.g:E_:=54
def VJ.iN:Ca:=⟨16,[.iZ 4 2], (.dB [du 1 (.box T.f (aQ 0)),du 2 (.new T.x (.agg #[dR,dR,dR,dR]))]),
 [cS 4 (.xN F.g [] [(aQ 2)])],(aQ 4), (cT [du 5 .vR,aU 3 5] (.seq (.fS [iu 6 5 1,aU 7 3] (some 8) F.tE [(aQ 6),(aQ 7)]) (.seq (.fS [iu 9 5 1,aU 10 3] (some 11) F.nY [(aQ 9),(aQ 10)]) (.seq (.fS [iu 12 5 1,aU 13 3] (some 14) F.tF [(aQ 12),(aQ 13)]) (cT [cS 15 (.ib [dR,dR,dR,dR] [(0,1),(1,1),(2,1),(3,1)] []),qG 4 2 15] .ret)))))⟩
theorem agl.iN:I8 Tryz.prog F.iN=some VJ.iN:=Cx
def Oc.g:ER:=⟨17,[],4,1, (cT [aU 5 1,cS 6 (.bin .neq T.wC (aQ 5) (.const .nilIface))] (kr 6 (cT [aU 8 1,du 9 (.raw (.typeAssert (aQ 8) T.wC T.nW true) T.nU),aU 7 9,EA 10 7 0,EA 11 7 1,du 2 (.new T.nW (.agg #[dR,dR,dR,dR])),qG 4 2 10,aU 3 11] (.seq (cT [aU 12 3,cS 13 (.un .not (aQ 12))] (kr 13 (.uE [aU 14 1] (aQ 14)) .skip)) (.dB [fu 15 0 2,iu 16 4 15,qG 4 0 16]))) .skip))⟩
theorem VM.g:I9 Tryz.prog F.g=some Oc.g:=Cx
end Go.Proofs.R