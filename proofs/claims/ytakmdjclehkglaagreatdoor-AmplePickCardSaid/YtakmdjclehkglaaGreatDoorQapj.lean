/- Parts. -/
import Derived.Test.YtakmdjclehkglaaGreatDoorQapi
import Derived.Maps.RangeRun
import Derived.Defers
import Derived.Recover
set_option linter.all false
set_option maxRecDepth 100000
set_option maxHeartbeats 16000000
namespace Go.Proofs.R
open Go Go.RowKit a8
def DM(gP:B_)(e:C_ o.Node)(k:Int)(cs:C_ B_)(s:o.Scope)(w:A_)(aw:o.eS w gP e)(h:o.gg w cs s) :
  Du F.LB #[gP,.I k,.agg cs.toArray] w λv w'=>v = .I (o.asked e k s)/\Ext w w':=by
 obtain⟨a0,bz,db,c1,a2,c2,a3,bu,a4,bB,rfl,_⟩:=h.form;obtain⟨aN,cap,rfl,_⟩:=aw.form;refine bl E.LB ?_;refine aa ?_;intro w1 bx cN ag al;refine aa ?_;refine J_ (ad4 _ e _ s w1 (aw.ext ag) (h.ext ag)) ?_;rintro _ aA ⟨rfl,ai⟩;rw[o.asked];refine aa ?_;apply I_<;>intro g1;rotate_left
 .refine aa ?_;exact⟨by rw[if_pos g1],ag.trans ai⟩
 rw[if_neg (by simpa using g1)];refine aa ?_;apply I_<;>intro g2;rotate_left
 .refine aa ?_;exact⟨by rw[if_pos g2],ag.trans ai⟩
 .refine aa ?_;exact⟨by rw[if_neg (by simpa using g2)],ag.trans ai⟩
def KV(n:Int)(w:A_)(h:0<=n/\n<=4611686018427387904):Du F.GU #[.I n] w λv w'=>v = .I (if n=0 then 0 else 1+n)/\w'=w:=KU n w h
theorem Ti(v:B_)(l:C_ o.Var)(n:Int)(cs:C_ B_)(s:o.Scope)(w:A_)(aE:o.hZ w v l)(h:o.gg w cs s) :
  Du F.LD #[v,.I n,.agg cs.toArray] w λv w'=>v = .tuple #[.I (o.lV l n s).1,.I (o.lV l n s).2]/\Ext w w':=by
 obtain⟨a0,bz,db,c1,a2,c2,a3,bu,a4,bB,rfl,_,_,_,_,_,eu,dz,dJ,dR,ee⟩:=h.form;obtain⟨aN,cap,rfl,_⟩:=aE.form;refine bl E.LD ?_;refine aa ?_;intro w1 bx cN ag al;refine aa ?_;refine J_ (Ho _ l n _ s w1 (aE.ext ag) (h.ext ag)) ?_;rintro u aA ⟨⟨x,hu,af⟩,ai⟩;cases hk:(o.gz l n s).2.2 with
 | false =>
  rw[hk] at hu;subst hu;refine aa ?_;intro aM bW eX ah ba;refine aa ?_;exact⟨by rw[o.lV,o.Yx hk],(ag.trans ai).trans ah⟩
 | true =>
  rw[hk] at hu;subst hu;obtain⟨bb,dK,eg,eD,eU⟩:=o.Yz hk (af hk);have hd:o.lV l n s=if x.over≠0 then (0,9) else ((if x.scalar=0 then 0 else 1+x.scalar),0):=by unfold o.lV;rw[bb]
  refine aa ?_;intro aM bW eX ah ba;refine aa ?_;apply I_<;>intro g1
  .rw[if_neg (by simpa using g1)] at hd;refine aa ?_;refine J_ (KV _ aM ⟨dK,Ad⟩) ?_;rintro _ _ ⟨rfl,rfl⟩;refine aa ?_;exact⟨by rw[hd],(ag.trans ai).trans ah⟩
  .rw[if_pos g1] at hd;refine aa ?_;exact⟨by rw[hd],(ag.trans ai).trans ah⟩
theorem aox(a:o.Act)(bK bY:B_)(cs:C_ B_)(s:o.Scope)(w:A_)(U:o.eS w bK a.index)(aF:o.eS w bY a.value)(h:o.gg w cs s) :
  Du F.LC #[.agg (a.enc bK bY).toArray,.agg cs.toArray] w λv w'=>v = .I (o.A9 a s)/\Ext w w':=by
 obtain⟨a0,bz,db,c1,a2,c2,a3,bu,a4,bB,rfl,_,RZ,_,_,_,eu,dz,dJ,dR,ee⟩:=h.form;obtain⟨_,_,rfl,_⟩:=U.form;obtain⟨_,_,rfl,_⟩:=aF.form;refine bl E.LC ?_;refine aa ?_;intro w1 bx cN ag al;refine aa ?_;intro aA bQ c7 ai ao;replace al:=ai.obj al;have df:∀{w'},Ext aA w'->Ext w w':=λe=>(ag.trans ai).trans e;refine aa ?_;refine J_ (Ho _ s.vars a.to _ s aA (RZ.ext (df (Ext.refl _))) (h.ext (df (Ext.refl _)))) ?_;rintro u aM ⟨⟨x,hu,af⟩,ah⟩;replace al:=ah.obj al;replace ao:=ah.obj ao;cases hk:(o.gz s.vars a.to s).2.2 with
 | false =>
  rw[hk] at hu;subst hu;refine aa ?_;intro aU c6 fT aq bo;refine aa ?_;exact⟨by rw[o.A9,o.Yx hk],df (ah.trans aq)⟩
 | true =>
  rw[hk] at hu;subst hu;obtain⟨bb,dK,eg,eD,eU⟩:=o.Yz hk (af hk);have hd:o.A9 a s=if x.over=0 then 9 else if o.asked a.index (1+x.over) s≠0 then o.asked a.index (1+x.over) s else o.asked a.value (if x.scalar=0 then 0 else 1+x.scalar) s:=by unfold o.A9;rw[bb]
  refine aa ?_;intro aU c6 fT aq bo;replace al:=aq.obj al;replace ao:=aq.obj ao;have ec:∀{w'},Ext aU w'->Ext w w':=λe=>df ((ah.trans aq).trans e);refine aa ?_;apply I_<;>intro g1
  .rw[if_pos g1] at hd;refine aa ?_;exact⟨by rw[hd],ec (Ext.refl _)⟩
  rw[if_neg g1] at hd;refine aa ?_;refine J_ (DM _ a.index (1+x.over) _ s aU (U.ext (ec (Ext.refl _))) (h.ext (ec (Ext.refl _)))) ?_;rintro _ bh ⟨rfl,av⟩;replace al:=av.obj al;replace ao:=av.obj ao;replace bo:=av.obj bo;have hh:∀{w'},Ext bh w'->Ext w w':=λe=>ec (av.trans e);refine aa ?_;apply I_<;>intro g2;rotate_left
  .rw[if_pos g2] at hd;refine aa ?_;exact⟨by rw[hd],hh (Ext.refl _)⟩
  rw[if_neg (by simpa using g2)] at hd;refine aa ?_;refine P_ (.I (if x.scalar=0 then 0 else 1+x.scalar)) (λw' e=>(KV _ w' ⟨dK,Ad⟩).mono λv bM cR=>⟨cR.1,by rw[cR.2];exact Ext.refl _⟩) ?_;refine aa ?_;refine P_ (.I (o.A9 a s)) (λw' e=>by rw[hd];exact DM _ a.value _ _ s w' (aF.ext (hh e)) (h.ext (hh e))) ?_;refine aa ?_;intro bq aD;refine aa ?_;exact⟨aK,hh aD⟩
def adW(a:o.Act)(comm:Bool)(bK bY:B_)(cs:C_ B_)(s:o.Scope)(w:A_)(U:o.eS w bK a.index)(aF:o.eS w bY a.value)(h:o.gg w cs s) :
  Du F.LA #[.agg (a.enc bK bY).toArray,.agg cs.toArray,.bool comm] w λv w'=>v = .I (o.lX a s comm)/\Ext w w':=by
 obtain⟨a0,bz,db,c1,a2,c2,a3,bu,a4,bB,rfl,_,RZ,_,_,jL,eu,dz,dJ,dR,ee⟩:=h.form;obtain⟨_,_,rfl,_⟩:=U.form;obtain⟨_,_,rfl,_⟩:=aF.form;refine bl E.LA ?_;refine aa ?_;intro w1 bx cN ag al;refine aa ?_;intro aA bQ c7 ai ao;replace al:=ai.obj al;have df:∀{w'},Ext aA w'->Ext w w':=λe=>(ag.trans ai).trans e;refine aa ?_;apply I_<;>intro g1
 .refine aa ?_;exact⟨by rw[o.lX,if_pos (.inl g1)],df (Ext.refl _)⟩
 refine aa ?_;apply I_<;>intro g2
 .refine aa ?_;exact⟨by rw[o.lX,if_pos (.inr g2)],df (Ext.refl _)⟩
 have sA:¬(a.kind<1\/5<a.kind):=Ad
 refine aa ?_;apply I_<;>intro g3
 .refine aa ?_;refine J_ (aox a _ _ _ s aA (U.ext (df (Ext.refl _))) (aF.ext (df (Ext.refl _))) (h.ext (df (Ext.refl _)))) ?_;rintro _ aM ⟨rfl,ah⟩;refine aa ?_;exact⟨by rw[o.lX,if_neg sA,if_pos g3],df ah⟩
 refine aa ?_;apply I_<;>intro g4
 .have aS:o.lX a s comm=if (o.lV s.vars a.to s).2≠0 then (o.lV s.vars a.to s).2 else o.asked a.value (o.lV s.vars a.to s).1 s:=by
   rw[o.lX,if_neg sA,if_neg g3,if_pos (.inl g4)];simp only[if_neg (by omega:¬a.kind=3)]
  refine aa ?_;refine J_ (Ti _ s.vars a.to _ s aA (RZ.ext (df (Ext.refl _))) (h.ext (df (Ext.refl _)))) ?_;rintro _ aM ⟨rfl,ah⟩;replace al:=ah.obj al;replace ao:=ah.obj ao;refine aa ?_;apply I_<;>intro g5;rotate_left
  .rw[if_pos g5] at aS;refine aa ?_;exact⟨by rw[aS],df ah⟩
  rw[if_neg (by simpa using g5)] at aS;refine aa ?_;refine J_ (DM _ a.value _ _ s aM (aF.ext (df ah)) (h.ext (df ah))) ?_;rintro _ aU ⟨rfl,aq⟩;refine aa ?_;exact⟨by rw[aS],df (ah.trans aq)⟩
 refine aa ?_;apply I_<;>intro g5
 .have aS:o.lX a s comm=if (o.lV s.locals a.to s).2≠0 then (o.lV s.locals a.to s).2 else o.asked a.value (o.lV s.locals a.to s).1 s:=by
   rw[o.lX,if_neg sA,if_neg g3,if_pos (.inr g5)];simp only[if_pos g5]
  refine aa ?_;refine J_ (Ti _ s.locals a.to _ s aA (jL.ext (df (Ext.refl _))) (h.ext (df (Ext.refl _)))) ?_;rintro _ aM ⟨rfl,ah⟩;replace al:=ah.obj al;replace ao:=ah.obj ao;refine aa ?_;apply I_<;>intro g5;rotate_left
  .rw[if_pos g5] at aS;refine aa ?_;exact⟨by rw[aS],df ah⟩
  rw[if_neg (by simpa using g5)] at aS;refine aa ?_;refine J_ (DM _ a.value _ _ s aM (aF.ext (df ah)) (h.ext (df ah))) ?_;rintro _ aU ⟨rfl,aq⟩;refine aa ?_;exact⟨by rw[aS],df (ah.trans aq)⟩
 have Ap:¬(a.kind=1\/a.kind=3):=Ad
 refine aa ?_;refine N_ (λg6=>?_) (λg6=>?_)
 .refine aa ?_;exact⟨by rw[o.lX,if_neg sA,if_neg g3,if_neg Ap,if_pos g6],df (Ext.refl _)⟩
 refine aa ?_;refine J_ (adY a.to _ s aA (h.ext (df (Ext.refl _)))) ?_;rintro u aM ⟨⟨x,hu,af⟩,ah⟩;replace al:=ah.obj al;replace ao:=ah.obj ao;by_cases hk:(o.kP a.to s).2=0;rotate_left
 .rw[decide_eq_false hk] at hu;subst hu;refine aa ?_;intro aU c6 fT aq bo;refine aa ?_;exact⟨by rw[o.lX,if_neg sA,if_neg g3,if_neg Ap,if_neg (by simp[g6]),o.ahY hk],df (ah.trans aq)⟩
 rw[decide_eq_true hk] at hu;subst hu;obtain⟨bb,dK,eg⟩:=o.ah0 hk (af hk);have aS:o.lX a s comm=if a.kind=4 then o.asked a.value (if x.scalar=0 then 0 else 1+x.scalar) s else if (o.lV s.locals a.loc s).2≠0 then (o.lV s.locals a.loc s).2 else if (o.lV s.locals a.loc s).1≠(if x.scalar=0 then 0 else 1+x.scalar) then 9 else 0:=by
  rw[o.lX,if_neg sA,if_neg g3,if_neg Ap,if_neg (by simp[g6]),bb]
 refine aa ?_;intro aU c6 fT aq bo;replace al:=aq.obj al;replace ao:=aq.obj ao;have ec:∀{w'},Ext aU w'->Ext w w':=λe=>df ((ah.trans aq).trans e);refine aa ?_;apply I_<;>intro g7
 .rw[if_pos g7] at aS;refine aa ?_;refine P_ (.I (if x.scalar=0 then 0 else 1+x.scalar)) (λw' e=>(KV _ w' ⟨dK,Ad⟩).mono λv bM cR=>⟨cR.1,by rw[cR.2];exact Ext.refl _⟩) ?_;refine aa ?_;refine P_ (.I (o.lX a s comm)) (λw' e=>by rw[aS];exact DM _ a.value _ _ s w' (aF.ext (ec e)) (h.ext (ec e))) ?_;refine aa ?_;intro bq aD;refine aa ?_;exact⟨aK,ec aD⟩
 rw[if_neg g7] at aS;refine aa ?_;refine J_ (Ti _ s.locals a.loc _ s aU (jL.ext (ec (Ext.refl _))) (h.ext (ec (Ext.refl _)))) ?_;rintro _ bh ⟨rfl,av⟩;replace bo:=av.obj bo;refine aa ?_;apply I_<;>intro g8;rotate_left
 .rw[if_pos g8] at aS;refine aa ?_;exact⟨by rw[aS],ec av⟩
 rw[if_neg (by simpa using g8)] at aS;refine aa ?_;refine J_ (KV _ bh ⟨dK,Ad⟩) ?_;rintro _ _ ⟨rfl,rfl⟩;refine aa ?_;apply I_<;>intro g9
 .rw[if_neg (by simpa using g9)] at aS;refine aa ?_;exact⟨by rw[aS],ec av⟩
 .rw[if_pos g9] at aS;refine aa ?_;exact⟨by rw[aS],ec av⟩
end Go.Proofs.R
namespace o
def XD{s:Scope}{a:Act}{k:Nat}{b:Bool}{Z:Int×Int}:(if ib a&&b then ((2+(k:Int)),(7:Int)) else if kX a s≠0 then (2+(k:Int),kX a s) else Z)=if lX a s b≠0 then (2+(k:Int),lX a s b) else Z:=by
 rw[arO];by_cases h:(ib a&&b)=true
 .simp[h]
 .simp[h]
end o
namespace Go.Proofs.R
open Go Go.RowKit a8
theorem arV(c:o.dI)(fi va:B_)(p:o.dt)(qk r4:B_)(cs:C_ B_)(s:o.Scope)(w:A_)(aw:o.jP c.name)(aG:o.eS w fi c.guard)(aY:o.mv w va c.bP)
  (aF:o.hZ w qk p.vars)(an:o.sg w r4 p.c0)(h:o.gg w cs s) :
  Du F.Lz #[.agg (c.enc fi va).toArray,.agg (p.enc qk r4).toArray,.agg cs.toArray] w λv w' =>
   v = .tuple #[.I (o.j0 c p.cm s).1,.I (o.j0 c p.cm s).2]/\Ext w w':=by
 obtain⟨a0,bz,db,c1,a2,c2,a3,bu,a4,bB,rfl,_⟩:=h.form;obtain⟨aN,cap,rfl,hlen⟩:=aY.form;obtain⟨fA,ahv,rfl,am1⟩:=aG.form;obtain⟨_,_,rfl,_⟩:=aF.form;obtain⟨_,_,rfl,_⟩:=an.form;refine bl E.Lz ?_;refine aa ?_;intro w1 bx cN ag al;refine aa ?_;intro aA bQ c7 ai ao;refine aa ?_;intro aM bW eX ah ba;replace al:=(ai.trans ah).obj al;replace ao:=ah.obj ao;have fr:∀{w'},Ext aM w'->Ext w w':=λe=>((ag.trans ai).trans ah).trans e;refine aa ?_;refine J_ (DO c.name aM aw) ?_;rintro u aU ⟨hu,aq⟩;replace al:=aq.obj al;replace ao:=aq.obj ao;replace ba:=aq.obj ba;have ec:∀{w'},Ext aU w'->Ext w w':=λe=>fr (aq.trans e);have bb:∀n,o.head c p.cm=n->n≠0->o.j0 c p.cm s=(0,n):=λn e ad=>by unfold o.j0;rw[e,if_pos ad]
 cases gj:o.isName c.name with
 | false =>
  rw[gj] at hu;subst hu;refine aa ?_;exact⟨by rw[bb 6 (by unfold o.head;rw[if_pos gj]) By],ec (Ext.refl _)⟩
 | true =>
  rw[gj] at hu;subst hu;have qc:¬o.isName c.name=false:=by rw[gj];simp
  refine aa ?_;apply I_<;>intro g1
  .refine aa ?_;exact⟨by rw[bb 10 (by unfold o.head;rw[if_neg qc,if_pos Ad]) By],ec (Ext.refl _)⟩
  refine aa ?_;apply I_<;>intro g2
  .refine aa ?_;exact⟨by rw[bb 10 (by unfold o.head;rw[if_neg qc,if_pos Ad]) By],ec (Ext.refl _)⟩
  refine aa ?_;apply I_<;>intro g3
  .refine aa ?_;exact⟨by rw[bb 10 (by unfold o.head;rw[if_neg qc,if_pos Ad]) By],ec (Ext.refl _)⟩
  refine aa ?_;apply I_<;>intro g4
  .refine aa ?_;exact⟨by rw[bb 10 (by unfold o.head;rw[if_neg qc,if_pos Ad]) By],ec (Ext.refl _)⟩
  have eG:¬(c.from_<0\/p.cm<=c.from_\/c.to<0\/p.cm<=c.to):=Ad
  refine aa ?_;apply I_<;>intro g5
  .refine aa ?_;exact⟨by rw[bb 11 (by unfold o.head;rw[if_neg qc,if_neg eG,if_pos Ad]) By],ec (Ext.refl _)⟩
  have Dl:o.j0 c p.cm s=if c.guard.length > 0/\o.asked c.guard 1 s≠0 then (1,o.asked c.guard 1 s) else o.lg s c.bP 0 false:=by
   unfold o.j0;rw[if_neg];unfold o.head;rw[if_neg qc,if_neg eG,if_neg Ad];simp
  clear bb;refine aa ?_;apply I_<;>intro g6
  .refine aa ?_;refine J_ (DM _ c.guard 1 _ s aU (aG.ext (ec (Ext.refl _))) (h.ext (ec (Ext.refl _)))) ?_;rintro _ bh ⟨rfl,av⟩;replace al:=av.obj al;replace ba:=av.obj ba;have hh:∀{w'},Ext bh w'->Ext w w':=λe=>ec (av.trans e);refine aa ?_;apply I_<;>intro g7;rotate_left
   .rw[if_pos ⟨Ad,g7⟩] at Dl;refine aa ?_;exact⟨by rw[Dl],hh (Ext.refl _)⟩
   have aS:o.j0 c p.cm s=o.lg s c.bP 0 false:=by rw[Dl,if_neg (λcR=>cR.2 (by simpa using g7))]
   refine aa ?_;refine L_ 10 c.bP.length [3,4,5] (λb=>[(9,.bool b)]) false (λk b w'=>Ext bh w'/\o.lg s c.bP 0 false=o.lg s (c.bP.drop k) k b) a6 a6 ⟨Ext.refl _,CC⟩ ?_;rintro k b S bq hk ⟨aD,aP⟩;replace al:=aD.obj al;replace ba:=aD.obj ba;refine aa ?_;apply I_<;>intro g1
   .have a7:k<c.bP.length:=Ad
    obtain⟨a,rfl⟩:=aY.addr;obtain⟨bK,bY,gM,dP,r0⟩:=aY.at k a7;obtain⟨_,_,rfl,_⟩:=dP.form;obtain⟨_,_,rfl,_⟩:=r0.form;rw[o.OJ a7,o.XD] at aP;replace gM:=gM.ext (hh (Ext.refl _));refine aa ?_;refine P_ (.I (o.lX c.bP[k] s b)) (λw' e=>adW c.bP[k] b _ _ _ s w' (dP.ext (hh (aD.trans e))) (r0.ext (hh (aD.trans e))) (h.ext (hh (aD.trans e)))) ?_;refine aa ?_;intro bH bc;replace al:=bc.obj al;replace ba:=bc.obj ba;refine aa ?_;apply I_<;>intro g2;rotate_left
    .rw[if_pos g2] at aP;refine aa ?_;exact⟨by rw[aS,aP],hh (aD.trans bc)⟩
    rw[if_neg (by simpa using g2)] at aP;refine aa ?_;refine N_ (λg3=>?_) (λg3=>?_)
    .subst g3;refine aa ?_;exact⟨a7,aK,true,a6,aD.trans bc,by simpa using aP⟩
    subst g3;refine aa ?_;apply I_<;>intro g4
    .have aB:o.ib c.bP[k]=true:=by unfold o.ib;rw[decide_eq_true_eq];omega
     refine aa ?_;exact⟨a7,aK,true,a6,aD.trans bc,by simpa[aB] using aP⟩
    have aB:o.ib c.bP[k]=decide (c.bP[k].kind=5):=by unfold o.ib;rw[AG4,decide_eq_true_eq,decide_eq_true_eq];omega
    rw[Bool.false_or,aB] at aP;refine aa ?_;exact⟨a7,aK,decide (c.bP[k].kind=5),a6,aD.trans bc,aP⟩
   .rw[AE9 Ad] at aP;refine aa ?_;exact⟨by rw[aS,aP];rfl,hh aD⟩
  .have aS:o.j0 c p.cm s=o.lg s c.bP 0 false:=by rw[Dl,if_neg (λcR=>g6 Ad)]
   refine aa ?_;refine L_ 10 c.bP.length [3,4,5] (λb=>[(9,.bool b)]) false (λk b w'=>Ext aU w'/\o.lg s c.bP 0 false=o.lg s (c.bP.drop k) k b) a6 a6 ⟨Ext.refl _,CC⟩ ?_;rintro k b S bq hk ⟨aD,aP⟩;replace al:=aD.obj al;replace ba:=aD.obj ba;refine aa ?_;apply I_<;>intro g1
   .have a7:k<c.bP.length:=Ad
    obtain⟨a,rfl⟩:=aY.addr;obtain⟨bK,bY,gM,dP,r0⟩:=aY.at k a7;obtain⟨_,_,rfl,_⟩:=dP.form;obtain⟨_,_,rfl,_⟩:=r0.form;rw[o.OJ a7,o.XD] at aP;replace gM:=gM.ext (ec (Ext.refl _));refine aa ?_;refine P_ (.I (o.lX c.bP[k] s b)) (λw' e=>adW c.bP[k] b _ _ _ s w' (dP.ext (ec (aD.trans e))) (r0.ext (ec (aD.trans e))) (h.ext (ec (aD.trans e)))) ?_;refine aa ?_;intro bH bc;replace al:=bc.obj al;replace ba:=bc.obj ba;refine aa ?_;apply I_<;>intro g2;rotate_left
    .rw[if_pos g2] at aP;refine aa ?_;exact⟨by rw[aS,aP],ec (aD.trans bc)⟩
    rw[if_neg (by simpa using g2)] at aP;refine aa ?_;refine N_ (λg3=>?_) (λg3=>?_)
    .subst g3;refine aa ?_;exact⟨a7,aK,true,a6,aD.trans bc,by simpa using aP⟩
    subst g3;refine aa ?_;apply I_<;>intro g4
    .have aB:o.ib c.bP[k]=true:=by unfold o.ib;rw[decide_eq_true_eq];omega
     refine aa ?_;exact⟨a7,aK,true,a6,aD.trans bc,by simpa[aB] using aP⟩
    have aB:o.ib c.bP[k]=decide (c.bP[k].kind=5):=by unfold o.ib;rw[AG4,decide_eq_true_eq,decide_eq_true_eq];omega
    rw[Bool.false_or,aB] at aP;refine aa ?_;exact⟨a7,aK,decide (c.bP[k].kind=5),a6,aD.trans bc,aP⟩
   .rw[AE9 Ad] at aP;refine aa ?_;exact⟨by rw[aS,aP];rfl,ec aD⟩
theorem asA(p:o.dt)(G9 cs:C_ B_)(s:o.Scope)(w:A_)(ar:o.yc w G9 p)(h:o.gg w cs s)(aG:s.cv)(pD:p.cv) :
  Du F.LF #[.agg G9.toArray,.agg cs.toArray] w λv w'=>v = .tuple #[.I (o.h8 p s).1,.I (o.h8 p s).2.1,.I (o.h8 p s).2.2]/\Ext w w':=by
 obtain⟨a0,bz,db,c1,a2,c2,a3,d3,a4,d4,rfl,ad,h1,I,ab,aC,eu,dz,dJ,dR,ee⟩:=h.form;obtain⟨aw,qk,r4,rfl,aF,nZ⟩:=ar;obtain⟨bV,bu,rfl,e6⟩:=aF.form;obtain⟨b1,bB,rfl,lc⟩:=nZ.form;refine bl E.LF ?_;refine aa ?_;intro w1 bx cN ag al;refine aa ?_;intro aA bQ c7 ai ao;replace al:=ai.obj al;have df:∀{w'},Ext aA w'->Ext w w':=λe=>(ag.trans ai).trans e;refine aa ?_;refine J_ (DO p.name aA aw) ?_;rintro u aM ⟨hu,ah⟩;replace al:=ah.obj al;replace ao:=ah.obj ao;have fr:∀{w'},Ext aM w'->Ext w w':=λe=>df (ah.trans e);have bb:∀n,o.whole p s=n->n≠0->o.h8 p s=(0,0,n):=λn e ad=>by unfold o.h8;rw[e,if_pos ad]
 cases gj:o.isName p.name with
 | false =>
  rw[gj] at hu;subst hu;refine aa ?_;exact⟨by rw[bb 6 (by unfold o.whole;rw[if_pos gj]) By],fr (Ext.refl _)⟩
 | true =>
  rw[gj] at hu;subst hu;have qc:¬o.isName p.name=false:=by rw[gj];simp
  refine aa ?_;apply I_<;>intro g1
  .refine aa ?_;exact⟨by rw[bb 8 (by unfold o.whole;rw[if_neg qc,if_pos (.inl g1)]) By],fr (Ext.refl _)⟩
  refine aa ?_;apply I_<;>intro g2
  .refine aa ?_;exact⟨by rw[bb 8 (by unfold o.whole;rw[if_neg qc,if_pos (.inr Ad)]) By],fr (Ext.refl _)⟩
  have kQ:¬(p.over<0\/(s.scalars.length:Int)<p.over):=Ad
  refine aa ?_;apply I_<;>intro g3
  .refine aa ?_;exact⟨by rw[bb 10 (by unfold o.whole;rw[if_neg qc,if_neg kQ,if_pos (.inl g3)]) By],fr (Ext.refl _)⟩
  refine aa ?_;apply I_<;>intro g4
  .refine aa ?_;exact⟨by rw[bb 10 (by unfold o.whole;rw[if_neg qc,if_neg kQ,if_pos (.inr Ad)]) By],fr (Ext.refl _)⟩
  have ka:¬(p.cm<1\/12<p.cm):=Ad
  refine aa ?_;apply I_<;>intro g5
  .refine aa ?_;exact⟨by rw[bb 11 (by unfold o.whole;rw[if_neg qc,if_neg kQ,if_neg ka,if_pos Ad]) By],fr (Ext.refl _)⟩
  have aS:o.h8 p s=if (o.lW p s).2≠0 then (1,(o.lW p s).1,(o.lW p s).2) else o.l9 (o.inner p s) p.cm p.c0 p.c0 0:=by
   unfold o.h8;rw[if_neg];unfold o.whole;rw[if_neg qc,if_neg kQ,if_neg ka,if_neg Ad];simp
  clear bb;refine aa ?_;refine J_ (ad5 _ _ p.vars s.scalars 4 aM (aF.ext (fr (Ext.refl _))) (ad.ext (fr (Ext.refl _)))) ?_;rintro _ aU ⟨rfl,aq⟩;replace al:=aq.obj al;replace ao:=aq.obj ao;have ec:∀{w'},Ext aU w'->Ext w w':=λe=>fr (aq.trans e);refine aa ?_;apply I_<;>intro g6;rotate_left
  .have aE:o.lW p s=o.vars p.vars s.scalars 4:=by unfold o.lW;rw[if_pos g6]
   rw[aE,if_pos g6] at aS;refine aa ?_;exact⟨by rw[aS],ec (Ext.refl _)⟩
  have aE:o.lW p s=o.q7 s p.vars 0:=by unfold o.lW;rw[if_neg (by simpa using g6)]
  rw[aE] at aS;refine aa ?_;refine L_ 9 p.vars.length [2,3] (λ_:Unit=>[]) () (λk _ w'=>Ext aU w'/\o.q7 s p.vars 0=o.q7 s (p.vars.drop k) k) a6 a6 ⟨Ext.refl _,CC⟩ ?_;rintro k _ S bh hk ⟨av,aP⟩;replace al:=av.obj al;replace ao:=av.obj ao;refine aa ?_;apply I_<;>intro g7
  .have a7:k<p.vars.length:=Ad
   obtain⟨a,rfl⟩:=aF.addr;have dH:=((aF.at k a7).cells).ext (ec av);rw[o.acP a7] at aP;refine aa ?_;apply I_<;>intro g8;rotate_left
   .rw[if_pos g8] at aP;refine aa ?_;exact⟨by rw[aS,aP];rfl,ec av⟩
   rw[if_neg (by simpa using g8)] at aP;refine aa ?_;refine L_ 10 s.vars.length [2,3,9] (λ_:Unit=>[]) () (λj _ w'=>Ext bh w'/\∀t (aB:t<s.vars.length),t<j->¬s.vars[t].name=p.vars[k].name) a6 a6 ⟨Ext.refl _,λ_ _ h=>absurd h (HI _)⟩ ?_;rintro j _ aZ bq az ⟨aD,rL⟩;replace al:=aD.obj al;replace ao:=aD.obj ao;have gV:∀{w'},Ext bq w'->Ext w w':=λe=>ec ((av.trans aD).trans e);refine aa ?_;apply I_<;>intro g9
   .have eP:j<s.vars.length:=Ad
    obtain⟨cx,rfl⟩:=h1.addr;have gu:=((h1.at j eP).cells).ext (gV (Ext.refl _));replace dH:=dH.ext aD;refine aa ?_;intro bH bc;replace al:=bc.obj al;replace ao:=bc.obj ao;refine aa ?_;apply I_<;>intro g10
    .have Ay:s.vars.any (λx=>decide (x.name=p.vars[k].name))=true:=List.any_eq_true.2 ⟨s.vars[j],ED _,by simpa using g10⟩;rw[if_pos Ay] at aP;refine aa ?_;exact⟨by rw[aS,aP];rfl,gV bc⟩
    .refine aa ?_;exact⟨eP,aK,(),trivial,aD.trans bc,λt aB h=>by
      by_cases e:t=j
      .subst e;exact g10
      .exact rL t aB Ad⟩
   .have Ay:¬s.vars.any (λx=>decide (x.name=p.vars[k].name))=true:=by
     intro cR;obtain⟨x,af,gT⟩:=List.any_eq_true.1 cR;obtain⟨t,aB,rfl⟩:=List.mem_iff_getElem.1 af;exact rL t aB Ad (by simpa using gT)
    rw[if_neg Ay] at aP;refine aa ?_;exact⟨a7,aK,(),trivial,av.trans aD,aP⟩
  rw[AE9 Ad] at aP;replace aS:o.h8 p s=o.l9 (o.inner p s) p.cm p.c0 p.c0 0:=by rw[aS,aP];rfl
  clear aP aE;have en:∀w',Ext w w'->o.gg w' [.slice a0 s.scalars.length bz,.slice db s.vars.length c1,.slice a2 s.ax.length c2,.slice a3 s.procs.length d3,.slice bV p.vars.length bu,.I p.over] (o.inner p s):=λw' e =>
   ⟨(aG.inner pD).r7.1,_,_,_,_,_,rfl,ad.ext e,h1.ext e,I.ext e,ab.ext e,aF.ext e,(aG.inner pD).r7.2⟩
  refine aa ?_;intro bq bW eX aD ba;replace al:=aD.obj al;replace ao:=aD.obj ao;have gV:∀{w'},Ext bq w'->Ext w w':=λe=>ec ((av.trans aD).trans e);refine aa ?_;refine L_ 12 p.c0.length [2,3,11] (λ_:Unit=>[]) () (λk _ w'=>Ext bq w'/\o.l9 (o.inner p s) p.cm p.c0 p.c0 0=o.l9 (o.inner p s) p.cm p.c0 (p.c0.drop k) k) a6 a6 ⟨Ext.refl _,CC⟩ ?_;rintro k _ S bH hk ⟨bc,aP⟩;replace al:=bc.obj al;replace ao:=bc.obj ao;replace ba:=bc.obj ba;have fZ:∀{w'},Ext bH w'->Ext w w':=λe=>gV (bc.trans e);refine aa ?_;apply I_<;>intro g7
  .have a7:k<p.c0.length:=Ad
   obtain⟨a,rfl⟩:=nZ.addr;obtain⟨aj,fi,va,e2,y8,xf⟩:=nZ.at k a7;obtain⟨fA,fL,rfl,apc⟩:=y8.form;obtain⟨aN,fs,rfl,qg⟩:=xf.form;rw[o.Yi a7] at aP;replace e2:=e2.ext (fZ (Ext.refl _));refine aa ?_;refine P_ (.tuple #[.I (o.j0 p.c0[k] p.cm (o.inner p s)).1,.I (o.j0 p.c0[k] p.cm (o.inner p s)).2]) (λw' e=>arV p.c0[k] _ _ p _ _ _ (o.inner p s) w' aj (y8.ext (fZ e)) (xf.ext (fZ e)) (aF.ext (fZ e)) (nZ.ext (fZ e)) (en _ (fZ e))) ?_;refine aa ?_;intro cB bt;replace al:=bt.obj al;replace ao:=bt.obj ao;replace ba:=bt.obj ba;replace e2:=e2.ext bt;have hG:∀{w'},Ext cB w'->Ext w w':=λe=>fZ (bt.trans e);refine aa ?_;apply I_<;>intro g8;rotate_left
   .rw[if_pos g8] at aP;refine aa ?_;exact⟨by rw[aS,aP],hG (Ext.refl _)⟩
   rw[if_neg (by simpa using g8)] at aP;refine aa ?_;refine L_ 15 k [2,3,11,12] (λ_:Unit=>[]) () (λj _ w'=>Ext cB w'/\∀t (aB:t<p.c0.length),t<j->¬p.c0[t].name=p.c0[k].name) a6 a6 ⟨Ext.refl _,λ_ _ h=>absurd h (HI _)⟩ ?_;rintro j _ aZ cG az ⟨b2,rL⟩;replace al:=b2.obj al;replace ao:=b2.obj ao;replace ba:=b2.obj ba;have fw:∀{w'},Ext cG w'->Ext w w':=λe=>hG (b2.trans e);refine aa ?_;apply I_<;>intro g9
   .have eP:j<p.c0.length:=Ad
    obtain⟨_,axR,Ny,aaq,_,_⟩:=nZ.at j eP;replace aaq:=aaq.ext (fw (Ext.refl _));replace e2:=e2.ext b2;refine aa ?_;intro ew cj;replace al:=cj.obj al;replace ao:=cj.obj ao;replace ba:=cj.obj ba;refine aa ?_;apply I_<;>intro g10
    .have Ay:(p.c0.take k).any (λx=>decide (x.name=p.c0[k].name))=true:=List.any_eq_true.2 ⟨p.c0[j],by rw[List.mem_iff_getElem];exact⟨j,by simp;omega,CC⟩,by simpa using g10⟩;rw[if_pos Ay] at aP;refine aa ?_;exact⟨by rw[aS,aP],fw cj⟩
    .refine aa ?_;exact⟨Ad,aK,(),trivial,b2.trans cj,λt aB h=>by
      by_cases e:t=j
      .subst e;exact g10
      .exact rL t aB Ad⟩
   .have Ay:¬(p.c0.take k).any (λx=>decide (x.name=p.c0[k].name))=true:=by
     intro cR;obtain⟨x,af,gT⟩:=List.any_eq_true.1 cR;obtain⟨t,aB,rfl⟩:=List.mem_iff_getElem.1 af;have anZ:t<k/\t<p.c0.length:=by simp at aB;omega
     exact rL t anZ.2 Ad (by simpa using gT)
    rw[if_neg Ay] at aP;refine aa ?_;exact⟨a7,aK,(),trivial,(bc.trans bt).trans b2,aP⟩
  .rw[AE9 Ad] at aP;refine aa ?_;exact⟨by rw[aS,aP];rfl,fZ (Ext.refl _)⟩
def asb(cs:C_ B_)(m:o.Model)(k:Nat)(w:A_)(h:o.dj w cs m)(aG:m.cv)(hk:k<m.procs.length)(Gd:k<=6)(Kf:m.scalars.length<=2/\m.vars.length<=12/\m.ax.length<=4)(anw:k<6->∀j,j<k->(o.iS m j).1=0) :
  Du F.LP #[.agg cs.toArray,.I k] w λv w'=>v=uZ (if (o.iS m k).1≠0 then ⟨(o.iS m k).1,4,k,(o.iS m k).2⟩ else o.u0)/\Ext w w':=by
 have aL:=h;obtain⟨b0,bz,bO,c1,bT,c2,bV,bu,b1,bB,rfl,ad,h1,I,ab,aC,eu,dz,dJ,dR,ee⟩:=h.form;have eF:=o.PG hk;refine bl E.LP ?_;refine aa ?_;intro w1 bx cN ag al;refine aa ?_;intro aA bQ c7 ai ao;replace al:=ai.obj al;have aH:=ag.trans ai;have fQ:=cq al;have z2:=ag.size;refine aa ?_;apply I_<;>intro g1
 .rw[if_pos Ad] at eF;refine aa ?_;intro aM fE ba;refine aa ?_;exact⟨by rw[eF];rfl,fE.ext aH Ad⟩
 rw[if_neg Ad] at eF;obtain⟨a,rfl⟩:=ab.addr;obtain⟨kr,bY,dV,ar,eQ,c3⟩:=ab.at k hk;obtain⟨ei,eW,rfl,e6⟩:=eQ.form;obtain⟨o6,oM,rfl,lc⟩:=c3.form;have pD:=aG.proc _ (ED hk);replace ar:=ar.ext aH;refine aa ?_;intro aM dF jt ah bI;replace al:=ah.obj al;replace ao:=ah.obj ao;refine aa ?_;intro aU aq;replace al:=aq.obj al;replace ao:=aq.obj ao;replace bI:=aq.obj bI;have bn:=(aH.trans ah).trans aq;refine aa ?_;refine J_ (asf (w0:=w) _ m k aU aL bn aG) ?_;rintro _ bh ⟨⟨aiw,rfl,mj⟩,av⟩;refine⟨av,?_⟩;have bC:=bn.trans av;obtain⟨kT,HM,ie,jR,ji,jF,nd,sc,mu,Ea,rfl,_⟩:=(mj _ bC).form;refine aa ?_;refine J_ (asA m.procs[k] _ _ (o.hv m k) bh ⟨kr,_,_,rfl,eQ.ext bC,c3.ext bC⟩ (mj _ bC) (aG.hv _) pD) ?_;rintro _ bq ⟨rfl,aD⟩;replace al:=(av.trans aD).obj al;replace ao:=(av.trans aD).obj ao;replace bI:=(av.trans aD).obj bI;have b6:=bC.trans aD;clear aH bn ar;have en:=o.adB m.procs[k] (o.hv m k) 140737488351232 λc an=>by have:=(pD.cmd c an).bP;unfold o.ep at this;omega
 have an5:m.procs[k].vars.length<=140737488351232:=by have:=pD.vars;unfold o.ep at this;omega
 have pz:m.procs[k].c0.length<=140737488351232:=by have:=pD.c0;unfold o.ep at this;omega
 refine aa ?_;apply I_<;>intro g2;rotate_left
 .rw[if_pos g2] at eF;refine aa ?_;intro bH dw bZ;refine aa ?_;exact⟨by rw[eF,if_pos g2];rfl,dw.ext b6 Ad⟩
 rw[if_neg (by simpa using g2)] at eF;have hlen:∀(i:Int),m.scalars.length+o.cY 1 4 i m.vars.length+o.cY 2 4 i m.ax.length+o.cY 3 4 k m.procs.length+o.ic 4 i m.props.length<=8000000000000:=λi=>by
  have c5:=o.xT 1 4 i m.vars.length;have dA:=o.xT 2 4 i m.ax.length;have ea:o.cY 3 4 k m.procs.length<=k:=by unfold o.cY; (repeat' split)<;>omega
  have hg:o.ic 4 i m.props.length=0:=by unfold o.ic;rw[if_neg By]
  omega
 refine aa ?_;intro bH bc;replace al:=bc.obj al;replace ao:=bc.obj ao;replace bI:=bc.obj bI;have cM:=b6.trans bc;refine aa ?_;refine J_ (EA _ m 4 k bH (aL.ext cM) Ad Ad (hlen k)) ?_;rintro _ cB ⟨⟨v,rfl,gx⟩,bt⟩;refine⟨bt,?_⟩;rw[o.agE] at gx;replace al:=bt.obj al;replace ao:=bt.obj ao;replace bI:=bt.obj bI;have eN:=cM.trans bt;refine aa ?_;refine J_ (FH v _ m.procs[k].name _ cB gx) ?_;rintro _ pc ⟨rfl,rfl⟩;refine aa ?_;apply I_<;>intro g3
 .rw[if_pos g3] at eF;refine aa ?_;intro cG gy cE;refine aa ?_;exact⟨by rw[eF];rfl,gy.ext eN Ad⟩
 rw[if_neg g3] at eF;have sM:m.procs.length*80<=140737488355328:=by have:=aG.procs;unfold o.ep at this;omega
 have Gh:m.scalars.length+o.cY 1 5 (0:Nat) m.vars.length+o.cY 2 5 (0:Nat) m.ax.length+o.cY 3 5 (0:Nat) m.procs.length+o.ic 5 (0:Nat) m.props.length<=8000000000000:=by
  have c5:=o.xT 1 5 (0:Nat) m.vars.length;have dA:=o.xT 2 5 (0:Nat) m.ax.length;have ea:=o.xT 3 5 (0:Nat) m.procs.length;have hg:o.ic 5 (0:Nat) m.props.length=0:=by unfold o.ic;rw[if_pos By];simp
  omega
 have yP:=al;have AB:=ao;have aae:=bI;clear al ao bI gx;have al:=yP;have bI:=aae;refine aa ?_;refine L_ 9 m.procs[k].vars.length [1,2,4,5] (λ_:Unit=>[]) () (λj _ w'=>Ext pc w'/\∀i,i<j->o.rI m m.procs[k] i=0) a6 a6 ⟨Ext.refl _,λj h=>absurd h (HI _)⟩ ?_;clear al bI;rintro j _ S cG az ⟨b2,bA⟩;have al:=b2.obj yP;have ao:=b2.obj AB;have bI:=b2.obj aae;have fW:=eN.trans b2;refine aa ?_;apply I_<;>intro g4
 .have eP:j<m.procs[k].vars.length:=Ad
  obtain⟨cx,rfl⟩:=eQ.addr;have dH:=((eQ.at j eP).cells).ext fW;have gj:=o.DB (f:=λx:o.Var=>x.name) eP;refine aa ?_;intro ew cj;replace al:=cj.obj al;replace ao:=cj.obj ao;replace bI:=cj.obj bI;replace dH:=dH.ext cj;have kF:=fW.trans cj;refine aa ?_;refine J_ (EA _ m 5 (0:Nat) ew (aL.ext kF) Ad Ad Gh) ?_;rintro _ fB ⟨⟨v2,rfl,Gn⟩,ek⟩;refine⟨ek,?_⟩;rw[o.XH] at Gn;replace al:=ek.obj al;replace ao:=ek.obj ao;replace bI:=ek.obj bI;have uU:=kF.trans ek;refine aa ?_;refine J_ (FH v2 _ m.procs[k].vars[j].name _ fB Gn) ?_;rintro _ BH ⟨rfl,rfl⟩;have dv:o.sU m 0=o.jz m m.procs.length:=by simp[o.sU]
  rw[dv];refine aa ?_;apply I_<;>intro g5
  .have tK:o.rI m m.procs[k] j=7:=by unfold o.rI;rw[gj,if_pos g5]
   rw[o.jG eP bA (by rw[tK];decide),tK,if_pos (show(7:Int)≠0 by decide)] at eF;refine aa ?_;intro hx lS h5;refine aa ?_;exact⟨by rw[eF];rfl,lS.ext uU Ad⟩
  .refine aa ?_;refine⟨eP,aK,(),trivial,(b2.trans cj).trans ek,λi U=>?_⟩;by_cases Db:i=j
   .subst Db;unfold o.rI;rw[gj,if_neg g5]
   .exact bA i Ad
 .rw[o.p3 λi U=>bA i Ad,if_neg CC] at eF;refine aa ?_;intro ew pF h4;refine aa ?_;exact⟨by rw[eF];rfl,pF.ext fW Ad⟩
def asc(cs:C_ B_)(m:o.Model)(k:Nat)(w:A_)(h:o.dj w cs m)(aG:m.cv)(hk:k<m.props.length)(aa0:k<=8)(Kf:m.scalars.length<=2/\m.vars.length<=12/\m.ax.length<=4)(anw:m.procs.length<=6) :
  Du F.LQ #[.agg cs.toArray,.I k] w λv w'=>v = .I (o.nV m k)/\Ext w w':=by
 have aL:=h;obtain⟨b0,bz,bO,c1,bT,c2,bV,bu,b1,bB,rfl,ad,h1,I,ab,aC,eu,dz,dJ,dR,ee⟩:=h.form;have eF:=o.Fe hk;refine bl E.LQ ?_;refine aa ?_;intro w1 bx cN ag al;refine aa ?_;apply I_<;>intro g1
 .rw[if_pos Ad] at eF;refine aa ?_;exact⟨by rw[eF],ag⟩
 rw[if_neg Ad] at eF;obtain⟨a,rfl⟩:=aC.addr;obtain⟨kr,gP,ar,hd⟩:=aC.at k hk;obtain⟨MM,ce,rfl,le⟩:=hd.form;replace ar:=ar.ext ag;refine aa ?_;intro aA dF jt ai bI;replace al:=ai.obj al;have aH:=ag.trans ai;refine aa ?_;refine J_ (DO m.props[k].name aA kr) ?_;rintro _ aM ⟨rfl,ah⟩;replace al:=ah.obj al;replace bI:=ah.obj bI;have aR:=aH.trans ah;refine aa ?_;refine N_ (λg2=>?_) (λg2=>?_);rotate_left
 .rw[if_pos g2] at eF;refine aa ?_;exact⟨by rw[eF],aR⟩
 rw[if_neg (by rw[g2];decide)] at eF;refine aa ?_;intro aU aq;replace al:=aq.obj al;replace bI:=aq.obj bI;have bn:=aR.trans aq;refine aa ?_;refine J_ (EA _ m 5 k aU (aL.ext bn) Ad Ad (by
  have c5:=o.xT 1 5 k m.vars.length;have dA:=o.xT 2 5 k m.ax.length;have ea:=o.xT 3 5 k m.procs.length;have hg:o.ic 5 k m.props.length<=k:=by unfold o.ic; (repeat' split)<;>omega
  omega)) ?_
 rintro _ bh ⟨⟨v2,rfl,Gn⟩,av⟩;refine⟨av,?_⟩;rw[o.XH] at Gn;replace al:=av.obj al;replace bI:=av.obj bI;have bC:=bn.trans av;refine aa ?_;refine J_ (FH v2 _ m.props[k].name _ bh Gn) ?_;rintro _ BH ⟨rfl,rfl⟩;refine aa ?_;apply I_<;>intro g3
 .rw[if_pos g3] at eF;refine aa ?_;exact⟨by rw[eF],bC⟩
 rw[if_neg g3] at eF;have mj:∀w',Ext w w'->o.gg w' [.slice b0 m.scalars.length bz,.slice bO m.vars.length c1,.slice bT m.ax.length c2,.slice bV m.procs.length bu,.slice none 0 0,.I 0] (o.ev m):=λw' e =>
  ⟨aG.scope.r7.1,_,_,_,_,_,rfl,ad.ext e,h1.ext e,I.ext e,ab.ext e,bm.nil,aG.scope.r7.2⟩
 refine aa ?_;refine J_ (ad4 _ m.props[k].expr _ (o.ev m) _ (hd.ext bC) (mj _ bC)) ?_;rintro _ bq ⟨rfl,aD⟩;refine aa ?_;apply I_<;>intro g4;rotate_left
 .rw[if_pos g4] at eF;refine aa ?_;exact⟨by rw[eF],bC.trans aD⟩
 rw[if_neg (by simpa using g4)] at eF;refine aa ?_;apply I_<;>intro g5;rotate_left
 .rw[if_pos g5] at eF;refine aa ?_;exact⟨by rw[eF],bC.trans aD⟩
 rw[if_neg (by simpa using g5)] at eF;refine aa ?_;exact⟨by rw[eF],bC.trans aD⟩
def Hm(cs:C_ B_)(m:o.Model)(w:A_)(h:o.dj w cs m)(aG:m.cv) :
  Du F.LI #[.agg cs.toArray] w λv w'=>v=uZ (o.check m)/\Ext w w':=by
 have aL:=h;obtain⟨b0,bz,bO,c1,bT,c2,bV,bu,b1,bB,rfl,ad,h1,I,ab,aC,eu,dz,dJ,dR,ee⟩:=h.form;refine bl E.LI ?_;simp -dsimp only[cH];refine dS ?_;intro w1 bx cN ag al;refine dS ?_;intro aA bQ c7 ai ao;replace al:=ai.obj al;have aH:=ag.trans ai;have fQ:=cq al;have z2:=cq ao;have z3:=ag.size;refine dS ?_;simp -dsimp only[cH];refine dS ?_;refine J_ (ar7 _ m aA (aL.ext aH)) ?_;rintro _ aM ⟨rfl,ah⟩;replace al:=ah.obj al;replace ao:=ah.obj ao;unfold uZ;have z4:=ai.size;have z5:=ah.size;refine dS ?_;intro aU bW eX aq ba;replace al:=aq.obj al;replace ao:=aq.obj ao;have bn:=(aH.trans ah).trans aq;have uz:=cq ba;have yP:=al;have AB:=ao;have CT:=aL.ext bn;refine dS ?_;refine R_ [1,2,3] (λ_:o.tc=>[]) (λf w'=>Mod (λi=>i=bW) aU w'/\w'.heap[bW]? = some (.cells #[.I f.cJ,.I f.part,.I f.item,.I f.sub] T.x) /\
  ((f.cJ≠0/\f=o.check m)\/(f.cJ=0/\(o.data m).cJ=0/\∀j,j<m.procs.length->(o.iS m j).1=0))) ?_ ?_
 .refine aa ?_;refine L_ 4 m.procs.length [1,2,3] (λ_:o.tc=>[]) (o.data m) (λk f w'=>Mod (λi=>i=bW) aU w'/\w'.heap[bW]? = some (.cells #[.I f.cJ,.I f.part,.I f.item,.I f.sub] T.x) /\
   ((f=o.data m/\(o.data m).cJ≠0)\/((o.data m).cJ=0/\f.cJ=0/\∀j,j<k->(o.iS m j).1=0)\/((o.data m).cJ=0/\f=o.mV m/\(o.mV m).cJ≠0))) a6 a6 ⟨Mod.refl _ _,ba,by
     by_cases h:(o.data m).cJ=0
     .exact .inr (.inl ⟨h,h,λj h=>absurd h (HI _)⟩)
     .exact .inl ⟨rfl,h⟩⟩ ?_
  clear al ao ba;rintro k f S bh hk ⟨m5,ba,ay⟩;have al:=m5.obj Ad yP;have ao:=m5.obj Ad AB;have bC:=m5.ext bn (λi U e=>Ad);have Ze:f.cJ≠0->(f.cJ≠0/\f=o.check m):=λhw=>⟨hw,by
   rcases ay with ⟨rfl,h⟩ | ⟨_,h,_⟩ | ⟨h1,rfl,I⟩
   .rw[o.check,if_pos h]
   .exact absurd h hw
   .rw[o.check,if_neg (by simpa using h1),if_pos I]⟩
  refine aa ?_;apply I_<;>intro g1
  .have a7:k<m.procs.length:=Ad
   refine aa ?_;apply I_<;>intro g2
   .have mN:(o.data m).cJ=0/\f.cJ=0/\∀j,j<k->(o.iS m j).1=0:=by
     rcases ay with ⟨rfl,h⟩ | h | ⟨h1,rfl,I⟩
     .exact absurd g2 h
     .exact h
     .exact absurd g2 I
    have Gd:k<=6:=by
     apply Classical.byContradiction;intro aw
     have:=o.Jl (m:=m) (i:=6) Ad (mN.2.2 6 Ad)
     omega
    refine aa ?_;refine J_ (asb _ m k bh (aL.ext bC) aG a7 Gd (o.IX mN.1) λ_=>mN.2.2) ?_;rintro _ bq ⟨rfl,aD⟩;unfold uZ;replace al:=aD.obj al;replace ao:=aD.obj ao;replace ba:=aD.obj ba;refine aa ?_;intro bH dw bZ;refine aa ?_;refine⟨a7,aK,_,trivial,(m5.trans aD.mod).trans (dw.mod rfl),bZ,?_⟩;by_cases ad:(o.iS m k).1=0
    .rw[if_neg (by simpa using ad)];refine .inr (.inl ⟨mN.1,rfl,λj az=>?_⟩);by_cases ha:j=k
     .subst ha;exact ad
     .exact mN.2.2 j Ad
    .rw[if_pos ad]
     have:=o.Hc a7 mN.2.2 ad
     exact .inr (.inr ⟨mN.1,this.symm,by rw[this];exact ad⟩)
   .refine aa ?_;exact⟨f,trivial,m5,ba,.inl (Ze g2)⟩
  .refine aa ?_;refine⟨f,trivial,m5,ba,?_⟩;by_cases hw:f.cJ=0
   .refine .inr ?_;rcases ay with ⟨rfl,h⟩ | ⟨h1,I,ab⟩ | ⟨h1,rfl,I⟩
    .exact absurd hw h
    .exact⟨I,h1,λj az=>ab j Ad⟩
    .exact absurd hw I
   .exact .inl (Ze hw)
 clear al ao ba;rintro f S bh ⟨m5,ba,ay⟩;have al:=m5.obj Ad yP;have ao:=m5.obj Ad AB;have bC:=m5.ext bn (λi U e=>Ad);refine aa ?_;apply I_<;>intro g1;rotate_left
 .have me:f=o.check m:=by
   rcases ay with ⟨_,h⟩ | ⟨h,_⟩
   .exact h
   .exact absurd h g1
  refine aa ?_;intro bq gE bS;refine aa ?_;exact⟨by rw[me],gE.ext bC Ad⟩
 have c8:(o.data m).cJ=0/\∀j,j<m.procs.length->(o.iS m j).1=0:=by
  rcases ay with ⟨h,_⟩ | ⟨_,h⟩
  .exact absurd g1 h
  .exact h
 obtain⟨bb,nt⟩:=c8;have Kf:=o.IX bb;have sM:m.procs.length<=6:=by
  apply Classical.byContradiction;intro aw
  have:=o.Jl (i:=6) Ad (nt 6 Ad)
  omega
 have p9:o.vT m:=⟨Ad,Ad,Ad,λp ar=>by
  obtain⟨j,az,rfl⟩:=List.mem_iff_getElem.1 ar
  have:=o.Tl (o.Fc az (nt j az)).2.1
  omega⟩
 have rY:=o.Tm nt;have me:o.check m=if (o.mV m).cJ≠0 then o.mV m else o.qj m:=by rw[o.check,if_neg (by simpa using bb)]
 clear ba;refine aa ?_;refine J_ (asa _ m bh (aL.ext bC) p9) ?_;rintro _ bq ⟨rfl,aD⟩;replace al:=aD.obj al;replace ao:=aD.obj ao;have b6:=bC.trans aD;refine aa ?_;apply I_<;>intro g2
 .rw[if_pos (.inl Ad)] at rY;rw[rY,if_pos (show(11:Int)≠0 by decide)] at me;refine aa ?_;intro bH dw bZ;refine aa ?_;exact⟨by rw[me];rfl,dw.ext b6 Ad⟩
 refine aa ?_;apply I_<;>intro g3
 .rw[if_pos (.inr Ad)] at rY;rw[rY,if_pos (show(11:Int)≠0 by decide)] at me;refine aa ?_;intro bH dw bZ;refine aa ?_;exact⟨by rw[me];rfl,dw.ext b6 Ad⟩
 rw[if_neg Ad] at rY;rw[rY,if_neg (by simp[o.u0])] at me;have alK:=al;have alM:=ao;refine aa ?_;refine L_ 8 m.props.length [1,2] (λ_:Unit=>[]) () (λk _ w'=>Ext bq w'/\∀j,j<k->o.nV m j=0) a6 a6 ⟨Ext.refl _,λj h=>absurd h (HI _)⟩ ?_;clear al ao;rintro k _ jW bH hk ⟨bc,bA⟩;have al:=bc.obj alK;have ao:=bc.obj alM;have cM:=b6.trans bc;refine aa ?_;apply I_<;>intro g4
 .have a7:k<m.props.length:=Ad
  have aa0:k<=8:=by
   apply Classical.byContradiction;intro aw
   have:=o.aja (m:=m) (i:=8) Ad (bA 8 Ad)
   omega
  refine aa ?_;refine J_ (asc _ m k bH (aL.ext cM) aG a7 aa0 Kf sM) ?_;rintro _ cB ⟨rfl,bt⟩;replace al:=bt.obj al;replace ao:=bt.obj ao;refine aa ?_;apply I_<;>intro g5;rotate_left
  .rw[o.adF a7 bA g5] at me;refine aa ?_;intro cG gy cE;refine aa ?_;exact⟨by rw[me];rfl,gy.ext (cM.trans bt) Ad⟩
  .refine aa ?_;refine⟨a7,aK,(),trivial,bc.trans bt,λj az=>?_⟩;by_cases ha:j=k
   .subst ha;simpa using g5
   .exact bA j Ad
 .rw[o.Tp λj az=>bA j Ad] at me;refine aa ?_;intro cB ja cD;refine aa ?_;exact⟨by rw[me];rfl,ja.ext cM Ad⟩
end Go.Proofs.R
namespace a8
open Go Go.RowKit
def vI(l:C_ ByteArray):C_ (ByteArray×B_):=l.map λx=>(x,.bool true)
theorem as0(l:C_ ByteArray)(x:ByteArray):((vI l).find? (λp=>decide (x=p.1))).map (·.2)=if x∈l then some (.bool true) else none:=by
 induction l with
 | nil=>rfl
 | cons y l fm =>
  simp only[vI,List.map_cons,List.find?_cons,List.mem_cons];by_cases h:x=y
  .simp[h]
  .simp only[h,decide_false,false_or];exact fm
structure BW(es:Array MapEntry)(c:Nat)(L:List ByteArray):Prop where
 Bc:∃l,iM Value.string es.toList (vI l)/\∀x,x∈l↔x∈L
 born:∀e∈es.toList,e.born<c
 nodup:(es.toList.map (·.born)).Nodup
theorem iM.mem{l:C_ ByteArray}:∀{es:C_ MapEntry},iM Value.string es (vI l)->∀e∈es,∃x∈l,e.key = .string x/\e.val = .bool true:=by
 induction l with
 | nil=>intro es h e he;cases es with | nil=>cases he | cons _ _=>simp[iM,vI] at h
 | cons y l fm =>
  intro es h e he;cases es with
  | nil=>cases he
  | cons f es =>
   simp only[iM,vI,List.map_cons,List.cons.injEq,Prod.mk.injEq] at h;rcases List.mem_cons.1 he with rfl | he
   .exact⟨y,CC,h.1.1,h.1.2⟩
   .obtain⟨x,af,I⟩:=fm (es:=es) h.2 e he;exact⟨x,by simp[af],I⟩
theorem iM.S9{l:C_ ByteArray}:∀{es:C_ MapEntry},iM Value.string es (vI l)->∀x∈l,∃e∈es,e.key = .string x:=by
 induction l with
 | nil=>intro es h x af;cases af
 | cons y l fm =>
  intro es h x af;cases es with
  | nil=>simp[iM,vI] at h
  | cons f es =>
   simp only[iM,vI,List.map_cons,List.cons.injEq,Prod.mk.injEq] at h;rcases List.mem_cons.1 af with rfl | af
   .exact⟨f,CC,h.1.1⟩
   .obtain⟨e,he,I⟩:=fm (es:=es) h.2 x af;exact⟨e,by simp[he],I⟩
def BW.mem{es:Array MapEntry}{c:Nat}{L:C_ ByteArray}(h:BW es c L):∀e∈es.toList,∃x∈L,e.key = .string x/\e.val = .bool true:=λe he=>by
 obtain⟨l,h1,I⟩:=h.Bc;obtain⟨x,af,ab⟩:=h1.mem e he;exact⟨x,(I x).1 af,ab⟩
def BW.S9{es:Array MapEntry}{c:Nat}{L:C_ ByteArray}(h:BW es c L):∀x∈L,∃e∈es.toList,e.key = .string x:=λx af=>by
 obtain⟨l,h1,I⟩:=h.Bc;exact h1.S9 x ((I x).2 af)
theorem PQ{d:TypeDesc}{k:B_}:∀{es:C_ MapEntry} {i j:Nat} {v:B_},Instr.findNow d k es i=some (some (j,v))->i<=j/\∃e,es[j - i]? = some e/\Instr.sameNow d k e.key=some true
 | [],i,j,v,h=>by simp[Instr.findNow] at h
 | e :: es,i,j,v,h=>by
  unfold Instr.findNow at h;split at h
  .rename_i aj;injection h with h;injection h with h;injection h with h1 I
   subst h1;exact⟨EC _,e,CC,aj⟩
  .obtain⟨h1,e',I,ab⟩:=PQ h;refine⟨Ad,e',?_,ab⟩;rw[show j - i=(j - (i+1))+1 from Ad,List.getElem?_cons_succ];exact I
  .cases h
def apA{es:Array MapEntry}{j:Nat}{e:MapEntry}{f:MapEntry->MapEntry}(az:es[j]? = some e)(ay:f e=e):es.modify j f=es:=by
 apply Array.ext_getElem?;intro i;rw[Array.getElem?_modify];by_cases h:j=i
 .subst h;rw[if_pos rfl,az,AG3,ay]
 .rw[if_neg h]
def gh(w:A_)(b:Nat)(L:C_ ByteArray):Prop := ∃es c,w.heap[b]? = some (.map es c)/\BW es c L
theorem gh.of{w w':A_}{b:Nat}{L:C_ ByteArray}(h:gh w b L)(e:w'.heap[b]? = w.heap[b]?):gh w' b L:=let ⟨es,c,h1,I⟩:=h; ⟨es,c,e.trans h1,I⟩
def gh.lt{w:A_}{b:Nat}{L:C_ ByteArray}(h:gh w b L):b<w.heap.size:=let ⟨_,_,h1,_⟩:=h;cq h1
theorem gh.ext{w w':A_}{b:Nat}{L:C_ ByteArray}(h:gh w b L)(e:Ext w w'):gh w' b L:=h.of (e.heap h.lt)
def gh.wr{w w':A_}{b k:Nat}{L:C_ ByteArray}(h:gh w b L)(e:du k w w')(hk:b≠k):gh w' b L:=h.of (e.block b hk)
def gh.jB{w:A_}{b:Nat}{L nI:C_ ByteArray}(h:gh w b L)(e:∀x,x∈L↔x∈nI):gh w b nI:=by
 obtain⟨es,c,h1,⟨⟨l,I,ab⟩,aC,a1⟩⟩:=h;exact⟨es,c,h1,⟨⟨l,I,λx=>(ab x).trans (e x)⟩,aC,a1⟩⟩
def gh.empty{w:A_}{b:Nat}(h:w.heap[b]? = some (.map #[] 0)):gh w b []:=⟨_,_,h,⟨⟨[],rfl,λ_=>Iff.rfl⟩,λe he=>by simp at he,CC⟩⟩
def gh.look{w:A_}{b:Nat}{L:C_ ByteArray}(h:gh w b L)(x:ByteArray):∃es r,sh w (.map (some b)) es/\Instr.findNow .string (.string x) es.toList 0=some r/\nA (.bool false) false r = .bool (decide (x∈L)):=by
 obtain⟨es,c,h1,⟨⟨l,I,ab⟩,_,_⟩⟩:=h;obtain⟨r,k3,jK⟩:=Al M7 x es.toList _ 0 I;rw[as0] at jK;refine⟨es,r,.inr ⟨b,c,rfl,h1⟩,k3,?_⟩;by_cases af:x∈L
 .rw[if_pos ((ab x).2 af)] at jK;simp[nA,jK,af]
 .rw[if_neg (λh=>af ((ab x).1 h))] at jK;simp[nA,jK,af]
theorem gh.put{w:A_}{b:Nat}{L:C_ ByteArray}(h:gh w b L)(x:ByteArray):∃es c q,w.heap[b]? = some (.map es c)/\Instr.findNow .string (.string x) es.toList 0=some q /\
  ∀w':A_,w'.heap[b]? = some (sT es c (.string x) (.bool true) q)->gh w' b (L++[x]):=by
 obtain⟨es,c,h1,hm⟩:=h;obtain⟨l,I,ab⟩:=hm.Bc;obtain⟨r,k3,jK⟩:=Al M7 x es.toList _ 0 I;refine⟨es,c,r,h1,k3,λw' hw=>?_⟩;cases r with
 | none =>
  refine⟨_,_,hw,⟨⟨l++[x],?_,λy=>?_⟩,?_,?_⟩⟩
  .have:=iM.push I x (.bool true) c
   simpa[vI] using this
  .simp[ab y]
  .intro e he;simp only[Array.toList_push,List.mem_append,List.mem_singleton] at he;rcases he with he | rfl
   .have:=hm.born e he;omega
   .show c<c+1;omega
  .simp only[Array.toList_push,List.map_append,List.map_cons,List.map_nil];rw[AK1];refine⟨hm.nodup,CC,λa aY fS CY=>?_⟩;obtain⟨e,he,rfl⟩:=List.mem_map.1 aY;simp only[List.mem_singleton] at CY
   have:=hm.born e he
   omega
 | some SD =>
  obtain⟨j,v⟩:=SD;obtain⟨_,e,he,aj⟩:=PQ k3;have qb:e∈es.toList:=List.mem_of_getElem? he;obtain⟨y,bE,hk,aF⟩:=hm.mem e qb;have aoe:x=y:=by rw[hk,M7] at aj;simpa using aj
  subst aoe;have anT:es.modify j (λe=>{ e with key:=.string x,val:=.bool true })=es:=apA (e:=e) (by simpa using he) (by cases e;simp only at hk aF;subst hk aF;rfl);have qf:w'.heap[b]? = some (.map es c):=by rw[hw];show some (Obj.map (es.modify j _) c)=_;rw[anT]
  exact⟨es,c,qf,⟨⟨l,I,λz=>by rw[ab z];simp;rintro rfl;exact bE⟩,hm.born,hm.nodup⟩⟩
def oB(w:A_)(r b:Nat)(L D:C_ ByteArray)(n:Nat)(cur:H_ ByteArray):Prop :=
 ∃es c since seen bz,w.heap[b]? = some (.map es c)/\BW es c L/\w.heap[r]? = some (.mapIter (some b) since seen bz)/\(∀x∈es.toList,x.born<since)/\since<=bz/\since<=c/\(leftOf es seen).size=n /\
  (∀e∈es.toList,seen.contains e.born=true->∃x∈D,e.key = .string x)/\(∀x∈D,x∈L)/\(∀x,cur=some x->∃(TV:Array Nat) (e:MapEntry),bz=c/\seen=TV.push e.born/\e∈es.toList/\e.key = .string x/\e.val = .bool true)
theorem oB.of{w w':A_}{r b:Nat}{L D:C_ ByteArray}{n:Nat}{cur:H_ ByteArray}(h:oB w r b L D n cur)(bF:w'.heap[b]? = w.heap[b]?)(aH:w'.heap[r]? = w.heap[r]?):oB w' r b L D n cur :=
 let ⟨es,c,since,seen,bz,h1,I,ab,aC⟩:=h; ⟨es,c,since,seen,bz,bF.trans h1,I,aH.trans ab,aC⟩
def oB.sub{w:A_}{r b:Nat}{L D:C_ ByteArray}{n:Nat}{cur:H_ ByteArray}(h:oB w r b L D n cur):∀x∈D,x∈L:=let ⟨_,_,_,_,_,_,_,_,_,_,_,_,_,I,_⟩:=h;I
def oB.ne{w:A_}{r b:Nat}{L D:C_ ByteArray}{n:Nat}{cur:H_ ByteArray}(h:oB w r b L D n cur):r≠b:=by
 obtain⟨es,c,since,seen,bz,h1,I,ab,aC⟩:=h;intro e;rw[e,h1] at ab;cases ab
def oB.lt{w:A_}{r b:Nat}{L D:C_ ByteArray}{n:Nat}{cur:H_ ByteArray}(h:oB w r b L D n cur):r<w.heap.size:=by
 obtain⟨es,c,since,seen,bz,h1,I,ab,aC⟩:=h;exact cq ab
def oB.wr{w w':A_}{r b k:Nat}{L D:C_ ByteArray}{n:Nat}{cur:H_ ByteArray}(h:oB w r b L D n cur)(e:du k w w')(h1:b≠k)(I:r≠k):oB w' r b L D n cur:=h.of (e.block b h1) (e.block r I)
def auI(k:Nat)(w:A_):du k w w.drew:=⟨rfl,rfl,rfl,rfl,λ_ _=>rfl⟩
section
variable{P:Program}{cL:Value->World->Prop}{S:Fr}{w:World}{KW:World->Prop}{bj:Value->Prop}
def AA2{b:Nat}{L:C_ ByteArray}{x:ByteArray}{t}(h:gh w b L)(hk:bj (.bool (decide (x∈L)))):En .string (.bool false) false (.map (some b)) (.string x) w bj t:=by
 obtain⟨es,r,h1,I,ab⟩:=h.look x;exact _m h1 I (by rw[ab];exact hk)
def _w{b:Nat}{L:C_ ByteArray}{x:ByteArray}{t}(h:gh w b L)(hk:∀w1,du b w w1->gh w1 b (L++[x])->KW w1):BX .string (.map (some b)) (.string x) (.bool true) w KW t:=by
 obtain⟨es,c,q,h1,I,ab⟩:=h.put x;exact _t h1 I (hk _ (du.fH w b _) (ab _ (DV (cq h1))))
def AC1{b:Nat}{L:C_ ByteArray}{x:G_}{hW k e ty:F_}{t}(af:bp S x = .map (some b))(aB:P.underlying hW=some (.map k e))(h:gh w b L)
  (hk:∀w1 r n,w.heap.size<=r->Ext w w1->oB w1 r b L [] n none->cL (.pointer (some ⟨r,0,none⟩)) w1):uH P (.range hW x) ty S w cL t:=by
 obtain⟨es,c,h1,I⟩:=h;have h7:=run_range_map (P:=P) w hW k e b es c aB h1;refine _F (v:=.pointer (some ⟨w.heap.size,0,none⟩)) (w':=w.alloc (.mapIter (some b) c #[] c)) (by simp[execOp,af,h7,Result.andThen]) ?_;refine hk _ _ _ (EC _) ((Ext.refl w).alloc _) ⟨es,c,c,#[],c,heap_alloc_old h1,I,heap_alloc_new w _,I.born,EC _,EC _,rfl,?_,?_,?_⟩
 .intro e _ h;simp at h
 .intro x af;cases af
 .intro x af;cases af
def AC2{r b n:Nat}{L D:C_ ByteArray}{cur:H_ ByteArray}{x:G_}{ty:F_}{t}(af:bp S x = .pointer (some ⟨r,0,none⟩))(h:oB w r b L D n cur)
  (ad:(∀y∈L,y∈D)->cL (.tuple #[.bool false]) w)
  (h1:∀y w1 iH,y∈L->iH<n->du r w w1->oB w1 r b L (D++[y]) iH (some y)->cL (.tuple #[.bool true,.string y,.bool true]) w1):uH P (.next x false) ty S w cL t:=by
 have ct:=h.ne;obtain⟨es,c,since,seen,bz,ak,hm,aS,hold,mj,RU,aw,gq,ZJ,_⟩:=h;rcases run_next_at (P:=P) w ty r b since bz seen es c aS ak hold mj with ⟨bA,h7⟩ | ⟨e,he,w1,Qw,h7⟩
 .refine _F (v:=.tuple #[.bool false]) (w':=w) (by simp[execOp,af,h7,Result.andThen]) (ad λy bE=>?_);obtain⟨e,he,hk⟩:=hm.S9 y bE;obtain⟨z,abJ,sP⟩:=gq e he (all_seen es seen bA e he);rw[hk] at sP;injection sP with sP
  rw[sP];exact abJ
 .obtain⟨Q3,vc⟩:=mem_left he;obtain⟨y,bE,hk,aF⟩:=hm.mem e Q3;have ix:du r w w1:=by
   rcases Qw with rfl | rfl
   .exact du.refl _ _
   .exact auI r w
  have dq:w1.heap.size=w.heap.size:=ix.size;have hR:r<w1.heap.size:=by rw[dq];exact cq aS
  have RT:Go.ChangeMaps.setBlock w1 r (.mapIter (some b) since (seen.push e.born) c)=a8.fH w1 r (.mapIter (some b) since (seen.push e.born) c):=rfl;rw[RT] at h7;refine _F (v:=.tuple #[.bool true,e.key,e.val]) (w':=fH w1 r (.mapIter (some b) since (seen.push e.born) c)) (by simp[execOp,af,h7,Result.andThen]) ?_;rw[hk,aF];refine h1 y _ _ bE (Nat.lt_of_lt_of_eq (left_shrinks es seen e he) aw) (ix.trans (du.fH _ _ _)) ⟨es,c,since,seen.push e.born,c,?_,hm,DV hR,hold,RU,RU,rfl,λf ay an=>?_,λz bA=>?_,λz bA=>?_⟩
  .rw[TY (Ne.symm ct)];rcases Qw with rfl | rfl<;>exact ak
  .rw[contains_push] at an;rcases Bool.or_eq_true_iff.1 an with an | an
   .obtain⟨x,oY,gT⟩:=gq f ay an;exact⟨x,by simp[oY],gT⟩
   .have qQ:f.born=e.born:=by simpa using an
    have a1:=find_born f es.toList hm.nodup ay;rw[qQ,find_born e es.toList hm.nodup Q3] at a1;injection a1 with a1
    have:f=e:=a1.symm
    subst this;exact⟨y,CC,hk⟩
  .rcases List.mem_append.1 bA with bA | bA
   .exact ZJ z bA
   .simp only[List.mem_singleton] at bA;subst bA;exact bE
  .injection bA with bA
   subst bA;exact⟨seen,e,rfl,rfl,Q3,hk,aF⟩
def AC3{r b n:Nat}{L D:C_ ByteArray}{y:ByteArray}{x:G_}{ty:F_}{t}(af:bp S x = .pointer (some ⟨r,0,none⟩))(h:oB w r b L D n (some y))
  (hk:cL (.tuple #[.string y,.bool true]) w):uH P (.entry x) ty S w cL t:=by
 obtain⟨es,c,since,seen,bz,ak,hm,aS,hold,mj,RU,aw,gq,ZJ,an⟩:=h;obtain⟨TV,e,rfl,rfl,he,AM,cb⟩:=an y rfl;have h7:(Instr.entry (.pointer (some ⟨r,0,none⟩))).run P w = .ok (.tuple #[e.key,e.val]) w:=run_entry_at w r b since TV es bz e aS ak he hm.nodup;refine _F (v:=.tuple #[e.key,e.val]) (w':=w) (by simp[execOp,af,h7,Result.andThen]) ?_;rw[AM,cb];exact hk
end
end a8
namespace Go.Proofs.R
open Go Go.RowKit a8
def xS(f:o.tc):C_ PanicEntry:=[{ v:=.iface T.nM (.agg #[.int .i64 f.cJ,.int .i64 f.part,.int .i64 f.item,.int .i64 f.sub]),recovered:=false }]
def r9(e p i s:Int)(w:A_):ry Tryz.prog F.a #[.I e,.I p,.I i,.I s] w (λ_ w'=>e=0/\w'=w) (λc w'=>e≠0/\c=xS ⟨e,p,i,s⟩/\w'=w):=by
 refine _p lR E.a Cb (args:=[_,_,_,_]) (Nat.le_of_ble_eq_true rfl) ?_;dsimp only[C.a];refine oI ?_;refine aa ?_;refine I_ (λg=>?_) (λg=>?_)
 .refine aa ?_;exact⟨g,aK⟩
 .refine aa ?_;exact⟨g,aK,aK⟩
def Nt(b:Nat)(L:C_ ByteArray)(x:ByteArray)(p i:Int)(w:A_)(h:gh w b L):ry Tryz.prog F.i #[.map (some b),.string x,.I p,.I i] w
  (λ_ w' => ¬x∈L/\du b w w'/\gh w' b (L++[x])) (λc w'=>x∈L/\c=xS ⟨7,p,i,0⟩/\w'=w):=by
 refine _p lR E.i Cb (args:=[_,_,_,_]) (Nat.le_of_ble_eq_true rfl) ?_;dsimp only[C.i];refine oI ?_;refine aa ?_;refine AA2 h ?_;refine aa ?_;refine I_ (λg=>?_) (λg=>?_)
 .refine aa ?_;refine W_ (r9 7 p i 0 w) ?_ ?_
  .rintro _ _ ⟨ad,_⟩;exact absurd ad By
  .rintro c _ ⟨_,rfl,rfl⟩;refine aa ?_;exact⟨g,aK,aK⟩
 .refine aa ?_;refine _w h λw1 hw h1=>?_;refine aa ?_;exact⟨g,hw,h1⟩
end Go.Proofs.R
namespace Go.Proofs.R
open Go Go.RowKit a8
structure kC(w0 w:World)(cz bx:Nat)(cs:List Value)(w':World)(L:List ByteArray):Prop where
 ext:Ext w0 w'
 mod:Mod (λk=>k=cz) w w'
 box:w'.heap[bx]? = some (.cells cs.toArray T.f)
 set:gh w' cz L
 low:w0.heap.size<=cz
 ne:bx≠cz
section
variable{w0 w w' bM:World}{cz bx:Nat}{cs:List Value}{L nI:List ByteArray}
theorem kC.then(h:kC w0 w cz bx cs w' L)(he:Ext w' bM):kC w0 w cz bx cs bM L:=⟨h.ext.trans he,h.mod.trans he.mod,he.obj h.box,h.set.ext he,h.low,h.ne⟩
def kC.wr(h:kC w0 w cz bx cs w' L)(hw:du cz w' bM)(aj:gh bM cz nI):kC w0 w cz bx cs bM nI:=⟨hw.ext h.ext h.low,h.mod.trans (hw.mod rfl),hw.obj h.box h.ne,aj,h.low,h.ne⟩
def kC.jB(h:kC w0 w cz bx cs w' L)(e:L=nI):kC w0 w cz bx cs w' nI:=e ▸ h
end
def akx{w0:A_}(cs:C_ B_)(m:o.Model)(cz:Nat)(w:A_)(h:o.dj w0 cs m)(ej:Ext w0 w)(p6:w0.heap.size<=cz)(aQ:gJ w0)(aj:gh w cz []) :
  ry Tryz.prog F.as #[.agg cs.toArray,.map (some cz)] w (λ_ w'=>(o.data m).cJ=0/\Ext w0 w'/\Mod (λk=>k=cz) w w'/\gh w' cz (o.oj m m.ax.length))
   (λc w'=>(o.data m).cJ≠0/\c=xS (o.data m)/\Ext w0 w'/\Mod (λk=>k=cz) w w'):=by
 obtain⟨b0,bz,bO,c1,bT,c2,bV,bu,b1,bB,rfl,ad,h1,I,ab,aC,eu,dz,dJ,dR,ee⟩:=h.form;refine _p lR E.as Cb (args:=[_,_]) (Nat.le_of_ble_eq_true rfl) ?_;dsimp only[C.as];refine oI ?_;refine aa ?_;intro w1 bx cN ag al;have st1:kC w0 w cz bx _ w1 []:=⟨ej.trans ag,ag.mod,al,aj.ext ag,p6,by have:=aj.lt;omega⟩;clear aj;refine aa ?_;refine J_ (asT _ m.scalars w1 (aQ.ext st1.ext) (ad.ext st1.ext)) ?_;rintro _ aA ⟨rfl,ai⟩;replace st1:=st1.then ai;clear al;refine aa ?_;refine W_ (r9 (o.scalars m.scalars).2 1 (o.scalars m.scalars).1 0 aA) ?_ ?_;rotate_left
 .rintro c _ ⟨g,rfl,rfl⟩;refine aa ?_;rw[o.Yw g];exact⟨g,rfl,st1.ext,st1.mod⟩
 rintro _ _ ⟨b5,rfl⟩;have al:=st1.box;refine aa ?_;refine L_ 24 m.scalars.length [1,2,22,23] (λ_:Unit=>[]) () (λk _ w'=>kC w0 w cz bx _ w' ((m.scalars.take k).map (·.name))) a6 a6 (st1.jB CC) ?_;clear al ai st1;rintro k _ S aM hk mq;have al:=mq.box;have aR:=mq.ext;refine aa ?_;apply I_<;>intro g1
 .have a7:k<m.scalars.length:=Ad
  obtain⟨a,rfl⟩:=ad.addr;refine aa ?_;intro aU bW eX aq ba;have lB:=mq.then aq;refine aa ?_;refine _w lB.set λbh hw q1=>?_;refine aa ?_;exact⟨a7,aK,(),trivial,(lB.wr hw q1).jB (o.D2 _ _ a7).symm⟩
 replace mq:=mq.jB (show _=o.sV m 0 by rw[MC Ad];simp);refine aa ?_;refine J_ (afr _ _ m.vars m.scalars 12 aM (aQ.ext aR) (h1.ext aR) (ad.ext aR)) ?_;rintro _ aU ⟨rfl,aq⟩;replace mq:=mq.then aq;clear al aR;have al:=mq.box;rw[o.aui];refine aa ?_;refine L_ 43 m.vars.length [1,2,4,5,41,42] (λ_:Unit=>[]) () (λk _ w'=>kC w0 w cz bx _ w' (o.sV m k)/\∀j,j<k->o.j2 m j=0) a6 a6 ⟨mq,λj h=>absurd h (HI _)⟩ ?_;clear al mq aq;rintro k _ aZ bh hk ⟨iB,bA⟩;have al:=iB.box;have bC:=iB.ext;refine aa ?_;apply I_<;>intro g1
 .have a7:k<m.vars.length:=Ad
  obtain⟨a,rfl⟩:=h1.addr;have gj:=o.DB (f:=λx:o.Var=>x.name) a7;refine aa ?_;intro D8 b9 lN n1 p8;refine dS ?_;intro bq gE bS;have aD:=gE.ext n1 lN;have hV:=iB.then aD;replace al:=hV.box;clear p8 n1;refine dS ?_;refine R_ [1,2,4,5,8,9,41,42,43] (λ_:Unit=>[]) (λ_ w'=>w'=bq/\o.pa m k=0) ?_ ?_
  .refine aa ?_;apply I_<;>intro g2
   .refine aa ?_;refine W_ (r9 (o.first m.vars.length (o.pa m)).2 2 k 0 bq) ?_ ?_
    .rintro _ _ ⟨hl,rfl⟩;refine aa ?_;exact⟨(),trivial,aK,o.wM hl k a7⟩
    .rintro c _ ⟨hl,rfl,rfl⟩;obtain⟨i,U,bF,aH⟩:=o.Zj hl;obtain rfl:k=i:=Ad
     rw[aH] at hl;have lp:o.j2 m k=o.pa m k:=by unfold o.j2;rw[if_pos hl]
     have bb:=o.IY b5 a7 bA (by rw[lp];exact hl);rw[lp] at bb;refine aa ?_;rw[bb,aH];exact⟨hl,aK,hV.ext,hV.mod⟩
   .refine aa ?_;refine⟨(),trivial,aK,?_⟩;apply Classical.byContradiction;intro ct;apply g2;rw[o.jG a7 (λj az=>o.ND (bA j az)) ct]
  rintro _ jW _ ⟨rfl,iw⟩;refine aa ?_;refine W_ (Nt cz (o.sV m k) m.vars[k].name 2 k _ hV.set) ?_ ?_
  .rintro _ bH ⟨aw,dw,kq⟩;refine aa ?_;refine⟨a7,aK,(),trivial,(hV.wr dw kq).jB (by simp only[o.sV,o.Bh];rw[o.D2 (λx:o.Var=>x.name) _ a7,MV]),λj az=>?_⟩;by_cases ha:j=k
   .subst ha;unfold o.j2;rw[if_neg (by simpa using iw),gj,if_neg aw]
   .exact bA j Ad
  .rintro c _ ⟨aw,rfl,rfl⟩;have lp:o.j2 m k=7:=by unfold o.j2;rw[if_neg (by simpa using iw),gj,if_pos aw]
   have bb:=o.IY b5 a7 bA (by rw[lp];decide);rw[lp] at bb;refine aa ?_;rw[bb];exact⟨(show(7:Int)≠0 by decide),aK,hV.ext,hV.mod⟩
 have mg:m.vars.length<=k:=Ad
 have nu:∀j,j<m.vars.length->o.j2 m j=0:=λj az=>bA j Ad;replace iB:=iB.jB (show _=o.oj m 0 by simp only[o.oj,o.sV,o.Bh,o.Bg];rw[MC mg];simp);refine aa ?_;refine J_ (ah4 _ _ m.ax m.scalars bh (aQ.ext bC) (I.ext bC) (ad.ext bC)) ?_;rintro _ bq ⟨rfl,aD⟩;replace iB:=iB.then aD;clear al bC;have al:=iB.box;rw[o.ah3];refine aa ?_;refine L_ 71 m.ax.length [1,2,4,5,69,70] (λ_:Unit=>[]) () (λk _ w'=>kC w0 w cz bx _ w' (o.oj m k)/\∀j,j<k->o.k0 m j=0) a6 a6 ⟨iB,λj h=>absurd h (HI _)⟩ ?_;clear al iB aD;rintro k _ aZ bH hk ⟨jO,bA⟩;have al:=jO.box;have cM:=jO.ext;refine aa ?_;apply I_<;>intro g1
 .have a7:k<m.ax.length:=Ad
  obtain⟨a,rfl⟩:=I.addr;have gj:=o.DB (f:=λx:o.dZ=>x.name) a7;refine aa ?_;intro D8 b9 lN n1 p8;refine dS ?_;intro bq gE bS;have aD:=gE.ext n1 lN;have hV:=jO.then aD;replace al:=hV.box;clear p8 n1;refine dS ?_;refine R_ [1,2,4,5,10,11,69,70,71] (λ_:Unit=>[]) (λ_ w'=>w'=bq/\o.oN m k=0) ?_ ?_
  .refine aa ?_;apply I_<;>intro g2
   .refine aa ?_;refine W_ (r9 (o.first m.ax.length (o.oN m)).2 3 k 0 bq) ?_ ?_
    .rintro _ _ ⟨hl,rfl⟩;refine aa ?_;exact⟨(),trivial,aK,o.wM hl k a7⟩
    .rintro c _ ⟨hl,rfl,rfl⟩;obtain⟨i,U,bF,aH⟩:=o.Zj hl;obtain rfl:k=i:=Ad
     rw[aH] at hl;have lp:o.k0 m k=o.oN m k:=by unfold o.k0;rw[if_pos hl]
     have bb:=o.IW b5 nu a7 bA (by rw[lp];exact hl);rw[lp] at bb;refine aa ?_;rw[bb,aH];exact⟨hl,aK,hV.ext,hV.mod⟩
   .refine aa ?_;refine⟨(),trivial,aK,?_⟩;apply Classical.byContradiction;intro ct;apply g2;rw[o.jG a7 (λj az=>o.IH (bA j az)) ct]
  rintro _ jW _ ⟨rfl,iw⟩;refine aa ?_;refine W_ (Nt cz (o.oj m k) m.ax[k].name 3 k _ hV.set) ?_ ?_
  .rintro _ bH ⟨aw,dw,kq⟩;refine aa ?_;refine⟨a7,aK,(),trivial,(hV.wr dw kq).jB (by simp only[o.oj,o.Bg];rw[o.D2 (λx:o.dZ=>x.name) _ a7,MV]),λj az=>?_⟩;by_cases ha:j=k
   .subst ha;unfold o.k0;rw[if_neg (by simpa using iw),gj,if_neg aw]
   .exact bA j Ad
  .rintro c _ ⟨aw,rfl,rfl⟩;have lp:o.k0 m k=7:=by unfold o.k0;rw[if_neg (by simpa using iw),gj,if_pos aw]
   have bb:=o.IW b5 nu a7 bA (by rw[lp];decide);rw[lp] at bb;refine aa ?_;rw[bb];exact⟨(show(7:Int)≠0 by decide),aK,hV.ext,hV.mod⟩
 have rU:m.ax.length<=k:=Ad
 refine aa ?_;refine⟨by rw[o.Yu b5 nu λj az=>bA j Ad];rfl,jO.ext,jO.mod,(jO.jB ?_).set⟩;simp only[o.oj,o.Bg];rw[MC rU,MC (EC _)]
end Go.Proofs.R
namespace Go.Proofs.R
open Go Go.RowKit a8
def kC.Uu{w0 w w' bM:A_}{cz bx k:Nat}{cs:C_ B_}{L:C_ ByteArray}(h:kC w0 w cz bx cs w' L)(dq:w0.heap.size<=w.heap.size)(hw:du k w' bM)(hk:w.heap.size<=k)(h1:bx≠k)(I:cz≠k):kC w0 w cz bx cs bM L :=
 ⟨hw.ext h.ext (Nn dq hk),h.mod.then (hw.mod (A:=λj=>j=k) rfl) λi U e=>absurd e Ad,hw.obj h.box h1,h.set.wr hw I,h.low,h.ne⟩
def aq6{w0:A_}(cs:C_ B_)(m:o.Model)(cz:Nat)(w:A_)(h:o.dj w0 cs m)(aG:m.cv)(ej:Ext w0 w)(p6:w0.heap.size<=cz)(aQ:gJ w0)(bb:(o.data m).cJ=0)(aj:gh w cz (o.oj m m.ax.length)) :
  ry Tryz.prog F.ts #[.agg cs.toArray,.map (some cz)] w (λ_ w'=>(o.mV m).cJ=0/\Ext w0 w'/\Mod (λk=>k=cz) w w'/\gh w' cz (o.jz m m.procs.length))
   (λc w'=>(o.mV m).cJ≠0/\c=xS (o.mV m)/\Ext w0 w'/\Mod (λk=>k=cz) w w'):=by
 have aL:=h;obtain⟨b0,bz,bO,c1,bT,c2,bV,bu,b1,bB,rfl,ad,h1,I,ab,aC,eu,dz,dJ,dR,ee⟩:=h.form;have dq:=ej.size;refine _p lR E.ts Cb (args:=[_,_]) (Nat.le_of_ble_eq_true rfl) ?_;dsimp only[C.ts];refine oI ?_;refine aa ?_;intro w1 bx cN ag al;have st1:kC w0 w cz bx _ w1 (o.oj m m.ax.length):=⟨ej.trans ag,ag.mod,al,aj.ext ag,p6,by have:=aj.lt;omega⟩;have auQ:=aj.lt;have fQ:=cq al;clear aj al;refine aa ?_;refine _e λaA gI avX ai fU=>?_;replace st1:=st1.then ai;have xL:gh aA gI []:=gh.empty fU;have z0:=ag.size;have z2:=xL.lt;clear fU;refine aa ?_;refine AC1 (b:=cz) rfl (k:=T.m) (e:=T.j) Ci st1.set λaM r n aS ah oV=>?_;replace st1:=st1.then ah;replace xL:=xL.ext ah;have z4:=ai.size;have z5:=oV.lt;refine aa ?_;refine _M [1,2,4,20] (λ_:C_ ByteArray×Nat=>[]) ([],n) (λx w'=>kC w0 w cz bx _ w' (o.oj m m.ax.length)/\gh w' gI x.1/\∃cur,oB w' r cz (o.oj m m.ax.length) x.1 x.2 cur) (λx=>x.2) a6 ⟨st1,xL,_,oV⟩ ?_;clear st1 xL oV;rintro⟨D,iH⟩ S aU ⟨lB,xL,cur,oV⟩;have al:=lB.box;refine aa ?_;refine AC2 rfl oV (λdv=>?_) (λy bh ka bE cu eY aaS=>?_);rotate_left
 .have iB:=lB.Uu dq eY Ad Ad Ad;have asM:=xL.wr eY Ad;refine aa ?_;refine AC3 rfl aaS ?_;refine aa ?_;refine _w asM λbq gE asN=>?_;have hV:=iB.Uu dq gE Ad Ad Ad;have amP:=aaS.wr gE Ad Ad;refine aa ?_;exact⟨(D++[y],ka),trivial,⟨hV,asN,_,amP⟩,cu⟩
 have kd:gh aU gI (o.jz m 0):=xL.jB λx=>by
  have anY:=oV.sub;simp only[o.jz,o.zl,List.take_zero,List.map_nil,List.append_nil];exact⟨λaf=>anY x af,λaf=>dv x af⟩
 clear xL oV dv;refine aa ?_;refine L_ 30 m.procs.length [1,2,4,28,29] (λ_:Unit=>[]) () (λk _ w'=>kC w0 w cz bx _ w' (o.oj m m.ax.length)/\gh w' gI (o.jz m k)) a6 a6 ⟨lB,kd⟩ ?_;clear al lB kd;rintro k _ aZ bh hk ⟨iB,kd⟩;have al:=iB.box;have bC:=iB.ext;refine aa ?_;apply I_<;>intro g1
 .have a7:k<m.procs.length:=Ad
  obtain⟨a,rfl⟩:=ab.addr;obtain⟨_,bY,dV,ar,eQ,c3⟩:=ab.at k a7;obtain⟨ei,eW,rfl,e6⟩:=eQ.form;obtain⟨o6,oM,rfl,lc⟩:=c3.form;replace ar:=ar.ext bC;refine aa ?_;intro bq h2 gZ aD bZ;have hV:=iB.then aD;replace kd:=kd.ext aD;refine aa ?_;refine _w kd λbH dw asQ=>?_;have jO:=hV.Uu dq dw Ad Ad Ad;refine aa ?_;exact⟨a7,aK,(),trivial,jO,by simp only[o.jz,o.zl];rw[o.D2 (λx:o.dt=>x.name) _ a7,<-MV];exact asQ⟩
 have aeD:∀{w'},gh w' gI (o.jz m k)->gh w' gI (o.jz m m.procs.length):=λh=>h.jB λx=>by
  simp only[o.jz,o.zl];rw[MC Ad,MC (EC _)]
 replace kd:=aeD kd;clear aeD;replace iB:=iB.jB (show _=o.jz m 0 by simp[o.jz]);refine aa ?_;refine L_ 41 m.procs.length [1,2,4,39,40] (λ_:Unit=>[]) () (λk _ w'=>kC w0 w cz bx _ w' (o.jz m k)/\gh w' gI (o.jz m m.procs.length)/\∀j,j<k->(o.iS m j).1=0) a6 a6 ⟨iB,kd,λj h=>absurd h (HI _)⟩ ?_;clear al bC iB kd;rintro k _ jW bq hk ⟨hV,kd,bA⟩;have al:=hV.box;have b6:=hV.ext;have uz:=hV.mod.size;refine aa ?_;apply I_<;>intro g1
 .have a7:k<m.procs.length:=Ad
  obtain⟨a,rfl⟩:=ab.addr;obtain⟨kr,bY,dV,ar,eQ,c3⟩:=ab.at k a7;obtain⟨ei,eW,rfl,e6⟩:=eQ.form;obtain⟨o6,oM,rfl,lc⟩:=c3.form;have pD:=aG.proc _ (ED a7);have eF:=o.PG a7;replace ar:=ar.ext b6;refine aa ?_;intro D8 b9 lN n1 p8;refine dS ?_;intro bH dw cE;have bc:=dw.ext n1 lN;have jO:=hV.then bc;replace kd:=kd.ext bc;replace al:=jO.box;have ayr:=cq cE;have HQ:=kd.lt;have cM:=jO.ext;clear p8 n1 dw;refine aa ?_;apply I_<;>intro g2
  .have bJ:6<=k:=Ad
   rw[if_pos bJ] at eF;have hN:=o.Hc a7 bA (by rw[eF];decide);rw[eF] at hN;refine aa ?_;refine W_ (r9 11 4 k 0 bH) ?_ ?_
   .rintro _ _ ⟨hl,_⟩;exact absurd hl By
   .rintro c _ ⟨_,rfl,rfl⟩;refine aa ?_;rw[hN];exact⟨(show(11:Int)≠0 by decide),aK,cM,jO.mod⟩
  rw[if_neg Ad] at eF;refine aa ?_;intro cB bt;replace al:=bt.obj al;replace cE:=bt.obj cE;refine aa ?_;refine J_ (aeF _ m k cB (aL.ext (cM.trans bt)) aG) ?_;rintro _ cG ⟨⟨avq,rfl,Kx⟩,b2⟩;refine⟨b2,?_⟩;have mj:=Kx.here;obtain⟨kT,HM,ie,jR,ji,jF,nd,sc,mu,Ea,rfl,_⟩:=mj.form;refine aa ?_;refine J_ (aqW m.procs[k] _ _ (o.hv m k) cG (aQ.ext (cM.trans (bt.trans b2))) ⟨kr,_,_,rfl,eQ.ext (cM.trans (bt.trans b2)),c3.ext (cM.trans (bt.trans b2))⟩ mj (aG.hv _) pD) ?_;rintro _ ew ⟨rfl,cj⟩;have YS:=(bt.trans b2).trans cj;have Bz:=jO.then YS;replace kd:=kd.ext YS;replace al:=Bz.box;replace cE:=(b2.trans cj).obj cE;have ayo:=cq cE;have aym:=kd.lt;clear mj Kx jO cM;have kF:=Bz.ext;have en:=o.adB m.procs[k] (o.hv m k) 140737488351232 λc an=>by have:=(pD.cmd c an).bP;unfold o.ep at this;omega
  have an5:m.procs[k].vars.length<=140737488351232:=by have:=pD.vars;unfold o.ep at this;omega
  have pz:m.procs[k].c0.length<=140737488351232:=by have:=pD.c0;unfold o.ep at this;omega
  refine aa ?_;refine W_ (r9 (o.h8 m.procs[k] (o.hv m k)).2.2 4 k (16*(o.h8 m.procs[k] (o.hv m k)).1+(o.h8 m.procs[k] (o.hv m k)).2.1) ew) ?_ ?_;rotate_left
  .rintro c _ ⟨hl,rfl,rfl⟩;rw[if_pos hl] at eF;have hN:=o.Hc a7 bA (by rw[eF];exact hl);rw[eF] at hN;refine aa ?_;rw[hN];exact⟨hl,aK,kF,Bz.mod⟩
  rintro _ pc ⟨hl,rfl⟩;rw[if_neg (by simpa using hl)] at eF;refine aa ?_;refine W_ (Nt cz (o.jz m k) m.procs[k].name 4 k pc Bz.set) ?_ ?_;rotate_left
  .rintro c _ ⟨aw,rfl,rfl⟩;rw[if_pos aw] at eF;have hN:=o.Hc a7 bA (by rw[eF];decide);rw[eF] at hN;refine aa ?_;rw[hN];exact⟨(show(7:Int)≠0 by decide),aK,kF,Bz.mod⟩
  rintro _ fB ⟨aw,hT,abz⟩;rw[if_neg aw] at eF;have Nj:kC w0 w cz bx _ fB (o.jz m (k+1)):=(Bz.wr hT abz).jB (by simp only[o.jz,o.zl];rw[o.D2 (λx:o.dt=>x.name) _ a7,MV]);replace kd:=kd.wr hT Ad;replace al:=Nj.box;replace cE:=hT.obj cE Ad;have uU:=Nj.ext;have UD:=hT.size;clear Bz kF;refine aa ?_;refine L_ 74 m.procs[k].vars.length [1,2,4,8,9,39,40,41,72,73] (λ_:Unit=>[]) () (λj _ w'=>kC w0 w cz bx _ w' (o.jz m (k+1))/\gh w' gI (o.jz m m.procs.length)/\Ext fB w'/\∀i,i<j->o.rI m m.procs[k] i=0) a6 a6 ⟨Nj,kd,Ext.refl _,λj h=>absurd h (HI _)⟩ ?_;have iU:=cE;clear Nj kd al cE uU;rintro j _ Ey hx az ⟨Nk,kd,dW,sP⟩;have al:=Nk.box;have cE:=dW.obj iU;have ps:=Nk.ext;refine aa ?_;apply I_<;>intro g3
  .have eP:j<m.procs[k].vars.length:=Ad
   obtain⟨cx,rfl⟩:=eQ.addr;have dH:=((eQ.at j eP).cells).ext ps;have gj:=o.DB (f:=λx:o.Var=>x.name) eP;refine aa ?_;intro axZ uO FJ aaH QG;refine dS ?_;intro kx ks p7;have gv:=ks.ext aaH FJ;have Nl:=Nk.then gv;replace kd:=kd.ext gv;replace al:=Nl.box;clear QG aaH ks;refine aa ?_;refine AA2 kd ?_;refine aa ?_;apply I_<;>intro g4
   .have tK:o.rI m m.procs[k] j=7:=by unfold o.rI;rw[gj,if_pos g4]
    rw[o.jG eP sP (by rw[tK];decide),tK,if_pos (show(7:Int)≠0 by decide)] at eF;have hN:=o.Hc a7 bA (by rw[eF];exact(show(7:Int)≠0 by decide));rw[eF] at hN;refine aa ?_;refine W_ (r9 7 4 k (16+j) kx) ?_ ?_
    .rintro _ _ ⟨Ao,_⟩;exact absurd Ao By
    .rintro c _ ⟨_,rfl,rfl⟩;refine aa ?_;rw[hN];exact⟨(show(7:Int)≠0 by decide),aK,Nl.ext,Nl.mod⟩
   .refine aa ?_;refine⟨eP,aK,(),trivial,Nl,kd,dW.trans gv,λi U=>?_⟩;by_cases Db:i=j
    .subst Db;unfold o.rI;rw[gj,if_neg g4]
    .exact sP i Ad
  .rw[o.p3 λi U=>sP i Ad,if_neg CC] at eF;refine aa ?_;refine⟨a7,aK,(),trivial,Nk,kd,λi U=>?_⟩;by_cases Dc:i=k
   .subst Dc;rw[eF]
   .exact bA i Ad
 have vf:m.procs.length<=k:=Ad
 have nt:∀j,j<m.procs.length->(o.iS m j).1=0:=λj az=>bA j Ad;have Kf:=o.IX bb;have sM:m.procs.length<=6:=by
  apply Classical.byContradiction;intro aw
  have:=o.Jl (i:=6) Ad (nt 6 Ad)
  omega
 have p9:o.vT m:=⟨Ad,Ad,Ad,λp ar=>by
  obtain⟨j,az,rfl⟩:=List.mem_iff_getElem.1 ar
  have:=o.Tl (o.Fc az (nt j az)).2.1
  omega⟩
 refine aa ?_;refine J_ (aqZ _ m bq (aL.ext b6) p9) ?_;rintro _ bH ⟨rfl,bc⟩;have jO:=hV.then bc;replace al:=jO.box;have rY:=o.Tm nt;have RT:gh bH cz (o.jz m m.procs.length):=by
  have h:=jO.set;simp only[o.jz,o.zl] at h ⊢;rw[MC vf] at h;rw[MC (EC _)];exact h
 refine aa ?_;apply I_<;>intro g2
 .rw[if_pos (.inl Ad)] at rY;refine aa ?_;refine W_ (r9 11 4 m.procs.length 0 bH) ?_ ?_
  .rintro _ _ ⟨Ao,_⟩;exact absurd Ao By
  .rintro c _ ⟨_,rfl,rfl⟩;refine aa ?_;rw[rY];exact⟨(show(11:Int)≠0 by decide),aK,jO.ext,jO.mod⟩
 refine aa ?_;apply I_<;>intro g3
 .rw[if_pos (.inr Ad)] at rY;refine aa ?_;refine W_ (r9 11 4 m.procs.length 0 bH) ?_ ?_
  .rintro _ _ ⟨Ao,_⟩;exact absurd Ao By
  .rintro c _ ⟨_,rfl,rfl⟩;refine aa ?_;rw[rY];exact⟨(show(11:Int)≠0 by decide),aK,jO.ext,jO.mod⟩
 rw[if_neg Ad] at rY;refine aa ?_;exact⟨by rw[rY];rfl,jO.ext,jO.mod,RT⟩
def ara{w0:A_}(cs:C_ B_)(m:o.Model)(cz:Nat)(w:A_)(h:o.dj w0 cs m)(aG:m.cv)(ej:Ext w0 w)(p6:w0.heap.size<=cz)(aQ:gJ w0)(aj:gh w cz (o.jz m m.procs.length)) :
  ry Tryz.prog F.nO #[.agg cs.toArray,.map (some cz)] w (λ_ w'=>(o.qj m).cJ=0/\Ext w0 w'/\Mod (λk=>k=cz) w w')
   (λc w'=>(o.qj m).cJ≠0/\c=xS (o.qj m)/\Ext w0 w'/\Mod (λk=>k=cz) w w'):=by
 have aL:=h;obtain⟨b0,bz,bO,c1,bT,c2,bV,bu,b1,bB,rfl,ad,h1,I,ab,aC,eu,dz,dJ,dR,ee⟩:=h.form;refine _p lR E.nO Cb (args:=[_,_]) (Nat.le_of_ble_eq_true rfl) ?_;dsimp only[C.nO];refine oI ?_;refine aa ?_;intro w1 bx cN ag al;have st1:kC w0 w cz bx _ w1 (o.sU m 0):=⟨ej.trans ag,ag.mod,al,by have:=aj.ext ag;simpa[o.sU] using this,p6,by have:=aj.lt;omega⟩;have auQ:=aj.lt;have z0:=ag.size;clear aj;refine aa ?_;refine J_ (aeF _ m (-1) w1 (aL.ext st1.ext) aG) ?_;rintro _ aA ⟨⟨avp,rfl,hc⟩,ai⟩;rw[o.MR (.inl By)] at hc;have mj:=hc.here;obtain⟨kT,HM,ie,jR,ji,jF,nd,sc,mu,Ea,rfl,_⟩:=mj.form;clear mj;have st2:=st1.then ai;clear al st1;have fQ:=ai.size;refine aa ?_;intro aM c6 fT ah bo;have y0:=hc.ext ah fQ;have mq:=st2.then ah;have al:=mq.box;clear hc st2;refine aa ?_;refine L_ 14 m.props.length [1,2,4,12,13] (λ_:Unit=>[]) () (λk _ w'=>kC w0 w cz bx _ w' (o.sU m k)/\eL w1 (λw=>o.gg w _ (o.ev m)) w'/\w'.heap[c6]? = some (.cells (List.toArray [_,_,_,_,_,_]) T.w)/\w1.heap.size<=w'.heap.size/\∀j,j<k->o.nV m j=0) a6 a6 ⟨mq,y0,bo,by have:=ah.size;omega,λj h=>absurd h (HI _)⟩ ?_;clear al mq y0 bo;rintro k _ S aU hk ⟨lB,mQ,bo,z4,bA⟩;have al:=lB.box;have bn:=lB.ext;refine aa ?_;apply I_<;>intro g1
 .have a7:k<m.props.length:=Ad
  obtain⟨a,rfl⟩:=aC.addr;obtain⟨kr,gP,ar,hd⟩:=aC.at k a7;obtain⟨MM,ce,rfl,le⟩:=hd.form;have eF:=o.Fe a7;replace ar:=ar.ext bn;have z5:=lB.mod.size;refine aa ?_;intro D8 dC e5 n1 p8;refine dS ?_;intro bh eY bS;have av:=eY.ext n1 e5;have iB:=lB.then av;replace mQ:=mQ.ext av z4;replace bo:=av.obj bo;replace al:=iB.box;have bC:=iB.ext;clear p8 n1 eY lB;have bb:o.nV m k≠0->o.qj m=⟨o.nV m k,5,k,0⟩:=o.adF a7 bA;refine aa ?_;apply I_<;>intro g2
  .rw[if_pos Ad] at eF;rw[eF] at bb;replace bb:=bb By;refine aa ?_;refine W_ (r9 11 5 k 0 bh) ?_ ?_
   .rintro _ _ ⟨hl,_⟩;exact absurd hl By
   .rintro c _ ⟨_,rfl,rfl⟩;refine aa ?_;rw[bb];exact⟨(show(11:Int)≠0 by decide),aK,bC,iB.mod⟩
  rw[if_neg Ad] at eF;refine aa ?_;refine J_ (ME m.props[k].name bh (aQ.ext bC) kr) ?_;rintro _ bq ⟨rfl,aD⟩;have hV:=iB.then aD;replace mQ:=mQ.ext aD (by have:=av.size;omega);replace bo:=aD.obj bo;replace bS:=aD.obj bS;replace al:=hV.box;have b6:=hV.ext;clear iB;refine aa ?_;refine N_ (λg3=>?_) (λg3=>?_);rotate_left
  .rw[if_pos g3] at eF;rw[eF] at bb;replace bb:=bb By;refine aa ?_;refine W_ (r9 6 5 k 0 bq) ?_ ?_
   .rintro _ _ ⟨hl,_⟩;exact absurd hl By
   .rintro c _ ⟨_,rfl,rfl⟩;refine aa ?_;rw[bb];exact⟨(show(6:Int)≠0 by decide),aK,b6,hV.mod⟩
  rw[if_neg (by rw[g3];decide)] at eF;refine aa ?_;refine W_ (Nt cz (o.sU m k) m.props[k].name 5 k bq hV.set) ?_ ?_;rotate_left
  .rintro c _ ⟨aw,rfl,rfl⟩;rw[if_pos aw] at eF;rw[eF] at bb;replace bb:=bb By;refine aa ?_;rw[bb];exact⟨(show(7:Int)≠0 by decide),aK,hV.ext,hV.mod⟩
  rintro _ bH ⟨aw,dw,kq⟩;rw[if_neg aw] at eF;have jO:kC w0 w cz bx _ bH (o.sU m (k+1)):=(hV.wr dw kq).jB (by simp only[o.sU,o.SX];rw[o.D2 (λx:o.lE=>x.name) _ a7,MV]);replace mQ:=mQ.wr dw Ad;replace bo:=dw.obj bo Ad;replace bS:=dw.obj bS Ad;replace al:=jO.box;have cM:=jO.ext;clear hV b6;refine aa ?_;refine J_ (acq _ m.props[k].expr _ _ bH (hd.ext cM) mQ.here) ?_;rintro _ cB ⟨rfl,bt⟩;have Hx:=jO.then bt;have HO:=dw.size;replace mQ:=mQ.ext bt (by have:=av.size;have:=aD.size;omega);replace bo:=bt.obj bo;replace al:=Hx.box;have eN:=Hx.ext;clear jO;refine aa ?_;refine W_ (r9 (o.kind m.props[k].expr (o.ev m)).2 5 k 0 cB) ?_ ?_;rotate_left
  .rintro c _ ⟨hl,rfl,rfl⟩;rw[if_pos hl] at eF;rw[eF] at bb;replace bb:=bb hl;refine aa ?_;rw[bb];exact⟨hl,aK,eN,Hx.mod⟩
  rintro _ cG ⟨hl,rfl⟩;rw[if_neg (by simpa using hl)] at eF;refine aa ?_;apply I_<;>intro g4;rotate_left
  .rw[if_pos g4] at eF;rw[eF] at bb;replace bb:=bb By;refine aa ?_;refine W_ (r9 9 5 k 0 cG) ?_ ?_
   .rintro _ _ ⟨Ao,_⟩;exact absurd Ao By
   .rintro c _ ⟨_,rfl,rfl⟩;refine aa ?_;rw[bb];exact⟨(show(9:Int)≠0 by decide),aK,eN,Hx.mod⟩
  rw[if_neg (by simpa using g4)] at eF;refine aa ?_;refine⟨a7,aK,(),trivial,Hx,mQ,bo,by have:=av.size;have:=aD.size;have:=bt.size;omega,λi U=>?_⟩;by_cases Dc:i=k
  .subst Dc;rw[eF]
  .exact bA i Ad
 refine aa ?_;exact⟨by rw[o.Tp λj az=>bA j Ad];rfl,bn,lB.mod⟩
end Go.Proofs.R
namespace a8
open Go Go.RowKit
structure BR where
 n:Nat
 res:List nk
 pre:e0
 cg:List Step
 fn:Operand
 rest:e0
def Pu(ae:Oper):H_ G_ :=
 match ae.guard,ae.dst,ae.op with
 | none,none,.defer ⟨.value x,args,_⟩=>match args.toList with | []=>some x | _=>none
 | _,_,_=>none
def Yl(P:D_)(fn:Func):Code->H_ BR
 | .seq a (.seq (.region _ ops false) c) =>
  match ops.toList.getLast?.bind Pu,comp P fn.ntmps a,qJ P fn.ntmps ops ops.toList.dropLast,comp P fn.ntmps c,yx P fn.results.toList with
  | some x,some qg,some cg,some lc,some r=>some ⟨fn.ntmps,r,qg,cg,x,lc⟩
  | _,_,_,_,_=>none
 | _=>none
def IM(P:D_)(f:E_):H_ BR :=
 match P.funcs[f]? with
 | some fn=>match fn.body with | some c=>Yl P fn c | none=>none
 | none=>none
def uE(P:D_)(f:E_)(cap:Array B_)(u:FrameMode)(w:A_)(R:A_->Prop):Prop :=
 CallsD P f cap u w λe kS w'=>(∃v,e = .returned v)/\settle kS = .returning/\R w'
def Fa(P:D_)(res:C_ nk)(f:E_)(cap:Array B_)(R:B_->A_->Prop):fK->Fr->A_->Prop
 | .normal,S,w=>uE P f cap .returning w λw'=>qp res S w' λvs=>R (jE vs) w'
 | .ret,S,w=>uE P f cap .returning w λw'=>qp res S w' λvs=>R (jE vs) w'
 | .exit _,_,_=>False
 | .ht c,S,w=>uE P f cap (.panicking c) w λw'=>qp res S w' λvs=>R (jE vs) w'
def aun(P:D_)(L:BR)(R:B_->A_->Prop)(S:Fr)(w:A_):Prop :=
 dV P L.pre (vM (λS w=>steps P L.cg S w λS w => ∃f cap,bp S L.fn = .func (.func f) #[] cap/\okF P f=true/\dV P L.rest (Fa P L.res f cap R) S w) (λ_ _ _=>False)) S w
def aiA{ae:Oper}{x:G_}(h:Pu ae=some x):∃ty pos after ov,ae=⟨none,.defer ⟨.value x,#[],ov⟩,ty,pos,after,none⟩:=by
 obtain⟨dst,op,ty,pos,after,guard⟩:=ae;unfold Pu at h;split at h
 .rename_i h1 I ab;simp only at h1 I ab;split at h
  .rename_i aC;injection h with h
   have a1:=Array.toList_eq_nil_iff.1 aC;subst h1 I ab h a1;exact⟨_,_,_,_,rfl⟩
  .cases h
 .cases h
def ai5{P:D_}{f:E_}{L:BR}(hm:P.follows .mixedOrders=true)(an:IM P f=some L){args:C_ B_}{w:A_}{R:B_->A_->Prop}(aY:args.length<=L.n)
  (h:aun P L R (iT args 0) w):aX P f args.toArray w R:=by
 unfold IM at an;split at an
 .rename_i fn lq;split at an
  .rename_i c ak;unfold Yl at an;split at an
   .rename_i a id ops iQ;split at an
    .rename_i x qg cg lc r h1 I ab aC a1;injection an with an;subst an
     obtain⟨ae,aQ,af⟩:=Option.bind_eq_some_iff.1 h1;obtain⟨ty,pos,after,ov,rfl⟩:=aiA af;have am2:ops.toList=ops.toList.dropLast++[⟨none,.defer ⟨.value x,#[],ov⟩,ty,pos,after,none⟩]:=by
      have ct:ops.toList≠[]:=by intro e;rw[e] at aQ;cases aQ
      rw[List.getLast?_eq_some_getLast ct] at aQ;injection aQ with aQ
      rw[<-aQ,AL0 ct]
     have fin:∀(g:E_) (cap:Array B_) (S:Fr) (cx:Act) (w':A_) (u:FrameMode),u≠.run->okF P g=true->Fits [{ target:=.fn (.func g) cap,args:=#[] }] cx S fn.ntmps->uE P g cap u w' (λw'=>qp r S w' λvs=>R (jE vs) w') ->
       Leaves P fn cx.tmps (λe w' => ∃v,e = .returned v/\R v w') cx.defers u w':=by
      intro g cap S cx w' u hu c8 ay aE;rw[ay.1];refine leaves_cons hu (f:=g) (args:=cap) (by simp[invoke,DR c8]) (CallsD.mono aE ?_);rintro e kS bM ⟨⟨v,rfl⟩,aj,aS⟩;simp only[aj];obtain⟨vs,bJ,cr⟩:=s4 ay _ _ _ a1 aS;exact⟨_,xJ bJ,_,rfl,cr⟩
     refine calls_of_wp_defers lq ak ((wpIn_wide (n:=0)).1 ?_);refine wpIn_seq (wpIn_mono (sound (ds:=[]) (r:=none) (m:=0) hm a qg I _ _ (iT args 0) w (PT aY) h) λe cx w' au=>?_);cases e with
     | normal =>
      obtain⟨S,ay,au⟩:=au;refine wpIn_seq (wpIn_region_list ?_);rw[am2];refine zy (r:=none) (tl:=[_]) ?_ ?_ _ cg cx S w' ab ay au
      .rintro a2 jW aA mN ⟨g,cap,he,c8,aF⟩;have hw:Region.wanted (⟨none,.defer ⟨.value x,#[],ov⟩,ty,pos,after,none⟩:Oper) (yielded ops a2.tmps)=true:=rfl;simp only[wpListIn,hw,if_true];have h7:∀ρ:G_->B_,ρ x = .func (.func g) #[] cap->((⟨none,.defer ⟨.value x,#[],ov⟩,ty,pos,after,none⟩:Oper).semAt none ρ).run P aA = .ok (.defer { target:=.fn (.func g) cap,args:=#[] }) aA:=by
        intro ρ aoh;simp[Oper.semAt,execOp,resolve,Deferred.ofValue,aoh,go_sem]
       refine⟨λ_ _=>trivial,?_⟩;rw[show(oA none).round=none from rfl,h7 a2.eval (by rw[mN.eval];exact he)];have amB:Fits [{ target:=.fn (.func g) cap,args:=#[] }] ({ a2 with defers:={ target:=.fn (.func g) cap,args:=#[] } :: a2.defers }:Act) jW fn.ntmps:=⟨by rw[mN.1],mN.2⟩;refine wpIn_mono (sound (ds:=[{ target:=.fn (.func g) cap,args:=#[] }]) (r:=none) (m:=0) hm iQ lc aC _ _ jW aA amB aF) λe a4 aU au=>?_;cases e with
       | normal=>obtain⟨pW,qY,au⟩:=au;exact fin g cap pW a4 aU .returning CC c8 qY au
       | ret=>obtain⟨pW,qY,au⟩:=au;exact fin g cap pW a4 aU .returning CC c8 qY au
       | exit i=>obtain⟨pW,qY,au⟩:=au;exact au.elim
       | panic uR=>obtain⟨pW,qY,au⟩:=au;exact fin g cap pW a4 aU (.panicking uR) CC c8 qY au
       | _=>exact au.elim
      .rintro⟨_,_,af⟩;obtain⟨_,h1,_⟩:=af;cases h1
     | ret=>obtain⟨S,ay,au⟩:=au;exact au.elim
     | exit i=>obtain⟨S,ay,au⟩:=au;exact au.elim
     | panic uR=>obtain⟨S,ay,au⟩:=au;exact au.elim
     | _=>exact au.elim
    .cases an
   .cases an
  .cases an
 .cases an
structure Es where
 n:Nat
 res:List nk
 d:Nat
 e:Nat
 rest:e0
def TB(ae:Oper):H_ Nat :=
 match ae.guard,ae.op,ae.dst with
 | none,.call ⟨.builtin .recover,args,_⟩,some d=>match args.toList with | []=>some d | _=>none
 | _,_,_=>none
def OP(ae:Oper):H_ (Nat×Nat) :=
 match ae.guard,ae.op,ae.dst with
 | none,.assign (.tmp d),some e=>some (d,e)
 | _,_,_=>none
def Ym(P:D_)(fn:Func):Code->H_ Es
 | .seq (.region _ ops false) c =>
  match ops.toList with
  | [bO,bT]=>match TB bO,OP bT,comp P fn.ntmps c,yx P fn.results.toList with
   | some d,some (wD,e),some lc,some r=>if d=wD/\d<fn.ntmps/\e<fn.ntmps then some ⟨fn.ntmps,r,d,e,lc⟩ else none
   | _,_,_,_=>none
  | _=>none
 | _=>none
def IN(P:D_)(f:E_):H_ Es :=
 match P.funcs[f]? with
 | some fn=>match fn.body with | some c=>Ym P fn c | none=>none
 | none=>none
def qm:FrameMode->B_×FrameMode
 | .panicking ({ v,recovered:=false,goexit:=false } :: aqg)=>(v,.panicking ({ v,recovered:=true } :: aqg))
 | u=>(.nilIface,u)
theorem ar4(c:Frame)(cs:C_ Frame):(match recoverD (c :: cs) with | some (v,jm)=>(v,jm) | none=>(.nilIface,c :: cs))=((qm c.mode).1,{ c with mode:=(qm c.mode).2 } :: cs):=by
 obtain⟨fn,tmps,todo,defers,mode,kind,ro⟩:=c;unfold recoverD qm;cases mode with
 | run=>rfl
 | returning=>rfl
 | panicking l =>
  cases l with
  | nil=>rfl
  | cons p r =>
   obtain⟨v,rc,ge⟩:=p;cases rc<;>cases ge<;>rfl
def ar2{ae:Oper}{d:Nat}(h:TB ae=some d):∃ov ty pos after,ae=⟨some d,.call ⟨.builtin .recover,#[],ov⟩,ty,pos,after,none⟩:=by
 obtain⟨dst,op,ty,pos,after,guard⟩:=ae;unfold TB at h;split at h
 .rename_i h1 I ab;simp only at h1 I ab;split at h
  .rename_i aC;injection h with h
   have a1:=Array.toList_eq_nil_iff.1 aC;subst h1 I ab h a1;exact⟨_,_,_,_,rfl⟩
  .cases h
 .cases h
def agP{ae:Oper}{d e:Nat}(h:OP ae=some (d,e)):∃ty pos after,ae=⟨some e,.assign (.tmp d),ty,pos,after,none⟩:=by
 obtain⟨dst,op,ty,pos,after,guard⟩:=ae;unfold OP at h;split at h
 .rename_i h1 I ab;simp only at h1 I ab;injection h with h
  injection h with a1 bJ
  subst h1 I ab a1 bJ;exact⟨_,_,_,rfl⟩
 .cases h
def ai6{P:D_}{f:E_}{L:Es}(hm:P.follows .mixedOrders=true)(an:IN P f=some L){args:C_ B_}{u:FrameMode}{w:A_}{R:B_->A_->Prop}(aY:args.length<=L.n)
  (h:dV P L.rest (E9 L.res R) (cc (cc (iT args 0) L.d (qm u).1) L.e (qm u).1) w):CallsD P f args.toArray u w λe kS w'=>kS=(qm u).2/\∃v,e = .returned v/\R v w':=by
 unfold IN at an;split at an
 .rename_i fn lq;split at an
  .rename_i c ak;unfold Ym at an;split at an
   .rename_i id ops iQ;split at an
    .rename_i bO bT Gm;split at an
     .rename_i d wD e lc r h1 I ab aC;split at an
      .rename_i amp;obtain⟨amo,bb,he⟩:=amp;subst amo;injection an with an;subst an
       obtain⟨ov,at1,aq4,agB,rfl⟩:=ar2 h1;obtain⟨at2,aq5,agC,rfl⟩:=agP I;refine callsD_of_wpS lq ak λCs cs hu=>?_;refine wpS_seq (wpS_region ?_);have dq:ops.size=2:=by rw[<-Array.length_toList,Gm];rfl
       have C6:ops[0]? = ops.toList[0]? := by simp
       have AJ:ops[1]? = ops.toList[1]? := by simp
       rw[Gm] at C6 AJ;simp only[List.getElem?_cons_zero,List.getElem?_cons_succ] at C6 AJ;have aS:List.range ops.size=[0,1]:=by rw[dq];rfl
       rw[aS];have anK:∀(ρ:G_->B_),(execOp ρ ⟨some d,.call ⟨.builtin .recover,#[],ov⟩,at1,aq4,agB,none⟩).run P w = .ok .recover w:=by
        intro ρ;simp[execOp,resolve,invoke,builtin,go_sem]
       have KJ:∀(dst:H_ Nat) (op:Op) (ty:F_) (pos:String) (after:Array Edge) (y:Nat->H_ Bool),Region.wanted (⟨dst,op,ty,pos,after,none⟩:Oper) y=true:=λ_ _ _ _ _ _=>rfl;have amA:=PT (n:=fn.ntmps) aY;have key:∀(v:B_) (jm:C_ Frame),dV P lc (E9 r R) (cc (cc (iT args 0) d v) e v) w->(jm = { Cs with mode:=(qm u).2 } :: cs) ->
         wpOpsS P ops (Exit.thenS (iQ.wpS P (bodyPostS P fn Cs cs λe kS w'=>kS=(qm u).2/\∃v,e = .returned v/\R v w')) (bodyPostS P fn Cs cs λe kS w'=>kS=(qm u).2/\∃v,e = .returned v/\R v w')) [1]
          (({ tmps:=args.toArray++Array.replicate (fn.ntmps - args.toArray.size) undef,defers:=[] }:Act).put (some d) v) jm w:=by
        intro v jm aF gu;have Km:=amA.put (d:=some d) (by simpa[yz] using bb) v;have af:(execOp (({ tmps:=args.toArray++Array.replicate (fn.ntmps - args.toArray.size) undef,defers:=[] }:Act).put (some d) v).eval ⟨some e,.assign (.tmp d),at2,aq5,agC,none⟩).run P w = .ok (.value v) w:=by
         rw[Km.eval];simp[execOp,bp,a8.put,cc]
        simp only[wpOpsS,AJ,KJ,if_true,af];rw[Oper.upon_value];have mN:=Km.put (d:=some e) (by simpa[yz] using he) v;refine wpS_of_wp ((wpIn_wide (n:=0)).1 (wpIn_mono (sound (ds:=[]) (r:=none) (m:=0) hm iQ lc ab _ _ _ w mN aF) λx a4 aU au=>?_));cases x with
        | normal =>
         obtain⟨pW,qY,au⟩:=au;obtain⟨vs,bJ,cr⟩:=s4 qY _ _ _ aC au;exact⟨qY.1,_,gu,_,xJ bJ,rfl,_,rfl,cr⟩
        | ret =>
         obtain⟨pW,qY,au⟩:=au;obtain⟨vs,bJ,cr⟩:=s4 qY _ _ _ aC au;exact⟨qY.1,_,gu,_,xJ bJ,rfl,_,rfl,cr⟩
        | exit i=>obtain⟨pW,qY,au⟩:=au;exact au.elim
        | panic uR=>obtain⟨pW,qY,au⟩:=au;exact au.elim
        | _=>exact au.elim
       have rZ:=ar4 Cs cs;rw[hu] at rZ;unfold wpOpsS;simp only[C6,KJ,if_true,anK];cases KC:recoverD (Cs :: cs) with
       | none =>
        rw[KC] at rZ;injection rZ with bF aH
        exact key .nilIface (Cs :: cs) (by rw[bF];exact h) aH
       | some aum =>
        obtain⟨v,jm⟩:=aum;rw[KC] at rZ;injection rZ with bF aH
        exact key v jm (by rw[bF];exact h) aH
      .cases an
     .cases an
    .cases an
   .cases an
  .cases an
 .cases an
end a8
namespace a8
open Go Go.RowKit
def NX(P:D_)(v:B_)(K:E_->Array B_->Prop):Prop := ∃f cap,v = .func (.func f) #[] cap/\okF P f=true/\K f cap
section
variable{P:Program}{S:Fr}{w:World}{res:List nk}{R:Value->World->Prop}
def AC4{f:E_}{L:BR}(hm:P.follows .mixedOrders=true)(an:IM P f=some L){args:C_ B_}(aY:args.length<=L.n)
  (h:eZ P L.pre (jD (λS w=>qu P L.cg S w (λS w=>NX P (bp S L.fn) λg cap=>eZ P L.rest (Fa P L.res g cap R) S w ⟨⟩) ⟨⟩) (λ_ _ _=>False) ⟨⟩) (iT args 0) w ⟨⟩):aX P f args.toArray w R:=by
 refine ai5 hm an aY ?_;unfold eZ jD qu NX at h;exact h
def AC5{g:E_}{cap:Array B_}{K:E_->Array B_->Prop}(c8:okF P g=true)(h:K g cap):NX P (.func (.func g) #[] cap) K:=⟨g,cap,rfl,c8,h⟩
def AC6{g:E_}{cap:Array B_}(h:uE P g cap .returning w λw'=>ou res S w' (λvs=>R (jE vs) w') ⟨⟩):Fa P res g cap R .ret S w:=by
 unfold ou at h;exact h
def AC7{g:E_}{cap:Array B_}{c:C_ PanicEntry}(h:uE P g cap (.panicking c) w λw'=>ou res S w' (λvs=>R (jE vs) w') ⟨⟩):Fa P res g cap R (.ht c) S w:=by
 unfold ou at h;exact h
theorem uE.of{g:E_}{cap:Array B_}{u BF:FrameMode}{Ev Ew:A_->Prop}(h:CallsD P g cap u w λe kS w'=>kS=BF/\∃v,e = .returned v/\Ev w')(aj:settle BF = .returning)(hk:∀w',Ev w'->Ew w'):uE P g cap u w Ew :=
 CallsD.mono h λe kS w' ⟨h1,v,I,ab⟩=>⟨⟨v,I⟩,by rw[h1];exact aj,hk _ ab⟩
def AA3{f:E_}{L:Es}(hm:P.follows .mixedOrders=true)(an:IN P f=some L){args:C_ B_}{u:FrameMode}(aY:args.length<=L.n)
  (h:eZ P L.rest (tA L.res R ⟨⟩) (cc (cc (iT args 0) L.d (qm u).1) L.e (qm u).1) w ⟨⟩):CallsD P f args.toArray u w λe kS w'=>kS=(qm u).2/\∃v,e = .returned v/\R v w':=by
 refine ai6 hm an aY ?_;unfold eZ tA at h;exact h
def aeu(d:Nat){t:F_}{ms:Array (String×F_)}(h:P.underlying t=some (.interface ms))(w:A_):(Op.equalIn (d+1) t .nilIface .nilIface).run P w = .ok true w/\∀T v,(Op.equalIn (d+1) t (.iface T v) .nilIface).run P w = .ok false w:=by
 constructor
 .simp[Op.equalIn,run_underlying h]
 .intro T v;simp[Op.equalIn,run_underlying h]
def abS{t:F_}(h:(P.underlying t).map zc=some true):∃ms,P.underlying t=some (.interface ms):=by
 obtain⟨d,bb,U⟩:=Option.map_eq_some_iff.1 h;cases d<;>first | exact⟨_,bb⟩ | (simp[zc] at U;done)
def AC8{hW:F_}{x:G_}{v:B_}{bj:B_->Prop}{t}(h:(P.underlying hW).map zc=some true)(hk:bj (.bool false)):kz P .neq hW x (.const v) .nilIface .nilIface bj t :=
 _X (v:=.bool false) (λw=>by
  obtain⟨ms,h⟩:=abS h;have h1:=(aeu 9999 h w).1;have I:(Op.equalIn Op.maxDepth hW .nilIface .nilIface).run P w = .ok true w:=h1;cases x<;>simp[eqGuard,binOp,Op.equal,go_sem,I,Result.andThen]) hk
def AC9{hW T:F_}{x y:G_}{v:B_}{bj:B_->Prop}{t}(h:(P.underlying hW).map zc=some true)(hk:bj (.bool true)):kz P .neq hW x y (.iface T v) .nilIface bj t :=
 _X (v:=.bool true) (λw=>by
  obtain⟨ms,h⟩:=abS h;have I:(Op.equalIn Op.maxDepth hW (.iface T v) .nilIface).run P w = .ok false w:=(aeu 9999 h w).2 T v;simp[eqGuard,binOp,Op.equal,go_sem,I,Result.andThen]) hk
def AD0{x:G_}{afH T ty:F_}{v:B_}{cL:B_->A_->Prop}{t}(af:bp S x = .iface T v)(h:(P.underlying T).map zc=some false)(hk:cL (.tuple #[v,.bool true]) w):uH P (.typeAssert x afH T true) ty S w cL t:=by
 refine _F (v:=.tuple #[v,.bool true]) (w':=w) ?_ hk;obtain⟨d,bb,U⟩:=Option.map_eq_some_iff.1 h;have h1:(Instr.typeAssert (.iface T v) afH T true).run P w = .ok (.tuple #[v,.bool true]) w:=by
  cases d<;>first | (simp[zc] at U;done) | (simp[Instr.typeAssert,run_underlying bb])
 simp[execOp,af,h1,Result.andThen]
end
end a8
namespace Go.Proofs.R
open Go a8 Go.Proofs
abbrev F.g:E_:=54
def Vo.tr:BR:=⟨16,[.iR 4 2], (.dy [dr 1 (.box T.f (aO 0)),dr 2 (.new T.x (.agg #[dN,dN,dN,dN]))]),
 [cQ 4 (.xz F.g [] [(aO 2)])],(aO 4), (cS [dr 5 .vA,aT 3 5] (.seq (.fP [ig 6 5 1,aT 7 3] (some 8) F.as [(aO 6),(aO 7)]) (.seq (.fP [ig 9 5 1,aT 10 3] (some 11) F.ts [(aO 9),(aO 10)]) (.seq (.fP [ig 12 5 1,aT 13 3] (some 14) F.nO [(aO 12),(aO 13)]) (cS [cQ 15 (.h3 [dN,dN,dN,dN] [(0,1),(1,1),(2,1),(3,1)] []),qy 4 2 15] .ret)))))⟩
theorem afV.tr:IM Tryz.prog F.tr=some Vo.tr:=Ci
def NW.g:Es:=⟨17,[],4,1, (cS [aT 5 1,cQ 6 (.bin .neq T.wc (aO 5) (.const .nilIface))] (kh 6 (cS [aT 8 1,dr 9 (.raw (.typeAssert (aO 8) T.wc T.nM true) T.nK),aT 7 9,Eb 10 7 0,Eb 11 7 1,dr 2 (.new T.nM (.agg #[dN,dN,dN,dN])),qy 4 2 10,aT 3 11] (.seq (cS [aT 12 3,cQ 13 (.un .not (aO 12))] (kh 13 (.uk [aT 14 1] (aO 14)) .skip)) (.dy [fq 15 0 2,ig 16 4 15,qy 4 0 16]))) .skip))⟩
theorem Vr.g:IN Tryz.prog F.g=some NW.g:=Ci
end Go.Proofs.R