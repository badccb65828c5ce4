/- Parts. -/
import Derived.Test.YtakmdjclehkglaaGreatDoorQawi
import Derived.Maps.RangeRun
import Derived.Defers
import Derived.Recover
set_option linter.all false
set_option maxRecDepth 100000
set_option maxHeartbeats 16000000
section
namespace Go.Proofs.R
open Go Go.RowKit a7
theorem CE(gQ:B_)(e:C_ o.Node)(k:Int)(cs:C_ B_)(s:o.Scope)(w:A_)(ax:o.eL w gQ e)(h:o.fU w cs s) :
  Dz F.KD #[gQ,.I k,.agg cs.toArray] w fun v w'=>v = .I (o.asked e k s)/\Ext w w':=by
 obtain⟨a0,bu,cZ,c1,a2,c2,a3,bp,a4,bB,rfl,_⟩:=h.form;obtain⟨aO,cap,rfl,_⟩:=ax.form;refine bl E.KD ?_;refine aa ?_;intro w1 br cF ah al;refine aa ?_;refine J_ (acJ _ e _ s w1 (ax.ext ah) (h.ext ah)) ?_;rintro _ aB ⟨rfl,aj⟩;rw[o.asked];refine aa ?_;apply I_<;>intro g1;rotate_left
 .refine aa ?_;exact⟨by rw[if_pos g1],ah.trans aj⟩
 rw[if_neg (by simpa using g1)];refine aa ?_;apply I_<;>intro g2;rotate_left
 .refine aa ?_;exact⟨by rw[if_pos g2],ah.trans aj⟩
 .refine aa ?_;exact⟨by rw[if_neg (by simpa using g2)],ah.trans aj⟩
theorem JU(n:Int)(w:A_)(h:0<=n/\n<=4611686018427387904):Dz F.FD #[.I n] w fun v w'=>v = .I (if n=0 then 0 else 1+n)/\w'=w:=JT n w h
theorem RY(v:B_)(l:C_ o.Var)(n:Int)(cs:C_ B_)(s:o.Scope)(w:A_)(az:o.hR w v l)(h:o.fU w cs s) :
  Dz F.KF #[v,.I n,.agg cs.toArray] w fun v w'=>v = .tuple #[.I (o.lD l n s).1,.I (o.lD l n s).2]/\Ext w w':=by
 obtain⟨a0,bu,cZ,c1,a2,c2,a3,bp,a4,bB,rfl,_,_,_,_,_,eU,eh,eo,dY,ew⟩:=h.form;obtain⟨aO,cap,rfl,_⟩:=az.form;refine bl E.KF ?_;refine aa ?_;intro w1 br cF ah al;refine aa ?_;refine J_ (Gb _ l n _ s w1 (az.ext ah) (h.ext ah)) ?_;rintro u aB ⟨⟨x,hu,af⟩,aj⟩;cases hk:(o.gg l n s).2.2 with
 | false =>
  rw[hk] at hu;subst hu;refine aa ?_;intro aK bR e9 ag bh;refine aa ?_;exact⟨by rw[o.lD,o.Xb hk],(ah.trans aj).trans ag⟩
 | true =>
  rw[hk] at hu;subst hu;obtain⟨a6,dB,ec,er,eN⟩:=o.Xd hk (af hk);have hU:o.lD l n s=if x.over≠0 then (0,9) else ((if x.scalar=0 then 0 else 1+x.scalar),0):=by unfold o.lD;rw[a6]
  refine aa ?_;intro aK bR e9 ag bh;refine aa ?_;apply I_<;>intro g1
  .rw[if_neg (by simpa using g1)] at hU;refine aa ?_;refine J_ (JU _ aK ⟨dB,Aw⟩) ?_;rintro _ _ ⟨rfl,rfl⟩;refine aa ?_;exact⟨by rw[hU],(ah.trans aj).trans ag⟩
  .rw[if_pos g1] at hU;refine aa ?_;exact⟨by rw[hU],(ah.trans aj).trans ag⟩
theorem amZ(a:o.Act)(bH bV:B_)(cs:C_ B_)(s:o.Scope)(w:A_)(U:o.eL w bH a.index)(aD:o.eL w bV a.value)(h:o.fU w cs s) :
  Dz F.KE #[.agg (a.enc bH bV).toArray,.agg cs.toArray] w fun v w'=>v = .I (o.Ab a s)/\Ext w w':=by
 obtain⟨a0,bu,cZ,c1,a2,c2,a3,bp,a4,bB,rfl,_,QI,_,_,_,eU,eh,eo,dY,ew⟩:=h.form;obtain⟨_,_,rfl,_⟩:=U.form;obtain⟨_,_,rfl,_⟩:=aD.form;refine bl E.KE ?_;refine aa ?_;intro w1 br cF ah al;refine aa ?_;intro aB bP db aj au;replace al:=aj.obj al;have cY:∀{w'},Ext aB w'->Ext w w':=fun e=>(ah.trans aj).trans e;refine aa ?_;refine J_ (Gb _ s.vars a.to _ s aB (QI.ext (cY (Ext.refl _))) (h.ext (cY (Ext.refl _)))) ?_;rintro u aK ⟨⟨x,hu,af⟩,ag⟩;replace al:=ag.obj al;replace au:=ag.obj au;cases hk:(o.gg s.vars a.to s).2.2 with
 | false =>
  rw[hk] at hu;subst hu;refine aa ?_;intro aR cx e3 aw bf;refine aa ?_;exact⟨by rw[o.Ab,o.Xb hk],cY (ag.trans aw)⟩
 | true =>
  rw[hk] at hu;subst hu;obtain⟨a6,dB,ec,er,eN⟩:=o.Xd hk (af hk);have hU:o.Ab a s=if x.over=0 then 9 else if o.asked a.index (1+x.over) s≠0 then o.asked a.index (1+x.over) s else o.asked a.value (if x.scalar=0 then 0 else 1+x.scalar) s:=by unfold o.Ab;rw[a6]
  refine aa ?_;intro aR cx e3 aw bf;replace al:=aw.obj al;replace au:=aw.obj au;have dW:∀{w'},Ext aR w'->Ext w w':=fun e=>cY ((ag.trans aw).trans e);refine aa ?_;apply I_<;>intro g1
  .rw[if_pos g1] at hU;refine aa ?_;exact⟨by rw[hU],dW (Ext.refl _)⟩
  rw[if_neg g1] at hU;refine aa ?_;refine J_ (CE _ a.index (1+x.over) _ s aR (U.ext (dW (Ext.refl _))) (h.ext (dW (Ext.refl _)))) ?_;rintro _ bo ⟨rfl,aF⟩;replace al:=aF.obj al;replace au:=aF.obj au;replace bf:=aF.obj bf;have ix:∀{w'},Ext bo w'->Ext w w':=fun e=>dW (aF.trans e);refine aa ?_;apply I_<;>intro g2;rotate_left
  .rw[if_pos g2] at hU;refine aa ?_;exact⟨by rw[hU],ix (Ext.refl _)⟩
  rw[if_neg (by simpa using g2)] at hU;refine aa ?_;refine P_ (.I (if x.scalar=0 then 0 else 1+x.scalar)) (fun w' e=>(JU _ w' ⟨dB,Aw⟩).mono fun v bM cN=>⟨cN.1,by rw[cN.2];exact Ext.refl _⟩) ?_;refine aa ?_;refine P_ (.I (o.Ab a s)) (fun w' e=>by rw[hU];exact CE _ a.value _ _ s w' (aD.ext (ix e)) (h.ext (ix e))) ?_;refine aa ?_;intro bt aI;refine aa ?_;exact⟨aL,ix aI⟩
theorem acD(a:o.Act)(comm:Bool)(bH bV:B_)(cs:C_ B_)(s:o.Scope)(w:A_)(U:o.eL w bH a.index)(aD:o.eL w bV a.value)(h:o.fU w cs s) :
  Dz F.KC #[.agg (a.enc bH bV).toArray,.agg cs.toArray,.bool comm] w fun v w'=>v = .I (o.lF a s comm)/\Ext w w':=by
 obtain⟨a0,bu,cZ,c1,a2,c2,a3,bp,a4,bB,rfl,_,QI,_,_,kb,eU,eh,eo,dY,ew⟩:=h.form;obtain⟨_,_,rfl,_⟩:=U.form;obtain⟨_,_,rfl,_⟩:=aD.form;refine bl E.KC ?_;refine aa ?_;intro w1 br cF ah al;refine aa ?_;intro aB bP db aj au;replace al:=aj.obj al;have cY:∀{w'},Ext aB w'->Ext w w':=fun e=>(ah.trans aj).trans e;refine aa ?_;apply I_<;>intro g1
 .refine aa ?_;exact⟨by rw[o.lF,if_pos (.inl g1)],cY (Ext.refl _)⟩
 refine aa ?_;apply I_<;>intro g2
 .refine aa ?_;exact⟨by rw[o.lF,if_pos (.inr g2)],cY (Ext.refl _)⟩
 have r7:¬(a.kind<1\/5<a.kind):=Aw
 refine aa ?_;apply I_<;>intro g3
 .refine aa ?_;refine J_ (amZ a _ _ _ s aB (U.ext (cY (Ext.refl _))) (aD.ext (cY (Ext.refl _))) (h.ext (cY (Ext.refl _)))) ?_;rintro _ aK ⟨rfl,ag⟩;refine aa ?_;exact⟨by rw[o.lF,if_neg r7,if_pos g3],cY ag⟩
 refine aa ?_;apply I_<;>intro g4
 .have aG:o.lF a s comm=if (o.lD s.vars a.to s).2≠0 then (o.lD s.vars a.to s).2 else o.asked a.value (o.lD s.vars a.to s).1 s:=by
   rw[o.lF,if_neg r7,if_neg g3,if_pos (.inl g4)];simp only[if_neg (by omega:¬a.kind=3)]
  refine aa ?_;refine J_ (RY _ s.vars a.to _ s aB (QI.ext (cY (Ext.refl _))) (h.ext (cY (Ext.refl _)))) ?_;rintro _ aK ⟨rfl,ag⟩;replace al:=ag.obj al;replace au:=ag.obj au;refine aa ?_;apply I_<;>intro g5;rotate_left
  .rw[if_pos g5] at aG;refine aa ?_;exact⟨by rw[aG],cY ag⟩
  rw[if_neg (by simpa using g5)] at aG;refine aa ?_;refine J_ (CE _ a.value _ _ s aK (aD.ext (cY ag)) (h.ext (cY ag))) ?_;rintro _ aR ⟨rfl,aw⟩;refine aa ?_;exact⟨by rw[aG],cY (ag.trans aw)⟩
 refine aa ?_;apply I_<;>intro g5
 .have aG:o.lF a s comm=if (o.lD s.locals a.to s).2≠0 then (o.lD s.locals a.to s).2 else o.asked a.value (o.lD s.locals a.to s).1 s:=by
   rw[o.lF,if_neg r7,if_neg g3,if_pos (.inr g5)];simp only[if_pos g5]
  refine aa ?_;refine J_ (RY _ s.locals a.to _ s aB (kb.ext (cY (Ext.refl _))) (h.ext (cY (Ext.refl _)))) ?_;rintro _ aK ⟨rfl,ag⟩;replace al:=ag.obj al;replace au:=ag.obj au;refine aa ?_;apply I_<;>intro g5;rotate_left
  .rw[if_pos g5] at aG;refine aa ?_;exact⟨by rw[aG],cY ag⟩
  rw[if_neg (by simpa using g5)] at aG;refine aa ?_;refine J_ (CE _ a.value _ _ s aK (aD.ext (cY ag)) (h.ext (cY ag))) ?_;rintro _ aR ⟨rfl,aw⟩;refine aa ?_;exact⟨by rw[aG],cY (ag.trans aw)⟩
 have Eb:¬(a.kind=1\/a.kind=3):=Aw
 refine aa ?_;refine N_ (fun g6=>?_) (fun g6=>?_)
 .refine aa ?_;exact⟨by rw[o.lF,if_neg r7,if_neg g3,if_neg Eb,if_pos g6],cY (Ext.refl _)⟩
 refine aa ?_;refine J_ (acE a.to _ s aB (h.ext (cY (Ext.refl _)))) ?_;rintro u aK ⟨⟨x,hu,af⟩,ag⟩;replace al:=ag.obj al;replace au:=ag.obj au;by_cases hk:(o.ks a.to s).2=0;rotate_left
 .rw[decide_eq_false hk] at hu;subst hu;refine aa ?_;intro aR cx e3 aw bf;refine aa ?_;exact⟨by rw[o.lF,if_neg r7,if_neg g3,if_neg Eb,if_neg (by simp[g6]),o.agv hk],cY (ag.trans aw)⟩
 rw[decide_eq_true hk] at hu;subst hu;obtain⟨a6,dB,ec⟩:=o.agx hk (af hk);have aG:o.lF a s comm=if a.kind=4 then o.asked a.value (if x.scalar=0 then 0 else 1+x.scalar) s else if (o.lD s.locals a.loc s).2≠0 then (o.lD s.locals a.loc s).2 else if (o.lD s.locals a.loc s).1≠(if x.scalar=0 then 0 else 1+x.scalar) then 9 else 0:=by
  rw[o.lF,if_neg r7,if_neg g3,if_neg Eb,if_neg (by simp[g6]),a6]
 refine aa ?_;intro aR cx e3 aw bf;replace al:=aw.obj al;replace au:=aw.obj au;have dW:∀{w'},Ext aR w'->Ext w w':=fun e=>cY ((ag.trans aw).trans e);refine aa ?_;apply I_<;>intro g7
 .rw[if_pos g7] at aG;refine aa ?_;refine P_ (.I (if x.scalar=0 then 0 else 1+x.scalar)) (fun w' e=>(JU _ w' ⟨dB,Aw⟩).mono fun v bM cN=>⟨cN.1,by rw[cN.2];exact Ext.refl _⟩) ?_;refine aa ?_;refine P_ (.I (o.lF a s comm)) (fun w' e=>by rw[aG];exact CE _ a.value _ _ s w' (aD.ext (dW e)) (h.ext (dW e))) ?_;refine aa ?_;intro bt aI;refine aa ?_;exact⟨aL,dW aI⟩
 rw[if_neg g7] at aG;refine aa ?_;refine J_ (RY _ s.locals a.loc _ s aR (kb.ext (dW (Ext.refl _))) (h.ext (dW (Ext.refl _)))) ?_;rintro _ bo ⟨rfl,aF⟩;replace bf:=aF.obj bf;refine aa ?_;apply I_<;>intro g8;rotate_left
 .rw[if_pos g8] at aG;refine aa ?_;exact⟨by rw[aG],dW aF⟩
 rw[if_neg (by simpa using g8)] at aG;refine aa ?_;refine J_ (JU _ bo ⟨dB,Aw⟩) ?_;rintro _ _ ⟨rfl,rfl⟩;refine aa ?_;apply I_<;>intro g9
 .rw[if_neg (by simpa using g9)] at aG;refine aa ?_;exact⟨by rw[aG],dW aF⟩
 .rw[if_pos g9] at aG;refine aa ?_;exact⟨by rw[aG],dW aF⟩
end Go.Proofs.R
end
section
namespace o
theorem Wa{s:Scope}{a:Act}{k:Nat}{b:Bool}{Z:Int×Int}:(if hn a&&b then ((2+(k:Int)),(7:Int)) else if kA a s≠0 then (2+(k:Int),kA a s) else Z)=if lF a s b≠0 then (2+(k:Int),lF a s b) else Z:=by
 rw[aqf];by_cases h:(hn a&&b)=true
 .simp[h]
 .simp[h]
end o
namespace Go.Proofs.R
open Go Go.RowKit a7
theorem aql(c:o.dr)(e6 dn:B_)(p:o.dw)(pM rB:B_)(cs:C_ B_)(s:o.Scope)(w:A_)(ax:o.jB c.name)(aH:o.eL w e6 c.guard)(aU:o.lK w dn c.bE)
  (aD:o.hR w pM p.vars)(ai:o.rO w rB p.cy)(h:o.fU w cs s) :
  Dz F.Kz #[.agg (c.enc e6 dn).toArray,.agg (p.enc pM rB).toArray,.agg cs.toArray] w fun v w' =>
   v = .tuple #[.I (o.jn c p.b2 s).1,.I (o.jn c p.b2 s).2]/\Ext w w':=by
 obtain⟨a0,bu,cZ,c1,a2,c2,a3,bp,a4,bB,rfl,_⟩:=h.form;obtain⟨aO,cap,rfl,hlen⟩:=aU.form;obtain⟨gn,af3,rfl,alh⟩:=aH.form;obtain⟨_,_,rfl,_⟩:=aD.form;obtain⟨_,_,rfl,_⟩:=ai.form;refine bl E.Kz ?_;refine aa ?_;intro w1 br cF ah al;refine aa ?_;intro aB bP db aj au;refine aa ?_;intro aK bR e9 ag bh;replace al:=(aj.trans ag).obj al;replace au:=ag.obj au;have fD:∀{w'},Ext aK w'->Ext w w':=fun e=>((ah.trans aj).trans ag).trans e;refine aa ?_;refine J_ (CG c.name aK ax) ?_;rintro u aR ⟨hu,aw⟩;replace al:=aw.obj al;replace au:=aw.obj au;replace bh:=aw.obj bh;have dW:∀{w'},Ext aR w'->Ext w w':=fun e=>fD (aw.trans e);have a6:∀n,o.head c p.b2=n->n≠0->o.jn c p.b2 s=(0,n):=fun n e ad=>by unfold o.jn;rw[e,if_pos ad]
 cases fX:o.isName c.name with
 | false =>
  rw[fX] at hu;subst hu;refine aa ?_;exact⟨by rw[a6 6 (by unfold o.head;rw[if_pos fX]) BJ],dW (Ext.refl _)⟩
 | true =>
  rw[fX] at hu;subst hu;have pF:¬o.isName c.name=false:=by rw[fX];simp
  refine aa ?_;apply I_<;>intro g1
  .refine aa ?_;exact⟨by rw[a6 10 (by unfold o.head;rw[if_neg pF,if_pos Aw]) BJ],dW (Ext.refl _)⟩
  refine aa ?_;apply I_<;>intro g2
  .refine aa ?_;exact⟨by rw[a6 10 (by unfold o.head;rw[if_neg pF,if_pos Aw]) BJ],dW (Ext.refl _)⟩
  refine aa ?_;apply I_<;>intro g3
  .refine aa ?_;exact⟨by rw[a6 10 (by unfold o.head;rw[if_neg pF,if_pos Aw]) BJ],dW (Ext.refl _)⟩
  refine aa ?_;apply I_<;>intro g4
  .refine aa ?_;exact⟨by rw[a6 10 (by unfold o.head;rw[if_neg pF,if_pos Aw]) BJ],dW (Ext.refl _)⟩
  have fg:¬(c.from_<0\/p.b2<=c.from_\/c.to<0\/p.b2<=c.to):=Aw
  refine aa ?_;apply I_<;>intro g5
  .refine aa ?_;exact⟨by rw[a6 11 (by unfold o.head;rw[if_neg pF,if_neg fg,if_pos Aw]) BJ],dW (Ext.refl _)⟩
  have Ch:o.jn c p.b2 s=if c.guard.length > 0/\o.asked c.guard 1 s≠0 then (1,o.asked c.guard 1 s) else o.kV s c.bE 0 false:=by
   unfold o.jn;rw[if_neg];unfold o.head;rw[if_neg pF,if_neg fg,if_neg Aw];simp
  clear a6;refine aa ?_;apply I_<;>intro g6
  .refine aa ?_;refine J_ (CE _ c.guard 1 _ s aR (aH.ext (dW (Ext.refl _))) (h.ext (dW (Ext.refl _)))) ?_;rintro _ bo ⟨rfl,aF⟩;replace al:=aF.obj al;replace bh:=aF.obj bh;have ix:∀{w'},Ext bo w'->Ext w w':=fun e=>dW (aF.trans e);refine aa ?_;apply I_<;>intro g7;rotate_left
   .rw[if_pos ⟨Aw,g7⟩] at Ch;refine aa ?_;exact⟨by rw[Ch],ix (Ext.refl _)⟩
   have aG:o.jn c p.b2 s=o.kV s c.bE 0 false:=by rw[Ch,if_neg (fun cN=>cN.2 (by simpa using g7))]
   refine aa ?_;refine L_ 10 c.bE.length [3,4,5] (fun b=>[(9,.bool b)]) false (fun k b w'=>Ext bo w'/\o.kV s c.bE 0 false=o.kV s (c.bE.drop k) k b) a8 a8 ⟨Ext.refl _,Bh⟩ ?_;rintro k b S bt hk ⟨aI,aX⟩;replace al:=aI.obj al;replace bh:=aI.obj bh;refine aa ?_;apply I_<;>intro g1
   .have aV:k<c.bE.length:=Aw
    obtain⟨a,rfl⟩:=aU.addr;obtain⟨bH,bV,gj,eM,qz⟩:=aU.at k aV;obtain⟨_,_,rfl,_⟩:=eM.form;obtain⟨_,_,rfl,_⟩:=qz.form;rw[o.Nq aV,o.Wa] at aX;replace gj:=gj.ext (ix (Ext.refl _));refine aa ?_;refine P_ (.I (o.lF c.bE[k] s b)) (fun w' e=>acD c.bE[k] b _ _ _ s w' (eM.ext (ix (aI.trans e))) (qz.ext (ix (aI.trans e))) (h.ext (ix (aI.trans e)))) ?_;refine aa ?_;intro bG bm;replace al:=bm.obj al;replace bh:=bm.obj bh;refine aa ?_;apply I_<;>intro g2;rotate_left
    .rw[if_pos g2] at aX;refine aa ?_;exact⟨by rw[aG,aX],ix (aI.trans bm)⟩
    rw[if_neg (by simpa using g2)] at aX;refine aa ?_;refine N_ (fun g3=>?_) (fun g3=>?_)
    .subst g3;refine aa ?_;exact⟨aV,aL,true,a8,aI.trans bm,by simpa using aX⟩
    subst g3;refine aa ?_;apply I_<;>intro g4
    .have aA:o.hn c.bE[k]=true:=by unfold o.hn;rw[decide_eq_true_eq];omega
     refine aa ?_;exact⟨aV,aL,true,a8,aI.trans bm,by simpa[aA] using aX⟩
    have aA:o.hn c.bE[k]=decide (c.bE[k].kind=5):=by unfold o.hn;rw[AG7,decide_eq_true_eq,decide_eq_true_eq];omega
    rw[Bool.false_or,aA] at aX;refine aa ?_;exact⟨aV,aL,decide (c.bE[k].kind=5),a8,aI.trans bm,aX⟩
   .rw[AF0 Aw] at aX;refine aa ?_;exact⟨by rw[aG,aX];rfl,ix aI⟩
  .have aG:o.jn c p.b2 s=o.kV s c.bE 0 false:=by rw[Ch,if_neg (fun cN=>g6 Aw)]
   refine aa ?_;refine L_ 10 c.bE.length [3,4,5] (fun b=>[(9,.bool b)]) false (fun k b w'=>Ext aR w'/\o.kV s c.bE 0 false=o.kV s (c.bE.drop k) k b) a8 a8 ⟨Ext.refl _,Bh⟩ ?_;rintro k b S bt hk ⟨aI,aX⟩;replace al:=aI.obj al;replace bh:=aI.obj bh;refine aa ?_;apply I_<;>intro g1
   .have aV:k<c.bE.length:=Aw
    obtain⟨a,rfl⟩:=aU.addr;obtain⟨bH,bV,gj,eM,qz⟩:=aU.at k aV;obtain⟨_,_,rfl,_⟩:=eM.form;obtain⟨_,_,rfl,_⟩:=qz.form;rw[o.Nq aV,o.Wa] at aX;replace gj:=gj.ext (dW (Ext.refl _));refine aa ?_;refine P_ (.I (o.lF c.bE[k] s b)) (fun w' e=>acD c.bE[k] b _ _ _ s w' (eM.ext (dW (aI.trans e))) (qz.ext (dW (aI.trans e))) (h.ext (dW (aI.trans e)))) ?_;refine aa ?_;intro bG bm;replace al:=bm.obj al;replace bh:=bm.obj bh;refine aa ?_;apply I_<;>intro g2;rotate_left
    .rw[if_pos g2] at aX;refine aa ?_;exact⟨by rw[aG,aX],dW (aI.trans bm)⟩
    rw[if_neg (by simpa using g2)] at aX;refine aa ?_;refine N_ (fun g3=>?_) (fun g3=>?_)
    .subst g3;refine aa ?_;exact⟨aV,aL,true,a8,aI.trans bm,by simpa using aX⟩
    subst g3;refine aa ?_;apply I_<;>intro g4
    .have aA:o.hn c.bE[k]=true:=by unfold o.hn;rw[decide_eq_true_eq];omega
     refine aa ?_;exact⟨aV,aL,true,a8,aI.trans bm,by simpa[aA] using aX⟩
    have aA:o.hn c.bE[k]=decide (c.bE[k].kind=5):=by unfold o.hn;rw[AG7,decide_eq_true_eq,decide_eq_true_eq];omega
    rw[Bool.false_or,aA] at aX;refine aa ?_;exact⟨aV,aL,decide (c.bE[k].kind=5),a8,aI.trans bm,aX⟩
   .rw[AF0 Aw] at aX;refine aa ?_;exact⟨by rw[aG,aX];rfl,dW aI⟩
theorem aqX(p:o.dw)(FT cs:C_ B_)(s:o.Scope)(w:A_)(aq:o.xD w FT p)(h:o.fU w cs s)(aH:s.cA)(oZ:p.cA) :
  Dz F.KG #[.agg FT.toArray,.agg cs.toArray] w fun v w'=>v = .tuple #[.I (o.hX p s).1,.I (o.hX p s).2.1,.I (o.hX p s).2.2]/\Ext w w':=by
 obtain⟨a0,bu,cZ,c1,a2,c2,a3,d3,a4,d4,rfl,ad,h1,I,ab,aE,eU,eh,eo,dY,ew⟩:=h.form;obtain⟨ax,pM,rB,rfl,aD,nw⟩:=aq;obtain⟨bQ,bp,rfl,fc⟩:=aD.form;obtain⟨bZ,bB,rfl,lc⟩:=nw.form;refine bl E.KG ?_;refine aa ?_;intro w1 br cF ah al;refine aa ?_;intro aB bP db aj au;replace al:=aj.obj al;have cY:∀{w'},Ext aB w'->Ext w w':=fun e=>(ah.trans aj).trans e;refine aa ?_;refine J_ (CG p.name aB ax) ?_;rintro u aK ⟨hu,ag⟩;replace al:=ag.obj al;replace au:=ag.obj au;have fD:∀{w'},Ext aK w'->Ext w w':=fun e=>cY (ag.trans e);have a6:∀n,o.whole p s=n->n≠0->o.hX p s=(0,0,n):=fun n e ad=>by unfold o.hX;rw[e,if_pos ad]
 cases fX:o.isName p.name with
 | false =>
  rw[fX] at hu;subst hu;refine aa ?_;exact⟨by rw[a6 6 (by unfold o.whole;rw[if_pos fX]) BJ],fD (Ext.refl _)⟩
 | true =>
  rw[fX] at hu;subst hu;have pF:¬o.isName p.name=false:=by rw[fX];simp
  refine aa ?_;apply I_<;>intro g1
  .refine aa ?_;exact⟨by rw[a6 8 (by unfold o.whole;rw[if_neg pF,if_pos (.inl g1)]) BJ],fD (Ext.refl _)⟩
  refine aa ?_;apply I_<;>intro g2
  .refine aa ?_;exact⟨by rw[a6 8 (by unfold o.whole;rw[if_neg pF,if_pos (.inr Aw)]) BJ],fD (Ext.refl _)⟩
  have jy:¬(p.over<0\/(s.scalars.length:Int)<p.over):=Aw
  refine aa ?_;apply I_<;>intro g3
  .refine aa ?_;exact⟨by rw[a6 10 (by unfold o.whole;rw[if_neg pF,if_neg jy,if_pos (.inl g3)]) BJ],fD (Ext.refl _)⟩
  refine aa ?_;apply I_<;>intro g4
  .refine aa ?_;exact⟨by rw[a6 10 (by unfold o.whole;rw[if_neg pF,if_neg jy,if_pos (.inr Aw)]) BJ],fD (Ext.refl _)⟩
  have ke:¬(p.b2<1\/12<p.b2):=Aw
  refine aa ?_;apply I_<;>intro g5
  .refine aa ?_;exact⟨by rw[a6 11 (by unfold o.whole;rw[if_neg pF,if_neg jy,if_neg ke,if_pos Aw]) BJ],fD (Ext.refl _)⟩
  have aG:o.hX p s=if (o.lE p s).2≠0 then (1,(o.lE p s).1,(o.lE p s).2) else o.lO (o.inner p s) p.b2 p.cy p.cy 0:=by
   unfold o.hX;rw[if_neg];unfold o.whole;rw[if_neg pF,if_neg jy,if_neg ke,if_neg Aw];simp
  clear a6;refine aa ?_;refine J_ (acL _ _ p.vars s.scalars 4 aK (aD.ext (fD (Ext.refl _))) (ad.ext (fD (Ext.refl _)))) ?_;rintro _ aR ⟨rfl,aw⟩;replace al:=aw.obj al;replace au:=aw.obj au;have dW:∀{w'},Ext aR w'->Ext w w':=fun e=>fD (aw.trans e);refine aa ?_;apply I_<;>intro g6;rotate_left
  .have az:o.lE p s=o.vars p.vars s.scalars 4:=by unfold o.lE;rw[if_pos g6]
   rw[az,if_pos g6] at aG;refine aa ?_;exact⟨by rw[aG],dW (Ext.refl _)⟩
  have az:o.lE p s=o.qE s p.vars 0:=by unfold o.lE;rw[if_neg (by simpa using g6)]
  rw[az] at aG;refine aa ?_;refine L_ 9 p.vars.length [2,3] (fun _:Unit=>[]) () (fun k _ w'=>Ext aR w'/\o.qE s p.vars 0=o.qE s (p.vars.drop k) k) a8 a8 ⟨Ext.refl _,Bh⟩ ?_;rintro k _ S bo hk ⟨aF,aX⟩;replace al:=aF.obj al;replace au:=aF.obj au;refine aa ?_;apply I_<;>intro g7
  .have aV:k<p.vars.length:=Aw
   obtain⟨a,rfl⟩:=aD.addr;have dT:=((aD.at k aV).cells).ext (dW aF);rw[o.abq aV] at aX;refine aa ?_;apply I_<;>intro g8;rotate_left
   .rw[if_pos g8] at aX;refine aa ?_;exact⟨by rw[aG,aX];rfl,dW aF⟩
   rw[if_neg (by simpa using g8)] at aX;refine aa ?_;refine L_ 10 s.vars.length [2,3,9] (fun _:Unit=>[]) () (fun j _ w'=>Ext bo w'/\∀t (aA:t<s.vars.length),t<j->¬s.vars[t].name=p.vars[k].name) a8 a8 ⟨Ext.refl _,fun _ _ h=>absurd h (LC _)⟩ ?_;rintro j _ aZ bt aC ⟨aI,q7⟩;replace al:=aI.obj al;replace au:=aI.obj au;have hq:∀{w'},Ext bt w'->Ext w w':=fun e=>dW ((aF.trans aI).trans e);refine aa ?_;apply I_<;>intro g9
   .have en:j<s.vars.length:=Aw
    obtain⟨cp,rfl⟩:=h1.addr;have gk:=((h1.at j en).cells).ext (hq (Ext.refl _));replace dT:=dT.ext aI;refine aa ?_;intro bG bm;replace al:=bm.obj al;replace au:=bm.obj au;refine aa ?_;apply I_<;>intro g10
    .have zD:s.vars.any (fun x=>decide (x.name=p.vars[k].name))=true:=List.any_eq_true.2 ⟨s.vars[j],Gy _,by simpa using g10⟩;rw[if_pos zD] at aX;refine aa ?_;exact⟨by rw[aG,aX];rfl,hq bm⟩
    .refine aa ?_;exact⟨en,aL,(),trivial,aI.trans bm,fun t aA h=>by
      by_cases e:t=j
      .subst e;exact g10
      .exact q7 t aA Aw⟩
   .have zD:¬s.vars.any (fun x=>decide (x.name=p.vars[k].name))=true:=by
     intro cN;obtain⟨x,af,ft⟩:=List.any_eq_true.1 cN;obtain⟨t,aA,rfl⟩:=List.mem_iff_getElem.1 af;exact q7 t aA Aw (by simpa using ft)
    rw[if_neg zD] at aX;refine aa ?_;exact⟨aV,aL,(),trivial,aF.trans aI,aX⟩
  rw[AF0 Aw] at aX;replace aG:o.hX p s=o.lO (o.inner p s) p.b2 p.cy p.cy 0:=by rw[aG,aX];rfl
  clear aX az;have fs:∀w',Ext w w'->o.fU w' [.slice a0 s.scalars.length bu,.slice cZ s.vars.length c1,.slice a2 s.ar.length c2,.slice a3 s.procs.length d3,.slice bQ p.vars.length bp,.I p.over] (o.inner p s):=fun w' e =>
   ⟨(aH.inner oZ).rF.1,_,_,_,_,_,rfl,ad.ext e,h1.ext e,I.ext e,ab.ext e,aD.ext e,(aH.inner oZ).rF.2⟩
  refine aa ?_;intro bt bR e9 aI bh;replace al:=aI.obj al;replace au:=aI.obj au;have hq:∀{w'},Ext bt w'->Ext w w':=fun e=>dW ((aF.trans aI).trans e);refine aa ?_;refine L_ 12 p.cy.length [2,3,11] (fun _:Unit=>[]) () (fun k _ w'=>Ext bt w'/\o.lO (o.inner p s) p.b2 p.cy p.cy 0=o.lO (o.inner p s) p.b2 p.cy (p.cy.drop k) k) a8 a8 ⟨Ext.refl _,Bh⟩ ?_;rintro k _ S bG hk ⟨bm,aX⟩;replace al:=bm.obj al;replace au:=bm.obj au;replace bh:=bm.obj bh;have gx:∀{w'},Ext bG w'->Ext w w':=fun e=>hq (bm.trans e);refine aa ?_;apply I_<;>intro g7
  .have aV:k<p.cy.length:=Aw
   obtain⟨a,rfl⟩:=nw.addr;obtain⟨ak,e6,dn,fR,yr,wD⟩:=nw.at k aV;obtain⟨gn,gz,rfl,anJ⟩:=yr.form;obtain⟨aO,fz,rfl,qD⟩:=wD.form;rw[o.WU aV] at aX;replace fR:=fR.ext (gx (Ext.refl _));refine aa ?_;refine P_ (.tuple #[.I (o.jn p.cy[k] p.b2 (o.inner p s)).1,.I (o.jn p.cy[k] p.b2 (o.inner p s)).2]) (fun w' e=>aql p.cy[k] _ _ p _ _ _ (o.inner p s) w' ak (yr.ext (gx e)) (wD.ext (gx e)) (aD.ext (gx e)) (nw.ext (gx e)) (fs _ (gx e))) ?_;refine aa ?_;intro cQ bA;replace al:=bA.obj al;replace au:=bA.obj au;replace bh:=bA.obj bh;replace fR:=fR.ext bA;have hr:∀{w'},Ext cQ w'->Ext w w':=fun e=>gx (bA.trans e);refine aa ?_;apply I_<;>intro g8;rotate_left
   .rw[if_pos g8] at aX;refine aa ?_;exact⟨by rw[aG,aX],hr (Ext.refl _)⟩
   rw[if_neg (by simpa using g8)] at aX;refine aa ?_;refine L_ 15 k [2,3,11,12] (fun _:Unit=>[]) () (fun j _ w'=>Ext cQ w'/\∀t (aA:t<p.cy.length),t<j->¬p.cy[t].name=p.cy[k].name) a8 a8 ⟨Ext.refl _,fun _ _ h=>absurd h (LC _)⟩ ?_;rintro j _ aZ cS aC ⟨bT,q7⟩;replace al:=bT.obj al;replace au:=bT.obj au;replace bh:=bT.obj bh;have gR:∀{w'},Ext cS w'->Ext w w':=fun e=>hr (bT.trans e);refine aa ?_;apply I_<;>intro g9
   .have en:j<p.cy.length:=Aw
    obtain⟨_,awh,Mc,Y5,_,_⟩:=nw.at j en;replace Y5:=Y5.ext (gR (Ext.refl _));replace fR:=fR.ext bT;refine aa ?_;intro eG ch;replace al:=ch.obj al;replace au:=ch.obj au;replace bh:=ch.obj bh;refine aa ?_;apply I_<;>intro g10
    .have zD:(p.cy.take k).any (fun x=>decide (x.name=p.cy[k].name))=true:=List.any_eq_true.2 ⟨p.cy[j],by rw[List.mem_iff_getElem];exact⟨j,by simp;omega,Bh⟩,by simpa using g10⟩;rw[if_pos zD] at aX;refine aa ?_;exact⟨by rw[aG,aX],gR ch⟩
    .refine aa ?_;exact⟨Aw,aL,(),trivial,bT.trans ch,fun t aA h=>by
      by_cases e:t=j
      .subst e;exact g10
      .exact q7 t aA Aw⟩
   .have zD:¬(p.cy.take k).any (fun x=>decide (x.name=p.cy[k].name))=true:=by
     intro cN;obtain⟨x,af,ft⟩:=List.any_eq_true.1 cN;obtain⟨t,aA,rfl⟩:=List.mem_iff_getElem.1 af;have amk:t<k/\t<p.cy.length:=by simp at aA;omega
     exact q7 t amk.2 Aw (by simpa using ft)
    rw[if_neg zD] at aX;refine aa ?_;exact⟨aV,aL,(),trivial,(bm.trans bA).trans bT,aX⟩
  .rw[AF0 Aw] at aX;refine aa ?_;exact⟨by rw[aG,aX];rfl,gx (Ext.refl _)⟩
theorem aqz(cs:C_ B_)(m:o.Model)(k:Nat)(w:A_)(h:o.dU w cs m)(aH:m.cA)(hk:k<m.procs.length)(ER:k<=6)(Jh:m.scalars.length<=2/\m.vars.length<=12/\m.ar.length<=4)(alL:k<6->∀j,j<k->(o.iD m j).1=0) :
  Dz F.KQ #[.agg cs.toArray,.I k] w fun v w'=>v=BI (if (o.iD m k).1≠0 then ⟨(o.iD m k).1,4,k,(o.iD m k).2⟩ else o.uA)/\Ext w w':=by
 have aS:=h;obtain⟨bW,bu,bI,c1,bO,c2,bQ,bp,bZ,bB,rfl,ad,h1,I,ab,aE,eU,eh,eo,dY,ew⟩:=h.form;have ej:=o.Ov hk;refine bl E.KQ ?_;refine aa ?_;intro w1 br cF ah al;refine aa ?_;intro aB bP db aj au;replace al:=aj.obj al;have e2:=ah.trans aj;have gq:=cr al;have z2:=ah.size;refine aa ?_;apply I_<;>intro g1
 .rw[if_pos Aw] at ej;refine aa ?_;intro aK fY bh;refine aa ?_;exact⟨by rw[ej];rfl,fY.ext e2 Aw⟩
 rw[if_neg Aw] at ej;obtain⟨a,rfl⟩:=ab.addr;obtain⟨lZ,bV,dL,aq,eW,dA⟩:=ab.at k hk;obtain⟨ep,fp,rfl,fc⟩:=eW.form;obtain⟨ov,nY,rfl,lc⟩:=dA.form;have oZ:=aH.proc _ (Gy hk);replace aq:=aq.ext e2;refine aa ?_;intro aK dE kI ag bY;replace al:=ag.obj al;replace au:=ag.obj au;refine aa ?_;intro aR aw;replace al:=aw.obj al;replace au:=aw.obj au;replace bY:=aw.obj bY;have bC:=(e2.trans ag).trans aw;refine aa ?_;refine J_ (aqD (w0:=w) _ m k aR aS bC aH) ?_;rintro _ bo ⟨⟨ag1,rfl,lY⟩,aF⟩;refine⟨aF,?_⟩;have bF:=bC.trans aF;obtain⟨l7,GB,jW,kh,kQ,jX,pa,rK,oD,C3,rfl,_⟩:=(lY _ bF).form;refine aa ?_;refine J_ (aqX m.procs[k] _ _ (o.hl m k) bo ⟨lZ,_,_,rfl,eW.ext bF,dA.ext bF⟩ (lY _ bF) (aH.hl _) oZ) ?_;rintro _ bt ⟨rfl,aI⟩;replace al:=(aF.trans aI).obj al;replace au:=(aF.trans aI).obj au;replace bY:=(aF.trans aI).obj bY;have cg:=bF.trans aI;clear e2 bC aq;have fs:=o.acf m.procs[k] (o.hl m k) 140737488351232 fun c ai=>by have:=(oZ.cmd c ai).bE;unfold o.ea at this;omega
 have amp:m.procs[k].vars.length<=140737488351232:=by have:=oZ.vars;unfold o.ea at this;omega
 have oS:m.procs[k].cy.length<=140737488351232:=by have:=oZ.cy;unfold o.ea at this;omega
 refine aa ?_;apply I_<;>intro g2;rotate_left
 .rw[if_pos g2] at ej;refine aa ?_;intro bG dy cf;refine aa ?_;exact⟨by rw[ej,if_pos g2];rfl,dy.ext cg Aw⟩
 rw[if_neg (by simpa using g2)] at ej;have hlen:∀(i:Int),m.scalars.length+o.cJ 1 4 i m.vars.length+o.cJ 2 4 i m.ar.length+o.cJ 3 4 k m.procs.length+o.h0 4 i m.props.length<=8000000000000:=fun i=>by
  have cO:=o.xe 1 4 i m.vars.length;have de:=o.xe 2 4 i m.ar.length;have dQ:o.cJ 3 4 k m.procs.length<=k:=by unfold o.cJ; (repeat' split)<;>omega
  have gK:o.h0 4 i m.props.length=0:=by unfold o.h0;rw[if_neg BJ]
  omega
 refine aa ?_;intro bG bm;replace al:=bm.obj al;replace au:=bm.obj au;replace bY:=bm.obj bY;have c8:=cg.trans bm;refine aa ?_;refine J_ (Dw _ m 4 k bG (aS.ext c8) Aw Aw (hlen k)) ?_;rintro _ cQ ⟨⟨v,rfl,fK⟩,bA⟩;refine⟨bA,?_⟩;rw[o.afc] at fK;replace al:=bA.obj al;replace au:=bA.obj au;replace bY:=bA.obj bY;have eY:=c8.trans bA;refine aa ?_;refine J_ (Es v _ m.procs[k].name _ cQ fK) ?_;rintro _ oC ⟨rfl,rfl⟩;refine aa ?_;apply I_<;>intro g3
 .rw[if_pos g3] at ej;refine aa ?_;intro cS hI dp;refine aa ?_;exact⟨by rw[ej];rfl,hI.ext eY Aw⟩
 rw[if_neg g3] at ej;have sh:m.procs.length*80<=140737488355328:=by have:=aH.procs;unfold o.ea at this;omega
 have EX:m.scalars.length+o.cJ 1 5 (0:Nat) m.vars.length+o.cJ 2 5 (0:Nat) m.ar.length+o.cJ 3 5 (0:Nat) m.procs.length+o.h0 5 (0:Nat) m.props.length<=8000000000000:=by
  have cO:=o.xe 1 5 (0:Nat) m.vars.length;have de:=o.xe 2 5 (0:Nat) m.ar.length;have dQ:=o.xe 3 5 (0:Nat) m.procs.length;have gK:o.h0 5 (0:Nat) m.props.length=0:=by unfold o.h0;rw[if_pos BJ];simp
  omega
 have yd:=al;have zH:=au;have YS:=bY;clear al au bY fK;have al:=yd;have bY:=YS;refine aa ?_;refine L_ 9 m.procs[k].vars.length [1,2,4,5] (fun _:Unit=>[]) () (fun j _ w'=>Ext oC w'/\∀i,i<j->o.q3 m m.procs[k] i=0) a8 a8 ⟨Ext.refl _,fun j h=>absurd h (LC _)⟩ ?_;clear al bY;rintro j _ S cS aC ⟨bT,bw⟩;have al:=bT.obj yd;have au:=bT.obj zH;have bY:=bT.obj YS;have jq:=eY.trans bT;refine aa ?_;apply I_<;>intro g4
 .have en:j<m.procs[k].vars.length:=Aw
  obtain⟨cp,rfl⟩:=eW.addr;have dT:=((eW.at j en).cells).ext jq;have fX:=o.Cx (f:=fun x:o.Var=>x.name) en;refine aa ?_;intro eG ch;replace al:=ch.obj al;replace au:=ch.obj au;replace bY:=ch.obj bY;replace dT:=dT.ext ch;have jo:=jq.trans ch;refine aa ?_;refine J_ (Dw _ m 5 (0:Nat) eG (aS.ext jo) Aw Aw EX) ?_;rintro _ fN ⟨⟨v2,rfl,E5⟩,eg⟩;refine⟨eg,?_⟩;rw[o.Wg] at E5;replace al:=eg.obj al;replace au:=eg.obj au;replace bY:=eg.obj bY;have te:=jo.trans eg;refine aa ?_;refine J_ (Es v2 _ m.procs[k].vars[j].name _ fN E5) ?_;rintro _ AH ⟨rfl,rfl⟩;have du:o.sr m 0=o.jd m m.procs.length:=by simp[o.sr]
  rw[du];refine aa ?_;apply I_<;>intro g5
  .have uH:o.q3 m m.procs[k] j=7:=by unfold o.q3;rw[fX,if_pos g5]
   rw[o.jr en bw (by rw[uH];decide),uH,if_pos (show(7:Int)≠0 by decide)] at ej;refine aa ?_;intro h2 lB iF;refine aa ?_;exact⟨by rw[ej];rfl,lB.ext te Aw⟩
  .refine aa ?_;refine⟨en,aL,(),trivial,(bT.trans ch).trans eg,fun i U=>?_⟩;by_cases B9:i=j
   .subst B9;unfold o.q3;rw[fX,if_neg g5]
   .exact bw i Aw
 .rw[o.py fun i U=>bw i Aw,if_neg Bh] at ej;refine aa ?_;intro eG o1 gu;refine aa ?_;exact⟨by rw[ej];rfl,o1.ext jq Aw⟩
theorem aqA(cs:C_ B_)(m:o.Model)(k:Nat)(w:A_)(h:o.dU w cs m)(aH:m.cA)(hk:k<m.props.length)(ZE:k<=8)(Jh:m.scalars.length<=2/\m.vars.length<=12/\m.ar.length<=4)(alL:m.procs.length<=6) :
  Dz F.KR #[.agg cs.toArray,.I k] w fun v w'=>v = .I (o.np m k)/\Ext w w':=by
 have aS:=h;obtain⟨bW,bu,bI,c1,bO,c2,bQ,bp,bZ,bB,rfl,ad,h1,I,ab,aE,eU,eh,eo,dY,ew⟩:=h.form;have ej:=o.D1 hk;refine bl E.KR ?_;refine aa ?_;intro w1 br cF ah al;refine aa ?_;apply I_<;>intro g1
 .rw[if_pos Aw] at ej;refine aa ?_;exact⟨by rw[ej],ah⟩
 rw[if_neg Aw] at ej;obtain⟨a,rfl⟩:=aE.addr;obtain⟨lZ,gQ,aq,hU⟩:=aE.at k hk;obtain⟨RO,ce,rfl,le⟩:=hU.form;replace aq:=aq.ext ah;refine aa ?_;intro aB dE kI aj bY;replace al:=aj.obj al;have e2:=ah.trans aj;refine aa ?_;refine J_ (CG m.props[k].name aB lZ) ?_;rintro _ aK ⟨rfl,ag⟩;replace al:=ag.obj al;replace bY:=ag.obj bY;have a1:=e2.trans ag;refine aa ?_;refine N_ (fun g2=>?_) (fun g2=>?_);rotate_left
 .rw[if_pos g2] at ej;refine aa ?_;exact⟨by rw[ej],a1⟩
 rw[if_neg (by rw[g2];decide)] at ej;refine aa ?_;intro aR aw;replace al:=aw.obj al;replace bY:=aw.obj bY;have bC:=a1.trans aw;refine aa ?_;refine J_ (Dw _ m 5 k aR (aS.ext bC) Aw Aw (by
  have cO:=o.xe 1 5 k m.vars.length;have de:=o.xe 2 5 k m.ar.length;have dQ:=o.xe 3 5 k m.procs.length;have gK:o.h0 5 k m.props.length<=k:=by unfold o.h0; (repeat' split)<;>omega
  omega)) ?_
 rintro _ bo ⟨⟨v2,rfl,E5⟩,aF⟩;refine⟨aF,?_⟩;rw[o.Wg] at E5;replace al:=aF.obj al;replace bY:=aF.obj bY;have bF:=bC.trans aF;refine aa ?_;refine J_ (Es v2 _ m.props[k].name _ bo E5) ?_;rintro _ AH ⟨rfl,rfl⟩;refine aa ?_;apply I_<;>intro g3
 .rw[if_pos g3] at ej;refine aa ?_;exact⟨by rw[ej],bF⟩
 rw[if_neg g3] at ej;have lY:∀w',Ext w w'->o.fU w' [.slice bW m.scalars.length bu,.slice bI m.vars.length c1,.slice bO m.ar.length c2,.slice bQ m.procs.length bp,.slice none 0 0,.I 0] (o.eF m):=fun w' e =>
  ⟨aH.scope.rF.1,_,_,_,_,_,rfl,ad.ext e,h1.ext e,I.ext e,ab.ext e,bg.nil,aH.scope.rF.2⟩
 refine aa ?_;refine J_ (acJ _ m.props[k].expr _ (o.eF m) _ (hU.ext bF) (lY _ bF)) ?_;rintro _ bt ⟨rfl,aI⟩;refine aa ?_;apply I_<;>intro g4;rotate_left
 .rw[if_pos g4] at ej;refine aa ?_;exact⟨by rw[ej],bF.trans aI⟩
 rw[if_neg (by simpa using g4)] at ej;refine aa ?_;apply I_<;>intro g5;rotate_left
 .rw[if_pos g5] at ej;refine aa ?_;exact⟨by rw[ej],bF.trans aI⟩
 rw[if_neg (by simpa using g5)] at ej;refine aa ?_;exact⟨by rw[ej],bF.trans aI⟩
theorem aqt(cs:C_ B_)(m:o.Model)(w:A_)(h:o.dU w cs m)(aH:m.cA) :
  Dz F.KK #[.agg cs.toArray] w fun v w'=>v=BI (o.check m)/\Ext w w':=by
 have aS:=h;obtain⟨bW,bu,bI,c1,bO,c2,bQ,bp,bZ,bB,rfl,ad,h1,I,ab,aE,eU,eh,eo,dY,ew⟩:=h.form;refine bl E.KK ?_;simp -dsimp only[cu];refine dO ?_;intro w1 br cF ah al;refine dO ?_;intro aB bP db aj au;replace al:=aj.obj al;have e2:=ah.trans aj;have gq:=cr al;have z2:=cr au;have z3:=ah.size;refine dO ?_;simp -dsimp only[cu];refine dO ?_;refine J_ (aqu _ m aB (aS.ext e2)) ?_;rintro _ aK ⟨rfl,ag⟩;replace al:=ag.obj al;replace au:=ag.obj au;unfold BI;have z4:=aj.size;have z5:=ag.size;refine dO ?_;intro aR bR e9 aw bh;replace al:=aw.obj al;replace au:=aw.obj au;have bC:=(e2.trans ag).trans aw;have AO:=cr bh;have yd:=al;have zH:=au;have BS:=aS.ext bC;refine dO ?_;refine S_ [1,2,3] (fun _:o.sL=>[]) (fun f w'=>Mod (fun i=>i=bR) aR w'/\w'.heap[bR]? = some (.cells #[.I f.cC,.I f.part,.I f.item,.I f.sub] T.x) /\
  ((f.cC≠0/\f=o.check m)\/(f.cC=0/\(o.data m).cC=0/\∀j,j<m.procs.length->(o.iD m j).1=0))) ?_ ?_
 .refine aa ?_;refine L_ 4 m.procs.length [1,2,3] (fun _:o.sL=>[]) (o.data m) (fun k f w'=>Mod (fun i=>i=bR) aR w'/\w'.heap[bR]? = some (.cells #[.I f.cC,.I f.part,.I f.item,.I f.sub] T.x) /\
   ((f=o.data m/\(o.data m).cC≠0)\/((o.data m).cC=0/\f.cC=0/\∀j,j<k->(o.iD m j).1=0)\/((o.data m).cC=0/\f=o.mr m/\(o.mr m).cC≠0))) a8 a8 ⟨Mod.refl _ _,bh,by
     by_cases h:(o.data m).cC=0
     .exact .inr (.inl ⟨h,h,fun j h=>absurd h (LC _)⟩)
     .exact .inl ⟨rfl,h⟩⟩ ?_
  clear al au bh;rintro k f S bo hk ⟨m5,bh,av⟩;have al:=m5.obj Aw yd;have au:=m5.obj Aw zH;have bF:=m5.ext bC (fun i U e=>Aw);have XP:f.cC≠0->(f.cC≠0/\f=o.check m):=fun hw=>⟨hw,by
   rcases av with ⟨rfl,h⟩ | ⟨_,h,_⟩ | ⟨h1,rfl,I⟩
   .rw[o.check,if_pos h]
   .exact absurd h hw
   .rw[o.check,if_neg (by simpa using h1),if_pos I]⟩
  refine aa ?_;apply I_<;>intro g1
  .have aV:k<m.procs.length:=Aw
   refine aa ?_;apply I_<;>intro g2
   .have j9:(o.data m).cC=0/\f.cC=0/\∀j,j<k->(o.iD m j).1=0:=by
     rcases av with ⟨rfl,h⟩ | h | ⟨h1,rfl,I⟩
     .exact absurd g2 h
     .exact h
     .exact absurd g2 I
    have ER:k<=6:=by
     apply Classical.byContradiction;intro ax
     have:=o.H6 (m:=m) (i:=6) Aw (j9.2.2 6 Aw)
     omega
    refine aa ?_;refine J_ (aqz _ m k bo (aS.ext bF) aH aV ER (o.HD j9.1) fun _=>j9.2.2) ?_;rintro _ bt ⟨rfl,aI⟩;unfold BI;replace al:=aI.obj al;replace au:=aI.obj au;replace bh:=aI.obj bh;refine aa ?_;intro bG dy cf;refine aa ?_;refine⟨aV,aL,_,trivial,(m5.trans aI.mod).trans (dy.mod rfl),cf,?_⟩;by_cases ad:(o.iD m k).1=0
    .rw[if_neg (by simpa using ad)];refine .inr (.inl ⟨j9.1,rfl,fun j aC=>?_⟩);by_cases gU:j=k
     .subst gU;exact ad
     .exact j9.2.2 j Aw
    .rw[if_pos ad]
     have:=o.FW aV j9.2.2 ad
     exact .inr (.inr ⟨j9.1,this.symm,by rw[this];exact ad⟩)
   .refine aa ?_;exact⟨f,trivial,m5,bh,.inl (XP g2)⟩
  .refine aa ?_;refine⟨f,trivial,m5,bh,?_⟩;by_cases hw:f.cC=0
   .refine .inr ?_;rcases av with ⟨rfl,h⟩ | ⟨h1,I,ab⟩ | ⟨h1,rfl,I⟩
    .exact absurd hw h
    .exact⟨I,h1,fun j aC=>ab j Aw⟩
    .exact absurd hw I
   .exact .inl (XP hw)
 clear al au bh;rintro f S bo ⟨m5,bh,av⟩;have al:=m5.obj Aw yd;have au:=m5.obj Aw zH;have bF:=m5.ext bC (fun i U e=>Aw);refine aa ?_;apply I_<;>intro g1;rotate_left
 .have lU:f=o.check m:=by
   rcases av with ⟨_,h⟩ | ⟨h,_⟩
   .exact h
   .exact absurd h g1
  refine aa ?_;intro bt gP b1;refine aa ?_;exact⟨by rw[lU],gP.ext bF Aw⟩
 have c5:(o.data m).cC=0/\∀j,j<m.procs.length->(o.iD m j).1=0:=by
  rcases av with ⟨h,_⟩ | ⟨_,h⟩
  .exact absurd g1 h
  .exact h
 obtain⟨a6,lS⟩:=c5;have Jh:=o.HD a6;have sh:m.procs.length<=6:=by
  apply Classical.byContradiction;intro ax
  have:=o.H6 (i:=6) Aw (lS 6 Aw)
  omega
 have sd:o.vo m:=⟨Aw,Aw,Aw,fun p aq=>by
  obtain⟨j,aC,rfl⟩:=List.mem_iff_getElem.1 aq
  have:=o.R1 (o.BC aC (lS j aC)).2.1
  omega⟩
 have rm:=o.R3 lS;have lU:o.check m=if (o.mr m).cC≠0 then o.mr m else o.pL m:=by rw[o.check,if_neg (by simpa using a6)]
 clear bh;refine aa ?_;refine J_ (aqy _ m bo (aS.ext bF) sd) ?_;rintro _ bt ⟨rfl,aI⟩;replace al:=aI.obj al;replace au:=aI.obj au;have cg:=bF.trans aI;refine aa ?_;apply I_<;>intro g2
 .rw[if_pos (.inl Aw)] at rm;rw[rm,if_pos (show(11:Int)≠0 by decide)] at lU;refine aa ?_;intro bG dy cf;refine aa ?_;exact⟨by rw[lU];rfl,dy.ext cg Aw⟩
 refine aa ?_;apply I_<;>intro g3
 .rw[if_pos (.inr Aw)] at rm;rw[rm,if_pos (show(11:Int)≠0 by decide)] at lU;refine aa ?_;intro bG dy cf;refine aa ?_;exact⟨by rw[lU];rfl,dy.ext cg Aw⟩
 rw[if_neg Aw] at rm;rw[rm,if_neg (by simp[o.uA])] at lU;have aj5:=al;have aj9:=au;refine aa ?_;refine L_ 8 m.props.length [1,2] (fun _:Unit=>[]) () (fun k _ w'=>Ext bt w'/\∀j,j<k->o.np m j=0) a8 a8 ⟨Ext.refl _,fun j h=>absurd h (LC _)⟩ ?_;clear al au;rintro k _ kU bG hk ⟨bm,bw⟩;have al:=bm.obj aj5;have au:=bm.obj aj9;have c8:=cg.trans bm;refine aa ?_;apply I_<;>intro g4
 .have aV:k<m.props.length:=Aw
  have ZE:k<=8:=by
   apply Classical.byContradiction;intro ax
   have:=o.ahF (m:=m) (i:=8) Aw (bw 8 Aw)
   omega
  refine aa ?_;refine J_ (aqA _ m k bG (aS.ext c8) aH aV ZE Jh sh) ?_;rintro _ cQ ⟨rfl,bA⟩;replace al:=bA.obj al;replace au:=bA.obj au;refine aa ?_;apply I_<;>intro g5;rotate_left
  .rw[o.ach aV bw g5] at lU;refine aa ?_;intro cS hI dp;refine aa ?_;exact⟨by rw[lU];rfl,hI.ext (c8.trans bA) Aw⟩
  .refine aa ?_;refine⟨aV,aL,(),trivial,bm.trans bA,fun j aC=>?_⟩;by_cases gU:j=k
   .subst gU;simpa using g5
   .exact bw j Aw
 .rw[o.R4 fun j aC=>bw j Aw] at lU;refine aa ?_;intro cQ iK cn;refine aa ?_;exact⟨by rw[lU];rfl,iK.ext c8 Aw⟩
end Go.Proofs.R
end
section
namespace a7
open Go Go.RowKit
def vc(l:C_ ByteArray):C_ (ByteArray×B_):=l.map fun x=>(x,.bool true)
theorem arn(l:C_ ByteArray)(x:ByteArray):((vc l).find? (fun p=>decide (x=p.1))).map (·.2)=if x∈l then some (.bool true) else none:=by
 induction l with
 | nil=>rfl
 | cons y l fb =>
  simp only[vc,List.map_cons,List.find?_cons,List.mem_cons];by_cases h:x=y
  .simp[h]
  .simp only[h,decide_false,false_or];exact fb
structure AY(es:Array MapEntry)(c:Nat)(L:List ByteArray):Prop where
 Ae:∃l,iy Value.string es.toList (vc l)/\∀x,x∈l↔x∈L
 born:∀e∈es.toList,e.born<c
 nodup:(es.toList.map (·.born)).Nodup
theorem iy.mem{l:C_ ByteArray}:∀{es:C_ MapEntry},iy Value.string es (vc l)->∀e∈es,∃x∈l,e.key = .string x/\e.val = .bool true:=by
 induction l with
 | nil=>intro es h e he;cases es with | nil=>cases he | cons _ _=>simp[iy,vc] at h
 | cons y l fb =>
  intro es h e he;cases es with
  | nil=>cases he
  | cons f es =>
   simp only[iy,vc,List.map_cons,List.cons.injEq,Prod.mk.injEq] at h;rcases List.mem_cons.1 he with rfl | he
   .exact⟨y,Bh,h.1.1,h.1.2⟩
   .obtain⟨x,af,I⟩:=fb (es:=es) h.2 e he;exact⟨x,by simp[af],I⟩
theorem iy.RP{l:C_ ByteArray}:∀{es:C_ MapEntry},iy Value.string es (vc l)->∀x∈l,∃e∈es,e.key = .string x:=by
 induction l with
 | nil=>intro es h x af;cases af
 | cons y l fb =>
  intro es h x af;cases es with
  | nil=>simp[iy,vc] at h
  | cons f es =>
   simp only[iy,vc,List.map_cons,List.cons.injEq,Prod.mk.injEq] at h;rcases List.mem_cons.1 af with rfl | af
   .exact⟨f,Bh,h.1.1⟩
   .obtain⟨e,he,I⟩:=fb (es:=es) h.2 x af;exact⟨e,by simp[he],I⟩
theorem AY.mem{es:Array MapEntry}{c:Nat}{L:C_ ByteArray}(h:AY es c L):∀e∈es.toList,∃x∈L,e.key = .string x/\e.val = .bool true:=fun e he=>by
 obtain⟨l,h1,I⟩:=h.Ae;obtain⟨x,af,ab⟩:=h1.mem e he;exact⟨x,(I x).1 af,ab⟩
theorem AY.RP{es:Array MapEntry}{c:Nat}{L:C_ ByteArray}(h:AY es c L):∀x∈L,∃e∈es.toList,e.key = .string x:=fun x af=>by
 obtain⟨l,h1,I⟩:=h.Ae;exact h1.RP x ((I x).2 af)
theorem OG{d:TypeDesc}{k:B_}:∀{es:C_ MapEntry} {i j:Nat} {v:B_},Instr.findNow d k es i=some (some (j,v))->i<=j/\∃e,es[j - i]? = some e/\Instr.sameNow d k e.key=some true
 | [],i,j,v,h=>by simp[Instr.findNow] at h
 | e :: es,i,j,v,h=>by
  unfold Instr.findNow at h;split at h
  .rename_i ak;injection h with h;injection h with h;injection h with h1 I
   subst h1;exact⟨Gf _,e,Bh,ak⟩
  .obtain⟨h1,e',I,ab⟩:=OG h;refine⟨Aw,e',?_,ab⟩;rw[show j - i=(j - (i+1))+1 from Aw,List.getElem?_cons_succ];exact I
  .cases h
theorem an6{es:Array MapEntry}{j:Nat}{e:MapEntry}{f:MapEntry->MapEntry}(aC:es[j]? = some e)(av:f e=e):es.modify j f=es:=by
 apply Array.ext_getElem?;intro i;rw[Array.getElem?_modify];by_cases h:j=i
 .subst h;rw[if_pos rfl,aC,AG6,av]
 .rw[if_neg h]
def fV(w:A_)(b:Nat)(L:C_ ByteArray):Prop := ∃es c,w.heap[b]? = some (.map es c)/\AY es c L
theorem fV.of{w w':A_}{b:Nat}{L:C_ ByteArray}(h:fV w b L)(e:w'.heap[b]? = w.heap[b]?):fV w' b L:=let ⟨es,c,h1,I⟩:=h; ⟨es,c,e.trans h1,I⟩
theorem fV.lt{w:A_}{b:Nat}{L:C_ ByteArray}(h:fV w b L):b<w.heap.size:=let ⟨_,_,h1,_⟩:=h;cr h1
theorem fV.ext{w w':A_}{b:Nat}{L:C_ ByteArray}(h:fV w b L)(e:Ext w w'):fV w' b L:=h.of (e.heap h.lt)
theorem fV.wr{w w':A_}{b k:Nat}{L:C_ ByteArray}(h:fV w b L)(e:di k w w')(hk:b≠k):fV w' b L:=h.of (e.block b hk)
theorem fV.jf{w:A_}{b:Nat}{L nd:C_ ByteArray}(h:fV w b L)(e:∀x,x∈L↔x∈nd):fV w b nd:=by
 obtain⟨es,c,h1,⟨⟨l,I,ab⟩,aE,aY⟩⟩:=h;exact⟨es,c,h1,⟨⟨l,I,fun x=>(ab x).trans (e x)⟩,aE,aY⟩⟩
theorem fV.empty{w:A_}{b:Nat}(h:w.heap[b]? = some (.map #[] 0)):fV w b []:=⟨_,_,h,⟨⟨[],rfl,fun _=>Iff.rfl⟩,fun e he=>by simp at he,Bh⟩⟩
theorem fV.look{w:A_}{b:Nat}{L:C_ ByteArray}(h:fV w b L)(x:ByteArray):∃es r,rP w (.map (some b)) es/\Instr.findNow .string (.string x) es.toList 0=some r/\mX (.bool false) false r = .bool (decide (x∈L)):=by
 obtain⟨es,c,h1,⟨⟨l,I,ab⟩,_,_⟩⟩:=h;obtain⟨r,mU,ka⟩:=zr LM x es.toList _ 0 I;rw[arn] at ka;refine⟨es,r,.inr ⟨b,c,rfl,h1⟩,mU,?_⟩;by_cases af:x∈L
 .rw[if_pos ((ab x).2 af)] at ka;simp[mX,ka,af]
 .rw[if_neg (fun h=>af ((ab x).1 h))] at ka;simp[mX,ka,af]
theorem fV.put{w:A_}{b:Nat}{L:C_ ByteArray}(h:fV w b L)(x:ByteArray):∃es c q,w.heap[b]? = some (.map es c)/\Instr.findNow .string (.string x) es.toList 0=some q /\
  ∀w':A_,w'.heap[b]? = some (sq es c (.string x) (.bool true) q)->fV w' b (L++[x]):=by
 obtain⟨es,c,h1,hm⟩:=h;obtain⟨l,I,ab⟩:=hm.Ae;obtain⟨r,mU,ka⟩:=zr LM x es.toList _ 0 I;refine⟨es,c,r,h1,mU,fun w' hw=>?_⟩;cases r with
 | none =>
  refine⟨_,_,hw,⟨⟨l++[x],?_,fun y=>?_⟩,?_,?_⟩⟩
  .have:=iy.push I x (.bool true) c
   simpa[vc] using this
  .simp[ab y]
  .intro e he;simp only[Array.toList_push,List.mem_append,List.mem_singleton] at he;rcases he with he | rfl
   .have:=hm.born e he;omega
   .show c<c+1;omega
  .simp only[Array.toList_push,List.map_append,List.map_cons,List.map_nil];rw[AK0];refine⟨hm.nodup,Bh,fun a aU fG qf=>?_⟩;obtain⟨e,he,rfl⟩:=List.mem_map.1 aU;simp only[List.mem_singleton] at qf
   have:=hm.born e he
   omega
 | some Ri =>
  obtain⟨j,v⟩:=Ri;obtain⟨_,e,he,ak⟩:=OG mU;have ym:e∈es.toList:=List.mem_of_getElem? he;obtain⟨y,bK,hk,aD⟩:=hm.mem e ym;have amB:x=y:=by rw[hk,LM] at ak;simpa using ak
  subst amB;have amc:es.modify j (fun e=>{ e with key:=.string x,val:=.bool true })=es:=an6 (e:=e) (by simpa using he) (by cases e;simp only at hk aD;subst hk aD;rfl);have nD:w'.heap[b]? = some (.map es c):=by rw[hw];show some (Obj.map (es.modify j _) c)=_;rw[amc]
  exact⟨es,c,nD,⟨⟨l,I,fun z=>by rw[ab z];simp;rintro rfl;exact bK⟩,hm.born,hm.nodup⟩⟩
def nQ(w:A_)(r b:Nat)(L D:C_ ByteArray)(n:Nat)(cur:H_ ByteArray):Prop :=
 ∃es c since seen bu,w.heap[b]? = some (.map es c)/\AY es c L/\w.heap[r]? = some (.mapIter (some b) since seen bu)/\(∀x∈es.toList,x.born<since)/\since<=bu/\since<=c/\(leftOf es seen).size=n /\
  (∀e∈es.toList,seen.contains e.born=true->∃x∈D,e.key = .string x)/\(∀x∈D,x∈L)/\(∀x,cur=some x->∃(Sx:Array Nat) (e:MapEntry),bu=c/\seen=Sx.push e.born/\e∈es.toList/\e.key = .string x/\e.val = .bool true)
theorem nQ.of{w w':A_}{r b:Nat}{L D:C_ ByteArray}{n:Nat}{cur:H_ ByteArray}(h:nQ w r b L D n cur)(e1:w'.heap[b]? = w.heap[b]?)(e2:w'.heap[r]? = w.heap[r]?):nQ w' r b L D n cur :=
 let ⟨es,c,since,seen,bu,h1,I,ab,aE⟩:=h; ⟨es,c,since,seen,bu,e1.trans h1,I,e2.trans ab,aE⟩
theorem nQ.sub{w:A_}{r b:Nat}{L D:C_ ByteArray}{n:Nat}{cur:H_ ByteArray}(h:nQ w r b L D n cur):∀x∈D,x∈L:=let ⟨_,_,_,_,_,_,_,_,_,_,_,_,_,I,_⟩:=h;I
theorem nQ.ne{w:A_}{r b:Nat}{L D:C_ ByteArray}{n:Nat}{cur:H_ ByteArray}(h:nQ w r b L D n cur):r≠b:=by
 obtain⟨es,c,since,seen,bu,h1,I,ab,aE⟩:=h;intro e;rw[e,h1] at ab;cases ab
theorem nQ.lt{w:A_}{r b:Nat}{L D:C_ ByteArray}{n:Nat}{cur:H_ ByteArray}(h:nQ w r b L D n cur):r<w.heap.size:=by
 obtain⟨es,c,since,seen,bu,h1,I,ab,aE⟩:=h;exact cr ab
theorem nQ.wr{w w':A_}{r b k:Nat}{L D:C_ ByteArray}{n:Nat}{cur:H_ ByteArray}(h:nQ w r b L D n cur)(e:di k w w')(h1:b≠k)(I:r≠k):nQ w' r b L D n cur:=h.of (e.block b h1) (e.block r I)
theorem as5(k:Nat)(w:A_):di k w w.drew:=⟨rfl,rfl,rfl,rfl,fun _ _=>rfl⟩
section
variable{P:Program}{cK:Value->World->Prop}{S:Fr}{w:World}{KW:World->Prop}{ba:Value->Prop}
theorem AA2{b:Nat}{L:C_ ByteArray}{x:ByteArray}{t}(h:fV w b L)(hk:ba (.bool (decide (x∈L)))):Di .string (.bool false) false (.map (some b)) (.string x) w ba t:=by
 obtain⟨es,r,h1,I,ab⟩:=h.look x;exact _m h1 I (by rw[ab];exact hk)
theorem _x{b:Nat}{L:C_ ByteArray}{x:ByteArray}{t}(h:fV w b L)(hk:∀w1,di b w w1->fV w1 b (L++[x])->KW w1):AZ .string (.map (some b)) (.string x) (.bool true) w KW t:=by
 obtain⟨es,c,q,h1,I,ab⟩:=h.put x;exact _t h1 I (hk _ (di.fv w b _) (ab _ (CO (cr h1))))
theorem AB9{b:Nat}{L:C_ ByteArray}{x:G_}{hP k e ty:F_}{t}(af:bn S x = .map (some b))(aA:P.underlying hP=some (.map k e))(h:fV w b L)
  (hk:∀w1 r n,w.heap.size<=r->Ext w w1->nQ w1 r b L [] n none->cK (.pointer (some ⟨r,0,none⟩)) w1):uh P (.range hP x) ty S w cK t:=by
 obtain⟨es,c,h1,I⟩:=h;have hV:=run_range_map (P:=P) w hP k e b es c aA h1;refine _D (v:=.pointer (some ⟨w.heap.size,0,none⟩)) (w':=w.alloc (.mapIter (some b) c #[] c)) (by simp[execOp,af,hV,Result.andThen]) ?_;refine hk _ _ _ (Gf _) ((Ext.refl w).alloc _) ⟨es,c,c,#[],c,heap_alloc_old h1,I,heap_alloc_new w _,I.born,Gf _,Gf _,rfl,?_,?_,?_⟩
 .intro e _ h;simp at h
 .intro x af;cases af
 .intro x af;cases af
theorem AC0{r b n:Nat}{L D:C_ ByteArray}{cur:H_ ByteArray}{x:G_}{ty:F_}{t}(af:bn S x = .pointer (some ⟨r,0,none⟩))(h:nQ w r b L D n cur)
  (ad:(∀y∈L,y∈D)->cK (.tuple #[.bool false]) w)
  (h1:∀y w1 ku,y∈L->ku<n->di r w w1->nQ w1 r b L (D++[y]) ku (some y)->cK (.tuple #[.bool true,.string y,.bool true]) w1):uh P (.next x false) ty S w cK t:=by
 have b8:=h.ne;obtain⟨es,c,since,seen,bu,an,hm,aG,hold,lY,QC,ax,h8,Ym,_⟩:=h;rcases run_next_at (P:=P) w ty r b since bu seen es c aG an hold lY with ⟨bw,hV⟩ | ⟨e,he,w1,YL,hV⟩
 .refine _D (v:=.tuple #[.bool false]) (w':=w) (by simp[execOp,af,hV,Result.andThen]) (ad fun y bK=>?_);obtain⟨e,he,hk⟩:=hm.RP y bK;obtain⟨z,aaq,uR⟩:=h8 e he (all_seen es seen bw e he);rw[hk] at uR;injection uR with uR
  rw[uR];exact aaq
 .obtain⟨PR,auE⟩:=mem_left he;obtain⟨y,bK,hk,aD⟩:=hm.mem e PR;have hh:di r w w1:=by
   rcases YL with rfl | rfl
   .exact di.refl _ _
   .exact as5 r w
  have dd:w1.heap.size=w.heap.size:=hh.size;have iI:r<w1.heap.size:=by rw[dd];exact cr aG
  have QB:Go.ChangeMaps.setBlock w1 r (.mapIter (some b) since (seen.push e.born) c)=a7.fv w1 r (.mapIter (some b) since (seen.push e.born) c):=rfl;rw[QB] at hV;refine _D (v:=.tuple #[.bool true,e.key,e.val]) (w':=fv w1 r (.mapIter (some b) since (seen.push e.born) c)) (by simp[execOp,af,hV,Result.andThen]) ?_;rw[hk,aD];refine h1 y _ _ bK (Nat.lt_of_lt_of_eq (left_shrinks es seen e he) ax) (hh.trans (di.fv _ _ _)) ⟨es,c,since,seen.push e.born,c,?_,hm,CO iI,hold,QC,QC,rfl,fun f av ai=>?_,fun z bw=>?_,fun z bw=>?_⟩
  .rw[SA (Ne.symm b8)];rcases YL with rfl | rfl<;>exact an
  .rw[contains_push] at ai;rcases Bool.or_eq_true_iff.1 ai with ai | ai
   .obtain⟨x,oj,ft⟩:=h8 f av ai;exact⟨x,by simp[oj],ft⟩
   .have qh:f.born=e.born:=by simpa using ai
    have aY:=find_born f es.toList hm.nodup av;rw[qh,find_born e es.toList hm.nodup PR] at aY;injection aY with aY
    have:f=e:=aY.symm
    subst this;exact⟨y,Bh,hk⟩
  .rcases List.mem_append.1 bw with bw | bw
   .exact Ym z bw
   .simp only[List.mem_singleton] at bw;subst bw;exact bK
  .injection bw with bw
   subst bw;exact⟨seen,e,rfl,rfl,PR,hk,aD⟩
theorem AC1{r b n:Nat}{L D:C_ ByteArray}{y:ByteArray}{x:G_}{ty:F_}{t}(af:bn S x = .pointer (some ⟨r,0,none⟩))(h:nQ w r b L D n (some y))
  (hk:cK (.tuple #[.string y,.bool true]) w):uh P (.entry x) ty S w cK t:=by
 obtain⟨es,c,since,seen,bu,an,hm,aG,hold,lY,QC,ax,h8,Ym,ai⟩:=h;obtain⟨Sx,e,rfl,rfl,he,zN,cI⟩:=ai y rfl;have hV:(Instr.entry (.pointer (some ⟨r,0,none⟩))).run P w = .ok (.tuple #[e.key,e.val]) w:=run_entry_at w r b since Sx es bu e aG an he hm.nodup;refine _D (v:=.tuple #[e.key,e.val]) (w':=w) (by simp[execOp,af,hV,Result.andThen]) ?_;rw[zN,cI];exact hk
end
end a7
end
section
namespace Go.Proofs.R
open Go Go.RowKit a7
def xd(f:o.sL):C_ PanicEntry:=[{ v:=.iface T.pr (.agg #[.int .i64 f.cC,.int .i64 f.part,.int .i64 f.item,.int .i64 f.sub]),recovered:=false }]
theorem rH(e p i s:Int)(w:A_):qT Tryz.prog F.a #[.I e,.I p,.I i,.I s] w (fun _ w'=>e=0/\w'=w) (fun c w'=>e≠0/\c=xd ⟨e,p,i,s⟩/\w'=w):=by
 refine _o lz E.a Be (args:=[_,_,_,_]) (Nat.le_of_ble_eq_true rfl) ?_;dsimp only[C.a];refine nV ?_;refine aa ?_;refine I_ (fun g=>?_) (fun g=>?_)
 .refine aa ?_;exact⟨g,aL⟩
 .refine aa ?_;exact⟨g,aL,aL⟩
theorem L6(b:Nat)(L:C_ ByteArray)(x:ByteArray)(p i:Int)(w:A_)(h:fV w b L):qT Tryz.prog F.i #[.map (some b),.string x,.I p,.I i] w
  (fun _ w' => ¬x∈L/\di b w w'/\fV w' b (L++[x])) (fun c w'=>x∈L/\c=xd ⟨7,p,i,0⟩/\w'=w):=by
 refine _o lz E.i Be (args:=[_,_,_,_]) (Nat.le_of_ble_eq_true rfl) ?_;dsimp only[C.i];refine nV ?_;refine aa ?_;refine AA2 h ?_;refine aa ?_;refine I_ (fun g=>?_) (fun g=>?_)
 .refine aa ?_;refine X_ (rH 7 p i 0 w) ?_ ?_
  .rintro _ _ ⟨ad,_⟩;exact absurd ad BJ
  .rintro c _ ⟨_,rfl,rfl⟩;refine aa ?_;exact⟨g,aL,aL⟩
 .refine aa ?_;refine _x h fun w1 hw h1=>?_;refine aa ?_;exact⟨g,hw,h1⟩
end Go.Proofs.R
end
section
namespace Go.Proofs.R
open Go Go.RowKit a7
structure km(w0 w:World)(ck br:Nat)(cs:List Value)(w':World)(L:List ByteArray):Prop where
 ext:Ext w0 w'
 mod:Mod (fun k=>k=ck) w w'
 box:w'.heap[br]? = some (.cells cs.toArray T.f)
 set:fV w' ck L
 low:w0.heap.size<=ck
 ne:br≠ck
section
variable{w0 w w' bM:World}{ck br:Nat}{cs:List Value}{L nd:List ByteArray}
theorem km.then(h:km w0 w ck br cs w' L)(he:Ext w' bM):km w0 w ck br cs bM L:=⟨h.ext.trans he,h.mod.trans he.mod,he.obj h.box,h.set.ext he,h.low,h.ne⟩
theorem km.wr(h:km w0 w ck br cs w' L)(hw:di ck w' bM)(ak:fV bM ck nd):km w0 w ck br cs bM nd:=⟨hw.ext h.ext h.low,h.mod.trans (hw.mod rfl),hw.obj h.box h.ne,ak,h.low,h.ne⟩
theorem km.jf(h:km w0 w ck br cs w' L)(e:L=nd):km w0 w ck br cs w' nd:=e ▸ h
end
theorem ai5{w0:A_}(cs:C_ B_)(m:o.Model)(ck:Nat)(w:A_)(h:o.dU w0 cs m)(dS:Ext w0 w)(pC:w0.heap.size<=ck)(aJ:gF w0)(ak:fV w ck []) :
  qT Tryz.prog F.jI #[.agg cs.toArray,.map (some ck)] w (fun _ w'=>(o.data m).cC=0/\Ext w0 w'/\Mod (fun k=>k=ck) w w'/\fV w' ck (o.nG m m.ar.length))
   (fun c w'=>(o.data m).cC≠0/\c=xd (o.data m)/\Ext w0 w'/\Mod (fun k=>k=ck) w w'):=by
 obtain⟨bW,bu,bI,c1,bO,c2,bQ,bp,bZ,bB,rfl,ad,h1,I,ab,aE,eU,eh,eo,dY,ew⟩:=h.form;refine _o lz E.jI Be (args:=[_,_]) (Nat.le_of_ble_eq_true rfl) ?_;dsimp only[C.jI];refine nV ?_;refine aa ?_;intro w1 br cF ah al;have st1:km w0 w ck br _ w1 []:=⟨dS.trans ah,ah.mod,al,ak.ext ah,pC,by have:=ak.lt;omega⟩;clear ak;refine aa ?_;refine J_ (arh _ m.scalars w1 (aJ.ext st1.ext) (ad.ext st1.ext)) ?_;rintro _ aB ⟨rfl,aj⟩;replace st1:=st1.then aj;clear al;refine aa ?_;refine X_ (rH (o.scalars m.scalars).2 1 (o.scalars m.scalars).1 0 aB) ?_ ?_;rotate_left
 .rintro c _ ⟨g,rfl,rfl⟩;refine aa ?_;rw[o.Xa g];exact⟨g,rfl,st1.ext,st1.mod⟩
 rintro _ _ ⟨b3,rfl⟩;have al:=st1.box;refine aa ?_;refine L_ 24 m.scalars.length [1,2,22,23] (fun _:Unit=>[]) () (fun k _ w'=>km w0 w ck br _ w' ((m.scalars.take k).map (·.name))) a8 a8 (st1.jf Bh) ?_;clear al aj st1;rintro k _ S aK hk l2;have al:=l2.box;have a1:=l2.ext;refine aa ?_;apply I_<;>intro g1
 .have aV:k<m.scalars.length:=Aw
  obtain⟨a,rfl⟩:=ad.addr;refine aa ?_;intro aR bR e9 aw bh;have lj:=l2.then aw;refine aa ?_;refine _x lj.set fun bo hw rp=>?_;refine aa ?_;exact⟨aV,aL,(),trivial,(lj.wr hw rp).jf (o.CV _ _ aV).symm⟩
 replace l2:=l2.jf (show _=o.ss m 0 by rw[Lj Aw];simp);refine aa ?_;refine J_ (ad1 _ _ m.vars m.scalars 12 aK (aJ.ext a1) (h1.ext a1) (ad.ext a1)) ?_;rintro _ aR ⟨rfl,aw⟩;replace l2:=l2.then aw;clear al a1;have al:=l2.box;rw[o.asK];refine aa ?_;refine L_ 43 m.vars.length [1,2,4,5,41,42] (fun _:Unit=>[]) () (fun k _ w'=>km w0 w ck br _ w' (o.ss m k)/\∀j,j<k->o.jL m j=0) a8 a8 ⟨l2,fun j h=>absurd h (LC _)⟩ ?_;clear al l2 aw;rintro k _ aZ bo hk ⟨ij,bw⟩;have al:=ij.box;have bF:=ij.ext;refine aa ?_;apply I_<;>intro g1
 .have aV:k<m.vars.length:=Aw
  obtain⟨a,rfl⟩:=h1.addr;have fX:=o.Cx (f:=fun x:o.Var=>x.name) aV;refine aa ?_;intro C1 j0 lT nx q9;refine dO ?_;intro bt gP b1;have aI:=gP.ext nx lT;have hN:=ij.then aI;replace al:=hN.box;clear q9 nx;refine dO ?_;refine S_ [1,2,4,5,8,9,41,42,43] (fun _:Unit=>[]) (fun _ w'=>w'=bt/\o.oB m k=0) ?_ ?_
  .refine aa ?_;apply I_<;>intro g2
   .refine aa ?_;refine X_ (rH (o.first m.vars.length (o.oB m)).2 2 k 0 bt) ?_ ?_
    .rintro _ _ ⟨hb,rfl⟩;refine aa ?_;exact⟨(),trivial,aL,o.vU hb k aV⟩
    .rintro c _ ⟨hb,rfl,rfl⟩;obtain⟨i,U,e1,e2⟩:=o.XU hb;obtain rfl:k=i:=Aw
     rw[e2] at hb;have k8:o.jL m k=o.oB m k:=by unfold o.jL;rw[if_pos hb]
     have a6:=o.HE b3 aV bw (by rw[k8];exact hb);rw[k8] at a6;refine aa ?_;rw[a6,e2];exact⟨hb,aL,hN.ext,hN.mod⟩
   .refine aa ?_;refine⟨(),trivial,aL,?_⟩;apply Classical.byContradiction;intro b8;apply g2;rw[o.jr aV (fun j aC=>o.Mh (bw j aC)) b8]
  rintro _ kU _ ⟨rfl,iJ⟩;refine aa ?_;refine X_ (L6 ck (o.ss m k) m.vars[k].name 2 k _ hN.set) ?_ ?_
  .rintro _ bG ⟨ax,dy,jx⟩;refine aa ?_;refine⟨aV,aL,(),trivial,(hN.wr dy jx).jf (by simp only[o.ss,o.Aj];rw[o.CV (fun x:o.Var=>x.name) _ aV,Wi]),fun j aC=>?_⟩;by_cases gU:j=k
   .subst gU;unfold o.jL;rw[if_neg (by simpa using iJ),fX,if_neg ax]
   .exact bw j Aw
  .rintro c _ ⟨ax,rfl,rfl⟩;have k8:o.jL m k=7:=by unfold o.jL;rw[if_neg (by simpa using iJ),fX,if_pos ax]
   have a6:=o.HE b3 aV bw (by rw[k8];decide);rw[k8] at a6;refine aa ?_;rw[a6];exact⟨(show(7:Int)≠0 by decide),aL,hN.ext,hN.mod⟩
 have lV:m.vars.length<=k:=Aw
 have mN:∀j,j<m.vars.length->o.jL m j=0:=fun j aC=>bw j Aw;replace ij:=ij.jf (show _=o.nG m 0 by simp only[o.nG,o.ss,o.Aj,o.Ai];rw[Lj lV];simp);refine aa ?_;refine J_ (agB _ _ m.ar m.scalars bo (aJ.ext bF) (I.ext bF) (ad.ext bF)) ?_;rintro _ bt ⟨rfl,aI⟩;replace ij:=ij.then aI;clear al bF;have al:=ij.box;rw[o.agA];refine aa ?_;refine L_ 71 m.ar.length [1,2,4,5,69,70] (fun _:Unit=>[]) () (fun k _ w'=>km w0 w ck br _ w' (o.nG m k)/\∀j,j<k->o.kF m j=0) a8 a8 ⟨ij,fun j h=>absurd h (LC _)⟩ ?_;clear al ij aI;rintro k _ aZ bG hk ⟨jA,bw⟩;have al:=jA.box;have c8:=jA.ext;refine aa ?_;apply I_<;>intro g1
 .have aV:k<m.ar.length:=Aw
  obtain⟨a,rfl⟩:=I.addr;have fX:=o.Cx (f:=fun x:o.dg=>x.name) aV;refine aa ?_;intro C1 j0 lT nx q9;refine dO ?_;intro bt gP b1;have aI:=gP.ext nx lT;have hN:=jA.then aI;replace al:=hN.box;clear q9 nx;refine dO ?_;refine S_ [1,2,4,5,10,11,69,70,71] (fun _:Unit=>[]) (fun _ w'=>w'=bt/\o.nZ m k=0) ?_ ?_
  .refine aa ?_;apply I_<;>intro g2
   .refine aa ?_;refine X_ (rH (o.first m.ar.length (o.nZ m)).2 3 k 0 bt) ?_ ?_
    .rintro _ _ ⟨hb,rfl⟩;refine aa ?_;exact⟨(),trivial,aL,o.vU hb k aV⟩
    .rintro c _ ⟨hb,rfl,rfl⟩;obtain⟨i,U,e1,e2⟩:=o.XU hb;obtain rfl:k=i:=Aw
     rw[e2] at hb;have k8:o.kF m k=o.nZ m k:=by unfold o.kF;rw[if_pos hb]
     have a6:=o.HC b3 mN aV bw (by rw[k8];exact hb);rw[k8] at a6;refine aa ?_;rw[a6,e2];exact⟨hb,aL,hN.ext,hN.mod⟩
   .refine aa ?_;refine⟨(),trivial,aL,?_⟩;apply Classical.byContradiction;intro b8;apply g2;rw[o.jr aV (fun j aC=>o.Hs (bw j aC)) b8]
  rintro _ kU _ ⟨rfl,iJ⟩;refine aa ?_;refine X_ (L6 ck (o.nG m k) m.ar[k].name 3 k _ hN.set) ?_ ?_
  .rintro _ bG ⟨ax,dy,jx⟩;refine aa ?_;refine⟨aV,aL,(),trivial,(hN.wr dy jx).jf (by simp only[o.nG,o.Ai];rw[o.CV (fun x:o.dg=>x.name) _ aV,Wi]),fun j aC=>?_⟩;by_cases gU:j=k
   .subst gU;unfold o.kF;rw[if_neg (by simpa using iJ),fX,if_neg ax]
   .exact bw j Aw
  .rintro c _ ⟨ax,rfl,rfl⟩;have k8:o.kF m k=7:=by unfold o.kF;rw[if_neg (by simpa using iJ),fX,if_pos ax]
   have a6:=o.HC b3 mN aV bw (by rw[k8];decide);rw[k8] at a6;refine aa ?_;rw[a6];exact⟨(show(7:Int)≠0 by decide),aL,hN.ext,hN.mod⟩
 have rh:m.ar.length<=k:=Aw
 refine aa ?_;refine⟨by rw[o.W8 b3 mN fun j aC=>bw j Aw];rfl,jA.ext,jA.mod,(jA.jf ?_).set⟩;simp only[o.nG,o.Ai];rw[Lj rh,Lj (Gf _)]
end Go.Proofs.R
end
section
namespace Go.Proofs.R
open Go Go.RowKit a7
theorem km.S8{w0 w w' bM:A_}{ck br k:Nat}{cs:C_ B_}{L:C_ ByteArray}(h:km w0 w ck br cs w' L)(dd:w0.heap.size<=w.heap.size)(hw:di k w' bM)(hk:w.heap.size<=k)(h1:br≠k)(I:ck≠k):km w0 w ck br cs bM L :=
 ⟨hw.ext h.ext (Ru dd hk),h.mod.then (hw.mod (A:=fun j=>j=k) rfl) fun i U e=>absurd e Aw,hw.obj h.box h1,h.set.wr hw I,h.low,h.ne⟩
theorem apE{w0:A_}(cs:C_ B_)(m:o.Model)(ck:Nat)(w:A_)(h:o.dU w0 cs m)(aH:m.cA)(dS:Ext w0 w)(pC:w0.heap.size<=ck)(aJ:gF w0)(a6:(o.data m).cC=0)(ak:fV w ck (o.nG m m.ar.length)) :
  qT Tryz.prog F.as #[.agg cs.toArray,.map (some ck)] w (fun _ w'=>(o.mr m).cC=0/\Ext w0 w'/\Mod (fun k=>k=ck) w w'/\fV w' ck (o.jd m m.procs.length))
   (fun c w'=>(o.mr m).cC≠0/\c=xd (o.mr m)/\Ext w0 w'/\Mod (fun k=>k=ck) w w'):=by
 have aS:=h;obtain⟨bW,bu,bI,c1,bO,c2,bQ,bp,bZ,bB,rfl,ad,h1,I,ab,aE,eU,eh,eo,dY,ew⟩:=h.form;have dd:=dS.size;refine _o lz E.as Be (args:=[_,_]) (Nat.le_of_ble_eq_true rfl) ?_;dsimp only[C.as];refine nV ?_;refine aa ?_;intro w1 br cF ah al;have st1:km w0 w ck br _ w1 (o.nG m m.ar.length):=⟨dS.trans ah,ah.mod,al,ak.ext ah,pC,by have:=ak.lt;omega⟩;have ate:=ak.lt;have gq:=cr al;clear ak al;refine aa ?_;refine _g fun aB gD aun aj fJ=>?_;replace st1:=st1.then aj;have w6:fV aB gD []:=fV.empty fJ;have z0:=ah.size;have z2:=w6.lt;clear fJ;refine aa ?_;refine AB9 (b:=ck) rfl (k:=T.n) (e:=T.m) Cq st1.set fun aK r n aG ag og=>?_;replace st1:=st1.then ag;replace w6:=w6.ext ag;have z4:=aj.size;have z5:=og.lt;refine aa ?_;refine _P [1,2,4,20] (fun _:C_ ByteArray×Nat=>[]) ([],n) (fun x w'=>km w0 w ck br _ w' (o.nG m m.ar.length)/\fV w' gD x.1/\∃cur,nQ w' r ck (o.nG m m.ar.length) x.1 x.2 cur) (fun x=>x.2) a8 ⟨st1,w6,_,og⟩ ?_;clear st1 w6 og;rintro⟨D,ku⟩ S aR ⟨lj,w6,cur,og⟩;have al:=lj.box;refine aa ?_;refine AC0 rfl og (fun du=>?_) (fun y bo ke bK b4 e4 Zx=>?_);rotate_left
 .have ij:=lj.S8 dd e4 Aw Aw Aw;have aq8:=w6.wr e4 Aw;refine aa ?_;refine AC1 rfl Zx ?_;refine aa ?_;refine _x aq8 fun bt gP aq9=>?_;have hN:=ij.S8 dd gP Aw Aw Aw;have ak6:=Zx.wr gP Aw Aw;refine aa ?_;exact⟨(D++[y],ke),trivial,⟨hN,aq9,_,ak6⟩,b4⟩
 have jS:fV aR gD (o.jd m 0):=w6.jf fun x=>by
  have QH:=og.sub;simp only[o.jd,o.yC,List.take_zero,List.map_nil,List.append_nil];exact⟨fun af=>QH x af,fun af=>du x af⟩
 clear w6 og du;refine aa ?_;refine L_ 30 m.procs.length [1,2,4,28,29] (fun _:Unit=>[]) () (fun k _ w'=>km w0 w ck br _ w' (o.nG m m.ar.length)/\fV w' gD (o.jd m k)) a8 a8 ⟨lj,jS⟩ ?_;clear al lj jS;rintro k _ aZ bo hk ⟨ij,jS⟩;have al:=ij.box;have bF:=ij.ext;refine aa ?_;apply I_<;>intro g1
 .have aV:k<m.procs.length:=Aw
  obtain⟨a,rfl⟩:=ab.addr;obtain⟨_,bV,dL,aq,eW,dA⟩:=ab.at k aV;obtain⟨ep,fp,rfl,fc⟩:=eW.form;obtain⟨ov,nY,rfl,lc⟩:=dA.form;replace aq:=aq.ext bF;refine aa ?_;intro bt iC ia aI cf;have hN:=ij.then aI;replace jS:=jS.ext aI;refine aa ?_;refine _x jS fun bG dy ard=>?_;have jA:=hN.S8 dd dy Aw Aw Aw;refine aa ?_;exact⟨aV,aL,(),trivial,jA,by simp only[o.jd,o.yC];rw[o.CV (fun x:o.dw=>x.name) _ aV,<-Wi];exact ard⟩
 have adk:∀{w'},fV w' gD (o.jd m k)->fV w' gD (o.jd m m.procs.length):=fun h=>h.jf fun x=>by
  simp only[o.jd,o.yC];rw[Lj Aw,Lj (Gf _)]
 replace jS:=adk jS;clear adk;replace ij:=ij.jf (show _=o.jd m 0 by simp[o.jd]);refine aa ?_;refine L_ 41 m.procs.length [1,2,4,39,40] (fun _:Unit=>[]) () (fun k _ w'=>km w0 w ck br _ w' (o.jd m k)/\fV w' gD (o.jd m m.procs.length)/\∀j,j<k->(o.iD m j).1=0) a8 a8 ⟨ij,jS,fun j h=>absurd h (LC _)⟩ ?_;clear al bF ij jS;rintro k _ kU bt hk ⟨hN,jS,bw⟩;have al:=hN.box;have cg:=hN.ext;have AO:=hN.mod.size;refine aa ?_;apply I_<;>intro g1
 .have aV:k<m.procs.length:=Aw
  obtain⟨a,rfl⟩:=ab.addr;obtain⟨lZ,bV,dL,aq,eW,dA⟩:=ab.at k aV;obtain⟨ep,fp,rfl,fc⟩:=eW.form;obtain⟨ov,nY,rfl,lc⟩:=dA.form;have oZ:=aH.proc _ (Gy aV);have ej:=o.Ov aV;replace aq:=aq.ext cg;refine aa ?_;intro C1 j0 lT nx q9;refine dO ?_;intro bG dy dp;have bm:=dy.ext nx lT;have jA:=hN.then bm;replace jS:=jS.ext bm;replace al:=jA.box;have awS:=cr dp;have GD:=jS.lt;have c8:=jA.ext;clear q9 nx dy;refine aa ?_;apply I_<;>intro g2
  .have bz:6<=k:=Aw
   rw[if_pos bz] at ej;have hc:=o.FW aV bw (by rw[ej];decide);rw[ej] at hc;refine aa ?_;refine X_ (rH 11 4 k 0 bG) ?_ ?_
   .rintro _ _ ⟨hb,_⟩;exact absurd hb BJ
   .rintro c _ ⟨_,rfl,rfl⟩;refine aa ?_;rw[hc];exact⟨(show(11:Int)≠0 by decide),aL,c8,jA.mod⟩
  rw[if_neg Aw] at ej;refine aa ?_;intro cQ bA;replace al:=bA.obj al;replace dp:=bA.obj dp;refine aa ?_;refine J_ (adm _ m k cQ (aS.ext (c8.trans bA)) aH) ?_;rintro _ cS ⟨⟨atT,rfl,Jy⟩,bT⟩;refine⟨bT,?_⟩;have lY:=Jy.here;obtain⟨l7,GB,jW,kh,kQ,jX,pa,rK,oD,C3,rfl,_⟩:=lY.form;refine aa ?_;refine J_ (apr m.procs[k] _ _ (o.hl m k) cS (aJ.ext (c8.trans (bA.trans bT))) ⟨lZ,_,_,rfl,eW.ext (c8.trans (bA.trans bT)),dA.ext (c8.trans (bA.trans bT))⟩ lY (aH.hl _) oZ) ?_;rintro _ eG ⟨rfl,ch⟩;have Xt:=(bA.trans bT).trans ch;have Ax:=jA.then Xt;replace jS:=jS.ext Xt;replace al:=Ax.box;replace dp:=(bT.trans ch).obj dp;have awP:=cr dp;have awN:=jS.lt;clear lY Jy jA c8;have jo:=Ax.ext;have fs:=o.acf m.procs[k] (o.hl m k) 140737488351232 fun c ai=>by have:=(oZ.cmd c ai).bE;unfold o.ea at this;omega
  have amp:m.procs[k].vars.length<=140737488351232:=by have:=oZ.vars;unfold o.ea at this;omega
  have oS:m.procs[k].cy.length<=140737488351232:=by have:=oZ.cy;unfold o.ea at this;omega
  refine aa ?_;refine X_ (rH (o.hX m.procs[k] (o.hl m k)).2.2 4 k (16*(o.hX m.procs[k] (o.hl m k)).1+(o.hX m.procs[k] (o.hl m k)).2.1) eG) ?_ ?_;rotate_left
  .rintro c _ ⟨hb,rfl,rfl⟩;rw[if_pos hb] at ej;have hc:=o.FW aV bw (by rw[ej];exact hb);rw[ej] at hc;refine aa ?_;rw[hc];exact⟨hb,aL,jo,Ax.mod⟩
  rintro _ oC ⟨hb,rfl⟩;rw[if_neg (by simpa using hb)] at ej;refine aa ?_;refine X_ (L6 ck (o.jd m k) m.procs[k].name 4 k oC Ax.set) ?_ ?_;rotate_left
  .rintro c _ ⟨ax,rfl,rfl⟩;rw[if_pos ax] at ej;have hc:=o.FW aV bw (by rw[ej];decide);rw[ej] at hc;refine aa ?_;rw[hc];exact⟨(show(7:Int)≠0 by decide),aL,jo,Ax.mod⟩
  rintro _ fN ⟨ax,ie,aag⟩;rw[if_neg ax] at ej;have LY:km w0 w ck br _ fN (o.jd m (k+1)):=(Ax.wr ie aag).jf (by simp only[o.jd,o.yC];rw[o.CV (fun x:o.dw=>x.name) _ aV,Wi]);replace jS:=jS.wr ie Aw;replace al:=LY.box;replace dp:=ie.obj dp Aw;have te:=LY.ext;have Tg:=ie.size;clear Ax jo;refine aa ?_;refine L_ 74 m.procs[k].vars.length [1,2,4,8,9,39,40,41,72,73] (fun _:Unit=>[]) () (fun j _ w'=>km w0 w ck br _ w' (o.jd m (k+1))/\fV w' gD (o.jd m m.procs.length)/\Ext fN w'/\∀i,i<j->o.q3 m m.procs[k] i=0) a8 a8 ⟨LY,jS,Ext.refl _,fun j h=>absurd h (LC _)⟩ ?_;have k5:=dp;clear LY jS al dp te;rintro j _ Hb h2 aC ⟨LZ,jS,ev,uR⟩;have al:=LZ.box;have dp:=ev.obj k5;have q1:=LZ.ext;refine aa ?_;apply I_<;>intro g3
  .have en:j<m.procs[k].vars.length:=Aw
   obtain⟨cp,rfl⟩:=eW.addr;have dT:=((eW.at j en).cells).ext q1;have fX:=o.Cx (f:=fun x:o.Var=>x.name) en;refine aa ?_;intro awr s3 BW Zm Pv;refine dO ?_;intro l5 kc oa;have hd:=kc.ext Zm BW;have L0:=LZ.then hd;replace jS:=jS.ext hd;replace al:=L0.box;clear Pv Zm kc;refine aa ?_;refine AA2 jS ?_;refine aa ?_;apply I_<;>intro g4
   .have uH:o.q3 m m.procs[k] j=7:=by unfold o.q3;rw[fX,if_pos g4]
    rw[o.jr en uR (by rw[uH];decide),uH,if_pos (show(7:Int)≠0 by decide)] at ej;have hc:=o.FW aV bw (by rw[ej];exact(show(7:Int)≠0 by decide));rw[ej] at hc;refine aa ?_;refine X_ (rH 7 4 k (16+j) l5) ?_ ?_
    .rintro _ _ ⟨zw,_⟩;exact absurd zw BJ
    .rintro c _ ⟨_,rfl,rfl⟩;refine aa ?_;rw[hc];exact⟨(show(7:Int)≠0 by decide),aL,L0.ext,L0.mod⟩
   .refine aa ?_;refine⟨en,aL,(),trivial,L0,jS,ev.trans hd,fun i U=>?_⟩;by_cases B9:i=j
    .subst B9;unfold o.q3;rw[fX,if_neg g4]
    .exact uR i Aw
  .rw[o.py fun i U=>uR i Aw,if_neg Bh] at ej;refine aa ?_;refine⟨aV,aL,(),trivial,LZ,jS,fun i U=>?_⟩;by_cases Ca:i=k
   .subst Ca;rw[ej]
   .exact bw i Aw
 have uJ:m.procs.length<=k:=Aw
 have lS:∀j,j<m.procs.length->(o.iD m j).1=0:=fun j aC=>bw j Aw;have Jh:=o.HD a6;have sh:m.procs.length<=6:=by
  apply Classical.byContradiction;intro ax
  have:=o.H6 (i:=6) Aw (lS 6 Aw)
  omega
 have sd:o.vo m:=⟨Aw,Aw,Aw,fun p aq=>by
  obtain⟨j,aC,rfl⟩:=List.mem_iff_getElem.1 aq
  have:=o.R1 (o.BC aC (lS j aC)).2.1
  omega⟩
 refine aa ?_;refine J_ (apx _ m bt (aS.ext cg) sd) ?_;rintro _ bG ⟨rfl,bm⟩;have jA:=hN.then bm;replace al:=jA.box;have rm:=o.R3 lS;have QB:fV bG ck (o.jd m m.procs.length):=by
  have h:=jA.set;simp only[o.jd,o.yC] at h ⊢;rw[Lj uJ] at h;rw[Lj (Gf _)];exact h
 refine aa ?_;apply I_<;>intro g2
 .rw[if_pos (.inl Aw)] at rm;refine aa ?_;refine X_ (rH 11 4 m.procs.length 0 bG) ?_ ?_
  .rintro _ _ ⟨zw,_⟩;exact absurd zw BJ
  .rintro c _ ⟨_,rfl,rfl⟩;refine aa ?_;rw[rm];exact⟨(show(11:Int)≠0 by decide),aL,jA.ext,jA.mod⟩
 refine aa ?_;apply I_<;>intro g3
 .rw[if_pos (.inr Aw)] at rm;refine aa ?_;refine X_ (rH 11 4 m.procs.length 0 bG) ?_ ?_
  .rintro _ _ ⟨zw,_⟩;exact absurd zw BJ
  .rintro c _ ⟨_,rfl,rfl⟩;refine aa ?_;rw[rm];exact⟨(show(11:Int)≠0 by decide),aL,jA.ext,jA.mod⟩
 rw[if_neg Aw] at rm;refine aa ?_;exact⟨by rw[rm];rfl,jA.ext,jA.mod,QB⟩
theorem apI{w0:A_}(cs:C_ B_)(m:o.Model)(ck:Nat)(w:A_)(h:o.dU w0 cs m)(aH:m.cA)(dS:Ext w0 w)(pC:w0.heap.size<=ck)(aJ:gF w0)(ak:fV w ck (o.jd m m.procs.length)) :
  qT Tryz.prog F.s0 #[.agg cs.toArray,.map (some ck)] w (fun _ w'=>(o.pL m).cC=0/\Ext w0 w'/\Mod (fun k=>k=ck) w w')
   (fun c w'=>(o.pL m).cC≠0/\c=xd (o.pL m)/\Ext w0 w'/\Mod (fun k=>k=ck) w w'):=by
 have aS:=h;obtain⟨bW,bu,bI,c1,bO,c2,bQ,bp,bZ,bB,rfl,ad,h1,I,ab,aE,eU,eh,eo,dY,ew⟩:=h.form;refine _o lz E.s0 Be (args:=[_,_]) (Nat.le_of_ble_eq_true rfl) ?_;dsimp only[C.s0];refine nV ?_;refine aa ?_;intro w1 br cF ah al;have st1:km w0 w ck br _ w1 (o.sr m 0):=⟨dS.trans ah,ah.mod,al,by have:=ak.ext ah;simpa[o.sr] using this,pC,by have:=ak.lt;omega⟩;have ate:=ak.lt;have z0:=ah.size;clear ak;refine aa ?_;refine J_ (adm _ m (-1) w1 (aS.ext st1.ext) aH) ?_;rintro _ aB ⟨⟨atS,rfl,iH⟩,aj⟩;rw[o.Lx (.inl BJ)] at iH;have lY:=iH.here;obtain⟨l7,GB,jW,kh,kQ,jX,pa,rK,oD,C3,rfl,_⟩:=lY.form;clear lY;have st2:=st1.then aj;clear al st1;have gq:=aj.size;refine aa ?_;intro aK cx e3 ag bf;have yn:=iH.ext ag gq;have l2:=st2.then ag;have al:=l2.box;clear iH st2;refine aa ?_;refine L_ 14 m.props.length [1,2,4,12,13] (fun _:Unit=>[]) () (fun k _ w'=>km w0 w ck br _ w' (o.sr m k)/\ed w1 (fun w=>o.fU w _ (o.eF m)) w'/\w'.heap[cx]? = some (.cells (List.toArray [_,_,_,_,_,_]) T.w)/\w1.heap.size<=w'.heap.size/\∀j,j<k->o.np m j=0) a8 a8 ⟨l2,yn,bf,by have:=ag.size;omega,fun j h=>absurd h (LC _)⟩ ?_;clear al l2 yn bf;rintro k _ S aR hk ⟨lj,nC,bf,z4,bw⟩;have al:=lj.box;have bC:=lj.ext;refine aa ?_;apply I_<;>intro g1
 .have aV:k<m.props.length:=Aw
  obtain⟨a,rfl⟩:=aE.addr;obtain⟨lZ,gQ,aq,hU⟩:=aE.at k aV;obtain⟨RO,ce,rfl,le⟩:=hU.form;have ej:=o.D1 aV;replace aq:=aq.ext bC;have z5:=lj.mod.size;refine aa ?_;intro C1 ee gf nx q9;refine dO ?_;intro bo e4 b1;have aF:=e4.ext nx gf;have ij:=lj.then aF;replace nC:=nC.ext aF z4;replace bf:=aF.obj bf;replace al:=ij.box;have bF:=ij.ext;clear q9 nx e4 lj;have a6:o.np m k≠0->o.pL m=⟨o.np m k,5,k,0⟩:=o.ach aV bw;refine aa ?_;apply I_<;>intro g2
  .rw[if_pos Aw] at ej;rw[ej] at a6;replace a6:=a6 BJ;refine aa ?_;refine X_ (rH 11 5 k 0 bo) ?_ ?_
   .rintro _ _ ⟨hb,_⟩;exact absurd hb BJ
   .rintro c _ ⟨_,rfl,rfl⟩;refine aa ?_;rw[a6];exact⟨(show(11:Int)≠0 by decide),aL,bF,ij.mod⟩
  rw[if_neg Aw] at ej;refine aa ?_;refine J_ (Ll m.props[k].name bo (aJ.ext bF) lZ) ?_;rintro _ bt ⟨rfl,aI⟩;have hN:=ij.then aI;replace nC:=nC.ext aI (by have:=aF.size;omega);replace bf:=aI.obj bf;replace b1:=aI.obj b1;replace al:=hN.box;have cg:=hN.ext;clear ij;refine aa ?_;refine N_ (fun g3=>?_) (fun g3=>?_);rotate_left
  .rw[if_pos g3] at ej;rw[ej] at a6;replace a6:=a6 BJ;refine aa ?_;refine X_ (rH 6 5 k 0 bt) ?_ ?_
   .rintro _ _ ⟨hb,_⟩;exact absurd hb BJ
   .rintro c _ ⟨_,rfl,rfl⟩;refine aa ?_;rw[a6];exact⟨(show(6:Int)≠0 by decide),aL,cg,hN.mod⟩
  rw[if_neg (by rw[g3];decide)] at ej;refine aa ?_;refine X_ (L6 ck (o.sr m k) m.props[k].name 5 k bt hN.set) ?_ ?_;rotate_left
  .rintro c _ ⟨ax,rfl,rfl⟩;rw[if_pos ax] at ej;rw[ej] at a6;replace a6:=a6 BJ;refine aa ?_;rw[a6];exact⟨(show(7:Int)≠0 by decide),aL,hN.ext,hN.mod⟩
  rintro _ bG ⟨ax,dy,jx⟩;rw[if_neg ax] at ej;have jA:km w0 w ck br _ bG (o.sr m (k+1)):=(hN.wr dy jx).jf (by simp only[o.sr,o.RC];rw[o.CV (fun x:o.lL=>x.name) _ aV,Wi]);replace nC:=nC.wr dy Aw;replace bf:=dy.obj bf Aw;replace b1:=dy.obj b1 Aw;replace al:=jA.box;have c8:=jA.ext;clear hN cg;refine aa ?_;refine J_ (aa3 _ m.props[k].expr _ _ bG (hU.ext c8) nC.here) ?_;rintro _ cQ ⟨rfl,bA⟩;have Gk:=jA.then bA;have aer:=dy.size;replace nC:=nC.ext bA (by have:=aF.size;have:=aI.size;omega);replace bf:=bA.obj bf;replace al:=Gk.box;have eY:=Gk.ext;clear jA;refine aa ?_;refine X_ (rH (o.kind m.props[k].expr (o.eF m)).2 5 k 0 cQ) ?_ ?_;rotate_left
  .rintro c _ ⟨hb,rfl,rfl⟩;rw[if_pos hb] at ej;rw[ej] at a6;replace a6:=a6 hb;refine aa ?_;rw[a6];exact⟨hb,aL,eY,Gk.mod⟩
  rintro _ cS ⟨hb,rfl⟩;rw[if_neg (by simpa using hb)] at ej;refine aa ?_;apply I_<;>intro g4;rotate_left
  .rw[if_pos g4] at ej;rw[ej] at a6;replace a6:=a6 BJ;refine aa ?_;refine X_ (rH 9 5 k 0 cS) ?_ ?_
   .rintro _ _ ⟨zw,_⟩;exact absurd zw BJ
   .rintro c _ ⟨_,rfl,rfl⟩;refine aa ?_;rw[a6];exact⟨(show(9:Int)≠0 by decide),aL,eY,Gk.mod⟩
  rw[if_neg (by simpa using g4)] at ej;refine aa ?_;refine⟨aV,aL,(),trivial,Gk,nC,bf,by have:=aF.size;have:=aI.size;have:=bA.size;omega,fun i U=>?_⟩;by_cases Ca:i=k
  .subst Ca;rw[ej]
  .exact bw i Aw
 refine aa ?_;exact⟨by rw[o.R4 fun j aC=>bw j Aw];rfl,bC,lj.mod⟩
end Go.Proofs.R
end
section
namespace a7
open Go Go.RowKit
structure AT where
 n:Nat
 res:List mH
 pre:eR
 ca:List Step
 fn:Operand
 rest:eR
def Oe(ae:Oper):H_ G_ :=
 match ae.guard,ae.dst,ae.op with
 | none,none,.defer ⟨.value x,args,_⟩=>match args.toList with | []=>some x | _=>none
 | _,_,_=>none
def WY(P:D_)(fn:Func):Code->H_ AT
 | .seq a (.seq (.region _ ops false) c) =>
  match ops.toList.getLast?.bind Oe,comp P fn.ntmps a,qa P fn.ntmps ops ops.toList.dropLast,comp P fn.ntmps c,x0 P fn.results.toList with
  | some x,some qD,some ca,some lc,some r=>some ⟨fn.ntmps,r,qD,ca,x,lc⟩
  | _,_,_,_,_=>none
 | _=>none
def Hx(P:D_)(f:E_):H_ AT :=
 match P.funcs[f]? with
 | some fn=>match fn.body with | some c=>WY P fn c | none=>none
 | none=>none
def uf(P:D_)(f:E_)(cap:Array B_)(u:FrameMode)(w:A_)(R:A_->Prop):Prop :=
 CallsD P f cap u w fun e kg w'=>(∃v,e = .returned v)/\settle kg = .returning/\R w'
def DZ(P:D_)(res:C_ mH)(f:E_)(cap:Array B_)(R:B_->A_->Prop):fy->Fr->A_->Prop
 | .normal,S,w=>uf P f cap .returning w fun w'=>pP res S w' fun vs=>R (ji vs) w'
 | .ret,S,w=>uf P f cap .returning w fun w'=>pP res S w' fun vs=>R (ji vs) w'
 | .exit _,_,_=>False
 | .hj c,S,w=>uf P f cap (.panicking c) w fun w'=>pP res S w' fun vs=>R (ji vs) w'
def asP(P:D_)(L:AT)(R:B_->A_->Prop)(S:Fr)(w:A_):Prop :=
 dL P L.pre (vg (fun S w=>steps P L.ca S w fun S w => ∃f cap,bn S L.fn = .func (.func f) #[] cap/\okF P f=true/\dL P L.rest (DZ P L.res f cap R) S w) (fun _ _ _=>False)) S w
theorem ag5{ae:Oper}{x:G_}(h:Oe ae=some x):∃ty pos after nK,ae=⟨none,.defer ⟨.value x,#[],nK⟩,ty,pos,after,none⟩:=by
 obtain⟨dst,op,ty,pos,after,guard⟩:=ae;unfold Oe at h;split at h
 .rename_i h1 I ab;simp only at h1 I ab;split at h
  .rename_i aE;injection h with h
   have aY:=Array.toList_eq_nil_iff.1 aE;subst h1 I ab h aY;exact⟨_,_,_,_,rfl⟩
  .cases h
 .cases h
theorem ahB{P:D_}{f:E_}{L:AT}(hm:P.follows .mixedOrders=true)(ai:Hx P f=some L){args:C_ B_}{w:A_}{R:B_->A_->Prop}(aU:args.length<=L.n)
  (h:asP P L R (iE args 0) w):aW P f args.toArray w R:=by
 unfold Hx at ai;split at ai
 .rename_i fn k9;split at ai
  .rename_i c an;unfold WY at ai;split at ai
   .rename_i a id ops kC;split at ai
    .rename_i x qD ca lc r h1 I ab aE aY;injection ai with ai;subst ai
     obtain⟨ae,aJ,af⟩:=Option.bind_eq_some_iff.1 h1;obtain⟨ty,pos,after,nK,rfl⟩:=ag5 af;have ali:ops.toList=ops.toList.dropLast++[⟨none,.defer ⟨.value x,#[],nK⟩,ty,pos,after,none⟩]:=by
      have b8:ops.toList≠[]:=by intro e;rw[e] at aJ;cases aJ
      rw[List.getLast?_eq_some_getLast b8] at aJ;injection aJ with aJ
      rw[<-aJ,AL2 b8]
     have fin:∀(g:E_) (cap:Array B_) (S:Fr) (cp:Act) (w':A_) (u:FrameMode),u≠.run->okF P g=true->Fits [{ target:=.fn (.func g) cap,args:=#[] }] cp S fn.ntmps->uf P g cap u w' (fun w'=>pP r S w' fun vs=>R (ji vs) w') ->
       Leaves P fn cp.tmps (fun e w' => ∃v,e = .returned v/\R v w') cp.defers u w':=by
      intro g cap S cp w' u hu c5 av az;rw[av.1];refine leaves_cons hu (f:=g) (args:=cap) (by simp[invoke,CK c5]) (CallsD.mono az ?_);rintro e kg bM ⟨⟨v,rfl⟩,ak,aG⟩;simp only[ak];obtain⟨vs,bz,b0⟩:=sE av _ _ _ aY aG;exact⟨_,w3 bz,_,rfl,b0⟩
     refine calls_of_wp_defers k9 an ((wpIn_wide (n:=0)).1 ?_);refine wpIn_seq (wpIn_mono (sound (ds:=[]) (r:=none) (m:=0) hm a qD I _ _ (iE args 0) w (OJ aU) h) fun e cp w' ao=>?_);cases e with
     | normal =>
      obtain⟨S,av,ao⟩:=ao;refine wpIn_seq (wpIn_region_list ?_);rw[ali];refine yQ (r:=none) (tl:=[_]) ?_ ?_ _ ca cp S w' ab av ao
      .rintro a2 kU aB j9 ⟨g,cap,he,c5,aD⟩;have hw:Region.wanted (⟨none,.defer ⟨.value x,#[],nK⟩,ty,pos,after,none⟩:Oper) (yielded ops a2.tmps)=true:=rfl;simp only[wpListIn,hw,if_true];have hV:∀ρ:G_->B_,ρ x = .func (.func g) #[] cap->((⟨none,.defer ⟨.value x,#[],nK⟩,ty,pos,after,none⟩:Oper).semAt none ρ).run P aB = .ok (.defer { target:=.fn (.func g) cap,args:=#[] }) aB:=by
        intro ρ amJ;simp[Oper.semAt,execOp,resolve,Deferred.ofValue,amJ,go_sem]
       refine⟨fun _ _=>trivial,?_⟩;rw[show(nO none).round=none from rfl,hV a2.eval (by rw[j9.eval];exact he)];have akQ:Fits [{ target:=.fn (.func g) cap,args:=#[] }] ({ a2 with defers:={ target:=.fn (.func g) cap,args:=#[] } :: a2.defers }:Act) kU fn.ntmps:=⟨by rw[j9.1],j9.2⟩;refine wpIn_mono (sound (ds:=[{ target:=.fn (.func g) cap,args:=#[] }]) (r:=none) (m:=0) hm kC lc aE _ _ kU aB akQ aD) fun e a4 aR ao=>?_;cases e with
       | normal=>obtain⟨p3,qq,ao⟩:=ao;exact fin g cap p3 a4 aR .returning Bh c5 qq ao
       | ret=>obtain⟨p3,qq,ao⟩:=ao;exact fin g cap p3 a4 aR .returning Bh c5 qq ao
       | exit i=>obtain⟨p3,qq,ao⟩:=ao;exact ao.elim
       | panic vG=>obtain⟨p3,qq,ao⟩:=ao;exact fin g cap p3 a4 aR (.panicking vG) Bh c5 qq ao
       | _=>exact ao.elim
      .rintro⟨_,_,af⟩;obtain⟨_,h1,_⟩:=af;cases h1
     | ret=>obtain⟨S,av,ao⟩:=ao;exact ao.elim
     | exit i=>obtain⟨S,av,ao⟩:=ao;exact ao.elim
     | panic vG=>obtain⟨S,av,ao⟩:=ao;exact ao.elim
     | _=>exact ao.elim
    .cases ai
   .cases ai
  .cases ai
 .cases ai
structure Dm where
 n:Nat
 res:List mH
 d:Nat
 e:Nat
 rest:eR
def Sh(ae:Oper):H_ Nat :=
 match ae.guard,ae.op,ae.dst with
 | none,.call ⟨.builtin .recover,args,_⟩,some d=>match args.toList with | []=>some d | _=>none
 | _,_,_=>none
def Ny(ae:Oper):H_ (Nat×Nat) :=
 match ae.guard,ae.op,ae.dst with
 | none,.assign (.tmp d),some e=>some (d,e)
 | _,_,_=>none
def WZ(P:D_)(fn:Func):Code->H_ Dm
 | .seq (.region _ ops false) c =>
  match ops.toList with
  | [bI,bO]=>match Sh bI,Ny bO,comp P fn.ntmps c,x0 P fn.results.toList with
   | some d,some (vN,e),some lc,some r=>if d=vN/\d<fn.ntmps/\e<fn.ntmps then some ⟨fn.ntmps,r,d,e,lc⟩ else none
   | _,_,_,_=>none
  | _=>none
 | _=>none
def Hy(P:D_)(f:E_):H_ Dm :=
 match P.funcs[f]? with
 | some fn=>match fn.body with | some c=>WZ P fn c | none=>none
 | none=>none
def pN:FrameMode->B_×FrameMode
 | .panicking ({ v,recovered:=false,goexit:=false } :: aoN)=>(v,.panicking ({ v,recovered:=true } :: aoN))
 | u=>(.nilIface,u)
theorem aqq(c:Frame)(cs:C_ Frame):(match recoverD (c :: cs) with | some (v,iU)=>(v,iU) | none=>(.nilIface,c :: cs))=((pN c.mode).1,{ c with mode:=(pN c.mode).2 } :: cs):=by
 obtain⟨fn,tmps,todo,defers,mode,kind,ro⟩:=c;unfold recoverD pN;cases mode with
 | run=>rfl
 | returning=>rfl
 | panicking l =>
  cases l with
  | nil=>rfl
  | cons p r =>
   obtain⟨v,rc,ge⟩:=p;cases rc<;>cases ge<;>rfl
theorem aqo{ae:Oper}{d:Nat}(h:Sh ae=some d):∃nK ty pos after,ae=⟨some d,.call ⟨.builtin .recover,#[],nK⟩,ty,pos,after,none⟩:=by
 obtain⟨dst,op,ty,pos,after,guard⟩:=ae;unfold Sh at h;split at h
 .rename_i h1 I ab;simp only at h1 I ab;split at h
  .rename_i aE;injection h with h
   have aY:=Array.toList_eq_nil_iff.1 aE;subst h1 I ab h aY;exact⟨_,_,_,_,rfl⟩
  .cases h
 .cases h
theorem afo{ae:Oper}{d e:Nat}(h:Ny ae=some (d,e)):∃ty pos after,ae=⟨some e,.assign (.tmp d),ty,pos,after,none⟩:=by
 obtain⟨dst,op,ty,pos,after,guard⟩:=ae;unfold Ny at h;split at h
 .rename_i h1 I ab;simp only at h1 I ab;injection h with h
  injection h with aY bz
  subst h1 I ab aY bz;exact⟨_,_,_,rfl⟩
 .cases h
theorem ahC{P:D_}{f:E_}{L:Dm}(hm:P.follows .mixedOrders=true)(ai:Hy P f=some L){args:C_ B_}{u:FrameMode}{w:A_}{R:B_->A_->Prop}(aU:args.length<=L.n)
  (h:dL P L.rest (DY L.res R) (cb (cb (iE args 0) L.d (pN u).1) L.e (pN u).1) w):CallsD P f args.toArray u w fun e kg w'=>kg=(pN u).2/\∃v,e = .returned v/\R v w':=by
 unfold Hy at ai;split at ai
 .rename_i fn k9;split at ai
  .rename_i c an;unfold WZ at ai;split at ai
   .rename_i id ops kC;split at ai
    .rename_i bI bO E4;split at ai
     .rename_i d vN e lc r h1 I ab aE;split at ai
      .rename_i akF;obtain⟨akE,a6,he⟩:=akF;subst akE;injection ai with ai;subst ai
       obtain⟨nK,asw,apC,ae9,rfl⟩:=aqo h1;obtain⟨asx,apD,afa,rfl⟩:=afo I;refine callsD_of_wpS k9 an fun By cs hu=>?_;refine wpS_seq (wpS_region ?_);have dd:ops.size=2:=by rw[<-Array.length_toList,E4];rfl
       have B5:ops[0]? = ops.toList[0]? := by simp
       have PW:ops[1]? = ops.toList[1]? := by simp
       rw[E4] at B5 PW;simp only[List.getElem?_cons_zero,List.getElem?_cons_succ] at B5 PW;have aG:List.range ops.size=[0,1]:=by rw[dd];rfl
       rw[aG];have al4:∀(ρ:G_->B_),(execOp ρ ⟨some d,.call ⟨.builtin .recover,#[],nK⟩,asw,apC,ae9,none⟩).run P w = .ok .recover w:=by
        intro ρ;simp[execOp,resolve,invoke,builtin,go_sem]
       have Cl:∀(dst:H_ Nat) (op:Op) (ty:F_) (pos:String) (after:Array Edge) (y:Nat->H_ Bool),Region.wanted (⟨dst,op,ty,pos,after,none⟩:Oper) y=true:=fun _ _ _ _ _ _=>rfl;have akP:=OJ (n:=fn.ntmps) aU;have key:∀(v:B_) (iU:C_ Frame),dL P lc (DY r R) (cb (cb (iE args 0) d v) e v) w->(iU = { By with mode:=(pN u).2 } :: cs) ->
         wpOpsS P ops (Exit.thenS (kC.wpS P (bodyPostS P fn By cs fun e kg w'=>kg=(pN u).2/\∃v,e = .returned v/\R v w')) (bodyPostS P fn By cs fun e kg w'=>kg=(pN u).2/\∃v,e = .returned v/\R v w')) [1]
          (({ tmps:=args.toArray++Array.replicate (fn.ntmps - args.toArray.size) undef,defers:=[] }:Act).put (some d) v) iU w:=by
        intro v iU aD gk;have uI:=akP.put (d:=some d) (by simpa[x2] using a6) v;have af:(execOp (({ tmps:=args.toArray++Array.replicate (fn.ntmps - args.toArray.size) undef,defers:=[] }:Act).put (some d) v).eval ⟨some e,.assign (.tmp d),asx,apD,afa,none⟩).run P w = .ok (.value v) w:=by
         rw[uI.eval];simp[execOp,bn,a7.put,cb]
        simp only[wpOpsS,PW,Cl,if_true,af];rw[Oper.upon_value];have j9:=uI.put (d:=some e) (by simpa[x2] using he) v;refine wpS_of_wp ((wpIn_wide (n:=0)).1 (wpIn_mono (sound (ds:=[]) (r:=none) (m:=0) hm kC lc ab _ _ _ w j9 aD) fun x a4 aR ao=>?_));cases x with
        | normal =>
         obtain⟨p3,qq,ao⟩:=ao;obtain⟨vs,bz,b0⟩:=sE qq _ _ _ aE ao;exact⟨qq.1,_,gk,_,w3 bz,rfl,_,rfl,b0⟩
        | ret =>
         obtain⟨p3,qq,ao⟩:=ao;obtain⟨vs,bz,b0⟩:=sE qq _ _ _ aE ao;exact⟨qq.1,_,gk,_,w3 bz,rfl,_,rfl,b0⟩
        | exit i=>obtain⟨p3,qq,ao⟩:=ao;exact ao.elim
        | panic vG=>obtain⟨p3,qq,ao⟩:=ao;exact ao.elim
        | _=>exact ao.elim
       have rn:=aqq By cs;rw[hu] at rn;unfold wpOpsS;simp only[B5,Cl,if_true,al4];cases JD:recoverD (By :: cs) with
       | none =>
        rw[JD] at rn;injection rn with e1 e2
        exact key .nilIface (By :: cs) (by rw[e1];exact h) e2
       | some asO =>
        obtain⟨v,iU⟩:=asO;rw[JD] at rn;injection rn with e1 e2
        exact key v iU (by rw[e1];exact h) e2
      .cases ai
     .cases ai
    .cases ai
   .cases ai
  .cases ai
 .cases ai
end a7
namespace a7
open Go Go.RowKit
def MD(P:D_)(v:B_)(K:E_->Array B_->Prop):Prop := ∃f cap,v = .func (.func f) #[] cap/\okF P f=true/\K f cap
section
variable{P:Program}{S:Fr}{w:World}{res:List mH}{R:Value->World->Prop}
theorem AC2{f:E_}{L:AT}(hm:P.follows .mixedOrders=true)(ai:Hx P f=some L){args:C_ B_}(aU:args.length<=L.n)
  (h:eQ P L.pre (jh (fun S w=>pS P L.ca S w (fun S w=>MD P (bn S L.fn) fun g cap=>eQ P L.rest (DZ P L.res g cap R) S w ⟨⟩) ⟨⟩) (fun _ _ _=>False) ⟨⟩) (iE args 0) w ⟨⟩):aW P f args.toArray w R:=by
 refine ahB hm ai aU ?_;unfold eQ jh pS MD at h;exact h
theorem AC3{g:E_}{cap:Array B_}{K:E_->Array B_->Prop}(c5:okF P g=true)(h:K g cap):MD P (.func (.func g) #[] cap) K:=⟨g,cap,rfl,c5,h⟩
theorem AC4{g:E_}{cap:Array B_}(h:uf P g cap .returning w fun w'=>nJ res S w' (fun vs=>R (ji vs) w') ⟨⟩):DZ P res g cap R .ret S w:=by
 unfold nJ at h;exact h
theorem AC5{g:E_}{cap:Array B_}{c:C_ PanicEntry}(h:uf P g cap (.panicking c) w fun w'=>nJ res S w' (fun vs=>R (ji vs) w') ⟨⟩):DZ P res g cap R (.hj c) S w:=by
 unfold nJ at h;exact h
theorem uf.of{g:E_}{cap:Array B_}{u AE:FrameMode}{Dq Dr:A_->Prop}(h:CallsD P g cap u w fun e kg w'=>kg=AE/\∃v,e = .returned v/\Dq w')(ak:settle AE = .returning)(hk:∀w',Dq w'->Dr w'):uf P g cap u w Dr :=
 CallsD.mono h fun e kg w' ⟨h1,v,I,ab⟩=>⟨⟨v,I⟩,by rw[h1];exact ak,hk _ ab⟩
theorem AA3{f:E_}{L:Dm}(hm:P.follows .mixedOrders=true)(ai:Hy P f=some L){args:C_ B_}{u:FrameMode}(aU:args.length<=L.n)
  (h:eQ P L.rest (tg L.res R ⟨⟩) (cb (cb (iE args 0) L.d (pN u).1) L.e (pN u).1) w ⟨⟩):CallsD P f args.toArray u w fun e kg w'=>kg=(pN u).2/\∃v,e = .returned v/\R v w':=by
 refine ahC hm ai aU ?_;unfold eQ tg at h;exact h
theorem ac8(d:Nat){t:F_}{ms:Array (String×F_)}(h:P.underlying t=some (.interface ms))(w:A_):(Op.equalIn (d+1) t .nilIface .nilIface).run P w = .ok true w/\∀T v,(Op.equalIn (d+1) t (.iface T v) .nilIface).run P w = .ok false w:=by
 constructor
 .simp[Op.equalIn,run_underlying h]
 .intro T v;simp[Op.equalIn,run_underlying h]
theorem aax{t:F_}(h:(P.underlying t).map yu=some true):∃ms,P.underlying t=some (.interface ms):=by
 obtain⟨d,a6,U⟩:=Option.map_eq_some_iff.1 h;cases d<;>first | exact⟨_,a6⟩ | (simp[yu] at U;done)
theorem AC6{hP:F_}{x:G_}{v:B_}{ba:B_->Prop}{t}(h:(P.underlying hP).map yu=some true)(hk:ba (.bool false)):kj P .neq hP x (.const v) .nilIface .nilIface ba t :=
 _Z (v:=.bool false) (fun w=>by
  obtain⟨ms,h⟩:=aax h;have h1:=(ac8 9999 h w).1;have I:(Op.equalIn Op.maxDepth hP .nilIface .nilIface).run P w = .ok true w:=h1;cases x<;>simp[eqGuard,binOp,Op.equal,go_sem,I,Result.andThen]) hk
theorem AC7{hP T:F_}{x y:G_}{v:B_}{ba:B_->Prop}{t}(h:(P.underlying hP).map yu=some true)(hk:ba (.bool true)):kj P .neq hP x y (.iface T v) .nilIface ba t :=
 _Z (v:=.bool true) (fun w=>by
  obtain⟨ms,h⟩:=aax h;have I:(Op.equalIn Op.maxDepth hP (.iface T v) .nilIface).run P w = .ok false w:=(ac8 9999 h w).2 T v;simp[eqGuard,binOp,Op.equal,go_sem,I,Result.andThen]) hk
theorem AC8{x:G_}{aen T ty:F_}{v:B_}{cK:B_->A_->Prop}{t}(af:bn S x = .iface T v)(h:(P.underlying T).map yu=some false)(hk:cK (.tuple #[v,.bool true]) w):uh P (.typeAssert x aen T true) ty S w cK t:=by
 refine _D (v:=.tuple #[v,.bool true]) (w':=w) ?_ hk;obtain⟨d,a6,U⟩:=Option.map_eq_some_iff.1 h;have h1:(Instr.typeAssert (.iface T v) aen T true).run P w = .ok (.tuple #[v,.bool true]) w:=by
  cases d<;>first | (simp[yu] at U;done) | (simp[Instr.typeAssert,run_underlying a6])
 simp[execOp,af,h1,Result.andThen]
end
end a7
end
section
namespace Go.Proofs.R
open Go a7 Go.Proofs
abbrev F.g:E_:=54
def TY.sZ:AT:=⟨16,[.jm 4 2], (.dm [dC 1 (.box T.f (aM 0)),dC 2 (.new T.x (.agg #[dD,dD,dD,dD]))]),
 [cD 4 (.wU F.g [] [(aM 2)])],(aM 4), (cG [dC 5 .u3,aN 3 5] (.seq (.fC [h3 6 5 1,aN 7 3] (some 8) F.jI [(aM 6),(aM 7)]) (.seq (.fC [h3 9 5 1,aN 10 3] (some 11) F.as [(aM 9),(aM 10)]) (.seq (.fC [h3 12 5 1,aN 13 3] (some 14) F.s0 [(aM 12),(aM 13)]) (cG [cD 15 (.gM [dD,dD,dD,dD] [(0,1),(1,1),(2,1),(3,1)] []),pV 4 2 15] .ret)))))⟩
theorem aeA.sZ:Hx Tryz.prog F.sZ=some TY.sZ:=Cq
def MC.g:Dm:=⟨17,[],4,1, (cG [aN 5 1,cD 6 (.bin .neq T.ap (aM 5) (.const .nilIface))] (jY 6 (cG [aN 8 1,dC 9 (.raw (.typeAssert (aM 8) T.ap T.pr true) T.a5),aN 7 9,C4 10 7 0,C4 11 7 1,dC 2 (.new T.pr (.agg #[dD,dD,dD,dD])),pV 4 2 10,aN 3 11] (.seq (cG [aN 12 3,cD 13 (.un .not (aM 12))] (jY 13 (.tQ [aN 14 1] (aM 14)) .skip)) (.dm [fw 15 0 2,h3 16 4 15,pV 4 0 16]))) .skip))⟩
theorem T0.g:Hy Tryz.prog F.g=some MC.g:=Cq
end Go.Proofs.R
end