/- Texts joined: RefA RefB RefC ModJ LiteM ModA ModD ModE ModF LiteD CodeD. -/
import Derived.Test.YtempnjgiohpopaaGreatDoorQwrd
import Derived.Test.YtempnjgiohpopaaGreatDoorQwrg
import Derived.Test.YtempnjgiohpopaaGreatDoorQwrh
import Derived.Test.YtempnjgiohpopaaGreatDoorQwri
import Derived.Test.YtempnjgiohpopaaGreatDoorQwrk
import Derived.Maps.RangeRun
import Derived.Defers
import Derived.Recover
set_option linter.all false
set_option maxRecDepth 100000
set_option maxHeartbeats 16000000
section
namespace Go.Proofs.R
open Go Go.RowKit bt
theorem zw(hg:Value)(e:List o.Node)(k:Int)(cs:List Value)(s:o.Scope)(w:World)(aN:o.fA w hg e)(h:o.e2 w cs s) :
  bq Tryz.prog F.sW #[hg,.int .i64 k,.agg cs.toArray] w fun v w'=>v = .int .i64 (o.asked e k s)∧Ext w w':=by
 obtain⟨a0,bN,dy,c1,a2,c2,a3,bK,a4,bQ,rfl,_⟩:=h.form;obtain⟨bh,cap,rfl,_⟩:=aN.form;refine bI E.sW ?_;refine bF ?_;refine aa ?_;intro w1 bz cK az al;refine aa ?_;refine K.call (Tx _ e _ s w1 (aN.ext az) (h.ext az)) ?_;rintro _ aR ⟨rfl,aA⟩;rw[o.asked];refine aa ?_;apply K.cond<;>intro g1;rotate_left
 ·refine aa ?_;exact⟨by rw[if_pos g1],az.trans aA⟩
 rw[if_neg (by simpa using g1)];refine aa ?_;apply K.cond<;>intro g2;rotate_left
 ·refine aa ?_;exact⟨by rw[if_pos g2],az.trans aA⟩
 ·refine aa ?_;exact⟨by rw[if_neg (by simpa using g2)],az.trans aA⟩
theorem FJ(n:Int)(w:World)(h:0≤n∧n≤4611686018427387904):bq Tryz.prog F.qx #[.int .i64 n] w fun v w'=>v = .int .i64 (if n=0 then 0 else 1+n)∧w'=w:=FI n w h
theorem Kf(v:Value)(l:List o.Var)(n:Int)(cs:List Value)(s:o.Scope)(w:World)(aQ:o.gF w v l)(h:o.e2 w cs s) :
  bq Tryz.prog F.zb #[v,.int .i64 n,.agg cs.toArray] w fun v w'=>v = .tuple #[.int .i64 (o.jD l n s).1,.int .i64 (o.jD l n s).2]∧Ext w w':=by
 obtain⟨a0,bN,dy,c1,a2,c2,a3,bK,a4,bQ,rfl,_,_,_,_,_,eG,dt,dB,dT,er⟩:=h.form;obtain⟨bh,cap,rfl,_⟩:=aQ.form;refine bI E.zb ?_;refine bF ?_;refine aa ?_;intro w1 bz cK az al;refine aa ?_;refine K.call (C9 _ l n _ s w1 (aQ.ext az) (h.ext az)) ?_;rintro u aR ⟨⟨x,hu,aw⟩,aA⟩;cases hk:(o.fj l n s).2.2 with
 | false =>
  rw[hk] at hu;subst hu;refine aa ?_;intro ba bZ fG au bG;refine aa ?_;exact⟨by rw[o.jD,o.O8 hk],(az.trans aA).trans au⟩
 | true =>
  rw[hk] at hu;subst hu;obtain⟨bs,fk,gp,gL,h2⟩:=o.Pa hk (aw hk);have il:o.jD l n s=if x.over≠0 then (0,9) else ((if x.scalar=0 then 0 else 1+x.scalar),0):=by unfold o.jD;rw[bs]
  refine aa ?_;intro ba bZ fG au bG;refine aa ?_;apply K.cond<;>intro g1
  ·rw[if_neg (by simpa using g1)] at il;refine aa ?_;refine K.call (FJ _ ba ⟨fk,by omega⟩) ?_;rintro _ _ ⟨rfl,rfl⟩;refine aa ?_;exact⟨by rw[il],(az.trans aA).trans au⟩
  ·rw[if_pos g1] at il;refine aa ?_;exact⟨by rw[il],(az.trans aA).trans au⟩
theorem abI(a:o.Act)(cn cr:Value)(cs:List Value)(s:o.Scope)(w:World)(ad:o.fA w cn a.index)(aU:o.fA w cr a.value)(h:o.e2 w cs s) :
  bq Tryz.prog F.Ch #[.agg (a.enc cn cr).toArray,.agg cs.toArray] w fun v w'=>v = .int .i64 (o.wK a s)∧Ext w w':=by
 obtain⟨a0,bN,dy,c1,a2,c2,a3,bK,a4,bQ,rfl,_,Js,_,_,_,eG,dt,dB,dT,er⟩:=h.form;obtain⟨_,_,rfl,_⟩:=ad.form;obtain⟨_,_,rfl,_⟩:=aU.form;refine bI E.Ch ?_;refine bF ?_;refine aa ?_;intro w1 bz cK az al;refine aa ?_;intro aR b4 dw aA aI;replace al:=aA.obj al;have cP:∀{w'},Ext aR w'→Ext w w':=fun e=>(az.trans aA).trans e;refine aa ?_;refine K.call (C9 _ s.vars a.to _ s aR (Js.ext (cP (Ext.refl _))) (h.ext (cP (Ext.refl _)))) ?_;rintro u ba ⟨⟨x,hu,aw⟩,au⟩;replace al:=au.obj al;replace aI:=au.obj aI;cases hk:(o.fj s.vars a.to s).2.2 with
 | false =>
  rw[hk] at hu;subst hu;refine aa ?_;intro bo cE fh aP bJ;refine aa ?_;exact⟨by rw[o.wK,o.O8 hk],cP (au.trans aP)⟩
 | true =>
  rw[hk] at hu;subst hu;obtain⟨bs,fk,gp,gL,h2⟩:=o.Pa hk (aw hk);have il:o.wK a s=if x.over=0 then 9 else if o.asked a.index (1+x.over) s≠0 then o.asked a.index (1+x.over) s else o.asked a.value (if x.scalar=0 then 0 else 1+x.scalar) s:=by unfold o.wK;rw[bs]
  refine aa ?_;intro bo cE fh aP bJ;replace al:=aP.obj al;replace aI:=aP.obj aI;have dN:∀{w'},Ext bo w'→Ext w w':=fun e=>cP ((au.trans aP).trans e);refine aa ?_;apply K.cond<;>intro g1
  ·rw[if_pos g1] at il;refine aa ?_;exact⟨by rw[il],dN (Ext.refl _)⟩
  rw[if_neg g1] at il;refine aa ?_;refine K.call (zw _ a.index (1+x.over) _ s bo (ad.ext (dN (Ext.refl _))) (h.ext (dN (Ext.refl _)))) ?_;rintro _ bR ⟨rfl,bf⟩;replace al:=bf.obj al;replace aI:=bf.obj aI;replace bJ:=bf.obj bJ;have h6:∀{w'},Ext bR w'→Ext w w':=fun e=>dN (bf.trans e);refine aa ?_;apply K.cond<;>intro g2;rotate_left
  ·rw[if_pos g2] at il;refine aa ?_;exact⟨by rw[il],h6 (Ext.refl _)⟩
  rw[if_neg (by simpa using g2)] at il;refine aa ?_;refine K.fX (.int .i64 (if x.scalar=0 then 0 else 1+x.scalar)) (fun w' e=>(FJ _ w' ⟨fk,by omega⟩).mono fun v bY df=>⟨df.1,by rw[df.2];exact Ext.refl _⟩) ?_;refine aa ?_;refine K.fX (.int .i64 (o.wK a s)) (fun w' e=>by rw[il];exact zw _ a.value _ _ s w' (aU.ext (h6 e)) (h.ext (h6 e))) ?_;refine aa ?_;intro bW bc;refine aa ?_;exact⟨bu,h6 bc⟩
theorem Tr(a:o.Act)(comm:Bool)(cn cr:Value)(cs:List Value)(s:o.Scope)(w:World)(ad:o.fA w cn a.index)(aU:o.fA w cr a.value)(h:o.e2 w cs s) :
  bq Tryz.prog F.Cg #[.agg (a.enc cn cr).toArray,.agg cs.toArray,.bool comm] w fun v w'=>v = .int .i64 (o.jG a s comm)∧Ext w w':=by
 obtain⟨a0,bN,dy,c1,a2,c2,a3,bK,a4,bQ,rfl,_,Js,_,_,lk,eG,dt,dB,dT,er⟩:=h.form;obtain⟨_,_,rfl,_⟩:=ad.form;obtain⟨_,_,rfl,_⟩:=aU.form;refine bI E.Cg ?_;refine bF ?_;refine aa ?_;intro w1 bz cK az al;refine aa ?_;intro aR b4 dw aA aI;replace al:=aA.obj al;have cP:∀{w'},Ext aR w'→Ext w w':=fun e=>(az.trans aA).trans e;refine aa ?_;apply K.cond<;>intro g1
 ·refine aa ?_;exact⟨by rw[o.jG,if_pos (.inl g1)],cP (Ext.refl _)⟩
 refine aa ?_;apply K.cond<;>intro g2
 ·refine aa ?_;exact⟨by rw[o.jG,if_pos (.inr g2)],cP (Ext.refl _)⟩
 have po:¬(a.kind<1∨5<a.kind):=by omega
 refine aa ?_;apply K.cond<;>intro g3
 ·refine aa ?_;refine K.call (abI a _ _ _ s aR (ad.ext (cP (Ext.refl _))) (aU.ext (cP (Ext.refl _))) (h.ext (cP (Ext.refl _)))) ?_;rintro _ ba ⟨rfl,au⟩;refine aa ?_;exact⟨by rw[o.jG,if_neg po,if_pos g3],cP au⟩
 refine aa ?_;apply K.cond<;>intro g4
 ·have bk:o.jG a s comm=if (o.jD s.vars a.to s).2≠0 then (o.jD s.vars a.to s).2 else o.asked a.value (o.jD s.vars a.to s).1 s:=by
   rw[o.jG,if_neg po,if_neg g3,if_pos (.inl g4)];simp only[if_neg (by omega:¬a.kind=3)]
  refine aa ?_;refine K.call (Kf _ s.vars a.to _ s aR (Js.ext (cP (Ext.refl _))) (h.ext (cP (Ext.refl _)))) ?_;rintro _ ba ⟨rfl,au⟩;replace al:=au.obj al;replace aI:=au.obj aI;refine aa ?_;apply K.cond<;>intro g5;rotate_left
  ·rw[if_pos g5] at bk;refine aa ?_;exact⟨by rw[bk],cP au⟩
  rw[if_neg (by simpa using g5)] at bk;refine aa ?_;refine K.call (zw _ a.value _ _ s ba (aU.ext (cP au)) (h.ext (cP au))) ?_;rintro _ bo ⟨rfl,aP⟩;refine aa ?_;exact⟨by rw[bk],cP (au.trans aP)⟩
 refine aa ?_;apply K.cond<;>intro g5
 ·have bk:o.jG a s comm=if (o.jD s.locals a.to s).2≠0 then (o.jD s.locals a.to s).2 else o.asked a.value (o.jD s.locals a.to s).1 s:=by
   rw[o.jG,if_neg po,if_neg g3,if_pos (.inr g5)];simp only[if_pos g5]
  refine aa ?_;refine K.call (Kf _ s.locals a.to _ s aR (lk.ext (cP (Ext.refl _))) (h.ext (cP (Ext.refl _)))) ?_;rintro _ ba ⟨rfl,au⟩;replace al:=au.obj al;replace aI:=au.obj aI;refine aa ?_;apply K.cond<;>intro g5;rotate_left
  ·rw[if_pos g5] at bk;refine aa ?_;exact⟨by rw[bk],cP au⟩
  rw[if_neg (by simpa using g5)] at bk;refine aa ?_;refine K.call (zw _ a.value _ _ s ba (aU.ext (cP au)) (h.ext (cP au))) ?_;rintro _ bo ⟨rfl,aP⟩;refine aa ?_;exact⟨by rw[bk],cP (au.trans aP)⟩
 have A1:¬(a.kind=1∨a.kind=3):=by omega
 refine aa ?_;refine K.cX (fun g6=>?_) (fun g6=>?_)
 ·refine aa ?_;exact⟨by rw[o.jG,if_neg po,if_neg g3,if_neg A1,if_pos g6],cP (Ext.refl _)⟩
 refine aa ?_;refine K.call (Ts a.to _ s aR (h.ext (cP (Ext.refl _)))) ?_;rintro u ba ⟨⟨x,hu,aw⟩,au⟩;replace al:=au.obj al;replace aI:=au.obj aI;by_cases hk:(o.iE a.to s).2=0;rotate_left
 ·rw[decide_eq_false hk] at hu;subst hu;refine aa ?_;intro bo cE fh aP bJ;refine aa ?_;exact⟨by rw[o.jG,if_neg po,if_neg g3,if_neg A1,if_neg (by simp[g6]),o.W0 hk],cP (au.trans aP)⟩
 rw[decide_eq_true hk] at hu;subst hu;obtain⟨bs,fk,gp⟩:=o.W2 hk (aw hk);have bk:o.jG a s comm=if a.kind=4 then o.asked a.value (if x.scalar=0 then 0 else 1+x.scalar) s else if (o.jD s.locals a.loc s).2≠0 then (o.jD s.locals a.loc s).2 else if (o.jD s.locals a.loc s).1≠(if x.scalar=0 then 0 else 1+x.scalar) then 9 else 0:=by
  rw[o.jG,if_neg po,if_neg g3,if_neg A1,if_neg (by simp[g6]),bs]
 refine aa ?_;intro bo cE fh aP bJ;replace al:=aP.obj al;replace aI:=aP.obj aI;have dN:∀{w'},Ext bo w'→Ext w w':=fun e=>cP ((au.trans aP).trans e);refine aa ?_;apply K.cond<;>intro g7
 ·rw[if_pos g7] at bk;refine aa ?_;refine K.fX (.int .i64 (if x.scalar=0 then 0 else 1+x.scalar)) (fun w' e=>(FJ _ w' ⟨fk,by omega⟩).mono fun v bY df=>⟨df.1,by rw[df.2];exact Ext.refl _⟩) ?_;refine aa ?_;refine K.fX (.int .i64 (o.jG a s comm)) (fun w' e=>by rw[bk];exact zw _ a.value _ _ s w' (aU.ext (dN e)) (h.ext (dN e))) ?_;refine aa ?_;intro bW bc;refine aa ?_;exact⟨bu,dN bc⟩
 rw[if_neg g7] at bk;refine aa ?_;refine K.call (Kf _ s.locals a.loc _ s bo (lk.ext (dN (Ext.refl _))) (h.ext (dN (Ext.refl _)))) ?_;rintro _ bR ⟨rfl,bf⟩;replace bJ:=bf.obj bJ;refine aa ?_;apply K.cond<;>intro g8;rotate_left
 ·rw[if_pos g8] at bk;refine aa ?_;exact⟨by rw[bk],dN bf⟩
 rw[if_neg (by simpa using g8)] at bk;refine aa ?_;refine K.call (FJ _ bR ⟨fk,by omega⟩) ?_;rintro _ _ ⟨rfl,rfl⟩;refine aa ?_;apply K.cond<;>intro g9
 ·rw[if_neg (by simpa using g9)] at bk;refine aa ?_;exact⟨by rw[bk],dN bf⟩
 ·rw[if_pos g9] at bk;refine aa ?_;exact⟨by rw[bk],dN bf⟩
end Go.Proofs.R
end
section
namespace o
theorem Ou{s:Scope}{a:Act}{k:Nat}{b:Bool}{Z:Int×Int}:(if gi a&&b then ((2+(k:Int)),(7:Int)) else if kC a s≠0 then (2+(k:Int),kC a s) else Z)=if jG a s b≠0 then (2+(k:Int),jG a s b) else Z:=by
 rw[aek];by_cases h:(gi a&&b)=true
 ·simp[h]
 ·simp[h]
end o
namespace Go.Proofs.R
open Go Go.RowKit bt
theorem aeq(c:o.dD)(fw eD:Value)(p:o.dj)(nf oU:Value)(cs:List Value)(s:o.Scope)(w:World)(aN:o.hQ c.name)(a6:o.fA w fw c.guard)(br:o.mH w eD c.b6)
  (aU:o.gF w nf p.vars)(av:o.o6 w oU p.cJ)(h:o.e2 w cs s) :
  bq Tryz.prog F.Ce #[.agg (c.enc fw eD).toArray,.agg (p.enc nf oU).toArray,.agg cs.toArray] w fun v w' =>
   v = .tuple #[.int .i64 (o.ig c p.cz s).1,.int .i64 (o.ig c p.cz s).2]∧Ext w w':=by
 obtain⟨a0,bN,dy,c1,a2,c2,a3,bK,a4,bQ,rfl,_⟩:=h.form;obtain⟨bh,cap,rfl,hlen⟩:=br.form;obtain⟨n3,WB,rfl,aan⟩:=a6.form;obtain⟨_,_,rfl,_⟩:=aU.form;obtain⟨_,_,rfl,_⟩:=av.form;refine bI E.Ce ?_;refine bF ?_;refine aa ?_;intro w1 bz cK az al;refine aa ?_;intro aR b4 dw aA aI;refine aa ?_;intro ba bZ fG au bG;replace al:=(aA.trans au).obj al;replace aI:=au.obj aI;have fz:∀{w'},Ext ba w'→Ext w w':=fun e=>((az.trans aA).trans au).trans e;refine aa ?_;refine K.call (zy c.name ba aN) ?_;rintro u bo ⟨hu,aP⟩;replace al:=aP.obj al;replace aI:=aP.obj aI;replace bG:=aP.obj bG;have dN:∀{w'},Ext bo w'→Ext w w':=fun e=>fz (aP.trans e);have bs:∀n,o.head c p.cz=n→n≠0→o.ig c p.cz s=(0,n):=fun n e aj=>by unfold o.ig;rw[e,if_pos aj]
 cases e6:o.isName c.name with
 | false =>
  rw[e6] at hu;subst hu;refine aa ?_;exact⟨by rw[bs 6 (by unfold o.head;rw[if_pos e6]) (by decide)],dN (Ext.refl _)⟩
 | true =>
  rw[e6] at hu;subst hu;have oM:¬o.isName c.name=false:=by rw[e6];simp
  refine aa ?_;apply K.cond<;>intro g1
  ·refine aa ?_;exact⟨by rw[bs 10 (by unfold o.head;rw[if_neg oM,if_pos (by omega)]) (by decide)],dN (Ext.refl _)⟩
  refine aa ?_;apply K.cond<;>intro g2
  ·refine aa ?_;exact⟨by rw[bs 10 (by unfold o.head;rw[if_neg oM,if_pos (by omega)]) (by decide)],dN (Ext.refl _)⟩
  refine aa ?_;apply K.cond<;>intro g3
  ·refine aa ?_;exact⟨by rw[bs 10 (by unfold o.head;rw[if_neg oM,if_pos (by omega)]) (by decide)],dN (Ext.refl _)⟩
  refine aa ?_;apply K.cond<;>intro g4
  ·refine aa ?_;exact⟨by rw[bs 10 (by unfold o.head;rw[if_neg oM,if_pos (by omega)]) (by decide)],dN (Ext.refl _)⟩
  have gW:¬(c.from_<0∨p.cz≤c.from_∨c.to<0∨p.cz≤c.to):=by omega
  refine aa ?_;apply K.cond<;>intro g5
  ·refine aa ?_;exact⟨by rw[bs 11 (by unfold o.head;rw[if_neg oM,if_neg gW,if_pos (by omega)]) (by decide)],dN (Ext.refl _)⟩
  have yM:o.ig c p.cz s=if c.guard.length > 0∧o.asked c.guard 1 s≠0 then (1,o.asked c.guard 1 s) else o.kd s c.b6 0 false:=by
   unfold o.ig;rw[if_neg];unfold o.head;rw[if_neg oM,if_neg gW,if_neg (by omega)];simp
  clear bs;refine aa ?_;apply K.cond<;>intro g6
  ·refine aa ?_;refine K.call (zw _ c.guard 1 _ s bo (a6.ext (dN (Ext.refl _))) (h.ext (dN (Ext.refl _)))) ?_;rintro _ bR ⟨rfl,bf⟩;replace al:=bf.obj al;replace bG:=bf.obj bG;have h6:∀{w'},Ext bR w'→Ext w w':=fun e=>dN (bf.trans e);refine aa ?_;apply K.cond<;>intro g7;rotate_left
   ·rw[if_pos ⟨by omega,g7⟩] at yM;refine aa ?_;exact⟨by rw[yM],h6 (Ext.refl _)⟩
   have bk:o.ig c p.cz s=o.kd s c.b6 0 false:=by rw[yM,if_neg (fun df=>df.2 (by simpa using g7))]
   refine aa ?_;refine K.da 10 c.b6.length [3,4,5] (fun b=>[(9,.bool b)]) false (fun k b w'=>Ext bR w'∧o.kd s c.b6 0 false=o.kd s (c.b6.drop k) k b) bw bw ⟨Ext.refl _,by simp⟩ ?_;rintro k b S bW hk ⟨bc,bM⟩;replace al:=bc.obj al;replace bG:=bc.obj bG;refine aa ?_;apply K.cond<;>intro g1
   ·have bb:k<c.b6.length:=by omega
    obtain⟨a,rfl⟩:=br.addr (by omega);obtain⟨cn,cr,mu,fg,pz⟩:=br.at k bb;obtain⟨_,_,rfl,_⟩:=fg.form;obtain⟨_,_,rfl,_⟩:=pz.form;rw[o.G7 bb,o.Ou] at bM;replace mu:=mu.ext (h6 (Ext.refl _));refine aa ?_;refine K.fX (.int .i64 (o.jG c.b6[k] s b)) (fun w' e=>Tr c.b6[k] b _ _ _ s w' (fg.ext (h6 (bc.trans e))) (pz.ext (h6 (bc.trans e))) (h.ext (h6 (bc.trans e)))) ?_;refine aa ?_;intro cj bP;replace al:=bP.obj al;replace bG:=bP.obj bG;refine aa ?_;apply K.cond<;>intro g2;rotate_left
    ·rw[if_pos g2] at bM;refine aa ?_;exact⟨by rw[bk,bM],h6 (bc.trans bP)⟩
    rw[if_neg (by simpa using g2)] at bM;refine aa ?_;refine K.cX (fun g3=>?_) (fun g3=>?_)
    ·subst g3;refine aa ?_;exact⟨bb,bu,true,bw,bc.trans bP,by simpa using bM⟩
    subst g3;refine aa ?_;apply K.cond<;>intro g4
    ·have aK:o.gi c.b6[k]=true:=by unfold o.gi;rw[decide_eq_true_eq];omega
     refine aa ?_;exact⟨bb,bu,true,bw,bc.trans bP,by simpa[aK] using bM⟩
    have aK:o.gi c.b6[k]=decide (c.b6[k].kind=5):=by unfold o.gi;rw[Bool.eq_iff_iff,decide_eq_true_eq,decide_eq_true_eq];omega
    rw[Bool.false_or,aK] at bM;refine aa ?_;exact⟨bb,bu,decide (c.b6[k].kind=5),bw,bc.trans bP,bM⟩
   ·rw[List.drop_eq_nil_of_le (by omega)] at bM;refine aa ?_;exact⟨by rw[bk,bM];rfl,h6 bc⟩
  ·have bk:o.ig c p.cz s=o.kd s c.b6 0 false:=by rw[yM,if_neg (fun df=>g6 (by omega))]
   refine aa ?_;refine K.da 10 c.b6.length [3,4,5] (fun b=>[(9,.bool b)]) false (fun k b w'=>Ext bo w'∧o.kd s c.b6 0 false=o.kd s (c.b6.drop k) k b) bw bw ⟨Ext.refl _,by simp⟩ ?_;rintro k b S bW hk ⟨bc,bM⟩;replace al:=bc.obj al;replace bG:=bc.obj bG;refine aa ?_;apply K.cond<;>intro g1
   ·have bb:k<c.b6.length:=by omega
    obtain⟨a,rfl⟩:=br.addr (by omega);obtain⟨cn,cr,mu,fg,pz⟩:=br.at k bb;obtain⟨_,_,rfl,_⟩:=fg.form;obtain⟨_,_,rfl,_⟩:=pz.form;rw[o.G7 bb,o.Ou] at bM;replace mu:=mu.ext (dN (Ext.refl _));refine aa ?_;refine K.fX (.int .i64 (o.jG c.b6[k] s b)) (fun w' e=>Tr c.b6[k] b _ _ _ s w' (fg.ext (dN (bc.trans e))) (pz.ext (dN (bc.trans e))) (h.ext (dN (bc.trans e)))) ?_;refine aa ?_;intro cj bP;replace al:=bP.obj al;replace bG:=bP.obj bG;refine aa ?_;apply K.cond<;>intro g2;rotate_left
    ·rw[if_pos g2] at bM;refine aa ?_;exact⟨by rw[bk,bM],dN (bc.trans bP)⟩
    rw[if_neg (by simpa using g2)] at bM;refine aa ?_;refine K.cX (fun g3=>?_) (fun g3=>?_)
    ·subst g3;refine aa ?_;exact⟨bb,bu,true,bw,bc.trans bP,by simpa using bM⟩
    subst g3;refine aa ?_;apply K.cond<;>intro g4
    ·have aK:o.gi c.b6[k]=true:=by unfold o.gi;rw[decide_eq_true_eq];omega
     refine aa ?_;exact⟨bb,bu,true,bw,bc.trans bP,by simpa[aK] using bM⟩
    have aK:o.gi c.b6[k]=decide (c.b6[k].kind=5):=by unfold o.gi;rw[Bool.eq_iff_iff,decide_eq_true_eq,decide_eq_true_eq];omega
    rw[Bool.false_or,aK] at bM;refine aa ?_;exact⟨bb,bu,decide (c.b6[k].kind=5),bw,bc.trans bP,bM⟩
   ·rw[List.drop_eq_nil_of_le (by omega)] at bM;refine aa ?_;exact⟨by rw[bk,bM];rfl,dN bc⟩
theorem aeY(p:o.dj)(CQ cs:List Value)(s:o.Scope)(w:World)(aO:o.tD w CQ p)(h:o.e2 w cs s)(a6:s.cT)(my:p.cT) :
  bq Tryz.prog F.Ci #[.agg CQ.toArray,.agg cs.toArray] w fun v w'=>v = .tuple #[.int .i64 (o.gB p s).1,.int .i64 (o.gB p s).2.1,.int .i64 (o.gB p s).2.2]∧Ext w w':=by
 obtain⟨a0,bN,dy,c1,a2,c2,a3,d3,a4,d4,rfl,aj,h1,U,ai,aL,eG,dt,dB,dT,er⟩:=h.form;obtain⟨aN,nf,oU,rfl,aU,pq⟩:=aO;obtain⟨cm,bK,rfl,fH⟩:=aU.form;obtain⟨cw,bQ,rfl,lc⟩:=pq.form;refine bI E.Ci ?_;refine bF ?_;refine aa ?_;intro w1 bz cK az al;refine aa ?_;intro aR b4 dw aA aI;replace al:=aA.obj al;have cP:∀{w'},Ext aR w'→Ext w w':=fun e=>(az.trans aA).trans e;refine aa ?_;refine K.call (zy p.name aR aN) ?_;rintro u ba ⟨hu,au⟩;replace al:=au.obj al;replace aI:=au.obj aI;have fz:∀{w'},Ext ba w'→Ext w w':=fun e=>cP (au.trans e);have bs:∀n,o.whole p s=n→n≠0→o.gB p s=(0,0,n):=fun n e aj=>by unfold o.gB;rw[e,if_pos aj]
 cases e6:o.isName p.name with
 | false =>
  rw[e6] at hu;subst hu;refine aa ?_;exact⟨by rw[bs 6 (by unfold o.whole;rw[if_pos e6]) (by decide)],fz (Ext.refl _)⟩
 | true =>
  rw[e6] at hu;subst hu;have oM:¬o.isName p.name=false:=by rw[e6];simp
  refine aa ?_;apply K.cond<;>intro g1
  ·refine aa ?_;exact⟨by rw[bs 8 (by unfold o.whole;rw[if_neg oM,if_pos (.inl g1)]) (by decide)],fz (Ext.refl _)⟩
  refine aa ?_;apply K.cond<;>intro g2
  ·refine aa ?_;exact⟨by rw[bs 8 (by unfold o.whole;rw[if_neg oM,if_pos (.inr (by omega))]) (by decide)],fz (Ext.refl _)⟩
  have mB:¬(p.over<0∨(s.scalars.length:Int)<p.over):=by omega
  refine aa ?_;apply K.cond<;>intro g3
  ·refine aa ?_;exact⟨by rw[bs 10 (by unfold o.whole;rw[if_neg oM,if_neg mB,if_pos (.inl g3)]) (by decide)],fz (Ext.refl _)⟩
  refine aa ?_;apply K.cond<;>intro g4
  ·refine aa ?_;exact⟨by rw[bs 10 (by unfold o.whole;rw[if_neg oM,if_neg mB,if_pos (.inr (by omega))]) (by decide)],fz (Ext.refl _)⟩
  have ks:¬(p.cz<1∨12<p.cz):=by omega
  refine aa ?_;apply K.cond<;>intro g5
  ·refine aa ?_;exact⟨by rw[bs 11 (by unfold o.whole;rw[if_neg oM,if_neg mB,if_neg ks,if_pos (by omega)]) (by decide)],fz (Ext.refl _)⟩
  have bk:o.gB p s=if (o.jE p s).2≠0 then (1,(o.jE p s).1,(o.jE p s).2) else o.jP (o.inner p s) p.cz p.cJ p.cJ 0:=by
   unfold o.gB;rw[if_neg];unfold o.whole;rw[if_neg oM,if_neg mB,if_neg ks,if_neg (by omega)];simp
  clear bs;refine aa ?_;refine K.call (Tz _ _ p.vars s.scalars 4 ba (aU.ext (fz (Ext.refl _))) (aj.ext (fz (Ext.refl _)))) ?_;rintro _ bo ⟨rfl,aP⟩;replace al:=aP.obj al;replace aI:=aP.obj aI;have dN:∀{w'},Ext bo w'→Ext w w':=fun e=>fz (aP.trans e);refine aa ?_;apply K.cond<;>intro g6;rotate_left
  ·have aQ:o.jE p s=o.vars p.vars s.scalars 4:=by unfold o.jE;rw[if_pos g6]
   rw[aQ,if_pos g6] at bk;refine aa ?_;exact⟨by rw[bk],dN (Ext.refl _)⟩
  have aQ:o.jE p s=o.n0 s p.vars 0:=by unfold o.jE;rw[if_neg (by simpa using g6)]
  rw[aQ] at bk;refine aa ?_;refine K.da 9 p.vars.length [2,3] (fun _:Unit=>[]) () (fun k _ w'=>Ext bo w'∧o.n0 s p.vars 0=o.n0 s (p.vars.drop k) k) bw bw ⟨Ext.refl _,by simp⟩ ?_;rintro k _ S bR hk ⟨bf,bM⟩;replace al:=bf.obj al;replace aI:=bf.obj aI;refine aa ?_;apply K.cond<;>intro g7
  ·have bb:k<p.vars.length:=by omega
   obtain⟨a,rfl⟩:=aU.addr (by omega);have eu:=((aU.at k bb).cells).ext (dN bf);rw[o.SE bb] at bM;refine aa ?_;apply K.cond<;>intro g8;rotate_left
   ·rw[if_pos g8] at bM;refine aa ?_;exact⟨by rw[bk,bM];rfl,dN bf⟩
   rw[if_neg (by simpa using g8)] at bM;refine aa ?_;refine K.da 10 s.vars.length [2,3,9] (fun _:Unit=>[]) () (fun j _ w'=>Ext bR w'∧∀t (aK:t<s.vars.length),t<j→¬s.vars[t].name=p.vars[k].name) bw bw ⟨Ext.refl _,fun _ _ h=>absurd h (Nat.not_lt_zero _)⟩ ?_;rintro j _ a1 bW aT ⟨bc,qi⟩;replace al:=bc.obj al;replace aI:=bc.obj aI;have j7:∀{w'},Ext bW w'→Ext w w':=fun e=>dN ((bf.trans bc).trans e);refine aa ?_;apply K.cond<;>intro g9
   ·have ef:j<s.vars.length:=by omega
    obtain⟨dq,rfl⟩:=h1.addr (by omega);have fR:=((h1.at j ef).cells).ext (j7 (Ext.refl _));replace eu:=eu.ext bc;refine aa ?_;intro cj bP;replace al:=bP.obj al;replace aI:=bP.obj aI;refine aa ?_;apply K.cond<;>intro g10
    ·have wc:s.vars.any (fun x=>decide (x.name=p.vars[k].name))=true:=List.any_eq_true.2 ⟨s.vars[j],List.getElem_mem _,by simpa using g10⟩;rw[if_pos wc] at bM;refine aa ?_;exact⟨by rw[bk,bM];rfl,j7 bP⟩
    ·refine aa ?_;exact⟨ef,bu,(),trivial,bc.trans bP,fun t aK h=>by
      by_cases e:t=j
      ·subst e;exact g10
      ·exact qi t aK (by omega)⟩
   ·have wc:¬s.vars.any (fun x=>decide (x.name=p.vars[k].name))=true:=by
     intro df;obtain⟨x,aw,hK⟩:=List.any_eq_true.1 df;obtain⟨t,aK,rfl⟩:=List.mem_iff_getElem.1 aw;exact qi t aK (by omega) (by simpa using hK)
    rw[if_neg wc] at bM;refine aa ?_;exact⟨bb,bu,(),trivial,bf.trans bc,bM⟩
  rw[List.drop_eq_nil_of_le (by omega)] at bM;replace bk:o.gB p s=o.jP (o.inner p s) p.cz p.cJ p.cJ 0:=by rw[bk,bM];rfl
  clear bM aQ;have fs:∀w',Ext w w'→o.e2 w' [.slice a0 s.scalars.length bN,.slice dy s.vars.length c1,.slice a2 s.aH.length c2,.slice a3 s.procs.length d3,.slice cm p.vars.length bK,.int .i64 p.over] (o.inner p s):=fun w' e =>
   ⟨(a6.inner my).o1.1,_,_,_,_,_,rfl,aj.ext e,h1.ext e,U.ext e,ai.ext e,aU.ext e,(a6.inner my).o1.2⟩
  refine aa ?_;intro bW bZ fG bc bG;replace al:=bc.obj al;replace aI:=bc.obj aI;have j7:∀{w'},Ext bW w'→Ext w w':=fun e=>dN ((bf.trans bc).trans e);refine aa ?_;refine K.da 12 p.cJ.length [2,3,11] (fun _:Unit=>[]) () (fun k _ w'=>Ext bW w'∧o.jP (o.inner p s) p.cz p.cJ p.cJ 0=o.jP (o.inner p s) p.cz p.cJ (p.cJ.drop k) k) bw bw ⟨Ext.refl _,by simp⟩ ?_;rintro k _ S cj hk ⟨bP,bM⟩;replace al:=bP.obj al;replace aI:=bP.obj aI;replace bG:=bP.obj bG;have gP:∀{w'},Ext cj w'→Ext w w':=fun e=>j7 (bP.trans e);refine aa ?_;apply K.cond<;>intro g7
  ·have bb:k<p.cJ.length:=by omega
   obtain⟨a,rfl⟩:=pq.addr (by omega);obtain⟨ay,fw,eD,hp,rr,qv⟩:=pq.at k bb;obtain⟨n3,kE,rfl,Sy⟩:=rr.form;obtain⟨bh,iN,rfl,nZ⟩:=qv.form;rw[o.OU bb] at bM;replace hp:=hp.ext (gP (Ext.refl _));refine aa ?_;refine K.fX (.tuple #[.int .i64 (o.ig p.cJ[k] p.cz (o.inner p s)).1,.int .i64 (o.ig p.cJ[k] p.cz (o.inner p s)).2]) (fun w' e=>aeq p.cJ[k] _ _ p _ _ _ (o.inner p s) w' ay (rr.ext (gP e)) (qv.ext (gP e)) (aU.ext (gP e)) (pq.ext (gP e)) (fs _ (gP e))) ?_;refine aa ?_;intro dC bV;replace al:=bV.obj al;replace aI:=bV.obj aI;replace bG:=bV.obj bG;replace hp:=hp.ext bV;have jK:∀{w'},Ext dC w'→Ext w w':=fun e=>gP (bV.trans e);refine aa ?_;apply K.cond<;>intro g8;rotate_left
   ·rw[if_pos g8] at bM;refine aa ?_;exact⟨by rw[bk,bM],jK (Ext.refl _)⟩
   rw[if_neg (by simpa using g8)] at bM;refine aa ?_;refine K.da 15 k [2,3,11,12] (fun _:Unit=>[]) () (fun j _ w'=>Ext dC w'∧∀t (aK:t<p.cJ.length),t<j→¬p.cJ[t].name=p.cJ[k].name) bw bw ⟨Ext.refl _,fun _ _ h=>absurd h (Nat.not_lt_zero _)⟩ ?_;rintro j _ a1 ez aT ⟨cp,qi⟩;replace al:=cp.obj al;replace aI:=cp.obj aI;replace bG:=cp.obj bG;have j8:∀{w'},Ext ez w'→Ext w w':=fun e=>jK (cp.trans e);refine aa ?_;apply K.cond<;>intro g9
   ·have ef:j<p.cJ.length:=by omega
    obtain⟨_,ajt,Gt,QH,_,_⟩:=pq.at j ef;replace QH:=QH.ext (j8 (Ext.refl _));replace hp:=hp.ext cp;refine aa ?_;intro eX dI;replace al:=dI.obj al;replace aI:=dI.obj aI;replace bG:=dI.obj bG;refine aa ?_;apply K.cond<;>intro g10
    ·have wc:(p.cJ.take k).any (fun x=>decide (x.name=p.cJ[k].name))=true:=List.any_eq_true.2 ⟨p.cJ[j],by rw[List.mem_iff_getElem];exact⟨j,by simp;omega,by simp⟩,by simpa using g10⟩;rw[if_pos wc] at bM;refine aa ?_;exact⟨by rw[bk,bM],j8 dI⟩
    ·refine aa ?_;exact⟨by omega,bu,(),trivial,cp.trans dI,fun t aK h=>by
      by_cases e:t=j
      ·subst e;exact g10
      ·exact qi t aK (by omega)⟩
   ·have wc:¬(p.cJ.take k).any (fun x=>decide (x.name=p.cJ[k].name))=true:=by
     intro df;obtain⟨x,aw,hK⟩:=List.any_eq_true.1 df;obtain⟨t,aK,rfl⟩:=List.mem_iff_getElem.1 aw;have aa7:t<k∧t<p.cJ.length:=by simp at aK;omega
     exact qi t aa7.2 (by omega) (by simpa using hK)
    rw[if_neg wc] at bM;refine aa ?_;exact⟨bb,bu,(),trivial,(bP.trans bV).trans cp,bM⟩
  ·rw[List.drop_eq_nil_of_le (by omega)] at bM;refine aa ?_;exact⟨by rw[bk,bM];rfl,gP (Ext.refl _)⟩
theorem aeC(cs:List Value)(m:o.Model)(k:Nat)(w:World)(h:o.ew w cs m)(a6:m.cT)(hk:k<m.procs.length)(Bs:k≤6)(E5:m.scalars.length≤2∧m.vars.length≤12∧m.aH.length≤4)(aaJ:k<6→∀j,j<k→(o.gS m j).1=0) :
  bq Tryz.prog F.Cq #[.agg cs.toArray,.int .i64 k] w fun v w'=>v=ui (if (o.gS m k).1≠0 then ⟨(o.gS m k).1,4,k,(o.gS m k).2⟩ else o.q8)∧Ext w w':=by
 have bd:=h;obtain⟨cv,bN,b9,c1,cq,c2,cm,bK,cw,bQ,rfl,aj,h1,U,ai,aL,eG,dt,dB,dT,er⟩:=h.form;have dJ:=o.HQ hk;refine bI E.Cq ?_;refine bF ?_;refine aa ?_;intro w1 bz cK az al;refine aa ?_;intro aR b4 dw aA aI;replace al:=aA.obj al;have bg:=az.trans aA;have fy:=cL al;have z2:=az.size;refine aa ?_;apply K.cond<;>intro g1
 ·rw[if_pos (by omega)] at dJ;refine aa ?_;intro ba eV bG;refine aa ?_;exact⟨by rw[dJ];rfl,eV.ext bg (by omega)⟩
 rw[if_neg (by omega)] at dJ;obtain⟨a,rfl⟩:=ai.addr (by omega);obtain⟨nR,cr,dL,aO,eJ,en⟩:=ai.at k hk;obtain⟨eP,ff,rfl,fH⟩:=eJ.form;obtain⟨n2,jO,rfl,lc⟩:=en.form;have my:=a6.proc _ (List.getElem_mem hk);replace aO:=aO.ext bg;refine aa ?_;intro ba dz lV au cx;replace al:=au.obj al;replace aI:=au.obj aI;refine aa ?_;intro bo aP;replace al:=aP.obj al;replace aI:=aP.obj aI;replace cx:=aP.obj cx;have b8:=(bg.trans au).trans aP;refine aa ?_;refine K.call (aeG (w0:=w) _ m k bo bd b8 a6) ?_;rintro _ bR ⟨⟨ag6,rfl,jU⟩,bf⟩;refine⟨bf,?_⟩;have ca:=b8.trans bf;obtain⟨jJ,Dv,lC,nm,lD,mG,ma,zO,lE,xt,rfl,_⟩:=(jU _ ca).form;refine aa ?_;refine K.call (aeY m.procs[k] _ _ (o.gq m k) bR ⟨nR,_,_,rfl,eJ.ext ca,en.ext ca⟩ (jU _ ca) (a6.gq _) my) ?_;rintro _ bW ⟨rfl,bc⟩;replace al:=(bf.trans bc).obj al;replace aI:=(bf.trans bc).obj aI;replace cx:=(bf.trans bc).obj cx;have c0:=ca.trans bc;clear bg b8 aO;have fs:=o.Te m.procs[k] (o.gq m k) 140737488351232 fun c av=>by have:=(my.cmd c av).b6;unfold o.dZ at this;omega
 have abd:m.procs[k].vars.length≤140737488351232:=by have:=my.vars;unfold o.dZ at this;omega
 have mr:m.procs[k].cJ.length≤140737488351232:=by have:=my.cJ;unfold o.dZ at this;omega
 refine aa ?_;apply K.cond<;>intro g2;rotate_left
 ·rw[if_pos g2] at dJ;refine aa ?_;intro cj eo c5;refine aa ?_;exact⟨by rw[dJ,if_pos g2];rfl,eo.ext c0 (by omega)⟩
 rw[if_neg (by simpa using g2)] at dJ;have hlen:∀(i:Int),m.scalars.length+o.cC 1 4 i m.vars.length+o.cC 2 4 i m.aH.length+o.cC 3 4 k m.procs.length+o.gE 4 i m.props.length≤8000000000000:=fun i=>by
  have eb:=o.tn 1 4 i m.vars.length;have dY:=o.tn 2 4 i m.aH.length;have eg:o.cC 3 4 k m.procs.length≤k:=by unfold o.cC; (repeat' split)<;>omega
  have gr:o.gE 4 i m.props.length=0:=by unfold o.gE;rw[if_neg (by decide)]
  omega
 refine aa ?_;intro cj bP;replace al:=bP.obj al;replace aI:=bP.obj aI;replace cx:=bP.obj cx;have ee:=c0.trans bP;refine aa ?_;refine K.call (An _ m 4 k cj (bd.ext ee) (by omega) (by omega) (hlen k)) ?_;rintro _ dC ⟨⟨v,rfl,fB⟩,bV⟩;refine⟨bV,?_⟩;rw[o.VJ] at fB;replace al:=bV.obj al;replace aI:=bV.obj aI;replace cx:=bV.obj cx;have fq:=ee.trans bV;refine aa ?_;refine K.call (A8 v _ m.procs[k].name _ dC fB) ?_;rintro _ l9 ⟨rfl,rfl⟩;refine aa ?_;apply K.cond<;>intro g3
 ·rw[if_pos g3] at dJ;refine aa ?_;intro ez ln dP;refine aa ?_;exact⟨by rw[dJ];rfl,ln.ext fq (by omega)⟩
 rw[if_neg g3] at dJ;have qt:m.procs.length*80≤140737488355328:=by have:=a6.procs;unfold o.dZ at this;omega
 have Bx:m.scalars.length+o.cC 1 5 (0:Nat) m.vars.length+o.cC 2 5 (0:Nat) m.aH.length+o.cC 3 5 (0:Nat) m.procs.length+o.gE 5 (0:Nat) m.props.length≤8000000000000:=by
  have eb:=o.tn 1 5 (0:Nat) m.vars.length;have dY:=o.tn 2 5 (0:Nat) m.aH.length;have eg:=o.tn 3 5 (0:Nat) m.procs.length;have gr:o.gE 5 (0:Nat) m.props.length=0:=by unfold o.gE;rw[if_pos (by decide)];simp
  omega
 have uu:=al;have wg:=aI;have Qu:=cx;clear al aI cx fB;have al:=uu;have cx:=Qu;refine aa ?_;refine K.da 9 m.procs[k].vars.length [1,2,4,5] (fun _:Unit=>[]) () (fun j _ w'=>Ext l9 w'∧∀i,i<j→o.oC m m.procs[k] i=0) bw bw ⟨Ext.refl _,fun j h=>absurd h (Nat.not_lt_zero _)⟩ ?_;clear al cx;rintro j _ S ez aT ⟨cp,bU⟩;have al:=cp.obj uu;have aI:=cp.obj wg;have cx:=cp.obj Qu;have lT:=fq.trans cp;refine aa ?_;apply K.cond<;>intro g4
 ·have ef:j<m.procs[k].vars.length:=by omega
  obtain⟨dq,rfl⟩:=eJ.addr (by omega);have eu:=((eJ.at j ef).cells).ext lT;have e6:=o.zl (f:=fun x:o.Var=>x.name) ef;refine aa ?_;intro eX dI;replace al:=dI.obj al;replace aI:=dI.obj aI;replace cx:=dI.obj cx;replace eu:=eu.ext dI;have jR:=lT.trans dI;refine aa ?_;refine K.call (An _ m 5 (0:Nat) eX (bd.ext jR) (by omega) (by omega) Bx) ?_;rintro _ hh ⟨⟨v2,rfl,BH⟩,hr⟩;refine⟨hr,?_⟩;rw[o.Oz] at BH;replace al:=hr.obj al;replace aI:=hr.obj aI;replace cx:=hr.obj cx;have q4:=jR.trans hr;refine aa ?_;refine K.call (A8 v2 _ m.procs[k].vars[j].name _ hh BH) ?_;rintro _ xq ⟨rfl,rfl⟩;have c8:o.pI m 0=o.hy m m.procs.length:=by simp[o.pI]
  rw[c8];refine aa ?_;apply K.cond<;>intro g5
  ·have sw:o.oC m m.procs[k] j=7:=by unfold o.oC;rw[e6,if_pos g5]
   rw[o.hG ef bU (by rw[sw];decide),sw,if_pos (show(7:Int)≠0 by decide)] at dJ;refine aa ?_;intro lB nb uq;refine aa ?_;exact⟨by rw[dJ];rfl,nb.ext q4 (by omega)⟩
  ·refine aa ?_;refine⟨ef,bu,(),trivial,(cp.trans dI).trans hr,fun i ad=>?_⟩;by_cases Fj:i=j
   ·subst Fj;unfold o.oC;rw[e6,if_neg g5]
   ·exact bU i (by omega)
 ·rw[o.mV fun i ad=>bU i (by omega),if_neg (by simp)] at dJ;refine aa ?_;intro eX kQ sq;refine aa ?_;exact⟨by rw[dJ];rfl,kQ.ext lT (by omega)⟩
theorem aeD(cs:List Value)(m:o.Model)(k:Nat)(w:World)(h:o.ew w cs m)(a6:m.cT)(hk:k<m.props.length)(Q7:k≤8)(E5:m.scalars.length≤2∧m.vars.length≤12∧m.aH.length≤4)(aaJ:m.procs.length≤6) :
  bq Tryz.prog F.Cr #[.agg cs.toArray,.int .i64 k] w fun v w'=>v = .int .i64 (o.k6 m k)∧Ext w w':=by
 have bd:=h;obtain⟨cv,bN,b9,c1,cq,c2,cm,bK,cw,bQ,rfl,aj,h1,U,ai,aL,eG,dt,dB,dT,er⟩:=h.form;have dJ:=o.Pz hk;refine bI E.Cr ?_;refine bF ?_;refine aa ?_;intro w1 bz cK az al;refine aa ?_;apply K.cond<;>intro g1
 ·rw[if_pos (by omega)] at dJ;refine aa ?_;exact⟨by rw[dJ],az⟩
 rw[if_neg (by omega)] at dJ;obtain⟨a,rfl⟩:=aL.addr (by omega);obtain⟨nR,hg,aO,il⟩:=aL.at k hk;obtain⟨S0,ce,rfl,le⟩:=il.form;replace aO:=aO.ext az;refine aa ?_;intro aR dz lV aA cx;replace al:=aA.obj al;have bg:=az.trans aA;refine aa ?_;refine K.call (zy m.props[k].name aR nR) ?_;rintro _ ba ⟨rfl,au⟩;replace al:=au.obj al;replace cx:=au.obj cx;have bO:=bg.trans au;refine aa ?_;refine K.cX (fun g2=>?_) (fun g2=>?_);rotate_left
 ·rw[if_pos g2] at dJ;refine aa ?_;exact⟨by rw[dJ],bO⟩
 rw[if_neg (by rw[g2];decide)] at dJ;refine aa ?_;intro bo aP;replace al:=aP.obj al;replace cx:=aP.obj cx;have b8:=bO.trans aP;refine aa ?_;refine K.call (An _ m 5 k bo (bd.ext b8) (by omega) (by omega) (by
  have eb:=o.tn 1 5 k m.vars.length;have dY:=o.tn 2 5 k m.aH.length;have eg:=o.tn 3 5 k m.procs.length;have gr:o.gE 5 k m.props.length≤k:=by unfold o.gE; (repeat' split)<;>omega
  omega)) ?_
 rintro _ bR ⟨⟨v2,rfl,BH⟩,bf⟩;refine⟨bf,?_⟩;rw[o.Oz] at BH;replace al:=bf.obj al;replace cx:=bf.obj cx;have ca:=b8.trans bf;refine aa ?_;refine K.call (A8 v2 _ m.props[k].name _ bR BH) ?_;rintro _ xq ⟨rfl,rfl⟩;refine aa ?_;apply K.cond<;>intro g3
 ·rw[if_pos g3] at dJ;refine aa ?_;exact⟨by rw[dJ],ca⟩
 rw[if_neg g3] at dJ;have jU:∀w',Ext w w'→o.e2 w' [.slice cv m.scalars.length bN,.slice b9 m.vars.length c1,.slice cq m.aH.length c2,.slice cm m.procs.length bK,.slice none 0 0,.int .i64 0] (o.fI m):=fun w' e =>
  ⟨a6.scope.o1.1,_,_,_,_,_,rfl,aj.ext e,h1.ext e,U.ext e,ai.ext e,bB.nil,a6.scope.o1.2⟩
 refine aa ?_;refine K.call (Tx _ m.props[k].expr _ (o.fI m) _ (il.ext ca) (jU _ ca)) ?_;rintro _ bW ⟨rfl,bc⟩;refine aa ?_;apply K.cond<;>intro g4;rotate_left
 ·rw[if_pos g4] at dJ;refine aa ?_;exact⟨by rw[dJ],ca.trans bc⟩
 rw[if_neg (by simpa using g4)] at dJ;refine aa ?_;apply K.cond<;>intro g5;rotate_left
 ·rw[if_pos g5] at dJ;refine aa ?_;exact⟨by rw[dJ],ca.trans bc⟩
 rw[if_neg (by simpa using g5)] at dJ;refine aa ?_;exact⟨by rw[dJ],ca.trans bc⟩
theorem Kx(cs:List Value)(m:o.Model)(w:World)(h:o.ew w cs m)(a6:m.cT) :
  bq Tryz.prog F.wW #[.agg cs.toArray] w fun v w'=>v=ui (o.check m)∧Ext w w':=by
 have bd:=h;obtain⟨cv,bN,b9,c1,cq,c2,cm,bK,cw,bQ,rfl,aj,h1,U,ai,aL,eG,dt,dB,dT,er⟩:=h.form;refine bI E.wW ?_;refine bF ?_;simp -dsimp only[cu];refine ei ?_;intro w1 bz cK az al;refine ei ?_;intro aR b4 dw aA aI;replace al:=aA.obj al;have bg:=az.trans aA;have fy:=cL al;have z2:=cL aI;have z3:=az.size;refine ei ?_;simp -dsimp only[cu];refine ei ?_;refine K.call (aex _ m aR (bd.ext bg)) ?_;rintro _ ba ⟨rfl,au⟩;replace al:=au.obj al;replace aI:=au.obj aI;unfold ui;have z4:=aA.size;have z5:=au.size;refine ei ?_;intro bo bZ fG aP bG;replace al:=aP.obj al;replace aI:=aP.obj aI;have b8:=(bg.trans au).trans aP;have Dz:=cL bG;have uu:=al;have wg:=aI;have ahl:=bd.ext b8;refine ei ?_;refine K.hE [1,2,3] (fun _:o.pW=>[]) (fun f w'=>Mod (fun i=>i=bZ) bo w'∧w'.heap[bZ]? = some (.cells #[.int .i64 f.dh,.int .i64 f.part,.int .i64 f.item,.int .i64 f.sub] T.t) ∧
  ((f.dh≠0∧f=o.check m)∨(f.dh=0∧(o.data m).dh=0∧∀j,j<m.procs.length→(o.gS m j).1=0))) ?_ ?_
 ·refine aa ?_;refine K.da 4 m.procs.length [1,2,3] (fun _:o.pW=>[]) (o.data m) (fun k f w'=>Mod (fun i=>i=bZ) bo w'∧w'.heap[bZ]? = some (.cells #[.int .i64 f.dh,.int .i64 f.part,.int .i64 f.item,.int .i64 f.sub] T.t) ∧
   ((f=o.data m∧(o.data m).dh≠0)∨((o.data m).dh=0∧f.dh=0∧∀j,j<k→(o.gS m j).1=0)∨((o.data m).dh=0∧f=o.lv m∧(o.lv m).dh≠0))) bw bw ⟨Mod.refl _ _,bG,by
     by_cases h:(o.data m).dh=0
     ·exact .inr (.inl ⟨h,h,fun j h=>absurd h (Nat.not_lt_zero _)⟩)
     ·exact .inl ⟨rfl,h⟩⟩ ?_
  clear al aI bG;rintro k f S bR hk ⟨m5,bG,aJ⟩;have al:=m5.obj (by omega) uu;have aI:=m5.obj (by omega) wg;have ca:=m5.ext b8 (fun i ad e=>by omega);have PK:f.dh≠0→(f.dh≠0∧f=o.check m):=fun hw=>⟨hw,by
   rcases aJ with ⟨rfl,h⟩ | ⟨_,h,_⟩ | ⟨h1,rfl,U⟩
   ·rw[o.check,if_pos h]
   ·exact absurd h hw
   ·rw[o.check,if_neg (by simpa using h1),if_pos U]⟩
  refine aa ?_;apply K.cond<;>intro g1
  ·have bb:k<m.procs.length:=by omega
   refine aa ?_;apply K.cond<;>intro g2
   ·have mY:(o.data m).dh=0∧f.dh=0∧∀j,j<k→(o.gS m j).1=0:=by
     rcases aJ with ⟨rfl,h⟩ | h | ⟨h1,rfl,U⟩
     ·exact absurd g2 h
     ·exact h
     ·exact absurd g2 U
    have Bs:k≤6:=by
     apply Classical.byContradiction;intro aN
     have:=o.EG (m:=m) (i:=6) (by omega) (mY.2.2 6 (by omega))
     omega
    refine aa ?_;refine K.call (aeC _ m k bR (bd.ext ca) a6 bb Bs (o.EA mY.1) fun _=>mY.2.2) ?_;rintro _ bW ⟨rfl,bc⟩;unfold ui;replace al:=bc.obj al;replace aI:=bc.obj aI;replace bG:=bc.obj bG;refine aa ?_;intro cj eo c5;refine aa ?_;refine⟨bb,bu,_,trivial,(m5.trans bc.mod).trans (eo.mod rfl),c5,?_⟩;by_cases aj:(o.gS m k).1=0
    ·rw[if_neg (by simpa using aj)];refine .inr (.inl ⟨mY.1,rfl,fun j aT=>?_⟩);by_cases hs:j=k
     ·subst hs;exact aj
     ·exact mY.2.2 j (by omega)
    ·rw[if_pos aj]
     have:=o.CU bb mY.2.2 aj
     exact .inr (.inr ⟨mY.1,this.symm,by rw[this];exact aj⟩)
   ·refine aa ?_;exact⟨f,trivial,m5,bG,.inl (PK g2)⟩
  ·refine aa ?_;refine⟨f,trivial,m5,bG,?_⟩;by_cases hw:f.dh=0
   ·refine .inr ?_;rcases aJ with ⟨rfl,h⟩ | ⟨h1,U,ai⟩ | ⟨h1,rfl,U⟩
    ·exact absurd hw h
    ·exact⟨U,h1,fun j aT=>ai j (by omega)⟩
    ·exact absurd hw U
   ·exact .inl (PK hw)
 clear al aI bG;rintro f S bR ⟨m5,bG,aJ⟩;have al:=m5.obj (by omega) uu;have aI:=m5.obj (by omega) wg;have ca:=m5.ext b8 (fun i ad e=>by omega);refine aa ?_;apply K.cond<;>intro g1;rotate_left
 ·have kJ:f=o.check m:=by
   rcases aJ with ⟨_,h⟩ | ⟨h,_⟩
   ·exact h
   ·exact absurd h g1
  refine aa ?_;intro bW gd dm;refine aa ?_;exact⟨by rw[kJ],gd.ext ca (by omega)⟩
 have dd:(o.data m).dh=0∧∀j,j<m.procs.length→(o.gS m j).1=0:=by
  rcases aJ with ⟨h,_⟩ | ⟨_,h⟩
  ·exact absurd g1 h
  ·exact h
 obtain⟨bs,v8⟩:=dd;have E5:=o.EA bs;have qt:m.procs.length≤6:=by
  apply Classical.byContradiction;intro aN
  have:=o.EG (i:=6) (by omega) (v8 6 (by omega))
  omega
 have sx:o.rV m:=⟨by omega,by omega,by omega,fun p aO=>by
  obtain⟨j,aT,rfl⟩:=List.mem_iff_getElem.1 aO
  have:=o.Ki (o.EH aT (v8 j aT)).2.1
  omega⟩
 have oN:=o.Kj v8;have kJ:o.check m=if (o.lv m).dh≠0 then o.lv m else o.oa m:=by rw[o.check,if_neg (by simpa using bs)]
 clear bG;refine aa ?_;refine K.call (aeB _ m bR (bd.ext ca) sx) ?_;rintro _ bW ⟨rfl,bc⟩;replace al:=bc.obj al;replace aI:=bc.obj aI;have c0:=ca.trans bc;refine aa ?_;apply K.cond<;>intro g2
 ·rw[if_pos (.inl (by omega))] at oN;rw[oN,if_pos (show(11:Int)≠0 by decide)] at kJ;refine aa ?_;intro cj eo c5;refine aa ?_;exact⟨by rw[kJ];rfl,eo.ext c0 (by omega)⟩
 refine aa ?_;apply K.cond<;>intro g3
 ·rw[if_pos (.inr (by omega))] at oN;rw[oN,if_pos (show(11:Int)≠0 by decide)] at kJ;refine aa ?_;intro cj eo c5;refine aa ?_;exact⟨by rw[kJ];rfl,eo.ext c0 (by omega)⟩
 rw[if_neg (by omega)] at oN;rw[oN,if_neg (by simp[o.q8])] at kJ;have Zp:=al;have Zu:=aI;refine aa ?_;refine K.da 8 m.props.length [1,2] (fun _:Unit=>[]) () (fun k _ w'=>Ext bW w'∧∀j,j<k→o.k6 m j=0) bw bw ⟨Ext.refl _,fun j h=>absurd h (Nat.not_lt_zero _)⟩ ?_;clear al aI;rintro k _ lN cj hk ⟨bP,bU⟩;have al:=bP.obj Zp;have aI:=bP.obj Zu;have ee:=c0.trans bP;refine aa ?_;apply K.cond<;>intro g4
 ·have bb:k<m.props.length:=by omega
  have Q7:k≤8:=by
   apply Classical.byContradiction;intro aN
   have:=o.XV (m:=m) (i:=8) (by omega) (bU 8 (by omega))
   omega
  refine aa ?_;refine K.call (aeD _ m k cj (bd.ext ee) a6 bb Q7 E5 qt) ?_;rintro _ dC ⟨rfl,bV⟩;replace al:=bV.obj al;replace aI:=bV.obj aI;refine aa ?_;apply K.cond<;>intro g5;rotate_left
  ·rw[o.Tg bb bU g5] at kJ;refine aa ?_;intro ez ln dP;refine aa ?_;exact⟨by rw[kJ];rfl,ln.ext (ee.trans bV) (by omega)⟩
  ·refine aa ?_;refine⟨bb,bu,(),trivial,bP.trans bV,fun j aT=>?_⟩;by_cases hs:j=k
   ·subst hs;simpa using g5
   ·exact bU j (by omega)
 ·rw[o.Kk fun j aT=>bU j (by omega)] at kJ;refine aa ?_;intro dC kp eL;refine aa ?_;exact⟨by rw[kJ];rfl,kp.ext ee (by omega)⟩
end Go.Proofs.R
end
section
namespace bt
open Go Go.RowKit
def rJ(l:List ByteArray):List (ByteArray×Value):=l.map fun x=>(x,.bool true)
theorem afk(l:List ByteArray)(x:ByteArray):((rJ l).find? (fun p=>decide (x=p.1))).map (·.2)=if x∈l then some (.bool true) else none:=by
 induction l with
 | nil=>rfl
 | cons y l gf =>
  simp only[rJ,List.map_cons,List.find?_cons,List.mem_cons];by_cases h:x=y
  ·simp[h]
  ·simp only[h,decide_false,false_or];exact gf
structure xF(es:Array MapEntry)(c:Nat)(L:List ByteArray):Prop where
 wL:∃l,gQ Value.string es.toList (rJ l)∧∀x,x∈l↔x∈L
 born:∀e∈es.toList,e.born<c
 nodup:(es.toList.map (·.born)).Nodup
theorem gQ.mem{l:List ByteArray}:∀{es:List MapEntry},gQ Value.string es (rJ l)→∀e∈es,∃x∈l,e.key = .string x∧e.val = .bool true:=by
 induction l with
 | nil=>intro es h e he;cases es with | nil=>cases he | cons _ _=>simp[gQ,rJ] at h
 | cons y l gf =>
  intro es h e he;cases es with
  | nil=>cases he
  | cons f es =>
   simp only[gQ,rJ,List.map_cons,List.cons.injEq,Prod.mk.injEq] at h;rcases List.mem_cons.1 he with rfl | he
   ·exact⟨y,by simp,h.1.1,h.1.2⟩
   ·obtain⟨x,aw,U⟩:=gf (es:=es) h.2 e he;exact⟨x,by simp[aw],U⟩
theorem gQ.Ka{l:List ByteArray}:∀{es:List MapEntry},gQ Value.string es (rJ l)→∀x∈l,∃e∈es,e.key = .string x:=by
 induction l with
 | nil=>intro es h x aw;cases aw
 | cons y l gf =>
  intro es h x aw;cases es with
  | nil=>simp[gQ,rJ] at h
  | cons f es =>
   simp only[gQ,rJ,List.map_cons,List.cons.injEq,Prod.mk.injEq] at h;rcases List.mem_cons.1 aw with rfl | aw
   ·exact⟨f,by simp,h.1.1⟩
   ·obtain⟨e,he,U⟩:=gf (es:=es) h.2 x aw;exact⟨e,by simp[he],U⟩
theorem xF.mem{es:Array MapEntry}{c:Nat}{L:List ByteArray}(h:xF es c L):∀e∈es.toList,∃x∈L,e.key = .string x∧e.val = .bool true:=fun e he=>by
 obtain⟨l,h1,U⟩:=h.wL;obtain⟨x,aw,ai⟩:=h1.mem e he;exact⟨x,(U x).1 aw,ai⟩
theorem xF.Ka{es:Array MapEntry}{c:Nat}{L:List ByteArray}(h:xF es c L):∀x∈L,∃e∈es.toList,e.key = .string x:=fun x aw=>by
 obtain⟨l,h1,U⟩:=h.wL;exact h1.Ka x ((U x).2 aw)
theorem H0{d:TypeDesc}{k:Value}:∀{es:List MapEntry} {i j:Nat} {v:Value},Instr.findNow d k es i=some (some (j,v))→i≤j∧∃e,es[j - i]? = some e∧Instr.sameNow d k e.key=some true
 | [],i,j,v,h=>by simp[Instr.findNow] at h
 | e :: es,i,j,v,h=>by
  unfold Instr.findNow at h;split at h
  ·rename_i ay;injection h with h;injection h with h;injection h with h1 U
   subst h1;exact⟨Nat.le_refl _,e,by simp,ay⟩
  ·obtain⟨h1,e',U,ai⟩:=H0 h;refine⟨by omega,e',?_,ai⟩;rw[show j - i=(j - (i+1))+1 from by omega,List.getElem?_cons_succ];exact U
  ·cases h
theorem acO{es:Array MapEntry}{j:Nat}{e:MapEntry}{f:MapEntry→MapEntry}(aT:es[j]? = some e)(aJ:f e=e):es.modify j f=es:=by
 apply Array.ext_getElem?;intro i;rw[Array.getElem?_modify];by_cases h:j=i
 ·subst h;rw[if_pos rfl,aT,Option.map_some,aJ]
 ·rw[if_neg h]
def e3(w:World)(b:Nat)(L:List ByteArray):Prop := ∃es c,w.heap[b]? = some (.map es c)∧xF es c L
theorem e3.of{w w':World}{b:Nat}{L:List ByteArray}(h:e3 w b L)(e:w'.heap[b]? = w.heap[b]?):e3 w' b L:=let ⟨es,c,h1,U⟩:=h; ⟨es,c,e.trans h1,U⟩
theorem e3.lt{w:World}{b:Nat}{L:List ByteArray}(h:e3 w b L):b<w.heap.size:=let ⟨_,_,h1,_⟩:=h;cL h1
theorem e3.ext{w w':World}{b:Nat}{L:List ByteArray}(h:e3 w b L)(e:Ext w w'):e3 w' b L:=h.of (e.heap h.lt)
theorem e3.wr{w w':World}{b k:Nat}{L:List ByteArray}(h:e3 w b L)(e:dH k w w')(hk:b≠k):e3 w' b L:=h.of (e.block b hk)
theorem e3.hA{w:World}{b:Nat}{L vh:List ByteArray}(h:e3 w b L)(e:∀x,x∈L↔x∈vh):e3 w b vh:=by
 obtain⟨es,c,h1,⟨⟨l,U,ai⟩,aL,bn⟩⟩:=h;exact⟨es,c,h1,⟨⟨l,U,fun x=>(ai x).trans (e x)⟩,aL,bn⟩⟩
theorem e3.empty{w:World}{b:Nat}(h:w.heap[b]? = some (.map #[] 0)):e3 w b []:=⟨_,_,h,⟨⟨[],rfl,fun _=>Iff.rfl⟩,fun e he=>by simp at he,by simp⟩⟩
theorem e3.look{w:World}{b:Nat}{L:List ByteArray}(h:e3 w b L)(x:ByteArray):∃es r,o8 w (.map (some b)) es∧Instr.findNow .string (.string x) es.toList 0=some r∧kU (.bool false) false r = .bool (decide (x∈L)):=by
 obtain⟨es,c,h1,⟨⟨l,U,ai⟩,_,_⟩⟩:=h;obtain⟨r,na,im⟩:=vS F8 x es.toList _ 0 U;rw[afk] at im;refine⟨es,r,.inr ⟨b,c,rfl,h1⟩,na,?_⟩;by_cases aw:x∈L
 ·rw[if_pos ((ai x).2 aw)] at im;simp[kU,im,aw]
 ·rw[if_neg (fun h=>aw ((ai x).1 h))] at im;simp[kU,im,aw]
theorem e3.put{w:World}{b:Nat}{L:List ByteArray}(h:e3 w b L)(x:ByteArray):∃es c q,w.heap[b]? = some (.map es c)∧Instr.findNow .string (.string x) es.toList 0=some q ∧
  ∀w':World,w'.heap[b]? = some (pG es c (.string x) (.bool true) q)→e3 w' b (L++[x]):=by
 obtain⟨es,c,h1,hm⟩:=h;obtain⟨l,U,ai⟩:=hm.wL;obtain⟨r,na,im⟩:=vS F8 x es.toList _ 0 U;refine⟨es,c,r,h1,na,fun w' hw=>?_⟩;cases r with
 | none =>
  refine⟨_,_,hw,⟨⟨l++[x],?_,fun y=>?_⟩,?_,?_⟩⟩
  ·have:=gQ.push U x (.bool true) c
   simpa[rJ] using this
  ·simp[ai y]
  ·intro e he;simp only[Array.toList_push,List.mem_append,List.mem_singleton] at he;rcases he with he | rfl
   ·have:=hm.born e he;omega
   ·show c<c+1;omega
  ·simp only[Array.toList_push,List.map_append,List.map_cons,List.map_nil];rw[List.nodup_append];refine⟨hm.nodup,by simp,fun a br mS A9=>?_⟩;obtain⟨e,he,rfl⟩:=List.mem_map.1 br;simp only[List.mem_singleton] at A9
   have:=hm.born e he
   omega
 | some JL =>
  obtain⟨j,v⟩:=JL;obtain⟨_,e,he,ay⟩:=H0 na;have uF:e∈es.toList:=List.mem_of_getElem? he;obtain⟨y,cB,hk,aU⟩:=hm.mem e uF;have abp:x=y:=by rw[hk,F8] at ay;simpa using ay
  subst abp;have aa2:es.modify j (fun e=>{ e with key:=.string x,val:=.bool true })=es:=acO (e:=e) (by simpa using he) (by cases e;simp only at hk aU;subst hk aU;rfl);have oQ:w'.heap[b]? = some (.map es c):=by rw[hw];show some (Obj.map (es.modify j _) c)=_;rw[aa2]
  exact⟨es,c,oQ,⟨⟨l,U,fun z=>by rw[ai z];simp;rintro rfl;exact cB⟩,hm.born,hm.nodup⟩⟩
def lJ(w:World)(r b:Nat)(L D:List ByteArray)(n:Nat)(cur:Option ByteArray):Prop :=
 ∃es c since seen bN,w.heap[b]? = some (.map es c)∧xF es c L∧w.heap[r]? = some (.mapIter (some b) since seen bN)∧(∀x∈es.toList,x.born<since)∧since≤bN∧since≤c∧(leftOf es seen).size=n ∧
  (∀e∈es.toList,seen.contains e.born=true→∃x∈D,e.key = .string x)∧(∀x∈D,x∈L)∧(∀x,cur=some x→∃(KK:Array Nat) (e:MapEntry),bN=c∧seen=KK.push e.born∧e∈es.toList∧e.key = .string x∧e.val = .bool true)
theorem lJ.of{w w':World}{r b:Nat}{L D:List ByteArray}{n:Nat}{cur:Option ByteArray}(h:lJ w r b L D n cur)(bT:w'.heap[b]? = w.heap[b]?)(bg:w'.heap[r]? = w.heap[r]?):lJ w' r b L D n cur :=
 let ⟨es,c,since,seen,bN,h1,U,ai,aL⟩:=h; ⟨es,c,since,seen,bN,bT.trans h1,U,bg.trans ai,aL⟩
theorem lJ.sub{w:World}{r b:Nat}{L D:List ByteArray}{n:Nat}{cur:Option ByteArray}(h:lJ w r b L D n cur):∀x∈D,x∈L:=let ⟨_,_,_,_,_,_,_,_,_,_,_,_,_,U,_⟩:=h;U
theorem lJ.ne{w:World}{r b:Nat}{L D:List ByteArray}{n:Nat}{cur:Option ByteArray}(h:lJ w r b L D n cur):r≠b:=by
 obtain⟨es,c,since,seen,bN,h1,U,ai,aL⟩:=h;intro e;rw[e,h1] at ai;cases ai
theorem lJ.lt{w:World}{r b:Nat}{L D:List ByteArray}{n:Nat}{cur:Option ByteArray}(h:lJ w r b L D n cur):r<w.heap.size:=by
 obtain⟨es,c,since,seen,bN,h1,U,ai,aL⟩:=h;exact cL ai
theorem lJ.wr{w w':World}{r b k:Nat}{L D:List ByteArray}{n:Nat}{cur:Option ByteArray}(h:lJ w r b L D n cur)(e:dH k w w')(h1:b≠k)(U:r≠k):lJ w' r b L D n cur:=h.of (e.block b h1) (e.block r U)
theorem agy(k:Nat)(w:World):dH k w w.drew:=⟨rfl,rfl,rfl,rfl,fun _ _=>rfl⟩
section
variable{P:Program}{cY:Value→World→Prop}{S:Fr}{w:World}{gR:World→Prop}{aE:Value→Prop}
theorem K.SC{b:Nat}{L:List ByteArray}{x:ByteArray}{t}(h:e3 w b L)(hk:aE (.bool (decide (x∈L)))):xE .string (.bool false) false (.map (some b)) (.string x) w aE t:=by
 obtain⟨es,r,h1,U,ai⟩:=h.look x;exact K.lp h1 U (by rw[ai];exact hk)
theorem K.FR{b:Nat}{L:List ByteArray}{x:ByteArray}{t}(h:e3 w b L)(hk:∀w1,dH b w w1→e3 w1 b (L++[x])→gR w1):vk .string (.map (some b)) (.string x) (.bool true) w gR t:=by
 obtain⟨es,c,q,h1,U,ai⟩:=h.put x;exact K.hZ h1 U (hk _ (dH.e1 w b _) (ai _ (zD (cL h1))))
theorem K.aeR{b:Nat}{L:List ByteArray}{x:Operand}{hf k e ty:TypeId}{t}(aw:a7 S x = .map (some b))(aK:P.underlying hf=some (.map k e))(h:e3 w b L)
  (hk:∀w1 r n,w.heap.size≤r→Ext w w1→lJ w1 r b L [] n none→cY (.pointer (some ⟨r,0,none⟩)) w1):tF P (.range hf x) ty S w cY t:=by
 obtain⟨es,c,h1,U⟩:=h;have gz:=run_range_map (P:=P) w hf k e b es c aK h1;refine K.raw (v:=.pointer (some ⟨w.heap.size,0,none⟩)) (w':=w.alloc (.mapIter (some b) c #[] c)) (by simp[execOp,aw,gz,Result.andThen]) ?_;refine hk _ _ _ (Nat.le_refl _) ((Ext.refl w).alloc _) ⟨es,c,c,#[],c,heap_alloc_old h1,U,heap_alloc_new w _,U.born,Nat.le_refl _,Nat.le_refl _,rfl,?_,?_,?_⟩
 ·intro e _ h;simp at h
 ·intro x aw;cases aw
 ·intro x aw;cases aw
theorem K.ac7{r b n:Nat}{L D:List ByteArray}{cur:Option ByteArray}{x:Operand}{ty:TypeId}{t}(aw:a7 S x = .pointer (some ⟨r,0,none⟩))(h:lJ w r b L D n cur)
  (aj:(∀y∈L,y∈D)→cY (.tuple #[.bool false]) w)
  (h1:∀y w1 iF,y∈L→iF<n→dH r w w1→lJ w1 r b L (D++[y]) iF (some y)→cY (.tuple #[.bool true,.string y,.bool true]) w1):tF P (.next x false) ty S w cY t:=by
 have dc:=h.ne;obtain⟨es,c,since,seen,bN,aD,hm,bk,hold,jU,Jp,aN,nE,Qa,_⟩:=h;rcases run_next_at (P:=P) w ty r b since bN seen es c bk aD hold jU with ⟨bU,gz⟩ | ⟨e,he,w1,Qn,gz⟩
 ·refine K.raw (v:=.tuple #[.bool false]) (w':=w) (by simp[execOp,aw,gz,Result.andThen]) (aj fun y cB=>?_);obtain⟨e,he,hk⟩:=hm.Ka y cB;obtain⟨z,RK,uM⟩:=nE e he (all_seen es seen bU e he);rw[hk] at uM;injection uM with uM
  rw[uM];exact RK
 ·obtain⟨IQ,ahP⟩:=mem_left he;obtain⟨y,cB,hk,aU⟩:=hm.mem e IQ;have nW:dH r w w1:=by
   rcases Qn with rfl | rfl
   ·exact dH.refl _ _
   ·exact agy r w
  have c3:w1.heap.size=w.heap.size:=nW.size;have lj:r<w1.heap.size:=by rw[c3];exact cL bk
  have Jn:Go.ChangeMaps.setBlock w1 r (.mapIter (some b) since (seen.push e.born) c)=bt.e1 w1 r (.mapIter (some b) since (seen.push e.born) c):=rfl;rw[Jn] at gz;refine K.raw (v:=.tuple #[.bool true,e.key,e.val]) (w':=e1 w1 r (.mapIter (some b) since (seen.push e.born) c)) (by simp[execOp,aw,gz,Result.andThen]) ?_;rw[hk,aU];refine h1 y _ _ cB (Nat.lt_of_lt_of_eq (left_shrinks es seen e he) aN) (nW.trans (dH.e1 _ _ _)) ⟨es,c,since,seen.push e.born,c,?_,hm,zD lj,hold,Jp,Jp,rfl,fun f aJ av=>?_,fun z bU=>?_,fun z bU=>?_⟩
  ·rw[KL (Ne.symm dc)];rcases Qn with rfl | rfl<;>exact aD
  ·rw[contains_push] at av;rcases Bool.or_eq_true_iff.1 av with av | av
   ·obtain⟨x,pA,hK⟩:=nE f aJ av;exact⟨x,by simp[pA],hK⟩
   ·have re:f.born=e.born:=by simpa using av
    have bn:=find_born f es.toList hm.nodup aJ;rw[re,find_born e es.toList hm.nodup IQ] at bn;injection bn with bn
    have:f=e:=bn.symm
    subst this;exact⟨y,by simp,hk⟩
  ·rcases List.mem_append.1 bU with bU | bU
   ·exact Qa z bU
   ·simp only[List.mem_singleton] at bU;subst bU;exact cB
  ·injection bU with bU
   subst bU;exact⟨seen,e,rfl,rfl,IQ,hk,aU⟩
theorem K.XQ{r b n:Nat}{L D:List ByteArray}{y:ByteArray}{x:Operand}{ty:TypeId}{t}(aw:a7 S x = .pointer (some ⟨r,0,none⟩))(h:lJ w r b L D n (some y))
  (hk:cY (.tuple #[.string y,.bool true]) w):tF P (.entry x) ty S w cY t:=by
 obtain⟨es,c,since,seen,bN,aD,hm,bk,hold,jU,Jp,aN,nE,Qa,av⟩:=h;obtain⟨KK,e,rfl,rfl,he,I5,e5⟩:=av y rfl;have gz:(Instr.entry (.pointer (some ⟨r,0,none⟩))).run P w = .ok (.tuple #[e.key,e.val]) w:=run_entry_at w r b since KK es bN e bk aD he hm.nodup;refine K.raw (v:=.tuple #[e.key,e.val]) (w':=w) (by simp[execOp,aw,gz,Result.andThen]) ?_;rw[I5,e5];exact hk
end
end bt
end
section
namespace Go.Proofs.R
open Go Go.RowKit bt
def tm(f:o.pW):List PanicEntry:=[{ v:=.iface T.am (.agg #[.int .i64 f.dh,.int .i64 f.part,.int .i64 f.item,.int .i64 f.sub]),recovered:=false }]
theorem o2(e p i s:Int)(w:World):pa Tryz.prog F.b #[.int .i64 e,.int .i64 p,.int .i64 i,.int .i64 s] w (fun _ w'=>e=0∧w'=w) (fun c w'=>e≠0∧c=tm ⟨e,p,i,s⟩∧w'=w):=by
 refine K.Dh kN E.b (args:=[_,_,_,_]) (Nat.le_of_ble_eq_true rfl) ?_;dsimp only[C.b];refine bF ?_;refine aa ?_;refine K.cond (fun g=>?_) (fun g=>?_)
 ·refine aa ?_;exact⟨g,bu⟩
 ·refine aa ?_;exact⟨g,bu,bu⟩
theorem Gl(b:Nat)(L:List ByteArray)(x:ByteArray)(p i:Int)(w:World)(h:e3 w b L):pa Tryz.prog F.s #[.map (some b),.string x,.int .i64 p,.int .i64 i] w
  (fun _ w' => ¬x∈L∧dH b w w'∧e3 w' b (L++[x])) (fun c w'=>x∈L∧c=tm ⟨7,p,i,0⟩∧w'=w):=by
 refine K.Dh kN E.s (args:=[_,_,_,_]) (Nat.le_of_ble_eq_true rfl) ?_;dsimp only[C.s];refine bF ?_;refine aa ?_;refine K.SC h ?_;refine aa ?_;refine K.cond (fun g=>?_) (fun g=>?_)
 ·refine aa ?_;refine K.eQ (o2 7 p i 0 w) ?_ ?_
  ·rintro _ _ ⟨aj,_⟩;exact absurd aj (by decide)
  ·rintro c _ ⟨_,rfl,rfl⟩;refine aa ?_;exact⟨g,bu,bu⟩
 ·refine aa ?_;refine K.FR h fun w1 hw h1=>?_;refine aa ?_;exact⟨g,hw,h1⟩
end Go.Proofs.R
end
section
namespace Go.Proofs.R
open Go Go.RowKit bt
structure iy(w0 w:World)(dv bz:Nat)(cs:List Value)(w':World)(L:List ByteArray):Prop where
 ext:Ext w0 w'
 mod:Mod (fun k=>k=dv) w w'
 box:w'.heap[bz]? = some (.cells cs.toArray T.b)
 set:e3 w' dv L
 low:w0.heap.size≤dv
 ne:bz≠dv
section
variable{w0 w w' bY:World}{dv bz:Nat}{cs:List Value}{L vh:List ByteArray}
theorem iy.then(h:iy w0 w dv bz cs w' L)(he:Ext w' bY):iy w0 w dv bz cs bY L:=⟨h.ext.trans he,h.mod.trans he.mod,he.obj h.box,h.set.ext he,h.low,h.ne⟩
theorem iy.wr(h:iy w0 w dv bz cs w' L)(hw:dH dv w' bY)(ay:e3 bY dv vh):iy w0 w dv bz cs bY vh:=⟨hw.ext h.ext h.low,h.mod.trans (hw.mod rfl),hw.obj h.box h.ne,ay,h.low,h.ne⟩
theorem iy.hA(h:iy w0 w dv bz cs w' L)(e:L=vh):iy w0 w dv bz cs w' vh:=e ▸ h
end
theorem YM{w0:World}(cs:List Value)(m:o.Model)(dv:Nat)(w:World)(h:o.ew w0 cs m)(du:Ext w0 w)(yt:w0.heap.size≤dv)(a8:h9 w0)(ay:e3 w dv []) :
  pa Tryz.prog F.bQ #[.agg cs.toArray,.map (some dv)] w (fun _ w'=>(o.data m).dh=0∧Ext w0 w'∧Mod (fun k=>k=dv) w w'∧e3 w' dv (o.lr m m.aH.length))
   (fun c w'=>(o.data m).dh≠0∧c=tm (o.data m)∧Ext w0 w'∧Mod (fun k=>k=dv) w w'):=by
 obtain⟨cv,bN,b9,c1,cq,c2,cm,bK,cw,bQ,rfl,aj,h1,U,ai,aL,eG,dt,dB,dT,er⟩:=h.form;refine K.Dh kN E.bQ (args:=[_,_]) (Nat.le_of_ble_eq_true rfl) ?_;dsimp only[C.bQ];refine bF ?_;refine aa ?_;intro w1 bz cK az al;have st1:iy w0 w dv bz _ w1 []:=⟨du.trans az,az.mod,al,ay.ext az,yt,by have:=ay.lt;omega⟩;clear ay;refine aa ?_;refine K.call (afi _ m.scalars w1 (a8.ext st1.ext) (aj.ext st1.ext)) ?_;rintro _ aR ⟨rfl,aA⟩;replace st1:=st1.then aA;clear al;refine aa ?_;refine K.eQ (o2 (o.scalars m.scalars).2 1 (o.scalars m.scalars).1 0 aR) ?_ ?_;rotate_left
 ·rintro c _ ⟨g,rfl,rfl⟩;refine aa ?_;rw[o.O6 g];exact⟨g,rfl,st1.ext,st1.mod⟩
 rintro _ _ ⟨ch,rfl⟩;have al:=st1.box;refine aa ?_;refine K.da 24 m.scalars.length [1,2,22,23] (fun _:Unit=>[]) () (fun k _ w'=>iy w0 w dv bz _ w' ((m.scalars.take k).map (·.name))) bw bw (st1.hA (by simp)) ?_;clear al aA st1;rintro k _ S ba hk j2;have al:=j2.box;have bO:=j2.ext;refine aa ?_;apply K.cond<;>intro g1
 ·have bb:k<m.scalars.length:=by omega
  obtain⟨a,rfl⟩:=aj.addr (by omega);refine aa ?_;intro bo bZ fG aP bG;have jy:=j2.then aP;refine aa ?_;refine K.FR jy.set fun bR hw sI=>?_;refine aa ?_;exact⟨bb,bu,(),trivial,(jy.wr hw sI).hA (o.zH _ _ bb).symm⟩
 replace j2:=j2.hA (show _=o.pJ m 0 by rw[List.take_of_length_le (by omega)];simp);refine aa ?_;refine K.call (UG _ _ m.vars m.scalars 12 ba (a8.ext bO) (h1.ext bO) (aj.ext bO)) ?_;rintro _ bo ⟨rfl,aP⟩;replace j2:=j2.then aP;clear al bO;have al:=j2.box;rw[o.agk];refine aa ?_;refine K.da 43 m.vars.length [1,2,4,5,41,42] (fun _:Unit=>[]) () (fun k _ w'=>iy w0 w dv bz _ w' (o.pJ m k)∧∀j,j<k→o.hV m j=0) bw bw ⟨j2,fun j h=>absurd h (Nat.not_lt_zero _)⟩ ?_;clear al j2 aP;rintro k _ a1 bR hk ⟨gJ,bU⟩;have al:=gJ.box;have ca:=gJ.ext;refine aa ?_;apply K.cond<;>intro g1
 ·have bb:k<m.vars.length:=by omega
  obtain⟨a,rfl⟩:=h1.addr (by omega);have e6:=o.zl (f:=fun x:o.Var=>x.name) bb;refine aa ?_;intro zN iM lb lg qk;refine ei ?_;intro bW gd dm;have bc:=gd.ext lg lb;have gu:=gJ.then bc;replace al:=gu.box;clear qk lg;refine ei ?_;refine K.hE [1,2,4,5,8,9,41,42,43] (fun _:Unit=>[]) (fun _ w'=>w'=bW∧o.l8 m k=0) ?_ ?_
  ·refine aa ?_;apply K.cond<;>intro g2
   ·refine aa ?_;refine K.eQ (o2 (o.first m.vars.length (o.l8 m)).2 2 k 0 bW) ?_ ?_
    ·rintro _ _ ⟨fV,rfl⟩;refine aa ?_;exact⟨(),trivial,bu,o.sh fV k bb⟩
    ·rintro c _ ⟨fV,rfl,rfl⟩;obtain⟨i,ad,bT,bg⟩:=o.PQ fV;obtain rfl:k=i:=by omega
     rw[bg] at fV;have js:o.hV m k=o.l8 m k:=by unfold o.hV;rw[if_pos fV]
     have bs:=o.EB ch bb bU (by rw[js];exact fV);rw[js] at bs;refine aa ?_;rw[bs,bg];exact⟨fV,bu,gu.ext,gu.mod⟩
   ·refine aa ?_;refine⟨(),trivial,bu,?_⟩;apply Classical.byContradiction;intro dc;apply g2;rw[o.hG bb (fun j aT=>o.Gw (bU j aT)) dc]
  rintro _ lN _ ⟨rfl,jV⟩;refine aa ?_;refine K.eQ (Gl dv (o.pJ m k) m.vars[k].name 2 k _ gu.set) ?_ ?_
  ·rintro _ cj ⟨aN,eo,iD⟩;refine aa ?_;refine⟨bb,bu,(),trivial,(gu.wr eo iD).hA (by simp only[o.pJ,o.w6];rw[o.zH (fun x:o.Var=>x.name) _ bb,List.append_assoc]),fun j aT=>?_⟩;by_cases hs:j=k
   ·subst hs;unfold o.hV;rw[if_neg (by simpa using jV),e6,if_neg aN]
   ·exact bU j (by omega)
  ·rintro c _ ⟨aN,rfl,rfl⟩;have js:o.hV m k=7:=by unfold o.hV;rw[if_neg (by simpa using jV),e6,if_pos aN]
   have bs:=o.EB ch bb bU (by rw[js];decide);rw[js] at bs;refine aa ?_;rw[bs];exact⟨(show(7:Int)≠0 by decide),bu,gu.ext,gu.mod⟩
 have kM:m.vars.length≤k:=by omega
 have kk:∀j,j<m.vars.length→o.hV m j=0:=fun j aT=>bU j (by omega);replace gJ:=gJ.hA (show _=o.lr m 0 by simp only[o.lr,o.pJ,o.w6,o.w5];rw[List.take_of_length_le kM];simp);refine aa ?_;refine K.call (W6 _ _ m.aH m.scalars bR (a8.ext ca) (U.ext ca) (aj.ext ca)) ?_;rintro _ bW ⟨rfl,bc⟩;replace gJ:=gJ.then bc;clear al ca;have al:=gJ.box;rw[o.W5];refine aa ?_;refine K.da 71 m.aH.length [1,2,4,5,69,70] (fun _:Unit=>[]) () (fun k _ w'=>iy w0 w dv bz _ w' (o.lr m k)∧∀j,j<k→o.iP m j=0) bw bw ⟨gJ,fun j h=>absurd h (Nat.not_lt_zero _)⟩ ?_;clear al gJ bc;rintro k _ a1 cj hk ⟨hP,bU⟩;have al:=hP.box;have ee:=hP.ext;refine aa ?_;apply K.cond<;>intro g1
 ·have bb:k<m.aH.length:=by omega
  obtain⟨a,rfl⟩:=U.addr (by omega);have e6:=o.zl (f:=fun x:o.c4=>x.name) bb;refine aa ?_;intro zN iM lb lg qk;refine ei ?_;intro bW gd dm;have bc:=gd.ext lg lb;have gu:=hP.then bc;replace al:=gu.box;clear qk lg;refine ei ?_;refine K.hE [1,2,4,5,10,11,69,70,71] (fun _:Unit=>[]) (fun _ w'=>w'=bW∧o.lS m k=0) ?_ ?_
  ·refine aa ?_;apply K.cond<;>intro g2
   ·refine aa ?_;refine K.eQ (o2 (o.first m.aH.length (o.lS m)).2 3 k 0 bW) ?_ ?_
    ·rintro _ _ ⟨fV,rfl⟩;refine aa ?_;exact⟨(),trivial,bu,o.sh fV k bb⟩
    ·rintro c _ ⟨fV,rfl,rfl⟩;obtain⟨i,ad,bT,bg⟩:=o.PQ fV;obtain rfl:k=i:=by omega
     rw[bg] at fV;have js:o.iP m k=o.lS m k:=by unfold o.iP;rw[if_pos fV]
     have bs:=o.Ez ch kk bb bU (by rw[js];exact fV);rw[js] at bs;refine aa ?_;rw[bs,bg];exact⟨fV,bu,gu.ext,gu.mod⟩
   ·refine aa ?_;refine⟨(),trivial,bu,?_⟩;apply Classical.byContradiction;intro dc;apply g2;rw[o.hG bb (fun j aT=>o.Ep (bU j aT)) dc]
  rintro _ lN _ ⟨rfl,jV⟩;refine aa ?_;refine K.eQ (Gl dv (o.lr m k) m.aH[k].name 3 k _ gu.set) ?_ ?_
  ·rintro _ cj ⟨aN,eo,iD⟩;refine aa ?_;refine⟨bb,bu,(),trivial,(gu.wr eo iD).hA (by simp only[o.lr,o.w5];rw[o.zH (fun x:o.c4=>x.name) _ bb,List.append_assoc]),fun j aT=>?_⟩;by_cases hs:j=k
   ·subst hs;unfold o.iP;rw[if_neg (by simpa using jV),e6,if_neg aN]
   ·exact bU j (by omega)
  ·rintro c _ ⟨aN,rfl,rfl⟩;have js:o.iP m k=7:=by unfold o.iP;rw[if_neg (by simpa using jV),e6,if_pos aN]
   have bs:=o.Ez ch kk bb bU (by rw[js];decide);rw[js] at bs;refine aa ?_;rw[bs];exact⟨(show(7:Int)≠0 by decide),bu,gu.ext,gu.mod⟩
 have yE:m.aH.length≤k:=by omega
 refine aa ?_;refine⟨by rw[o.O4 ch kk fun j aT=>bU j (by omega)];rfl,hP.ext,hP.mod,(hP.hA ?_).set⟩;simp only[o.lr,o.w5];rw[List.take_of_length_le yE,List.take_of_length_le (Nat.le_refl _)]
end Go.Proofs.R
end
section
namespace Go.Proofs.R
open Go Go.RowKit bt
theorem iy.Le{w0 w w' bY:World}{dv bz k:Nat}{cs:List Value}{L:List ByteArray}(h:iy w0 w dv bz cs w' L)(c3:w0.heap.size≤w.heap.size)(hw:dH k w' bY)(hk:w.heap.size≤k)(h1:bz≠k)(U:dv≠k):iy w0 w dv bz cs bY L :=
 ⟨hw.ext h.ext (Nat.le_trans c3 hk),h.mod.then (hw.mod (A:=fun j=>j=k) rfl) fun i ad e=>absurd e (by omega),hw.obj h.box h1,h.set.wr hw U,h.low,h.ne⟩
theorem adU{w0:World}(cs:List Value)(m:o.Model)(dv:Nat)(w:World)(h:o.ew w0 cs m)(a6:m.cT)(du:Ext w0 w)(yt:w0.heap.size≤dv)(a8:h9 w0)(bs:(o.data m).dh=0)(ay:e3 w dv (o.lr m m.aH.length)) :
  pa Tryz.prog F.ny #[.agg cs.toArray,.map (some dv)] w (fun _ w'=>(o.lv m).dh=0∧Ext w0 w'∧Mod (fun k=>k=dv) w w'∧e3 w' dv (o.hy m m.procs.length))
   (fun c w'=>(o.lv m).dh≠0∧c=tm (o.lv m)∧Ext w0 w'∧Mod (fun k=>k=dv) w w'):=by
 have bd:=h;obtain⟨cv,bN,b9,c1,cq,c2,cm,bK,cw,bQ,rfl,aj,h1,U,ai,aL,eG,dt,dB,dT,er⟩:=h.form;have c3:=du.size;refine K.Dh kN E.ny (args:=[_,_]) (Nat.le_of_ble_eq_true rfl) ?_;dsimp only[C.ny];refine bF ?_;refine aa ?_;intro w1 bz cK az al;have st1:iy w0 w dv bz _ w1 (o.lr m m.aH.length):=⟨du.trans az,az.mod,al,ay.ext az,yt,by have:=ay.lt;omega⟩;have agF:=ay.lt;have fy:=cL al;clear ay al;refine aa ?_;refine K.u1 fun aR gx ahy aA fu=>?_;replace st1:=st1.then aA;have tc:e3 aR gx []:=e3.empty fu;have z0:=az.size;have z2:=tc.lt;clear fu;refine aa ?_;refine K.aeR (b:=dv) rfl (k:=T.h) (e:=T.vC) (by kernel_rfl) st1.set fun ba r n bk au nO=>?_;replace st1:=st1.then au;replace tc:=tc.ext au;have z4:=aA.size;have z5:=nO.lt;refine aa ?_;refine K.Dt [1,2,4,20] (fun _:List ByteArray×Nat=>[]) ([],n) (fun x w'=>iy w0 w dv bz _ w' (o.lr m m.aH.length)∧e3 w' gx x.1∧∃cur,lJ w' r dv (o.lr m m.aH.length) x.1 x.2 cur) (fun x=>x.2) bw ⟨st1,tc,_,nO⟩ ?_;clear st1 tc nO;rintro⟨D,iF⟩ S bo ⟨jy,tc,cur,nO⟩;have al:=jy.box;refine aa ?_;refine K.ac7 rfl nO (fun c8=>?_) (fun y bR ks cB ck ft QZ=>?_);rotate_left
 ·have gJ:=jy.Le c3 ft (by omega) (by omega) (by omega);have afc:=tc.wr ft (by omega);refine aa ?_;refine K.XQ rfl QZ ?_;refine aa ?_;refine K.FR afc fun bW gd afd=>?_;have gu:=gJ.Le c3 gd (by omega) (by omega) (by omega);have aad:=QZ.wr gd (by omega) (by omega);refine aa ?_;exact⟨(D++[y],ks),trivial,⟨gu,afd,_,aad⟩,ck⟩
 have h3:e3 bo gx (o.hy m 0):=tc.hA fun x=>by
  have aa6:=nO.sub;simp only[o.hy,o.u0,List.take_zero,List.map_nil,List.append_nil];exact⟨fun aw=>aa6 x aw,fun aw=>c8 x aw⟩
 clear tc nO c8;refine aa ?_;refine K.da 30 m.procs.length [1,2,4,28,29] (fun _:Unit=>[]) () (fun k _ w'=>iy w0 w dv bz _ w' (o.lr m m.aH.length)∧e3 w' gx (o.hy m k)) bw bw ⟨jy,h3⟩ ?_;clear al jy h3;rintro k _ a1 bR hk ⟨gJ,h3⟩;have al:=gJ.box;have ca:=gJ.ext;refine aa ?_;apply K.cond<;>intro g1
 ·have bb:k<m.procs.length:=by omega
  obtain⟨a,rfl⟩:=ai.addr (by omega);obtain⟨_,cr,dL,aO,eJ,en⟩:=ai.at k bb;obtain⟨eP,ff,rfl,fH⟩:=eJ.form;obtain⟨n2,jO,rfl,lc⟩:=en.form;replace aO:=aO.ext ca;refine aa ?_;intro bW lQ jr bc c5;have gu:=gJ.then bc;replace h3:=h3.ext bc;refine aa ?_;refine K.FR h3 fun cj eo aff=>?_;have hP:=gu.Le c3 eo (by omega) (by omega) (by omega);refine aa ?_;exact⟨bb,bu,(),trivial,hP,by simp only[o.hy,o.u0];rw[o.zH (fun x:o.dj=>x.name) _ bb,←List.append_assoc];exact aff⟩
 have T3:∀{w'},e3 w' gx (o.hy m k)→e3 w' gx (o.hy m m.procs.length):=fun h=>h.hA fun x=>by
  simp only[o.hy,o.u0];rw[List.take_of_length_le (by omega),List.take_of_length_le (Nat.le_refl _)]
 replace h3:=T3 h3;clear T3;replace gJ:=gJ.hA (show _=o.hy m 0 by simp[o.hy]);refine aa ?_;refine K.da 41 m.procs.length [1,2,4,39,40] (fun _:Unit=>[]) () (fun k _ w'=>iy w0 w dv bz _ w' (o.hy m k)∧e3 w' gx (o.hy m m.procs.length)∧∀j,j<k→(o.gS m j).1=0) bw bw ⟨gJ,h3,fun j h=>absurd h (Nat.not_lt_zero _)⟩ ?_;clear al ca gJ h3;rintro k _ lN bW hk ⟨gu,h3,bU⟩;have al:=gu.box;have c0:=gu.ext;have Dz:=gu.mod.size;refine aa ?_;apply K.cond<;>intro g1
 ·have bb:k<m.procs.length:=by omega
  obtain⟨a,rfl⟩:=ai.addr (by omega);obtain⟨nR,cr,dL,aO,eJ,en⟩:=ai.at k bb;obtain⟨eP,ff,rfl,fH⟩:=eJ.form;obtain⟨n2,jO,rfl,lc⟩:=en.form;have my:=a6.proc _ (List.getElem_mem bb);have dJ:=o.HQ bb;replace aO:=aO.ext c0;refine aa ?_;intro zN iM lb lg qk;refine ei ?_;intro cj eo dP;have bP:=eo.ext lg lb;have hP:=gu.then bP;replace h3:=h3.ext bP;replace al:=hP.box;have ajY:=cL dP;have DA:=h3.lt;have ee:=hP.ext;clear qk lg eo;refine aa ?_;apply K.cond<;>intro g2
  ·have bL:6≤k:=by omega
   rw[if_pos bL] at dJ;have jT:=o.CU bb bU (by rw[dJ];decide);rw[dJ] at jT;refine aa ?_;refine K.eQ (o2 11 4 k 0 cj) ?_ ?_
   ·rintro _ _ ⟨fV,_⟩;exact absurd fV (by decide)
   ·rintro c _ ⟨_,rfl,rfl⟩;refine aa ?_;rw[jT];exact⟨(show(11:Int)≠0 by decide),bu,ee,hP.mod⟩
  rw[if_neg (by omega)] at dJ;refine aa ?_;intro dC bV;replace al:=bV.obj al;replace dP:=bV.obj dP;refine aa ?_;refine K.call (T5 _ m k dC (bd.ext (ee.trans bV)) a6) ?_;rintro _ ez ⟨⟨ag7,rfl,Fp⟩,cp⟩;refine⟨cp,?_⟩;have jU:=Fp.here;obtain⟨jJ,Dv,lC,nm,lD,mG,ma,zO,lE,xt,rfl,_⟩:=jU.form;refine aa ?_;refine K.call (adL m.procs[k] _ _ (o.gq m k) ez (a8.ext (ee.trans (bV.trans cp))) ⟨nR,_,_,rfl,eJ.ext (ee.trans (bV.trans cp)),en.ext (ee.trans (bV.trans cp))⟩ jU (a6.gq _) my) ?_;rintro _ eX ⟨rfl,dI⟩;have Ps:=(bV.trans cp).trans dI;have xh:=hP.then Ps;replace h3:=h3.ext Ps;replace al:=xh.box;replace dP:=(cp.trans dI).obj dP;have ajX:=cL dP;have ajV:=h3.lt;clear jU Fp hP ee;have jR:=xh.ext;have fs:=o.Te m.procs[k] (o.gq m k) 140737488351232 fun c av=>by have:=(my.cmd c av).b6;unfold o.dZ at this;omega
  have abd:m.procs[k].vars.length≤140737488351232:=by have:=my.vars;unfold o.dZ at this;omega
  have mr:m.procs[k].cJ.length≤140737488351232:=by have:=my.cJ;unfold o.dZ at this;omega
  refine aa ?_;refine K.eQ (o2 (o.gB m.procs[k] (o.gq m k)).2.2 4 k (16*(o.gB m.procs[k] (o.gq m k)).1+(o.gB m.procs[k] (o.gq m k)).2.1) eX) ?_ ?_;rotate_left
  ·rintro c _ ⟨fV,rfl,rfl⟩;rw[if_pos fV] at dJ;have jT:=o.CU bb bU (by rw[dJ];exact fV);rw[dJ] at jT;refine aa ?_;rw[jT];exact⟨fV,bu,jR,xh.mod⟩
  rintro _ l9 ⟨fV,rfl⟩;rw[if_neg (by simpa using fV)] at dJ;refine aa ?_;refine K.eQ (Gl dv (o.hy m k) m.procs[k].name 4 k l9 xh.set) ?_ ?_;rotate_left
  ·rintro c _ ⟨aN,rfl,rfl⟩;rw[if_pos aN] at dJ;have jT:=o.CU bb bU (by rw[dJ];decide);rw[dJ] at jT;refine aa ?_;rw[jT];exact⟨(show(7:Int)≠0 by decide),bu,jR,xh.mod⟩
  rintro _ hh ⟨aN,hY,aaX⟩;rw[if_neg aN] at dJ;have Gg:iy w0 w dv bz _ hh (o.hy m (k+1)):=(xh.wr hY aaX).hA (by simp only[o.hy,o.u0];rw[o.zH (fun x:o.dj=>x.name) _ bb,List.append_assoc]);replace h3:=h3.wr hY (by omega);replace al:=Gg.box;replace dP:=hY.obj dP (by omega);have q4:=Gg.ext;have ajL:=hY.size;clear xh jR;refine aa ?_;refine K.da 74 m.procs[k].vars.length [1,2,4,8,9,39,40,41,72,73] (fun _:Unit=>[]) () (fun j _ w'=>iy w0 w dv bz _ w' (o.hy m (k+1))∧e3 w' gx (o.hy m m.procs.length)∧Ext hh w'∧∀i,i<j→o.oC m m.procs[k] i=0) bw bw ⟨Gg,h3,Ext.refl _,fun j h=>absurd h (Nat.not_lt_zero _)⟩ ?_;have nG:=dP;clear Gg h3 al dP q4;rintro j _ Vq lB aT ⟨Gh,h3,fL,uM⟩;have al:=Gh.box;have dP:=fL.obj nG;have AN:=Gh.ext;refine aa ?_;apply K.cond<;>intro g3
  ·have ef:j<m.procs[k].vars.length:=by omega
   obtain⟨dq,rfl⟩:=eJ.addr (by omega);have eu:=((eJ.at j ef).cells).ext AN;have e6:=o.zl (f:=fun x:o.Var=>x.name) ef;refine aa ?_;intro ajD V1 Qo QO IB;refine ei ?_;intro o5 jX Iy;have iT:=jX.ext QO Qo;have Gi:=Gh.then iT;replace h3:=h3.ext iT;replace al:=Gi.box;clear IB QO jX;refine aa ?_;refine K.SC h3 ?_;refine aa ?_;apply K.cond<;>intro g4
   ·have sw:o.oC m m.procs[k] j=7:=by unfold o.oC;rw[e6,if_pos g4]
    rw[o.hG ef uM (by rw[sw];decide),sw,if_pos (show(7:Int)≠0 by decide)] at dJ;have jT:=o.CU bb bU (by rw[dJ];exact(show(7:Int)≠0 by decide));rw[dJ] at jT;refine aa ?_;refine K.eQ (o2 7 4 k (16+j) o5) ?_ ?_
    ·rintro _ _ ⟨vX,_⟩;exact absurd vX (by decide)
    ·rintro c _ ⟨_,rfl,rfl⟩;refine aa ?_;rw[jT];exact⟨(show(7:Int)≠0 by decide),bu,Gi.ext,Gi.mod⟩
   ·refine aa ?_;refine⟨ef,bu,(),trivial,Gi,h3,fL.trans iT,fun i ad=>?_⟩;by_cases Fj:i=j
    ·subst Fj;unfold o.oC;rw[e6,if_neg g4]
    ·exact uM i (by omega)
  ·rw[o.mV fun i ad=>uM i (by omega),if_neg (by simp)] at dJ;refine aa ?_;refine⟨bb,bu,(),trivial,Gh,h3,fun i ad=>?_⟩;by_cases yC:i=k
   ·subst yC;rw[dJ]
   ·exact bU i (by omega)
 have uC:m.procs.length≤k:=by omega
 have v8:∀j,j<m.procs.length→(o.gS m j).1=0:=fun j aT=>bU j (by omega);have E5:=o.EA bs;have qt:m.procs.length≤6:=by
  apply Classical.byContradiction;intro aN
  have:=o.EG (i:=6) (by omega) (v8 6 (by omega))
  omega
 have sx:o.rV m:=⟨by omega,by omega,by omega,fun p aO=>by
  obtain⟨j,aT,rfl⟩:=List.mem_iff_getElem.1 aO
  have:=o.Ki (o.EH aT (v8 j aT)).2.1
  omega⟩
 refine aa ?_;refine K.call (adM _ m bW (bd.ext c0) sx) ?_;rintro _ cj ⟨rfl,bP⟩;have hP:=gu.then bP;replace al:=hP.box;have oN:=o.Kj v8;have Jn:e3 cj dv (o.hy m m.procs.length):=by
  have h:=hP.set;simp only[o.hy,o.u0] at h ⊢;rw[List.take_of_length_le uC] at h;rw[List.take_of_length_le (Nat.le_refl _)];exact h
 refine aa ?_;apply K.cond<;>intro g2
 ·rw[if_pos (.inl (by omega))] at oN;refine aa ?_;refine K.eQ (o2 11 4 m.procs.length 0 cj) ?_ ?_
  ·rintro _ _ ⟨vX,_⟩;exact absurd vX (by decide)
  ·rintro c _ ⟨_,rfl,rfl⟩;refine aa ?_;rw[oN];exact⟨(show(11:Int)≠0 by decide),bu,hP.ext,hP.mod⟩
 refine aa ?_;apply K.cond<;>intro g3
 ·rw[if_pos (.inr (by omega))] at oN;refine aa ?_;refine K.eQ (o2 11 4 m.procs.length 0 cj) ?_ ?_
  ·rintro _ _ ⟨vX,_⟩;exact absurd vX (by decide)
  ·rintro c _ ⟨_,rfl,rfl⟩;refine aa ?_;rw[oN];exact⟨(show(11:Int)≠0 by decide),bu,hP.ext,hP.mod⟩
 rw[if_neg (by omega)] at oN;refine aa ?_;exact⟨by rw[oN];rfl,hP.ext,hP.mod,Jn⟩
theorem adV{w0:World}(cs:List Value)(m:o.Model)(dv:Nat)(w:World)(h:o.ew w0 cs m)(a6:m.cT)(du:Ext w0 w)(yt:w0.heap.size≤dv)(a8:h9 w0)(ay:e3 w dv (o.hy m m.procs.length)) :
  pa Tryz.prog F.pf #[.agg cs.toArray,.map (some dv)] w (fun _ w'=>(o.oa m).dh=0∧Ext w0 w'∧Mod (fun k=>k=dv) w w')
   (fun c w'=>(o.oa m).dh≠0∧c=tm (o.oa m)∧Ext w0 w'∧Mod (fun k=>k=dv) w w'):=by
 have bd:=h;obtain⟨cv,bN,b9,c1,cq,c2,cm,bK,cw,bQ,rfl,aj,h1,U,ai,aL,eG,dt,dB,dT,er⟩:=h.form;refine K.Dh kN E.pf (args:=[_,_]) (Nat.le_of_ble_eq_true rfl) ?_;dsimp only[C.pf];refine bF ?_;refine aa ?_;intro w1 bz cK az al;have st1:iy w0 w dv bz _ w1 (o.pI m 0):=⟨du.trans az,az.mod,al,by have:=ay.ext az;simpa[o.pI] using this,yt,by have:=ay.lt;omega⟩;have agF:=ay.lt;have z0:=az.size;clear ay;refine aa ?_;refine K.call (T5 _ m (-1) w1 (bd.ext st1.ext) a6) ?_;rintro _ aR ⟨⟨ag5,rfl,jt⟩,aA⟩;rw[o.FZ (.inl (by decide))] at jt;have jU:=jt.here;obtain⟨jJ,Dv,lC,nm,lD,mG,ma,zO,lE,xt,rfl,_⟩:=jU.form;clear jU;have st2:=st1.then aA;clear al st1;have fy:=aA.size;refine aa ?_;intro ba cE fh au bJ;have Rl:=jt.ext au fy;have j2:=st2.then au;have al:=j2.box;clear jt st2;refine aa ?_;refine K.da 14 m.props.length [1,2,4,12,13] (fun _:Unit=>[]) () (fun k _ w'=>iy w0 w dv bz _ w' (o.pI m k)∧dW w1 (fun w=>o.e2 w _ (o.fI m)) w'∧w'.heap[cE]? = some (.cells (List.toArray [_,_,_,_,_,_]) T.d)∧w1.heap.size≤w'.heap.size∧∀j,j<k→o.k6 m j=0) bw bw ⟨j2,Rl,bJ,by have:=au.size;omega,fun j h=>absurd h (Nat.not_lt_zero _)⟩ ?_;clear al j2 Rl bJ;rintro k _ S bo hk ⟨jy,pv,bJ,z4,bU⟩;have al:=jy.box;have b8:=jy.ext;refine aa ?_;apply K.cond<;>intro g1
 ·have bb:k<m.props.length:=by omega
  obtain⟨a,rfl⟩:=aL.addr (by omega);obtain⟨nR,hg,aO,il⟩:=aL.at k bb;obtain⟨S0,ce,rfl,le⟩:=il.form;have dJ:=o.Pz bb;replace aO:=aO.ext b8;have z5:=jy.mod.size;refine aa ?_;intro zN ie gG lg qk;refine ei ?_;intro bR ft dm;have bf:=ft.ext lg gG;have gJ:=jy.then bf;replace pv:=pv.ext bf z4;replace bJ:=bf.obj bJ;replace al:=gJ.box;have ca:=gJ.ext;clear qk lg ft jy;have bs:o.k6 m k≠0→o.oa m=⟨o.k6 m k,5,k,0⟩:=o.Tg bb bU;refine aa ?_;apply K.cond<;>intro g2
  ·rw[if_pos (by omega)] at dJ;rw[dJ] at bs;replace bs:=bs (by decide);refine aa ?_;refine K.eQ (o2 11 5 k 0 bR) ?_ ?_
   ·rintro _ _ ⟨fV,_⟩;exact absurd fV (by decide)
   ·rintro c _ ⟨_,rfl,rfl⟩;refine aa ?_;rw[bs];exact⟨(show(11:Int)≠0 by decide),bu,ca,gJ.mod⟩
  rw[if_neg (by omega)] at dJ;refine aa ?_;refine K.call (FT m.props[k].name bR (a8.ext ca) nR) ?_;rintro _ bW ⟨rfl,bc⟩;have gu:=gJ.then bc;replace pv:=pv.ext bc (by have:=bf.size;omega);replace bJ:=bc.obj bJ;replace dm:=bc.obj dm;replace al:=gu.box;have c0:=gu.ext;clear gJ;refine aa ?_;refine K.cX (fun g3=>?_) (fun g3=>?_);rotate_left
  ·rw[if_pos g3] at dJ;rw[dJ] at bs;replace bs:=bs (by decide);refine aa ?_;refine K.eQ (o2 6 5 k 0 bW) ?_ ?_
   ·rintro _ _ ⟨fV,_⟩;exact absurd fV (by decide)
   ·rintro c _ ⟨_,rfl,rfl⟩;refine aa ?_;rw[bs];exact⟨(show(6:Int)≠0 by decide),bu,c0,gu.mod⟩
  rw[if_neg (by rw[g3];decide)] at dJ;refine aa ?_;refine K.eQ (Gl dv (o.pI m k) m.props[k].name 5 k bW gu.set) ?_ ?_;rotate_left
  ·rintro c _ ⟨aN,rfl,rfl⟩;rw[if_pos aN] at dJ;rw[dJ] at bs;replace bs:=bs (by decide);refine aa ?_;rw[bs];exact⟨(show(7:Int)≠0 by decide),bu,gu.ext,gu.mod⟩
  rintro _ cj ⟨aN,eo,iD⟩;rw[if_neg aN] at dJ;have hP:iy w0 w dv bz _ cj (o.pI m (k+1)):=(gu.wr eo iD).hA (by simp only[o.pI,o.J0];rw[o.zH (fun x:o.kb=>x.name) _ bb,List.append_assoc]);replace pv:=pv.wr eo (by omega);replace bJ:=eo.obj bJ (by omega);replace dm:=eo.obj dm (by omega);replace al:=hP.box;have ee:=hP.ext;clear gu c0;refine aa ?_;refine K.call (Sc _ m.props[k].expr _ _ cj (il.ext ee) pv.here) ?_;rintro _ dC ⟨rfl,bV⟩;have Dg:=hP.then bV;have U0:=eo.size;replace pv:=pv.ext bV (by have:=bf.size;have:=bc.size;omega);replace bJ:=bV.obj bJ;replace al:=Dg.box;have fq:=Dg.ext;clear hP;refine aa ?_;refine K.eQ (o2 (o.kind m.props[k].expr (o.fI m)).2 5 k 0 dC) ?_ ?_;rotate_left
  ·rintro c _ ⟨fV,rfl,rfl⟩;rw[if_pos fV] at dJ;rw[dJ] at bs;replace bs:=bs fV;refine aa ?_;rw[bs];exact⟨fV,bu,fq,Dg.mod⟩
  rintro _ ez ⟨fV,rfl⟩;rw[if_neg (by simpa using fV)] at dJ;refine aa ?_;apply K.cond<;>intro g4;rotate_left
  ·rw[if_pos g4] at dJ;rw[dJ] at bs;replace bs:=bs (by decide);refine aa ?_;refine K.eQ (o2 9 5 k 0 ez) ?_ ?_
   ·rintro _ _ ⟨vX,_⟩;exact absurd vX (by decide)
   ·rintro c _ ⟨_,rfl,rfl⟩;refine aa ?_;rw[bs];exact⟨(show(9:Int)≠0 by decide),bu,fq,Dg.mod⟩
  rw[if_neg (by simpa using g4)] at dJ;refine aa ?_;refine⟨bb,bu,(),trivial,Dg,pv,bJ,by have:=bf.size;have:=bc.size;have:=bV.size;omega,fun i ad=>?_⟩;by_cases yC:i=k
  ·subst yC;rw[dJ]
  ·exact bU i (by omega)
 refine aa ?_;exact⟨by rw[o.Kk fun j aT=>bU j (by omega)];rfl,b8,jy.mod⟩
end Go.Proofs.R
end
section
namespace bt
open Go Go.RowKit
structure xA where
 n:Nat
 res:List lK
 pre:eS
 bX:List Step
 fn:Operand
 rest:eS
def HF(aq:Oper):Option Operand :=
 match aq.guard,aq.dst,aq.op with
 | none,none,.defer ⟨.value x,args,_⟩=>match args.toList with | []=>some x | _=>none
 | _,_,_=>none
def OX(P:Program)(fn:Func):Code→Option xA
 | .seq a (.seq (.region _ ops false) c) =>
  match ops.toList.getLast?.bind HF,comp P fn.ntmps a,nB P fn.ntmps ops ops.toList.dropLast,comp P fn.ntmps c,ub P fn.results.toList with
  | some x,some nZ,some bX,some lc,some r=>some ⟨fn.ntmps,r,nZ,bX,x,lc⟩
  | _,_,_,_,_=>none
 | _=>none
def Es(P:Program)(f:FuncId):Option xA :=
 match P.funcs[f]? with
 | some fn=>match fn.body with | some c=>OX P fn c | none=>none
 | none=>none
def qT(P:Program)(f:FuncId)(cap:Array Value)(u:FrameMode)(w:World)(R:World→Prop):Prop :=
 CallsD P f cap u w fun e iJ w'=>(∃v,e = .returned v)∧settle iJ = .returning∧R w'
def AU(P:Program)(res:List lK)(f:FuncId)(cap:Array Value)(R:Value→World→Prop):dM→Fr→World→Prop
 | .normal,S,w=>qT P f cap .returning w fun w'=>ni res S w' fun vs=>R (fS vs) w'
 | .ret,S,w=>qT P f cap .returning w fun w'=>ni res S w' fun vs=>R (fS vs) w'
 | .exit _,_,_=>False
 | .fC c,S,w=>qT P f cap (.panicking c) w fun w'=>ni res S w' fun vs=>R (fS vs) w'
def ago(P:Program)(L:xA)(R:Value→World→Prop)(S:Fr)(w:World):Prop :=
 dL P L.pre (tk (fun S w=>steps P L.bX S w fun S w => ∃f cap,a7 S L.fn = .func (.func f) #[] cap∧okF P f=true∧dL P L.rest (AU P L.res f cap R) S w) (fun _ _ _=>False)) S w
theorem Xv{aq:Oper}{x:Operand}(h:HF aq=some x):∃ty pos after lA,aq=⟨none,.defer ⟨.value x,#[],lA⟩,ty,pos,after,none⟩:=by
 obtain⟨dst,op,ty,pos,after,guard⟩:=aq;unfold HF at h;split at h
 ·rename_i h1 U ai;simp only at h1 U ai;split at h
  ·rename_i aL;injection h with h
   have bn:=Array.toList_eq_nil_iff.1 aL;subst h1 U ai h bn;exact⟨_,_,_,_,rfl⟩
  ·cases h
 ·cases h
theorem XR{P:Program}{f:FuncId}{L:xA}(hm:P.follows .mixedOrders=true)(av:Es P f=some L){args:List Value}{w:World}{R:Value→World→Prop}(br:args.length≤L.n)
  (h:ago P L R (gU args 0) w):bq P f args.toArray w R:=by
 unfold Es at av;split at av
 ·rename_i fn qm;split at av
  ·rename_i c aD;unfold OX at av;split at av
   ·rename_i a id ops lR;split at av
    ·rename_i x nZ bX lc r h1 U ai aL bn;injection av with av;subst av
     obtain⟨aq,a8,aw⟩:=Option.bind_eq_some_iff.1 h1;obtain⟨ty,pos,after,lA,rfl⟩:=Xv aw;have aap:ops.toList=ops.toList.dropLast++[⟨none,.defer ⟨.value x,#[],lA⟩,ty,pos,after,none⟩]:=by
      have dc:ops.toList≠[]:=by intro e;rw[e] at a8;cases a8
      rw[List.getLast?_eq_some_getLast dc] at a8;injection a8 with a8
      rw[←a8,List.dropLast_concat_getLast dc]
     have fin:∀(g:FuncId) (cap:Array Value) (S:Fr) (dq:Act) (w':World) (u:FrameMode),u≠.run→okF P g=true→Fits [{ target:=.fn (.func g) cap,args:=#[] }] dq S fn.ntmps→qT P g cap u w' (fun w'=>ni r S w' fun vs=>R (fS vs) w') →
       Leaves P fn dq.tmps (fun e w' => ∃v,e = .returned v∧R v w') dq.defers u w':=by
      intro g cap S dq w' u hu dd aJ aQ;rw[aJ.1];refine leaves_cons hu (f:=g) (args:=cap) (by simp[invoke,C8 dd]) (CallsD.mono aQ ?_);rintro e iJ bY ⟨⟨v,rfl⟩,ay,bk⟩;simp only[ay];obtain⟨vs,bL,b7⟩:=pN aJ _ _ _ bn bk;exact⟨_,s9 bL,_,rfl,b7⟩
     refine calls_of_wp_defers qm aD ((wpIn_wide (n:=0)).1 ?_);refine wpIn_seq (wpIn_mono (sound (ds:=[]) (r:=none) (m:=0) hm a nZ U _ _ (gU args 0) w (H4 br) h) fun e dq w' aF=>?_);cases e with
     | normal =>
      obtain⟨S,aJ,aF⟩:=aF;refine wpIn_seq (wpIn_region_list ?_);rw[aap];refine va (r:=none) (tl:=[_]) ?_ ?_ _ bX dq S w' ai aJ aF
      ·rintro a2 lN aR mY ⟨g,cap,he,dd,aU⟩;have hw:Region.wanted (⟨none,.defer ⟨.value x,#[],lA⟩,ty,pos,after,none⟩:Oper) (yielded ops a2.tmps)=true:=rfl;simp only[wpListIn,hw,if_true];have gz:∀ρ:Operand→Value,ρ x = .func (.func g) #[] cap→((⟨none,.defer ⟨.value x,#[],lA⟩,ty,pos,after,none⟩:Oper).semAt none ρ).run P aR = .ok (.defer { target:=.fn (.func g) cap,args:=#[] }) aR:=by
        intro ρ abu;simp[Oper.semAt,execOp,resolve,Deferred.ofValue,abu,go_sem]
       refine⟨fun _ _=>trivial,?_⟩;rw[show(mI none).round=none from rfl,gz a2.eval (by rw[mY.eval];exact he)];have Z2:Fits [{ target:=.fn (.func g) cap,args:=#[] }] ({ a2 with defers:={ target:=.fn (.func g) cap,args:=#[] } :: a2.defers }:Act) lN fn.ntmps:=⟨by rw[mY.1],mY.2⟩;refine wpIn_mono (sound (ds:=[{ target:=.fn (.func g) cap,args:=#[] }]) (r:=none) (m:=0) hm lR lc aL _ _ lN aR Z2 aU) fun e a4 bo aF=>?_;cases e with
       | normal=>obtain⟨pZ,nM,aF⟩:=aF;exact fin g cap pZ a4 bo .returning (by simp) dd nM aF
       | ret=>obtain⟨pZ,nM,aF⟩:=aF;exact fin g cap pZ a4 bo .returning (by simp) dd nM aF
       | exit i=>obtain⟨pZ,nM,aF⟩:=aF;exact aF.elim
       | panic q2=>obtain⟨pZ,nM,aF⟩:=aF;exact fin g cap pZ a4 bo (.panicking q2) (by simp) dd nM aF
       | _=>exact aF.elim
      ·rintro⟨_,_,aw⟩;obtain⟨_,h1,_⟩:=aw;cases h1
     | ret=>obtain⟨S,aJ,aF⟩:=aF;exact aF.elim
     | exit i=>obtain⟨S,aJ,aF⟩:=aF;exact aF.elim
     | panic q2=>obtain⟨S,aJ,aF⟩:=aF;exact aF.elim
     | _=>exact aF.elim
    ·cases av
   ·cases av
  ·cases av
 ·cases av
structure Ae where
 n:Nat
 res:List lK
 d:Nat
 e:Nat
 rest:eS
def Ku(aq:Oper):Option Nat :=
 match aq.guard,aq.op,aq.dst with
 | none,.call ⟨.builtin .recover,args,_⟩,some d=>match args.toList with | []=>some d | _=>none
 | _,_,_=>none
def Hb(aq:Oper):Option (Nat×Nat) :=
 match aq.guard,aq.op,aq.dst with
 | none,.assign (.tmp d),some e=>some (d,e)
 | _,_,_=>none
def OY(P:Program)(fn:Func):Code→Option Ae
 | .seq (.region _ ops false) c =>
  match ops.toList with
  | [b9,cq]=>match Ku b9,Hb cq,comp P fn.ntmps c,ub P fn.results.toList with
   | some d,some (O3,e),some lc,some r=>if d=O3∧d<fn.ntmps∧e<fn.ntmps then some ⟨fn.ntmps,r,d,e,lc⟩ else none
   | _,_,_,_=>none
  | _=>none
 | _=>none
def Et(P:Program)(f:FuncId):Option Ae :=
 match P.funcs[f]? with
 | some fn=>match fn.body with | some c=>OY P fn c | none=>none
 | none=>none
def ng:FrameMode→Value×FrameMode
 | .panicking ({ v,recovered:=false,goexit:=false } :: adk)=>(v,.panicking ({ v,recovered:=true } :: adk))
 | u=>(.nilIface,u)
theorem aeu(c:Frame)(cs:List Frame):(match recoverD (c :: cs) with | some (v,hD)=>(v,hD) | none=>(.nilIface,c :: cs))=((ng c.mode).1,{ c with mode:=(ng c.mode).2 } :: cs):=by
 obtain⟨fn,tmps,todo,defers,mode,kind,ro⟩:=c;unfold recoverD ng;cases mode with
 | run=>rfl
 | returning=>rfl
 | panicking l =>
  cases l with
  | nil=>rfl
  | cons p r =>
   obtain⟨v,rc,ge⟩:=p;cases rc<;>cases ge<;>rfl
theorem aes{aq:Oper}{d:Nat}(h:Ku aq=some d):∃lA ty pos after,aq=⟨some d,.call ⟨.builtin .recover,#[],lA⟩,ty,pos,after,none⟩:=by
 obtain⟨dst,op,ty,pos,after,guard⟩:=aq;unfold Ku at h;split at h
 ·rename_i h1 U ai;simp only at h1 U ai;split at h
  ·rename_i aL;injection h with h
   have bn:=Array.toList_eq_nil_iff.1 aL;subst h1 U ai h bn;exact⟨_,_,_,_,rfl⟩
  ·cases h
 ·cases h
theorem VV{aq:Oper}{d e:Nat}(h:Hb aq=some (d,e)):∃ty pos after,aq=⟨some e,.assign (.tmp d),ty,pos,after,none⟩:=by
 obtain⟨dst,op,ty,pos,after,guard⟩:=aq;unfold Hb at h;split at h
 ·rename_i h1 U ai;simp only at h1 U ai;injection h with h
  injection h with bn bL
  subst h1 U ai bn bL;exact⟨_,_,_,rfl⟩
 ·cases h
theorem XS{P:Program}{f:FuncId}{L:Ae}(hm:P.follows .mixedOrders=true)(av:Et P f=some L){args:List Value}{u:FrameMode}{w:World}{R:Value→World→Prop}(br:args.length≤L.n)
  (h:dL P L.rest (AT L.res R) (b5 (b5 (gU args 0) L.d (ng u).1) L.e (ng u).1) w):CallsD P f args.toArray u w fun e iJ w'=>iJ=(ng u).2∧∃v,e = .returned v∧R v w':=by
 unfold Et at av;split at av
 ·rename_i fn qm;split at av
  ·rename_i c aD;unfold OY at av;split at av
   ·rename_i id ops lR;split at av
    ·rename_i b9 cq BF;split at av
     ·rename_i d O3 e lc r h1 U ai aL;split at av
      ·rename_i ZU;obtain⟨ZT,bs,he⟩:=ZU;subst ZT;injection av with av;subst av
       obtain⟨lA,af9,adR,VG,rfl⟩:=aes h1;obtain⟨aga,adS,VH,rfl⟩:=VV U;refine callsD_of_wpS qm aD fun yi cs hu=>?_;refine wpS_seq (wpS_region ?_);have c3:ops.size=2:=by rw[←Array.length_toList,BF];rfl
       have Ff:ops[0]? = ops.toList[0]? := by simp
       have IU:ops[1]? = ops.toList[1]? := by simp
       rw[BF] at Ff IU;simp only[List.getElem?_cons_zero,List.getElem?_cons_succ] at Ff IU;have bk:List.range ops.size=[0,1]:=by rw[c3];rfl
       rw[bk];have aaT:∀(ρ:Operand→Value),(execOp ρ ⟨some d,.call ⟨.builtin .recover,#[],lA⟩,af9,adR,VG,none⟩).run P w = .ok .recover w:=by
        intro ρ;simp[execOp,resolve,invoke,builtin,go_sem]
       have Fz:∀(dst:Option Nat) (op:Op) (ty:TypeId) (pos:String) (after:Array Edge) (y:Nat→Option Bool),Region.wanted (⟨dst,op,ty,pos,after,none⟩:Oper) y=true:=fun _ _ _ _ _ _=>rfl;have Z1:=H4 (n:=fn.ntmps) br;have key:∀(v:Value) (hD:List Frame),dL P lc (AT r R) (b5 (b5 (gU args 0) d v) e v) w→(hD = { yi with mode:=(ng u).2 } :: cs) →
         wpOpsS P ops (Exit.thenS (lR.wpS P (bodyPostS P fn yi cs fun e iJ w'=>iJ=(ng u).2∧∃v,e = .returned v∧R v w')) (bodyPostS P fn yi cs fun e iJ w'=>iJ=(ng u).2∧∃v,e = .returned v∧R v w')) [1]
          (({ tmps:=args.toArray++Array.replicate (fn.ntmps - args.toArray.size) undef,defers:=[] }:Act).put (some d) v) hD w:=by
        intro v hD aU fR;have Fc:=Z1.put (d:=some d) (by simpa[uc] using bs) v;have aw:(execOp (({ tmps:=args.toArray++Array.replicate (fn.ntmps - args.toArray.size) undef,defers:=[] }:Act).put (some d) v).eval ⟨some e,.assign (.tmp d),aga,adS,VH,none⟩).run P w = .ok (.value v) w:=by
         rw[Fc.eval];simp[execOp,a7,bt.put,b5]
        simp only[wpOpsS,IU,Fz,if_true,aw];rw[Oper.upon_value];have mY:=Fc.put (d:=some e) (by simpa[uc] using he) v;refine wpS_of_wp ((wpIn_wide (n:=0)).1 (wpIn_mono (sound (ds:=[]) (r:=none) (m:=0) hm lR lc ai _ _ _ w mY aU) fun x a4 bo aF=>?_));cases x with
        | normal =>
         obtain⟨pZ,nM,aF⟩:=aF;obtain⟨vs,bL,b7⟩:=pN nM _ _ _ aL aF;exact⟨nM.1,_,fR,_,s9 bL,rfl,_,rfl,b7⟩
        | ret =>
         obtain⟨pZ,nM,aF⟩:=aF;obtain⟨vs,bL,b7⟩:=pN nM _ _ _ aL aF;exact⟨nM.1,_,fR,_,s9 bL,rfl,_,rfl,b7⟩
        | exit i=>obtain⟨pZ,nM,aF⟩:=aF;exact aF.elim
        | panic q2=>obtain⟨pZ,nM,aF⟩:=aF;exact aF.elim
        | _=>exact aF.elim
       have oO:=aeu yi cs;rw[hu] at oO;unfold wpOpsS;simp only[Ff,Fz,if_true,aaT];cases RA:recoverD (yi :: cs) with
       | none =>
        rw[RA] at oO;injection oO with bT bg
        exact key .nilIface (yi :: cs) (by rw[bT];exact h) bg
       | some agn =>
        obtain⟨v,hD⟩:=agn;rw[RA] at oO;injection oO with bT bg
        exact key v hD (by rw[bT];exact h) bg
      ·cases av
     ·cases av
    ·cases av
   ·cases av
  ·cases av
 ·cases av
end bt
namespace bt
open Go Go.RowKit
def GM(P:Program)(v:Value)(K:FuncId→Array Value→Prop):Prop := ∃f cap,v = .func (.func f) #[] cap∧okF P f=true∧K f cap
section
variable{P:Program}{S:Fr}{w:World}{res:List lK}{R:Value→World→Prop}
theorem K.afL{f:FuncId}{L:xA}(hm:P.follows .mixedOrders=true)(av:Es P f=some L){args:List Value}(br:args.length≤L.n)
  (h:dQ P L.pre (hR (fun S w=>iI P L.bX S w (fun S w=>GM P (a7 S L.fn) fun g cap=>dQ P L.rest (AU P L.res g cap R) S w ⟨⟩) ⟨⟩) (fun _ _ _=>False) ⟨⟩) (gU args 0) w ⟨⟩):bq P f args.toArray w R:=by
 refine XR hm av br ?_;unfold dQ hR iI GM at h;exact h
theorem K.defer{g:FuncId}{cap:Array Value}{K:FuncId→Array Value→Prop}(dd:okF P g=true)(h:K g cap):GM P (.func (.func g) #[] cap) K:=⟨g,cap,rfl,dd,h⟩
theorem K.XA{g:FuncId}{cap:Array Value}(h:qT P g cap .returning w fun w'=>hB res S w' (fun vs=>R (fS vs) w') ⟨⟩):AU P res g cap R .ret S w:=by
 unfold hB at h;exact h
theorem K.Xz{g:FuncId}{cap:Array Value}{c:List PanicEntry}(h:qT P g cap (.panicking c) w fun w'=>hB res S w' (fun vs=>R (fS vs) w') ⟨⟩):AU P res g cap R (.fC c) S w:=by
 unfold hB at h;exact h
theorem qT.of{g:FuncId}{cap:Array Value}{u zJ:FrameMode}{Ah Ai:World→Prop}(h:CallsD P g cap u w fun e iJ w'=>iJ=zJ∧∃v,e = .returned v∧Ah w')(ay:settle zJ = .returning)(hk:∀w',Ah w'→Ai w'):qT P g cap u w Ai :=
 CallsD.mono h fun e iJ w' ⟨h1,v,U,ai⟩=>⟨⟨v,U⟩,by rw[h1];exact ay,hk _ ai⟩
theorem K.Up{f:FuncId}{L:Ae}(hm:P.follows .mixedOrders=true)(av:Et P f=some L){args:List Value}{u:FrameMode}(br:args.length≤L.n)
  (h:dQ P L.rest (sd L.res R ⟨⟩) (b5 (b5 (gU args 0) L.d (ng u).1) L.e (ng u).1) w ⟨⟩):CallsD P f args.toArray u w fun e iJ w'=>iJ=(ng u).2∧∃v,e = .returned v∧R v w':=by
 refine XS hm av br ?_;unfold dQ sd at h;exact h
theorem TU(d:Nat){t:TypeId}{ms:Array (String×TypeId)}(h:P.underlying t=some (.interface ms))(w:World):(Op.equalIn (d+1) t .nilIface .nilIface).run P w = .ok true w∧∀T v,(Op.equalIn (d+1) t (.iface T v) .nilIface).run P w = .ok false w:=by
 constructor
 ·simp[Op.equalIn,run_underlying h]
 ·intro T v;simp[Op.equalIn,run_underlying h]
theorem RS{t:TypeId}(h:(P.underlying t).map uO=some true):∃ms,P.underlying t=some (.interface ms):=by
 obtain⟨d,bs,ad⟩:=Option.map_eq_some_iff.1 h;cases d<;>first | exact⟨_,bs⟩ | (simp[uO] at ad;done)
theorem K.acY{hf:TypeId}{x:Operand}{v:Value}{aE:Value→Prop}{t}(h:(P.underlying hf).map uO=some true)(hk:aE (.bool false)):gv P .neq hf x (.const v) .nilIface .nilIface aE t :=
 K.bin (v:=.bool false) (fun w=>by
  obtain⟨ms,h⟩:=RS h;have h1:=(TU 9999 h w).1;have U:(Op.equalIn Op.maxDepth hf .nilIface .nilIface).run P w = .ok true w:=h1;cases x<;>simp[eqGuard,binOp,Op.equal,go_sem,U,Result.andThen]) hk
theorem K.acZ{hf T:TypeId}{x y:Operand}{v:Value}{aE:Value→Prop}{t}(h:(P.underlying hf).map uO=some true)(hk:aE (.bool true)):gv P .neq hf x y (.iface T v) .nilIface aE t :=
 K.bin (v:=.bool true) (fun w=>by
  obtain⟨ms,h⟩:=RS h;have U:(Op.equalIn Op.maxDepth hf (.iface T v) .nilIface).run P w = .ok false w:=(TU 9999 h w).2 T v;simp[eqGuard,binOp,Op.equal,go_sem,U,Result.andThen]) hk
theorem K.VW{x:Operand}{UW T ty:TypeId}{v:Value}{cY:Value→World→Prop}{t}(aw:a7 S x = .iface T v)(h:(P.underlying T).map uO=some false)(hk:cY (.tuple #[v,.bool true]) w):tF P (.typeAssert x UW T true) ty S w cY t:=by
 refine K.raw (v:=.tuple #[v,.bool true]) (w':=w) ?_ hk;obtain⟨d,bs,ad⟩:=Option.map_eq_some_iff.1 h;have h1:(Instr.typeAssert (.iface T v) UW T true).run P w = .ok (.tuple #[v,.bool true]) w:=by
  cases d<;>first | (simp[uO] at ad;done) | (simp[Instr.typeAssert,run_underlying bs])
 simp[execOp,aw,h1,Result.andThen]
end
end bt
end
section
namespace Go.Proofs.R
open Go bt Go.Proofs
abbrev F.n:FuncId:=110
def L3.y:xA:=⟨16,[.hC 4 2], (.bC [aC 1 (.box T.b (ab 0)),aC 2 (.new T.t (.agg #[ak,ak,ak,ak]))]),
 [aY 4 (.j0 F.n [] [(ab 2)])],(ab 4), (J [aC 5 .oR,I 3 5] (.seq (.eQ [bl 6 5 1,I 7 3] (some 8) F.bQ [(ab 6),(ab 7)]) (.seq (.eQ [bl 9 5 1,I 10 3] (some 11) F.ny [(ab 9),(ab 10)]) (.seq (.eQ [bl 12 5 1,I 13 3] (some 14) F.pf [(ab 12),(ab 13)]) (J [aY 15 (.cA [ak,ak,ak,ak] [(0,1),(1,1),(2,1),(3,1)] []),cc 4 2 15] .ret)))))⟩
theorem U6.y:Es Tryz.prog F.y=some L3.y:=by kernel_rfl
def GL.n:Ae:=⟨17,[],4,1, (J [I 5 1,aY 6 (.bin .neq T.nw (ab 5) (.const .nilIface))] (aB 6 (J [I 8 1,aC 9 (.raw (.typeAssert (ab 8) T.nw T.am true) T.a2),I 7 9,bx 10 7 0,bx 11 7 1,aC 2 (.new T.am (.agg #[ak,ak,ak,ak])),cc 4 2 10,I 3 11] (.seq (J [I 12 3,aY 13 (.un .not (ab 12))] (aB 13 (.pM [I 14 1] (ab 14)) .skip)) (.bC [af 15 0 2,bl 16 4 15,cc 4 0 16]))) .skip))⟩
theorem L8.n:Et Tryz.prog F.n=some GL.n:=by kernel_rfl
end Go.Proofs.R
end