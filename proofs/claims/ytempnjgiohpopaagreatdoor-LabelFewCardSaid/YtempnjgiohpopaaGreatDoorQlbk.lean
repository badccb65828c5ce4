/- Texts joined: CmdC ProcI ProcJ ProcK RefP ExprT ExprG ExprH ExprI ExprJ RefA RefB RefC. -/
import Derived.Test.YtempnjgiohpopaaGreatDoorQlbd
import Derived.Test.YtempnjgiohpopaaGreatDoorQlbg
import Derived.Test.YtempnjgiohpopaaGreatDoorQlbh
import Derived.Test.YtempnjgiohpopaaGreatDoorQlbi
import Derived.Test.YtempnjgiohpopaaGreatDoorQlbj
set_option linter.all false
set_option maxRecDepth 8000
set_option maxHeartbeats 16000000
section
namespace Go.Proofs.R
open Go Go.RowKit bn
theorem Pd(n:Int)(p:o.dx)(oA oz:Value)(w:World)(b:Nat)(aA:w.heap[b]? = some (.cells (p.enc oA oz).toArray T.i)) :
  bw Tryz.prog F.n3 #[.int .i64 n,.pointer (some ⟨b,0,none⟩)] w fun v w'=>v = .bool (decide (n<0∨p.cq≤n))∧w'=w:=by
 refine bO E.n3 ?_;refine bH ?_;refine aa ?_;apply K.cond<;>intro g1
 ·refine aa ?_;exact⟨by simp[g1],bq⟩
 refine aa ?_;exact⟨by simp[g1],bq⟩
theorem Yi(c:o.ft)(jD gK:Value)(p:o.dx)(oA oz:Value)(w:World)(a1:gf w)(aM:o.h2 c.name)(bD:o.qj w gK c.di) :
  bw Tryz.prog F.d7 #[.agg (c.enc jD gK).toArray,.agg (p.enc oA oz).toArray] w fun v w'=>v = .int .i64 (o.head c p.cq)∧Ext w w':=by
 obtain⟨bf,cap,rfl,hlen⟩:=bD.form;refine bO E.d7 ?_;refine bH ?_;refine aa ?_;intro ar bz cN aE al;refine aa ?_;intro aW ch en aF aO;have he:=aE.trans aF;have al:=aF.obj al;refine aa ?_;refine K.call (Eo c.name aW (a1.ext he) aM) ?_;rintro _ bh ⟨rfl,av⟩;have al:=av.obj al;have aO:=av.obj aO;have rP:=he.trans av;rw[o.head];refine aa ?_;refine K.c3 (fun g1=>?_) (fun g1=>?_);rotate_left
 ·refine aa ?_;exact⟨by simp[g1],fc⟩
 refine aa ?_;refine K.ln (first:=[]) (cap:=[_]) (by kernel_rfl) (Pd c.from_ p oA oz bh ch aO) ?_;rintro _ _ ⟨rfl,rfl⟩;refine aa ?_;apply K.cond<;>intro g2
 ·refine aa ?_;refine⟨?_,fc⟩;rw[if_neg (by simp[g1]),if_pos (by omega)]
 refine aa ?_;refine K.ln (first:=[]) (cap:=[_]) (by kernel_rfl) (Pd c.to p oA oz _ ch aO) ?_;rintro _ _ ⟨rfl,rfl⟩;refine aa ?_;apply K.cond<;>intro g3
 ·refine aa ?_;refine⟨?_,fc⟩;rw[if_neg (by simp[g1]),if_pos (by omega)]
 refine aa ?_;apply K.cond<;>intro g4
 ·refine aa ?_;refine⟨?_,fc⟩;rw[if_neg (by simp[g1]),if_neg (by omega),if_pos (by omega)]
 ·refine aa ?_;refine⟨?_,fc⟩;rw[if_neg (by simp[g1]),if_neg (by omega),if_neg (by omega)]
theorem Vj(c:o.ft)(jD gK:Value)(p:o.dx)(oA oz:Value)(cs:List Value)(s:o.Scope)(w:World)(a1:gf w)(aM:o.h2 c.name)(aX:o.gG w jD c.guard)(bD:o.qj w gK c.di)
  (aS:o.gL w oA p.vars)(ay:o.pq w oz p.c7)(h:o.e5 w cs s) :
  bw Tryz.prog F.ds #[.agg (c.enc jD gK).toArray,.agg (p.enc oA oz).toArray,.agg cs.toArray] w fun v w' =>
   v = .tuple #[.int .i64 (o.jm c p.cq s).1,.int .i64 (o.jm c p.cq s).2]∧Ext w w':=by
 obtain⟨a0,bR,dF,c1,a2,c2,a3,bN,a4,bX,rfl,_⟩:=h.form;obtain⟨bf,cap,rfl,hlen⟩:=bD.form;obtain⟨Bu,UJ,rfl,YR⟩:=aX.form;obtain⟨_,_,rfl,_⟩:=aS.form;obtain⟨_,_,rfl,_⟩:=ay.form;refine bO E.ds ?_;refine bH ?_;refine aa ?_;intro ar bz cN aE al;refine aa ?_;intro aW ch en aF aO;refine aa ?_;intro bh cE gh av bA;have he:=(aE.trans aF).trans av;have al:=(aF.trans av).obj al;have aO:=av.obj aO;refine aa ?_;refine K.call (Yi c _ _ p _ _ bh (a1.ext he) aM (bD.ext he)) ?_;rintro _ bj ⟨rfl,aH⟩;have al:=aH.obj al;have bA:=aH.obj bA;have nn:=he.trans aH;rw[o.jm];refine aa ?_;apply K.cond<;>intro g1;rotate_left
 ·refine aa ?_;exact⟨by simp[g1],fc⟩
 rw[if_neg (by simpa using g1)];have bM:=(o.Yh g1).2.2.2.2.2;refine eD ?_;refine K.hU [3,4,5] (fun _=>[]) (fun(_:Unit) w'=>Ext bj w'∧¬(c.guard.length > 0∧o.asked c.guard 1 s≠0)) ?_ ?_
 ·refine aa ?_;apply K.cond<;>intro g2
  ·refine aa ?_;refine K.call (FW _ c.guard 1 _ s bj (aX.ext nn) (h.ext nn)) ?_;rintro _ bF ⟨rfl,a8⟩;refine aa ?_;apply K.cond<;>intro g3
   ·refine aa ?_;exact⟨(),trivial,fc,fun cR=>cR.2 g3⟩
   ·refine aa ?_;rw[if_pos ⟨by omega,g3⟩];exact b2
  ·refine aa ?_;exact⟨(),trivial,fc,fun cR=>g2 (by omega)⟩
 rintro _ S bF ⟨a8,Ac⟩;have al:=a8.obj al;have bA:=a8.obj bA;have DB:=nn.trans a8;rw[if_neg Ac];refine aa ?_;refine K.cV 34 c.di.length [3,4,5,32,33] (fun b=>[(10,.bool b)]) false (fun k b w'=>Ext bF w'∧o.kD s c.di 0 false=o.kD s (c.di.drop k) k b) bp bp ⟨Ext.refl _,by simp⟩ ?_;rintro k b S bV hk ⟨bo,ct⟩;have xm:=DB.trans bo;refine aa ?_;apply K.cond<;>intro g1
 ·have bd:k<c.di.length:=by omega
  obtain⟨a,rfl⟩:=bD.addr (by omega);obtain⟨cB,cF,kP,fv,p2⟩:=bD.at k bd;obtain⟨_,_,rfl,_⟩:=fv.form;obtain⟨_,_,rfl,_⟩:=p2.form;rw[o.FO bd] at ct;refine aa ?_;intro cc wM kO bY er;refine eD ?_;intro dq kd fp;have rR:=kd.ext bY kO;have DD:=xm.trans rR;have bA:=(bo.trans rR).obj bA;refine eD ?_;refine K.hU [3,5,10,11,12,32,33,34] (fun _=>[]) (fun(_:Unit) w'=>Ext dq w'∧¬(o.hh c.di[k]&&b)=true) ?_ ?_
  ·refine aa ?_;refine K.call (SH c.di[k] _ _ dq) ?_;rintro _ dE ⟨rfl,cv⟩;refine aa ?_;refine K.c3 (fun g2=>?_) (fun g2=>?_)
   ·refine aa ?_;refine K.c3 (fun g3=>?_) (fun g3=>?_)
    ·refine aa ?_;rw[ct,if_pos (by simp[g2,g3])];exact b2
    ·refine aa ?_;exact⟨(),trivial,fc,by simp[g3]⟩
   ·refine aa ?_;exact⟨(),trivial,fc,by simp[g2]⟩
  rintro _ S dE ⟨cv,g2⟩;rw[if_neg g2] at ct;have fp:=cv.obj fp;have bA:=cv.obj bA;refine eD ?_;refine K.hU [3,5,11,12,32,33,34] (fun u=>[(10,.bool u)]) (fun u w'=>Ext dE w'∧u=(b||o.hh c.di[k])) ?_ ?_
  ·refine aa ?_;refine K.c3 (fun g3=>?_) (fun g3=>?_)
   ·refine aa ?_;exact⟨true,bp,fc,by simp[g3]⟩
   ·refine aa ?_;refine K.call (SH c.di[k] _ _ dE) ?_;rintro _ fl ⟨rfl,cO⟩;refine aa ?_;exact⟨o.hh c.di[k],bp,fc,by simp[g3]⟩
  rintro _ S fl ⟨cO,rfl⟩;have fp:=cO.obj fp;have bA:=cO.obj bA;have Hl:=(DD.trans cv).trans cO;have agd:=((bo.trans rR).trans cv).trans cO;refine aa ?_;refine K.call (TQ c.di[k] _ _ _ s fl (fv.ext Hl) (p2.ext Hl) (h.ext Hl)) ?_;rintro _ gd ⟨rfl,fg⟩;refine aa ?_;apply K.cond<;>intro g3
  ·refine aa ?_;rw[if_neg (by simpa using g3)] at ct;exact⟨bd,bq,_,bp,fc,ct⟩
  ·refine aa ?_;rw[ct,if_pos g3];exact b2
 ·refine aa ?_;rw[ct,List.drop_eq_nil_of_le (by omega)];exact b2
end Go.Proofs.R
end
section
namespace o
theorem Q2{s:Scope}{l:List Var}{k:Nat}(h:k<l.length):ny s (l.drop k) k=if l[k].over≠0 then ((k:Int),9) else if s.vars.any (fun x=>decide (x.name=l[k].name)) then ((k:Int),7) else ny s (l.drop (k+1)) (k+1):=by
 rw[List.drop_eq_getElem_cons h];rfl
theorem Nu{own:Scope}{cq:Int}{all l:List ft}{k:Nat}(h:k<l.length):kF own cq all (l.drop k) k=if (jm l[k] cq own).2≠0 then (2+(k:Int),(jm l[k] cq own).1,(jm l[k] cq own).2)
  else if (all.take k).any (fun x=>decide (x.name=l[k].name)) then (2+(k:Int),0,7) else kF own cq all (l.drop (k+1)) (k+1):=by
 rw[List.drop_eq_getElem_cons h];rfl
end o
namespace Go.Proofs.R
open Go Go.RowKit bn
theorem aeT(p:o.dx)(cw cP:Option Addr)(nz bN bX:Nat)(cs:List Value)(s:o.Scope)(w:World)(a1:gf w)(aM:o.h2 p.name)(h:o.e5 w cs s) :
  bw Tryz.prog F.zr #[.agg (p.enc (.slice cw nz bN) (.slice cP p.c7.length bX)).toArray,.agg cs.toArray] w fun v w'=>v = .int .i64 (o.whole p s)∧Ext w w':=by
 obtain⟨a0,bR,dF,c1,a2,c2,a3,d3,a4,d4,rfl,ak,h1,U,ai,aL,et,dY,eg,dK,ed⟩:=h.form;refine bO E.zr ?_;refine bH ?_;refine aa ?_;intro ar bz cN aE al;refine aa ?_;intro aW ch en aF aO;have cQ:∀{w'},Ext aW w'→Ext w w':=fun e=>(aE.trans aF).trans e;have al:=aF.obj al;refine aa ?_;refine K.call (Eo p.name aW (a1.ext (cQ (Ext.refl _))) aM) ?_;rintro _ bh ⟨rfl,av⟩;have al:=av.obj al;have aO:=av.obj aO;rw[o.whole];refine aa ?_;refine K.c3 (fun g1=>?_) (fun g1=>?_);rotate_left
 ·refine aa ?_;exact⟨by rw[if_pos g1],cQ av⟩
 rw[if_neg (by simp[g1])];refine aa ?_;apply K.cond<;>intro g2
 ·refine aa ?_;exact⟨by rw[if_pos (.inl g2)],cQ av⟩
 refine aa ?_;apply K.cond<;>intro g3
 ·refine aa ?_;exact⟨by rw[if_pos (.inr (by omega))],cQ av⟩
 rw[if_neg (by omega)];refine aa ?_;apply K.cond<;>intro g4
 ·refine aa ?_;exact⟨by rw[if_pos (.inl g4)],cQ av⟩
 refine aa ?_;apply K.cond<;>intro g5
 ·refine aa ?_;exact⟨by rw[if_pos (.inr (by omega))],cQ av⟩
 rw[if_neg (by omega)];refine aa ?_;apply K.cond<;>intro g6
 ·refine aa ?_;exact⟨by rw[if_pos (by omega)],cQ av⟩
 refine aa ?_;exact⟨by rw[if_neg (by omega)],cQ av⟩
theorem aaK(x v:o.Var)(b:Nat)(w:World)(ay:w.heap[b]? = some (.cells v.enc.toArray T.h)) :
  bw Tryz.prog F.bz #[.agg x.enc.toArray,.pointer (some ⟨b,0,none⟩)] w fun u w'=>u = .bool (decide (x.name=v.name))∧Ext w w':=by
 refine bO E.bz ?_;refine bH ?_;refine aa ?_;intro ar bz cN aE al;refine aa ?_;exact b2
theorem Vh(x c:o.ft)(cu cA cw cP:Option Addr)(l9 jR nz si c1 c2 bN bX:Nat)(b:Nat)(w:World)(ay:w.heap[b]? = some (.cells (c.enc (.slice cw nz bN) (.slice cP si bX)).toArray T.q)) :
  bw Tryz.prog F.wU #[.agg (x.enc (.slice cu l9 c1) (.slice cA jR c2)).toArray,.pointer (some ⟨b,0,none⟩)] w fun u w'=>u = .bool (decide (x.name=c.name))∧Ext w w':=by
 refine bO E.wU ?_;refine bH ?_;refine aa ?_;intro ar bz cN aE al;refine aa ?_;exact b2
theorem aaL(p:o.dx)(cw cP:Option Addr)(bN si bX:Nat)(cs:List Value)(s:o.Scope)(w:World)(a1:gf w)(aS:o.gL w (.slice cw p.vars.length bN) p.vars)(h:o.e5 w cs s) :
  bw Tryz.prog F.zs #[.agg (p.enc (.slice cw p.vars.length bN) (.slice cP si bX)).toArray,.agg cs.toArray] w fun v w'=>v = .tuple #[.int .i64 (o.kg p s).1,.int .i64 (o.kg p s).2]∧Ext w w':=by
 obtain⟨a0,bR,dF,c1,a2,c2,a3,d3,a4,d4,rfl,ak,h1,U,ai,aL,et,dY,eg,dK,ed⟩:=h.form;have fA:p.vars.length≤9223372036854775807:=by have:=(bE.len aS).2;unfold maxLen at this;omega
 refine bO E.zs ?_;refine bH ?_;refine aa ?_;intro ar bz cN aE al;refine aa ?_;intro aW ch en aF aO;have cQ:∀{w'},Ext aW w'→Ext w w':=fun e=>(aE.trans aF).trans e;have al:=aF.obj al;refine aa ?_;refine K.call (S1 _ _ p.vars s.scalars 4 aW (a1.ext (cQ (Ext.refl _))) (aS.ext (cQ (Ext.refl _))) (ak.ext (cQ (Ext.refl _)))) ?_;rintro _ bh ⟨rfl,av⟩;have al:=av.obj al;have aO:=av.obj aO;rw[o.kg];refine aa ?_;apply K.cond<;>intro g1;rotate_left
 ·refine aa ?_;exact⟨by rw[if_pos g1],cQ av⟩
 rw[if_neg (by simpa using g1)];have eG:∀{w'},Ext bh w'→Ext w w':=fun e=>cQ (av.trans e);refine aa ?_;refine K.cV 25 p.vars.length [3,23,24] (fun _=>[]) () (fun k _ w'=>Ext bh w'∧o.ny s p.vars 0=o.ny s (p.vars.drop k) k) bp bp ⟨Ext.refl _,by simp⟩ ?_;rintro k _ S bj hk ⟨aH,ct⟩;refine aa ?_;apply K.cond<;>intro g2
 ·have bd:k<p.vars.length:=by omega
  obtain⟨a,rfl⟩:=aS.addr (by omega);replace aS:=aS.ext (eG (Ext.refl _));rw[o.Q2 bd] at ct;refine aa ?_;intro yy iY kv kS mD;refine aa ?_;intro bF eU cK;have a8:=eU.ext kS kv;refine aa ?_;apply K.cond<;>intro g3;rotate_left
  ·refine aa ?_;exact⟨by rw[ct,if_pos g3],eG (aH.trans a8)⟩
  rw[if_neg (by simpa using g3)] at ct;refine aa ?_;refine K.call (NC lz E.mz E.a7 _ s.vars bF (h1.ext (eG (aH.trans a8))) F.bz (by kernel_rfl) [] [_] (fun x=>decide (x.name=p.vars[k].name)) ?_) ?_
  ·rintro i ad hB w' e ⟨rfl,_⟩;exact aaK _ _ iY w' (e.obj cK)
  rintro _ bV ⟨rfl,bo⟩;refine aa ?_;refine K.c3 (fun g4=>?_) (fun g4=>?_)
  ·refine aa ?_;exact⟨by rw[ct,if_pos g4],eG ((aH.trans a8).trans bo)⟩
  ·refine aa ?_;exact⟨bd,bq,(),trivial,(aH.trans a8).trans bo,by rw[ct,if_neg (by simp[g4])]⟩
 ·refine aa ?_;exact⟨by rw[ct,List.drop_eq_nil_of_le (by omega)];rfl,eG aH⟩
theorem abU(p:o.dx)(Bw cs:List Value)(s:o.Scope)(w:World)(a1:gf w)(bg:o.sO w Bw p)(h:o.e5 w cs s)(aX:s.cM)(l5:p.cM) :
  bw Tryz.prog F.oS #[.agg Bw.toArray,.agg cs.toArray] w fun v w'=>v = .tuple #[.int .i64 (o.gS p s).1,.int .i64 (o.gS p s).2.1,.int .i64 (o.gS p s).2.2]∧Ext w w':=by
 obtain⟨a0,bR,dF,c1,a2,c2,a3,d3,a4,d4,rfl,ak,h1,U,ai,aL,et,dY,eg,dK,ed⟩:=h.form;obtain⟨aM,oA,oz,rfl,aS,oZ⟩:=bg;obtain⟨cw,bN,rfl,fA⟩:=aS.form;obtain⟨cP,bX,rfl,lc⟩:=oZ.form;have oY:p.c7.length≤140737488351232:=by have:=l5.c7;unfold o.dW at this;omega
 refine bO E.oS ?_;refine bH ?_;refine aa ?_;intro ar bz cN aE al;refine aa ?_;intro aW ch en aF aO;have cQ:∀{w'},Ext aW w'→Ext w w':=fun e=>(aE.trans aF).trans e;replace al:=aF.obj al;refine aa ?_;refine K.call (aeT p _ _ _ _ _ _ s aW (a1.ext (cQ (Ext.refl _))) aM (h.ext (cQ (Ext.refl _)))) ?_;rintro _ bh ⟨rfl,av⟩;replace al:=av.obj al;replace aO:=av.obj aO;have eG:∀{w'},Ext bh w'→Ext w w':=fun e=>cQ (av.trans e);rw[o.gS];refine aa ?_;apply K.cond<;>intro g1;rotate_left
 ·refine aa ?_;exact⟨by rw[if_pos g1],eG (Ext.refl _)⟩
 rw[if_neg (by simpa using g1)];refine aa ?_;refine K.call (aaL p _ _ _ _ _ _ s bh (a1.ext (eG (Ext.refl _))) (aS.ext (eG (Ext.refl _))) (h.ext (eG (Ext.refl _)))) ?_;rintro _ bj ⟨rfl,aH⟩;replace al:=aH.obj al;replace aO:=aH.obj aO;have ej:∀{w'},Ext bj w'→Ext w w':=fun e=>eG (aH.trans e);refine aa ?_;apply K.cond<;>intro g2;rotate_left
 ·refine aa ?_;exact⟨by rw[if_pos g2],ej (Ext.refl _)⟩
 rw[if_neg (by simpa using g2)];refine aa ?_;refine K.call (P9 p _ _ _ _ _ _ _ _ _ _ _ _ _ _ _ _ _ _ _ _ _ _ bj) ?_;rintro _ bF ⟨rfl,a8⟩;replace al:=a8.obj al;have jE:∀{w'},Ext bF w'→Ext w w':=fun e=>ej (a8.trans e);refine aa ?_;intro bV y7 Ds bo cW;replace al:=bo.obj al;have iq:∀{w'},Ext bV w'→Ext w w':=fun e=>jE (bo.trans e);have fz:∀w',Ext w w'→o.e5 w' [.slice a0 s.scalars.length bR,.slice dF s.vars.length c1,.slice a2 s.aK.length c2,.slice a3 s.procs.length d3,.slice cw p.vars.length bN,.int .i64 p.over] (o.inner p s):=fun w' e =>
  ⟨(aX.inner l5).oC.1,_,_,_,_,_,rfl,ak.ext e,h1.ext e,U.ext e,ai.ext e,aS.ext e,(aX.inner l5).oC.2⟩
 refine aa ?_;refine K.cV 37 p.c7.length [2,10,35,36] (fun _=>[]) () (fun k _ w'=>Ext bV w'∧o.kF (o.inner p s) p.cq p.c7 p.c7 0=o.kF (o.inner p s) p.cq p.c7 (p.c7.drop k) k) bp bp ⟨Ext.refl _,by simp⟩ ?_;rintro k _ S cc hk ⟨bY,ct⟩;replace al:=bY.obj al;replace cW:=bY.obj cW;refine aa ?_;apply K.cond<;>intro g3
 ·have bd:k<p.c7.length:=by omega
  obtain⟨a,rfl⟩:=oZ.addr (by omega);obtain⟨aw,jD,gK,pU,tC,r2⟩:=oZ.at k bd;obtain⟨Bu,Ge,rfl,aaF⟩:=tC.form;obtain⟨bf,jG,rfl,nx⟩:=r2.form;rw[o.Nu bd] at ct;replace pU:=pU.ext (iq (Ext.refl _));refine aa ?_;intro yy CM pS kS mD;refine aa ?_;intro dq kd fp;have cj:=kd.ext kS pS;replace al:=cj.obj al;replace cW:=cj.obj cW;have h4:∀{w'},Ext dq w'→Ext w w':=fun e=>iq ((bY.trans cj).trans e);clear mD kS;refine aa ?_;refine K.call (Vj p.c7[k] _ _ p _ _ _ (o.inner p s) dq (a1.ext (h4 (Ext.refl _))) aw (tC.ext (h4 (Ext.refl _))) (r2.ext (h4 (Ext.refl _))) (aS.ext (h4 (Ext.refl _))) (oZ.ext (h4 (Ext.refl _))) (fz _ (h4 (Ext.refl _)))) ?_;rintro _ dE ⟨rfl,cv⟩;replace al:=cv.obj al;replace fp:=cv.obj fp;have k8:∀{w'},Ext dE w'→Ext w w':=fun e=>h4 (cv.trans e);refine aa ?_;apply K.cond<;>intro g4;rotate_left
  ·refine aa ?_;exact⟨by rw[ct,if_pos g4],k8 (Ext.refl _)⟩
  rw[if_neg (by simpa using g4)] at ct;have oX:=(bE.len oZ).2.1;refine aa ?_;refine K.q5 (k:=.i64) k (by rfl) (by omega) ?_;refine aa ?_;refine K.call (NC lz E.es E.Df _ (p.c7.take k) dE ((oZ.head k (by omega)).ext o.uz.ext (k8 (Ext.refl _))) F.wU (by kernel_rfl) [] [_] (fun x=>decide (x.name=p.c7[k].name)) ?_) ?_
  ·rintro i ad hB w' e ⟨_,ahA,lM,rfl,ZI,ZH⟩;obtain⟨_,_,rfl,_⟩:=ZI.form;obtain⟨_,_,rfl,_⟩:=ZH.form;exact Vh _ _ _ _ _ _ _ _ _ _ _ _ _ _ CM w' (e.obj fp)
  rintro _ fl ⟨rfl,cO⟩;refine aa ?_;refine K.c3 (fun g5=>?_) (fun g5=>?_)
  ·refine aa ?_;exact⟨by rw[ct,if_pos g5],k8 cO⟩
  ·refine aa ?_;exact⟨bd,bq,(),trivial,((bY.trans cj).trans cv).trans cO,by rw[ct,if_neg (by simp[g5])]⟩
 ·refine aa ?_;exact⟨by rw[ct,List.drop_eq_nil_of_le (by omega)];rfl,iq bY⟩
end Go.Proofs.R
end
section
namespace bn
open Go Go.RowKit
theorem bE.Ni{α:Type}{R:World→Addr→α→Prop}{C:World→List Value→α→Prop}{sz:Nat}[Rel R C sz]{w:World}{b n:Nat}{e:TypeId}{cells:List Value}{xs:List α}(eE:List (mZ sz))(aA:w.heap[b]? = some (.cells cells.toArray e))(X2:cells=eE.flatMap qA)
  (aN:eE.length=xs.length)(aM:n=xs.length)(hm:xs.length≤maxLen)(ay:∀i (h1:i<eE.length) (U:i<xs.length),C w eE[i].1 xs[i]):bE sz R w (.slice (some ⟨b,0,none⟩) n n) xs:=by
 subst X2;exact bE.IY aN (bE.aR (enc:=qA) td aA (by omega) (by omega) fun _ _ _ h=>h) ay
end bn
namespace o
open Go
theorem r5{n:Int}(h : -1000≤n∧n≤1000):df n:=by unfold df;omega
theorem yq(a b:Int)(s:Scope):(jC a b s).2=((fZ a s).2&&(fZ b s).2)∧((jC a b s).2=true→(jC a b s).1=(if a=0 then 0 else 1+a)):=by
 unfold jC fZ;constructor
 ·(repeat' split)<;>first | rfl | (exfalso;omega)
 ·intro h
  (repeat' split)<;>first | rfl | (exfalso;omega) | simp_all
theorem NK{l:List Var}{n:Int}{s:Scope}(h:(fh l n s).2.2=false):declared l n s=none:=by
 unfold declared;unfold fh at h;cases aM:nth l n with
 | none=>rfl
 | some v =>
  rw[aM] at h;simp only at h ⊢;rw[if_neg];rw[(yq _ _ _).1,h];simp
theorem NM{l:List Var}{n:Int}{s:Scope}{x:Var}(h:(fh l n s).2.2=true)(aD:nth l n=some x):declared l n s=some (x,if x.scalar=0 then 0 else 1+x.scalar)∧0≤x.scalar∧x.scalar≤s.scalars.length∧0≤x.over∧x.over≤s.scalars.length:=by
 unfold fh at h;rw[aD] at h;simp only at h;have aG:(jC x.scalar x.over s).2=true:=by rw[(yq _ _ _).1];exact h
 refine⟨?_,?_⟩
 ·unfold declared;rw[aD];simp only;rw[if_pos aG,(yq _ _ _).2 aG]
 ·unfold jC at aG;split at aG
  ·cases aG
  ·omega
theorem U6{n:Int}{s:Scope}(h:¬(iz n s).2=0):channel n s=none:=by
 unfold channel;unfold iz at h;cases aM:nth s.aK n with
 | none=>rfl
 | some c =>
  rw[aM] at h;simp only at h ⊢;rw[if_neg];intro aG;rw[(yq _ _ _).1] at aG;simp only[Bool.and_eq_true] at aG;rw[if_pos aG.1] at h;exact h rfl
theorem U8{n:Int}{s:Scope}{c:dh}(h:(iz n s).2=0)(aD:nth s.aK n=some c):channel n s=some (if c.scalar=0 then 0 else 1+c.scalar)∧0≤c.scalar∧c.scalar≤s.scalars.length:=by
 unfold iz at h;rw[aD] at h;simp only at h;have h1:(fZ c.scalar s).2=true:=by
  cases hk:(fZ c.scalar s).2 with
  | true=>rfl
  | false=>rw[hk] at h;simp at h
 have aG:(jC c.scalar 0 s).2=true:=by rw[(yq _ _ _).1,h1];simp[fZ]
 refine⟨?_,?_⟩
 ·unfold channel;rw[aD];simp only;rw[if_pos aG,(yq _ _ _).2 aG]
 ·unfold jC at aG;split at aG
  ·cases aG
  ·omega
def jz(l:List Var)(n:Int)(s:Scope):Int×Int:=match declared l n s with | none=>(0,8) | some (v,k)=>if v.over≠0 then (0,9) else (k,0)
def vv(a:Act)(s:Scope):Int:=match declared s.vars a.to s with | none=>8 | some (v,k)=>if v.over=0 then 9 else if asked a.index (1+v.over) s≠0 then asked a.index (1+v.over) s else asked a.value k s
def jA(a:Act)(s:Scope)(comm:Bool):Int :=
 if a.kind<1∨5<a.kind then 3
 else if a.kind=2 then vv a s
 else if a.kind=1∨a.kind=3 then (if (jz (if a.kind=3 then s.locals else s.vars) a.to s).2≠0 then (jz (if a.kind=3 then s.locals else s.vars) a.to s).2 else asked a.value (jz (if a.kind=3 then s.locals else s.vars) a.to s).1 s)
 else if comm=true then 7
 else match channel a.to s with
  | none=>8
  | some k=>if a.kind=4 then asked a.value k s else if (jz s.locals a.loc s).2≠0 then (jz s.locals a.loc s).2 else if (jz s.locals a.loc s).1≠k then 9 else 0
theorem acz(a:Act)(s:Scope)(comm:Bool):jA a s comm=if hh a&&comm then 7 else mn a s:=by
 by_cases ak:a.kind<1∨5<a.kind
 ·have aG:hh a=false:=by unfold hh;rw[decide_eq_false_iff_not];omega
  unfold jA mn;rw[if_pos ak,aG,if_neg (by omega:¬(a.kind=1∨a.kind=2∨a.kind=3)),if_neg (by omega:¬(a.kind=4∨a.kind=5))];simp
 by_cases U:a.kind=2
 ·have aG:hh a=false:=by unfold hh;rw[decide_eq_false_iff_not];omega
  unfold jA mn;rw[if_neg ak,if_pos U,aG,if_pos (by omega:a.kind=1∨a.kind=2∨a.kind=3)];simp only[Bool.false_and,Bool.false_eq_true,if_false];rw[if_neg (by omega:¬a.kind=3)];unfold vv;cases bx:declared s.vars a.to s with
  | none=>rfl
  | some q =>
   obtain⟨v,k⟩:=q;simp only[U,true_and];by_cases aS:v.over=0
   ·simp[aS]
   ·simp[aS]
 by_cases h1:a.kind=1∨a.kind=3
 ·have aG:hh a=false:=by unfold hh;rw[decide_eq_false_iff_not];omega
  unfold jA mn;rw[if_neg ak,if_neg U,if_pos h1,aG,if_pos (by omega:a.kind=1∨a.kind=2∨a.kind=3)];simp only[Bool.false_and,Bool.false_eq_true,if_false];unfold jz;cases bx:declared (if a.kind=3 then s.locals else s.vars) a.to s with
  | none=>simp
  | some q =>
   obtain⟨v,k⟩:=q;simp only[U,false_and,if_false];by_cases aS:v.over=0
   ·simp[aS]
   ·simp[aS]
 ·have Xi:a.kind=4∨a.kind=5:=by omega
  have aG:hh a=true:=by unfold hh;rw[decide_eq_true_eq];omega
  unfold jA mn;rw[if_neg ak,if_neg U,if_neg h1,aG,if_neg (by omega:¬(a.kind=1∨a.kind=2∨a.kind=3)),if_pos Xi];simp only[Bool.true_and];cases comm with
  | true=>simp
  | false =>
   simp only[Bool.false_eq_true,if_false];cases ay:channel a.to s with
   | none=>rfl
   | some k =>
    simp only;by_cases aL:a.kind=4
    ·rw[if_pos aL,if_neg (by omega:¬a.kind=5)]
    ·rw[if_neg aL,if_pos (by omega:a.kind=5)];unfold jz EE;cases bx:declared s.locals a.loc s with
     | none=>simp
     | some q =>
      obtain⟨v,k'⟩:=q;simp only;by_cases aS:v.over=0
      ·simp[aS]
      ·simp[aS]
end o
end
section
set_option linter.unusedSimpArgs false
namespace Go.Proofs.R
open Go Go.RowKit bn
theorem SG(op:Int)(w:World):bw Tryz.prog F.xV #[.int .i64 op] w fun v w'=>v = .int .i64 (o.eI op)∧w'=w:=by
 have key:∀n:Int,(if op=3 then (1:Int) else if 1≤op∧op≤8 then 0 else if op=9∨op=10 then 1 else if 11≤op∧op≤19 then 2 else -1)=n→o.eI op=n:=fun _ h=>h;refine bO E.xV ?_;refine bH ?_
 (repeat' (refine aC ?_;first | (refine K.cond (fun _=>?_) (fun _=>?_)<;>try (exfalso;omega)) | refine K.c3 (fun _=>?_) (fun _=>?_)))<;>try refine aC ?_
 all_goals
  refine⟨?_,bq⟩;congr 1;refine(key _ ?_).symm
  (repeat' split)<;>first | rfl | (exfalso;omega)
theorem Et{x:Int}(h:o.eI x=0):1≤x∧x≤8∧x≠3∧o.fS x=none:=by
 have h1:1≤x∧x≤8∧x≠3:=by unfold o.eI at h; (repeat' split at h)<;>omega
 exact⟨h1.1,h1.2.1,h1.2.2,o.I0 (by simp[o.tI];omega)⟩
theorem Rk{x:Int}(h:o.eI x=1):x=3∨x=9∨x=10:=by unfold o.eI at h; (repeat' split at h)<;>omega
theorem Eu{x:Int}(h:o.eI x=2):11≤x∧x≤19:=by unfold o.eI at h; (repeat' split at h)<;>omega
theorem Rq{x:Int}(h:9≤x∧x≤19):∃aj,o.fS x=some aj∧aj.parts=o.eI x:=by
 cases a1:o.fS x with
 | some aj=>exact⟨aj,rfl,(o.Bv a1).1⟩
 | none =>
  exfalso;unfold o.fS at a1
  (repeat' split at a1)
  all_goals first | (cases a1;done) | omega
theorem Gu{st:List Int}(h:1≤st.length):st.drop (st.length - 1)=[st[st.length - 1]]:=by
 rw[List.drop_eq_getElem_cons (by omega),List.drop_eq_nil_of_le (by omega)]
theorem NN{st:List Int}(h:2≤st.length):st.drop (st.length - 2)=[st[st.length - 2],st[st.length - 1]]:=by
 rw[List.drop_eq_getElem_cons (by omega)];have e:st.length - 2+1=st.length - 1:=by omega
 congr 1;rw[e];exact Gu (by omega)
theorem oT:∀y,∀u∈encI y,u.oneCell'=true:=fun y u h=>by simp[encI] at h;subst h;rfl
end Go.Proofs.R
end
section
set_option linter.unusedSimpArgs false
namespace Go.Proofs.R
open Go Go.RowKit bn
theorem Jl(n:Int)(cs:List Value)(s:o.Scope)(w:World)(h:o.e5 w cs s) :
  bw Tryz.prog F.vD #[.int .i64 n,.agg cs.toArray] w fun v w'=>v = .bool (o.fZ n s).2∧Ext w w':=by
 obtain⟨a0,bR,dF,c1,a2,c2,a3,bN,a4,bX,rfl,ak,h1,U,ai,aL,et,dY,eg,dK,ed⟩:=h.form;refine bO E.vD ?_;refine bH ?_;refine aC ?_;refine K.new fun ar b aA aE al=>?_
 (repeat' (refine aC ?_;first | (refine K.cond (fun _=>?_) (fun _=>?_)<;>try (exfalso;omega)) | refine K.c3 (fun _=>?_) (fun _=>?_)))<;>try refine aC ?_
 all_goals
  refine⟨?_,fc⟩;congr 1;unfold o.fZ
  (repeat' split)<;>first | rfl | (exfalso;omega) | (simp;omega)
def kindOf(n:Int):Int:=if n=0 then 0 else 1+n
theorem Ed(n:Int)(w:World)(h:0≤n∧n≤4611686018427387904):bw Tryz.prog F.p3 #[.int .i64 n] w fun v w'=>v = .int .i64 (kindOf n)∧w'=w:=by
 refine bO E.p3 ?_;refine bH ?_
 (repeat' (refine aC ?_;first | (refine K.cond (fun _=>?_) (fun _=>?_)<;>try (exfalso;omega)) | refine K.c3 (fun _=>?_) (fun _=>?_)))<;>try refine aC ?_
 all_goals
  refine⟨?_,bq⟩;congr 1;unfold kindOf;split<;>first | rfl | (exfalso;omega)
theorem QB{n:Int}{s:o.Scope}(h:(o.fZ n s).2=true):0≤n∧n≤s.scalars.length∧(o.fZ n s).1=kindOf n:=by
 unfold o.fZ kindOf at *
 (repeat' split at h) <;> (repeat' split)<;>first | (cases h;done) | (refine⟨by omega,by omega,?_⟩;first | rfl | omega) | (exfalso;omega)
theorem BL(v:Value)(l:List o.Var)(n:Int)(cs:List Value)(s:o.Scope)(w:World)(aN:o.gL w v l)(h:o.e5 w cs s) :
  bw Tryz.prog F.tL #[v,.int .i64 n,.agg cs.toArray] w fun v w' =>
   (∃x:o.Var,v = .tuple #[.agg x.enc.toArray,.bool (o.fh l n s).2.2]∧((o.fh l n s).2.2=true→o.nth l n=some x))∧Ext w w':=by
 obtain⟨a0,bR,dF,c1,a2,c2,a3,bN,a4,bX,rfl,_⟩:=h.form;obtain⟨bf,cap,rfl,hlen⟩:=aN.form;refine bO E.tL ?_;refine bH ?_;refine aC ?_;refine K.new fun ar b aA aE al=>?_;refine aC ?_;refine K.new fun aW ch en aF aO=>?_;have he:=aE.trans aF;have jt:=aF.obj al;refine aC ?_;apply K.cond<;>intro g1
 ·have hk:(o.fh l n s).2.2=false:=by rw[o.fh,o.ga (.inl g1)]
  refine aC ?_;intro bh av;refine aC ?_;refine K.cJ (cs:=(⟨⟨#[]⟩,0,0,0,0,0⟩:o.Var).enc) (by simp[ep,o.Var.enc]) ?_;refine aC ?_;refine K.jh (cs:=(⟨⟨#[]⟩,0,0,0,0,0⟩:o.Var).enc.toArray) (av.obj aO) rfl rfl (by simp[o.Var.enc,Value.oneCell']) fun bj ew b0=>?_;refine aC ?_;refine K.fO (c:=o.Var.enc _) b0 (Ext.refl _) rfl ?_;refine aC ?_;exact⟨⟨_,by rw[hk],by rw[hk];intro h;cases h⟩,ew.ext (he.trans av) (by have:=aE.size;omega)⟩
 refine aC ?_;apply K.cond<;>intro g2
 ·have hk:(o.fh l n s).2.2=false:=by rw[o.fh,o.ga (.inr (by omega))]
  refine aC ?_;intro bh av;refine aC ?_;refine K.cJ (cs:=(⟨⟨#[]⟩,0,0,0,0,0⟩:o.Var).enc) (by simp[ep,o.Var.enc]) ?_;refine aC ?_;refine K.jh (cs:=(⟨⟨#[]⟩,0,0,0,0,0⟩:o.Var).enc.toArray) (av.obj aO) rfl rfl (by simp[o.Var.enc,Value.oneCell']) fun bj ew b0=>?_;refine aC ?_;refine K.fO (c:=o.Var.enc _) b0 (Ext.refl _) rfl ?_;refine aC ?_;exact⟨⟨_,by rw[hk],by rw[hk];intro h;cases h⟩,ew.ext (he.trans av) (by have:=aE.size;omega)⟩
 obtain⟨i,rfl⟩:=Int.eq_ofNat_of_zero_le (show 0≤n by omega);have ad:i<l.length:=by omega
 have aM:o.nth l (i:Int)=some l[i]:=by rw[o.iP (by omega) (by omega)];simp only[Int.toNat_natCast]
 obtain⟨a,rfl⟩:=aN.addr (by omega);refine aC ?_;refine K.fO (c:=[_,_,_,_,_,_]) jt (Ext.refl _) rfl ?_;refine aC ?_;refine K.fj _ (fun w' e=>Jl _ _ s w' (h.ext (he.trans e))) ?_;refine aC ?_;refine K.c3 (fun g3=>?_) (fun g3=>?_);rotate_left
 ·have hk:(o.fh l i s).2.2=false:=by rw[o.fh,aM];simp only[g3,Bool.false_and]
  refine aC ?_;intro bh av;refine aC ?_;refine K.cJ (cs:=(⟨⟨#[]⟩,0,0,0,0,0⟩:o.Var).enc) (by simp[ep,o.Var.enc]) ?_;refine aC ?_;refine K.jh (cs:=(⟨⟨#[]⟩,0,0,0,0,0⟩:o.Var).enc.toArray) (av.obj aO) rfl rfl (by simp[o.Var.enc,Value.oneCell']) fun bj ew b0=>?_;refine aC ?_;refine K.fO (c:=o.Var.enc _) b0 (Ext.refl _) rfl ?_;refine aC ?_;exact⟨⟨_,by rw[hk],by rw[hk];intro h;cases h⟩,ew.ext (he.trans av) (by have:=aE.size;omega)⟩
 refine aC ?_;refine K.fO (c:=[_,_,_,_,_,_]) jt (Ext.refl _) rfl ?_;refine aC ?_;refine K.fj _ (fun w' e=>Jl _ _ s w' (h.ext (he.trans e))) ?_;refine aC ?_;cases g4:(o.fZ l[i].over s).2 with
 | false =>
  have hk:(o.fh l i s).2.2=false:=by rw[o.fh,aM];simp only[g4,Bool.and_false]
  refine aC ?_;intro bh av;refine aC ?_;refine K.cJ (cs:=(⟨⟨#[]⟩,0,0,0,0,0⟩:o.Var).enc) (by simp[ep,o.Var.enc]) ?_;refine aC ?_;refine K.jh (cs:=(⟨⟨#[]⟩,0,0,0,0,0⟩:o.Var).enc.toArray) (av.obj aO) rfl rfl (by simp[o.Var.enc,Value.oneCell']) fun bj ew b0=>?_;refine aC ?_;refine K.fO (c:=o.Var.enc _) b0 (Ext.refl _) rfl ?_;refine aC ?_;exact⟨⟨_,by rw[hk],by rw[hk];intro h;cases h⟩,ew.ext (he.trans av) (by have:=aE.size;omega)⟩
 | true =>
  have hk:(o.fh l i s).2.2=true:=by rw[o.fh,aM];simp only[g3,g4,Bool.and_true]
  refine aC ?_;intro bh av;refine aC ?_;refine K.jh (cs:=l[i].enc.toArray) (av.obj aO) rfl rfl (by simp[o.Var.enc,Value.oneCell']) fun bj ew b0=>?_;refine aC ?_;refine K.fO (c:=o.Var.enc _) b0 (Ext.refl _) rfl ?_;refine aC ?_;exact⟨⟨_,by rw[hk],fun _=>aM⟩,ew.ext (he.trans av) (by have:=aE.size;omega)⟩
theorem RK(n:Int)(cs:List Value)(s:o.Scope)(w:World)(h:o.e5 w cs s) :
  bw Tryz.prog F.xT #[.int .i64 n,.agg cs.toArray] w fun v w' =>
   (∃x:o.dh,v = .tuple #[.agg x.enc.toArray,.bool (decide ((o.iz n s).2=0))]∧((o.iz n s).2=0→o.nth s.aK n=some x))∧Ext w w':=by
 obtain⟨a0,bR,dF,c1,a2,c2,a3,bN,a4,bX,rfl,ak,h1,U,ai,aL,et,dY,eg,dK,ed⟩:=h.form;refine bO E.xT ?_;refine bH ?_;refine aC ?_;refine K.new fun ar b aA aE al=>?_;refine aC ?_;refine K.new fun aW ch en aF aO=>?_;have he:=aE.trans aF;have jt:=aF.obj al;refine aC ?_;apply K.cond<;>intro g1
 ·have hk:(o.iz n s).2=8:=by rw[o.iz,o.ga (.inl g1)]
  refine aC ?_;intro bh av;refine aC ?_;refine K.cJ (cs:=(⟨⟨#[]⟩,0,0,0,0,false⟩:o.dh).enc) (by simp[ep,o.dh.enc]) ?_;refine aC ?_;refine K.jh (cs:=(⟨⟨#[]⟩,0,0,0,0,false⟩:o.dh).enc.toArray) (av.obj aO) rfl rfl (by simp[o.dh.enc,Value.oneCell']) fun bj ew b0=>?_;refine aC ?_;refine K.fO (c:=o.dh.enc _) b0 (Ext.refl _) rfl ?_;refine aC ?_;exact⟨⟨_,by rw[hk];rfl,by rw[hk];intro h;cases h⟩,ew.ext (he.trans av) (by have:=aE.size;omega)⟩
 refine aC ?_;apply K.cond<;>intro g2
 ·have hk:(o.iz n s).2=8:=by rw[o.iz,o.ga (.inr (by omega))]
  refine aC ?_;intro bh av;refine aC ?_;refine K.cJ (cs:=(⟨⟨#[]⟩,0,0,0,0,false⟩:o.dh).enc) (by simp[ep,o.dh.enc]) ?_;refine aC ?_;refine K.jh (cs:=(⟨⟨#[]⟩,0,0,0,0,false⟩:o.dh).enc.toArray) (av.obj aO) rfl rfl (by simp[o.dh.enc,Value.oneCell']) fun bj ew b0=>?_;refine aC ?_;refine K.fO (c:=o.dh.enc _) b0 (Ext.refl _) rfl ?_;refine aC ?_;exact⟨⟨_,by rw[hk];rfl,by rw[hk];intro h;cases h⟩,ew.ext (he.trans av) (by have:=aE.size;omega)⟩
 obtain⟨i,rfl⟩:=Int.eq_ofNat_of_zero_le (show 0≤n by omega);have ad:i<s.aK.length:=by omega
 have aM:o.nth s.aK (i:Int)=some s.aK[i]:=by rw[o.iP (by omega) (by omega)];simp only[Int.toNat_natCast]
 obtain⟨a,rfl⟩:=U.addr (by omega);refine aC ?_;refine K.fO (c:=[_,_,_,_,_,_]) jt (Ext.refl _) rfl ?_;refine aC ?_;refine K.fj _ (fun w' e=>Jl _ _ s w' (h.ext (he.trans e))) ?_;refine aC ?_;cases g4:(o.fZ s.aK[i].scalar s).2 with
 | false =>
  have hk:(o.iz i s).2=8:=by rw[o.iz,aM];simp only[g4,Bool.false_eq_true,if_false]
  refine aC ?_;intro bh av;refine aC ?_;refine K.cJ (cs:=(⟨⟨#[]⟩,0,0,0,0,false⟩:o.dh).enc) (by simp[ep,o.dh.enc]) ?_;refine aC ?_;refine K.jh (cs:=(⟨⟨#[]⟩,0,0,0,0,false⟩:o.dh).enc.toArray) (av.obj aO) rfl rfl (by simp[o.dh.enc,Value.oneCell']) fun bj ew b0=>?_;refine aC ?_;refine K.fO (c:=o.dh.enc _) b0 (Ext.refl _) rfl ?_;refine aC ?_;exact⟨⟨_,by rw[hk];rfl,by rw[hk];intro h;cases h⟩,ew.ext (he.trans av) (by have:=aE.size;omega)⟩
 | true =>
  have hk:(o.iz i s).2=0:=by rw[o.iz,aM];simp only[g4,if_true]
  refine aC ?_;intro bh av;refine aC ?_;refine K.jh (cs:=s.aK[i].enc.toArray) (av.obj aO) rfl rfl (by simp[o.dh.enc,Value.oneCell']) fun bj ew b0=>?_;refine aC ?_;refine K.fO (c:=o.dh.enc _) b0 (Ext.refl _) rfl ?_;refine aC ?_;exact⟨⟨_,by rw[hk];rfl,fun _=>aM⟩,ew.ext (he.trans av) (by have:=aE.size;omega)⟩
end Go.Proofs.R
end
section
set_option linter.unusedSimpArgs false
namespace Go.Proofs.R
open Go Go.RowKit bn
theorem Iz{l:List o.Var}{n:Int}{s:o.Scope}{x:o.Var}(h:(o.fh l n s).2.2=true)(aD:o.nth l n=some x) :
  (o.fh l n s).1=kindOf x.scalar∧(o.fh l n s).2.1=kindOf x.over∧0≤x.scalar∧x.scalar≤s.scalars.length∧0≤x.over∧x.over≤s.scalars.length:=by
 unfold o.fh at h ⊢;rw[aD] at h ⊢;simp only[Bool.and_eq_true] at h ⊢;obtain⟨dF,a2,a3⟩:=QB h.1;obtain⟨bz,ch,cE⟩:=QB h.2;exact⟨a3,cE,dF,a2,bz,ch⟩
theorem ac2(x:o.Node)(cs:List Value)(s:o.Scope)(w:World)(aD:x.ok)(h:o.e5 w cs s)(ka:1≤x.op∧x.op≤8)(ai:x.op≠3)(t:Int) :
  bw Tryz.prog F.AS #[.agg x.enc.toArray,.agg cs.toArray] w fun v w'=>v = .tuple #[.int .i64 (o.hN x s t).1,.int .i64 (o.hN x s t).2]∧Ext w w':=by
 obtain⟨a0,bR,dF,c1,a2,c2,a3,bN,a4,bX,rfl,qc,dS,dP,dD,gT,et,dY,eg,dK,ed⟩:=h.form;refine bO E.AS ?_;refine bH ?_;refine aC ?_;refine K.new fun ar bz cN aE al=>?_;refine aC ?_;refine K.new fun aW ch en aF aO=>?_;have he:=aE.trans aF;have da:aW.heap[bz]? = some (.cells #[.int .i64 x.op,.int .i64 x.n] T.f):=aF.obj al;clear al;refine aC ?_;apply K.cond<;>intro g1
 ·have hk:o.hN x s t=if o.within x.n then (0,0) else (0,10):=by rw[o.hN,if_pos g1]
  (repeat' (refine aC ?_;first | (refine K.cond (fun _=>?_) (fun _=>?_)<;>try (exfalso;omega)) | refine K.c3 (fun _=>?_) (fun _=>?_)))<;>try refine aC ?_
  all_goals
   refine⟨?_,fc⟩;rw[hk];unfold o.within;split<;>first | rfl | (rename_i cR;simp at cR;exfalso;omega)
 by_cases aS:x.op=2∨x.op=4
 ·have hk:o.hN x s t=(let q:=o.fh (if x.op=4 then s.locals else s.vars) x.n s;if q.2.2=false then (0,8) else if (x.op=3∧(q.2.1=0∨t≠q.2.1))∨(x.op≠3∧q.2.1≠0) then (0,9) else (q.1,0)):=by
   rw[o.hN,if_neg g1,if_pos (by omega)]
  by_cases g4:x.op=4
  ·rw[if_pos g4] at hk;rw[hk];refine aC ?_;refine K.fO (c:=[_,_,_,_,_,_]) aO (Ext.refl _) rfl ?_;refine aC ?_;refine K.call (BL _ s.locals x.n _ s aW (gT.ext he) (h.ext he)) ?_;rintro _ bh ⟨⟨y,rfl,cS⟩,av⟩;have c4:(o.fh s.locals x.n s).2.2=true→_:=fun g=>Iz g (cS g);clear cS hk;generalize o.fh s.locals x.n s=q at c4 ⊢;obtain⟨x8,vR,Jc⟩:=q;refine aC ?_;refine K.qX (vs:=y.enc) (fun _=>by simp -dsimp only[bU,bQ,Nat.reduceAdd,Nat.reduceEqDiff,reduceIte,reduceCtorEq,bZ]) rfl rfl (by simp[o.Var.enc,Value.oneCell']) fun bj eu fo aH b0=>?_;have iO:bj.heap[eu]? = some (.cells #[.string y.name,.int .i64 y.scalar,.int .i64 y.over,.int .i64 y.bk,.int .i64 y.ad,.int .i64 y.init] T.h):=b0;clear b0;refine aC ?_;refine K.c3 (fun g5=>?_) (fun g5=>?_);rotate_left
   ·refine aC ?_;simp only[g5,if_true];exact b2
   obtain⟨fx,z2,z3,z4,z5,yC⟩:=c4 g5;have tw:kindOf y.over=0↔y.over=0:=by unfold kindOf;split<;>omega
   have wh:x8=kindOf y.scalar:=fx;have wi:vR=kindOf y.over:=z2;refine aC ?_;apply K.cond<;>intro g6
   ·refine aC ?_;refine K.call (Ed y.scalar bj (by omega)) ?_;rintro _ _ ⟨rfl,rfl⟩;refine aC ?_;simp only[g5,Bool.true_eq_false,if_false,wh,wi];rw[if_neg (by rw[ne_eq,tw];omega)];exact b2
   ·refine aC ?_;simp only[g5,Bool.true_eq_false,if_false,wh,wi];rw[if_pos (.inr ⟨ai,by rw[ne_eq,tw];exact g6⟩)];exact b2
  ·rw[if_neg g4] at hk;rw[hk];refine aC ?_;refine K.fO (c:=[_,_,_,_,_,_]) aO (Ext.refl _) rfl ?_;refine aC ?_;refine K.call (BL _ s.vars x.n _ s aW (dS.ext he) (h.ext he)) ?_;rintro _ bh ⟨⟨y,rfl,cS⟩,av⟩;have c4:(o.fh s.vars x.n s).2.2=true→_:=fun g=>Iz g (cS g);clear cS hk;generalize o.fh s.vars x.n s=q at c4 ⊢;obtain⟨x8,vR,Jc⟩:=q;refine aC ?_;refine K.qX (vs:=y.enc) (fun _=>by simp -dsimp only[bU,bQ,Nat.reduceAdd,Nat.reduceEqDiff,reduceIte,reduceCtorEq,bZ]) rfl rfl (by simp[o.Var.enc,Value.oneCell']) fun bj eu fo aH b0=>?_;have iO:bj.heap[eu]? = some (.cells #[.string y.name,.int .i64 y.scalar,.int .i64 y.over,.int .i64 y.bk,.int .i64 y.ad,.int .i64 y.init] T.h):=b0;clear b0;refine aC ?_;refine K.c3 (fun g5=>?_) (fun g5=>?_);rotate_left
   ·refine aC ?_;simp only[g5,if_true];exact b2
   obtain⟨fx,z2,z3,z4,z5,yC⟩:=c4 g5;have tw:kindOf y.over=0↔y.over=0:=by unfold kindOf;split<;>omega
   have wh:x8=kindOf y.scalar:=fx;have wi:vR=kindOf y.over:=z2;refine aC ?_;apply K.cond<;>intro g6
   ·refine aC ?_;refine K.call (Ed y.scalar bj (by omega)) ?_;rintro _ _ ⟨rfl,rfl⟩;refine aC ?_;simp only[g5,Bool.true_eq_false,if_false,wh,wi];rw[if_neg (by rw[ne_eq,tw];omega)];exact b2
   ·refine aC ?_;simp only[g5,Bool.true_eq_false,if_false,wh,wi];rw[if_pos (.inr ⟨ai,by rw[ne_eq,tw];exact g6⟩)];exact b2
 have hk:o.hN x s t=o.kz x s:=by rw[o.hN,if_neg g1,if_neg (by omega)]
 rw[hk];clear hk;refine aC ?_;apply K.cond<;>intro g5
 ·(repeat' (refine aC ?_;first | (refine K.cond (fun _=>?_) (fun _=>?_)<;>try (exfalso;omega)) | refine K.c3 (fun _=>?_) (fun _=>?_)))<;>try refine aC ?_
  all_goals
   refine⟨?_,fc⟩;rw[o.kz,if_pos g5];split<;>first | rfl | (exfalso;omega)
 refine aC ?_;apply K.cond<;>intro g6
 ·have hk:o.kz x s=o.iz x.n s:=by rw[o.kz,if_neg g5,if_pos g6]
  rw[hk];have vi:(o.iz x.n s).1=0∧((o.iz x.n s).2=0∨(o.iz x.n s).2=8):=by
   unfold o.iz; (repeat' split)<;>simp
  refine aC ?_;refine K.fO (c:=[_,_,_,_,_,_]) aO (Ext.refl _) rfl ?_;refine aC ?_;refine K.call (RK x.n _ s aW (h.ext he)) ?_;rintro _ bh ⟨⟨y,rfl,cS⟩,av⟩;generalize o.iz x.n s=q at *;obtain⟨dS,dP⟩:=q;obtain⟨rfl,aJ⟩:=vi;refine aC ?_;refine K.qX (vs:=y.enc) (fun _=>by simp -dsimp only[bU,bQ,Nat.reduceAdd,Nat.reduceEqDiff,reduceIte,reduceCtorEq,bZ]) rfl rfl (by simp[o.dh.enc,Value.oneCell']) fun bj eu fo aH b0=>?_;refine aC ?_;apply K.cond<;>intro g7
  ·refine aC ?_;have g8:dP=0:=g7;rw[g8];exact b2
  ·refine aC ?_
   have:dP=8:=aJ.resolve_left g7
   rw[this];exact b2
 refine aC ?_;apply K.cond<;>intro g7
 ·have hk:o.kz x s=o.xM x.n s:=by rw[o.kz,if_neg g5,if_neg g6,if_pos g7]
  rw[hk,o.xM];refine aC ?_;apply K.cond<;>intro g1
  ·refine aC ?_;intro bh av;refine aC ?_;rw[if_neg (by omega)];exact b2
  rw[if_pos (by omega)];obtain⟨i,ad⟩:=Int.eq_ofNat_of_zero_le (show 0≤x.n by omega);obtain⟨_,hZ⟩:=aD.n;rw[ad] at hZ;have aJ:x.n.tdiv 16=((i / 16:Nat):Int):=by rw[ad];rfl
  have hm:x.n.tmod 16=((i % 16:Nat):Int):=by rw[ad];rfl
  refine aC ?_;refine K.quo (by omega) ?_;rw[aJ];refine aC ?_;apply K.cond<;>intro g2
  ·refine aC ?_;intro bh av;refine aC ?_;rw[o.ga (.inr (by omega))];exact b2
  have aP:i / 16<s.procs.length:=by omega
  rw[o.iP (by omega) (by omega)];simp only[Int.toNat_natCast];refine aC ?_;refine K.rem (by omega) ?_;refine aC ?_;refine K.quo (by omega) ?_;rw[aJ];obtain⟨a,rfl⟩:=dD.addr (by omega);obtain⟨_,cF,ei,tm,_⟩:=dD.at (i / 16) aP;have Hg:w.cell? ((a.add (i / 16*5)).add 2)=some (.int .i64 s.procs[i / 16].cq):=tm 2 _ rfl;refine aC ?_;refine K.ld ((aE.trans aF).cell Hg) ?_;refine aC ?_;rw[hm];intro bh av;refine aC ?_;apply K.cond<;>intro g3
  all_goals
   refine aC ?_;refine⟨?_,fc⟩
   first | rw[if_pos (by omega)] | rw[if_neg (by omega)]
 (repeat' (refine aC ?_;first | (refine K.cond (fun _=>?_) (fun _=>?_)<;>try (exfalso;omega)) | refine K.c3 (fun _=>?_) (fun _=>?_)))<;>try refine aC ?_
 all_goals
  refine⟨?_,fc⟩;rw[o.kz,if_neg g5,if_neg g6,if_neg g7,if_pos (by omega)];split<;>first | rfl | (exfalso;omega)
end Go.Proofs.R
end
section
set_option linter.unusedSimpArgs false
namespace Go.Proofs.R
open Go Go.RowKit bn
theorem QH(aj:o.mi)(k:Int):o.lE aj [k]=if aj.hS = -1∨k=aj.hS then (aj.makes,0) else (0,9):=by
 simp[o.lE]
theorem aae(aj:o.mi)(a b:Int):o.lE aj [a,b]=if (aj.hS = -1∨a=aj.hS)∧a=b then (aj.makes,0) else (0,9):=by
 simp only[o.lE,List.all_cons,List.all_nil,List.headD_cons,Bool.and_true,decide_true];by_cases h:a=b
 ·subst h;simp
 ·have bB:¬b=a:=fun e=>h e.symm;simp[h,bB]
def qY(x:o.Node)(k:Int)(s:o.Scope):Int×Int:=match o.fS x.op with | some aj=>o.lE aj [k] | none=>o.hN x s k
theorem ac7(x:o.Node)(k:Int)(cs:List Value)(s:o.Scope)(w:World)(h:o.e5 w cs s)(ka:x.op=3∨x.op=9∨x.op=10) :
  bw Tryz.prog F.AT #[.agg x.enc.toArray,.int .i64 k,.agg cs.toArray] w fun v w'=>v = .tuple #[.int .i64 (qY x k s).1,.int .i64 (qY x k s).2]∧Ext w w':=by
 obtain⟨a0,bR,dF,c1,a2,c2,a3,bN,a4,bX,rfl,qc,dS,dP,dD,gT,et,dY,eg,dK,ed⟩:=h.form;refine bO E.AT ?_;refine bH ?_;refine aC ?_;refine K.new fun ar bz cN aE al=>?_;refine aC ?_;refine K.new fun aW ch en aF aO=>?_;have he:=aE.trans aF;have da:aW.heap[bz]? = some (.cells #[.int .i64 x.op,.int .i64 x.n] T.f):=aF.obj al;clear al;refine aC ?_;apply K.cond<;>intro g1
 ·have a1:o.fS x.op=none:=by rw[g1];rfl
  have hk:qY x k s=(let q:=o.fh s.vars x.n s;if q.2.2=false then (0,8) else if (x.op=3∧(q.2.1=0∨k≠q.2.1))∨(x.op≠3∧q.2.1≠0) then (0,9) else (q.1,0)):=by
   rw[qY,a1];simp only;rw[o.hN,if_neg (by omega),if_pos (by omega)];simp only[show ¬x.op=4 from by omega,if_false]
  rw[hk];refine aC ?_;refine K.fO (c:=[_,_,_,_,_,_]) aO (Ext.refl _) rfl ?_;refine aC ?_;refine K.call (BL _ s.vars x.n _ s aW (dS.ext he) (h.ext he)) ?_;rintro _ bh ⟨⟨y,rfl,cS⟩,av⟩;have c4:(o.fh s.vars x.n s).2.2=true→_:=fun g=>Iz g (cS g);clear cS hk;generalize o.fh s.vars x.n s=q at c4 ⊢;obtain⟨x8,vR,Jc⟩:=q;refine aC ?_;refine K.qX (vs:=y.enc) (fun _=>by simp -dsimp only[bU,bQ,Nat.reduceAdd,Nat.reduceEqDiff,reduceIte,reduceCtorEq,bZ]) rfl rfl (by simp[o.Var.enc,Value.oneCell']) fun bj eu fo aH b0=>?_;have iO:bj.heap[eu]? = some (.cells #[.string y.name,.int .i64 y.scalar,.int .i64 y.over,.int .i64 y.bk,.int .i64 y.ad,.int .i64 y.init] T.h):=b0;clear b0;refine aC ?_;refine K.c3 (fun g5=>?_) (fun g5=>?_);rotate_left
  ·refine aC ?_;simp only[g5,if_true];exact b2
  obtain⟨fx,z2,z3,z4,z5,yC⟩:=c4 g5;have wh:x8=kindOf y.scalar:=fx;have wi:vR=kindOf y.over:=z2;have tw:vR=if y.over=0 then 0 else 1+y.over:=wi
  refine aC ?_;apply K.cond<;>intro g6
  ·refine aC ?_;simp only[g5,Bool.true_eq_false,if_false];rw[if_pos (.inl ⟨g1,.inl (by rw[tw,if_pos g6])⟩)];exact b2
  rw[if_neg g6] at tw;refine aC ?_;apply K.cond<;>intro g7;rotate_left
  ·refine aC ?_;simp only[g5,Bool.true_eq_false,if_false];rw[if_pos (.inl ⟨g1,.inr (by omega)⟩)];exact b2
  refine aC ?_;refine K.call (Ed y.scalar bj (by omega)) ?_;rintro _ _ ⟨rfl,rfl⟩;refine aC ?_;simp only[g5,Bool.true_eq_false,if_false,wh];rw[if_neg (by omega)];exact b2
 have hE:x.op=9→qY x k s=if k=1 then (1,0) else (0,9):=by
  intro e;rw[qY,e];show o.lE _ [k]=_;rw[QH];simp
 have iK:x.op=10→qY x k s=if k=0 then (0,0) else (0,9):=by
  intro e;rw[qY,e];show o.lE _ [k]=_;rw[QH];simp
 (repeat' (refine aC ?_;first | (refine K.cond (fun _=>?_) (fun _=>?_)<;>try (exfalso;omega)) | refine K.c3 (fun _=>?_) (fun _=>?_)))<;>try refine aC ?_
 all_goals
  refine⟨?_,fc⟩;rcases ka with e | e | e
  ·exact absurd e g1
  ·rw[hE e];split<;>first | rfl | (exfalso;omega)
  ·rw[iK e];split<;>first | rfl | (exfalso;omega)
def B3(op a b:Int):Int×Int:=match o.fS op with | some aj=>o.lE aj [a,b] | none=>(0,9)
theorem adg(op a b:Int)(w:World)(ka:11≤op∧op≤19) :
  bw Tryz.prog F.AU #[.int .i64 op,.int .i64 a,.int .i64 b] w fun v w'=>v = .tuple #[.int .i64 (B3 op a b).1,.int .i64 (B3 op a b).2]∧w'=w:=by
 have key:B3 op a b=if a≠b then (0,9) else if op=14∨op=15 then (1,0) else if op=18∨op=19 then (if a=1 then (1,0) else (0,9)) else if op=16∨op=17 then (if a=0 then (1,0) else (0,9)) else (if a=0 then (0,0) else (0,9)):=by
  have ay:op=11∨op=12∨op=13∨op=14∨op=15∨op=16∨op=17∨op=18∨op=19:=by omega
  rcases ay with e | e | e | e | e | e | e | e | e<;>subst e <;> (show o.lE _ [a,b]=_)<;>rw[aae]<;>by_cases u7:a=b<;>simp[u7,o.vT]
 refine bO E.AU ?_;refine bH ?_
 (repeat' (refine aC ?_;first | (refine K.cond (fun _=>?_) (fun _=>?_)<;>try (exfalso;omega)) | refine K.c3 (fun _=>?_) (fun _=>?_)))<;>try refine aC ?_
 all_goals
  refine⟨?_,bq⟩;rw[key]
  (repeat' split)<;>first | rfl | (exfalso;omega)
end Go.Proofs.R
end
section
set_option linter.unusedSimpArgs false
namespace Go.Proofs.R
open Go Go.RowKit bn
theorem Wv{s:o.Scope}{x:o.Node}{st:List Int}(h:o.eI x.op=0):o.eN s x st=o.hN x s (st.getLastD 0):=by
 unfold o.eN;rw[(Et h).2.2.2]
theorem Ww{s:o.Scope}{x:o.Node}{st:List Int}(h:o.eI x.op=1)(aN:1≤st.length):o.eN s x st=qY x st[st.length - 1] s:=by
 unfold o.eN qY;cases a1:o.fS x.op with
 | none=>simp only;rw[zJ st (by omega)]
 | some aj =>
  have:=(o.Bv a1).1
  simp only;rw[show aj.parts.toNat=1 from by omega,Gu aN]
theorem Wx{s:o.Scope}{x:o.Node}{st:List Int}(h:o.eI x.op=2)(aN:2≤st.length):o.eN s x st=B3 x.op st[st.length - 2] st[st.length - 1]:=by
 unfold o.eN B3;obtain⟨aj,a1,bg⟩:=Rq (show 9≤x.op∧x.op≤19 by have:=Eu h;omega);rw[a1];simp only;rw[show aj.parts.toNat=2 from by omega,NN aN]
theorem RN(fH:Value)(e:List o.Node)(cs:List Value)(s:o.Scope)(w:World)(he:o.gG w fH e)(h:o.e5 w cs s) :
  bw Tryz.prog F.xU #[fH,.agg cs.toArray] w fun v w'=>v = .tuple #[.int .i64 (o.kind e s).1,.int .i64 (o.kind e s).2]∧Ext w w':=by
 obtain⟨v0,v1,v2,v3,v4,rfl,_⟩:=h.ex;obtain⟨bf,cap,rfl,hlen⟩:=he.form;refine bO E.xU ?_;refine bH ?_;refine aC ?_;refine K.new fun ar cX pZ aE al=>?_;refine aC ?_;apply K.cond<;>intro g1
 ·refine aC ?_;rw[o.kind,o.jV,if_pos (by omega)];exact b2
 refine aC ?_;apply K.cond<;>intro g2
 ·refine aC ?_;rw[o.kind,o.jV,if_neg (by omega),if_pos (by omega)];exact b2
 refine aC ?_;refine K.xc 7 e.length (fun k S w' => ∃v st,S 6=v∧kB ar.heap.size w' v st∧o.eJ (o.eN s) (e.take k) []=(0,st)∧(0<k→1≤st.length)∧st.length≤12∧Ext ar w')
  (by simp -dsimp only[bU,bQ,Nat.reduceAdd,Nat.reduceEqDiff,reduceIte,reduceCtorEq,bZ]) ⟨.slice none 0 0,[],by simp -dsimp only[bU,bQ,Nat.reduceAdd,Nat.reduceEqDiff,reduceIte,reduceCtorEq,bZ],br.nil _ _ _ _ _,by simp[o.eJ],by simp,by simp,Ext.refl _⟩ ?_
 rintro k S aW cn hk b6 ⟨v6,st,bM,gA,gB,zN,oU,aF⟩;have ak:=cn 0 rfl;have ai:=cn 3 rfl;simp only[ca,Nat.reduceAdd,Nat.reduceEqDiff,reduceIte,ie,kJ] at ak ai;clear cn;obtain⟨tT,ry,rfl,cW,ha⟩:=gA.form;have ad:Ints aW _ st:=br.pf (enc:=encI) (sz:=1) (fun _=>rfl) gA;unfold maxLen at ha;refine c0 (And.intro ak (And.intro ai (And.intro bM b6))) ?_;apply K.cond<;>intro g3;rotate_left
 ·have bd:k=e.length:=by omega
  subst bd;rw[List.take_length] at gB;have h1:=zN (by omega);obtain⟨a,rfl⟩:=ad.addr h1;have gO:o.kind e s=if st.length > 1 then (0,5) else (st.headD 0,0):=by
   rw[o.kind,o.jV,if_neg (by omega),if_neg (by omega),gB,if_neg (by simp)]
  rw[gO];clear gO;refine c0 (And.intro ak (And.intro ai (And.intro bM b6))) ?_;apply K.cond<;>intro g4
  ·refine aC ?_;rw[if_pos (by omega)];exact b2
  ·refine c0 (And.intro ak (And.intro ai (And.intro bM b6))) ?_;refine K.du 0 rfl (by omega) ?_;refine aC ?_;rw[if_neg (by omega)]
   have:st.headD 0=st[0]:=by
    cases st with
    | nil=>simp at h1
    | cons z st=>rfl
   rw[this];exact b2
 have bd:k<e.length:=by omega
 obtain⟨a,rfl⟩:=he.addr (by omega);have xE:=(he.at k bd).ok;have iN:=fun ak=>o.Jm (f:=o.eN s) (e:=e) (by omega) bd gB ak;have qQ:=o.tY bd gB;have zL:=aE.trans aF;have jt:=aF.obj al;refine c0 (And.intro ak (And.intro ai (And.intro bM b6))) ?_;refine K.call (SG e[k].op aW) ?_;rintro _ _ ⟨rfl,rfl⟩;generalize aM:o.eI e[k].op=n at *;have qN : -1≤n∧n≤2:=by rw[←aM];unfold o.eI; (repeat' split)<;>omega
 refine c0 (And.intro ak (And.intro ai (And.intro bM b6))) ?_;apply K.cond<;>intro g4
 ·have aw:o.stepG (o.eN s) e[k] st=(3,st):=by unfold o.stepG;rw[aM,if_pos g4]
  rw[aw] at iN;refine aC ?_;rw[o.kind,iN (by simp)];exact b2
 refine c0 (And.intro ak (And.intro ai (And.intro bM b6))) ?_;apply K.cond<;>intro g5
 ·have aw:o.stepG (o.eN s) e[k] st=(4,st):=by unfold o.stepG;rw[aM,if_neg g4,if_pos g5]
  rw[aw] at iN;refine aC ?_;rw[o.kind,iN (by simp)];exact b2
 obtain⟨p,rfl⟩:=Int.eq_ofNat_of_zero_le (show 0≤n by omega);have ef:o.stepG (o.eN s) e[k] st=if (o.eN s e[k] st).2≠0 then ((o.eN s e[k] st).2,st) else if (st.take (st.length - p)++[(o.eN s e[k] st).1]).length > 12 then (12,st) else (0,st.take (st.length - p)++[(o.eN s e[k] st).1]):=by
  unfold o.stepG;rw[aM,if_neg g4,if_neg g5];simp only[Int.toNat_natCast]
 have ht:(st.take (st.length - p)++[(o.eN s e[k] st).1]).length=st.length - p+1:=by simp[List.length_take]
 rw[ht] at ef;have fin:p=0∨p=1∨p=2:=by omega
 rcases fin with vl | vl | vl
 ·have aI:=Wv (s:=s) (st:=st) (x:=e[k]) (by omega);obtain⟨fx,z2,z3,z4⟩:=Et (x:=e[k].op) (by omega);refine c0 (And.intro ak (And.intro ai (And.intro bM b6))) ?_;refine K.fO (c:=[_,_,_,_,_,_]) jt (Ext.refl _) rfl ?_;refine c0 (And.intro ak (And.intro ai (And.intro bM b6))) ?_;refine K.fj _ (fun w' e'=>ac2 e[k] _ s w' xE (h.ext (zL.trans e')) ⟨fx,z2⟩ z3 (st.getLastD 0)) ?_;rw[←aI];refine c0 (And.intro ak (And.intro ai (And.intro bM b6))) ?_;intro bh av;refine c0 (And.intro ak (And.intro ai (And.intro bM b6))) ?_;apply K.cond<;>intro g6;rotate_left
  ·rw[if_pos g6] at ef;refine aC ?_;rw[o.kind,iN (by rw[ef];exact g6),ef];exact b2
  rw[if_neg (by simpa using g6)] at ef;have gm:=gA.ext av;refine c0 (And.intro ak (And.intro ai (And.intro bM b6))) ?_;refine K.j3 (cs:=[]) (by simp[List.range,List.range.loop,ep]) fun bj eu fo aH b0=>?_;have z12:=aF.size;have z23:=av.size;have yB:=aH.size;have l0:kB ar.heap.size bj (.slice (some ⟨eu,0,none⟩) 0 0) []:=br.empty (by omega) b0;have gz:=gm.ext aH;have ee:kB ar.heap.size bj (.slice _ (st.length - p) _) (st.take (st.length - p)):=br.head (enc:=encI) (sz:=1) (xs:=st) (fun _=>rfl) gz (st.length - p) (Nat.sub_le _ _);have cb:(st.take (st.length - p)).length=st.length - p:=by simp[List.length_take]
  refine c0 (And.intro ak (And.intro ai (And.intro bM b6))) ?_;refine K.q5 (st.length - p) (by refine b3 bM ?_;first | rfl | (congr 1;omega)) (by omega) ?_;refine aC ?_;refine K.wJ (xs:=[]) (ys:=st.take (st.length - p)) l0 ee (fun _=>rfl) oT (by rw[cb];simp only[List.length_nil];omega) (by rw[cb];simp only[List.length_nil,maxLen];omega) (by omega) fun v5 bF lA hG=>?_;have lx:Ext bh bF:=aH.grown hG fun q aJ=>by simp[Value.ownBlock] at aJ;omega
  rw[List.nil_append] at lA;have z35:=lx.size;refine aC ?_;refine K.j3 (cs:=[(o.eN s e[k] st).1].flatMap encI) (by simp[List.range,List.range.loop,ep,lay,eS,ca,Value.cells,encI]) fun bV ia gi bo cW=>?_;have ue:=bo.size;have dH:=lA.ext bo;refine aC ?_;refine K.qs (xs:=st.take (st.length - p)) (ys:=[(o.eN s e[k] st).1]) dH (fun _=>rfl) (gM cW) rfl oT (by rw[cb];simp only[List.length_cons,List.length_nil];omega) (by rw[cb];simp only[List.length_cons,List.length_nil,maxLen];omega) (by omega) fun yr cc dk iM=>?_;have bY:Ext ar cc:=Ext.grown (((aF.trans av).trans lx).trans bo) iM fun q aJ=>(dH.lt q aJ).1;obtain⟨Bt,n1,rfl,_⟩:=dk.form;rw[ht] at dk ⊢;by_cases g7:12<st.length - p+1
  ·rw[if_pos (by omega)] at ef
   first
    | (exfalso;omega)
    | (refine aC ?_
       rw[o.kind,iN (by rw[ef];simp),ef];exact⟨bq,aE.trans bY⟩)
  rw[if_neg (by omega)] at ef;refine c0 b6 ?_;refine⟨bd,bq,_,_,rfl,dk,by rw[qQ,ef],fun _=>by rw[ht];omega,by rw[ht];omega,bY⟩
 ·have aI:=Ww (s:=s) (st:=st) (x:=e[k]) (by omega) (by omega);obtain⟨ll,rfl⟩:=ad.addr (by omega);refine c0 (And.intro ak (And.intro ai (And.intro bM b6))) ?_;refine K.du (st.length - 1) (by omega) (by omega) ?_;refine c0 (And.intro ak (And.intro ai (And.intro bM b6))) ?_;refine K.fO (c:=[_,_,_,_,_,_]) jt (Ext.refl _) rfl ?_;refine c0 (And.intro ak (And.intro ai (And.intro bM b6))) ?_;refine K.fj _ (fun w' e'=>ac7 e[k] _ _ s w' (h.ext (zL.trans e')) (Rk (by omega))) ?_;rw[←aI];refine c0 (And.intro ak (And.intro ai (And.intro bM b6))) ?_;intro bh av;refine c0 (And.intro ak (And.intro ai (And.intro bM b6))) ?_;apply K.cond<;>intro g6;rotate_left
  ·rw[if_pos g6] at ef;refine aC ?_;rw[o.kind,iN (by rw[ef];exact g6),ef];exact b2
  rw[if_neg (by simpa using g6)] at ef;have gm:=gA.ext av;refine c0 (And.intro ak (And.intro ai (And.intro bM b6))) ?_;refine K.j3 (cs:=[]) (by simp[List.range,List.range.loop,ep]) fun bj eu fo aH b0=>?_;have z12:=aF.size;have z23:=av.size;have yB:=aH.size;have l0:kB ar.heap.size bj (.slice (some ⟨eu,0,none⟩) 0 0) []:=br.empty (by omega) b0;have gz:=gm.ext aH;have ee:kB ar.heap.size bj (.slice _ (st.length - p) _) (st.take (st.length - p)):=br.head (enc:=encI) (sz:=1) (xs:=st) (fun _=>rfl) gz (st.length - p) (Nat.sub_le _ _);have cb:(st.take (st.length - p)).length=st.length - p:=by simp[List.length_take]
  refine c0 (And.intro ak (And.intro ai (And.intro bM b6))) ?_;refine K.q5 (st.length - p) (by refine b3 bM ?_;first | rfl | (congr 1;omega)) (by omega) ?_;refine aC ?_;refine K.wJ (xs:=[]) (ys:=st.take (st.length - p)) l0 ee (fun _=>rfl) oT (by rw[cb];simp only[List.length_nil];omega) (by rw[cb];simp only[List.length_nil,maxLen];omega) (by omega) fun v5 bF lA hG=>?_;have lx:Ext bh bF:=aH.grown hG fun q aJ=>by simp[Value.ownBlock] at aJ;omega
  rw[List.nil_append] at lA;have z35:=lx.size;refine aC ?_;refine K.j3 (cs:=[(o.eN s e[k] st).1].flatMap encI) (by simp[List.range,List.range.loop,ep,lay,eS,ca,Value.cells,encI]) fun bV ia gi bo cW=>?_;have ue:=bo.size;have dH:=lA.ext bo;refine aC ?_;refine K.qs (xs:=st.take (st.length - p)) (ys:=[(o.eN s e[k] st).1]) dH (fun _=>rfl) (gM cW) rfl oT (by rw[cb];simp only[List.length_cons,List.length_nil];omega) (by rw[cb];simp only[List.length_cons,List.length_nil,maxLen];omega) (by omega) fun yr cc dk iM=>?_;have bY:Ext ar cc:=Ext.grown (((aF.trans av).trans lx).trans bo) iM fun q aJ=>(dH.lt q aJ).1;obtain⟨Bt,n1,rfl,_⟩:=dk.form;rw[ht] at dk ⊢;by_cases g7:12<st.length - p+1
  ·rw[if_pos (by omega)] at ef
   first
    | (exfalso;omega)
    | (refine aC ?_
       rw[o.kind,iN (by rw[ef];simp),ef];exact⟨bq,aE.trans bY⟩)
  rw[if_neg (by omega)] at ef;refine c0 b6 ?_;refine⟨bd,bq,_,_,rfl,dk,by rw[qQ,ef],fun _=>by rw[ht];omega,by rw[ht];omega,bY⟩
 ·have aI:=Wx (s:=s) (st:=st) (x:=e[k]) (by omega) (by omega);obtain⟨ll,rfl⟩:=ad.addr (by omega);refine c0 (And.intro ak (And.intro ai (And.intro bM b6))) ?_;refine K.du (st.length - 2) (by omega) (by omega) ?_;refine c0 (And.intro ak (And.intro ai (And.intro bM b6))) ?_;refine K.du (st.length - 1) (by omega) (by omega) ?_;refine c0 (And.intro ak (And.intro ai (And.intro bM b6))) ?_;refine K.fj _ (fun w' e'=>(adg e[k].op _ _ w' (Eu (by omega))).mono fun v bW h=>⟨h.1,h.2 ▸ Ext.refl _⟩) ?_;rw[←aI];refine c0 (And.intro ak (And.intro ai (And.intro bM b6))) ?_;intro bh av;refine c0 (And.intro ak (And.intro ai (And.intro bM b6))) ?_;apply K.cond<;>intro g6;rotate_left
  ·rw[if_pos g6] at ef;refine aC ?_;rw[o.kind,iN (by rw[ef];exact g6),ef];exact b2
  rw[if_neg (by simpa using g6)] at ef;have gm:=gA.ext av;refine c0 (And.intro ak (And.intro ai (And.intro bM b6))) ?_;refine K.j3 (cs:=[]) (by simp[List.range,List.range.loop,ep]) fun bj eu fo aH b0=>?_;have z12:=aF.size;have z23:=av.size;have yB:=aH.size;have l0:kB ar.heap.size bj (.slice (some ⟨eu,0,none⟩) 0 0) []:=br.empty (by omega) b0;have gz:=gm.ext aH;have ee:kB ar.heap.size bj (.slice _ (st.length - p) _) (st.take (st.length - p)):=br.head (enc:=encI) (sz:=1) (xs:=st) (fun _=>rfl) gz (st.length - p) (Nat.sub_le _ _);have cb:(st.take (st.length - p)).length=st.length - p:=by simp[List.length_take]
  refine c0 (And.intro ak (And.intro ai (And.intro bM b6))) ?_;refine K.q5 (st.length - p) (by refine b3 bM ?_;first | rfl | (congr 1;omega)) (by omega) ?_;refine aC ?_;refine K.wJ (xs:=[]) (ys:=st.take (st.length - p)) l0 ee (fun _=>rfl) oT (by rw[cb];simp only[List.length_nil];omega) (by rw[cb];simp only[List.length_nil,maxLen];omega) (by omega) fun v5 bF lA hG=>?_;have lx:Ext bh bF:=aH.grown hG fun q aJ=>by simp[Value.ownBlock] at aJ;omega
  rw[List.nil_append] at lA;have z35:=lx.size;refine aC ?_;refine K.j3 (cs:=[(o.eN s e[k] st).1].flatMap encI) (by simp[List.range,List.range.loop,ep,lay,eS,ca,Value.cells,encI]) fun bV ia gi bo cW=>?_;have ue:=bo.size;have dH:=lA.ext bo;refine aC ?_;refine K.qs (xs:=st.take (st.length - p)) (ys:=[(o.eN s e[k] st).1]) dH (fun _=>rfl) (gM cW) rfl oT (by rw[cb];simp only[List.length_cons,List.length_nil];omega) (by rw[cb];simp only[List.length_cons,List.length_nil,maxLen];omega) (by omega) fun yr cc dk iM=>?_;have bY:Ext ar cc:=Ext.grown (((aF.trans av).trans lx).trans bo) iM fun q aJ=>(dH.lt q aJ).1;obtain⟨Bt,n1,rfl,_⟩:=dk.form;rw[ht] at dk ⊢;by_cases g7:12<st.length - p+1
  ·rw[if_pos (by omega)] at ef
   first
    | (exfalso;omega)
    | (refine aC ?_
       rw[o.kind,iN (by rw[ef];simp),ef];exact⟨bq,aE.trans bY⟩)
  rw[if_neg (by omega)] at ef;refine c0 b6 ?_;refine⟨bd,bq,_,_,rfl,dk,by rw[qQ,ef],fun _=>by rw[ht];omega,by rw[ht];omega,bY⟩
theorem yd(fH:Value)(e:List o.Node)(k:Int)(cs:List Value)(s:o.Scope)(w:World)(aM:o.gG w fH e)(h:o.e5 w cs s) :
  bw Tryz.prog F.sd #[fH,.int .i64 k,.agg cs.toArray] w fun v w'=>v = .int .i64 (o.asked e k s)∧Ext w w':=by
 obtain⟨a0,bR,dF,c1,a2,c2,a3,bN,a4,bX,rfl,_⟩:=h.form;obtain⟨bf,cap,rfl,_⟩:=aM.form;refine bO E.sd ?_;refine bH ?_;refine aa ?_;intro ar bz cN aE al;refine aa ?_;refine K.call (RN _ e _ s ar (aM.ext aE) (h.ext aE)) ?_;rintro _ aW ⟨rfl,aF⟩;rw[o.asked];refine aa ?_;apply K.cond<;>intro g1;rotate_left
 ·refine aa ?_;exact⟨by rw[if_pos g1],aE.trans aF⟩
 rw[if_neg (by simpa using g1)];refine aa ?_;apply K.cond<;>intro g2;rotate_left
 ·refine aa ?_;exact⟨by rw[if_pos g2],aE.trans aF⟩
 ·refine aa ?_;exact⟨by rw[if_neg (by simpa using g2)],aE.trans aF⟩
theorem Ee(n:Int)(w:World)(h:0≤n∧n≤4611686018427387904):bw Tryz.prog F.p3 #[.int .i64 n] w fun v w'=>v = .int .i64 (if n=0 then 0 else 1+n)∧w'=w:=Ed n w h
theorem I4(v:Value)(l:List o.Var)(n:Int)(cs:List Value)(s:o.Scope)(w:World)(aN:o.gL w v l)(h:o.e5 w cs s) :
  bw Tryz.prog F.xX #[v,.int .i64 n,.agg cs.toArray] w fun v w'=>v = .tuple #[.int .i64 (o.jz l n s).1,.int .i64 (o.jz l n s).2]∧Ext w w':=by
 obtain⟨a0,bR,dF,c1,a2,c2,a3,bN,a4,bX,rfl,_,_,_,_,_,et,dY,eg,dK,ed⟩:=h.form;obtain⟨bf,cap,rfl,_⟩:=aN.form;refine bO E.xX ?_;refine bH ?_;refine aa ?_;intro ar bz cN aE al;refine aa ?_;refine K.call (BL _ l n _ s ar (aN.ext aE) (h.ext aE)) ?_;rintro u aW ⟨⟨x,hu,aD⟩,aF⟩;cases hk:(o.fh l n s).2.2 with
 | false =>
  rw[hk] at hu;subst hu;refine aa ?_;intro bh cE gh av bA;refine aa ?_;exact⟨by rw[o.jz,o.NK hk],(aE.trans aF).trans av⟩
 | true =>
  rw[hk] at hu;subst hu;obtain⟨bx,fM,gR,iR,jT⟩:=o.NM hk (aD hk);have fi:o.jz l n s=if x.over≠0 then (0,9) else ((if x.scalar=0 then 0 else 1+x.scalar),0):=by unfold o.jz;rw[bx]
  refine aa ?_;intro bh cE gh av bA;refine aa ?_;apply K.cond<;>intro g1
  ·rw[if_neg (by simpa using g1)] at fi;refine aa ?_;refine K.call (Ee _ bh ⟨fM,by omega⟩) ?_;rintro _ _ ⟨rfl,rfl⟩;refine aa ?_;exact⟨by rw[fi],(aE.trans aF).trans av⟩
  ·rw[if_pos g1] at fi;refine aa ?_;exact⟨by rw[fi],(aE.trans aF).trans av⟩
theorem ZZ(a:o.Act)(cB cF:Value)(cs:List Value)(s:o.Scope)(w:World)(ad:o.gG w cB a.index)(aS:o.gG w cF a.value)(h:o.e5 w cs s) :
  bw Tryz.prog F.A1 #[.agg (a.enc cB cF).toArray,.agg cs.toArray] w fun v w'=>v = .int .i64 (o.vv a s)∧Ext w w':=by
 obtain⟨a0,bR,dF,c1,a2,c2,a3,bN,a4,bX,rfl,_,H8,_,_,_,et,dY,eg,dK,ed⟩:=h.form;obtain⟨_,_,rfl,_⟩:=ad.form;obtain⟨_,_,rfl,_⟩:=aS.form;refine bO E.A1 ?_;refine bH ?_;refine aa ?_;intro ar bz cN aE al;refine aa ?_;intro aW ch en aF aO;replace al:=aF.obj al;have cQ:∀{w'},Ext aW w'→Ext w w':=fun e=>(aE.trans aF).trans e;refine aa ?_;refine K.call (BL _ s.vars a.to _ s aW (H8.ext (cQ (Ext.refl _))) (h.ext (cQ (Ext.refl _)))) ?_;rintro u bh ⟨⟨x,hu,aD⟩,av⟩;replace al:=av.obj al;replace aO:=av.obj aO;cases hk:(o.fh s.vars a.to s).2.2 with
 | false =>
  rw[hk] at hu;subst hu;refine aa ?_;intro bj eu fo aH b0;refine aa ?_;exact⟨by rw[o.vv,o.NK hk],cQ (av.trans aH)⟩
 | true =>
  rw[hk] at hu;subst hu;obtain⟨bx,fM,gR,iR,jT⟩:=o.NM hk (aD hk);have fi:o.vv a s=if x.over=0 then 9 else if o.asked a.index (1+x.over) s≠0 then o.asked a.index (1+x.over) s else o.asked a.value (if x.scalar=0 then 0 else 1+x.scalar) s:=by unfold o.vv;rw[bx]
  refine aa ?_;intro bj eu fo aH b0;replace al:=aH.obj al;replace aO:=aH.obj aO;have ej:∀{w'},Ext bj w'→Ext w w':=fun e=>cQ ((av.trans aH).trans e);refine aa ?_;apply K.cond<;>intro g1
  ·rw[if_pos g1] at fi;refine aa ?_;exact⟨by rw[fi],ej (Ext.refl _)⟩
  rw[if_neg g1] at fi;refine aa ?_;refine K.call (yd _ a.index (1+x.over) _ s bj (ad.ext (ej (Ext.refl _))) (h.ext (ej (Ext.refl _)))) ?_;rintro _ bF ⟨rfl,a8⟩;replace al:=a8.obj al;replace aO:=a8.obj aO;replace b0:=a8.obj b0;have jE:∀{w'},Ext bF w'→Ext w w':=fun e=>ej (a8.trans e);refine aa ?_;apply K.cond<;>intro g2;rotate_left
  ·rw[if_pos g2] at fi;refine aa ?_;exact⟨by rw[fi],jE (Ext.refl _)⟩
  rw[if_neg (by simpa using g2)] at fi;refine aa ?_;refine K.fj (.int .i64 (if x.scalar=0 then 0 else 1+x.scalar)) (fun w' e=>(Ee _ w' ⟨fM,by omega⟩).mono fun v bW cR=>⟨cR.1,by rw[cR.2];exact Ext.refl _⟩) ?_;refine aa ?_;refine K.fj (.int .i64 (o.vv a s)) (fun w' e=>by rw[fi];exact yd _ a.value _ _ s w' (aS.ext (jE e)) (h.ext (jE e))) ?_;refine aa ?_;intro bV bo;refine aa ?_;exact⟨bq,jE bo⟩
theorem RJ(a:o.Act)(comm:Bool)(cB cF:Value)(cs:List Value)(s:o.Scope)(w:World)(ad:o.gG w cB a.index)(aS:o.gG w cF a.value)(h:o.e5 w cs s) :
  bw Tryz.prog F.A0 #[.agg (a.enc cB cF).toArray,.agg cs.toArray,.bool comm] w fun v w'=>v = .int .i64 (o.jA a s comm)∧Ext w w':=by
 obtain⟨a0,bR,dF,c1,a2,c2,a3,bN,a4,bX,rfl,_,H8,_,_,kc,et,dY,eg,dK,ed⟩:=h.form;obtain⟨_,_,rfl,_⟩:=ad.form;obtain⟨_,_,rfl,_⟩:=aS.form;refine bO E.A0 ?_;refine bH ?_;refine aa ?_;intro ar bz cN aE al;refine aa ?_;intro aW ch en aF aO;replace al:=aF.obj al;have cQ:∀{w'},Ext aW w'→Ext w w':=fun e=>(aE.trans aF).trans e;refine aa ?_;apply K.cond<;>intro g1
 ·refine aa ?_;exact⟨by rw[o.jA,if_pos (.inl g1)],cQ (Ext.refl _)⟩
 refine aa ?_;apply K.cond<;>intro g2
 ·refine aa ?_;exact⟨by rw[o.jA,if_pos (.inr g2)],cQ (Ext.refl _)⟩
 have oU:¬(a.kind<1∨5<a.kind):=by omega
 refine aa ?_;apply K.cond<;>intro g3
 ·refine aa ?_;refine K.call (ZZ a _ _ _ s aW (ad.ext (cQ (Ext.refl _))) (aS.ext (cQ (Ext.refl _))) (h.ext (cQ (Ext.refl _)))) ?_;rintro _ bh ⟨rfl,av⟩;refine aa ?_;exact⟨by rw[o.jA,if_neg oU,if_pos g3],cQ av⟩
 refine aa ?_;apply K.cond<;>intro g4
 ·have ba:o.jA a s comm=if (o.jz s.vars a.to s).2≠0 then (o.jz s.vars a.to s).2 else o.asked a.value (o.jz s.vars a.to s).1 s:=by
   rw[o.jA,if_neg oU,if_neg g3,if_pos (.inl g4)];simp only[if_neg (by omega:¬a.kind=3)]
  refine aa ?_;refine K.call (I4 _ s.vars a.to _ s aW (H8.ext (cQ (Ext.refl _))) (h.ext (cQ (Ext.refl _)))) ?_;rintro _ bh ⟨rfl,av⟩;replace al:=av.obj al;replace aO:=av.obj aO;refine aa ?_;apply K.cond<;>intro g5;rotate_left
  ·rw[if_pos g5] at ba;refine aa ?_;exact⟨by rw[ba],cQ av⟩
  rw[if_neg (by simpa using g5)] at ba;refine aa ?_;refine K.call (yd _ a.value _ _ s bh (aS.ext (cQ av)) (h.ext (cQ av))) ?_;rintro _ bj ⟨rfl,aH⟩;refine aa ?_;exact⟨by rw[ba],cQ (av.trans aH)⟩
 refine aa ?_;apply K.cond<;>intro g5
 ·have ba:o.jA a s comm=if (o.jz s.locals a.to s).2≠0 then (o.jz s.locals a.to s).2 else o.asked a.value (o.jz s.locals a.to s).1 s:=by
   rw[o.jA,if_neg oU,if_neg g3,if_pos (.inr g5)];simp only[if_pos g5]
  refine aa ?_;refine K.call (I4 _ s.locals a.to _ s aW (kc.ext (cQ (Ext.refl _))) (h.ext (cQ (Ext.refl _)))) ?_;rintro _ bh ⟨rfl,av⟩;replace al:=av.obj al;replace aO:=av.obj aO;refine aa ?_;apply K.cond<;>intro g5;rotate_left
  ·rw[if_pos g5] at ba;refine aa ?_;exact⟨by rw[ba],cQ av⟩
  rw[if_neg (by simpa using g5)] at ba;refine aa ?_;refine K.call (yd _ a.value _ _ s bh (aS.ext (cQ av)) (h.ext (cQ av))) ?_;rintro _ bj ⟨rfl,aH⟩;refine aa ?_;exact⟨by rw[ba],cQ (av.trans aH)⟩
 have zM:¬(a.kind=1∨a.kind=3):=by omega
 refine aa ?_;refine K.c3 (fun g6=>?_) (fun g6=>?_)
 ·refine aa ?_;exact⟨by rw[o.jA,if_neg oU,if_neg g3,if_neg zM,if_pos g6],cQ (Ext.refl _)⟩
 refine aa ?_;refine K.call (RK a.to _ s aW (h.ext (cQ (Ext.refl _)))) ?_;rintro u bh ⟨⟨x,hu,aD⟩,av⟩;replace al:=av.obj al;replace aO:=av.obj aO;by_cases hk:(o.iz a.to s).2=0;rotate_left
 ·rw[decide_eq_false hk] at hu;subst hu;refine aa ?_;intro bj eu fo aH b0;refine aa ?_;exact⟨by rw[o.jA,if_neg oU,if_neg g3,if_neg zM,if_neg (by simp[g6]),o.U6 hk],cQ (av.trans aH)⟩
 rw[decide_eq_true hk] at hu;subst hu;obtain⟨bx,fM,gR⟩:=o.U8 hk (aD hk);have ba:o.jA a s comm=if a.kind=4 then o.asked a.value (if x.scalar=0 then 0 else 1+x.scalar) s else if (o.jz s.locals a.loc s).2≠0 then (o.jz s.locals a.loc s).2 else if (o.jz s.locals a.loc s).1≠(if x.scalar=0 then 0 else 1+x.scalar) then 9 else 0:=by
  rw[o.jA,if_neg oU,if_neg g3,if_neg zM,if_neg (by simp[g6]),bx]
 refine aa ?_;intro bj eu fo aH b0;replace al:=aH.obj al;replace aO:=aH.obj aO;have ej:∀{w'},Ext bj w'→Ext w w':=fun e=>cQ ((av.trans aH).trans e);refine aa ?_;apply K.cond<;>intro g7
 ·rw[if_pos g7] at ba;refine aa ?_;refine K.fj (.int .i64 (if x.scalar=0 then 0 else 1+x.scalar)) (fun w' e=>(Ee _ w' ⟨fM,by omega⟩).mono fun v bW cR=>⟨cR.1,by rw[cR.2];exact Ext.refl _⟩) ?_;refine aa ?_;refine K.fj (.int .i64 (o.jA a s comm)) (fun w' e=>by rw[ba];exact yd _ a.value _ _ s w' (aS.ext (ej e)) (h.ext (ej e))) ?_;refine aa ?_;intro bV bo;refine aa ?_;exact⟨bq,ej bo⟩
 rw[if_neg g7] at ba;refine aa ?_;refine K.call (I4 _ s.locals a.loc _ s bj (kc.ext (ej (Ext.refl _))) (h.ext (ej (Ext.refl _)))) ?_;rintro _ bF ⟨rfl,a8⟩;replace b0:=a8.obj b0;refine aa ?_;apply K.cond<;>intro g8;rotate_left
 ·rw[if_pos g8] at ba;refine aa ?_;exact⟨by rw[ba],ej a8⟩
 rw[if_neg (by simpa using g8)] at ba;refine aa ?_;refine K.call (Ee _ bF ⟨fM,by omega⟩) ?_;rintro _ _ ⟨rfl,rfl⟩;refine aa ?_;apply K.cond<;>intro g9
 ·rw[if_neg (by simpa using g9)] at ba;refine aa ?_;exact⟨by rw[ba],ej a8⟩
 ·rw[if_pos g9] at ba;refine aa ?_;exact⟨by rw[ba],ej a8⟩
end Go.Proofs.R
end
section
namespace o
theorem MZ{s:Scope}{a:Act}{k:Nat}{b:Bool}{Z:Int×Int}:(if hh a&&b then ((2+(k:Int)),(7:Int)) else if mn a s≠0 then (2+(k:Int),mn a s) else Z)=if jA a s b≠0 then (2+(k:Int),jA a s b) else Z:=by
 rw[acz];by_cases h:(hh a&&b)=true
 ·simp[h]
 ·simp[h]
end o
namespace Go.Proofs.R
open Go Go.RowKit bn
theorem acH(c:o.ft)(jD gK:Value)(p:o.dx)(oA oz:Value)(cs:List Value)(s:o.Scope)(w:World)(aM:o.h2 c.name)(aX:o.gG w jD c.guard)(bD:o.qj w gK c.di)
  (aS:o.gL w oA p.vars)(ay:o.pq w oz p.c7)(h:o.e5 w cs s) :
  bw Tryz.prog F.AZ #[.agg (c.enc jD gK).toArray,.agg (p.enc oA oz).toArray,.agg cs.toArray] w fun v w' =>
   v = .tuple #[.int .i64 (o.jm c p.cq s).1,.int .i64 (o.jm c p.cq s).2]∧Ext w w':=by
 obtain⟨a0,bR,dF,c1,a2,c2,a3,bN,a4,bX,rfl,_⟩:=h.form;obtain⟨bf,cap,rfl,hlen⟩:=bD.form;obtain⟨Bu,UJ,rfl,YR⟩:=aX.form;obtain⟨_,_,rfl,_⟩:=aS.form;obtain⟨_,_,rfl,_⟩:=ay.form;refine bO E.AZ ?_;refine bH ?_;refine aa ?_;intro ar bz cN aE al;refine aa ?_;intro aW ch en aF aO;refine aa ?_;intro bh cE gh av bA;replace al:=(aF.trans av).obj al;replace aO:=av.obj aO;have eG:∀{w'},Ext bh w'→Ext w w':=fun e=>((aE.trans aF).trans av).trans e;refine aa ?_;refine K.call (ye c.name bh aM) ?_;rintro u bj ⟨hu,aH⟩;replace al:=aH.obj al;replace aO:=aH.obj aO;replace bA:=aH.obj bA;have ej:∀{w'},Ext bj w'→Ext w w':=fun e=>eG (aH.trans e);have bx:∀n,o.head c p.cq=n→n≠0→o.jm c p.cq s=(0,n):=fun n e ak=>by unfold o.jm;rw[e,if_pos ak]
 cases e9:o.isName c.name with
 | false =>
  rw[e9] at hu;subst hu;refine aa ?_;exact⟨by rw[bx 6 (by unfold o.head;rw[if_pos e9]) (by decide)],ej (Ext.refl _)⟩
 | true =>
  rw[e9] at hu;subst hu;have oo:¬o.isName c.name=false:=by rw[e9];simp
  refine aa ?_;apply K.cond<;>intro g1
  ·refine aa ?_;exact⟨by rw[bx 10 (by unfold o.head;rw[if_neg oo,if_pos (by omega)]) (by decide)],ej (Ext.refl _)⟩
  refine aa ?_;apply K.cond<;>intro g2
  ·refine aa ?_;exact⟨by rw[bx 10 (by unfold o.head;rw[if_neg oo,if_pos (by omega)]) (by decide)],ej (Ext.refl _)⟩
  refine aa ?_;apply K.cond<;>intro g3
  ·refine aa ?_;exact⟨by rw[bx 10 (by unfold o.head;rw[if_neg oo,if_pos (by omega)]) (by decide)],ej (Ext.refl _)⟩
  refine aa ?_;apply K.cond<;>intro g4
  ·refine aa ?_;exact⟨by rw[bx 10 (by unfold o.head;rw[if_neg oo,if_pos (by omega)]) (by decide)],ej (Ext.refl _)⟩
  have o1:¬(c.from_<0∨p.cq≤c.from_∨c.to<0∨p.cq≤c.to):=by omega
  refine aa ?_;apply K.cond<;>intro g5
  ·refine aa ?_;exact⟨by rw[bx 11 (by unfold o.head;rw[if_neg oo,if_neg o1,if_pos (by omega)]) (by decide)],ej (Ext.refl _)⟩
  have xx:o.jm c p.cq s=if c.guard.length > 0∧o.asked c.guard 1 s≠0 then (1,o.asked c.guard 1 s) else o.kD s c.di 0 false:=by
   unfold o.jm;rw[if_neg];unfold o.head;rw[if_neg oo,if_neg o1,if_neg (by omega)];simp
  clear bx;refine aa ?_;apply K.cond<;>intro g6
  ·refine aa ?_;refine K.call (yd _ c.guard 1 _ s bj (aX.ext (ej (Ext.refl _))) (h.ext (ej (Ext.refl _)))) ?_;rintro _ bF ⟨rfl,a8⟩;replace al:=a8.obj al;replace bA:=a8.obj bA;have jE:∀{w'},Ext bF w'→Ext w w':=fun e=>ej (a8.trans e);refine aa ?_;apply K.cond<;>intro g7;rotate_left
   ·rw[if_pos ⟨by omega,g7⟩] at xx;refine aa ?_;exact⟨by rw[xx],jE (Ext.refl _)⟩
   have ba:o.jm c p.cq s=o.kD s c.di 0 false:=by rw[xx,if_neg (fun cR=>cR.2 (by simpa using g7))]
   refine aa ?_;refine K.cV 10 c.di.length [3,4,5] (fun b=>[(9,.bool b)]) false (fun k b w'=>Ext bF w'∧o.kD s c.di 0 false=o.kD s (c.di.drop k) k b) bp bp ⟨Ext.refl _,by simp⟩ ?_;rintro k b S bV hk ⟨bo,ct⟩;replace al:=bo.obj al;replace bA:=bo.obj bA;refine aa ?_;apply K.cond<;>intro g1
   ·have bd:k<c.di.length:=by omega
    obtain⟨a,rfl⟩:=bD.addr (by omega);obtain⟨cB,cF,kP,fv,p2⟩:=bD.at k bd;obtain⟨_,_,rfl,_⟩:=fv.form;obtain⟨_,_,rfl,_⟩:=p2.form;rw[o.FO bd,o.MZ] at ct;replace kP:=kP.ext (jE (Ext.refl _));refine aa ?_;refine K.fj (.int .i64 (o.jA c.di[k] s b)) (fun w' e=>RJ c.di[k] b _ _ _ s w' (fv.ext (jE (bo.trans e))) (p2.ext (jE (bo.trans e))) (h.ext (jE (bo.trans e)))) ?_;refine aa ?_;intro cc bY;replace al:=bY.obj al;replace bA:=bY.obj bA;refine aa ?_;apply K.cond<;>intro g2;rotate_left
    ·rw[if_pos g2] at ct;refine aa ?_;exact⟨by rw[ba,ct],jE (bo.trans bY)⟩
    rw[if_neg (by simpa using g2)] at ct;refine aa ?_;refine K.c3 (fun g3=>?_) (fun g3=>?_)
    ·subst g3;refine aa ?_;exact⟨bd,bq,true,bp,bo.trans bY,by simpa using ct⟩
    subst g3;refine aa ?_;apply K.cond<;>intro g4
    ·have aG:o.hh c.di[k]=true:=by unfold o.hh;rw[decide_eq_true_eq];omega
     refine aa ?_;exact⟨bd,bq,true,bp,bo.trans bY,by simpa[aG] using ct⟩
    have aG:o.hh c.di[k]=decide (c.di[k].kind=5):=by unfold o.hh;rw[Bool.eq_iff_iff,decide_eq_true_eq,decide_eq_true_eq];omega
    rw[Bool.false_or,aG] at ct;refine aa ?_;exact⟨bd,bq,decide (c.di[k].kind=5),bp,bo.trans bY,ct⟩
   ·rw[List.drop_eq_nil_of_le (by omega)] at ct;refine aa ?_;exact⟨by rw[ba,ct];rfl,jE bo⟩
  ·have ba:o.jm c p.cq s=o.kD s c.di 0 false:=by rw[xx,if_neg (fun cR=>g6 (by omega))]
   refine aa ?_;refine K.cV 10 c.di.length [3,4,5] (fun b=>[(9,.bool b)]) false (fun k b w'=>Ext bj w'∧o.kD s c.di 0 false=o.kD s (c.di.drop k) k b) bp bp ⟨Ext.refl _,by simp⟩ ?_;rintro k b S bV hk ⟨bo,ct⟩;replace al:=bo.obj al;replace bA:=bo.obj bA;refine aa ?_;apply K.cond<;>intro g1
   ·have bd:k<c.di.length:=by omega
    obtain⟨a,rfl⟩:=bD.addr (by omega);obtain⟨cB,cF,kP,fv,p2⟩:=bD.at k bd;obtain⟨_,_,rfl,_⟩:=fv.form;obtain⟨_,_,rfl,_⟩:=p2.form;rw[o.FO bd,o.MZ] at ct;replace kP:=kP.ext (ej (Ext.refl _));refine aa ?_;refine K.fj (.int .i64 (o.jA c.di[k] s b)) (fun w' e=>RJ c.di[k] b _ _ _ s w' (fv.ext (ej (bo.trans e))) (p2.ext (ej (bo.trans e))) (h.ext (ej (bo.trans e)))) ?_;refine aa ?_;intro cc bY;replace al:=bY.obj al;replace bA:=bY.obj bA;refine aa ?_;apply K.cond<;>intro g2;rotate_left
    ·rw[if_pos g2] at ct;refine aa ?_;exact⟨by rw[ba,ct],ej (bo.trans bY)⟩
    rw[if_neg (by simpa using g2)] at ct;refine aa ?_;refine K.c3 (fun g3=>?_) (fun g3=>?_)
    ·subst g3;refine aa ?_;exact⟨bd,bq,true,bp,bo.trans bY,by simpa using ct⟩
    subst g3;refine aa ?_;apply K.cond<;>intro g4
    ·have aG:o.hh c.di[k]=true:=by unfold o.hh;rw[decide_eq_true_eq];omega
     refine aa ?_;exact⟨bd,bq,true,bp,bo.trans bY,by simpa[aG] using ct⟩
    have aG:o.hh c.di[k]=decide (c.di[k].kind=5):=by unfold o.hh;rw[Bool.eq_iff_iff,decide_eq_true_eq,decide_eq_true_eq];omega
    rw[Bool.false_or,aG] at ct;refine aa ?_;exact⟨bd,bq,decide (c.di[k].kind=5),bp,bo.trans bY,ct⟩
   ·rw[List.drop_eq_nil_of_le (by omega)] at ct;refine aa ?_;exact⟨by rw[ba,ct];rfl,ej bo⟩
theorem adb(p:o.dx)(Bw cs:List Value)(s:o.Scope)(w:World)(bg:o.sO w Bw p)(h:o.e5 w cs s)(aX:s.cM)(l5:p.cM) :
  bw Tryz.prog F.A2 #[.agg Bw.toArray,.agg cs.toArray] w fun v w'=>v = .tuple #[.int .i64 (o.gS p s).1,.int .i64 (o.gS p s).2.1,.int .i64 (o.gS p s).2.2]∧Ext w w':=by
 obtain⟨a0,bR,dF,c1,a2,c2,a3,d3,a4,d4,rfl,ak,h1,U,ai,aL,et,dY,eg,dK,ed⟩:=h.form;obtain⟨aM,oA,oz,rfl,aS,oZ⟩:=bg;obtain⟨cw,bN,rfl,fA⟩:=aS.form;obtain⟨cP,bX,rfl,lc⟩:=oZ.form;refine bO E.A2 ?_;refine bH ?_;refine aa ?_;intro ar bz cN aE al;refine aa ?_;intro aW ch en aF aO;replace al:=aF.obj al;have cQ:∀{w'},Ext aW w'→Ext w w':=fun e=>(aE.trans aF).trans e;refine aa ?_;refine K.call (ye p.name aW aM) ?_;rintro u bh ⟨hu,av⟩;replace al:=av.obj al;replace aO:=av.obj aO;have eG:∀{w'},Ext bh w'→Ext w w':=fun e=>cQ (av.trans e);have bx:∀n,o.whole p s=n→n≠0→o.gS p s=(0,0,n):=fun n e ak=>by unfold o.gS;rw[e,if_pos ak]
 cases e9:o.isName p.name with
 | false =>
  rw[e9] at hu;subst hu;refine aa ?_;exact⟨by rw[bx 6 (by unfold o.whole;rw[if_pos e9]) (by decide)],eG (Ext.refl _)⟩
 | true =>
  rw[e9] at hu;subst hu;have oo:¬o.isName p.name=false:=by rw[e9];simp
  refine aa ?_;apply K.cond<;>intro g1
  ·refine aa ?_;exact⟨by rw[bx 8 (by unfold o.whole;rw[if_neg oo,if_pos (.inl g1)]) (by decide)],eG (Ext.refl _)⟩
  refine aa ?_;apply K.cond<;>intro g2
  ·refine aa ?_;exact⟨by rw[bx 8 (by unfold o.whole;rw[if_neg oo,if_pos (.inr (by omega))]) (by decide)],eG (Ext.refl _)⟩
  have l9:¬(p.over<0∨(s.scalars.length:Int)<p.over):=by omega
  refine aa ?_;apply K.cond<;>intro g3
  ·refine aa ?_;exact⟨by rw[bx 10 (by unfold o.whole;rw[if_neg oo,if_neg l9,if_pos (.inl g3)]) (by decide)],eG (Ext.refl _)⟩
  refine aa ?_;apply K.cond<;>intro g4
  ·refine aa ?_;exact⟨by rw[bx 10 (by unfold o.whole;rw[if_neg oo,if_neg l9,if_pos (.inr (by omega))]) (by decide)],eG (Ext.refl _)⟩
  have jR:¬(p.cq<1∨12<p.cq):=by omega
  refine aa ?_;apply K.cond<;>intro g5
  ·refine aa ?_;exact⟨by rw[bx 11 (by unfold o.whole;rw[if_neg oo,if_neg l9,if_neg jR,if_pos (by omega)]) (by decide)],eG (Ext.refl _)⟩
  have ba:o.gS p s=if (o.kg p s).2≠0 then (1,(o.kg p s).1,(o.kg p s).2) else o.kF (o.inner p s) p.cq p.c7 p.c7 0:=by
   unfold o.gS;rw[if_neg];unfold o.whole;rw[if_neg oo,if_neg l9,if_neg jR,if_neg (by omega)];simp
  clear bx;refine aa ?_;refine K.call (RP _ _ p.vars s.scalars 4 bh (aS.ext (eG (Ext.refl _))) (ak.ext (eG (Ext.refl _)))) ?_;rintro _ bj ⟨rfl,aH⟩;replace al:=aH.obj al;replace aO:=aH.obj aO;have ej:∀{w'},Ext bj w'→Ext w w':=fun e=>eG (aH.trans e);refine aa ?_;apply K.cond<;>intro g6;rotate_left
  ·have aN:o.kg p s=o.vars p.vars s.scalars 4:=by unfold o.kg;rw[if_pos g6]
   rw[aN,if_pos g6] at ba;refine aa ?_;exact⟨by rw[ba],ej (Ext.refl _)⟩
  have aN:o.kg p s=o.ny s p.vars 0:=by unfold o.kg;rw[if_neg (by simpa using g6)]
  rw[aN] at ba;refine aa ?_;refine K.cV 9 p.vars.length [2,3] (fun _:Unit=>[]) () (fun k _ w'=>Ext bj w'∧o.ny s p.vars 0=o.ny s (p.vars.drop k) k) bp bp ⟨Ext.refl _,by simp⟩ ?_;rintro k _ S bF hk ⟨a8,ct⟩;replace al:=a8.obj al;replace aO:=a8.obj aO;refine aa ?_;apply K.cond<;>intro g7
  ·have bd:k<p.vars.length:=by omega
   obtain⟨a,rfl⟩:=aS.addr (by omega);have ev:=((aS.at k bd).cells).ext (ej a8);rw[o.Q2 bd] at ct;refine aa ?_;apply K.cond<;>intro g8;rotate_left
   ·rw[if_pos g8] at ct;refine aa ?_;exact⟨by rw[ba,ct];rfl,ej a8⟩
   rw[if_neg (by simpa using g8)] at ct;refine aa ?_;refine K.cV 10 s.vars.length [2,3,9] (fun _:Unit=>[]) () (fun j _ w'=>Ext bF w'∧∀t (aG:t<s.vars.length),t<j→¬s.vars[t].name=p.vars[k].name) bp bp ⟨Ext.refl _,fun _ _ h=>absurd h (Nat.not_lt_zero _)⟩ ?_;rintro j _ a6 bV aP ⟨bo,pR⟩;replace al:=bo.obj al;replace aO:=bo.obj aO;have iq:∀{w'},Ext bV w'→Ext w w':=fun e=>ej ((a8.trans bo).trans e);refine aa ?_;apply K.cond<;>intro g9
   ·have eH:j<s.vars.length:=by omega
    obtain⟨dr,rfl⟩:=h1.addr (by omega);have fq:=((h1.at j eH).cells).ext (iq (Ext.refl _));replace ev:=ev.ext bo;refine aa ?_;intro cc bY;replace al:=bY.obj al;replace aO:=bY.obj aO;refine aa ?_;apply K.cond<;>intro g10
    ·have u9:s.vars.any (fun x=>decide (x.name=p.vars[k].name))=true:=List.any_eq_true.2 ⟨s.vars[j],List.getElem_mem _,by simpa using g10⟩;rw[if_pos u9] at ct;refine aa ?_;exact⟨by rw[ba,ct];rfl,iq bY⟩
    ·refine aa ?_;exact⟨eH,bq,(),trivial,bo.trans bY,fun t aG h=>by
      by_cases e:t=j
      ·subst e;exact g10
      ·exact pR t aG (by omega)⟩
   ·have u9:¬s.vars.any (fun x=>decide (x.name=p.vars[k].name))=true:=by
     intro cR;obtain⟨x,aD,hZ⟩:=List.any_eq_true.1 cR;obtain⟨t,aG,rfl⟩:=List.mem_iff_getElem.1 aD;exact pR t aG (by omega) (by simpa using hZ)
    rw[if_neg u9] at ct;refine aa ?_;exact⟨bd,bq,(),trivial,a8.trans bo,ct⟩
  rw[List.drop_eq_nil_of_le (by omega)] at ct;replace ba:o.gS p s=o.kF (o.inner p s) p.cq p.c7 p.c7 0:=by rw[ba,ct];rfl
  clear ct aN;have fz:∀w',Ext w w'→o.e5 w' [.slice a0 s.scalars.length bR,.slice dF s.vars.length c1,.slice a2 s.aK.length c2,.slice a3 s.procs.length d3,.slice cw p.vars.length bN,.int .i64 p.over] (o.inner p s):=fun w' e =>
   ⟨(aX.inner l5).oC.1,_,_,_,_,_,rfl,ak.ext e,h1.ext e,U.ext e,ai.ext e,aS.ext e,(aX.inner l5).oC.2⟩
  refine aa ?_;intro bV cE gh bo bA;replace al:=bo.obj al;replace aO:=bo.obj aO;have iq:∀{w'},Ext bV w'→Ext w w':=fun e=>ej ((a8.trans bo).trans e);refine aa ?_;refine K.cV 12 p.c7.length [2,3,11] (fun _:Unit=>[]) () (fun k _ w'=>Ext bV w'∧o.kF (o.inner p s) p.cq p.c7 p.c7 0=o.kF (o.inner p s) p.cq p.c7 (p.c7.drop k) k) bp bp ⟨Ext.refl _,by simp⟩ ?_;rintro k _ S cc hk ⟨bY,ct⟩;replace al:=bY.obj al;replace aO:=bY.obj aO;replace bA:=bY.obj bA;have iF:∀{w'},Ext cc w'→Ext w w':=fun e=>iq (bY.trans e);refine aa ?_;apply K.cond<;>intro g7
  ·have bd:k<p.c7.length:=by omega
   obtain⟨a,rfl⟩:=oZ.addr (by omega);obtain⟨aw,jD,gK,pU,tC,r2⟩:=oZ.at k bd;obtain⟨Bu,Ge,rfl,aaF⟩:=tC.form;obtain⟨bf,jG,rfl,nx⟩:=r2.form;rw[o.Nu bd] at ct;replace pU:=pU.ext (iF (Ext.refl _));refine aa ?_;refine K.fj (.tuple #[.int .i64 (o.jm p.c7[k] p.cq (o.inner p s)).1,.int .i64 (o.jm p.c7[k] p.cq (o.inner p s)).2]) (fun w' e=>acH p.c7[k] _ _ p _ _ _ (o.inner p s) w' aw (tC.ext (iF e)) (r2.ext (iF e)) (aS.ext (iF e)) (oZ.ext (iF e)) (fz _ (iF e))) ?_;refine aa ?_;intro dq cj;replace al:=cj.obj al;replace aO:=cj.obj aO;replace bA:=cj.obj bA;replace pU:=pU.ext cj;have h4:∀{w'},Ext dq w'→Ext w w':=fun e=>iF (cj.trans e);refine aa ?_;apply K.cond<;>intro g8;rotate_left
   ·rw[if_pos g8] at ct;refine aa ?_;exact⟨by rw[ba,ct],h4 (Ext.refl _)⟩
   rw[if_neg (by simpa using g8)] at ct;refine aa ?_;refine K.cV 15 k [2,3,11,12] (fun _:Unit=>[]) () (fun j _ w'=>Ext dq w'∧∀t (aG:t<p.c7.length),t<j→¬p.c7[t].name=p.c7[k].name) bp bp ⟨Ext.refl _,fun _ _ h=>absurd h (Nat.not_lt_zero _)⟩ ?_;rintro j _ a6 dE aP ⟨cv,pR⟩;replace al:=cv.obj al;replace aO:=cv.obj aO;replace bA:=cv.obj bA;have k8:∀{w'},Ext dE w'→Ext w w':=fun e=>h4 (cv.trans e);refine aa ?_;apply K.cond<;>intro g9
   ·have eH:j<p.c7.length:=by omega
    obtain⟨_,ahn,E6,O5,_,_⟩:=oZ.at j eH;replace O5:=O5.ext (k8 (Ext.refl _));replace pU:=pU.ext cv;refine aa ?_;intro fl cO;replace al:=cO.obj al;replace aO:=cO.obj aO;replace bA:=cO.obj bA;refine aa ?_;apply K.cond<;>intro g10
    ·have u9:(p.c7.take k).any (fun x=>decide (x.name=p.c7[k].name))=true:=List.any_eq_true.2 ⟨p.c7[j],by rw[List.mem_iff_getElem];exact⟨j,by simp;omega,by simp⟩,by simpa using g10⟩;rw[if_pos u9] at ct;refine aa ?_;exact⟨by rw[ba,ct],k8 cO⟩
    ·refine aa ?_;exact⟨by omega,bq,(),trivial,cv.trans cO,fun t aG h=>by
      by_cases e:t=j
      ·subst e;exact g10
      ·exact pR t aG (by omega)⟩
   ·have u9:¬(p.c7.take k).any (fun x=>decide (x.name=p.c7[k].name))=true:=by
     intro cR;obtain⟨x,aD,hZ⟩:=List.any_eq_true.1 cR;obtain⟨t,aG,rfl⟩:=List.mem_iff_getElem.1 aD;have Zw:t<k∧t<p.c7.length:=by simp at aG;omega
     exact pR t Zw.2 (by omega) (by simpa using hZ)
    rw[if_neg u9] at ct;refine aa ?_;exact⟨bd,bq,(),trivial,(bY.trans cj).trans cv,ct⟩
  ·rw[List.drop_eq_nil_of_le (by omega)] at ct;refine aa ?_;exact⟨by rw[ba,ct];rfl,iF (Ext.refl _)⟩
end Go.Proofs.R
end