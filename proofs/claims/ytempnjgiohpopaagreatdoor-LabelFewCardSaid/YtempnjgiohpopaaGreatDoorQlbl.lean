/- Texts joined: ModJ LiteM ModA ModD ModE ModF LiteD CodeD ModG LayA LayB LayC. -/
import Derived.Test.YtempnjgiohpopaaGreatDoorQlbd
import Derived.Test.YtempnjgiohpopaaGreatDoorQlbe
import Derived.Test.YtempnjgiohpopaaGreatDoorQlbg
import Derived.Test.YtempnjgiohpopaaGreatDoorQlbh
import Derived.Test.YtempnjgiohpopaaGreatDoorQlbi
import Derived.Test.YtempnjgiohpopaaGreatDoorQlbj
import Derived.Test.YtempnjgiohpopaaGreatDoorQlbk
import Derived.Maps.RangeRun
import Derived.Defers
import Derived.Recover
set_option linter.all false
set_option maxRecDepth 100000
set_option maxHeartbeats 16000000
section
namespace Go.Proofs.R
open Go Go.RowKit bn
theorem acT(cs:List Value)(m:o.Model)(k:Nat)(w:World)(h:o.eh w cs m)(aX:m.cM)(hk:k<m.procs.length)(Ak:k≤6)(DA:m.scalars.length≤2∧m.vars.length≤12∧m.aK.length≤4)(Y8:k<6→∀j,j<k→(o.gX m j).1=0) :
  bw Tryz.prog F.A9 #[.agg cs.toArray,.int .i64 k] w fun v w'=>v=uW (if (o.gX m k).1≠0 then ⟨(o.gX m k).1,4,k,(o.gX m k).2⟩ else o.qB)∧Ext w w':=by
 have bP:=h;obtain⟨cG,bR,cu,c1,cA,c2,cw,bN,cP,bX,rfl,ak,h1,U,ai,aL,et,dY,eg,dK,ed⟩:=h.form;have dO:=o.GD hk;refine bO E.A9 ?_;refine bH ?_;refine aa ?_;intro ar bz cN aE al;refine aa ?_;intro aW ch en aF aO;replace al:=aF.obj al;have aZ:=aE.trans aF;have fx:=cL al;have z2:=aE.size;refine aa ?_;apply K.cond<;>intro g1
 ·rw[if_pos (by omega)] at dO;refine aa ?_;intro bh gP bA;refine aa ?_;exact⟨by rw[dO];rfl,gP.ext aZ (by omega)⟩
 rw[if_neg (by omega)] at dO;obtain⟨a,rfl⟩:=ai.addr (by omega);obtain⟨lC,cF,ei,bg,eO,dR⟩:=ai.at k hk;obtain⟨e4,gN,rfl,fA⟩:=eO.form;obtain⟨mQ,mv,rfl,lc⟩:=dR.form;have l5:=aX.proc _ (List.getElem_mem hk);replace bg:=bg.ext aZ;refine aa ?_;intro bh jl nj av cK;replace al:=av.obj al;replace aO:=av.obj aO;refine aa ?_;intro bj aH;replace al:=aH.obj al;replace aO:=aH.obj aO;replace cK:=aH.obj cK;have b5:=(aZ.trans av).trans aH;refine aa ?_;refine K.call (acW (w0:=w) _ m k bj bP b5 aX) ?_;rintro _ bF ⟨⟨afA,rfl,kb⟩,a8⟩;refine⟨a8,?_⟩;have cf:=b5.trans a8;obtain⟨km,B7,k4,mW,k5,mX,mV,B8,mc,yA,rfl,_⟩:=(kb _ cf).form;refine aa ?_;refine K.call (adb m.procs[k] _ _ (o.gH m k) bF ⟨lC,_,_,rfl,eO.ext cf,dR.ext cf⟩ (kb _ cf) (aX.gH _) l5) ?_;rintro _ bV ⟨rfl,bo⟩;replace al:=(a8.trans bo).obj al;replace aO:=(a8.trans bo).obj aO;replace cK:=(a8.trans bo).obj cK;have ez:=cf.trans bo;clear aZ b5 bg;have fz:=o.Ry m.procs[k] (o.gH m k) 140737488351232 fun c ay=>by have:=(l5.cmd c ay).di;unfold o.dW at this;omega
 have ZC:m.procs[k].vars.length≤140737488351232:=by have:=l5.vars;unfold o.dW at this;omega
 have oY:m.procs[k].c7.length≤140737488351232:=by have:=l5.c7;unfold o.dW at this;omega
 refine aa ?_;apply K.cond<;>intro g2;rotate_left
 ·rw[if_pos g2] at dO;refine aa ?_;intro cc ec er;refine aa ?_;exact⟨by rw[dO,if_pos g2];rfl,ec.ext ez (by omega)⟩
 rw[if_neg (by simpa using g2)] at dO;have hlen:∀(i:Int),m.scalars.length+o.cx 1 4 i m.vars.length+o.cx 2 4 i m.aK.length+o.cx 3 4 k m.procs.length+o.gE 4 i m.props.length≤8000000000000:=fun i=>by
  have dS:=o.sE 1 4 i m.vars.length;have dP:=o.sE 2 4 i m.aK.length;have dD:o.cx 3 4 k m.procs.length≤k:=by unfold o.cx; (repeat' split)<;>omega
  have gT:o.gE 4 i m.props.length=0:=by unfold o.gE;rw[if_neg (by decide)]
  omega
 refine aa ?_;intro cc bY;replace al:=bY.obj al;replace aO:=bY.obj aO;replace cK:=bY.obj cK;have eM:=ez.trans bY;refine aa ?_;refine K.call (y0 _ m 4 k cc (bP.ext eM) (by omega) (by omega) (hlen k)) ?_;rintro _ dq ⟨⟨v,rfl,gA⟩,cj⟩;refine⟨cj,?_⟩;rw[o.TW] at gA;replace al:=cj.obj al;replace aO:=cj.obj aO;replace cK:=cj.obj cK;have jI:=eM.trans cj;refine aa ?_;refine K.call (zU v _ m.procs[k].name _ dq gA) ?_;rintro _ lL ⟨rfl,rfl⟩;refine aa ?_;apply K.cond<;>intro g3
 ·rw[if_pos g3] at dO;refine aa ?_;intro dE ow eY;refine aa ?_;exact⟨by rw[dO];rfl,ow.ext jI (by omega)⟩
 rw[if_neg g3] at dO;have rZ:m.procs.length*80≤140737488355328:=by have:=aX.procs;unfold o.dW at this;omega
 have Ao:m.scalars.length+o.cx 1 5 (0:Nat) m.vars.length+o.cx 2 5 (0:Nat) m.aK.length+o.cx 3 5 (0:Nat) m.procs.length+o.gE 5 (0:Nat) m.props.length≤8000000000000:=by
  have dS:=o.sE 1 5 (0:Nat) m.vars.length;have dP:=o.sE 2 5 (0:Nat) m.aK.length;have dD:=o.sE 3 5 (0:Nat) m.procs.length;have gT:o.gE 5 (0:Nat) m.props.length=0:=by unfold o.gE;rw[if_pos (by decide)];simp
  omega
 have tk:=al;have va:=aO;have OU:=cK;clear al aO cK gA;have al:=tk;have cK:=OU;refine aa ?_;refine K.cV 9 m.procs[k].vars.length [1,2,4,5] (fun _:Unit=>[]) () (fun j _ w'=>Ext lL w'∧∀i,i<j→o.n4 m m.procs[k] i=0) bp bp ⟨Ext.refl _,fun j h=>absurd h (Nat.not_lt_zero _)⟩ ?_;clear al cK;rintro j _ S dE aP ⟨cv,bK⟩;have al:=cv.obj tk;have aO:=cv.obj va;have cK:=cv.obj OU;have tc:=jI.trans cv;refine aa ?_;apply K.cond<;>intro g4
 ·have eH:j<m.procs[k].vars.length:=by omega
  obtain⟨dr,rfl⟩:=eO.addr (by omega);have ev:=((eO.at j eH).cells).ext tc;have e9:=o.x3 (f:=fun x:o.Var=>x.name) eH;refine aa ?_;intro fl cO;replace al:=cO.obj al;replace aO:=cO.obj aO;replace cK:=cO.obj cK;replace ev:=ev.ext cO;have qy:=tc.trans cO;refine aa ?_;refine K.call (y0 _ m 5 (0:Nat) fl (bP.ext qy) (by omega) (by omega) Ao) ?_;rintro _ gd ⟨⟨v2,rfl,As⟩,fg⟩;refine⟨fg,?_⟩;rw[o.M1] at As;replace al:=fg.obj al;replace aO:=fg.obj aO;replace cK:=fg.obj cK;have zy:=qy.trans fg;refine aa ?_;refine K.call (zU v2 _ m.procs[k].vars[j].name _ gd As) ?_;rintro _ wb ⟨rfl,rfl⟩;have c6:o.mP m 0=o.hx m m.procs.length:=by simp[o.mP]
  rw[c6];refine aa ?_;apply K.cond<;>intro g5
  ·have ve:o.n4 m m.procs[k] j=7:=by unfold o.n4;rw[e9,if_pos g5]
   rw[o.hD eH bK (by rw[ve];decide),ve,if_pos (show(7:Int)≠0 by decide)] at dO;refine aa ?_;intro k3 kW kx;refine aa ?_;exact⟨by rw[dO];rfl,kW.ext zy (by omega)⟩
  ·refine aa ?_;refine⟨eH,bq,(),trivial,(cv.trans cO).trans fg,fun i ad=>?_⟩;by_cases Ai:i=j
   ·subst Ai;unfold o.n4;rw[e9,if_neg g5]
   ·exact bK i (by omega)
 ·rw[o.lW fun i ad=>bK i (by omega),if_neg (by simp)] at dO;refine aa ?_;intro fl vr rN;refine aa ?_;exact⟨by rw[dO];rfl,vr.ext tc (by omega)⟩
theorem acU(cs:List Value)(m:o.Model)(k:Nat)(w:World)(h:o.eh w cs m)(aX:m.cM)(hk:k<m.props.length)(Pt:k≤8)(DA:m.scalars.length≤2∧m.vars.length≤12∧m.aK.length≤4)(Y8:m.procs.length≤6) :
  bw Tryz.prog F.Ba #[.agg cs.toArray,.int .i64 k] w fun v w'=>v = .int .i64 (o.jn m k)∧Ext w w':=by
 have bP:=h;obtain⟨cG,bR,cu,c1,cA,c2,cw,bN,cP,bX,rfl,ak,h1,U,ai,aL,et,dY,eg,dK,ed⟩:=h.form;have dO:=o.zE hk;refine bO E.Ba ?_;refine bH ?_;refine aa ?_;intro ar bz cN aE al;refine aa ?_;apply K.cond<;>intro g1
 ·rw[if_pos (by omega)] at dO;refine aa ?_;exact⟨by rw[dO],aE⟩
 rw[if_neg (by omega)] at dO;obtain⟨a,rfl⟩:=aL.addr (by omega);obtain⟨lC,fH,bg,fi⟩:=aL.at k hk;obtain⟨x7,ce,rfl,le⟩:=fi.form;replace bg:=bg.ext aE;refine aa ?_;intro aW jl nj aF cK;replace al:=aF.obj al;have aZ:=aE.trans aF;refine aa ?_;refine K.call (ye m.props[k].name aW lC) ?_;rintro _ bh ⟨rfl,av⟩;replace al:=av.obj al;replace cK:=av.obj cK;have bJ:=aZ.trans av;refine aa ?_;refine K.c3 (fun g2=>?_) (fun g2=>?_);rotate_left
 ·rw[if_pos g2] at dO;refine aa ?_;exact⟨by rw[dO],bJ⟩
 rw[if_neg (by rw[g2];decide)] at dO;refine aa ?_;intro bj aH;replace al:=aH.obj al;replace cK:=aH.obj cK;have b5:=bJ.trans aH;refine aa ?_;refine K.call (y0 _ m 5 k bj (bP.ext b5) (by omega) (by omega) (by
  have dS:=o.sE 1 5 k m.vars.length;have dP:=o.sE 2 5 k m.aK.length;have dD:=o.sE 3 5 k m.procs.length;have gT:o.gE 5 k m.props.length≤k:=by unfold o.gE; (repeat' split)<;>omega
  omega)) ?_
 rintro _ bF ⟨⟨v2,rfl,As⟩,a8⟩;refine⟨a8,?_⟩;rw[o.M1] at As;replace al:=a8.obj al;replace cK:=a8.obj cK;have cf:=b5.trans a8;refine aa ?_;refine K.call (zU v2 _ m.props[k].name _ bF As) ?_;rintro _ wb ⟨rfl,rfl⟩;refine aa ?_;apply K.cond<;>intro g3
 ·rw[if_pos g3] at dO;refine aa ?_;exact⟨by rw[dO],cf⟩
 rw[if_neg g3] at dO;have kb:∀w',Ext w w'→o.e5 w' [.slice cG m.scalars.length bR,.slice cu m.vars.length c1,.slice cA m.aK.length c2,.slice cw m.procs.length bN,.slice none 0 0,.int .i64 0] (o.ik m):=fun w' e =>
  ⟨aX.scope.oC.1,_,_,_,_,_,rfl,ak.ext e,h1.ext e,U.ext e,ai.ext e,bE.nil,aX.scope.oC.2⟩
 refine aa ?_;refine K.call (RN _ m.props[k].expr _ (o.ik m) _ (fi.ext cf) (kb _ cf)) ?_;rintro _ bV ⟨rfl,bo⟩;refine aa ?_;apply K.cond<;>intro g4;rotate_left
 ·rw[if_pos g4] at dO;refine aa ?_;exact⟨by rw[dO],cf.trans bo⟩
 rw[if_neg (by simpa using g4)] at dO;refine aa ?_;apply K.cond<;>intro g5;rotate_left
 ·rw[if_pos g5] at dO;refine aa ?_;exact⟨by rw[dO],cf.trans bo⟩
 rw[if_neg (by simpa using g5)] at dO;refine aa ?_;exact⟨by rw[dO],cf.trans bo⟩
theorem RM(cs:List Value)(m:o.Model)(w:World)(h:o.eh w cs m)(aX:m.cM) :
  bw Tryz.prog F.xY #[.agg cs.toArray] w fun v w'=>v=uW (o.check m)∧Ext w w':=by
 have bP:=h;obtain⟨cG,bR,cu,c1,cA,c2,cw,bN,cP,bX,rfl,ak,h1,U,ai,aL,et,dY,eg,dK,ed⟩:=h.form;refine bO E.xY ?_;refine bH ?_;simp -dsimp only[bQ];refine eD ?_;intro ar bz cN aE al;refine eD ?_;intro aW ch en aF aO;replace al:=aF.obj al;have aZ:=aE.trans aF;have fx:=cL al;have z2:=cL aO;have z3:=aE.size;refine eD ?_;simp -dsimp only[bQ];refine eD ?_;refine K.call (acN _ m aW (bP.ext aZ)) ?_;rintro _ bh ⟨rfl,av⟩;replace al:=av.obj al;replace aO:=av.obj aO;unfold uW;have z4:=aF.size;have z5:=av.size;refine eD ?_;intro bj cE gh aH bA;replace al:=aH.obj al;replace aO:=aH.obj aO;have b5:=(aZ.trans av).trans aH;have yC:=cL bA;have tk:=al;have va:=aO;have afL:=bP.ext b5;refine eD ?_;refine K.hU [1,2,3] (fun _:o.ps=>[]) (fun f w'=>Mod (fun i=>i=cE) bj w'∧w'.heap[cE]? = some (.cells #[.int .i64 f.cY,.int .i64 f.part,.int .i64 f.item,.int .i64 f.sub] T.w) ∧
  ((f.cY≠0∧f=o.check m)∨(f.cY=0∧(o.data m).cY=0∧∀j,j<m.procs.length→(o.gX m j).1=0))) ?_ ?_
 ·refine aa ?_;refine K.cV 4 m.procs.length [1,2,3] (fun _:o.ps=>[]) (o.data m) (fun k f w'=>Mod (fun i=>i=cE) bj w'∧w'.heap[cE]? = some (.cells #[.int .i64 f.cY,.int .i64 f.part,.int .i64 f.item,.int .i64 f.sub] T.w) ∧
   ((f=o.data m∧(o.data m).cY≠0)∨((o.data m).cY=0∧f.cY=0∧∀j,j<k→(o.gX m j).1=0)∨((o.data m).cY=0∧f=o.jU m∧(o.jU m).cY≠0))) bp bp ⟨Mod.refl _ _,bA,by
     by_cases h:(o.data m).cY=0
     ·exact .inr (.inl ⟨h,h,fun j h=>absurd h (Nat.not_lt_zero _)⟩)
     ·exact .inl ⟨rfl,h⟩⟩ ?_
  clear al aO bA;rintro k f S bF hk ⟨m5,bA,aI⟩;have al:=m5.obj (by omega) tk;have aO:=m5.obj (by omega) va;have cf:=m5.ext b5 (fun i ad e=>by omega);have Oe:f.cY≠0→(f.cY≠0∧f=o.check m):=fun hw=>⟨hw,by
   rcases aI with ⟨rfl,h⟩ | ⟨_,h,_⟩ | ⟨h1,rfl,U⟩
   ·rw[o.check,if_pos h]
   ·exact absurd h hw
   ·rw[o.check,if_neg (by simpa using h1),if_pos U]⟩
  refine aa ?_;apply K.cond<;>intro g1
  ·have bd:k<m.procs.length:=by omega
   refine aa ?_;apply K.cond<;>intro g2
   ·have mG:(o.data m).cY=0∧f.cY=0∧∀j,j<k→(o.gX m j).1=0:=by
     rcases aI with ⟨rfl,h⟩ | h | ⟨h1,rfl,U⟩
     ·exact absurd g2 h
     ·exact h
     ·exact absurd g2 U
    have Ak:k≤6:=by
     apply Classical.byContradiction;intro aM
     have:=o.Dd (m:=m) (i:=6) (by omega) (mG.2.2 6 (by omega))
     omega
    refine aa ?_;refine K.call (acT _ m k bF (bP.ext cf) aX bd Ak (o.C5 mG.1) fun _=>mG.2.2) ?_;rintro _ bV ⟨rfl,bo⟩;unfold uW;replace al:=bo.obj al;replace aO:=bo.obj aO;replace bA:=bo.obj bA;refine aa ?_;intro cc ec er;refine aa ?_;refine⟨bd,bq,_,trivial,(m5.trans bo.mod).trans (ec.mod rfl),er,?_⟩;by_cases ak:(o.gX m k).1=0
    ·rw[if_neg (by simpa using ak)];refine .inr (.inl ⟨mG.1,rfl,fun j aP=>?_⟩);by_cases fL:j=k
     ·subst fL;exact ak
     ·exact mG.2.2 j (by omega)
    ·rw[if_pos ak]
     have:=o.Bz bd mG.2.2 ak
     exact .inr (.inr ⟨mG.1,this.symm,by rw[this];exact ak⟩)
   ·refine aa ?_;exact⟨f,trivial,m5,bA,.inl (Oe g2)⟩
  ·refine aa ?_;refine⟨f,trivial,m5,bA,?_⟩;by_cases hw:f.cY=0
   ·refine .inr ?_;rcases aI with ⟨rfl,h⟩ | ⟨h1,U,ai⟩ | ⟨h1,rfl,U⟩
    ·exact absurd hw h
    ·exact⟨U,h1,fun j aP=>ai j (by omega)⟩
    ·exact absurd hw U
   ·exact .inl (Oe hw)
 clear al aO bA;rintro f S bF ⟨m5,bA,aI⟩;have al:=m5.obj (by omega) tk;have aO:=m5.obj (by omega) va;have cf:=m5.ext b5 (fun i ad e=>by omega);refine aa ?_;apply K.cond<;>intro g1;rotate_left
 ·have jL:f=o.check m:=by
   rcases aI with ⟨_,h⟩ | ⟨h,_⟩
   ·exact h
   ·exact absurd h g1
  refine aa ?_;intro bV fY cW;refine aa ?_;exact⟨by rw[jL],fY.ext cf (by omega)⟩
 have c4:(o.data m).cY=0∧∀j,j<m.procs.length→(o.gX m j).1=0:=by
  rcases aI with ⟨h,_⟩ | ⟨_,h⟩
  ·exact absurd g1 h
  ·exact h
 obtain⟨bx,u5⟩:=c4;have DA:=o.C5 bx;have rZ:m.procs.length≤6:=by
  apply Classical.byContradiction;intro aM
  have:=o.Dd (i:=6) (by omega) (u5 6 (by omega))
  omega
 have pV:o.rh m:=⟨by omega,by omega,by omega,fun p bg=>by
  obtain⟨j,aP,rfl⟩:=List.mem_iff_getElem.1 bg
  have:=o.I7 (o.GF aP (u5 j aP)).2.1
  omega⟩
 have oq:=o.I8 u5;have jL:o.check m=if (o.jU m).cY≠0 then o.jU m else o.ma m:=by rw[o.check,if_neg (by simpa using bx)]
 clear bA;refine aa ?_;refine K.call (acS _ m bF (bP.ext cf) pV) ?_;rintro _ bV ⟨rfl,bo⟩;replace al:=bo.obj al;replace aO:=bo.obj aO;have ez:=cf.trans bo;refine aa ?_;apply K.cond<;>intro g2
 ·rw[if_pos (.inl (by omega))] at oq;rw[oq,if_pos (show(11:Int)≠0 by decide)] at jL;refine aa ?_;intro cc ec er;refine aa ?_;exact⟨by rw[jL];rfl,ec.ext ez (by omega)⟩
 refine aa ?_;apply K.cond<;>intro g3
 ·rw[if_pos (.inr (by omega))] at oq;rw[oq,if_pos (show(11:Int)≠0 by decide)] at jL;refine aa ?_;intro cc ec er;refine aa ?_;exact⟨by rw[jL];rfl,ec.ext ez (by omega)⟩
 rw[if_neg (by omega)] at oq;rw[oq,if_neg (by simp[o.qB])] at jL;have XK:=al;have XM:=aO;refine aa ?_;refine K.cV 8 m.props.length [1,2] (fun _:Unit=>[]) () (fun k _ w'=>Ext bV w'∧∀j,j<k→o.jn m j=0) bp bp ⟨Ext.refl _,fun j h=>absurd h (Nat.not_lt_zero _)⟩ ?_;clear al aO;rintro k _ ko cc hk ⟨bY,bK⟩;have al:=bY.obj XK;have aO:=bY.obj XM;have eM:=ez.trans bY;refine aa ?_;apply K.cond<;>intro g4
 ·have bd:k<m.props.length:=by omega
  have Pt:k≤8:=by
   apply Classical.byContradiction;intro aM
   have:=o.V1 (m:=m) (i:=8) (by omega) (bK 8 (by omega))
   omega
  refine aa ?_;refine K.call (acU _ m k cc (bP.ext eM) aX bd Pt DA rZ) ?_;rintro _ dq ⟨rfl,cj⟩;replace al:=cj.obj al;replace aO:=cj.obj aO;refine aa ?_;apply K.cond<;>intro g5;rotate_left
  ·rw[o.Rz bd bK g5] at jL;refine aa ?_;intro dE ow eY;refine aa ?_;exact⟨by rw[jL];rfl,ow.ext (eM.trans cj) (by omega)⟩
  ·refine aa ?_;refine⟨bd,bq,(),trivial,bY.trans cj,fun j aP=>?_⟩;by_cases fL:j=k
   ·subst fL;simpa using g5
   ·exact bK j (by omega)
 ·rw[o.Ja fun j aP=>bK j (by omega)] at jL;refine aa ?_;intro dq kd fp;refine aa ?_;exact⟨by rw[jL];rfl,kd.ext eM (by omega)⟩
end Go.Proofs.R
end
section
namespace bn
open Go Go.RowKit
def q3(l:List ByteArray):List (ByteArray×Value):=l.map fun x=>(x,.bool true)
theorem adA(l:List ByteArray)(x:ByteArray):((q3 l).find? (fun p=>decide (x=p.1))).map (·.2)=if x∈l then some (.bool true) else none:=by
 induction l with
 | nil=>rfl
 | cons y l eo =>
  simp only[q3,List.map_cons,List.find?_cons,List.mem_cons];by_cases h:x=y
  ·simp[h]
  ·simp only[h,decide_false,false_or];exact eo
structure wu(es:Array MapEntry)(c:Nat)(L:List ByteArray):Prop where
 vx:∃l,ji Value.string es.toList (q3 l)∧∀x,x∈l↔x∈L
 born:∀e∈es.toList,e.born<c
 nodup:(es.toList.map (·.born)).Nodup
theorem ji.mem{l:List ByteArray}:∀{es:List MapEntry},ji Value.string es (q3 l)→∀e∈es,∃x∈l,e.key = .string x∧e.val = .bool true:=by
 induction l with
 | nil=>intro es h e he;cases es with | nil=>cases he | cons _ _=>simp[ji,q3] at h
 | cons y l eo =>
  intro es h e he;cases es with
  | nil=>cases he
  | cons f es =>
   simp only[ji,q3,List.map_cons,List.cons.injEq,Prod.mk.injEq] at h;rcases List.mem_cons.1 he with rfl | he
   ·exact⟨y,by simp,h.1.1,h.1.2⟩
   ·obtain⟨x,aD,U⟩:=eo (es:=es) h.2 e he;exact⟨x,by simp[aD],U⟩
theorem ji.IZ{l:List ByteArray}:∀{es:List MapEntry},ji Value.string es (q3 l)→∀x∈l,∃e∈es,e.key = .string x:=by
 induction l with
 | nil=>intro es h x aD;cases aD
 | cons y l eo =>
  intro es h x aD;cases es with
  | nil=>simp[ji,q3] at h
  | cons f es =>
   simp only[ji,q3,List.map_cons,List.cons.injEq,Prod.mk.injEq] at h;rcases List.mem_cons.1 aD with rfl | aD
   ·exact⟨f,by simp,h.1.1⟩
   ·obtain⟨e,he,U⟩:=eo (es:=es) h.2 x aD;exact⟨e,by simp[he],U⟩
theorem wu.mem{es:Array MapEntry}{c:Nat}{L:List ByteArray}(h:wu es c L):∀e∈es.toList,∃x∈L,e.key = .string x∧e.val = .bool true:=fun e he=>by
 obtain⟨l,h1,U⟩:=h.vx;obtain⟨x,aD,ai⟩:=h1.mem e he;exact⟨x,(U x).1 aD,ai⟩
theorem wu.IZ{es:Array MapEntry}{c:Nat}{L:List ByteArray}(h:wu es c L):∀x∈L,∃e∈es.toList,e.key = .string x:=fun x aD=>by
 obtain⟨l,h1,U⟩:=h.vx;exact h1.IZ x ((U x).2 aD)
theorem Og{d:TypeDesc}{k:Value}:∀{es:List MapEntry} {i j:Nat} {v:Value},Instr.findNow d k es i=some (some (j,v))→i≤j∧∃e,es[j - i]? = some e∧Instr.sameNow d k e.key=some true
 | [],i,j,v,h=>by simp[Instr.findNow] at h
 | e :: es,i,j,v,h=>by
  unfold Instr.findNow at h;split at h
  ·rename_i aw;injection h with h;injection h with h;injection h with h1 U
   subst h1;exact⟨Nat.le_refl _,e,by simp,aw⟩
  ·obtain⟨h1,e',U,ai⟩:=Og h;refine⟨by omega,e',?_,ai⟩;rw[show j - i=(j - (i+1))+1 from by omega,List.getElem?_cons_succ];exact U
  ·cases h
theorem aaZ{es:Array MapEntry}{j:Nat}{e:MapEntry}{f:MapEntry→MapEntry}(aP:es[j]? = some e)(aI:f e=e):es.modify j f=es:=by
 apply Array.ext_getElem?;intro i;rw[Array.getElem?_modify];by_cases h:j=i
 ·subst h;rw[if_pos rfl,aP,Option.map_some,aI]
 ·rw[if_neg h]
def e6(w:World)(b:Nat)(L:List ByteArray):Prop := ∃es c,w.heap[b]? = some (.map es c)∧wu es c L
theorem e6.of{w w':World}{b:Nat}{L:List ByteArray}(h:e6 w b L)(e:w'.heap[b]? = w.heap[b]?):e6 w' b L:=let ⟨es,c,h1,U⟩:=h; ⟨es,c,e.trans h1,U⟩
theorem e6.lt{w:World}{b:Nat}{L:List ByteArray}(h:e6 w b L):b<w.heap.size:=let ⟨_,_,h1,_⟩:=h;cL h1
theorem e6.ext{w w':World}{b:Nat}{L:List ByteArray}(h:e6 w b L)(e:Ext w w'):e6 w' b L:=h.of (e.heap h.lt)
theorem e6.wr{w w':World}{b k:Nat}{L:List ByteArray}(h:e6 w b L)(e:dT k w w')(hk:b≠k):e6 w' b L:=h.of (e.block b hk)
theorem e6.hy{w:World}{b:Nat}{L nJ:List ByteArray}(h:e6 w b L)(e:∀x,x∈L↔x∈nJ):e6 w b nJ:=by
 obtain⟨es,c,h1,⟨⟨l,U,ai⟩,aL,bt⟩⟩:=h;exact⟨es,c,h1,⟨⟨l,U,fun x=>(ai x).trans (e x)⟩,aL,bt⟩⟩
theorem e6.empty{w:World}{b:Nat}(h:w.heap[b]? = some (.map #[] 0)):e6 w b []:=⟨_,_,h,⟨⟨[],rfl,fun _=>Iff.rfl⟩,fun e he=>by simp at he,by simp⟩⟩
theorem e6.look{w:World}{b:Nat}{L:List ByteArray}(h:e6 w b L)(x:ByteArray):∃es r,pv w (.map (some b)) es∧Instr.findNow .string (.string x) es.toList 0=some r∧lG (.bool false) false r = .bool (decide (x∈L)):=by
 obtain⟨es,c,h1,⟨⟨l,U,ai⟩,_,_⟩⟩:=h;obtain⟨r,ot,lB⟩:=zG EH x es.toList _ 0 U;rw[adA] at lB;refine⟨es,r,.inr ⟨b,c,rfl,h1⟩,ot,?_⟩;by_cases aD:x∈L
 ·rw[if_pos ((ai x).2 aD)] at lB;simp[lG,lB,aD]
 ·rw[if_neg (fun h=>aD ((ai x).1 h))] at lB;simp[lG,lB,aD]
theorem e6.put{w:World}{b:Nat}{L:List ByteArray}(h:e6 w b L)(x:ByteArray):∃es c q,w.heap[b]? = some (.map es c)∧Instr.findNow .string (.string x) es.toList 0=some q ∧
  ∀w':World,w'.heap[b]? = some (p7 es c (.string x) (.bool true) q)→e6 w' b (L++[x]):=by
 obtain⟨es,c,h1,hm⟩:=h;obtain⟨l,U,ai⟩:=hm.vx;obtain⟨r,ot,lB⟩:=zG EH x es.toList _ 0 U;refine⟨es,c,r,h1,ot,fun w' hw=>?_⟩;cases r with
 | none =>
  refine⟨_,_,hw,⟨⟨l++[x],?_,fun y=>?_⟩,?_,?_⟩⟩
  ·have:=ji.push U x (.bool true) c
   simpa[q3] using this
  ·simp[ai y]
  ·intro e he;simp only[Array.toList_push,List.mem_append,List.mem_singleton] at he;rcases he with he | rfl
   ·have:=hm.born e he;omega
   ·show c<c+1;omega
  ·simp only[Array.toList_push,List.map_append,List.map_cons,List.map_nil];rw[List.nodup_append];refine⟨hm.nodup,by simp,fun a bD ng Dr=>?_⟩;obtain⟨e,he,rfl⟩:=List.mem_map.1 bD;simp only[List.mem_singleton] at Dr
   have:=hm.born e he
   omega
 | some Z4 =>
  obtain⟨j,v⟩:=Z4;obtain⟨_,e,he,aw⟩:=Og ot;have tz:e∈es.toList:=List.mem_of_getElem? he;obtain⟨y,cS,hk,aS⟩:=hm.mem e tz;have ZJ:x=y:=by rw[hk,EH] at aw;simpa using aw
  subst ZJ;have H3:es.modify j (fun e=>{ e with key:=.string x,val:=.bool true })=es:=aaZ (e:=e) (by simpa using he) (by cases e;simp only at hk aS;subst hk aS;rfl);have xD:w'.heap[b]? = some (.map es c):=by rw[hw];show some (Obj.map (es.modify j _) c)=_;rw[H3]
  exact⟨es,c,xD,⟨⟨l,U,fun z=>by rw[ai z];simp;rintro rfl;exact cS⟩,hm.born,hm.nodup⟩⟩
def lb(w:World)(r b:Nat)(L D:List ByteArray)(n:Nat)(cur:Option ByteArray):Prop :=
 ∃es c since seen bR,w.heap[b]? = some (.map es c)∧wu es c L∧w.heap[r]? = some (.mapIter (some b) since seen bR)∧(∀x∈es.toList,x.born<since)∧since≤bR∧since≤c∧(leftOf es seen).size=n ∧
  (∀e∈es.toList,seen.contains e.born=true→∃x∈D,e.key = .string x)∧(∀x∈D,x∈L)∧(∀x,cur=some x→∃(Jr:Array Nat) (e:MapEntry),bR=c∧seen=Jr.push e.born∧e∈es.toList∧e.key = .string x∧e.val = .bool true)
theorem lb.of{w w':World}{r b:Nat}{L D:List ByteArray}{n:Nat}{cur:Option ByteArray}(h:lb w r b L D n cur)(bS:w'.heap[b]? = w.heap[b]?)(aZ:w'.heap[r]? = w.heap[r]?):lb w' r b L D n cur :=
 let ⟨es,c,since,seen,bR,h1,U,ai,aL⟩:=h; ⟨es,c,since,seen,bR,bS.trans h1,U,aZ.trans ai,aL⟩
theorem lb.sub{w:World}{r b:Nat}{L D:List ByteArray}{n:Nat}{cur:Option ByteArray}(h:lb w r b L D n cur):∀x∈D,x∈L:=let ⟨_,_,_,_,_,_,_,_,_,_,_,_,_,U,_⟩:=h;U
theorem lb.ne{w:World}{r b:Nat}{L D:List ByteArray}{n:Nat}{cur:Option ByteArray}(h:lb w r b L D n cur):r≠b:=by
 obtain⟨es,c,since,seen,bR,h1,U,ai,aL⟩:=h;intro e;rw[e,h1] at ai;cases ai
theorem lb.lt{w:World}{r b:Nat}{L D:List ByteArray}{n:Nat}{cur:Option ByteArray}(h:lb w r b L D n cur):r<w.heap.size:=by
 obtain⟨es,c,since,seen,bR,h1,U,ai,aL⟩:=h;exact cL ai
theorem lb.wr{w w':World}{r b k:Nat}{L D:List ByteArray}{n:Nat}{cur:Option ByteArray}(h:lb w r b L D n cur)(e:dT k w w')(h1:b≠k)(U:r≠k):lb w' r b L D n cur:=h.of (e.block b h1) (e.block r U)
theorem aeZ(k:Nat)(w:World):dT k w w.drew:=⟨rfl,rfl,rfl,rfl,fun _ _=>rfl⟩
section
variable{P:Program}{cI:Value→World→Prop}{S:Fr}{w:World}{gr:World→Prop}{ax:Value→Prop}
theorem K.Q1{b:Nat}{L:List ByteArray}{x:ByteArray}{t}(h:e6 w b L)(hk:ax (.bool (decide (x∈L)))):yN .string (.bool false) false (.map (some b)) (.string x) w ax t:=by
 obtain⟨es,r,h1,U,ai⟩:=h.look x;exact K.l7 h1 U (by rw[ai];exact hk)
theorem K.Em{b:Nat}{L:List ByteArray}{x:ByteArray}{t}(h:e6 w b L)(hk:∀ar,dT b w ar→e6 ar b (L++[x])→gr ar):wx .string (.map (some b)) (.string x) (.bool true) w gr t:=by
 obtain⟨es,c,q,h1,U,ai⟩:=h.put x;exact K.iA h1 U (hk _ (dT.fk w b _) (ai _ (BO (cL h1))))
theorem K.ac4{b:Nat}{L:List ByteArray}{x:Operand}{im k e ty:TypeId}{t}(aD:a7 S x = .map (some b))(aG:P.underlying im=some (.map k e))(h:e6 w b L)
  (hk:∀ar r n,w.heap.size≤r→Ext w ar→lb ar r b L [] n none→cI (.pointer (some ⟨r,0,none⟩)) ar):rp P (.range im x) ty S w cI t:=by
 obtain⟨es,c,h1,U⟩:=h;have gB:=run_range_map (P:=P) w im k e b es c aG h1;refine K.raw (v:=.pointer (some ⟨w.heap.size,0,none⟩)) (w':=w.alloc (.mapIter (some b) c #[] c)) (by simp[execOp,aD,gB,Result.andThen]) ?_;refine hk _ _ _ (Nat.le_refl _) ((Ext.refl w).alloc _) ⟨es,c,c,#[],c,heap_alloc_old h1,U,heap_alloc_new w _,U.born,Nat.le_refl _,Nat.le_refl _,rfl,?_,?_,?_⟩
 ·intro e _ h;simp at h
 ·intro x aD;cases aD
 ·intro x aD;cases aD
theorem K.abm{r b n:Nat}{L D:List ByteArray}{cur:Option ByteArray}{x:Operand}{ty:TypeId}{t}(aD:a7 S x = .pointer (some ⟨r,0,none⟩))(h:lb w r b L D n cur)
  (ak:(∀y∈L,y∈D)→cI (.tuple #[.bool false]) w)
  (h1:∀y ar jQ,y∈L→jQ<n→dT r w ar→lb ar r b L (D++[y]) jQ (some y)→cI (.tuple #[.bool true,.string y,.bool true]) ar):rp P (.next x false) ty S w cI t:=by
 have de:=h.ne;obtain⟨es,c,since,seen,bR,aA,hm,ba,hold,kb,H6,aM,qD,Oz,_⟩:=h;rcases run_next_at (P:=P) w ty r b since bR seen es c ba aA hold kb with ⟨bK,gB⟩ | ⟨e,he,ar,OJ,gB⟩
 ·refine K.raw (v:=.tuple #[.bool false]) (w':=w) (by simp[execOp,aD,gB,Result.andThen]) (ak fun y cS=>?_);obtain⟨e,he,hk⟩:=hm.IZ y cS;obtain⟨z,D9,qS⟩:=qD e he (all_seen es seen bK e he);rw[hk] at qS;injection qS with qS
  rw[qS];exact D9
 ·obtain⟨Ho,age⟩:=mem_left he;obtain⟨y,cS,hk,aS⟩:=hm.mem e Ho;have jv:dT r w ar:=by
   rcases OJ with rfl | rfl
   ·exact dT.refl _ _
   ·exact aeZ r w
  have c5:ar.heap.size=w.heap.size:=jv.size;have ov:r<ar.heap.size:=by rw[c5];exact cL ba
  have H4:Go.ChangeMaps.setBlock ar r (.mapIter (some b) since (seen.push e.born) c)=bn.fk ar r (.mapIter (some b) since (seen.push e.born) c):=rfl;rw[H4] at gB;refine K.raw (v:=.tuple #[.bool true,e.key,e.val]) (w':=fk ar r (.mapIter (some b) since (seen.push e.born) c)) (by simp[execOp,aD,gB,Result.andThen]) ?_;rw[hk,aS];refine h1 y _ _ cS (Nat.lt_of_lt_of_eq (left_shrinks es seen e he) aM) (jv.trans (dT.fk _ _ _)) ⟨es,c,since,seen.push e.born,c,?_,hm,BO ov,hold,H6,H6,rfl,fun f aI ay=>?_,fun z bK=>?_,fun z bK=>?_⟩
  ·rw[Jv (Ne.symm de)];rcases OJ with rfl | rfl<;>exact aA
  ·rw[contains_push] at ay;rcases Bool.or_eq_true_iff.1 ay with ay | ay
   ·obtain⟨x,o3,hZ⟩:=qD f aI ay;exact⟨x,by simp[o3],hZ⟩
   ·have nk:f.born=e.born:=by simpa using ay
    have bt:=find_born f es.toList hm.nodup aI;rw[nk,find_born e es.toList hm.nodup Ho] at bt;injection bt with bt
    have:f=e:=bt.symm
    subst this;exact⟨y,by simp,hk⟩
  ·rcases List.mem_append.1 bK with bK | bK
   ·exact Oz z bK
   ·simp only[List.mem_singleton] at bK;subst bK;exact cS
  ·injection bK with bK
   subst bK;exact⟨seen,e,rfl,rfl,Ho,hk,aS⟩
theorem K.VV{r b n:Nat}{L D:List ByteArray}{y:ByteArray}{x:Operand}{ty:TypeId}{t}(aD:a7 S x = .pointer (some ⟨r,0,none⟩))(h:lb w r b L D n (some y))
  (hk:cI (.tuple #[.string y,.bool true]) w):rp P (.entry x) ty S w cI t:=by
 obtain⟨es,c,since,seen,bR,aA,hm,ba,hold,kb,H6,aM,qD,Oz,ay⟩:=h;obtain⟨Jr,e,rfl,rfl,he,vi,cp⟩:=ay y rfl;have gB:(Instr.entry (.pointer (some ⟨r,0,none⟩))).run P w = .ok (.tuple #[e.key,e.val]) w:=run_entry_at w r b since Jr es bR e ba aA he hm.nodup;refine K.raw (v:=.tuple #[e.key,e.val]) (w':=w) (by simp[execOp,aD,gB,Result.andThen]) ?_;rw[vi,cp];exact hk
end
end bn
end
section
namespace Go.Proofs.R
open Go Go.RowKit bn
def sD(f:o.ps):List PanicEntry:=[{ v:=.iface T.am (.agg #[.int .i64 f.cY,.int .i64 f.part,.int .i64 f.item,.int .i64 f.sub]),recovered:=false }]
theorem oD(e p i s:Int)(w:World):oN Tryz.prog F.b #[.int .i64 e,.int .i64 p,.int .i64 i,.int .i64 s] w (fun _ w'=>e=0∧w'=w) (fun c w'=>e≠0∧c=sD ⟨e,p,i,s⟩∧w'=w):=by
 refine K.BV lz E.b (args:=[_,_,_,_]) (Nat.le_of_ble_eq_true rfl) ?_;dsimp only[C.b];refine bH ?_;refine aa ?_;refine K.cond (fun g=>?_) (fun g=>?_)
 ·refine aa ?_;exact⟨g,bq⟩
 ·refine aa ?_;exact⟨g,bq,bq⟩
theorem EZ(b:Nat)(L:List ByteArray)(x:ByteArray)(p i:Int)(w:World)(h:e6 w b L):oN Tryz.prog F.w #[.map (some b),.string x,.int .i64 p,.int .i64 i] w
  (fun _ w' => ¬x∈L∧dT b w w'∧e6 w' b (L++[x])) (fun c w'=>x∈L∧c=sD ⟨7,p,i,0⟩∧w'=w):=by
 refine K.BV lz E.w (args:=[_,_,_,_]) (Nat.le_of_ble_eq_true rfl) ?_;dsimp only[C.w];refine bH ?_;refine aa ?_;refine K.Q1 h ?_;refine aa ?_;refine K.cond (fun g=>?_) (fun g=>?_)
 ·refine aa ?_;refine K.eK (oD 7 p i 0 w) ?_ ?_
  ·rintro _ _ ⟨ak,_⟩;exact absurd ak (by decide)
  ·rintro c _ ⟨_,rfl,rfl⟩;refine aa ?_;exact⟨g,bq,bq⟩
 ·refine aa ?_;refine K.Em h fun ar hw h1=>?_;refine aa ?_;exact⟨g,hw,h1⟩
end Go.Proofs.R
end
section
namespace Go.Proofs.R
open Go Go.RowKit bn
structure iw(w0 w:World)(dG bz:Nat)(cs:List Value)(w':World)(L:List ByteArray):Prop where
 ext:Ext w0 w'
 mod:Mod (fun k=>k=dG) w w'
 box:w'.heap[bz]? = some (.cells cs.toArray T.c)
 set:e6 w' dG L
 low:w0.heap.size≤dG
 ne:bz≠dG
section
variable{w0 w w' bW:World}{dG bz:Nat}{cs:List Value}{L nJ:List ByteArray}
theorem iw.then(h:iw w0 w dG bz cs w' L)(he:Ext w' bW):iw w0 w dG bz cs bW L:=⟨h.ext.trans he,h.mod.trans he.mod,he.obj h.box,h.set.ext he,h.low,h.ne⟩
theorem iw.wr(h:iw w0 w dG bz cs w' L)(hw:dT dG w' bW)(aw:e6 bW dG nJ):iw w0 w dG bz cs bW nJ:=⟨hw.ext h.ext h.low,h.mod.trans (hw.mod rfl),hw.obj h.box h.ne,aw,h.low,h.ne⟩
theorem iw.hy(h:iw w0 w dG bz cs w' L)(e:L=nJ):iw w0 w dG bz cs w' nJ:=e ▸ h
end
theorem W2{w0:World}(cs:List Value)(m:o.Model)(dG:Nat)(w:World)(h:o.eh w0 cs m)(dJ:Ext w0 w)(xk:w0.heap.size≤dG)(a1:gf w0)(aw:e6 w dG []) :
  oN Tryz.prog F.cs #[.agg cs.toArray,.map (some dG)] w (fun _ w'=>(o.data m).cY=0∧Ext w0 w'∧Mod (fun k=>k=dG) w w'∧e6 w' dG (o.k0 m m.aK.length))
   (fun c w'=>(o.data m).cY≠0∧c=sD (o.data m)∧Ext w0 w'∧Mod (fun k=>k=dG) w w'):=by
 obtain⟨cG,bR,cu,c1,cA,c2,cw,bN,cP,bX,rfl,ak,h1,U,ai,aL,et,dY,eg,dK,ed⟩:=h.form;refine K.BV lz E.cs (args:=[_,_]) (Nat.le_of_ble_eq_true rfl) ?_;dsimp only[C.cs];refine bH ?_;refine aa ?_;intro ar bz cN aE al;have st1:iw w0 w dG bz _ ar []:=⟨dJ.trans aE,aE.mod,al,aw.ext aE,xk,by have:=aw.lt;omega⟩;clear aw;refine aa ?_;refine K.call (adu _ m.scalars ar (a1.ext st1.ext) (ak.ext st1.ext)) ?_;rintro _ aW ⟨rfl,aF⟩;replace st1:=st1.then aF;clear al;refine aa ?_;refine K.eK (oD (o.scalars m.scalars).2 1 (o.scalars m.scalars).1 0 aW) ?_ ?_;rotate_left
 ·rintro c _ ⟨g,rfl,rfl⟩;refine aa ?_;rw[o.NJ g];exact⟨g,rfl,st1.ext,st1.mod⟩
 rintro _ _ ⟨cn,rfl⟩;have al:=st1.box;refine aa ?_;refine K.cV 24 m.scalars.length [1,2,22,23] (fun _:Unit=>[]) () (fun k _ w'=>iw w0 w dG bz _ w' ((m.scalars.take k).map (·.name))) bp bp (st1.hy (by simp)) ?_;clear al aF st1;rintro k _ S bh hk jW;have al:=jW.box;have bJ:=jW.ext;refine aa ?_;apply K.cond<;>intro g1
 ·have bd:k<m.scalars.length:=by omega
  obtain⟨a,rfl⟩:=ak.addr (by omega);refine aa ?_;intro bj cE gh aH bA;have jX:=jW.then aH;refine aa ?_;refine K.Em jX.set fun bF hw H0=>?_;refine aa ?_;exact⟨bd,bq,(),trivial,(jX.wr hw H0).hy (o.yo _ _ bd).symm⟩
 replace jW:=jW.hy (show _=o.o8 m 0 by rw[List.take_of_length_le (by omega)];simp);refine aa ?_;refine K.call (S1 _ _ m.vars m.scalars 12 bh (a1.ext bJ) (h1.ext bJ) (ak.ext bJ)) ?_;rintro _ bj ⟨rfl,aH⟩;replace jW:=jW.then aH;clear al bJ;have al:=jW.box;rw[o.aeI];refine aa ?_;refine K.cV 43 m.vars.length [1,2,4,5,41,42] (fun _:Unit=>[]) () (fun k _ w'=>iw w0 w dG bz _ w' (o.o8 m k)∧∀j,j<k→o.hV m j=0) bp bp ⟨jW,fun j h=>absurd h (Nat.not_lt_zero _)⟩ ?_;clear al jW aH;rintro k _ a6 bF hk ⟨hf,bK⟩;have al:=hf.box;have cf:=hf.ext;refine aa ?_;apply K.cond<;>intro g1
 ·have bd:k<m.vars.length:=by omega
  obtain⟨a,rfl⟩:=h1.addr (by omega);have e9:=o.x3 (f:=fun x:o.Var=>x.name) bd;refine aa ?_;intro yy iY kv kS mD;refine eD ?_;intro bV fY cW;have bo:=fY.ext kS kv;have gp:=hf.then bo;replace al:=gp.box;clear mD kS;refine eD ?_;refine K.hU [1,2,4,5,8,9,41,42,43] (fun _:Unit=>[]) (fun _ w'=>w'=bV∧o.lK m k=0) ?_ ?_
  ·refine aa ?_;apply K.cond<;>intro g2
   ·refine aa ?_;refine K.eK (oD (o.first m.vars.length (o.lK m)).2 2 k 0 bV) ?_ ?_
    ·rintro _ _ ⟨fW,rfl⟩;refine aa ?_;exact⟨(),trivial,bq,o.rF fW k bd⟩
    ·rintro c _ ⟨fW,rfl,rfl⟩;obtain⟨i,ad,bS,aZ⟩:=o.Ol fW;obtain rfl:k=i:=by omega
     rw[aZ] at fW;have jb:o.hV m k=o.lK m k:=by unfold o.hV;rw[if_pos fW]
     have bx:=o.C6 cn bd bK (by rw[jb];exact fW);rw[jb] at bx;refine aa ?_;rw[bx,aZ];exact⟨fW,bq,gp.ext,gp.mod⟩
   ·refine aa ?_;refine⟨(),trivial,bq,?_⟩;apply Classical.byContradiction;intro de;apply g2;rw[o.hD bd (fun j aP=>o.Fb (bK j aP)) de]
  rintro _ ko _ ⟨rfl,kV⟩;refine aa ?_;refine K.eK (EZ dG (o.o8 m k) m.vars[k].name 2 k _ gp.set) ?_ ?_
  ·rintro _ cc ⟨aM,ec,ih⟩;refine aa ?_;refine⟨bd,bq,(),trivial,(gp.wr ec ih).hy (by simp only[o.o8,o.vK];rw[o.yo (fun x:o.Var=>x.name) _ bd,List.append_assoc]),fun j aP=>?_⟩;by_cases fL:j=k
   ·subst fL;unfold o.hV;rw[if_neg (by simpa using kV),e9,if_neg aM]
   ·exact bK j (by omega)
  ·rintro c _ ⟨aM,rfl,rfl⟩;have jb:o.hV m k=7:=by unfold o.hV;rw[if_neg (by simpa using kV),e9,if_pos aM]
   have bx:=o.C6 cn bd bK (by rw[jb];decide);rw[jb] at bx;refine aa ?_;rw[bx];exact⟨(show(7:Int)≠0 by decide),bq,gp.ext,gp.mod⟩
 have j9:m.vars.length≤k:=by omega
 have lr:∀j,j<m.vars.length→o.hV m j=0:=fun j aP=>bK j (by omega);replace hf:=hf.hy (show _=o.k0 m 0 by simp only[o.k0,o.o8,o.vK,o.vJ];rw[List.take_of_length_le j9];simp);refine aa ?_;refine K.call (Vc _ _ m.aK m.scalars bF (a1.ext cf) (U.ext cf) (ak.ext cf)) ?_;rintro _ bV ⟨rfl,bo⟩;replace hf:=hf.then bo;clear al cf;have al:=hf.box;rw[o.Vb];refine aa ?_;refine K.cV 71 m.aK.length [1,2,4,5,69,70] (fun _:Unit=>[]) () (fun k _ w'=>iw w0 w dG bz _ w' (o.k0 m k)∧∀j,j<k→o.iJ m j=0) bp bp ⟨hf,fun j h=>absurd h (Nat.not_lt_zero _)⟩ ?_;clear al hf bo;rintro k _ a6 cc hk ⟨hR,bK⟩;have al:=hR.box;have eM:=hR.ext;refine aa ?_;apply K.cond<;>intro g1
 ·have bd:k<m.aK.length:=by omega
  obtain⟨a,rfl⟩:=U.addr (by omega);have e9:=o.x3 (f:=fun x:o.dh=>x.name) bd;refine aa ?_;intro yy iY kv kS mD;refine eD ?_;intro bV fY cW;have bo:=fY.ext kS kv;have gp:=hR.then bo;replace al:=gp.box;clear mD kS;refine eD ?_;refine K.hU [1,2,4,5,10,11,69,70,71] (fun _:Unit=>[]) (fun _ w'=>w'=bV∧o.lo m k=0) ?_ ?_
  ·refine aa ?_;apply K.cond<;>intro g2
   ·refine aa ?_;refine K.eK (oD (o.first m.aK.length (o.lo m)).2 3 k 0 bV) ?_ ?_
    ·rintro _ _ ⟨fW,rfl⟩;refine aa ?_;exact⟨(),trivial,bq,o.rF fW k bd⟩
    ·rintro c _ ⟨fW,rfl,rfl⟩;obtain⟨i,ad,bS,aZ⟩:=o.Ol fW;obtain rfl:k=i:=by omega
     rw[aZ] at fW;have jb:o.iJ m k=o.lo m k:=by unfold o.iJ;rw[if_pos fW]
     have bx:=o.C4 cn lr bd bK (by rw[jb];exact fW);rw[jb] at bx;refine aa ?_;rw[bx,aZ];exact⟨fW,bq,gp.ext,gp.mod⟩
   ·refine aa ?_;refine⟨(),trivial,bq,?_⟩;apply Classical.byContradiction;intro de;apply g2;rw[o.hD bd (fun j aP=>o.CW (bK j aP)) de]
  rintro _ ko _ ⟨rfl,kV⟩;refine aa ?_;refine K.eK (EZ dG (o.k0 m k) m.aK[k].name 3 k _ gp.set) ?_ ?_
  ·rintro _ cc ⟨aM,ec,ih⟩;refine aa ?_;refine⟨bd,bq,(),trivial,(gp.wr ec ih).hy (by simp only[o.k0,o.vJ];rw[o.yo (fun x:o.dh=>x.name) _ bd,List.append_assoc]),fun j aP=>?_⟩;by_cases fL:j=k
   ·subst fL;unfold o.iJ;rw[if_neg (by simpa using kV),e9,if_neg aM]
   ·exact bK j (by omega)
  ·rintro c _ ⟨aM,rfl,rfl⟩;have jb:o.iJ m k=7:=by unfold o.iJ;rw[if_neg (by simpa using kV),e9,if_pos aM]
   have bx:=o.C4 cn lr bd bK (by rw[jb];decide);rw[jb] at bx;refine aa ?_;rw[bx];exact⟨(show(7:Int)≠0 by decide),bq,gp.ext,gp.mod⟩
 have oi:m.aK.length≤k:=by omega
 refine aa ?_;refine⟨by rw[o.NH cn lr fun j aP=>bK j (by omega)];rfl,hR.ext,hR.mod,(hR.hy ?_).set⟩;simp only[o.k0,o.vJ];rw[List.take_of_length_le oi,List.take_of_length_le (Nat.le_refl _)]
end Go.Proofs.R
end
section
namespace Go.Proofs.R
open Go Go.RowKit bn
theorem iw.JY{w0 w w' bW:World}{dG bz k:Nat}{cs:List Value}{L:List ByteArray}(h:iw w0 w dG bz cs w' L)(c5:w0.heap.size≤w.heap.size)(hw:dT k w' bW)(hk:w.heap.size≤k)(h1:bz≠k)(U:dG≠k):iw w0 w dG bz cs bW L :=
 ⟨hw.ext h.ext (Nat.le_trans c5 hk),h.mod.then (hw.mod (A:=fun j=>j=k) rfl) fun i ad e=>absurd e (by omega),hw.obj h.box h1,h.set.wr hw U,h.low,h.ne⟩
theorem ab1{w0:World}(cs:List Value)(m:o.Model)(dG:Nat)(w:World)(h:o.eh w0 cs m)(aX:m.cM)(dJ:Ext w0 w)(xk:w0.heap.size≤dG)(a1:gf w0)(bx:(o.data m).cY=0)(aw:e6 w dG (o.k0 m m.aK.length)) :
  oN Tryz.prog F.s9 #[.agg cs.toArray,.map (some dG)] w (fun _ w'=>(o.jU m).cY=0∧Ext w0 w'∧Mod (fun k=>k=dG) w w'∧e6 w' dG (o.hx m m.procs.length))
   (fun c w'=>(o.jU m).cY≠0∧c=sD (o.jU m)∧Ext w0 w'∧Mod (fun k=>k=dG) w w'):=by
 have bP:=h;obtain⟨cG,bR,cu,c1,cA,c2,cw,bN,cP,bX,rfl,ak,h1,U,ai,aL,et,dY,eg,dK,ed⟩:=h.form;have c5:=dJ.size;refine K.BV lz E.s9 (args:=[_,_]) (Nat.le_of_ble_eq_true rfl) ?_;dsimp only[C.s9];refine bH ?_;refine aa ?_;intro ar bz cN aE al;have st1:iw w0 w dG bz _ ar (o.k0 m m.aK.length):=⟨dJ.trans aE,aE.mod,al,aw.ext aE,xk,by have:=aw.lt;omega⟩;have ae4:=aw.lt;have fx:=cL al;clear aw al;refine aa ?_;refine K.Er fun aW fm afZ aF xt=>?_;replace st1:=st1.then aF;have sq:e6 aW fm []:=e6.empty xt;have z0:=aE.size;have z2:=sq.lt;clear xt;refine aa ?_;refine K.ac4 (b:=dG) rfl (k:=T.j) (e:=T.s) (by kernel_rfl) st1.set fun bh r n ba av pX=>?_;replace st1:=st1.then av;replace sq:=sq.ext av;have z4:=aF.size;have z5:=pX.lt;refine aa ?_;refine K.yz [1,2,4,20] (fun _:List ByteArray×Nat=>[]) ([],n) (fun x w'=>iw w0 w dG bz _ w' (o.k0 m m.aK.length)∧e6 w' fm x.1∧∃cur,lb w' r dG (o.k0 m m.aK.length) x.1 x.2 cur) (fun x=>x.2) bp ⟨st1,sq,_,pX⟩ ?_;clear st1 sq pX;rintro⟨D,jQ⟩ S bj ⟨jX,sq,cur,pX⟩;have al:=jX.box;refine aa ?_;refine K.abm rfl pX (fun c6=>?_) (fun y bF jR cS cb eU Pn=>?_);rotate_left
 ·have hf:=jX.JY c5 eU (by omega) (by omega) (by omega);have adm:=sq.wr eU (by omega);refine aa ?_;refine K.VV rfl Pn ?_;refine aa ?_;refine K.Em adm fun bV fY adn=>?_;have gp:=hf.JY c5 fY (by omega) (by omega) (by omega);have YA:=Pn.wr fY (by omega) (by omega);refine aa ?_;exact⟨(D++[y],jR),trivial,⟨gp,adn,_,YA⟩,cb⟩
 have h0:e6 bj fm (o.hx m 0):=sq.hy fun x=>by
  have Zv:=pX.sub;simp only[o.hx,o.tR,List.take_zero,List.map_nil,List.append_nil];exact⟨fun aD=>Zv x aD,fun aD=>c6 x aD⟩
 clear sq pX c6;refine aa ?_;refine K.cV 30 m.procs.length [1,2,4,28,29] (fun _:Unit=>[]) () (fun k _ w'=>iw w0 w dG bz _ w' (o.k0 m m.aK.length)∧e6 w' fm (o.hx m k)) bp bp ⟨jX,h0⟩ ?_;clear al jX h0;rintro k _ a6 bF hk ⟨hf,h0⟩;have al:=hf.box;have cf:=hf.ext;refine aa ?_;apply K.cond<;>intro g1
 ·have bd:k<m.procs.length:=by omega
  obtain⟨a,rfl⟩:=ai.addr (by omega);obtain⟨_,cF,ei,bg,eO,dR⟩:=ai.at k bd;obtain⟨e4,gN,rfl,fA⟩:=eO.form;obtain⟨mQ,mv,rfl,lc⟩:=dR.form;replace bg:=bg.ext cf;refine aa ?_;intro bV wM kO bo er;have gp:=hf.then bo;replace h0:=h0.ext bo;refine aa ?_;refine K.Em h0 fun cc ec adr=>?_;have hR:=gp.JY c5 ec (by omega) (by omega) (by omega);refine aa ?_;exact⟨bd,bq,(),trivial,hR,by simp only[o.hx,o.tR];rw[o.yo (fun x:o.dx=>x.name) _ bd,←List.append_assoc];exact adr⟩
 have Sf:∀{w'},e6 w' fm (o.hx m k)→e6 w' fm (o.hx m m.procs.length):=fun h=>h.hy fun x=>by
  simp only[o.hx,o.tR];rw[List.take_of_length_le (by omega),List.take_of_length_le (Nat.le_refl _)]
 replace h0:=Sf h0;clear Sf;replace hf:=hf.hy (show _=o.hx m 0 by simp[o.hx]);refine aa ?_;refine K.cV 41 m.procs.length [1,2,4,39,40] (fun _:Unit=>[]) () (fun k _ w'=>iw w0 w dG bz _ w' (o.hx m k)∧e6 w' fm (o.hx m m.procs.length)∧∀j,j<k→(o.gX m j).1=0) bp bp ⟨hf,h0,fun j h=>absurd h (Nat.not_lt_zero _)⟩ ?_;clear al cf hf h0;rintro k _ ko bV hk ⟨gp,h0,bK⟩;have al:=gp.box;have ez:=gp.ext;have yC:=gp.mod.size;refine aa ?_;apply K.cond<;>intro g1
 ·have bd:k<m.procs.length:=by omega
  obtain⟨a,rfl⟩:=ai.addr (by omega);obtain⟨lC,cF,ei,bg,eO,dR⟩:=ai.at k bd;obtain⟨e4,gN,rfl,fA⟩:=eO.form;obtain⟨mQ,mv,rfl,lc⟩:=dR.form;have l5:=aX.proc _ (List.getElem_mem bd);have dO:=o.GD bd;replace bg:=bg.ext ez;refine aa ?_;intro yy iY kv kS mD;refine eD ?_;intro cc ec eY;have bY:=ec.ext kS kv;have hR:=gp.then bY;replace h0:=h0.ext bY;replace al:=hR.box;have ah0:=cL eY;have Fq:=h0.lt;have eM:=hR.ext;clear mD kS ec;refine aa ?_;apply K.cond<;>intro g2
  ·have bM:6≤k:=by omega
   rw[if_pos bM] at dO;have kQ:=o.Bz bd bK (by rw[dO];decide);rw[dO] at kQ;refine aa ?_;refine K.eK (oD 11 4 k 0 cc) ?_ ?_
   ·rintro _ _ ⟨fW,_⟩;exact absurd fW (by decide)
   ·rintro c _ ⟨_,rfl,rfl⟩;refine aa ?_;rw[kQ];exact⟨(show(11:Int)≠0 by decide),bq,eM,hR.mod⟩
  rw[if_neg (by omega)] at dO;refine aa ?_;intro dq cj;replace al:=cj.obj al;replace eY:=cj.obj eY;refine aa ?_;refine K.call (Sh _ m k dq (bP.ext (eM.trans cj)) aX) ?_;rintro _ dE ⟨⟨afB,rfl,DR⟩,cv⟩;refine⟨cv,?_⟩;have kb:=DR.here;obtain⟨km,B7,k4,mW,k5,mX,mV,B8,mc,yA,rfl,_⟩:=kb.form;refine aa ?_;refine K.call (abU m.procs[k] _ _ (o.gH m k) dE (a1.ext (eM.trans (cj.trans cv))) ⟨lC,_,_,rfl,eO.ext (eM.trans (cj.trans cv)),dR.ext (eM.trans (cj.trans cv))⟩ kb (aX.gH _) l5) ?_;rintro _ fl ⟨rfl,cO⟩;have NZ:=(cj.trans cv).trans cO;have vV:=hR.then NZ;replace h0:=h0.ext NZ;replace al:=vV.box;replace eY:=(cv.trans cO).obj eY;have ahZ:=cL eY;have ahY:=h0.lt;clear kb DR hR eM;have qy:=vV.ext;have fz:=o.Ry m.procs[k] (o.gH m k) 140737488351232 fun c ay=>by have:=(l5.cmd c ay).di;unfold o.dW at this;omega
  have ZC:m.procs[k].vars.length≤140737488351232:=by have:=l5.vars;unfold o.dW at this;omega
  have oY:m.procs[k].c7.length≤140737488351232:=by have:=l5.c7;unfold o.dW at this;omega
  refine aa ?_;refine K.eK (oD (o.gS m.procs[k] (o.gH m k)).2.2 4 k (16*(o.gS m.procs[k] (o.gH m k)).1+(o.gS m.procs[k] (o.gH m k)).2.1) fl) ?_ ?_;rotate_left
  ·rintro c _ ⟨fW,rfl,rfl⟩;rw[if_pos fW] at dO;have kQ:=o.Bz bd bK (by rw[dO];exact fW);rw[dO] at kQ;refine aa ?_;rw[kQ];exact⟨fW,bq,qy,vV.mod⟩
  rintro _ lL ⟨fW,rfl⟩;rw[if_neg (by simpa using fW)] at dO;refine aa ?_;refine K.eK (EZ dG (o.hx m k) m.procs[k].name 4 k lL vV.set) ?_ ?_;rotate_left
  ·rintro c _ ⟨aM,rfl,rfl⟩;rw[if_pos aM] at dO;have kQ:=o.Bz bd bK (by rw[dO];decide);rw[dO] at kQ;refine aa ?_;rw[kQ];exact⟨(show(7:Int)≠0 by decide),bq,qy,vV.mod⟩
  rintro _ gd ⟨aM,hL,PN⟩;rw[if_neg aM] at dO;have ET:iw w0 w dG bz _ gd (o.hx m (k+1)):=(vV.wr hL PN).hy (by simp only[o.hx,o.tR];rw[o.yo (fun x:o.dx=>x.name) _ bd,List.append_assoc]);replace h0:=h0.wr hL (by omega);replace al:=ET.box;replace eY:=hL.obj eY (by omega);have zy:=ET.ext;have ahE:=hL.size;clear vV qy;refine aa ?_;refine K.cV 74 m.procs[k].vars.length [1,2,4,8,9,39,40,41,72,73] (fun _:Unit=>[]) () (fun j _ w'=>iw w0 w dG bz _ w' (o.hx m (k+1))∧e6 w' fm (o.hx m m.procs.length)∧Ext gd w'∧∀i,i<j→o.n4 m m.procs[k] i=0) bp bp ⟨ET,h0,Ext.refl _,fun j h=>absurd h (Nat.not_lt_zero _)⟩ ?_;have ig:=eY;clear ET h0 al eY zy;rintro j _ CE k3 aP ⟨EU,h0,gy,qS⟩;have al:=EU.box;have eY:=gy.obj ig;have w7:=EU.ext;refine aa ?_;apply K.cond<;>intro g3
  ·have eH:j<m.procs[k].vars.length:=by omega
   obtain⟨dr,rfl⟩:=eO.addr (by omega);have ev:=((eO.at j eH).cells).ext w7;have e9:=o.x3 (f:=fun x:o.Var=>x.name) eH;refine aa ?_;intro ahu Nc G3 Pc XY;refine eD ?_;intro nC hM rO;have kR:=hM.ext Pc G3;have EV:=EU.then kR;replace h0:=h0.ext kR;replace al:=EV.box;clear XY Pc hM;refine aa ?_;refine K.Q1 h0 ?_;refine aa ?_;apply K.cond<;>intro g4
   ·have ve:o.n4 m m.procs[k] j=7:=by unfold o.n4;rw[e9,if_pos g4]
    rw[o.hD eH qS (by rw[ve];decide),ve,if_pos (show(7:Int)≠0 by decide)] at dO;have kQ:=o.Bz bd bK (by rw[dO];exact(show(7:Int)≠0 by decide));rw[dO] at kQ;refine aa ?_;refine K.eK (oD 7 4 k (16+j) nC) ?_ ?_
    ·rintro _ _ ⟨u1,_⟩;exact absurd u1 (by decide)
    ·rintro c _ ⟨_,rfl,rfl⟩;refine aa ?_;rw[kQ];exact⟨(show(7:Int)≠0 by decide),bq,EV.ext,EV.mod⟩
   ·refine aa ?_;refine⟨eH,bq,(),trivial,EV,h0,gy.trans kR,fun i ad=>?_⟩;by_cases Ai:i=j
    ·subst Ai;unfold o.n4;rw[e9,if_neg g4]
    ·exact qS i (by omega)
  ·rw[o.lW fun i ad=>qS i (by omega),if_neg (by simp)] at dO;refine aa ?_;refine⟨bd,bq,(),trivial,EU,h0,fun i ad=>?_⟩;by_cases tv:i=k
   ·subst tv;rw[dO]
   ·exact bK i (by omega)
 have DM:m.procs.length≤k:=by omega
 have u5:∀j,j<m.procs.length→(o.gX m j).1=0:=fun j aP=>bK j (by omega);have DA:=o.C5 bx;have rZ:m.procs.length≤6:=by
  apply Classical.byContradiction;intro aM
  have:=o.Dd (i:=6) (by omega) (u5 6 (by omega))
  omega
 have pV:o.rh m:=⟨by omega,by omega,by omega,fun p bg=>by
  obtain⟨j,aP,rfl⟩:=List.mem_iff_getElem.1 bg
  have:=o.I7 (o.GF aP (u5 j aP)).2.1
  omega⟩
 refine aa ?_;refine K.call (abV _ m bV (bP.ext ez) pV) ?_;rintro _ cc ⟨rfl,bY⟩;have hR:=gp.then bY;replace al:=hR.box;have oq:=o.I8 u5;have H4:e6 cc dG (o.hx m m.procs.length):=by
  have h:=hR.set;simp only[o.hx,o.tR] at h ⊢;rw[List.take_of_length_le DM] at h;rw[List.take_of_length_le (Nat.le_refl _)];exact h
 refine aa ?_;apply K.cond<;>intro g2
 ·rw[if_pos (.inl (by omega))] at oq;refine aa ?_;refine K.eK (oD 11 4 m.procs.length 0 cc) ?_ ?_
  ·rintro _ _ ⟨u1,_⟩;exact absurd u1 (by decide)
  ·rintro c _ ⟨_,rfl,rfl⟩;refine aa ?_;rw[oq];exact⟨(show(11:Int)≠0 by decide),bq,hR.ext,hR.mod⟩
 refine aa ?_;apply K.cond<;>intro g3
 ·rw[if_pos (.inr (by omega))] at oq;refine aa ?_;refine K.eK (oD 11 4 m.procs.length 0 cc) ?_ ?_
  ·rintro _ _ ⟨u1,_⟩;exact absurd u1 (by decide)
  ·rintro c _ ⟨_,rfl,rfl⟩;refine aa ?_;rw[oq];exact⟨(show(11:Int)≠0 by decide),bq,hR.ext,hR.mod⟩
 rw[if_neg (by omega)] at oq;refine aa ?_;exact⟨by rw[oq];rfl,hR.ext,hR.mod,H4⟩
theorem ab6{w0:World}(cs:List Value)(m:o.Model)(dG:Nat)(w:World)(h:o.eh w0 cs m)(aX:m.cM)(dJ:Ext w0 w)(xk:w0.heap.size≤dG)(a1:gf w0)(aw:e6 w dG (o.hx m m.procs.length)) :
  oN Tryz.prog F.kt #[.agg cs.toArray,.map (some dG)] w (fun _ w'=>(o.ma m).cY=0∧Ext w0 w'∧Mod (fun k=>k=dG) w w')
   (fun c w'=>(o.ma m).cY≠0∧c=sD (o.ma m)∧Ext w0 w'∧Mod (fun k=>k=dG) w w'):=by
 have bP:=h;obtain⟨cG,bR,cu,c1,cA,c2,cw,bN,cP,bX,rfl,ak,h1,U,ai,aL,et,dY,eg,dK,ed⟩:=h.form;refine K.BV lz E.kt (args:=[_,_]) (Nat.le_of_ble_eq_true rfl) ?_;dsimp only[C.kt];refine bH ?_;refine aa ?_;intro ar bz cN aE al;have st1:iw w0 w dG bz _ ar (o.mP m 0):=⟨dJ.trans aE,aE.mod,al,by have:=aw.ext aE;simpa[o.mP] using this,xk,by have:=aw.lt;omega⟩;have ae4:=aw.lt;have z0:=aE.size;clear aw;refine aa ?_;refine K.call (Sh _ m (-1) ar (bP.ext st1.ext) aX) ?_;rintro _ aW ⟨⟨afz,rfl,qN⟩,aF⟩;rw[o.Ez (.inl (by decide))] at qN;have kb:=qN.here;obtain⟨km,B7,k4,mW,k5,mX,mV,B8,mc,yA,rfl,_⟩:=kb.form;clear kb;have st2:=st1.then aF;clear al st1;have fx:=aF.size;refine aa ?_;intro bh eu fo av b0;have PF:=qN.ext av fx;have jW:=st2.then av;have al:=jW.box;clear qN st2;refine aa ?_;refine K.cV 14 m.props.length [1,2,4,12,13] (fun _:Unit=>[]) () (fun k _ w'=>iw w0 w dG bz _ w' (o.mP m k)∧ea ar (fun w=>o.e5 w _ (o.ik m)) w'∧w'.heap[eu]? = some (.cells (List.toArray [_,_,_,_,_,_]) T.e)∧ar.heap.size≤w'.heap.size∧∀j,j<k→o.jn m j=0) bp bp ⟨jW,PF,b0,by have:=av.size;omega,fun j h=>absurd h (Nat.not_lt_zero _)⟩ ?_;clear al jW PF b0;rintro k _ S bj hk ⟨jX,mI,b0,z4,bK⟩;have al:=jX.box;have b5:=jX.ext;refine aa ?_;apply K.cond<;>intro g1
 ·have bd:k<m.props.length:=by omega
  obtain⟨a,rfl⟩:=aL.addr (by omega);obtain⟨lC,fH,bg,fi⟩:=aL.at k bd;obtain⟨x7,ce,rfl,le⟩:=fi.form;have dO:=o.zE bd;replace bg:=bg.ext b5;have z5:=jX.mod.size;refine aa ?_;intro yy ia gi kS mD;refine eD ?_;intro bF eU cW;have a8:=eU.ext kS gi;have hf:=jX.then a8;replace mI:=mI.ext a8 z4;replace b0:=a8.obj b0;replace al:=hf.box;have cf:=hf.ext;clear mD kS eU jX;have bx:o.jn m k≠0→o.ma m=⟨o.jn m k,5,k,0⟩:=o.Rz bd bK;refine aa ?_;apply K.cond<;>intro g2
  ·rw[if_pos (by omega)] at dO;rw[dO] at bx;replace bx:=bx (by decide);refine aa ?_;refine K.eK (oD 11 5 k 0 bF) ?_ ?_
   ·rintro _ _ ⟨fW,_⟩;exact absurd fW (by decide)
   ·rintro c _ ⟨_,rfl,rfl⟩;refine aa ?_;rw[bx];exact⟨(show(11:Int)≠0 by decide),bq,cf,hf.mod⟩
  rw[if_neg (by omega)] at dO;refine aa ?_;refine K.call (Eo m.props[k].name bF (a1.ext cf) lC) ?_;rintro _ bV ⟨rfl,bo⟩;have gp:=hf.then bo;replace mI:=mI.ext bo (by have:=a8.size;omega);replace b0:=bo.obj b0;replace cW:=bo.obj cW;replace al:=gp.box;have ez:=gp.ext;clear hf;refine aa ?_;refine K.c3 (fun g3=>?_) (fun g3=>?_);rotate_left
  ·rw[if_pos g3] at dO;rw[dO] at bx;replace bx:=bx (by decide);refine aa ?_;refine K.eK (oD 6 5 k 0 bV) ?_ ?_
   ·rintro _ _ ⟨fW,_⟩;exact absurd fW (by decide)
   ·rintro c _ ⟨_,rfl,rfl⟩;refine aa ?_;rw[bx];exact⟨(show(6:Int)≠0 by decide),bq,ez,gp.mod⟩
  rw[if_neg (by rw[g3];decide)] at dO;refine aa ?_;refine K.eK (EZ dG (o.mP m k) m.props[k].name 5 k bV gp.set) ?_ ?_;rotate_left
  ·rintro c _ ⟨aM,rfl,rfl⟩;rw[if_pos aM] at dO;rw[dO] at bx;replace bx:=bx (by decide);refine aa ?_;rw[bx];exact⟨(show(7:Int)≠0 by decide),bq,gp.ext,gp.mod⟩
  rintro _ cc ⟨aM,ec,ih⟩;rw[if_neg aM] at dO;have hR:iw w0 w dG bz _ cc (o.mP m (k+1)):=(gp.wr ec ih).hy (by simp only[o.mP,o.En];rw[o.yo (fun x:o.h7=>x.name) _ bd,List.append_assoc]);replace mI:=mI.wr ec (by omega);replace b0:=ec.obj b0 (by omega);replace cW:=ec.obj cW (by omega);replace al:=hR.box;have eM:=hR.ext;clear gp ez;refine aa ?_;refine K.call (Qw _ m.props[k].expr _ _ cc (fi.ext eM) mI.here) ?_;rintro _ dq ⟨rfl,cj⟩;have BU:=hR.then cj;have Tk:=ec.size;replace mI:=mI.ext cj (by have:=a8.size;have:=bo.size;omega);replace b0:=cj.obj b0;replace al:=BU.box;have jI:=BU.ext;clear hR;refine aa ?_;refine K.eK (oD (o.kind m.props[k].expr (o.ik m)).2 5 k 0 dq) ?_ ?_;rotate_left
  ·rintro c _ ⟨fW,rfl,rfl⟩;rw[if_pos fW] at dO;rw[dO] at bx;replace bx:=bx fW;refine aa ?_;rw[bx];exact⟨fW,bq,jI,BU.mod⟩
  rintro _ dE ⟨fW,rfl⟩;rw[if_neg (by simpa using fW)] at dO;refine aa ?_;apply K.cond<;>intro g4;rotate_left
  ·rw[if_pos g4] at dO;rw[dO] at bx;replace bx:=bx (by decide);refine aa ?_;refine K.eK (oD 9 5 k 0 dE) ?_ ?_
   ·rintro _ _ ⟨u1,_⟩;exact absurd u1 (by decide)
   ·rintro c _ ⟨_,rfl,rfl⟩;refine aa ?_;rw[bx];exact⟨(show(9:Int)≠0 by decide),bq,jI,BU.mod⟩
  rw[if_neg (by simpa using g4)] at dO;refine aa ?_;refine⟨bd,bq,(),trivial,BU,mI,b0,by have:=a8.size;have:=bo.size;have:=cj.size;omega,fun i ad=>?_⟩;by_cases tv:i=k
  ·subst tv;rw[dO]
  ·exact bK i (by omega)
 refine aa ?_;exact⟨by rw[o.Ja fun j aP=>bK j (by omega)];rfl,b5,jX.mod⟩
end Go.Proofs.R
end
section
namespace bn
open Go Go.RowKit
structure wm where
 n:Nat
 res:List lf
 pre:eR
 bT:List Step
 fn:Operand
 rest:eR
def Gt(aj:Oper):Option Operand :=
 match aj.guard,aj.dst,aj.op with
 | none,none,.defer ⟨.value x,args,_⟩=>match args.toList with | []=>some x | _=>none
 | _,_,_=>none
def Nw(P:Program)(fn:Func):Code→Option wm
 | .seq a (.seq (.region _ ops false) c) =>
  match ops.toList.getLast?.bind Gt,comp P fn.ntmps a,nh P fn.ntmps ops ops.toList.dropLast,comp P fn.ntmps c,s8 P fn.results.toList with
  | some x,some nx,some bT,some lc,some r=>some ⟨fn.ntmps,r,nx,bT,x,lc⟩
  | _,_,_,_,_=>none
 | _=>none
def CZ(P:Program)(f:FuncId):Option wm :=
 match P.funcs[f]? with
 | some fn=>match fn.body with | some c=>Nw P fn c | none=>none
 | none=>none
def ql(P:Program)(f:FuncId)(cap:Array Value)(u:FrameMode)(w:World)(R:World→Prop):Prop :=
 CallsD P f cap u w fun e iU w'=>(∃v,e = .returned v)∧settle iU = .returning∧R w'
def zC(P:Program)(res:List lf)(f:FuncId)(cap:Array Value)(R:Value→World→Prop):dQ→Fr→World→Prop
 | .normal,S,w=>ql P f cap .returning w fun w'=>mS res S w' fun vs=>R (fQ vs) w'
 | .ret,S,w=>ql P f cap .returning w fun w'=>mS res S w' fun vs=>R (fQ vs) w'
 | .exit _,_,_=>False
 | .fB c,S,w=>ql P f cap (.panicking c) w fun w'=>mS res S w' fun vs=>R (fQ vs) w'
def aeN(P:Program)(L:wm)(R:Value→World→Prop)(S:Fr)(w:World):Prop :=
 ei P L.pre (sC (fun S w=>steps P L.bT S w fun S w => ∃f cap,a7 S L.fn = .func (.func f) #[] cap∧okF P f=true∧ei P L.rest (zC P L.res f cap R) S w) (fun _ _ _=>False)) S w
theorem Vz{aj:Oper}{x:Operand}(h:Gt aj=some x):∃ty pos after nB,aj=⟨none,.defer ⟨.value x,#[],nB⟩,ty,pos,after,none⟩:=by
 obtain⟨dst,op,ty,pos,after,guard⟩:=aj;unfold Gt at h;split at h
 ·rename_i h1 U ai;simp only at h1 U ai;split at h
  ·rename_i aL;injection h with h
   have bt:=Array.toList_eq_nil_iff.1 aL;subst h1 U ai h bt;exact⟨_,_,_,_,rfl⟩
  ·cases h
 ·cases h
theorem VW{P:Program}{f:FuncId}{L:wm}(hm:P.follows .mixedOrders=true)(ay:CZ P f=some L){args:List Value}{w:World}{R:Value→World→Prop}(bD:args.length≤L.n)
  (h:aeN P L R (gY args 0) w):bw P f args.toArray w R:=by
 unfold CZ at ay;split at ay
 ·rename_i fn pW;split at ay
  ·rename_i c aA;unfold Nw at ay;split at ay
   ·rename_i a id ops s0;split at ay
    ·rename_i x nx bT lc r h1 U ai aL bt;injection ay with ay;subst ay
     obtain⟨aj,a1,aD⟩:=Option.bind_eq_some_iff.1 h1;obtain⟨ty,pos,after,nB,rfl⟩:=Vz aD;have YS:ops.toList=ops.toList.dropLast++[⟨none,.defer ⟨.value x,#[],nB⟩,ty,pos,after,none⟩]:=by
      have de:ops.toList≠[]:=by intro e;rw[e] at a1;cases a1
      rw[List.getLast?_eq_some_getLast de] at a1;injection a1 with a1
      rw[←a1,List.dropLast_concat_getLast de]
     have fin:∀(g:FuncId) (cap:Array Value) (S:Fr) (dr:Act) (w':World) (u:FrameMode),u≠.run→okF P g=true→Fits [{ target:=.fn (.func g) cap,args:=#[] }] dr S fn.ntmps→ql P g cap u w' (fun w'=>mS r S w' fun vs=>R (fQ vs) w') →
       Leaves P fn dr.tmps (fun e w' => ∃v,e = .returned v∧R v w') dr.defers u w':=by
      intro g cap S dr w' u hu c4 aI aN;rw[aI.1];refine leaves_cons hu (f:=g) (args:=cap) (by simp[invoke,BK c4]) (CallsD.mono aN ?_);rintro e iU bW ⟨⟨v,rfl⟩,aw,ba⟩;simp only[aw];obtain⟨vs,bM,b6⟩:=pg aI _ _ _ bt ba;exact⟨_,sm bM,_,rfl,b6⟩
     refine calls_of_wp_defers pW aA ((wpIn_wide (n:=0)).1 ?_);refine wpIn_seq (wpIn_mono (sound (ds:=[]) (r:=none) (m:=0) hm a nx U _ _ (gY args 0) w (GP bD) h) fun e dr w' aJ=>?_);cases e with
     | normal =>
      obtain⟨S,aI,aJ⟩:=aJ;refine wpIn_seq (wpIn_region_list ?_);rw[YS];refine uc (r:=none) (tl:=[_]) ?_ ?_ _ bT dr S w' ai aI aJ
      ·rintro a2 ko aW mG ⟨g,cap,he,c4,aS⟩;have hw:Region.wanted (⟨none,.defer ⟨.value x,#[],nB⟩,ty,pos,after,none⟩:Oper) (yielded ops a2.tmps)=true:=rfl;simp only[wpListIn,hw,if_true];have gB:∀nF:Operand→Value,nF x = .func (.func g) #[] cap→((⟨none,.defer ⟨.value x,#[],nB⟩,ty,pos,after,none⟩:Oper).semAt none nF).run P aW = .ok (.defer { target:=.fn (.func g) cap,args:=#[] }) aW:=by
        intro nF ZN;simp[Oper.semAt,execOp,resolve,Deferred.ofValue,ZN,go_sem]
       refine⟨fun _ _=>trivial,?_⟩;rw[show(mg none).round=none from rfl,gB a2.eval (by rw[mG.eval];exact he)];have Yl:Fits [{ target:=.fn (.func g) cap,args:=#[] }] ({ a2 with defers:={ target:=.fn (.func g) cap,args:=#[] } :: a2.defers }:Act) ko fn.ntmps:=⟨by rw[mG.1],mG.2⟩;refine wpIn_mono (sound (ds:=[{ target:=.fn (.func g) cap,args:=#[] }]) (r:=none) (m:=0) hm s0 lc aL _ _ ko aW Yl aS) fun e a4 bj aJ=>?_;cases e with
       | normal=>obtain⟨oO,nq,aJ⟩:=aJ;exact fin g cap oO a4 bj .returning (by simp) c4 nq aJ
       | ret=>obtain⟨oO,nq,aJ⟩:=aJ;exact fin g cap oO a4 bj .returning (by simp) c4 nq aJ
       | exit i=>obtain⟨oO,nq,aJ⟩:=aJ;exact aJ.elim
       | panic Gf=>obtain⟨oO,nq,aJ⟩:=aJ;exact fin g cap oO a4 bj (.panicking Gf) (by simp) c4 nq aJ
       | _=>exact aJ.elim
      ·rintro⟨_,_,aD⟩;obtain⟨_,h1,_⟩:=aD;cases h1
     | ret=>obtain⟨S,aI,aJ⟩:=aJ;exact aJ.elim
     | exit i=>obtain⟨S,aI,aJ⟩:=aJ;exact aJ.elim
     | panic Gf=>obtain⟨S,aI,aJ⟩:=aJ;exact aJ.elim
     | _=>exact aJ.elim
    ·cases ay
   ·cases ay
  ·cases ay
 ·cases ay
structure yR where
 n:Nat
 res:List lf
 d:Nat
 e:Nat
 rest:eR
def Jh(aj:Oper):Option Nat :=
 match aj.guard,aj.op,aj.dst with
 | none,.call ⟨.builtin .recover,args,_⟩,some d=>match args.toList with | []=>some d | _=>none
 | _,_,_=>none
def FV(aj:Oper):Option (Nat×Nat) :=
 match aj.guard,aj.op,aj.dst with
 | none,.assign (.tmp d),some e=>some (d,e)
 | _,_,_=>none
def Nx(P:Program)(fn:Func):Code→Option yR
 | .seq (.region _ ops false) c =>
  match ops.toList with
  | [cu,cA]=>match Jh cu,FV cA,comp P fn.ntmps c,s8 P fn.results.toList with
   | some d,some (rz,e),some lc,some r=>if d=rz∧d<fn.ntmps∧e<fn.ntmps then some ⟨fn.ntmps,r,d,e,lc⟩ else none
   | _,_,_,_=>none
  | _=>none
 | _=>none
def C0(P:Program)(f:FuncId):Option yR :=
 match P.funcs[f]? with
 | some fn=>match fn.body with | some c=>Nx P fn c | none=>none
 | none=>none
def mR:FrameMode→Value×FrameMode
 | .panicking ({ v,recovered:=false,goexit:=false } :: abu)=>(v,.panicking ({ v,recovered:=true } :: abu))
 | u=>(.nilIface,u)
theorem acL(c:Frame)(cs:List Frame):(match recoverD (c :: cs) with | some (v,hB)=>(v,hB) | none=>(.nilIface,c :: cs))=((mR c.mode).1,{ c with mode:=(mR c.mode).2 } :: cs):=by
 obtain⟨fn,tmps,todo,defers,mode,kind,ro⟩:=c;unfold recoverD mR;cases mode with
 | run=>rfl
 | returning=>rfl
 | panicking l =>
  cases l with
  | nil=>rfl
  | cons p r =>
   obtain⟨v,rc,ge⟩:=p;cases rc<;>cases ge<;>rfl
theorem acJ{aj:Oper}{d:Nat}(h:Jh aj=some d):∃nB ty pos after,aj=⟨some d,.call ⟨.builtin .recover,#[],nB⟩,ty,pos,after,none⟩:=by
 obtain⟨dst,op,ty,pos,after,guard⟩:=aj;unfold Jh at h;split at h
 ·rename_i h1 U ai;simp only at h1 U ai;split at h
  ·rename_i aL;injection h with h
   have bt:=Array.toList_eq_nil_iff.1 aL;subst h1 U ai h bt;exact⟨_,_,_,_,rfl⟩
  ·cases h
 ·cases h
theorem T8{aj:Oper}{d e:Nat}(h:FV aj=some (d,e)):∃ty pos after,aj=⟨some e,.assign (.tmp d),ty,pos,after,none⟩:=by
 obtain⟨dst,op,ty,pos,after,guard⟩:=aj;unfold FV at h;split at h
 ·rename_i h1 U ai;simp only at h1 U ai;injection h with h
  injection h with bt bM
  subst h1 U ai bt bM;exact⟨_,_,_,rfl⟩
 ·cases h
theorem VX{P:Program}{f:FuncId}{L:yR}(hm:P.follows .mixedOrders=true)(ay:C0 P f=some L){args:List Value}{u:FrameMode}{w:World}{R:Value→World→Prop}(bD:args.length≤L.n)
  (h:ei P L.rest (zB L.res R) (b8 (b8 (gY args 0) L.d (mR u).1) L.e (mR u).1) w):CallsD P f args.toArray u w fun e iU w'=>iU=(mR u).2∧∃v,e = .returned v∧R v w':=by
 unfold C0 at ay;split at ay
 ·rename_i fn pW;split at ay
  ·rename_i c aA;unfold Nx at ay;split at ay
   ·rename_i id ops s0;split at ay
    ·rename_i cu cA Aq;split at ay
     ·rename_i d rz e lc r h1 U ai aL;split at ay
      ·rename_i Yb;obtain⟨Ya,bx,he⟩:=Yb;subst Ya;injection ay with ay;subst ay
       obtain⟨nB,aet,abZ,TT,rfl⟩:=acJ h1;obtain⟨aeu,ab0,TU,rfl⟩:=T8 U;refine callsD_of_wpS pW aA fun w6 cs hu=>?_;refine wpS_seq (wpS_region ?_);have c5:ops.size=2:=by rw[←Array.length_toList,Aq];rfl
       have DJ:ops[0]? = ops.toList[0]? := by simp
       have Hq:ops[1]? = ops.toList[1]? := by simp
       rw[Aq] at DJ Hq;simp only[List.getElem?_cons_zero,List.getElem?_cons_succ] at DJ Hq;have ba:List.range ops.size=[0,1]:=by rw[c5];rfl
       rw[ba];have Zn:∀(nF:Operand→Value),(execOp nF ⟨some d,.call ⟨.builtin .recover,#[],nB⟩,aet,abZ,TT,none⟩).run P w = .ok .recover w:=by
        intro nF;simp[execOp,resolve,invoke,builtin,go_sem]
       have D2:∀(dst:Option Nat) (op:Op) (ty:TypeId) (pos:String) (after:Array Edge) (y:Nat→Option Bool),Region.wanted (⟨dst,op,ty,pos,after,none⟩:Oper) y=true:=fun _ _ _ _ _ _=>rfl;have Yk:=GP (n:=fn.ntmps) bD;have key:∀(v:Value) (hB:List Frame),ei P lc (zB r R) (b8 (b8 (gY args 0) d v) e v) w→(hB = { w6 with mode:=(mR u).2 } :: cs) →
         wpOpsS P ops (Exit.thenS (s0.wpS P (bodyPostS P fn w6 cs fun e iU w'=>iU=(mR u).2∧∃v,e = .returned v∧R v w')) (bodyPostS P fn w6 cs fun e iU w'=>iU=(mR u).2∧∃v,e = .returned v∧R v w')) [1]
          (({ tmps:=args.toArray++Array.replicate (fn.ntmps - args.toArray.size) undef,defers:=[] }:Act).put (some d) v) hB w:=by
        intro v hB aS fq;have DH:=Yk.put (d:=some d) (by simpa[ta] using bx) v;have aD:(execOp (({ tmps:=args.toArray++Array.replicate (fn.ntmps - args.toArray.size) undef,defers:=[] }:Act).put (some d) v).eval ⟨some e,.assign (.tmp d),aeu,ab0,TU,none⟩).run P w = .ok (.value v) w:=by
         rw[DH.eval];simp[execOp,a7,bn.put,b8]
        simp only[wpOpsS,Hq,D2,if_true,aD];rw[Oper.upon_value];have mG:=DH.put (d:=some e) (by simpa[ta] using he) v;refine wpS_of_wp ((wpIn_wide (n:=0)).1 (wpIn_mono (sound (ds:=[]) (r:=none) (m:=0) hm s0 lc ai _ _ _ w mG aS) fun x a4 bj aJ=>?_));cases x with
        | normal =>
         obtain⟨oO,nq,aJ⟩:=aJ;obtain⟨vs,bM,b6⟩:=pg nq _ _ _ aL aJ;exact⟨nq.1,_,fq,_,sm bM,rfl,_,rfl,b6⟩
        | ret =>
         obtain⟨oO,nq,aJ⟩:=aJ;obtain⟨vs,bM,b6⟩:=pg nq _ _ _ aL aJ;exact⟨nq.1,_,fq,_,sm bM,rfl,_,rfl,b6⟩
        | exit i=>obtain⟨oO,nq,aJ⟩:=aJ;exact aJ.elim
        | panic Gf=>obtain⟨oO,nq,aJ⟩:=aJ;exact aJ.elim
        | _=>exact aJ.elim
       have qP:=acL w6 cs;rw[hu] at qP;unfold wpOpsS;simp only[DJ,D2,if_true,Zn];cases DV:recoverD (w6 :: cs) with
       | none =>
        rw[DV] at qP;injection qP with bS aZ
        exact key .nilIface (w6 :: cs) (by rw[bS];exact h) aZ
       | some aeM =>
        obtain⟨v,hB⟩:=aeM;rw[DV] at qP;injection qP with bS aZ
        exact key v hB (by rw[bS];exact h) aZ
      ·cases ay
     ·cases ay
    ·cases ay
   ·cases ay
  ·cases ay
 ·cases ay
end bn
namespace bn
open Go Go.RowKit
def Fv(P:Program)(v:Value)(K:FuncId→Array Value→Prop):Prop := ∃f cap,v = .func (.func f) #[] cap∧okF P f=true∧K f cap
section
variable{P:Program}{S:Fr}{w:World}{res:List lf}{R:Value→World→Prop}
theorem K.ad3{f:FuncId}{L:wm}(hm:P.follows .mixedOrders=true)(ay:CZ P f=some L){args:List Value}(bD:args.length≤L.n)
  (h:dU P L.pre (hT (fun S w=>iC P L.bT S w (fun S w=>Fv P (a7 S L.fn) fun g cap=>dU P L.rest (zC P L.res g cap R) S w ⟨⟩) ⟨⟩) (fun _ _ _=>False) ⟨⟩) (gY args 0) w ⟨⟩):bw P f args.toArray w R:=by
 refine VW hm ay bD ?_;unfold dU hT iC Fv at h;exact h
theorem K.defer{g:FuncId}{cap:Array Value}{K:FuncId→Array Value→Prop}(c4:okF P g=true)(h:K g cap):Fv P (.func (.func g) #[] cap) K:=⟨g,cap,rfl,c4,h⟩
theorem K.VE{g:FuncId}{cap:Array Value}(h:ql P g cap .returning w fun w'=>hz res S w' (fun vs=>R (fQ vs) w') ⟨⟩):zC P res g cap R .ret S w:=by
 unfold hz at h;exact h
theorem K.VD{g:FuncId}{cap:Array Value}{c:List PanicEntry}(h:ql P g cap (.panicking c) w fun w'=>hz res S w' (fun vs=>R (fQ vs) w') ⟨⟩):zC P res g cap R (.fB c) S w:=by
 unfold hz at h;exact h
theorem ql.of{g:FuncId}{cap:Array Value}{u B4:FrameMode}{yV yW:World→Prop}(h:CallsD P g cap u w fun e iU w'=>iU=B4∧∃v,e = .returned v∧yV w')(aw:settle B4 = .returning)(hk:∀w',yV w'→yW w'):ql P g cap u w yW :=
 CallsD.mono h fun e iU w' ⟨h1,v,U,ai⟩=>⟨⟨v,U⟩,by rw[h1];exact aw,hk _ ai⟩
theorem K.SC{f:FuncId}{L:yR}(hm:P.follows .mixedOrders=true)(ay:C0 P f=some L){args:List Value}{u:FrameMode}(bD:args.length≤L.n)
  (h:dU P L.rest (rB L.res R ⟨⟩) (b8 (b8 (gY args 0) L.d (mR u).1) L.e (mR u).1) w ⟨⟩):CallsD P f args.toArray u w fun e iU w'=>iU=(mR u).2∧∃v,e = .returned v∧R v w':=by
 refine VX hm ay bD ?_;unfold dU rB at h;exact h
theorem R6(d:Nat){t:TypeId}{ms:Array (String×TypeId)}(h:P.underlying t=some (.interface ms))(w:World):(Op.equalIn (d+1) t .nilIface .nilIface).run P w = .ok true w∧∀T v,(Op.equalIn (d+1) t (.iface T v) .nilIface).run P w = .ok false w:=by
 constructor
 ·simp[Op.equalIn,run_underlying h]
 ·intro T v;simp[Op.equalIn,run_underlying h]
theorem P8{t:TypeId}(h:(P.underlying t).map tH=some true):∃ms,P.underlying t=some (.interface ms):=by
 obtain⟨d,bx,ad⟩:=Option.map_eq_some_iff.1 h;cases d<;>first | exact⟨_,bx⟩ | (simp[tH] at ad;done)
theorem K.aa7{im:TypeId}{x:Operand}{v:Value}{ax:Value→Prop}{t}(h:(P.underlying im).map tH=some true)(hk:ax (.bool false)):eW P .neq im x (.const v) .nilIface .nilIface ax t :=
 K.bin (v:=.bool false) (fun w=>by
  obtain⟨ms,h⟩:=P8 h;have h1:=(R6 9999 h w).1;have U:(Op.equalIn Op.maxDepth im .nilIface .nilIface).run P w = .ok true w:=h1;cases x<;>simp[eqGuard,binOp,Op.equal,go_sem,U,Result.andThen]) hk
theorem K.aa8{im T:TypeId}{x y:Operand}{v:Value}{ax:Value→Prop}{t}(h:(P.underlying im).map tH=some true)(hk:ax (.bool true)):eW P .neq im x y (.iface T v) .nilIface ax t :=
 K.bin (v:=.bool true) (fun w=>by
  obtain⟨ms,h⟩:=P8 h;have U:(Op.equalIn Op.maxDepth im (.iface T v) .nilIface).run P w = .ok false w:=(R6 9999 h w).2 T v;simp[eqGuard,binOp,Op.equal,go_sem,U,Result.andThen]) hk
theorem K.T9{x:Operand}{Th T ty:TypeId}{v:Value}{cI:Value→World→Prop}{t}(aD:a7 S x = .iface T v)(h:(P.underlying T).map tH=some false)(hk:cI (.tuple #[v,.bool true]) w):rp P (.typeAssert x Th T true) ty S w cI t:=by
 refine K.raw (v:=.tuple #[v,.bool true]) (w':=w) ?_ hk;obtain⟨d,bx,ad⟩:=Option.map_eq_some_iff.1 h;have h1:(Instr.typeAssert (.iface T v) Th T true).run P w = .ok (.tuple #[v,.bool true]) w:=by
  cases d<;>first | (simp[tH] at ad;done) | (simp[Instr.typeAssert,run_underlying bx])
 simp[execOp,aD,h1,Result.andThen]
end
end bn
end
section
namespace Go.Proofs.R
open Go bn Go.Proofs
abbrev F.aj:FuncId:=110
def KP.r:wm:=⟨16,[.iH 4 2], (.bL [aB 1 (.box T.c (ab 0)),aB 2 (.new T.w (.agg #[aq,aq,aq,aq]))]),
 [aY 4 (.jw F.aj [] [(ab 2)])],(ab 4), (J [aB 5 .sh,I 3 5] (.seq (.eK [bl 6 5 1,I 7 3] (some 8) F.cs [(ab 6),(ab 7)]) (.seq (.eK [bl 9 5 1,I 10 3] (some 11) F.s9 [(ab 9),(ab 10)]) (.seq (.eK [bl 12 5 1,I 13 3] (some 14) F.kt [(ab 12),(ab 13)]) (J [aY 15 (.cJ [aq,aq,aq,aq] [(0,1),(1,1),(2,1),(3,1)] []),cm 4 2 15] .ret)))))⟩
theorem Tq.r:CZ Tryz.prog F.r=some KP.r:=by kernel_rfl
def Fu.aj:yR:=⟨17,[],4,1, (J [I 5 1,aY 6 (.bin .neq T.CL (ab 5) (.const .nilIface))] (az 6 (J [I 8 1,aB 9 (.raw (.typeAssert (ab 8) T.CL T.am true) T.dF),I 7 9,bu 10 7 0,bu 11 7 1,aB 2 (.new T.am (.agg #[aq,aq,aq,aq])),cm 4 2 10,I 3 11] (.seq (J [I 12 3,aY 13 (.un .not (ab 12))] (az 13 (.pa [I 14 1] (ab 14)) .skip)) (.bL [ah 15 0 2,bl 16 4 15,cm 4 0 16]))) .skip))⟩
theorem KT.aj:C0 Tryz.prog F.aj=some Fu.aj:=by kernel_rfl
end Go.Proofs.R
end
section
namespace o
theorem ab7{m:Model}(h:(ma m).cY=0):ma m=qB:=Ja (BB h)
end o
namespace Go.Proofs.R
open Go Go.RowKit bn
theorem Vg(b:Nat)(w:World):CallsD Tryz.prog F.aj #[.pointer (some ⟨b,0,none⟩)] .returning w fun e iU w'=>iU = .returning∧∃v,e = .returned v∧w'=w:=by
 refine K.SC lz KT.aj (args:=[_]) (Nat.le_of_ble_eq_true rfl) ?_;dsimp only[Fu.aj];refine bH ?_;dsimp only[mR];refine aa ?_;refine K.aa7 (by kernel_rfl) ?_
 (repeat' first
 | assumption
 | exact Ext.refl _
 | refine Ext.trans ?_ (by assumption)
 | refine K.wrap (by omega) ?_
 | refine K.dv (by assumption) ?_ rfl ?_
 | refine K.dp (by assumption) ?_ rfl ?_
 | refine K.dC (by assumption) ?_ (by omega) rfl ?_
 | refine K.dn (by assumption) ?_ (by omega) rfl ?_
 | refine K.dB (by assumption) ?_ (by omega) rfl ?_
 | refine K.dA (by omega) ?_
 | refine K.dt (by first | assumption | omega) ?_
 | refine K.dy (by first | assumption | omega) ?_
 | refine K.dj (by assumption) ?_
 | refine K.dm (by assumption) ?_
 | simp -dsimp only[bU,bQ,Nat.reduceAdd,Nat.reduceEqDiff,reduceIte,reduceCtorEq,bZ])
theorem Vf(f:o.ps)(b:Nat)(w:World)(aA:w.heap[b]? = some (.cells #[.int .i64 0,.int .i64 0,.int .i64 0,.int .i64 0] T.w)) :
  CallsD Tryz.prog F.aj #[.pointer (some ⟨b,0,none⟩)] (.panicking (sD f)) w fun e iU w'=>iU=(mR (.panicking (sD f))).2∧∃v,e = .returned v ∧
   (w'.heap[b]? = some (.cells #[.int .i64 f.cY,.int .i64 f.part,.int .i64 f.item,.int .i64 f.sub] T.w)∧∀w0,Ext w0 w→w0.heap.size≤b→Ext w0 w'):=by
 refine K.SC lz KT.aj (args:=[_]) (Nat.le_of_ble_eq_true rfl) ?_;dsimp only[Fu.aj];refine bH ?_;dsimp only[mR,sD];refine aa ?_;refine K.aa8 (by kernel_rfl) ?_;refine aa ?_;refine K.T9 rfl (by kernel_rfl) ?_;refine aa ?_;intro ar bz cN aE al;have Fs:=cL aA;replace aA:=aE.obj aA;refine aa ?_;intro aW xD aO;refine aa ?_;exact⟨aO,fun w0 e aN=>xD.ext (e.trans aE) aN⟩
theorem El(cs:List Value)(m:o.Model)(w:World)(h:o.eh w cs m)(aX:m.cM)(a1:gf w) :
  bw Tryz.prog F.r #[.agg cs.toArray] w fun v w'=>v = .agg #[.int .i64 (o.check m).cY,.int .i64 (o.check m).part,.int .i64 (o.check m).item,.int .i64 (o.check m).sub]∧Ext w w':=by
 obtain⟨cG,bR,cu,c1,cA,c2,cw,bN,cP,bX,rfl,_⟩:=h.form;refine K.ad3 lz Tq.r (args:=[_]) (Nat.le_of_ble_eq_true rfl) ?_;dsimp only[KP.r];refine bH ?_;refine aa ?_;intro ar bz cN aE al;refine aa ?_;intro aW ch en aF aO;replace al:=aF.obj al;have fx:=cL al;have z5:=cL aO;refine aa ?_;refine K.defer (by kernel_rfl) ?_;refine aa ?_;refine K.Er fun bh dG xk av rV=>?_;replace al:=av.obj al;replace aO:=av.obj aO;have z2:=cL aO;have z3:=aF.size;have z4:=aE.size;have bJ:=(aE.trans aF).trans av;have Gb:∀(f:o.ps) (w':World) (S:Fr),Ext w w'→w'.heap[ch]? = some (.cells #[.int .i64 0,.int .i64 0,.int .i64 0,.int .i64 0] T.w)→S 2 = .pointer (some ⟨ch,0,none⟩)→f=o.check m →
   zC Tryz.prog [.iH 4 2] F.aj #[.pointer (some ⟨ch,0,none⟩)] (fun v w'=>v = .agg #[.int .i64 (o.check m).cY,.int .i64 (o.check m).part,.int .i64 (o.check m).item,.int .i64 (o.check m).sub]∧Ext w w') (.fB (sD f)) S w':=by
  rintro f w' S e ay cn rfl;refine K.VD (ql.of (Vf (o.check m) ch w' ay) rfl ?_);rintro bj ⟨aA,he⟩;simp -dsimp only[bU,bQ,Nat.reduceAdd,Nat.reduceEqDiff,reduceIte,reduceCtorEq,bZ,cn];refine K.fO aA (Ext.refl _) rfl ?_;simp -dsimp only[bU,bQ,Nat.reduceAdd,Nat.reduceEqDiff,reduceIte,reduceCtorEq,bZ];exact⟨bq,he _ e (by omega)⟩
 refine aa ?_;refine K.eK (W2 _ m dG bh h bJ (by omega) a1 (e6.empty rV)) ?_ ?_;rotate_left
 ·rintro c bj ⟨h1,rfl,b5,m4⟩;refine aa ?_;exact Gb _ bj _ b5 (m4.obj (by omega) aO) rfl (by rw[o.check,if_pos h1])
 rintro _ bj ⟨h1,b5,m4,pd⟩;replace al:=m4.obj (by omega) al;replace aO:=m4.obj (by omega) aO;refine aa ?_;refine K.eK (ab1 _ m dG bj h aX b5 (by omega) a1 h1 pd) ?_ ?_;rotate_left
 ·rintro c bF ⟨U,rfl,cf,m5⟩;refine aa ?_;exact Gb _ bF _ cf (m5.obj (by omega) aO) rfl (by rw[o.check,if_neg (by simpa using h1),if_pos U])
 rintro _ bF ⟨U,cf,m5,pe⟩;replace al:=m5.obj (by omega) al;replace aO:=m5.obj (by omega) aO;refine aa ?_;refine K.eK (ab6 _ m dG bF h aX cf (by omega) a1 pe) ?_ ?_;rotate_left
 ·rintro c bV ⟨ai,rfl,ez,m6⟩;refine aa ?_;exact Gb _ bV _ ez (m6.obj (by omega) aO) rfl (by rw[o.check,if_neg (by simpa using h1),if_neg (by simpa using U)])
 rintro _ bV ⟨ai,ez,m6⟩;replace al:=m6.obj (by omega) al;replace aO:=m6.obj (by omega) aO;have jL:o.check m=o.qB:=by rw[o.check,if_neg (by simpa using h1),if_neg (by simpa using U),o.ab7 ai]
 refine aa ?_;intro cc ec er;refine aa ?_;refine K.VE (ql.of (Vg ch cc) rfl ?_);rintro _ rfl;refine aa ?_;exact⟨by rw[jL];rfl,ec.ext ez (by omega)⟩
end Go.Proofs.R
end
section
namespace o
open Go
def dg.enc(b:dg):List Value:=[.int .i64 b.bk,.int .i64 b.ad,.int .i64 b.kind]
def Cell.slot(x:Cell):List Value:=[.int .i64 x.sort,.int .i64 x.sH,.int .i64 x.place,.int .i64 x.kind]
def Cell.enc(x:Cell):List Value:=[.int .i64 x.sort,.int .i64 x.sH,.int .i64 x.place,.int .i64 x.bk,.int .i64 x.ad,.int .i64 x.kind]
theorem sX:∀(y:dg),∀u∈y.enc,u.oneCell'=true:=by intro y u hu;simp[dg.enc] at hu;rcases hu with rfl | rfl | rfl<;>rfl
theorem adN:∀(y:Cell),∀u∈y.slot,u.oneCell'=true:=by intro y u hu;simp[Cell.slot] at hu;rcases hu with rfl | rfl | rfl | rfl<;>rfl
theorem zh:∀(y:Cell),∀u∈y.enc,u.oneCell'=true:=by intro y u hu;simp[Cell.enc] at hu;rcases hu with rfl | rfl | rfl | rfl | rfl | rfl<;>rfl
end o
namespace Go.Proofs.R
open Go Go.RowKit bn
theorem aaI(k:Int)(w:World)(h:o.df (k+1)):bw Tryz.prog F.d6 #[.int .i64 k] w fun v w'=>v = .int .i64 (o.kindOf k)∧w'=w:=by
 unfold o.df at h;refine bO E.d6 ?_;refine bH ?_;unfold o.kindOf;refine aa ?_;apply K.cond<;>intro g1
 ·refine aa ?_;exact⟨by rw[if_pos g1],bq⟩
 ·refine aa ?_;exact⟨by rw[if_neg g1],bq⟩
theorem Jj(k:Int)(w:World)(h:o.df (k+1)):bw Tryz.prog F.vG #[.int .i64 k] w fun v w'=>v = .int .i64 (o.kindOf k)∧w'=w:=by
 unfold o.df at h;refine bO E.vG ?_;refine bH ?_;unfold o.kindOf;refine aa ?_;apply K.cond<;>intro g1
 ·refine aa ?_;exact⟨by rw[if_pos g1],bq⟩
 ·refine aa ?_;exact⟨by rw[if_neg g1,Int.add_comm],bq⟩
theorem IJ(x:o.Var)(v:Value)(l:List o.Scalar)(w:World)(aN:o.gW w v l)(h:o.df (x.scalar+1)) :
  bw Tryz.prog F.nT #[.agg x.enc.toArray,v] w fun v w'=>v = .agg (o.fy x.scalar x.bk x.ad l).enc.toArray∧Ext w w':=by
 obtain⟨aj,c,rfl,_⟩:=aN.form;rw[o.wQ];refine bO E.nT ?_;refine bH ?_;refine aa ?_;intro ar bz cN aE al;refine aa ?_;intro aW ch en aF aO;replace al:=aF.obj al;have fx:=cL al;have z2:=cL aO;have aZ:=aE.trans aF;refine aa ?_;refine K.call (F3 x _ l aW (aN.ext aZ)) ?_;rintro _ bh ⟨rfl,av⟩;replace al:=av.obj al;replace aO:=av.obj aO;have bJ:=aZ.trans av;refine aa ?_;refine K.call (aaI x.scalar bh h) ?_;rintro _ lL ⟨rfl,rfl⟩;refine aa ?_;intro bj ew b0;refine aa ?_;exact⟨bq,ew.ext bJ (by have:=aE.size;omega)⟩
theorem aaU(cs:List Value)(m:o.Model)(w:World)(h:o.eh w cs m)(aX:m.cM)(a1:gf w) :
  bw Tryz.prog F.n0 #[.agg cs.toArray] w fun v w'=>v = .bool (decide ((o.check m).cY=0))∧Ext w w':=by
 obtain⟨cG,bR,cu,c1,cA,c2,cw,bN,cP,bX,rfl,_⟩:=h.form;refine bO E.n0 ?_;refine bH ?_;refine aa ?_;intro ar bz cN aE al;refine aa ?_;refine K.call (El _ m ar (h.ext aE) aX (a1.ext aE)) ?_;rintro _ aW ⟨rfl,aF⟩;refine aa ?_;refine K.kI (v:=.int .i64 (o.check m).cY) rfl ?_;refine aa ?_;exact⟨bq,aE.trans aF⟩
theorem W3(cs:List Value)(m:o.Model)(w:World)(h:o.eh w cs m)(aX:m.cM) :
  bw Tryz.prog F.Bd #[.agg cs.toArray] w fun v w'=>v = .bool (decide ((o.check m).cY=0))∧Ext w w':=by
 obtain⟨cG,bR,cu,c1,cA,c2,cw,bN,cP,bX,rfl,_⟩:=h.form;refine bO E.Bd ?_;refine bH ?_;refine aa ?_;intro ar bz cN aE al;refine aa ?_;refine K.call (RM _ m ar (h.ext aE) aX) ?_;rintro _ aW ⟨rfl,aF⟩;unfold uW;refine aa ?_;refine K.kI (v:=.int .i64 (o.check m).cY) rfl ?_;refine aa ?_;exact⟨bq,aE.trans aF⟩
end Go.Proofs.R
end
section
namespace bn
open Go Go.RowKit
theorem hn.congr{α:Type}{enc:α→List Value}{e:TypeId}{sz base n:Nat}{w:World}{vs qg:Nat→Option Addr×Nat×Nat}{xs B6:Nat→List α}(h:hn enc e sz base w n vs xs)(aS:∀i,i<n→vs i=qg i)(aD:∀i,i<n→xs i=B6 i):hn enc e sz base w n qg B6 :=
 ⟨fun i ad=>by rw[←aS i ad,←aD i ad];exact h.own i ad,fun i j k ad aP de he=>by rw[←aS j aP];rw[←aS i ad] at he;exact h.apart i j k ad aP de he⟩
theorem GM{S:Fr}{t:Nat}{n:Int}(h:S t = .int .i64 n):ep S ((List.range 1).map fun i=>(i*1,1)) [(0,.tmp t)] [.int .i64 0]=some [.int .i64 n]:=by
 simp[ep,lay,eS,h,Value.cells,List.range,List.range.loop]
structure dZ(dw:List TypeId)(w w':World):Prop where
 size:w.heap.size≤w'.heap.size
 aR:∀(k:Nat) (c:Array Value) (t:TypeId),w.heap[k]? = some (.cells c t)→t∉dw→w'.heap[k]? = some (.cells c t)
section
variable{dw:List TypeId}{a b w w':World}
theorem dZ.refl:dZ dw w w:=⟨Nat.le_refl _,fun _ _ _ h _=>h⟩
theorem dZ.trans{c:World}(h:dZ dw a b)(k:dZ dw b c):dZ dw a c:=⟨Nat.le_trans h.size k.size,fun i c t ay aG=>k.aR i c t (h.aR i c t ay aG) aG⟩
theorem dZ.ext(h:Ext a b):dZ dw a b:=⟨h.size,fun _ _ _ ay _=>h.obj ay⟩
theorem dZ.mod{A:Nat→Prop}(h:Mod A a b)(eT:∀(k:Nat) (c:Array Value) (t:TypeId),a.heap[k]? = some (.cells c t)→A k→t∈dw):dZ dw a b:=⟨h.size,fun k c t ay aG=>h.obj (fun hk=>aG (eT k c t ay hk)) ay⟩
theorem dZ.wr{k:Nat}{c:Array Value}{t:TypeId}{f:Nat×Nat}(h:dT k a b)(ay:a.heap[k]? = some (.cells c t f))(aG:t∈dw):dZ dw a b:=dZ.mod (h.mod (A:=fun i=>i=k) rfl) fun i s0 im Dw e=>by
 subst e;rw[ay] at Dw;injection Dw with Dw;injection Dw with _ e;exact e ▸ aG
theorem br.ij{α:Type}{enc:α→List Value}{e:TypeId}{sz base:Nat}{v:Value}{xs:List α}(h:br enc e sz base a v xs)(k:dZ dw a b)(he:e∉dw):br enc e sz base b v xs:=by
 refine⟨h.1,?_⟩;rcases h.2 with aM | ⟨g,cap,cur,rfl,aA,aX,rest⟩
 ·exact .inl aM
 ·exact .inr ⟨g,cap,cur,rfl,aA,k.aR _ _ _ aX he,rest⟩
end
end bn
namespace o
structure fR where
 V:List Int
 C:List Int
 ey:List Int
 n:Nat
 L:List Int
 H:List Int
 Z:List Cell
def fR.of(V C ey:List Int)(cs:List Cell):fR:=⟨V,C,ey,cs.length,cs.map (·.bk),cs.map (·.ad),cs⟩
def fR.rows(s:fR):Nat→List Int:=fun i=>if i=0 then s.V else if i=1 then s.C else if i=2 then s.ey else if i=3 then s.L else s.H
end o
namespace Go.Proofs.R
open Go Go.RowKit bn
def p5:List TypeId:=[T.a,T.u,T.g,T.ac]
structure iX(ar:World)(b9 bs:Nat)(s:o.fR)(W:World):Prop where
 mod:Mod (fun k=>k=b9∨k=bs) ar W
 ex:∃(vs:Nat→gv) (u:gv),W.heap[b9]? = some (.cells #[ck (vs 0),ck (vs 1),ck (vs 2),.int .i64 s.n,ck (vs 3),ck (vs 4)] T.g)∧hn eb T.a 1 ar.heap.size W 5 vs s.rows ∧
  W.heap[bs]? = some (.cells #[ck u] T.ac)∧br o.Cell.slot T.u 4 ar.heap.size W (ck u) s.Z
theorem iX.move{ar:World}{b9 bs:Nat}{s:o.fR}{W dV:World}{A:Nat→Prop}(h:iX ar b9 bs s W)(m:Mod A W dV)(eT:∀(k:Nat) (c:Array Value) (t:TypeId),W.heap[k]? = some (.cells c t)→t∈p5→¬A k)(ky:∀k,A k→ar.heap.size≤k):iX ar b9 bs s dV:=by
 obtain⟨vs,u,h1,U,ai,aL⟩:=h.ex;refine⟨h.mod.comp m (fun _ _ a=>a) fun k hk a=>absurd (ky k a) (by omega),vs,u,m.obj (eT _ _ _ h1 (by decide)) h1,U.mod m fun i k ad hk=>?_,m.obj (eT _ _ _ ai (by decide)) ai,aL.mod m fun k hk=>?_⟩
 ·obtain⟨cur,ay⟩:=(U.own i ad).aR k hk;exact eT _ _ _ ay (by decide)
 ·obtain⟨cur,ay⟩:=aL.aR k hk;exact eT _ _ _ ay (by decide)
theorem iX.ext{ar:World}{b9 bs:Nat}{s:o.fR}{W dV:World}(h:iX ar b9 bs s W)(e:Ext W dV):iX ar b9 bs s dV:=h.move (A:=fun _=>False) e.mod (fun _ _ _ _ _ h=>h) fun _ h=>h.elim
structure lj(ar:World)(s:o.fR)(x:o.dg)(lQ:Fr)(w0:World)(vs:Nat→gv)(a33:Addr)(d25 d26 d31 d32 d33:Bool)(S:Fr)(w:World):Prop where
 lX:∀t,t∉[25,26,31,32,33,34]→S t=lQ t
 mod:Mod (fun k=>(ck (vs 3)).ownBlock=some k∨(ck (vs 4)).ownBlock=some k) w0 w
 rows:∃v3 v4,hn eb T.a 1 ar.heap.size w 5 (dc (dc vs 3 v3) 4 v4) (dc (dc s.rows 3 (if d26 then s.L++[x.bk] else s.L)) 4 (if d32 then s.H++[x.ad] else s.H))∧(d26=false→v3=vs 3)∧(d32=false→v4=vs 4) ∧
  (d26=true→S 26=ck v3)∧(d32=true→S 32=ck v4)
 ya:d25=true→d26=false→∃b,S 25 = .slice (some ⟨b,0,none⟩) 1 1∧w0.heap.size≤b∧w.heap[b]? = some (.cells #[.int .i64 x.bk] T.a)
 EC:d31=true→d32=false→∃b,S 31 = .slice (some ⟨b,0,none⟩) 1 1∧w0.heap.size≤b∧w.heap[b]? = some (.cells #[.int .i64 x.ad] T.a)
 BH:d33=true→S 33 = .pointer (some a33)
section
variable{ar w0 w:World}{s:o.fR}{x:o.dg}{lQ S:Fr}{vs:Nat→gv}{a33:Addr}{d25 d26 d31 d32 d33:Bool}{K:Value→World→Prop}
theorem lj.Ri(h:lj ar s x lQ w0 vs a33 false false d31 d32 d33 S w)(rH:lQ 24 = .int .i64 x.bk)(hk:∀v w',lj ar s x lQ w0 vs a33 true false d31 d32 d33 (put S (some 25) v) w'→K v w') :
  k9 Tryz.prog (.cU T.a 1 1 [.int .i64 0] [(0,.tmp 24)]) S w K:=by
 have he:Ext w (w.alloc (.cells #[.int .i64 x.bk] T.a)):=(Ext.refl w).alloc _;refine y9 (GM (by rw[h.lX 24 (by decide),rH])) (hk _ _ ⟨fun t aG=>?_,h.mod.trans he.mod,?_,fun _ _=>⟨_,by simp[hc,ca],h.mod.size,heap_alloc_new w _⟩,fun a b=>?_,fun a=>by rw[hc,ca,if_neg (by decide)];exact h.BH a⟩)
 ·rw[hc,ca,if_neg (by intro e;subst e;simp at aG)];exact h.lX t aG
 ·obtain⟨v3,v4,h1,U,ai,aL,bt⟩:=h.rows;exact⟨v3,v4,h1.ext he,U,ai,fun e=>(by cases e),fun e=>by rw[hc,ca,if_neg (by decide)];exact bt e⟩
 ·obtain⟨b,h1,U,ai⟩:=h.EC a b;exact⟨b,by rw[hc,ca,if_neg (by decide)];exact h1,U,he.obj ai⟩
theorem lj.IU(h:lj ar s x lQ w0 vs a33 d25 d26 false false d33 S w)(Xg:lQ 30 = .int .i64 x.ad)(hk:∀v w',lj ar s x lQ w0 vs a33 d25 d26 true false d33 (put S (some 31) v) w'→K v w') :
  k9 Tryz.prog (.cU T.a 1 1 [.int .i64 0] [(0,.tmp 30)]) S w K:=by
 have he:Ext w (w.alloc (.cells #[.int .i64 x.ad] T.a)):=(Ext.refl w).alloc _;refine y9 (GM (by rw[h.lX 30 (by decide),Xg])) (hk _ _ ⟨fun t aG=>?_,h.mod.trans he.mod,?_,fun a b=>?_,fun _ _=>⟨_,by simp[hc,ca],h.mod.size,heap_alloc_new w _⟩,fun a=>by rw[hc,ca,if_neg (by decide)];exact h.BH a⟩)
 ·rw[hc,ca,if_neg (by intro e;subst e;simp at aG)];exact h.lX t aG
 ·obtain⟨v3,v4,h1,U,ai,aL,bt⟩:=h.rows;exact⟨v3,v4,h1.ext he,U,ai,fun e=>by rw[hc,ca,if_neg (by decide)];exact aL e,fun e=>by cases e⟩
 ·obtain⟨b,h1,U,ai⟩:=h.ya a b;exact⟨b,by rw[hc,ca,if_neg (by decide)];exact h1,U,he.obj ai⟩
theorem lj.FT(h:lj ar s x lQ w0 vs a33 true false d31 d32 d33 S w)(Xe:lQ 22=ck (vs 3))(cb:∀i k,i<5→(ck (vs i)).ownBlock=some k→k<w0.heap.size)(aA:ar.heap.size≤w0.heap.size)(hm:s.L.length≤100000)
  (hk:∀v w',lj ar s x lQ w0 vs a33 true true d31 d32 d33 (put S (some 26) v) w'→K v w') :
  k9 Tryz.prog (.app T.b T.a 1 8 (.tmp 22) (.tmp 25)) S w K:=by
 obtain⟨b,bS,aZ,bJ⟩:=h.ya rfl rfl;obtain⟨v3,v4,h1,U,ai,aL,bt⟩:=h.rows;obtain rfl:=U rfl;show uf Tryz.prog T.b T.a 1 8 (S 22) (S 25) w K;rw[h.lX 22 (by decide),Xe,bS];have rW:=h.mod.size;refine hn.app (vs:=dc (dc vs 3 (vs 3)) 4 v4) (xs:=dc (dc s.rows 3 (if false=true then s.L++[x.bk] else s.L)) 4 (if d32=true then s.H++[x.ad] else s.H)) (y:=x.bk) 3 (by decide) h1 (fun _=>rfl) (gM bJ) lV (by simp[dc];omega) (by simp[dc];unfold maxLen;omega) (by omega) fun b7 w' a1 aX _=>?_;have bP:Mod (fun k=>(ck (vs 3)).ownBlock=some k) w w':=Mod.grown aX fun k hk=>hk;refine hk _ _ ⟨fun t aG=>?_,h.mod.trans (bP.oG fun k hk=>.inl hk),?_,fun _ e=>(by cases e),fun a b=>?_,fun a=>by rw[hc,ca,if_neg (by decide)];exact h.BH a⟩
 ·rw[hc,ca,if_neg (by intro e;subst e;simp at aG)];exact h.lX t aG
 ·refine⟨b7,v4,a1.congr (fun i ad=>?_) (fun i ad=>?_),fun e=>(by cases e),ai,fun _=>by simp[hc,ca],fun e=>by rw[hc,ca,if_neg (by decide)];exact bt e⟩
  ·unfold dc;by_cases a:i=3
   ·subst a;simp
   ·simp[a]
  ·unfold dc;by_cases a:i=3
   ·subst a;simp
   ·simp[a]
 ·obtain⟨ng,h1,U,ai⟩:=h.EC a b;exact⟨ng,by rw[hc,ca,if_neg (by decide)];exact h1,U,bP.obj (fun e=>by have:=cb 3 ng (by decide) e;omega) ai⟩
theorem lj.FU(h:lj ar s x lQ w0 vs a33 true true true false d33 S w)(Xf:lQ 28=ck (vs 4))(aA:ar.heap.size≤w0.heap.size)(hm:s.H.length≤100000)
  (hk:∀v w',lj ar s x lQ w0 vs a33 true true true true d33 (put S (some 32) v) w'→K v w') :
  k9 Tryz.prog (.app T.b T.a 1 8 (.tmp 28) (.tmp 31)) S w K:=by
 obtain⟨b,bS,aZ,bJ⟩:=h.EC rfl rfl;obtain⟨v3,v4,h1,U,ai,aL,bt⟩:=h.rows;obtain rfl:=ai rfl;show uf Tryz.prog T.b T.a 1 8 (S 28) (S 31) w K;rw[h.lX 28 (by decide),Xf,bS];have rW:=h.mod.size;refine hn.app (vs:=dc (dc vs 3 v3) 4 (vs 4)) (xs:=dc (dc s.rows 3 (if true=true then s.L++[x.bk] else s.L)) 4 (if false=true then s.H++[x.ad] else s.H)) (y:=x.ad) 4 (by decide) h1 (fun _=>rfl) (gM bJ) lV (by simp[dc];omega) (by simp[dc];unfold maxLen;omega) (by omega) fun b7 w' a1 aX _=>?_;have bP:Mod (fun k=>(ck (vs 4)).ownBlock=some k) w w':=Mod.grown aX fun k hk=>hk;refine hk _ _ ⟨fun t aG=>?_,h.mod.trans (bP.oG fun k hk=>.inr hk),?_,fun _ e=>(by cases e),fun _ e=>(by cases e),fun a=>by rw[hc,ca,if_neg (by decide)];exact h.BH a⟩
 ·rw[hc,ca,if_neg (by intro e;subst e;simp at aG)];exact h.lX t aG
 ·refine⟨v3,b7,a1.congr (fun i ad=>?_) (fun i ad=>?_),fun e=>(by cases e),fun e=>(by cases e),fun e=>by rw[hc,ca,if_neg (by decide)];exact aL e,fun _=>by simp[hc,ca]⟩
  ·unfold dc;by_cases a:i=4
   ·subst a;simp
   ·simp[a]
  ·unfold dc;by_cases a:i=4
   ·subst a;simp
   ·simp[a]
theorem lj.JG(h:lj ar s x lQ w0 vs a33 d25 d26 d31 d32 d33 S w):lj ar s x lQ w0 vs a33 d25 d26 d31 d32 true (b8 S 33 (.pointer (some a33))) w:=by
 have q:∀t,t≠33→b8 S 33 (.pointer (some a33)) t=S t:=fun t aG=>by rw[ca,if_neg aG]
 refine⟨fun t aG=>?_,h.mod,?_,fun a b=>?_,fun a b=>?_,fun _=>by simp[ca]⟩
 ·rw[q t (by intro e;subst e;simp at aG)];exact h.lX t aG
 ·obtain⟨v3,v4,h1,U,ai,aL,bt⟩:=h.rows;exact⟨v3,v4,h1,U,ai,fun e=>by rw[q _ (by decide)];exact aL e,fun e=>by rw[q _ (by decide)];exact bt e⟩
 ·obtain⟨ng,h1,U⟩:=h.ya a b;exact⟨ng,by rw[q _ (by decide)];exact h1,U⟩
 ·obtain⟨ng,h1,U⟩:=h.EC a b;exact⟨ng,by rw[q _ (by decide)];exact h1,U⟩
end
end Go.Proofs.R
end
section
namespace Go.Proofs.R
open Go Go.RowKit bn
def iW(b:Nat)(w w':World):Prop := ∀j,j<3→w'.cell? (Addr.add ⟨b,0,none⟩ j)=w.cell? (Addr.add ⟨b,0,none⟩ j)
theorem iW.refl{b:Nat}{w:World}:iW b w w:=fun _ _=>rfl
theorem iW.trans{b:Nat}{w w' bW:World}(h:iW b w w')(k:iW b w' bW):iW b w bW:=fun j aP=>(k j aP).trans (h j aP)
theorem iW.of{b:Nat}{w w':World}{bR c1 c2:Value}{l xN:List Value}{t im:TypeId}{f xb:Nat×Nat}(h:w.heap[b]? = some (.cells (bR :: c1 :: c2 :: l).toArray t f))(bB:w'.heap[b]? = some (.cells (bR :: c1 :: c2 :: xN).toArray im xb)):iW b w w':=fun j aP=>by
 have:j=0∨j=1∨j=2:=by omega
 rcases this with rfl | rfl | rfl
 ·rw[eZ h (v:=bR) rfl,eZ bB (v:=bR) rfl]
 ·rw[eZ h (v:=c1) rfl,eZ bB (v:=c1) rfl]
 ·rw[eZ h (v:=c2) rfl,eZ bB (v:=c2) rfl]
theorem iW.ext{b:Nat}{w w':World}(he:Ext w w')(h:b<w.heap.size):iW b w w':=fun j _=>by
 rw[add_eq];simp only[World.cell?,he.heap h]
def M0:eC:=(.take (ah 21 4 3) (.take (ae 22 21) (.take (ah 23 0 11) (.take (ae 24 23) (.take (ah 27 5 3) (.take (ae 28 27) (.take (ah 29 1 11) (.take (ae 30 29) (.alt (aB 25 (.cU T.a 1 1 [(.int .i64 0)] [(0,(ab 24))])) (.alt (aB 26 (.app T.b T.a 1 8 (ab 22) (ab 25))) (.take (ah 33 4 3) (.alt (aB 31 (.cU T.a 1 1 [(.int .i64 0)] [(0,(ab 30))])) (.cg (aB 32 (.app T.b T.a 1 8 (ab 28) (ab 31))) (.cg (ys 33 26) (.take (ah 34 5 3) (.cg (ys 34 32) .done .nil)) .nil) .nil) .nil)) (.alt (aB 31 (.cU T.a 1 1 [(.int .i64 0)] [(0,(ab 30))])) (.alt (aB 26 (.app T.b T.a 1 8 (ab 22) (ab 25))) (.take (ah 33 4 3) (.cg (aB 32 (.app T.b T.a 1 8 (ab 28) (ab 31))) (.cg (ys 33 26) (.take (ah 34 5 3) (.cg (ys 34 32) .done .nil)) .nil) .nil)) .nil) .nil)) (.alt (aB 31 (.cU T.a 1 1 [(.int .i64 0)] [(0,(ab 30))])) (.alt (aB 25 (.cU T.a 1 1 [(.int .i64 0)] [(0,(ab 24))])) (.alt (aB 26 (.app T.b T.a 1 8 (ab 22) (ab 25))) (.take (ah 33 4 3) (.cg (aB 32 (.app T.b T.a 1 8 (ab 28) (ab 31))) (.cg (ys 33 26) (.take (ah 34 5 3) (.cg (ys 34 32) .done .nil)) .nil) .nil)) .nil) .nil) .nil))))))))))
theorem ki{S:Fr}{n m:Nat}{v u:Value}(h:S m=u)(aM:m≠n):b8 S n v m=u:=by rw[ca,if_neg aM];exact h
theorem TS{ar w:World}{b9 bs cE:Nat}{s:o.fR}{x:o.dg}{S:Fr}{cI:Fr→World→Prop}(de:b9≠bs)(ky:b9<ar.heap.size∧bs<ar.heap.size)(aw:iX ar b9 bs s w)(ai:S 3 = .pointer (some ⟨b9,0,none⟩))(Dl:S 11 = .pointer (some ⟨cE,0,none⟩))
  (ay:w.heap[cE]? = some (.cells x.enc.toArray T.k))(hm:s.L.length≤100000)(HJ:s.H.length≤100000)
  (hk:∀a6 w',iX ar b9 bs ⟨s.V,s.C,s.ey,s.n,s.L++[x.bk],s.H++[x.ad],s.Z⟩ w'→dZ p5 w w'→iW b9 w w'→cI a6 w'):∃C:World→Prop,C w∧dI Tryz.prog C M0 S w cI:=by
 obtain⟨vs,u,g1,g2,g3,g4⟩:=aw.ex;have Ew:=g2.not g1 (by decide);have nz:=g2.not ay (by decide);refine⟨Mod (fun k=>(ck (vs 3)).ownBlock=some k∨(ck (vs 4)).ownBlock=some k) w,Mod.refl _ _,?_⟩;have rx:∀w',Mod (fun k=>(ck (vs 3)).ownBlock=some k∨(ck (vs 4)).ownBlock=some k) w w'→w'.heap[b9]? = some (.cells #[ck (vs 0),ck (vs 1),ck (vs 2),.int .i64 s.n,ck (vs 3),ck (vs 4)] T.g) :=
  fun w' m=>m.obj (fun h=>h.elim (Ew 3 (by decide)) (Ew 4 (by decide))) g1
 have hQ:∀w',Mod (fun k=>(ck (vs 3)).ownBlock=some k∨(ck (vs 4)).ownBlock=some k) w w'→w'.heap[cE]? = some (.cells x.enc.toArray T.k) :=
  fun w' m=>m.obj (fun h=>h.elim (nz 3 (by decide)) (nz 4 (by decide))) ay
 have c5:ar.heap.size≤w.heap.size:=aw.mod.size;unfold M0;refine dI.jq ai ?_;refine dI.ld (v:=ck (vs 3)) (by simp[ca];rfl) (fun w' m=>eZ (rx w' m) rfl) ?_;refine dI.jq (a:=⟨cE,0,none⟩) (by simp[ca,Dl]) ?_;refine dI.ld (v:=.int .i64 x.bk) (by simp[ca];rfl) (fun w' m=>eZ (hQ w' m) rfl) ?_;refine dI.jq (a:=⟨b9,0,none⟩) (by simp[ca,ai]) ?_;refine dI.ld (v:=ck (vs 4)) (by simp[ca];rfl) (fun w' m=>eZ (rx w' m) rfl) ?_;refine dI.jq (a:=⟨cE,0,none⟩) (by simp[ca,Dl]) ?_;refine dI.ld (v:=.int .i64 x.ad) (by simp[ca];rfl) (fun w' m=>eZ (hQ w' m) rfl) ?_;generalize u6:b8 _ 30 _=sR;have bJ:sR 3 = .pointer (some ⟨b9,0,none⟩):=by subst u6;simp[ca,ai]
 have Gx:sR 22=ck (vs 3):=by subst u6;simp[ca]
 have C9:sR 24 = .int .i64 x.bk:=by subst u6;simp[ca]
 have Gy:sR 28=ck (vs 4):=by subst u6;simp[ca]
 have Gz:sR 30 = .int .i64 x.ad:=by subst u6;simp[ca]
 have fM:∀i,vs i=dc (dc vs 3 (vs 3)) 4 (vs 4) i:=fun i=>by
  unfold dc;by_cases a:i=4
  ·subst a;simp
  ·by_cases b:i=3
   ·subst b;simp
   ·simp[a,b]
 have gR:∀i,s.rows i=dc (dc s.rows 3 (if false=true then s.L++[x.bk] else s.L)) 4 (if false=true then s.H++[x.ad] else s.H) i:=fun i=>by
  unfold dc;by_cases a:i=4
  ·subst a;simp[o.fR.rows]
  ·by_cases b:i=3
   ·subst b;simp[o.fR.rows]
   ·simp[a,b]
 have t0:lj ar s x sR w vs (Addr.add ⟨b9,0,none⟩ 4) false false false false false sR w :=
  ⟨fun _ _=>rfl,Mod.refl _ _,⟨vs 3,vs 4,g2.congr (fun i ad=>fM i) (fun i ad=>gR i),
   fun _=>rfl,fun _=>rfl,fun e=>(by cases e),fun e=>(by cases e)⟩,fun e=>(by cases e),fun e=>(by cases e),fun e=>(by cases e)⟩
 have cb:∀i k,i<5→(ck (vs i)).ownBlock=some k→k<w.heap.size:=fun i k ad he=>(g2.lt i k ad he).2;have fin:∀S aW,lj ar s x sR w vs (Addr.add ⟨b9,0,none⟩ 4) true true true true true S aW→dI Tryz.prog (Mod (fun k=>(ck (vs 3)).ownBlock=some k∨(ck (vs 4)).ownBlock=some k) w) (.cg (ys 33 26) (.take (ah 34 5 3) (.cg (ys 34 32) .done .nil)) .nil) S aW cI:=by
  intro S aW t;obtain⟨v3,v4,dS,_,_,gT,pc⟩:=t.rows;have aD:=rx aW t.mod;refine dI.uZ ?_;show uD (S 33) (S 26) aW _;rw[t.BH rfl,gT rfl];refine JC fun iT=>K.st1 aD (by simp) rfl fun bh gP bA=>?_;show dI _ _ _ S _ _;refine dI.jq (a:=⟨b9,0,none⟩) (by rw[t.lX 3 (by decide),bJ]) ?_;refine dI.uZ ?_;show uD (b8 S 34 _ 34) (b8 S 34 _ 32) bh _;rw[show b8 S 34 (.pointer (some (Addr.add ⟨b9,0,none⟩ 5))) 34 = .pointer (some (Addr.add ⟨b9,0,none⟩ 5)) from by simp[ca],ki (pc rfl) (by decide)];refine JC fun iT=>K.st1 bA (by simp) rfl fun bj ew b0=>?_;have hw:=gP.trans ew;have jR:=dS.not aD (by decide);obtain⟨us,xA⟩:∃us,us=ck u:=⟨_,rfl⟩;refine hk _ _ ⟨?_,dc (dc vs 3 v3) 4 v4,u,?_,(dS.mod (hw.mod (A:=fun k=>k=b9) rfl) fun i k ad hk e=>jR i ad (by rw[←e];exact hk)).congr (fun _ _=>rfl) (fun i ad=>?_),?_,?_⟩ ?_ ?_
  ·refine(aw.mod.comp t.mod (B:=fun k=>k=b9∨k=bs) (fun _ _ a=>a) fun i ad a=>?_).trans (hw.mod (A:=fun k=>k=b9∨k=bs) (.inl rfl));rcases a with a | a
   ·have:=(g2.lt 3 i (by decide) a).1;omega
   ·have:=(g2.lt 4 i (by decide) a).1;omega
  ·exact b0
  ·have:i=0∨i=1∨i=2∨i=3∨i=4:=by omega
   rcases this with rfl | rfl | rfl | rfl | rfl<;>simp[dc,o.fR.rows]
  ·exact hw.obj (t.mod.obj (fun h=>h.elim (g2.not g3 (by decide) 3 (by decide)) (g2.not g3 (by decide) 4 (by decide))) g3) (Ne.symm de)
  ·refine(g4.mod t.mod fun k hk h=>?_).mod (hw.mod (A:=fun k=>k=b9) rfl) fun k hk e=>?_
   ·obtain⟨cur,gj⟩:=g4.aR k hk;exact h.elim (g2.not gj (by decide) 3 (by decide)) (g2.not gj (by decide) 4 (by decide))
   ·obtain⟨cur,gj⟩:=g4.aR k hk;subst e;rw[g1] at gj;injection gj with gj;injection gj with _ e;exact absurd e (by decide)
  ·refine(dZ.mod t.mod fun k c im ay a=>?_).trans (dZ.wr hw aD (by decide));rcases a with a | a
   ·obtain⟨cur,gj⟩:=(g2.own 3 (by decide)).aR k a;rw[ay] at gj;injection gj with gj;injection gj with _ e;rw[e];decide
   ·obtain⟨cur,gj⟩:=(g2.own 4 (by decide)).aR k a;rw[ay] at gj;injection gj with gj;injection gj with _ e;rw[e];decide
  ·exact iW.of g1 b0
 clear hk;refine⟨j2.e (t0.Ri C9 fun v2 aW t2=>⟨t2.mod,?_,?_,trivial⟩),j2.e (t0.IU Gz fun v2 aW t2=>⟨t2.mod,?_⟩),trivial⟩
 ·refine j2.e (t2.FT Gx cb c5 hm fun v3 bh t3=>⟨t3.mod,?_⟩);refine dI.jq (a:=⟨b9,0,none⟩) (by rw[t3.lX 3 (by decide),bJ]) ?_;refine dI.wH (j2.e (t3.JG.IU Gz fun v4 bj t4=>⟨t4.mod,?_⟩));exact dI.uZ (mB.e (t4.FU Gy c5 HJ fun v5 bF t5=>fin _ _ t5))
 ·refine j2.e (t2.IU Gz fun v3 bh t3=>⟨t3.mod,?_⟩);refine dI.wH (j2.e (t3.FT Gx cb c5 hm fun v4 bj t4=>⟨t4.mod,?_⟩));refine dI.jq (a:=⟨b9,0,none⟩) (by rw[t4.lX 3 (by decide),bJ]) ?_;exact dI.uZ (mB.e (t4.JG.FU Gy c5 HJ fun v5 bF t5=>fin _ _ t5))
 ·refine dI.wH (j2.e (t2.Ri C9 fun v3 bh t3=>⟨t3.mod,?_⟩));refine dI.wH (j2.e (t3.FT Gx cb c5 hm fun v4 bj t4=>⟨t4.mod,?_⟩));refine dI.jq (a:=⟨b9,0,none⟩) (by rw[t4.lX 3 (by decide),bJ]) ?_;exact dI.uZ (mB.e (t4.JG.FU Gy c5 HJ fun v5 bF t5=>fin _ _ t5))
end Go.Proofs.R
end