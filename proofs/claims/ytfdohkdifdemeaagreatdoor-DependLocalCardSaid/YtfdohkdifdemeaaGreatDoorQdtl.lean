/- Texts joined: ModJ LiteM ModA ModD ModE ModF LiteD CodeD ModG LayA LayB LayC. -/
import Derived.Test.YtfdohkdifdemeaaGreatDoorQdtd
import Derived.Test.YtfdohkdifdemeaaGreatDoorQdte
import Derived.Test.YtfdohkdifdemeaaGreatDoorQdtg
import Derived.Test.YtfdohkdifdemeaaGreatDoorQdth
import Derived.Test.YtfdohkdifdemeaaGreatDoorQdti
import Derived.Test.YtfdohkdifdemeaaGreatDoorQdtj
import Derived.Test.YtfdohkdifdemeaaGreatDoorQdtk
import Derived.Maps.RangeRun
import Derived.Defers
import Derived.Recover
set_option linter.all false
set_option maxRecDepth 100000
set_option maxHeartbeats 16000000
section
namespace Go.Proofs.R
open Go Go.RowKit bt
theorem ahU(cs:List Value)(m:o.Model)(k:Nat)(w:World)(h:o.dM w cs m)(aV:m.cG)(hk:k<m.procs.length)(C8:k≤6)(GO:m.scalars.length≤2∧m.vars.length≤12∧m.a7.length≤4)(aei:k<6→∀j,j<k→(o.hK m j).1=0) :
  bw Tryz.prog F.D6 #[.agg cs.toArray,.int .i64 k] w fun v w'=>v=vj (if (o.hK m k).1≠0 then ⟨(o.hK m k).1,4,k,(o.hK m k).2⟩ else o.r6)∧Ext w w':=by
 have bq:=h;obtain⟨cz,bV,cj,c1,cq,c2,cr,bJ,cC,bW,rfl,ao,h1,U,ah,aJ,eH,dB,dH,ee,ei⟩:=h.form;have dZ:=o.JH hk;refine bP E.D6 ?_;refine bM ?_;refine aa ?_;intro aq bE c8 aC ar;refine aa ?_;intro aU cp dT aA aK;replace ar:=aA.obj ar;have ba:=aC.trans aA;have fC:=cy ar;have z2:=aC.size;refine aa ?_;apply K.cond<;>intro g1
 ·rw[if_pos (by omega)] at dZ;refine aa ?_;intro aY fk bB;refine aa ?_;exact⟨by rw[dZ];rfl,fk.ext ba (by omega)⟩
 rw[if_neg (by omega)] at dZ;obtain⟨a,rfl⟩:=ah.addr (by omega);obtain⟨mI,cx,eg,aW,eL,dU⟩:=ah.at k hk;obtain⟨fz,ir,rfl,iA⟩:=eL.form;obtain⟨n1,kk,rfl,lc⟩:=dU.form;have nr:=aV.proc _ (List.getElem_mem hk);replace aW:=aW.ext ba;refine aa ?_;intro aY dX jf ax b3;replace ar:=ax.obj ar;replace aK:=ax.obj aK;refine aa ?_;intro bo aF;replace ar:=aF.obj ar;replace aK:=aF.obj aK;replace b3:=aF.obj b3;have bX:=(ba.trans ax).trans aF;refine aa ?_;refine K.call (ahX (w0:=w) _ m k bo bq bX aV) ?_;rintro _ bD ⟨⟨akN,rfl,k6⟩,aM⟩;refine⟨aM,?_⟩;have ca:=bX.trans aM;obtain⟨me,E5,jB,mf,jC,lL,pK,yv,oX,yw,rfl,_⟩:=(k6 _ ca).form;refine aa ?_;refine K.call (aif m.procs[k] _ _ (o.gz m k) bD ⟨mI,_,_,rfl,eL.ext ca,dU.ext ca⟩ (k6 _ ca) (aV.gz _) nr) ?_;rintro _ bQ ⟨rfl,aN⟩;replace ar:=(aM.trans aN).obj ar;replace aK:=(aM.trans aN).obj aK;replace b3:=(aM.trans aN).obj b3;have c7:=ca.trans aN;clear ba bX aW;have e5:=o.VY m.procs[k] (o.gz m k) 140737488351232 fun c aw=>by have:=(nr.cmd c aw).cn;unfold o.dD at this;omega
 have aeJ:m.procs[k].vars.length≤140737488351232:=by have:=nr.vars;unfold o.dD at this;omega
 have np:m.procs[k].cE.length≤140737488351232:=by have:=nr.cE;unfold o.dD at this;omega
 refine aa ?_;apply K.cond<;>intro g2;rotate_left
 ·rw[if_pos g2] at dZ;refine aa ?_;intro cd dC dq;refine aa ?_;exact⟨by rw[dZ,if_pos g2];rfl,dC.ext c7 (by omega)⟩
 rw[if_neg (by simpa using g2)] at dZ;have hlen:∀(i:Int),m.scalars.length+o.cJ 1 4 i m.vars.length+o.cJ 2 4 i m.a7.length+o.cJ 3 4 k m.procs.length+o.hc 4 i m.props.length≤8000000000000:=fun i=>by
  have dQ:=o.uJ 1 4 i m.vars.length;have ef:=o.uJ 2 4 i m.a7.length;have ev:o.cJ 3 4 k m.procs.length≤k:=by unfold o.cJ; (repeat' split)<;>omega
  have hR:o.hc 4 i m.props.length=0:=by unfold o.hc;rw[if_neg (by decide)]
  omega
 refine aa ?_;intro cd bC;replace ar:=bC.obj ar;replace aK:=bC.obj aK;replace b3:=bC.obj b3;have dw:=c7.trans bC;refine aa ?_;refine K.call (Bz _ m 4 k cd (bq.ext dw) (by omega) (by omega) (hlen k)) ?_;rintro _ c9 ⟨⟨v,rfl,gM⟩,bU⟩;refine⟨bU,?_⟩;rw[o.YC] at gM;replace ar:=bU.obj ar;replace aK:=bU.obj aK;replace b3:=bU.obj b3;have eX:=dw.trans bU;refine aa ?_;refine K.call (CE v _ m.procs[k].name _ c9 gM) ?_;rintro _ rH ⟨rfl,rfl⟩;refine aa ?_;apply K.cond<;>intro g3
 ·rw[if_pos g3] at dZ;refine aa ?_;intro dF hp dm;refine aa ?_;exact⟨by rw[dZ];rfl,hp.ext eX (by omega)⟩
 rw[if_neg g3] at dZ;have qa:m.procs.length*80≤140737488355328:=by have:=aV.procs;unfold o.dD at this;omega
 have Dc:m.scalars.length+o.cJ 1 5 (0:Nat) m.vars.length+o.cJ 2 5 (0:Nat) m.a7.length+o.cJ 3 5 (0:Nat) m.procs.length+o.hc 5 (0:Nat) m.props.length≤8000000000000:=by
  have dQ:=o.uJ 1 5 (0:Nat) m.vars.length;have ef:=o.uJ 2 5 (0:Nat) m.a7.length;have ev:=o.uJ 3 5 (0:Nat) m.procs.length;have hR:o.hc 5 (0:Nat) m.props.length=0:=by unfold o.hc;rw[if_pos (by decide)];simp
  omega
 have vt:=ar;have xq:=aK;have Ta:=b3;clear ar aK b3 gM;have ar:=vt;have b3:=Ta;refine aa ?_;refine K.cR 9 m.procs[k].vars.length [1,2,4,5] (fun _:Unit=>[]) () (fun j _ w'=>Ext rH w'∧∀i,i<j→o.pf m m.procs[k] i=0) bp bp ⟨Ext.refl _,fun j h=>absurd h (Nat.not_lt_zero _)⟩ ?_;clear ar b3;rintro j _ S dF aI ⟨cL,bL⟩;have ar:=cL.obj vt;have aK:=cL.obj xq;have b3:=cL.obj Ta;have gu:=eX.trans cL;refine aa ?_;apply K.cond<;>intro g4
 ·have eQ:j<m.procs[k].vars.length:=by omega
  obtain⟨cX,rfl⟩:=eL.addr (by omega);have ew:=((eL.at j eQ).cells).ext gu;have fp:=o.AE (f:=fun x:o.Var=>x.name) eQ;refine aa ?_;intro fe dj;replace ar:=dj.obj ar;replace aK:=dj.obj aK;replace b3:=dj.obj b3;replace ew:=ew.ext dj;have nL:=gu.trans dj;refine aa ?_;refine K.call (Bz _ m 5 (0:Nat) fe (bq.ext nL) (by omega) (by omega) Dc) ?_;rintro _ fQ ⟨⟨v2,rfl,Dh⟩,hn⟩;refine⟨hn,?_⟩;rw[o.QY] at Dh;replace ar:=hn.obj ar;replace aK:=hn.obj aK;replace b3:=hn.obj b3;have r1:=nL.trans hn;refine aa ?_;refine K.call (CE v2 _ m.procs[k].vars[j].name _ fQ Dh) ?_;rintro _ yt ⟨rfl,rfl⟩;have dP:o.qg m 0=o.ig m m.procs.length:=by simp[o.qg]
  rw[dP];refine aa ?_;apply K.cond<;>intro g5
  ·have tH:o.pf m m.procs[k] j=7:=by unfold o.pf;rw[fp,if_pos g5]
   rw[o.iu eQ bL (by rw[tH];decide),tH,if_pos (show(7:Int)≠0 by decide)] at dZ;refine aa ?_;intro kO sn q3;refine aa ?_;exact⟨by rw[dZ];rfl,sn.ext r1 (by omega)⟩
  ·refine aa ?_;refine⟨eQ,bf,(),trivial,(cL.trans dj).trans hn,fun i af=>?_⟩;by_cases C4:i=j
   ·subst C4;unfold o.pf;rw[fp,if_neg g5]
   ·exact bL i (by omega)
 ·rw[o.nN fun i af=>bL i (by omega),if_neg (by simp)] at dZ;refine aa ?_;intro fe pz nQ;refine aa ?_;exact⟨by rw[dZ];rfl,pz.ext gu (by omega)⟩
theorem ahV(cs:List Value)(m:o.Model)(k:Nat)(w:World)(h:o.dM w cs m)(aV:m.cG)(hk:k<m.props.length)(TO:k≤8)(GO:m.scalars.length≤2∧m.vars.length≤12∧m.a7.length≤4)(aei:m.procs.length≤6) :
  bw Tryz.prog F.D7 #[.agg cs.toArray,.int .i64 k] w fun v w'=>v = .int .i64 (o.lT m k)∧Ext w w':=by
 have bq:=h;obtain⟨cz,bV,cj,c1,cq,c2,cr,bJ,cC,bW,rfl,ao,h1,U,ah,aJ,eH,dB,dH,ee,ei⟩:=h.form;have dZ:=o.Ck hk;refine bP E.D7 ?_;refine bM ?_;refine aa ?_;intro aq bE c8 aC ar;refine aa ?_;apply K.cond<;>intro g1
 ·rw[if_pos (by omega)] at dZ;refine aa ?_;exact⟨by rw[dZ],aC⟩
 rw[if_neg (by omega)] at dZ;obtain⟨a,rfl⟩:=aJ.addr (by omega);obtain⟨mI,hV,aW,gU⟩:=aJ.at k hk;obtain⟨HI,ce,rfl,le⟩:=gU.form;replace aW:=aW.ext aC;refine aa ?_;intro aU dX jf aA b3;replace ar:=aA.obj ar;have ba:=aC.trans aA;refine aa ?_;refine K.call (AR m.props[k].name aU mI) ?_;rintro _ aY ⟨rfl,ax⟩;replace ar:=ax.obj ar;replace b3:=ax.obj b3;have bz:=ba.trans ax;refine aa ?_;refine K.dO (fun g2=>?_) (fun g2=>?_);rotate_left
 ·rw[if_pos g2] at dZ;refine aa ?_;exact⟨by rw[dZ],bz⟩
 rw[if_neg (by rw[g2];decide)] at dZ;refine aa ?_;intro bo aF;replace ar:=aF.obj ar;replace b3:=aF.obj b3;have bX:=bz.trans aF;refine aa ?_;refine K.call (Bz _ m 5 k bo (bq.ext bX) (by omega) (by omega) (by
  have dQ:=o.uJ 1 5 k m.vars.length;have ef:=o.uJ 2 5 k m.a7.length;have ev:=o.uJ 3 5 k m.procs.length;have hR:o.hc 5 k m.props.length≤k:=by unfold o.hc; (repeat' split)<;>omega
  omega)) ?_
 rintro _ bD ⟨⟨v2,rfl,Dh⟩,aM⟩;refine⟨aM,?_⟩;rw[o.QY] at Dh;replace ar:=aM.obj ar;replace b3:=aM.obj b3;have ca:=bX.trans aM;refine aa ?_;refine K.call (CE v2 _ m.props[k].name _ bD Dh) ?_;rintro _ yt ⟨rfl,rfl⟩;refine aa ?_;apply K.cond<;>intro g3
 ·rw[if_pos g3] at dZ;refine aa ?_;exact⟨by rw[dZ],ca⟩
 rw[if_neg g3] at dZ;have k6:∀w',Ext w w'→o.fm w' [.slice cz m.scalars.length bV,.slice cj m.vars.length c1,.slice cq m.a7.length c2,.slice cr m.procs.length bJ,.slice none 0 0,.int .i64 0] (o.ez m):=fun w' e =>
  ⟨aV.scope.pI.1,_,_,_,_,_,rfl,ao.ext e,h1.ext e,U.ext e,ah.ext e,bG.nil,aV.scope.pI.2⟩
 refine aa ?_;refine K.call (Wj _ m.props[k].expr _ (o.ez m) _ (gU.ext ca) (k6 _ ca)) ?_;rintro _ bQ ⟨rfl,aN⟩;refine aa ?_;apply K.cond<;>intro g4;rotate_left
 ·rw[if_pos g4] at dZ;refine aa ?_;exact⟨by rw[dZ],ca.trans aN⟩
 rw[if_neg (by simpa using g4)] at dZ;refine aa ?_;apply K.cond<;>intro g5;rotate_left
 ·rw[if_pos g5] at dZ;refine aa ?_;exact⟨by rw[dZ],ca.trans aN⟩
 rw[if_neg (by simpa using g5)] at dZ;refine aa ?_;exact⟨by rw[dZ],ca.trans aN⟩
theorem MX(cs:List Value)(m:o.Model)(w:World)(h:o.dM w cs m)(aV:m.cG) :
  bw Tryz.prog F.x5 #[.agg cs.toArray] w fun v w'=>v=vj (o.check m)∧Ext w w':=by
 have bq:=h;obtain⟨cz,bV,cj,c1,cq,c2,cr,bJ,cC,bW,rfl,ao,h1,U,ah,aJ,eH,dB,dH,ee,ei⟩:=h.form;refine bP E.x5 ?_;refine bM ?_;simp -dsimp only[cA];refine eh ?_;intro aq bE c8 aC ar;refine eh ?_;intro aU cp dT aA aK;replace ar:=aA.obj ar;have ba:=aC.trans aA;have fC:=cy ar;have z2:=cy aK;have z3:=aC.size;refine eh ?_;simp -dsimp only[cA];refine eh ?_;refine K.call (ahP _ m aU (bq.ext ba)) ?_;rintro _ aY ⟨rfl,ax⟩;replace ar:=ax.obj ar;replace aK:=ax.obj aK;unfold vj;have z4:=aA.size;have z5:=ax.size;refine eh ?_;intro bo ch fE aF bB;replace ar:=aF.obj ar;replace aK:=aF.obj aK;have bX:=(ba.trans ax).trans aF;have uN:=cy bB;have vt:=ar;have xq:=aK;have akY:=bq.ext bX;refine eh ?_;refine K.gK [1,2,3] (fun _:o.qA=>[]) (fun f w'=>Mod (fun i=>i=ch) bo w'∧w'.heap[ch]? = some (.cells #[.int .i64 f.cM,.int .i64 f.part,.int .i64 f.item,.int .i64 f.sub] T.v) ∧
  ((f.cM≠0∧f=o.check m)∨(f.cM=0∧(o.data m).cM=0∧∀j,j<m.procs.length→(o.hK m j).1=0))) ?_ ?_
 ·refine aa ?_;refine K.cR 4 m.procs.length [1,2,3] (fun _:o.qA=>[]) (o.data m) (fun k f w'=>Mod (fun i=>i=ch) bo w'∧w'.heap[ch]? = some (.cells #[.int .i64 f.cM,.int .i64 f.part,.int .i64 f.item,.int .i64 f.sub] T.v) ∧
   ((f=o.data m∧(o.data m).cM≠0)∨((o.data m).cM=0∧f.cM=0∧∀j,j<k→(o.hK m j).1=0)∨((o.data m).cM=0∧f=o.lg m∧(o.lg m).cM≠0))) bp bp ⟨Mod.refl _ _,bB,by
     by_cases h:(o.data m).cM=0
     ·exact .inr (.inl ⟨h,h,fun j h=>absurd h (Nat.not_lt_zero _)⟩)
     ·exact .inl ⟨rfl,h⟩⟩ ?_
  clear ar aK bB;rintro k f S bD hk ⟨m5,bB,aT⟩;have ar:=m5.obj (by omega) vt;have aK:=m5.obj (by omega) xq;have ca:=m5.ext bX (fun i af e=>by omega);have Si:f.cM≠0→(f.cM≠0∧f=o.check m):=fun hw=>⟨hw,by
   rcases aT with ⟨rfl,h⟩ | ⟨_,h,_⟩ | ⟨h1,rfl,U⟩
   ·rw[o.check,if_pos h]
   ·exact absurd h hw
   ·rw[o.check,if_neg (by simpa using h1),if_pos U]⟩
  refine aa ?_;apply K.cond<;>intro g1
  ·have br:k<m.procs.length:=by omega
   refine aa ?_;apply K.cond<;>intro g2
   ·have nV:(o.data m).cM=0∧f.cM=0∧∀j,j<k→(o.hK m j).1=0:=by
     rcases aT with ⟨rfl,h⟩ | h | ⟨h1,rfl,U⟩
     ·exact absurd g2 h
     ·exact h
     ·exact absurd g2 U
    have C8:k≤6:=by
     apply Classical.byContradiction;intro aH
     have:=o.Gh (m:=m) (i:=6) (by omega) (nV.2.2 6 (by omega))
     omega
    refine aa ?_;refine K.call (ahU _ m k bD (bq.ext ca) aV br C8 (o.F8 nV.1) fun _=>nV.2.2) ?_;rintro _ bQ ⟨rfl,aN⟩;unfold vj;replace ar:=aN.obj ar;replace aK:=aN.obj aK;replace bB:=aN.obj bB;refine aa ?_;intro cd dC dq;refine aa ?_;refine⟨br,bf,_,trivial,(m5.trans aN.mod).trans (dC.mod rfl),dq,?_⟩;by_cases ao:(o.hK m k).1=0
    ·rw[if_neg (by simpa using ao)];refine .inr (.inl ⟨nV.1,rfl,fun j aI=>?_⟩);by_cases km:j=k
     ·subst km;exact ao
     ·exact nV.2.2 j (by omega)
    ·rw[if_pos ao]
     have:=o.Et br nV.2.2 ao
     exact .inr (.inr ⟨nV.1,this.symm,by rw[this];exact ao⟩)
   ·refine aa ?_;exact⟨f,trivial,m5,bB,.inl (Si g2)⟩
  ·refine aa ?_;refine⟨f,trivial,m5,bB,?_⟩;by_cases hw:f.cM=0
   ·refine .inr ?_;rcases aT with ⟨rfl,h⟩ | ⟨h1,U,ah⟩ | ⟨h1,rfl,U⟩
    ·exact absurd hw h
    ·exact⟨U,h1,fun j aI=>ah j (by omega)⟩
    ·exact absurd hw U
   ·exact .inl (Si hw)
 clear ar aK bB;rintro f S bD ⟨m5,bB,aT⟩;have ar:=m5.obj (by omega) vt;have aK:=m5.obj (by omega) xq;have ca:=m5.ext bX (fun i af e=>by omega);refine aa ?_;apply K.cond<;>intro g1;rotate_left
 ·have kE:f=o.check m:=by
   rcases aT with ⟨_,h⟩ | ⟨h,_⟩
   ·exact h
   ·exact absurd h g1
  refine aa ?_;intro bQ fy b5;refine aa ?_;exact⟨by rw[kE],fy.ext ca (by omega)⟩
 have dA:(o.data m).cM=0∧∀j,j<m.procs.length→(o.hK m j).1=0:=by
  rcases aT with ⟨h,_⟩ | ⟨_,h⟩
  ·exact absurd g1 h
  ·exact h
 obtain⟨bx,xj⟩:=dA;have GO:=o.F8 bx;have qa:m.procs.length≤6:=by
  apply Classical.byContradiction;intro aH
  have:=o.Gh (i:=6) (by omega) (xj 6 (by omega))
  omega
 have q7:o.sT m:=⟨by omega,by omega,by omega,fun p aW=>by
  obtain⟨j,aI,rfl⟩:=List.mem_iff_getElem.1 aW
  have:=o.MB (o.Cj aI (xj j aI)).2.1
  omega⟩
 have px:=o.MC xj;have kE:o.check m=if (o.lg m).cM≠0 then o.lg m else o.n2 m:=by rw[o.check,if_neg (by simpa using bx)]
 clear bB;refine aa ?_;refine K.call (ahT _ m bD (bq.ext ca) q7) ?_;rintro _ bQ ⟨rfl,aN⟩;replace ar:=aN.obj ar;replace aK:=aN.obj aK;have c7:=ca.trans aN;refine aa ?_;apply K.cond<;>intro g2
 ·rw[if_pos (.inl (by omega))] at px;rw[px,if_pos (show(11:Int)≠0 by decide)] at kE;refine aa ?_;intro cd dC dq;refine aa ?_;exact⟨by rw[kE];rfl,dC.ext c7 (by omega)⟩
 refine aa ?_;apply K.cond<;>intro g3
 ·rw[if_pos (.inr (by omega))] at px;rw[px,if_pos (show(11:Int)≠0 by decide)] at kE;refine aa ?_;intro cd dC dq;refine aa ?_;exact⟨by rw[kE];rfl,dC.ext c7 (by omega)⟩
 rw[if_neg (by omega)] at px;rw[px,if_neg (by simp[o.r6])] at kE;have acN:=ar;have acO:=aK;refine aa ?_;refine K.cR 8 m.props.length [1,2] (fun _:Unit=>[]) () (fun k _ w'=>Ext bQ w'∧∀j,j<k→o.lT m j=0) bp bp ⟨Ext.refl _,fun j h=>absurd h (Nat.not_lt_zero _)⟩ ?_;clear ar aK;rintro k _ iH cd hk ⟨bC,bL⟩;have ar:=bC.obj acN;have aK:=bC.obj acO;have dw:=c7.trans bC;refine aa ?_;apply K.cond<;>intro g4
 ·have br:k<m.props.length:=by omega
  have TO:k≤8:=by
   apply Classical.byContradiction;intro aH
   have:=o.aaJ (m:=m) (i:=8) (by omega) (bL 8 (by omega))
   omega
  refine aa ?_;refine K.call (ahV _ m k cd (bq.ext dw) aV br TO GO qa) ?_;rintro _ c9 ⟨rfl,bU⟩;replace ar:=bU.obj ar;replace aK:=bU.obj aK;refine aa ?_;apply K.cond<;>intro g5;rotate_left
  ·rw[o.V2 br bL g5] at kE;refine aa ?_;intro dF hp dm;refine aa ?_;exact⟨by rw[kE];rfl,hp.ext (dw.trans bU) (by omega)⟩
  ·refine aa ?_;refine⟨br,bf,(),trivial,bC.trans bU,fun j aI=>?_⟩;by_cases km:j=k
   ·subst km;simpa using g5
   ·exact bL j (by omega)
 ·rw[o.MF fun j aI=>bL j (by omega)] at kE;refine aa ?_;intro c9 iz c5;refine aa ?_;exact⟨by rw[kE];rfl,iz.ext dw (by omega)⟩
end Go.Proofs.R
end
section
namespace bt
open Go Go.RowKit
def sM(l:List ByteArray):List (ByteArray×Value):=l.map fun x=>(x,.bool true)
theorem aiB(l:List ByteArray)(x:ByteArray):((sM l).find? (fun p=>decide (x=p.1))).map (·.2)=if x∈l then some (.bool true) else none:=by
 induction l with
 | nil=>rfl
 | cons y l e6 =>
  simp only[sM,List.map_cons,List.find?_cons,List.mem_cons];by_cases h:x=y
  ·simp[h]
  ·simp only[h,decide_false,false_or];exact e6
structure yI(es:Array MapEntry)(c:Nat)(L:List ByteArray):Prop where
 xX:∃l,hF Value.string es.toList (sM l)∧∀x,x∈l↔x∈L
 born:∀e∈es.toList,e.born<c
 nodup:(es.toList.map (·.born)).Nodup
theorem hF.mem{l:List ByteArray}:∀{es:List MapEntry},hF Value.string es (sM l)→∀e∈es,∃x∈l,e.key = .string x∧e.val = .bool true:=by
 induction l with
 | nil=>intro es h e he;cases es with | nil=>cases he | cons _ _=>simp[hF,sM] at h
 | cons y l e6 =>
  intro es h e he;cases es with
  | nil=>cases he
  | cons f es =>
   simp only[hF,sM,List.map_cons,List.cons.injEq,Prod.mk.injEq] at h;rcases List.mem_cons.1 he with rfl | he
   ·exact⟨y,by simp,h.1.1,h.1.2⟩
   ·obtain⟨x,av,U⟩:=e6 (es:=es) h.2 e he;exact⟨x,by simp[av],U⟩
theorem hF.Ms{l:List ByteArray}:∀{es:List MapEntry},hF Value.string es (sM l)→∀x∈l,∃e∈es,e.key = .string x:=by
 induction l with
 | nil=>intro es h x av;cases av
 | cons y l e6 =>
  intro es h x av;cases es with
  | nil=>simp[hF,sM] at h
  | cons f es =>
   simp only[hF,sM,List.map_cons,List.cons.injEq,Prod.mk.injEq] at h;rcases List.mem_cons.1 av with rfl | av
   ·exact⟨f,by simp,h.1.1⟩
   ·obtain⟨e,he,U⟩:=e6 (es:=es) h.2 x av;exact⟨e,by simp[he],U⟩
theorem yI.mem{es:Array MapEntry}{c:Nat}{L:List ByteArray}(h:yI es c L):∀e∈es.toList,∃x∈L,e.key = .string x∧e.val = .bool true:=fun e he=>by
 obtain⟨l,h1,U⟩:=h.xX;obtain⟨x,av,ah⟩:=h1.mem e he;exact⟨x,(U x).1 av,ah⟩
theorem yI.Ms{es:Array MapEntry}{c:Nat}{L:List ByteArray}(h:yI es c L):∀x∈L,∃e∈es.toList,e.key = .string x:=fun x av=>by
 obtain⟨l,h1,U⟩:=h.xX;exact h1.Ms x ((U x).2 av)
theorem JP{d:TypeDesc}{k:Value}:∀{es:List MapEntry} {i j:Nat} {v:Value},Instr.findNow d k es i=some (some (j,v))→i≤j∧∃e,es[j - i]? = some e∧Instr.sameNow d k e.key=some true
 | [],i,j,v,h=>by simp[Instr.findNow] at h
 | e :: es,i,j,v,h=>by
  unfold Instr.findNow at h;split at h
  ·rename_i aG;injection h with h;injection h with h;injection h with h1 U
   subst h1;exact⟨Nat.le_refl _,e,by simp,aG⟩
  ·obtain⟨h1,e',U,ah⟩:=JP h;refine⟨by omega,e',?_,ah⟩;rw[show j - i=(j - (i+1))+1 from by omega,List.getElem?_cons_succ];exact U
  ·cases h
theorem af4{es:Array MapEntry}{j:Nat}{e:MapEntry}{f:MapEntry→MapEntry}(aI:es[j]? = some e)(aT:f e=e):es.modify j f=es:=by
 apply Array.ext_getElem?;intro i;rw[Array.getElem?_modify];by_cases h:j=i
 ·subst h;rw[if_pos rfl,aI,Option.map_some,aT]
 ·rw[if_neg h]
def fo(w:World)(b:Nat)(L:List ByteArray):Prop := ∃es c,w.heap[b]? = some (.map es c)∧yI es c L
theorem fo.of{w w':World}{b:Nat}{L:List ByteArray}(h:fo w b L)(e:w'.heap[b]? = w.heap[b]?):fo w' b L:=let ⟨es,c,h1,U⟩:=h; ⟨es,c,e.trans h1,U⟩
theorem fo.lt{w:World}{b:Nat}{L:List ByteArray}(h:fo w b L):b<w.heap.size:=let ⟨_,_,h1,_⟩:=h;cy h1
theorem fo.ext{w w':World}{b:Nat}{L:List ByteArray}(h:fo w b L)(e:Ext w w'):fo w' b L:=h.of (e.heap h.lt)
theorem fo.wr{w w':World}{b k:Nat}{L:List ByteArray}(h:fo w b L)(e:dz k w w')(hk:b≠k):fo w' b L:=h.of (e.block b hk)
theorem fo.ij{w:World}{b:Nat}{L lu:List ByteArray}(h:fo w b L)(e:∀x,x∈L↔x∈lu):fo w b lu:=by
 obtain⟨es,c,h1,⟨⟨l,U,ah⟩,aJ,bk⟩⟩:=h;exact⟨es,c,h1,⟨⟨l,U,fun x=>(ah x).trans (e x)⟩,aJ,bk⟩⟩
theorem fo.empty{w:World}{b:Nat}(h:w.heap[b]? = some (.map #[] 0)):fo w b []:=⟨_,_,h,⟨⟨[],rfl,fun _=>Iff.rfl⟩,fun e he=>by simp at he,by simp⟩⟩
theorem fo.look{w:World}{b:Nat}{L:List ByteArray}(h:fo w b L)(x:ByteArray):∃es r,pN w (.map (some b)) es∧Instr.findNow .string (.string x) es.toList 0=some r∧lG (.bool false) false r = .bool (decide (x∈L)):=by
 obtain⟨es,c,h1,⟨⟨l,U,ah⟩,_,_⟩⟩:=h;obtain⟨r,hN,ho⟩:=xb HW x es.toList _ 0 U;rw[aiB] at ho;refine⟨es,r,.inr ⟨b,c,rfl,h1⟩,hN,?_⟩;by_cases av:x∈L
 ·rw[if_pos ((ah x).2 av)] at ho;simp[lG,ho,av]
 ·rw[if_neg (fun h=>av ((ah x).1 h))] at ho;simp[lG,ho,av]
theorem fo.put{w:World}{b:Nat}{L:List ByteArray}(h:fo w b L)(x:ByteArray):∃es c q,w.heap[b]? = some (.map es c)∧Instr.findNow .string (.string x) es.toList 0=some q ∧
  ∀w':World,w'.heap[b]? = some (qf es c (.string x) (.bool true) q)→fo w' b (L++[x]):=by
 obtain⟨es,c,h1,hm⟩:=h;obtain⟨l,U,ah⟩:=hm.xX;obtain⟨r,hN,ho⟩:=xb HW x es.toList _ 0 U;refine⟨es,c,r,h1,hN,fun w' hw=>?_⟩;cases r with
 | none =>
  refine⟨_,_,hw,⟨⟨l++[x],?_,fun y=>?_⟩,?_,?_⟩⟩
  ·have:=hF.push U x (.bool true) c
   simpa[sM] using this
  ·simp[ah y]
  ·intro e he;simp only[Array.toList_push,List.mem_append,List.mem_singleton] at he;rcases he with he | rfl
   ·have:=hm.born e he;omega
   ·show c<c+1;omega
  ·simp only[Array.toList_push,List.map_append,List.map_cons,List.map_nil];rw[List.nodup_append];refine⟨hm.nodup,by simp,fun a bu gk CF=>?_⟩;obtain⟨e,he,rfl⟩:=List.mem_map.1 bu;simp only[List.mem_singleton] at CF
   have:=hm.born e he
   omega
 | some L1 =>
  obtain⟨j,v⟩:=L1;obtain⟨_,e,he,aG⟩:=JP hN;have sk:e∈es.toList:=List.mem_of_getElem? he;obtain⟨y,bS,hk,aO⟩:=hm.mem e sk;have aeP:x=y:=by rw[hk,HW] at aG;simpa using aG
  subst aeP;have aex:es.modify j (fun e=>{ e with key:=.string x,val:=.bool true })=es:=af4 (e:=e) (by simpa using he) (by cases e;simp only at hk aO;subst hk aO;rfl);have sq:w'.heap[b]? = some (.map es c):=by rw[hw];show some (Obj.map (es.modify j _) c)=_;rw[aex]
  exact⟨es,c,sq,⟨⟨l,U,fun z=>by rw[ah z];simp;rintro rfl;exact bS⟩,hm.born,hm.nodup⟩⟩
def ml(w:World)(r b:Nat)(L D:List ByteArray)(n:Nat)(cur:Option ByteArray):Prop :=
 ∃es c since seen bV,w.heap[b]? = some (.map es c)∧yI es c L∧w.heap[r]? = some (.mapIter (some b) since seen bV)∧(∀x∈es.toList,x.born<since)∧since≤bV∧since≤c∧(leftOf es seen).size=n ∧
  (∀e∈es.toList,seen.contains e.born=true→∃x∈D,e.key = .string x)∧(∀x∈D,x∈L)∧(∀x,cur=some x→∃(Nc:Array Nat) (e:MapEntry),bV=c∧seen=Nc.push e.born∧e∈es.toList∧e.key = .string x∧e.val = .bool true)
theorem ml.of{w w':World}{r b:Nat}{L D:List ByteArray}{n:Nat}{cur:Option ByteArray}(h:ml w r b L D n cur)(b2:w'.heap[b]? = w.heap[b]?)(ba:w'.heap[r]? = w.heap[r]?):ml w' r b L D n cur :=
 let ⟨es,c,since,seen,bV,h1,U,ah,aJ⟩:=h; ⟨es,c,since,seen,bV,b2.trans h1,U,ba.trans ah,aJ⟩
theorem ml.sub{w:World}{r b:Nat}{L D:List ByteArray}{n:Nat}{cur:Option ByteArray}(h:ml w r b L D n cur):∀x∈D,x∈L:=let ⟨_,_,_,_,_,_,_,_,_,_,_,_,_,U,_⟩:=h;U
theorem ml.ne{w:World}{r b:Nat}{L D:List ByteArray}{n:Nat}{cur:Option ByteArray}(h:ml w r b L D n cur):r≠b:=by
 obtain⟨es,c,since,seen,bV,h1,U,ah,aJ⟩:=h;intro e;rw[e,h1] at ah;cases ah
theorem ml.lt{w:World}{r b:Nat}{L D:List ByteArray}{n:Nat}{cur:Option ByteArray}(h:ml w r b L D n cur):r<w.heap.size:=by
 obtain⟨es,c,since,seen,bV,h1,U,ah,aJ⟩:=h;exact cy ah
theorem ml.wr{w w':World}{r b k:Nat}{L D:List ByteArray}{n:Nat}{cur:Option ByteArray}(h:ml w r b L D n cur)(e:dz k w w')(h1:b≠k)(U:r≠k):ml w' r b L D n cur:=h.of (e.block b h1) (e.block r U)
theorem aj1(k:Nat)(w:World):dz k w w.drew:=⟨rfl,rfl,rfl,rfl,fun _ _=>rfl⟩
section
variable{P:Program}{di:Value→World→Prop}{S:Fr}{w:World}{gq:World→Prop}{aE:Value→Prop}
theorem K.Vq{b:Nat}{L:List ByteArray}{x:ByteArray}{t}(h:fo w b L)(hk:aE (.bool (decide (x∈L)))):yH .string (.bool false) false (.map (some b)) (.string x) w aE t:=by
 obtain⟨es,r,h1,U,ah⟩:=h.look x;exact K.l6 h1 U (by rw[ah];exact hk)
theorem K.HC{b:Nat}{L:List ByteArray}{x:ByteArray}{t}(h:fo w b L)(hk:∀aq,dz b w aq→fo aq b (L++[x])→gq aq):wA .string (.map (some b)) (.string x) (.bool true) w gq t:=by
 obtain⟨es,c,q,h1,U,ah⟩:=h.put x;exact K.iQ h1 U (hk _ (dz.e2 w b _) (ah _ (AV (cy h1))))
theorem K.ah6{b:Nat}{L:List ByteArray}{x:Operand}{fJ k e ty:TypeId}{t}(av:bj S x = .map (some b))(aL:P.underlying fJ=some (.map k e))(h:fo w b L)
  (hk:∀aq r n,w.heap.size≤r→Ext w aq→ml aq r b L [] n none→di (.pointer (some ⟨r,0,none⟩)) aq):sZ P (.range fJ x) ty S w di t:=by
 obtain⟨es,c,h1,U⟩:=h;have iy:=run_range_map (P:=P) w fJ k e b es c aL h1;refine K.raw (v:=.pointer (some ⟨w.heap.size,0,none⟩)) (w':=w.alloc (.mapIter (some b) c #[] c)) (by simp[execOp,av,iy,Result.andThen]) ?_;refine hk _ _ _ (Nat.le_refl _) ((Ext.refl w).alloc _) ⟨es,c,c,#[],c,heap_alloc_old h1,U,heap_alloc_new w _,U.born,Nat.le_refl _,Nat.le_refl _,rfl,?_,?_,?_⟩
 ·intro e _ h;simp at h
 ·intro x av;cases av
 ·intro x av;cases av
theorem K.agq{r b n:Nat}{L D:List ByteArray}{cur:Option ByteArray}{x:Operand}{ty:TypeId}{t}(av:bj S x = .pointer (some ⟨r,0,none⟩))(h:ml w r b L D n cur)
  (ao:(∀y∈L,y∈D)→di (.tuple #[.bool false]) w)
  (h1:∀y aq hB,y∈L→hB<n→dz r w aq→ml aq r b L (D++[y]) hB (some y)→di (.tuple #[.bool true,.string y,.bool true]) aq):sZ P (.next x false) ty S w di t:=by
 have cH:=h.ne;obtain⟨es,c,since,seen,bV,aB,hm,bd,hold,k6,Lu,aH,hj,SL,_⟩:=h;rcases run_next_at (P:=P) w ty r b since bV seen es c bd aB hold k6 with ⟨bL,iy⟩ | ⟨e,he,aq,Kj,iy⟩
 ·refine K.raw (v:=.tuple #[.bool false]) (w':=w) (by simp[execOp,av,iy,Result.andThen]) (ao fun y bS=>?_);obtain⟨e,he,hk⟩:=hm.Ms y bS;obtain⟨z,Ur,sv⟩:=hj e he (all_seen es seen bL e he);rw[hk] at sv;injection sv with sv
  rw[sv];exact Ur
 ·obtain⟨KR,sf⟩:=mem_left he;obtain⟨y,bS,hk,aO⟩:=hm.mem e KR;have mJ:dz r w aq:=by
   rcases Kj with rfl | rfl
   ·exact dz.refl _ _
   ·exact aj1 r w
  have dn:aq.heap.size=w.heap.size:=mJ.size;have j6:r<aq.heap.size:=by rw[dn];exact cy bd
  have Dl:Go.ChangeMaps.setBlock aq r (.mapIter (some b) since (seen.push e.born) c)=bt.e2 aq r (.mapIter (some b) since (seen.push e.born) c):=rfl;rw[Dl] at iy;refine K.raw (v:=.tuple #[.bool true,e.key,e.val]) (w':=e2 aq r (.mapIter (some b) since (seen.push e.born) c)) (by simp[execOp,av,iy,Result.andThen]) ?_;rw[hk,aO];refine h1 y _ _ bS (Nat.lt_of_lt_of_eq (left_shrinks es seen e he) aH) (mJ.trans (dz.e2 _ _ _)) ⟨es,c,since,seen.push e.born,c,?_,hm,AV j6,hold,Lu,Lu,rfl,fun f aT aw=>?_,fun z bL=>?_,fun z bL=>?_⟩
  ·rw[Nf (Ne.symm cH)];rcases Kj with rfl | rfl<;>exact aB
  ·rw[contains_push] at aw;rcases Bool.or_eq_true_iff.1 aw with aw | aw
   ·obtain⟨x,kI,kq⟩:=hj f aT aw;exact⟨x,by simp[kI],kq⟩
   ·have zH:f.born=e.born:=by simpa using aw
    have bk:=find_born f es.toList hm.nodup aT;rw[zH,find_born e es.toList hm.nodup KR] at bk;injection bk with bk
    have:f=e:=bk.symm
    subst this;exact⟨y,by simp,hk⟩
  ·rcases List.mem_append.1 bL with bL | bL
   ·exact SL z bL
   ·simp only[List.mem_singleton] at bL;subst bL;exact bS
  ·injection bL with bL
   subst bL;exact⟨seen,e,rfl,rfl,KR,hk,aO⟩
theorem K.aaD{r b n:Nat}{L D:List ByteArray}{y:ByteArray}{x:Operand}{ty:TypeId}{t}(av:bj S x = .pointer (some ⟨r,0,none⟩))(h:ml w r b L D n (some y))
  (hk:di (.tuple #[.string y,.bool true]) w):sZ P (.entry x) ty S w di t:=by
 obtain⟨es,c,since,seen,bV,aB,hm,bd,hold,k6,Lu,aH,hj,SL,aw⟩:=h;obtain⟨Nc,e,rfl,rfl,he,xE,cT⟩:=aw y rfl;have iy:(Instr.entry (.pointer (some ⟨r,0,none⟩))).run P w = .ok (.tuple #[e.key,e.val]) w:=run_entry_at w r b since Nc es bV e bd aB he hm.nodup;refine K.raw (v:=.tuple #[e.key,e.val]) (w':=w) (by simp[execOp,av,iy,Result.andThen]) ?_;rw[xE,cT];exact hk
end
end bt
end
section
namespace Go.Proofs.R
open Go Go.RowKit bt
def uI(f:o.qA):List PanicEntry:=[{ v:=.iface T.FL (.agg #[.int .i64 f.cM,.int .i64 f.part,.int .i64 f.item,.int .i64 f.sub]),recovered:=false }]
theorem pJ(e p i s:Int)(w:World):pQ Tryz.prog F.b #[.int .i64 e,.int .i64 p,.int .i64 i,.int .i64 s] w (fun _ w'=>e=0∧w'=w) (fun c w'=>e≠0∧c=uI ⟨e,p,i,s⟩∧w'=w):=by
 refine K.EO l3 E.b (args:=[_,_,_,_]) (Nat.le_of_ble_eq_true rfl) ?_;dsimp only[C.b];refine bM ?_;refine aa ?_;refine K.cond (fun g=>?_) (fun g=>?_)
 ·refine aa ?_;exact⟨g,bf⟩
 ·refine aa ?_;exact⟨g,bf,bf⟩
theorem H9(b:Nat)(L:List ByteArray)(x:ByteArray)(p i:Int)(w:World)(h:fo w b L):pQ Tryz.prog F.jE #[.map (some b),.string x,.int .i64 p,.int .i64 i] w
  (fun _ w' => ¬x∈L∧dz b w w'∧fo w' b (L++[x])) (fun c w'=>x∈L∧c=uI ⟨7,p,i,0⟩∧w'=w):=by
 refine K.EO l3 E.jE (args:=[_,_,_,_]) (Nat.le_of_ble_eq_true rfl) ?_;dsimp only[C.jE];refine bM ?_;refine aa ?_;refine K.Vq h ?_;refine aa ?_;refine K.cond (fun g=>?_) (fun g=>?_)
 ·refine aa ?_;refine K.e3 (pJ 7 p i 0 w) ?_ ?_
  ·rintro _ _ ⟨ao,_⟩;exact absurd ao (by decide)
  ·rintro c _ ⟨_,rfl,rfl⟩;refine aa ?_;exact⟨g,bf,bf⟩
 ·refine aa ?_;refine K.HC h fun aq hw h1=>?_;refine aa ?_;exact⟨g,hw,h1⟩
end Go.Proofs.R
end
section
namespace Go.Proofs.R
open Go Go.RowKit bt
structure jm(w0 w:World)(dN bE:Nat)(cs:List Value)(w':World)(L:List ByteArray):Prop where
 ext:Ext w0 w'
 mod:Mod (fun k=>k=dN) w w'
 box:w'.heap[bE]? = some (.cells cs.toArray T.b)
 set:fo w' dN L
 low:w0.heap.size≤dN
 ne:bE≠dN
section
variable{w0 w w' b1:World}{dN bE:Nat}{cs:List Value}{L lu:List ByteArray}
theorem jm.then(h:jm w0 w dN bE cs w' L)(he:Ext w' b1):jm w0 w dN bE cs b1 L:=⟨h.ext.trans he,h.mod.trans he.mod,he.obj h.box,h.set.ext he,h.low,h.ne⟩
theorem jm.wr(h:jm w0 w dN bE cs w' L)(hw:dz dN w' b1)(aG:fo b1 dN lu):jm w0 w dN bE cs b1 lu:=⟨hw.ext h.ext h.low,h.mod.trans (hw.mod rfl),hw.obj h.box h.ne,aG,h.low,h.ne⟩
theorem jm.ij(h:jm w0 w dN bE cs w' L)(e:L=lu):jm w0 w dN bE cs w' lu:=e ▸ h
end
theorem abI{w0:World}(cs:List Value)(m:o.Model)(dN:Nat)(w:World)(h:o.dM w0 cs m)(ek:Ext w0 w)(zI:w0.heap.size≤dN)(aZ:gH w0)(aG:fo w dN []) :
  pQ Tryz.prog F.c2 #[.agg cs.toArray,.map (some dN)] w (fun _ w'=>(o.data m).cM=0∧Ext w0 w'∧Mod (fun k=>k=dN) w w'∧fo w' dN (o.l8 m m.a7.length))
   (fun c w'=>(o.data m).cM≠0∧c=uI (o.data m)∧Ext w0 w'∧Mod (fun k=>k=dN) w w'):=by
 obtain⟨cz,bV,cj,c1,cq,c2,cr,bJ,cC,bW,rfl,ao,h1,U,ah,aJ,eH,dB,dH,ee,ei⟩:=h.form;refine K.EO l3 E.c2 (args:=[_,_]) (Nat.le_of_ble_eq_true rfl) ?_;dsimp only[C.c2];refine bM ?_;refine aa ?_;intro aq bE c8 aC ar;have st1:jm w0 w dN bE _ aq []:=⟨ek.trans aC,aC.mod,ar,aG.ext aC,zI,by have:=aG.lt;omega⟩;clear aG;refine aa ?_;refine K.call (aiu _ m.scalars aq (aZ.ext st1.ext) (ao.ext st1.ext)) ?_;rintro _ aU ⟨rfl,aA⟩;replace st1:=st1.then aA;clear ar;refine aa ?_;refine K.e3 (pJ (o.scalars m.scalars).2 1 (o.scalars m.scalars).1 0 aU) ?_ ?_;rotate_left
 ·rintro c _ ⟨g,rfl,rfl⟩;refine aa ?_;rw[o.Ry g];exact⟨g,rfl,st1.ext,st1.mod⟩
 rintro _ _ ⟨cm,rfl⟩;have ar:=st1.box;refine aa ?_;refine K.cR 24 m.scalars.length [1,2,22,23] (fun _:Unit=>[]) () (fun k _ w'=>jm w0 w dN bE _ w' ((m.scalars.take k).map (·.name))) bp bp (st1.ij (by simp)) ?_;clear ar aA st1;rintro k _ S aY hk kM;have ar:=kM.box;have bz:=kM.ext;refine aa ?_;apply K.cond<;>intro g1
 ·have br:k<m.scalars.length:=by omega
  obtain⟨a,rfl⟩:=ao.addr (by omega);refine aa ?_;intro bo ch fE aF bB;have kd:=kM.then aF;refine aa ?_;refine K.HC kd.set fun bD hw xO=>?_;refine aa ?_;exact⟨br,bf,(),trivial,(kd.wr hw xO).ij (o.AZ _ _ br).symm⟩
 replace kM:=kM.ij (show _=o.qh m 0 by rw[List.take_of_length_le (by omega)];simp);refine aa ?_;refine K.call (Xy _ _ m.vars m.scalars 12 aY (aZ.ext bz) (h1.ext bz) (ao.ext bz)) ?_;rintro _ bo ⟨rfl,aF⟩;replace kM:=kM.then aF;clear ar bz;have ar:=kM.box;rw[o.ajK];refine aa ?_;refine K.cR 43 m.vars.length [1,2,4,5,41,42] (fun _:Unit=>[]) () (fun k _ w'=>jm w0 w dN bE _ w' (o.qh m k)∧∀j,j<k→o.iK m j=0) bp bp ⟨kM,fun j h=>absurd h (Nat.not_lt_zero _)⟩ ?_;clear ar kM aF;rintro k _ a8 bD hk ⟨hr,bL⟩;have ar:=hr.box;have ca:=hr.ext;refine aa ?_;apply K.cond<;>intro g1
 ·have br:k<m.vars.length:=by omega
  obtain⟨a,rfl⟩:=h1.addr (by omega);have fp:=o.AE (f:=fun x:o.Var=>x.name) br;refine aa ?_;intro A3 b9 lX lZ nS;refine eh ?_;intro bQ fy b5;have aN:=fy.ext lZ lX;have gP:=hr.then aN;replace ar:=gP.box;clear nS lZ;refine eh ?_;refine K.gK [1,2,4,5,8,9,41,42,43] (fun _:Unit=>[]) (fun _ w'=>w'=bQ∧o.mT m k=0) ?_ ?_
  ·refine aa ?_;apply K.cond<;>intro g2
   ·refine aa ?_;refine K.e3 (pJ (o.first m.vars.length (o.mT m)).2 2 k 0 bQ) ?_ ?_
    ·rintro _ _ ⟨gv,rfl⟩;refine aa ?_;exact⟨(),trivial,bf,o.tt gv k br⟩
    ·rintro c _ ⟨gv,rfl,rfl⟩;obtain⟨i,af,b2,ba⟩:=o.Sn gv;obtain rfl:k=i:=by omega
     rw[ba] at gv;have j3:o.iK m k=o.mT m k:=by unfold o.iK;rw[if_pos gv]
     have bx:=o.F9 cm br bL (by rw[j3];exact gv);rw[j3] at bx;refine aa ?_;rw[bx,ba];exact⟨gv,bf,gP.ext,gP.mod⟩
   ·refine aa ?_;refine⟨(),trivial,bf,?_⟩;apply Classical.byContradiction;intro cH;apply g2;rw[o.iu br (fun j aI=>o.Ik (bL j aI)) cH]
  rintro _ iH _ ⟨rfl,jg⟩;refine aa ?_;refine K.e3 (H9 dN (o.qh m k) m.vars[k].name 2 k _ gP.set) ?_ ?_
  ·rintro _ cd ⟨aH,dC,mH⟩;refine aa ?_;refine⟨br,bf,(),trivial,(gP.wr dC mH).ij (by simp only[o.qh,o.yb];rw[o.AZ (fun x:o.Var=>x.name) _ br,List.append_assoc]),fun j aI=>?_⟩;by_cases km:j=k
   ·subst km;unfold o.iK;rw[if_neg (by simpa using jg),fp,if_neg aH]
   ·exact bL j (by omega)
  ·rintro c _ ⟨aH,rfl,rfl⟩;have j3:o.iK m k=7:=by unfold o.iK;rw[if_neg (by simpa using jg),fp,if_pos aH]
   have bx:=o.F9 cm br bL (by rw[j3];decide);rw[j3] at bx;refine aa ?_;rw[bx];exact⟨(show(7:Int)≠0 by decide),bf,gP.ext,gP.mod⟩
 have l2:m.vars.length≤k:=by omega
 have oD:∀j,j<m.vars.length→o.iK m j=0:=fun j aI=>bL j (by omega);replace hr:=hr.ij (show _=o.l8 m 0 by simp only[o.l8,o.qh,o.yb,o.ya];rw[List.take_of_length_le l2];simp);refine aa ?_;refine K.call (ZQ _ _ m.a7 m.scalars bD (aZ.ext ca) (U.ext ca) (ao.ext ca)) ?_;rintro _ bQ ⟨rfl,aN⟩;replace hr:=hr.then aN;clear ar ca;have ar:=hr.box;rw[o.ZP];refine aa ?_;refine K.cR 71 m.a7.length [1,2,4,5,69,70] (fun _:Unit=>[]) () (fun k _ w'=>jm w0 w dN bE _ w' (o.l8 m k)∧∀j,j<k→o.jJ m j=0) bp bp ⟨hr,fun j h=>absurd h (Nat.not_lt_zero _)⟩ ?_;clear ar hr aN;rintro k _ a8 cd hk ⟨iC,bL⟩;have ar:=iC.box;have dw:=iC.ext;refine aa ?_;apply K.cond<;>intro g1
 ·have br:k<m.a7.length:=by omega
  obtain⟨a,rfl⟩:=U.addr (by omega);have fp:=o.AE (f:=fun x:o.dK=>x.name) br;refine aa ?_;intro A3 b9 lX lZ nS;refine eh ?_;intro bQ fy b5;have aN:=fy.ext lZ lX;have gP:=iC.then aN;replace ar:=gP.box;clear nS lZ;refine eh ?_;refine K.gK [1,2,4,5,10,11,69,70,71] (fun _:Unit=>[]) (fun _ w'=>w'=bQ∧o.mw m k=0) ?_ ?_
  ·refine aa ?_;apply K.cond<;>intro g2
   ·refine aa ?_;refine K.e3 (pJ (o.first m.a7.length (o.mw m)).2 3 k 0 bQ) ?_ ?_
    ·rintro _ _ ⟨gv,rfl⟩;refine aa ?_;exact⟨(),trivial,bf,o.tt gv k br⟩
    ·rintro c _ ⟨gv,rfl,rfl⟩;obtain⟨i,af,b2,ba⟩:=o.Sn gv;obtain rfl:k=i:=by omega
     rw[ba] at gv;have j3:o.jJ m k=o.mw m k:=by unfold o.jJ;rw[if_pos gv]
     have bx:=o.F7 cm oD br bL (by rw[j3];exact gv);rw[j3] at bx;refine aa ?_;rw[bx,ba];exact⟨gv,bf,gP.ext,gP.mod⟩
   ·refine aa ?_;refine⟨(),trivial,bf,?_⟩;apply Classical.byContradiction;intro cH;apply g2;rw[o.iu br (fun j aI=>o.FW (bL j aI)) cH]
  rintro _ iH _ ⟨rfl,jg⟩;refine aa ?_;refine K.e3 (H9 dN (o.l8 m k) m.a7[k].name 3 k _ gP.set) ?_ ?_
  ·rintro _ cd ⟨aH,dC,mH⟩;refine aa ?_;refine⟨br,bf,(),trivial,(gP.wr dC mH).ij (by simp only[o.l8,o.ya];rw[o.AZ (fun x:o.dK=>x.name) _ br,List.append_assoc]),fun j aI=>?_⟩;by_cases km:j=k
   ·subst km;unfold o.jJ;rw[if_neg (by simpa using jg),fp,if_neg aH]
   ·exact bL j (by omega)
  ·rintro c _ ⟨aH,rfl,rfl⟩;have j3:o.jJ m k=7:=by unfold o.jJ;rw[if_neg (by simpa using jg),fp,if_pos aH]
   have bx:=o.F7 cm oD br bL (by rw[j3];decide);rw[j3] at bx;refine aa ?_;rw[bx];exact⟨(show(7:Int)≠0 by decide),bf,gP.ext,gP.mod⟩
 have rb:m.a7.length≤k:=by omega
 refine aa ?_;refine⟨by rw[o.Rw cm oD fun j aI=>bL j (by omega)];rfl,iC.ext,iC.mod,(iC.ij ?_).set⟩;simp only[o.l8,o.ya];rw[List.take_of_length_le rb,List.take_of_length_le (Nat.le_refl _)]
end Go.Proofs.R
end
section
namespace Go.Proofs.R
open Go Go.RowKit bt
theorem jm.NG{w0 w w' b1:World}{dN bE k:Nat}{cs:List Value}{L:List ByteArray}(h:jm w0 w dN bE cs w' L)(dn:w0.heap.size≤w.heap.size)(hw:dz k w' b1)(hk:w.heap.size≤k)(h1:bE≠k)(U:dN≠k):jm w0 w dN bE cs b1 L :=
 ⟨hw.ext h.ext (Nat.le_trans dn hk),h.mod.then (hw.mod (A:=fun j=>j=k) rfl) fun i af e=>absurd e (by omega),hw.obj h.box h1,h.set.wr hw U,h.low,h.ne⟩
theorem ahd{w0:World}(cs:List Value)(m:o.Model)(dN:Nat)(w:World)(h:o.dM w0 cs m)(aV:m.cG)(ek:Ext w0 w)(zI:w0.heap.size≤dN)(aZ:gH w0)(bx:(o.data m).cM=0)(aG:fo w dN (o.l8 m m.a7.length)) :
  pQ Tryz.prog F.bJ #[.agg cs.toArray,.map (some dN)] w (fun _ w'=>(o.lg m).cM=0∧Ext w0 w'∧Mod (fun k=>k=dN) w w'∧fo w' dN (o.ig m m.procs.length))
   (fun c w'=>(o.lg m).cM≠0∧c=uI (o.lg m)∧Ext w0 w'∧Mod (fun k=>k=dN) w w'):=by
 have bq:=h;obtain⟨cz,bV,cj,c1,cq,c2,cr,bJ,cC,bW,rfl,ao,h1,U,ah,aJ,eH,dB,dH,ee,ei⟩:=h.form;have dn:=ek.size;refine K.EO l3 E.bJ (args:=[_,_]) (Nat.le_of_ble_eq_true rfl) ?_;dsimp only[C.bJ];refine bM ?_;refine aa ?_;intro aq bE c8 aC ar;have st1:jm w0 w dN bE _ aq (o.l8 m m.a7.length):=⟨ek.trans aC,aC.mod,ar,aG.ext aC,zI,by have:=aG.lt;omega⟩;have akc:=aG.lt;have fC:=cy ar;clear aG ar;refine aa ?_;refine K.AF fun aU gS alf aA fa=>?_;replace st1:=st1.then aA;have uC:fo aU gS []:=fo.empty fa;have z0:=aC.size;have z2:=uC.lt;clear fa;refine aa ?_;refine K.ah6 (b:=dN) rfl (k:=T.k) (e:=T.l) (by kernel_rfl) st1.set fun aY r n bd ax q9=>?_;replace st1:=st1.then ax;replace uC:=uC.ext ax;have z4:=aA.size;have z5:=q9.lt;refine aa ?_;refine K.yu [1,2,4,20] (fun _:List ByteArray×Nat=>[]) ([],n) (fun x w'=>jm w0 w dN bE _ w' (o.l8 m m.a7.length)∧fo w' gS x.1∧∃cur,ml w' r dN (o.l8 m m.a7.length) x.1 x.2 cur) (fun x=>x.2) bp ⟨st1,uC,_,q9⟩ ?_;clear st1 uC q9;rintro⟨D,hB⟩ S bo ⟨kd,uC,cur,q9⟩;have ar:=kd.box;refine aa ?_;refine K.agq rfl q9 (fun dP=>?_) (fun y bD jw bS cB eU TJ=>?_);rotate_left
 ·have hr:=kd.NG dn eU (by omega) (by omega) (by omega);have aio:=uC.wr eU (by omega);refine aa ?_;refine K.aaD rfl TJ ?_;refine aa ?_;refine K.HC aio fun bQ fy aip=>?_;have gP:=hr.NG dn fy (by omega) (by omega) (by omega);have adL:=TJ.wr fy (by omega) (by omega);refine aa ?_;exact⟨(D++[y],jw),trivial,⟨gP,aip,_,adL⟩,cB⟩
 have iU:fo bo gS (o.ig m 0):=uC.ij fun x=>by
  have aeB:=q9.sub;simp only[o.ig,o.vQ,List.take_zero,List.map_nil,List.append_nil];exact⟨fun av=>aeB x av,fun av=>dP x av⟩
 clear uC q9 dP;refine aa ?_;refine K.cR 30 m.procs.length [1,2,4,28,29] (fun _:Unit=>[]) () (fun k _ w'=>jm w0 w dN bE _ w' (o.l8 m m.a7.length)∧fo w' gS (o.ig m k)) bp bp ⟨kd,iU⟩ ?_;clear ar kd iU;rintro k _ a8 bD hk ⟨hr,iU⟩;have ar:=hr.box;have ca:=hr.ext;refine aa ?_;apply K.cond<;>intro g1
 ·have br:k<m.procs.length:=by omega
  obtain⟨a,rfl⟩:=ah.addr (by omega);obtain⟨_,cx,eg,aW,eL,dU⟩:=ah.at k br;obtain⟨fz,ir,rfl,iA⟩:=eL.form;obtain⟨n1,kk,rfl,lc⟩:=dU.form;replace aW:=aW.ext ca;refine aa ?_;intro bQ kX iM aN dq;have gP:=hr.then aN;replace iU:=iU.ext aN;refine aa ?_;refine K.HC iU fun cd dC air=>?_;have iC:=gP.NG dn dC (by omega) (by omega) (by omega);refine aa ?_;exact⟨br,bf,(),trivial,iC,by simp only[o.ig,o.vQ];rw[o.AZ (fun x:o.dt=>x.name) _ br,←List.append_assoc];exact air⟩
 have WM:∀{w'},fo w' gS (o.ig m k)→fo w' gS (o.ig m m.procs.length):=fun h=>h.ij fun x=>by
  simp only[o.ig,o.vQ];rw[List.take_of_length_le (by omega),List.take_of_length_le (Nat.le_refl _)]
 replace iU:=WM iU;clear WM;replace hr:=hr.ij (show _=o.ig m 0 by simp[o.ig]);refine aa ?_;refine K.cR 41 m.procs.length [1,2,4,39,40] (fun _:Unit=>[]) () (fun k _ w'=>jm w0 w dN bE _ w' (o.ig m k)∧fo w' gS (o.ig m m.procs.length)∧∀j,j<k→(o.hK m j).1=0) bp bp ⟨hr,iU,fun j h=>absurd h (Nat.not_lt_zero _)⟩ ?_;clear ar ca hr iU;rintro k _ iH bQ hk ⟨gP,iU,bL⟩;have ar:=gP.box;have c7:=gP.ext;have uN:=gP.mod.size;refine aa ?_;apply K.cond<;>intro g1
 ·have br:k<m.procs.length:=by omega
  obtain⟨a,rfl⟩:=ah.addr (by omega);obtain⟨mI,cx,eg,aW,eL,dU⟩:=ah.at k br;obtain⟨fz,ir,rfl,iA⟩:=eL.form;obtain⟨n1,kk,rfl,lc⟩:=dU.form;have nr:=aV.proc _ (List.getElem_mem br);have dZ:=o.JH br;replace aW:=aW.ext c7;refine aa ?_;intro A3 b9 lX lZ nS;refine eh ?_;intro cd dC dm;have bC:=dC.ext lZ lX;have iC:=gP.then bC;replace iU:=iU.ext bC;replace ar:=iC.box;have ann:=cy dm;have E7:=iU.lt;have dw:=iC.ext;clear nS lZ dC;refine aa ?_;apply K.cond<;>intro g2
  ·have bY:6≤k:=by omega
   rw[if_pos bY] at dZ;have lY:=o.Et br bL (by rw[dZ];decide);rw[dZ] at lY;refine aa ?_;refine K.e3 (pJ 11 4 k 0 cd) ?_ ?_
   ·rintro _ _ ⟨gv,_⟩;exact absurd gv (by decide)
   ·rintro c _ ⟨_,rfl,rfl⟩;refine aa ?_;rw[lY];exact⟨(show(11:Int)≠0 by decide),bf,dw,iC.mod⟩
  rw[if_neg (by omega)] at dZ;refine aa ?_;intro c9 bU;replace ar:=bU.obj ar;replace dm:=bU.obj dm;refine aa ?_;refine K.call (WO _ m k c9 (bq.ext (dw.trans bU)) aV) ?_;rintro _ dF ⟨⟨akO,rfl,Ha⟩,cL⟩;refine⟨cL,?_⟩;have k6:=Ha.here;obtain⟨me,E5,jB,mf,jC,lL,pK,yv,oX,yw,rfl,_⟩:=k6.form;refine aa ?_;refine K.call (ag5 m.procs[k] _ _ (o.gz m k) dF (aZ.ext (dw.trans (bU.trans cL))) ⟨mI,_,_,rfl,eL.ext (dw.trans (bU.trans cL)),dU.ext (dw.trans (bU.trans cL))⟩ k6 (aV.gz _) nr) ?_;rintro _ fe ⟨rfl,dj⟩;have RZ:=(bU.trans cL).trans dj;have yj:=iC.then RZ;replace iU:=iU.ext RZ;replace ar:=yj.box;replace dm:=(cL.trans dj).obj dm;have anm:=cy dm;have ank:=iU.lt;clear k6 Ha iC dw;have nL:=yj.ext;have e5:=o.VY m.procs[k] (o.gz m k) 140737488351232 fun c aw=>by have:=(nr.cmd c aw).cn;unfold o.dD at this;omega
  have aeJ:m.procs[k].vars.length≤140737488351232:=by have:=nr.vars;unfold o.dD at this;omega
  have np:m.procs[k].cE.length≤140737488351232:=by have:=nr.cE;unfold o.dD at this;omega
  refine aa ?_;refine K.e3 (pJ (o.gY m.procs[k] (o.gz m k)).2.2 4 k (16*(o.gY m.procs[k] (o.gz m k)).1+(o.gY m.procs[k] (o.gz m k)).2.1) fe) ?_ ?_;rotate_left
  ·rintro c _ ⟨gv,rfl,rfl⟩;rw[if_pos gv] at dZ;have lY:=o.Et br bL (by rw[dZ];exact gv);rw[dZ] at lY;refine aa ?_;rw[lY];exact⟨gv,bf,nL,yj.mod⟩
  rintro _ rH ⟨gv,rfl⟩;rw[if_neg (by simpa using gv)] at dZ;refine aa ?_;refine K.e3 (H9 dN (o.ig m k) m.procs[k].name 4 k rH yj.set) ?_ ?_;rotate_left
  ·rintro c _ ⟨aH,rfl,rfl⟩;rw[if_pos aH] at dZ;have lY:=o.Et br bL (by rw[dZ];decide);rw[dZ] at lY;refine aa ?_;rw[lY];exact⟨(show(7:Int)≠0 by decide),bf,nL,yj.mod⟩
  rintro _ fQ ⟨aH,ia,aeu⟩;rw[if_neg aH] at dZ;have H3:jm w0 w dN bE _ fQ (o.ig m (k+1)):=(yj.wr ia aeu).ij (by simp only[o.ig,o.vQ];rw[o.AZ (fun x:o.dt=>x.name) _ br,List.append_assoc]);replace iU:=iU.wr ia (by omega);replace ar:=H3.box;replace dm:=ia.obj dm (by omega);have r1:=H3.ext;have NP:=ia.size;clear yj nL;refine aa ?_;refine K.cR 74 m.procs[k].vars.length [1,2,4,8,9,39,40,41,72,73] (fun _:Unit=>[]) () (fun j _ w'=>jm w0 w dN bE _ w' (o.ig m (k+1))∧fo w' gS (o.ig m m.procs.length)∧Ext fQ w'∧∀i,i<j→o.pf m m.procs[k] i=0) bp bp ⟨H3,iU,Ext.refl _,fun j h=>absurd h (Nat.not_lt_zero _)⟩ ?_;have nR:=dm;clear H3 iU ar dm r1;rintro j _ Bw kO aI ⟨H4,iU,en,sv⟩;have ar:=H4.box;have dm:=en.obj nR;have qU:=H4.ext;refine aa ?_;apply K.cond<;>intro g3
  ·have eQ:j<m.procs[k].vars.length:=by omega
   obtain⟨cX,rfl⟩:=eL.addr (by omega);have ew:=((eL.at j eQ).cells).ext qU;have fp:=o.AE (f:=fun x:o.Var=>x.name) eQ;refine aa ?_;intro am3 aky acA TA Ku;refine eh ?_;intro mU rl acK;have gC:=rl.ext TA acA;have H5:=H4.then gC;replace iU:=iU.ext gC;replace ar:=H5.box;clear Ku TA rl;refine aa ?_;refine K.Vq iU ?_;refine aa ?_;apply K.cond<;>intro g4
   ·have tH:o.pf m m.procs[k] j=7:=by unfold o.pf;rw[fp,if_pos g4]
    rw[o.iu eQ sv (by rw[tH];decide),tH,if_pos (show(7:Int)≠0 by decide)] at dZ;have lY:=o.Et br bL (by rw[dZ];exact(show(7:Int)≠0 by decide));rw[dZ] at lY;refine aa ?_;refine K.e3 (pJ 7 4 k (16+j) mU) ?_ ?_
    ·rintro _ _ ⟨xf,_⟩;exact absurd xf (by decide)
    ·rintro c _ ⟨_,rfl,rfl⟩;refine aa ?_;rw[lY];exact⟨(show(7:Int)≠0 by decide),bf,H5.ext,H5.mod⟩
   ·refine aa ?_;refine⟨eQ,bf,(),trivial,H5,iU,en.trans gC,fun i af=>?_⟩;by_cases C4:i=j
    ·subst C4;unfold o.pf;rw[fp,if_neg g4]
    ·exact sv i (by omega)
  ·rw[o.nN fun i af=>sv i (by omega),if_neg (by simp)] at dZ;refine aa ?_;refine⟨br,bf,(),trivial,H4,iU,fun i af=>?_⟩;by_cases zP:i=k
   ·subst zP;rw[dZ]
   ·exact bL i (by omega)
 have xF:m.procs.length≤k:=by omega
 have xj:∀j,j<m.procs.length→(o.hK m j).1=0:=fun j aI=>bL j (by omega);have GO:=o.F8 bx;have qa:m.procs.length≤6:=by
  apply Classical.byContradiction;intro aH
  have:=o.Gh (i:=6) (by omega) (xj 6 (by omega))
  omega
 have q7:o.sT m:=⟨by omega,by omega,by omega,fun p aW=>by
  obtain⟨j,aI,rfl⟩:=List.mem_iff_getElem.1 aW
  have:=o.MB (o.Cj aI (xj j aI)).2.1
  omega⟩
 refine aa ?_;refine K.call (ag6 _ m bQ (bq.ext c7) q7) ?_;rintro _ cd ⟨rfl,bC⟩;have iC:=gP.then bC;replace ar:=iC.box;have px:=o.MC xj;have Dl:fo cd dN (o.ig m m.procs.length):=by
  have h:=iC.set;simp only[o.ig,o.vQ] at h ⊢;rw[List.take_of_length_le xF] at h;rw[List.take_of_length_le (Nat.le_refl _)];exact h
 refine aa ?_;apply K.cond<;>intro g2
 ·rw[if_pos (.inl (by omega))] at px;refine aa ?_;refine K.e3 (pJ 11 4 m.procs.length 0 cd) ?_ ?_
  ·rintro _ _ ⟨xf,_⟩;exact absurd xf (by decide)
  ·rintro c _ ⟨_,rfl,rfl⟩;refine aa ?_;rw[px];exact⟨(show(11:Int)≠0 by decide),bf,iC.ext,iC.mod⟩
 refine aa ?_;apply K.cond<;>intro g3
 ·rw[if_pos (.inr (by omega))] at px;refine aa ?_;refine K.e3 (pJ 11 4 m.procs.length 0 cd) ?_ ?_
  ·rintro _ _ ⟨xf,_⟩;exact absurd xf (by decide)
  ·rintro c _ ⟨_,rfl,rfl⟩;refine aa ?_;rw[px];exact⟨(show(11:Int)≠0 by decide),bf,iC.ext,iC.mod⟩
 rw[if_neg (by omega)] at px;refine aa ?_;exact⟨by rw[px];rfl,iC.ext,iC.mod,Dl⟩
theorem ahh{w0:World}(cs:List Value)(m:o.Model)(dN:Nat)(w:World)(h:o.dM w0 cs m)(aV:m.cG)(ek:Ext w0 w)(zI:w0.heap.size≤dN)(aZ:gH w0)(aG:fo w dN (o.ig m m.procs.length)) :
  pQ Tryz.prog F.bW #[.agg cs.toArray,.map (some dN)] w (fun _ w'=>(o.n2 m).cM=0∧Ext w0 w'∧Mod (fun k=>k=dN) w w')
   (fun c w'=>(o.n2 m).cM≠0∧c=uI (o.n2 m)∧Ext w0 w'∧Mod (fun k=>k=dN) w w'):=by
 have bq:=h;obtain⟨cz,bV,cj,c1,cq,c2,cr,bJ,cC,bW,rfl,ao,h1,U,ah,aJ,eH,dB,dH,ee,ei⟩:=h.form;refine K.EO l3 E.bW (args:=[_,_]) (Nat.le_of_ble_eq_true rfl) ?_;dsimp only[C.bW];refine bM ?_;refine aa ?_;intro aq bE c8 aC ar;have st1:jm w0 w dN bE _ aq (o.qg m 0):=⟨ek.trans aC,aC.mod,ar,by have:=aG.ext aC;simpa[o.qg] using this,zI,by have:=aG.lt;omega⟩;have akc:=aG.lt;have z0:=aC.size;clear aG;refine aa ?_;refine K.call (WO _ m (-1) aq (bq.ext st1.ext) aV) ?_;rintro _ aU ⟨⟨akM,rfl,js⟩,aA⟩;rw[o.HN (.inl (by decide))] at js;have k6:=js.here;obtain⟨me,E5,jB,mf,jC,lL,pK,yv,oX,yw,rfl,_⟩:=k6.form;clear k6;have st2:=st1.then aA;clear ar st1;have fC:=aA.size;refine aa ?_;intro aY db gw ax bH;have T1:=js.ext ax fC;have kM:=st2.then ax;have ar:=kM.box;clear js st2;refine aa ?_;refine K.cR 14 m.props.length [1,2,4,12,13] (fun _:Unit=>[]) () (fun k _ w'=>jm w0 w dN bE _ w' (o.qg m k)∧e7 aq (fun w=>o.fm w _ (o.ez m)) w'∧w'.heap[db]? = some (.cells (List.toArray [_,_,_,_,_,_]) T.d)∧aq.heap.size≤w'.heap.size∧∀j,j<k→o.lT m j=0) bp bp ⟨kM,T1,bH,by have:=ax.size;omega,fun j h=>absurd h (Nat.not_lt_zero _)⟩ ?_;clear ar kM T1 bH;rintro k _ S bo hk ⟨kd,mE,bH,z4,bL⟩;have ar:=kd.box;have bX:=kd.ext;refine aa ?_;apply K.cond<;>intro g1
 ·have br:k<m.props.length:=by omega
  obtain⟨a,rfl⟩:=aJ.addr (by omega);obtain⟨mI,hV,aW,gU⟩:=aJ.at k br;obtain⟨HI,ce,rfl,le⟩:=gU.form;have dZ:=o.Ck br;replace aW:=aW.ext bX;have z5:=kd.mod.size;refine aa ?_;intro A3 dY eK lZ nS;refine eh ?_;intro bD eU b5;have aM:=eU.ext lZ eK;have hr:=kd.then aM;replace mE:=mE.ext aM z4;replace bH:=aM.obj bH;replace ar:=hr.box;have ca:=hr.ext;clear nS lZ eU kd;have bx:o.lT m k≠0→o.n2 m=⟨o.lT m k,5,k,0⟩:=o.V2 br bL;refine aa ?_;apply K.cond<;>intro g2
  ·rw[if_pos (by omega)] at dZ;rw[dZ] at bx;replace bx:=bx (by decide);refine aa ?_;refine K.e3 (pJ 11 5 k 0 bD) ?_ ?_
   ·rintro _ _ ⟨gv,_⟩;exact absurd gv (by decide)
   ·rintro c _ ⟨_,rfl,rfl⟩;refine aa ?_;rw[bx];exact⟨(show(11:Int)≠0 by decide),bf,ca,hr.mod⟩
  rw[if_neg (by omega)] at dZ;refine aa ?_;refine K.call (HD m.props[k].name bD (aZ.ext ca) mI) ?_;rintro _ bQ ⟨rfl,aN⟩;have gP:=hr.then aN;replace mE:=mE.ext aN (by have:=aM.size;omega);replace bH:=aN.obj bH;replace b5:=aN.obj b5;replace ar:=gP.box;have c7:=gP.ext;clear hr;refine aa ?_;refine K.dO (fun g3=>?_) (fun g3=>?_);rotate_left
  ·rw[if_pos g3] at dZ;rw[dZ] at bx;replace bx:=bx (by decide);refine aa ?_;refine K.e3 (pJ 6 5 k 0 bQ) ?_ ?_
   ·rintro _ _ ⟨gv,_⟩;exact absurd gv (by decide)
   ·rintro c _ ⟨_,rfl,rfl⟩;refine aa ?_;rw[bx];exact⟨(show(6:Int)≠0 by decide),bf,c7,gP.mod⟩
  rw[if_neg (by rw[g3];decide)] at dZ;refine aa ?_;refine K.e3 (H9 dN (o.qg m k) m.props[k].name 5 k bQ gP.set) ?_ ?_;rotate_left
  ·rintro c _ ⟨aH,rfl,rfl⟩;rw[if_pos aH] at dZ;rw[dZ] at bx;replace bx:=bx (by decide);refine aa ?_;rw[bx];exact⟨(show(7:Int)≠0 by decide),bf,gP.ext,gP.mod⟩
  rintro _ cd ⟨aH,dC,mH⟩;rw[if_neg aH] at dZ;have iC:jm w0 w dN bE _ cd (o.qg m (k+1)):=(gP.wr dC mH).ij (by simp only[o.qg,o.Mh];rw[o.AZ (fun x:o.kg=>x.name) _ br,List.append_assoc]);replace mE:=mE.wr dC (by omega);replace bH:=dC.obj bH (by omega);replace b5:=dC.obj b5 (by omega);replace ar:=iC.box;have dw:=iC.ext;clear gP c7;refine aa ?_;refine K.call (U3 _ m.props[k].expr _ _ cd (gU.ext dw) mE.here) ?_;rintro _ c9 ⟨rfl,bU⟩;have EN:=iC.then bU;have NS:=dC.size;replace mE:=mE.ext bU (by have:=aM.size;have:=aN.size;omega);replace bH:=bU.obj bH;replace ar:=EN.box;have eX:=EN.ext;clear iC;refine aa ?_;refine K.e3 (pJ (o.kind m.props[k].expr (o.ez m)).2 5 k 0 c9) ?_ ?_;rotate_left
  ·rintro c _ ⟨gv,rfl,rfl⟩;rw[if_pos gv] at dZ;rw[dZ] at bx;replace bx:=bx gv;refine aa ?_;rw[bx];exact⟨gv,bf,eX,EN.mod⟩
  rintro _ dF ⟨gv,rfl⟩;rw[if_neg (by simpa using gv)] at dZ;refine aa ?_;apply K.cond<;>intro g4;rotate_left
  ·rw[if_pos g4] at dZ;rw[dZ] at bx;replace bx:=bx (by decide);refine aa ?_;refine K.e3 (pJ 9 5 k 0 dF) ?_ ?_
   ·rintro _ _ ⟨xf,_⟩;exact absurd xf (by decide)
   ·rintro c _ ⟨_,rfl,rfl⟩;refine aa ?_;rw[bx];exact⟨(show(9:Int)≠0 by decide),bf,eX,EN.mod⟩
  rw[if_neg (by simpa using g4)] at dZ;refine aa ?_;refine⟨br,bf,(),trivial,EN,mE,bH,by have:=aM.size;have:=aN.size;have:=bU.size;omega,fun i af=>?_⟩;by_cases zP:i=k
  ·subst zP;rw[dZ]
  ·exact bL i (by omega)
 refine aa ?_;exact⟨by rw[o.MF fun j aI=>bL j (by omega)];rfl,bX,kd.mod⟩
end Go.Proofs.R
end
section
namespace bt
open Go Go.RowKit
structure yB where
 n:Nat
 res:List lN
 pre:e1
 b7:List Step
 fn:Operand
 rest:e1
def Jy(ak:Oper):Option Operand :=
 match ak.guard,ak.dst,ak.op with
 | none,none,.defer ⟨.value x,args,_⟩=>match args.toList with | []=>some x | _=>none
 | _,_,_=>none
def Rm(P:Program)(fn:Func):Code→Option yB
 | .seq a (.seq (.region _ ops false) c) =>
  match ops.toList.getLast?.bind Jy,comp P fn.ntmps a,oz P fn.ntmps ops ops.toList.dropLast,comp P fn.ntmps c,vb P fn.results.toList with
  | some x,some ns,some b7,some lc,some r=>some ⟨fn.ntmps,r,ns,b7,x,lc⟩
  | _,_,_,_,_=>none
 | _=>none
def F1(P:Program)(f:FuncId):Option yB :=
 match P.funcs[f]? with
 | some fn=>match fn.body with | some c=>Rm P fn c | none=>none
 | none=>none
def rJ(P:Program)(f:FuncId)(cap:Array Value)(u:FrameMode)(w:World)(R:World→Prop):Prop :=
 CallsD P f cap u w fun e jz w'=>(∃v,e = .returned v)∧settle jz = .returning∧R w'
def Cf(P:Program)(res:List lN)(f:FuncId)(cap:Array Value)(R:Value→World→Prop):dS→Fr→World→Prop
 | .normal,S,w=>rJ P f cap .returning w fun w'=>oc res S w' fun vs=>R (gn vs) w'
 | .ret,S,w=>rJ P f cap .returning w fun w'=>oc res S w' fun vs=>R (gn vs) w'
 | .exit _,_,_=>False
 | .fA c,S,w=>rJ P f cap (.panicking c) w fun w'=>oc res S w' fun vs=>R (gn vs) w'
def ajN(P:Program)(L:yB)(R:Value→World→Prop)(S:Fr)(w:World):Prop :=
 eg P L.pre (sQ (fun S w=>steps P L.b7 S w fun S w => ∃f cap,bj S L.fn = .func (.func f) #[] cap∧okF P f=true∧eg P L.rest (Cf P L.res f cap R) S w) (fun _ _ _=>False)) S w
theorem aae{ak:Oper}{x:Operand}(h:Jy ak=some x):∃ty pos after mc,ak=⟨none,.defer ⟨.value x,#[],mc⟩,ty,pos,after,none⟩:=by
 obtain⟨dst,op,ty,pos,after,guard⟩:=ak;unfold Jy at h;split at h
 ·rename_i h1 U ah;simp only at h1 U ah;split at h
  ·rename_i aJ;injection h with h
   have bk:=Array.toList_eq_nil_iff.1 aJ;subst h1 U ah h bk;exact⟨_,_,_,_,rfl⟩
  ·cases h
 ·cases h
theorem aaE{P:Program}{f:FuncId}{L:yB}(hm:P.follows .mixedOrders=true)(aw:F1 P f=some L){args:List Value}{w:World}{R:Value→World→Prop}(bu:args.length≤L.n)
  (h:ajN P L R (hL args 0) w):bw P f args.toArray w R:=by
 unfold F1 at aw;split at aw
 ·rename_i fn j4;split at aw
  ·rename_i c aB;unfold Rm at aw;split at aw
   ·rename_i a id ops kj;split at aw
    ·rename_i x ns b7 lc r h1 U ah aJ bk;injection aw with aw;subst aw
     obtain⟨ak,aZ,av⟩:=Option.bind_eq_some_iff.1 h1;obtain⟨ty,pos,after,mc,rfl⟩:=aae av;have adY:ops.toList=ops.toList.dropLast++[⟨none,.defer ⟨.value x,#[],mc⟩,ty,pos,after,none⟩]:=by
      have cH:ops.toList≠[]:=by intro e;rw[e] at aZ;cases aZ
      rw[List.getLast?_eq_some_getLast cH] at aZ;injection aZ with aZ
      rw[←aZ,List.dropLast_concat_getLast cH]
     have fin:∀(g:FuncId) (cap:Array Value) (S:Fr) (cX:Act) (w':World) (u:FrameMode),u≠.run→okF P g=true→Fits [{ target:=.fn (.func g) cap,args:=#[] }] cX S fn.ntmps→rJ P g cap u w' (fun w'=>oc r S w' fun vs=>R (gn vs) w') →
       Leaves P fn cX.tmps (fun e w' => ∃v,e = .returned v∧R v w') cX.defers u w':=by
      intro g cap S cX w' u hu dA aT a1;rw[aT.1];refine leaves_cons hu (f:=g) (args:=cap) (by simp[invoke,ED dA]) (CallsD.mono a1 ?_);rintro e jz b1 ⟨⟨v,rfl⟩,aG,bd⟩;simp only[aG];obtain⟨vs,bY,cO⟩:=qq aT _ _ _ bk bd;exact⟨_,uz bY,_,rfl,cO⟩
     refine calls_of_wp_defers j4 aB ((wpIn_wide (n:=0)).1 ?_);refine wpIn_seq (wpIn_mono (sound (ds:=[]) (r:=none) (m:=0) hm a ns U _ _ (hL args 0) w (JS bu) h) fun e cX w' aR=>?_);cases e with
     | normal =>
      obtain⟨S,aT,aR⟩:=aR;refine wpIn_seq (wpIn_region_list ?_);rw[adY];refine wb (r:=none) (tl:=[_]) ?_ ?_ _ b7 cX S w' ah aT aR
      ·rintro a2 iH aU nV ⟨g,cap,he,dA,aO⟩;have hw:Region.wanted (⟨none,.defer ⟨.value x,#[],mc⟩,ty,pos,after,none⟩:Oper) (yielded ops a2.tmps)=true:=rfl;simp only[wpListIn,hw,if_true];have iy:∀ρ:Operand→Value,ρ x = .func (.func g) #[] cap→((⟨none,.defer ⟨.value x,#[],mc⟩,ty,pos,after,none⟩:Oper).semAt none ρ).run P aU = .ok (.defer { target:=.fn (.func g) cap,args:=#[] }) aU:=by
        intro ρ aeS;simp[Oper.semAt,execOp,resolve,Deferred.ofValue,aeS,go_sem]
       refine⟨fun _ _=>trivial,?_⟩;rw[show(mi none).round=none from rfl,iy a2.eval (by rw[nV.eval];exact he)];have adw:Fits [{ target:=.fn (.func g) cap,args:=#[] }] ({ a2 with defers:={ target:=.fn (.func g) cap,args:=#[] } :: a2.defers }:Act) iH fn.ntmps:=⟨by rw[nV.1],nV.2⟩;refine wpIn_mono (sound (ds:=[{ target:=.fn (.func g) cap,args:=#[] }]) (r:=none) (m:=0) hm kj lc aJ _ _ iH aU adw aO) fun e a4 bo aR=>?_;cases e with
       | normal=>obtain⟨pR,oK,aR⟩:=aR;exact fin g cap pR a4 bo .returning (by simp) dA oK aR
       | ret=>obtain⟨pR,oK,aR⟩:=aR;exact fin g cap pR a4 bo .returning (by simp) dA oK aR
       | exit i=>obtain⟨pR,oK,aR⟩:=aR;exact aR.elim
       | panic rW=>obtain⟨pR,oK,aR⟩:=aR;exact fin g cap pR a4 bo (.panicking rW) (by simp) dA oK aR
       | _=>exact aR.elim
      ·rintro⟨_,_,av⟩;obtain⟨_,h1,_⟩:=av;cases h1
     | ret=>obtain⟨S,aT,aR⟩:=aR;exact aR.elim
     | exit i=>obtain⟨S,aT,aR⟩:=aR;exact aR.elim
     | panic rW=>obtain⟨S,aT,aR⟩:=aR;exact aR.elim
     | _=>exact aR.elim
    ·cases aw
   ·cases aw
  ·cases aw
 ·cases aw
structure Bo where
 n:Nat
 res:List lN
 d:Nat
 e:Nat
 rest:e1
def MV(ak:Oper):Option Nat :=
 match ak.guard,ak.op,ak.dst with
 | none,.call ⟨.builtin .recover,args,_⟩,some d=>match args.toList with | []=>some d | _=>none
 | _,_,_=>none
def I1(ak:Oper):Option (Nat×Nat) :=
 match ak.guard,ak.op,ak.dst with
 | none,.assign (.tmp d),some e=>some (d,e)
 | _,_,_=>none
def Rn(P:Program)(fn:Func):Code→Option Bo
 | .seq (.region _ ops false) c =>
  match ops.toList with
  | [cj,cq]=>match MV cj,I1 cq,comp P fn.ntmps c,vb P fn.results.toList with
   | some d,some (tf,e),some lc,some r=>if d=tf∧d<fn.ntmps∧e<fn.ntmps then some ⟨fn.ntmps,r,d,e,lc⟩ else none
   | _,_,_,_=>none
  | _=>none
 | _=>none
def F2(P:Program)(f:FuncId):Option Bo :=
 match P.funcs[f]? with
 | some fn=>match fn.body with | some c=>Rn P fn c | none=>none
 | none=>none
def oa:FrameMode→Value×FrameMode
 | .panicking ({ v,recovered:=false,goexit:=false } :: agC)=>(v,.panicking ({ v,recovered:=true } :: agC))
 | u=>(.nilIface,u)
theorem ahM(c:Frame)(cs:List Frame):(match recoverD (c :: cs) with | some (v,jc)=>(v,jc) | none=>(.nilIface,c :: cs))=((oa c.mode).1,{ c with mode:=(oa c.mode).2 } :: cs):=by
 obtain⟨fn,tmps,todo,defers,mode,kind,ro⟩:=c;unfold recoverD oa;cases mode with
 | run=>rfl
 | returning=>rfl
 | panicking l =>
  cases l with
  | nil=>rfl
  | cons p r =>
   obtain⟨v,rc,ge⟩:=p;cases rc<;>cases ge<;>rfl
theorem ahK{ak:Oper}{d:Nat}(h:MV ak=some d):∃mc ty pos after,ak=⟨some d,.call ⟨.builtin .recover,#[],mc⟩,ty,pos,after,none⟩:=by
 obtain⟨dst,op,ty,pos,after,guard⟩:=ak;unfold MV at h;split at h
 ·rename_i h1 U ah;simp only at h1 U ah;split at h
  ·rename_i aJ;injection h with h
   have bk:=Array.toList_eq_nil_iff.1 aJ;subst h1 U ah h bk;exact⟨_,_,_,_,rfl⟩
  ·cases h
 ·cases h
theorem YJ{ak:Oper}{d e:Nat}(h:I1 ak=some (d,e)):∃ty pos after,ak=⟨some e,.assign (.tmp d),ty,pos,after,none⟩:=by
 obtain⟨dst,op,ty,pos,after,guard⟩:=ak;unfold I1 at h;split at h
 ·rename_i h1 U ah;simp only at h1 U ah;injection h with h
  injection h with bk bY
  subst h1 U ah bk bY;exact⟨_,_,_,rfl⟩
 ·cases h
theorem aaF{P:Program}{f:FuncId}{L:Bo}(hm:P.follows .mixedOrders=true)(aw:F2 P f=some L){args:List Value}{u:FrameMode}{w:World}{R:Value→World→Prop}(bu:args.length≤L.n)
  (h:eg P L.rest (Ce L.res R) (cc (cc (hL args 0) L.d (oa u).1) L.e (oa u).1) w):CallsD P f args.toArray u w fun e jz w'=>jz=(oa u).2∧∃v,e = .returned v∧R v w':=by
 unfold F2 at aw;split at aw
 ·rename_i fn j4;split at aw
  ·rename_i c aB;unfold Rn at aw;split at aw
   ·rename_i id ops kj;split at aw
    ·rename_i cj cq Dg;split at aw
     ·rename_i d tf e lc r h1 U ah aJ;split at aw
      ·rename_i adl;obtain⟨adk,bx,he⟩:=adl;subst adk;injection aw with aw;subst aw
       obtain⟨mc,ajw,ahb,Yz,rfl⟩:=ahK h1;obtain⟨ajx,ahc,YA,rfl⟩:=YJ U;refine callsD_of_wpS j4 aB fun zl cs hu=>?_;refine wpS_seq (wpS_region ?_);have dn:ops.size=2:=by rw[←Array.length_toList,Dg];rfl
       have GY:ops[0]? = ops.toList[0]? := by simp
       have xB:ops[1]? = ops.toList[1]? := by simp
       rw[Dg] at GY xB;simp only[List.getElem?_cons_zero,List.getElem?_cons_succ] at GY xB;have bd:List.range ops.size=[0,1]:=by rw[dn];rfl
       rw[bd];have aer:∀(ρ:Operand→Value),(execOp ρ ⟨some d,.call ⟨.builtin .recover,#[],mc⟩,ajw,ahb,Yz,none⟩).run P w = .ok .recover w:=by
        intro ρ;simp[execOp,resolve,invoke,builtin,go_sem]
       have Hi:∀(dst:Option Nat) (op:Op) (ty:TypeId) (pos:String) (after:Array Edge) (y:Nat→Option Bool),Region.wanted (⟨dst,op,ty,pos,after,none⟩:Oper) y=true:=fun _ _ _ _ _ _=>rfl;have adv:=JS (n:=fn.ntmps) bu;have key:∀(v:Value) (jc:List Frame),eg P lc (Ce r R) (cc (cc (hL args 0) d v) e v) w→(jc = { zl with mode:=(oa u).2 } :: cs) →
         wpOpsS P ops (Exit.thenS (kj.wpS P (bodyPostS P fn zl cs fun e jz w'=>jz=(oa u).2∧∃v,e = .returned v∧R v w')) (bodyPostS P fn zl cs fun e jz w'=>jz=(oa u).2∧∃v,e = .returned v∧R v w')) [1]
          (({ tmps:=args.toArray++Array.replicate (fn.ntmps - args.toArray.size) undef,defers:=[] }:Act).put (some d) v) jc w:=by
        intro v jc aO iN;have GW:=adv.put (d:=some d) (by simpa[vd] using bx) v;have av:(execOp (({ tmps:=args.toArray++Array.replicate (fn.ntmps - args.toArray.size) undef,defers:=[] }:Act).put (some d) v).eval ⟨some e,.assign (.tmp d),ajx,ahc,YA,none⟩).run P w = .ok (.value v) w:=by
         rw[GW.eval];simp[execOp,bj,bt.put,cc]
        simp only[wpOpsS,xB,Hi,if_true,av];rw[Oper.upon_value];have nV:=GW.put (d:=some e) (by simpa[vd] using he) v;refine wpS_of_wp ((wpIn_wide (n:=0)).1 (wpIn_mono (sound (ds:=[]) (r:=none) (m:=0) hm kj lc ah _ _ _ w nV aO) fun x a4 bo aR=>?_));cases x with
        | normal =>
         obtain⟨pR,oK,aR⟩:=aR;obtain⟨vs,bY,cO⟩:=qq oK _ _ _ aJ aR;exact⟨oK.1,_,iN,_,uz bY,rfl,_,rfl,cO⟩
        | ret =>
         obtain⟨pR,oK,aR⟩:=aR;obtain⟨vs,bY,cO⟩:=qq oK _ _ _ aJ aR;exact⟨oK.1,_,iN,_,uz bY,rfl,_,rfl,cO⟩
        | exit i=>obtain⟨pR,oK,aR⟩:=aR;exact aR.elim
        | panic rW=>obtain⟨pR,oK,aR⟩:=aR;exact aR.elim
        | _=>exact aR.elim
       have py:=ahM zl cs;rw[hu] at py;unfold wpOpsS;simp only[GY,Hi,if_true,aer];cases Hd:recoverD (zl :: cs) with
       | none =>
        rw[Hd] at py;injection py with b2 ba
        exact key .nilIface (zl :: cs) (by rw[b2];exact h) ba
       | some ajM =>
        obtain⟨v,jc⟩:=ajM;rw[Hd] at py;injection py with b2 ba
        exact key v jc (by rw[b2];exact h) ba
      ·cases aw
     ·cases aw
    ·cases aw
   ·cases aw
  ·cases aw
 ·cases aw
end bt
namespace bt
open Go Go.RowKit
def Iz(P:Program)(v:Value)(K:FuncId→Array Value→Prop):Prop := ∃f cap,v = .func (.func f) #[] cap∧okF P f=true∧K f cap
section
variable{P:Program}{S:Fr}{w:World}{res:List lN}{R:Value→World→Prop}
theorem K.ai5{f:FuncId}{L:yB}(hm:P.follows .mixedOrders=true)(aw:F1 P f=some L){args:List Value}(bu:args.length≤L.n)
  (h:dR P L.pre (hb (fun S w=>jy P L.b7 S w (fun S w=>Iz P (bj S L.fn) fun g cap=>dR P L.rest (Cf P L.res g cap R) S w ⟨⟩) ⟨⟩) (fun _ _ _=>False) ⟨⟩) (hL args 0) w ⟨⟩):bw P f args.toArray w R:=by
 refine aaE hm aw bu ?_;unfold dR hb jy Iz at h;exact h
theorem K.defer{g:FuncId}{cap:Array Value}{K:FuncId→Array Value→Prop}(dA:okF P g=true)(h:K g cap):Iz P (.func (.func g) #[] cap) K:=⟨g,cap,rfl,dA,h⟩
theorem K.aaj{g:FuncId}{cap:Array Value}(h:rJ P g cap .returning w fun w'=>ik res S w' (fun vs=>R (gn vs) w') ⟨⟩):Cf P res g cap R .ret S w:=by
 unfold ik at h;exact h
theorem K.aai{g:FuncId}{cap:Array Value}{c:List PanicEntry}(h:rJ P g cap (.panicking c) w fun w'=>ik res S w' (fun vs=>R (gn vs) w') ⟨⟩):Cf P res g cap R (.fA c) S w:=by
 unfold ik at h;exact h
theorem rJ.of{g:FuncId}{cap:Array Value}{u yp:FrameMode}{Bs Bt:World→Prop}(h:CallsD P g cap u w fun e jz w'=>jz=yp∧∃v,e = .returned v∧Bs w')(aG:settle yp = .returning)(hk:∀w',Bs w'→Bt w'):rJ P g cap u w Bt :=
 CallsD.mono h fun e jz w' ⟨h1,v,U,ah⟩=>⟨⟨v,U⟩,by rw[h1];exact aG,hk _ ah⟩
theorem K.Xc{f:FuncId}{L:Bo}(hm:P.follows .mixedOrders=true)(aw:F2 P f=some L){args:List Value}{u:FrameMode}(bu:args.length≤L.n)
  (h:dR P L.rest (qW L.res R ⟨⟩) (cc (cc (hL args 0) L.d (oa u).1) L.e (oa u).1) w ⟨⟩):CallsD P f args.toArray u w fun e jz w'=>jz=(oa u).2∧∃v,e = .returned v∧R v w':=by
 refine aaF hm aw bu ?_;unfold dR qW at h;exact h
theorem WC(d:Nat){t:TypeId}{ms:Array (String×TypeId)}(h:P.underlying t=some (.interface ms))(w:World):(Op.equalIn (d+1) t .nilIface .nilIface).run P w = .ok true w∧∀T v,(Op.equalIn (d+1) t (.iface T v) .nilIface).run P w = .ok false w:=by
 constructor
 ·simp[Op.equalIn,run_underlying h]
 ·intro T v;simp[Op.equalIn,run_underlying h]
theorem UA{t:TypeId}(h:(P.underlying t).map vI=some true):∃ms,P.underlying t=some (.interface ms):=by
 obtain⟨d,bx,af⟩:=Option.map_eq_some_iff.1 h;cases d<;>first | exact⟨_,bx⟩ | (simp[vI] at af;done)
theorem K.age{fJ:TypeId}{x:Operand}{v:Value}{aE:Value→Prop}{t}(h:(P.underlying fJ).map vI=some true)(hk:aE (.bool false)):gj P .neq fJ x (.const v) .nilIface .nilIface aE t :=
 K.bin (v:=.bool false) (fun w=>by
  obtain⟨ms,h⟩:=UA h;have h1:=(WC 9999 h w).1;have U:(Op.equalIn Op.maxDepth fJ .nilIface .nilIface).run P w = .ok true w:=h1;cases x<;>simp[eqGuard,binOp,Op.equal,go_sem,U,Result.andThen]) hk
theorem K.agf{fJ T:TypeId}{x y:Operand}{v:Value}{aE:Value→Prop}{t}(h:(P.underlying fJ).map vI=some true)(hk:aE (.bool true)):gj P .neq fJ x y (.iface T v) .nilIface aE t :=
 K.bin (v:=.bool true) (fun w=>by
  obtain⟨ms,h⟩:=UA h;have U:(Op.equalIn Op.maxDepth fJ (.iface T v) .nilIface).run P w = .ok false w:=(WC 9999 h w).2 T v;simp[eqGuard,binOp,Op.equal,go_sem,U,Result.andThen]) hk
theorem K.YK{x:Operand}{XN T ty:TypeId}{v:Value}{di:Value→World→Prop}{t}(av:bj S x = .iface T v)(h:(P.underlying T).map vI=some false)(hk:di (.tuple #[v,.bool true]) w):sZ P (.typeAssert x XN T true) ty S w di t:=by
 refine K.raw (v:=.tuple #[v,.bool true]) (w':=w) ?_ hk;obtain⟨d,bx,af⟩:=Option.map_eq_some_iff.1 h;have h1:(Instr.typeAssert (.iface T v) XN T true).run P w = .ok (.tuple #[v,.bool true]) w:=by
  cases d<;>first | (simp[vI] at af;done) | (simp[Instr.typeAssert,run_underlying bx])
 simp[execOp,av,h1,Result.andThen]
end
end bt
end
section
namespace Go.Proofs.R
open Go bt Go.Proofs
abbrev F.u:FuncId:=75
def OD.j:yB:=⟨16,[.ja 4 2], (.bF [ay 1 (.box T.b (ab 0)),ay 2 (.new T.v (.agg #[an,an,an,an]))]),
 [bh 4 (.jv F.u [] [(ab 2)])],(ab 4), (J [ay 5 .rp,I 3 5] (.seq (.e3 [a6 6 5 1,I 7 3] (some 8) F.c2 [(ab 6),(ab 7)]) (.seq (.e3 [a6 9 5 1,I 10 3] (some 11) F.bJ [(ab 9),(ab 10)]) (.seq (.e3 [a6 12 5 1,I 13 3] (some 14) F.bW [(ab 12),(ab 13)]) (J [bh 15 (.cP [an,an,an,an] [(0,1),(1,1),(2,1),(3,1)] []),cf 4 2 15] .ret)))))⟩
theorem XX.j:F1 Tryz.prog F.j=some OD.j:=by kernel_rfl
def Iy.u:Bo:=⟨17,[],4,1, (J [I 5 1,bh 6 (.bin .neq T.nf (ab 5) (.const .nilIface))] (aD 6 (J [I 8 1,ay 9 (.raw (.typeAssert (ab 8) T.nf T.FL true) T.a2),I 7 9,bZ 10 7 0,bZ 11 7 1,ay 2 (.new T.FL (.agg #[an,an,an,an])),cf 4 2 10,I 3 11] (.seq (J [I 12 3,bh 13 (.un .not (ab 12))] (aD 13 (.ql [I 14 1] (ab 14)) .skip)) (.bF [ag 15 0 2,a6 16 4 15,cf 4 0 16]))) .skip))⟩
theorem OG.u:F2 Tryz.prog F.u=some Iy.u:=by kernel_rfl
end Go.Proofs.R
end
section
namespace o
theorem ahi{m:Model}(h:(n2 m).cM=0):n2 m=r6:=MF (HM h)
end o
namespace Go.Proofs.R
open Go Go.RowKit bt
theorem ZU(b:Nat)(w:World):CallsD Tryz.prog F.u #[.pointer (some ⟨b,0,none⟩)] .returning w fun e jz w'=>jz = .returning∧∃v,e = .returned v∧w'=w:=by
 refine K.Xc l3 OG.u (args:=[_]) (Nat.le_of_ble_eq_true rfl) ?_;dsimp only[Iy.u];refine bM ?_;dsimp only[oa];refine aa ?_;refine K.age (by kernel_rfl) ?_
 (repeat' first
 | assumption
 | exact Ext.refl _
 | refine Ext.trans ?_ (by assumption)
 | refine K.wrap (by omega) ?_
 | refine K.sB (by assumption) ?_ rfl ?_
 | refine K.qd (by assumption) ?_ rfl ?_
 | refine K.ud (by assumption) ?_ (by omega) rfl ?_
 | refine K.ue (by assumption) ?_ (by omega) rfl ?_
 | refine K.uc (by assumption) ?_ (by omega) rfl ?_
 | refine K.tX (by omega) ?_
 | refine K.rZ (by first | assumption | omega) ?_
 | refine K.td (by first | assumption | omega) ?_
 | refine K.pX (by assumption) ?_
 | refine K.qR (by assumption) ?_
 | simp -dsimp only[c6,cA,Nat.reduceAdd,Nat.reduceEqDiff,reduceIte,reduceCtorEq,de])
theorem ZT(f:o.qA)(b:Nat)(w:World)(aB:w.heap[b]? = some (.cells #[.int .i64 0,.int .i64 0,.int .i64 0,.int .i64 0] T.v)) :
  CallsD Tryz.prog F.u #[.pointer (some ⟨b,0,none⟩)] (.panicking (uI f)) w fun e jz w'=>jz=(oa (.panicking (uI f))).2∧∃v,e = .returned v ∧
   (w'.heap[b]? = some (.cells #[.int .i64 f.cM,.int .i64 f.part,.int .i64 f.item,.int .i64 f.sub] T.v)∧∀w0,Ext w0 w→w0.heap.size≤b→Ext w0 w'):=by
 refine K.Xc l3 OG.u (args:=[_]) (Nat.le_of_ble_eq_true rfl) ?_;dsimp only[Iy.u];refine bM ?_;dsimp only[oa,uI];refine aa ?_;refine K.agf (by kernel_rfl) ?_;refine aa ?_;refine K.YK rfl (by kernel_rfl) ?_;refine aa ?_;intro aq bE c8 aC ar;have E8:=cy aB;replace aB:=aC.obj aB;refine aa ?_;intro aU sq aK;refine aa ?_;exact⟨aK,fun w0 e a1=>sq.ext (e.trans aC) a1⟩
theorem AA(cs:List Value)(m:o.Model)(w:World)(h:o.dM w cs m)(aV:m.cG)(aZ:gH w) :
  bw Tryz.prog F.j #[.agg cs.toArray] w fun v w'=>v = .agg #[.int .i64 (o.check m).cM,.int .i64 (o.check m).part,.int .i64 (o.check m).item,.int .i64 (o.check m).sub]∧Ext w w':=by
 obtain⟨cz,bV,cj,c1,cq,c2,cr,bJ,cC,bW,rfl,_⟩:=h.form;refine K.ai5 l3 XX.j (args:=[_]) (Nat.le_of_ble_eq_true rfl) ?_;dsimp only[OD.j];refine bM ?_;refine aa ?_;intro aq bE c8 aC ar;refine aa ?_;intro aU cp dT aA aK;replace ar:=aA.obj ar;have fC:=cy ar;have z5:=cy aK;refine aa ?_;refine K.defer (by kernel_rfl) ?_;refine aa ?_;refine K.AF fun aY dN zI ax h9=>?_;replace ar:=ax.obj ar;replace aK:=ax.obj aK;have z2:=cy aK;have z3:=aA.size;have z4:=aC.size;have bz:=(aC.trans aA).trans ax;have Jh:∀(f:o.qA) (w':World) (S:Fr),Ext w w'→w'.heap[cp]? = some (.cells #[.int .i64 0,.int .i64 0,.int .i64 0,.int .i64 0] T.v)→S 2 = .pointer (some ⟨cp,0,none⟩)→f=o.check m →
   Cf Tryz.prog [.ja 4 2] F.u #[.pointer (some ⟨cp,0,none⟩)] (fun v w'=>v = .agg #[.int .i64 (o.check m).cM,.int .i64 (o.check m).part,.int .i64 (o.check m).item,.int .i64 (o.check m).sub]∧Ext w w') (.fA (uI f)) S w':=by
  rintro f w' S e aw cm rfl;refine K.aai (rJ.of (ZT (o.check m) cp w' aw) rfl ?_);rintro bo ⟨aB,he⟩;simp -dsimp only[c6,cA,Nat.reduceAdd,Nat.reduceEqDiff,reduceIte,reduceCtorEq,de,cm];refine K.gX aB (Ext.refl _) rfl ?_;simp -dsimp only[c6,cA,Nat.reduceAdd,Nat.reduceEqDiff,reduceIte,reduceCtorEq,de];exact⟨bf,he _ e (by omega)⟩
 refine aa ?_;refine K.e3 (abI _ m dN aY h bz (by omega) aZ (fo.empty h9)) ?_ ?_;rotate_left
 ·rintro c bo ⟨h1,rfl,bX,m4⟩;refine aa ?_;exact Jh _ bo _ bX (m4.obj (by omega) aK) rfl (by rw[o.check,if_pos h1])
 rintro _ bo ⟨h1,bX,m4,pF⟩;replace ar:=m4.obj (by omega) ar;replace aK:=m4.obj (by omega) aK;refine aa ?_;refine K.e3 (ahd _ m dN bo h aV bX (by omega) aZ h1 pF) ?_ ?_;rotate_left
 ·rintro c bD ⟨U,rfl,ca,m5⟩;refine aa ?_;exact Jh _ bD _ ca (m5.obj (by omega) aK) rfl (by rw[o.check,if_neg (by simpa using h1),if_pos U])
 rintro _ bD ⟨U,ca,m5,pG⟩;replace ar:=m5.obj (by omega) ar;replace aK:=m5.obj (by omega) aK;refine aa ?_;refine K.e3 (ahh _ m dN bD h aV ca (by omega) aZ pG) ?_ ?_;rotate_left
 ·rintro c bQ ⟨ah,rfl,c7,m6⟩;refine aa ?_;exact Jh _ bQ _ c7 (m6.obj (by omega) aK) rfl (by rw[o.check,if_neg (by simpa using h1),if_neg (by simpa using U)])
 rintro _ bQ ⟨ah,c7,m6⟩;replace ar:=m6.obj (by omega) ar;replace aK:=m6.obj (by omega) aK;have kE:o.check m=o.r6:=by rw[o.check,if_neg (by simpa using h1),if_neg (by simpa using U),o.ahi ah]
 refine aa ?_;intro cd dC dq;refine aa ?_;refine K.aaj (rJ.of (ZU cp cd) rfl ?_);rintro _ rfl;refine aa ?_;exact⟨by rw[kE];rfl,dC.ext c7 (by omega)⟩
end Go.Proofs.R
end
section
namespace o
open Go
def dJ.enc(b:dJ):List Value:=[.int .i64 b.bA,.int .i64 b.af,.int .i64 b.kind]
def Cell.slot(x:Cell):List Value:=[.int .i64 x.sort,.int .i64 x.uL,.int .i64 x.place,.int .i64 x.kind]
def Cell.enc(x:Cell):List Value:=[.int .i64 x.sort,.int .i64 x.uL,.int .i64 x.place,.int .i64 x.bA,.int .i64 x.af,.int .i64 x.kind]
theorem u1:∀(y:dJ),∀u∈y.enc,u.oneCell'=true:=by intro y u hu;simp[dJ.enc] at hu;rcases hu with rfl | rfl | rfl<;>rfl
theorem aiO:∀(y:Cell),∀u∈y.slot,u.oneCell'=true:=by intro y u hu;simp[Cell.slot] at hu;rcases hu with rfl | rfl | rfl | rfl<;>rfl
theorem BO:∀(y:Cell),∀u∈y.enc,u.oneCell'=true:=by intro y u hu;simp[Cell.enc] at hu;rcases hu with rfl | rfl | rfl | rfl | rfl | rfl<;>rfl
end o
namespace Go.Proofs.R
open Go Go.RowKit bt
theorem afL(k:Int)(w:World)(h:o.eM (k+1)):bw Tryz.prog F.fR #[.int .i64 k] w fun v w'=>v = .int .i64 (o.kindOf k)∧w'=w:=by
 unfold o.eM at h;refine bP E.fR ?_;refine bM ?_;unfold o.kindOf;refine aa ?_;apply K.cond<;>intro g1
 ·refine aa ?_;exact⟨by rw[if_pos g1],bf⟩
 ·refine aa ?_;exact⟨by rw[if_neg g1],bf⟩
theorem MY(k:Int)(w:World)(h:o.eM (k+1)):bw Tryz.prog F.x6 #[.int .i64 k] w fun v w'=>v = .int .i64 (o.kindOf k)∧w'=w:=by
 unfold o.eM at h;refine bP E.x6 ?_;refine bM ?_;unfold o.kindOf;refine aa ?_;apply K.cond<;>intro g1
 ·refine aa ?_;exact⟨by rw[if_pos g1],bf⟩
 ·refine aa ?_;exact⟨by rw[if_neg g1,Int.add_comm],bf⟩
theorem Md(x:o.Var)(v:Value)(l:List o.Scalar)(w:World)(a1:o.hG w v l)(h:o.eM (x.scalar+1)) :
  bw Tryz.prog F.as #[.agg x.enc.toArray,v] w fun v w'=>v = .agg (o.h2 x.scalar x.bA x.af l).enc.toArray∧Ext w w':=by
 obtain⟨ak,c,rfl,_⟩:=a1.form;rw[o.FR];refine bP E.as ?_;refine bM ?_;refine aa ?_;intro aq bE c8 aC ar;refine aa ?_;intro aU cp dT aA aK;replace ar:=aA.obj ar;have fC:=cy ar;have z2:=cy aK;have ba:=aC.trans aA;refine aa ?_;refine K.call (Q7 x _ l aU (a1.ext ba)) ?_;rintro _ aY ⟨rfl,ax⟩;replace ar:=ax.obj ar;replace aK:=ax.obj aK;have bz:=ba.trans ax;refine aa ?_;refine K.call (afL x.scalar aY h) ?_;rintro _ rH ⟨rfl,rfl⟩;refine aa ?_;intro bo eu bH;refine aa ?_;exact⟨bf,eu.ext bz (by have:=aC.size;omega)⟩
theorem afZ(cs:List Value)(m:o.Model)(w:World)(h:o.dM w cs m)(aV:m.cG)(aZ:gH w) :
  bw Tryz.prog F.BV #[.agg cs.toArray] w fun v w'=>v = .bool (decide ((o.check m).cM=0))∧Ext w w':=by
 obtain⟨cz,bV,cj,c1,cq,c2,cr,bJ,cC,bW,rfl,_⟩:=h.form;refine bP E.BV ?_;refine bM ?_;refine aa ?_;intro aq bE c8 aC ar;refine aa ?_;refine K.call (AA _ m aq (h.ext aC) aV (aZ.ext aC)) ?_;rintro _ aU ⟨rfl,aA⟩;refine aa ?_;refine K.jd (v:=.int .i64 (o.check m).cM) rfl ?_;refine aa ?_;exact⟨bf,aC.trans aA⟩
theorem abJ(cs:List Value)(m:o.Model)(w:World)(h:o.dM w cs m)(aV:m.cG) :
  bw Tryz.prog F.Ea #[.agg cs.toArray] w fun v w'=>v = .bool (decide ((o.check m).cM=0))∧Ext w w':=by
 obtain⟨cz,bV,cj,c1,cq,c2,cr,bJ,cC,bW,rfl,_⟩:=h.form;refine bP E.Ea ?_;refine bM ?_;refine aa ?_;intro aq bE c8 aC ar;refine aa ?_;refine K.call (MX _ m aq (h.ext aC) aV) ?_;rintro _ aU ⟨rfl,aA⟩;unfold vj;refine aa ?_;refine K.jd (v:=.int .i64 (o.check m).cM) rfl ?_;refine aa ?_;exact⟨bf,aC.trans aA⟩
end Go.Proofs.R
end
section
namespace bt
open Go Go.RowKit
theorem hx.congr{α:Type}{enc:α→List Value}{e:TypeId}{sz base n:Nat}{w:World}{vs rG:Nat→Option Addr×Nat×Nat}{xs E4:Nat→List α}(h:hx enc e sz base w n vs xs)(aO:∀i,i<n→vs i=rG i)(av:∀i,i<n→xs i=E4 i):hx enc e sz base w n rG E4 :=
 ⟨fun i af=>by rw[←aO i af,←av i af];exact h.own i af,fun i j k af aI cH he=>by rw[←aO j aI];rw[←aO i af] at he;exact h.apart i j k af aI cH he⟩
theorem Cp{S:Fr}{t:Nat}{n:Int}(h:S t = .int .i64 n):e4 S ((List.range 1).map fun i=>(i*1,1)) [(0,.tmp t)] [.int .i64 0]=some [.int .i64 n]:=by
 simp[e4,lay,fD,h,Value.cells,List.range,List.range.loop]
structure ey(cD:List TypeId)(w w':World):Prop where
 size:w.heap.size≤w'.heap.size
 aQ:∀(k:Nat) (c:Array Value) (t:TypeId),w.heap[k]? = some (.cells c t)→t∉cD→w'.heap[k]? = some (.cells c t)
section
variable{cD:List TypeId}{a b w w':World}
theorem ey.refl:ey cD w w:=⟨Nat.le_refl _,fun _ _ _ h _=>h⟩
theorem ey.trans{c:World}(h:ey cD a b)(k:ey cD b c):ey cD a c:=⟨Nat.le_trans h.size k.size,fun i c t aw aL=>k.aQ i c t (h.aQ i c t aw aL) aL⟩
theorem ey.ext(h:Ext a b):ey cD a b:=⟨h.size,fun _ _ _ aw _=>h.obj aw⟩
theorem ey.mod{A:Nat→Prop}(h:Mod A a b)(ed:∀(k:Nat) (c:Array Value) (t:TypeId),a.heap[k]? = some (.cells c t)→A k→t∈cD):ey cD a b:=⟨h.size,fun k c t aw aL=>h.obj (fun hk=>aL (ed k c t aw hk)) aw⟩
theorem ey.wr{k:Nat}{c:Array Value}{t:TypeId}{f:Nat×Nat}(h:dz k a b)(aw:a.heap[k]? = some (.cells c t f))(aL:t∈cD):ey cD a b:=ey.mod (h.mod (A:=fun i=>i=k) rfl) fun i kj fJ oF e=>by
 subst e;rw[aw] at oF;injection oF with oF;injection oF with _ e;exact e ▸ aL
theorem bg.hA{α:Type}{enc:α→List Value}{e:TypeId}{sz base:Nat}{v:Value}{xs:List α}(h:bg enc e sz base a v xs)(k:ey cD a b)(he:e∉cD):bg enc e sz base b v xs:=by
 refine⟨h.1,?_⟩;rcases h.2 with aH | ⟨g,cap,cur,rfl,aB,aV,rest⟩
 ·exact .inl aH
 ·exact .inr ⟨g,cap,cur,rfl,aB,k.aQ _ _ _ aV he,rest⟩
end
end bt
namespace o
structure gr where
 V:List Int
 C:List Int
 ep:List Int
 n:Nat
 L:List Int
 H:List Int
 Z:List Cell
def gr.of(V C ep:List Int)(cs:List Cell):gr:=⟨V,C,ep,cs.length,cs.map (·.bA),cs.map (·.af),cs⟩
def gr.rows(s:gr):Nat→List Int:=fun i=>if i=0 then s.V else if i=1 then s.C else if i=2 then s.ep else if i=3 then s.L else s.H
end o
namespace Go.Proofs.R
open Go Go.RowKit bt
def rn:List TypeId:=[T.a,T.u,T.h,T.kV]
structure jY(aq:World)(bR b0:Nat)(s:o.gr)(W:World):Prop where
 mod:Mod (fun k=>k=bR∨k=b0) aq W
 ex:∃(vs:Nat→gf) (u:gf),W.heap[bR]? = some (.cells #[cg (vs 0),cg (vs 1),cg (vs 2),.int .i64 s.n,cg (vs 3),cg (vs 4)] T.h)∧hx c4 T.a 1 aq.heap.size W 5 vs s.rows ∧
  W.heap[b0]? = some (.cells #[cg u] T.kV)∧bg o.Cell.slot T.u 4 aq.heap.size W (cg u) s.Z
theorem jY.move{aq:World}{bR b0:Nat}{s:o.gr}{W b8:World}{A:Nat→Prop}(h:jY aq bR b0 s W)(m:Mod A W b8)(ed:∀(k:Nat) (c:Array Value) (t:TypeId),W.heap[k]? = some (.cells c t)→t∈rn→¬A k)(kG:∀k,A k→aq.heap.size≤k):jY aq bR b0 s b8:=by
 obtain⟨vs,u,h1,U,ah,aJ⟩:=h.ex;refine⟨h.mod.comp m (fun _ _ a=>a) fun k hk a=>absurd (kG k a) (by omega),vs,u,m.obj (ed _ _ _ h1 (by decide)) h1,U.mod m fun i k af hk=>?_,m.obj (ed _ _ _ ah (by decide)) ah,aJ.mod m fun k hk=>?_⟩
 ·obtain⟨cur,aw⟩:=(U.own i af).aQ k hk;exact ed _ _ _ aw (by decide)
 ·obtain⟨cur,aw⟩:=aJ.aQ k hk;exact ed _ _ _ aw (by decide)
theorem jY.ext{aq:World}{bR b0:Nat}{s:o.gr}{W b8:World}(h:jY aq bR b0 s W)(e:Ext W b8):jY aq bR b0 s b8:=h.move (A:=fun _=>False) e.mod (fun _ _ _ _ _ h=>h) fun _ h=>h.elim
structure mr(aq:World)(s:o.gr)(x:o.dJ)(nb:Fr)(w0:World)(vs:Nat→gf)(a33:Addr)(d25 d26 d31 d32 d33:Bool)(S:Fr)(w:World):Prop where
 nh:∀t,t∉[25,26,31,32,33,34]→S t=nb t
 mod:Mod (fun k=>(cg (vs 3)).ownBlock=some k∨(cg (vs 4)).ownBlock=some k) w0 w
 rows:∃v3 v4,hx c4 T.a 1 aq.heap.size w 5 (dy (dy vs 3 v3) 4 v4) (dy (dy s.rows 3 (if d26 then s.L++[x.bA] else s.L)) 4 (if d32 then s.H++[x.af] else s.H))∧(d26=false→v3=vs 3)∧(d32=false→v4=vs 4) ∧
  (d26=true→S 26=cg v3)∧(d32=true→S 32=cg v4)
 qn:d25=true→d26=false→∃b,S 25 = .slice (some ⟨b,0,none⟩) 1 1∧w0.heap.size≤b∧w.heap[b]? = some (.cells #[.int .i64 x.bA] T.a)
 HQ:d31=true→d32=false→∃b,S 31 = .slice (some ⟨b,0,none⟩) 1 1∧w0.heap.size≤b∧w.heap[b]? = some (.cells #[.int .i64 x.af] T.a)
 Ew:d33=true→S 33 = .pointer (some a33)
section
variable{aq w0 w:World}{s:o.gr}{x:o.dJ}{nb S:Fr}{vs:Nat→gf}{a33:Addr}{d25 d26 d31 d32 d33:Bool}{K:Value→World→Prop}
theorem mr.VC(h:mr aq s x nb w0 vs a33 false false d31 d32 d33 S w)(tv:nb 24 = .int .i64 x.bA)(hk:∀v w',mr aq s x nb w0 vs a33 true false d31 d32 d33 (put S (some 25) v) w'→K v w') :
  mh Tryz.prog (.cQ T.a 1 1 [.int .i64 0] [(0,.tmp 24)]) S w K:=by
 have he:Ext w (w.alloc (.cells #[.int .i64 x.bA] T.a)):=(Ext.refl w).alloc _;refine wU (Cp (by rw[h.nh 24 (by decide),tv])) (hk _ _ ⟨fun t aL=>?_,h.mod.trans he.mod,?_,fun _ _=>⟨_,by simp[gd,b6],h.mod.size,heap_alloc_new w _⟩,fun a b=>?_,fun a=>by rw[gd,b6,if_neg (by decide)];exact h.Ew a⟩)
 ·rw[gd,b6,if_neg (by intro e;subst e;simp at aL)];exact h.nh t aL
 ·obtain⟨v3,v4,h1,U,ah,aJ,bk⟩:=h.rows;exact⟨v3,v4,h1.ext he,U,ah,fun e=>(by cases e),fun e=>by rw[gd,b6,if_neg (by decide)];exact bk e⟩
 ·obtain⟨b,h1,U,ah⟩:=h.HQ a b;exact⟨b,by rw[gd,b6,if_neg (by decide)];exact h1,U,he.obj ah⟩
theorem mr.Mn(h:mr aq s x nb w0 vs a33 d25 d26 false false d33 S w)(abV:nb 30 = .int .i64 x.af)(hk:∀v w',mr aq s x nb w0 vs a33 d25 d26 true false d33 (put S (some 31) v) w'→K v w') :
  mh Tryz.prog (.cQ T.a 1 1 [.int .i64 0] [(0,.tmp 30)]) S w K:=by
 have he:Ext w (w.alloc (.cells #[.int .i64 x.af] T.a)):=(Ext.refl w).alloc _;refine wU (Cp (by rw[h.nh 30 (by decide),abV])) (hk _ _ ⟨fun t aL=>?_,h.mod.trans he.mod,?_,fun a b=>?_,fun _ _=>⟨_,by simp[gd,b6],h.mod.size,heap_alloc_new w _⟩,fun a=>by rw[gd,b6,if_neg (by decide)];exact h.Ew a⟩)
 ·rw[gd,b6,if_neg (by intro e;subst e;simp at aL)];exact h.nh t aL
 ·obtain⟨v3,v4,h1,U,ah,aJ,bk⟩:=h.rows;exact⟨v3,v4,h1.ext he,U,ah,fun e=>by rw[gd,b6,if_neg (by decide)];exact aJ e,fun e=>by cases e⟩
 ·obtain⟨b,h1,U,ah⟩:=h.qn a b;exact⟨b,by rw[gd,b6,if_neg (by decide)];exact h1,U,he.obj ah⟩
theorem mr.IZ(h:mr aq s x nb w0 vs a33 true false d31 d32 d33 S w)(abT:nb 22=cg (vs 3))(cB:∀i k,i<5→(cg (vs i)).ownBlock=some k→k<w0.heap.size)(aB:aq.heap.size≤w0.heap.size)(hm:s.L.length≤100000)
  (hk:∀v w',mr aq s x nb w0 vs a33 true true d31 d32 d33 (put S (some 26) v) w'→K v w') :
  mh Tryz.prog (.app T.c T.a 1 8 (.tmp 22) (.tmp 25)) S w K:=by
 obtain⟨b,b2,ba,bz⟩:=h.qn rfl rfl;obtain⟨v3,v4,h1,U,ah,aJ,bk⟩:=h.rows;obtain rfl:=U rfl;show wi Tryz.prog T.c T.a 1 8 (S 22) (S 25) w K;rw[h.nh 22 (by decide),abT,b2];have tN:=h.mod.size;refine hx.app (vs:=dy (dy vs 3 (vs 3)) 4 v4) (xs:=dy (dy s.rows 3 (if false=true then s.L++[x.bA] else s.L)) 4 (if d32=true then s.H++[x.af] else s.H)) (y:=x.bA) 3 (by decide) h1 (fun _=>rfl) (h4 bz) j1 (by simp[dy];omega) (by simp[dy];unfold maxLen;omega) (by omega) fun ck w' aZ aV _=>?_;have bq:Mod (fun k=>(cg (vs 3)).ownBlock=some k) w w':=Mod.grown aV fun k hk=>hk;refine hk _ _ ⟨fun t aL=>?_,h.mod.trans (bq.Ip fun k hk=>.inl hk),?_,fun _ e=>(by cases e),fun a b=>?_,fun a=>by rw[gd,b6,if_neg (by decide)];exact h.Ew a⟩
 ·rw[gd,b6,if_neg (by intro e;subst e;simp at aL)];exact h.nh t aL
 ·refine⟨ck,v4,aZ.congr (fun i af=>?_) (fun i af=>?_),fun e=>(by cases e),ah,fun _=>by simp[gd,b6],fun e=>by rw[gd,b6,if_neg (by decide)];exact bk e⟩
  ·unfold dy;by_cases a:i=3
   ·subst a;simp
   ·simp[a]
  ·unfold dy;by_cases a:i=3
   ·subst a;simp
   ·simp[a]
 ·obtain⟨gk,h1,U,ah⟩:=h.HQ a b;exact⟨gk,by rw[gd,b6,if_neg (by decide)];exact h1,U,bq.obj (fun e=>by have:=cB 3 gk (by decide) e;omega) ah⟩
theorem mr.I0(h:mr aq s x nb w0 vs a33 true true true false d33 S w)(abU:nb 28=cg (vs 4))(aB:aq.heap.size≤w0.heap.size)(hm:s.H.length≤100000)
  (hk:∀v w',mr aq s x nb w0 vs a33 true true true true d33 (put S (some 32) v) w'→K v w') :
  mh Tryz.prog (.app T.c T.a 1 8 (.tmp 28) (.tmp 31)) S w K:=by
 obtain⟨b,b2,ba,bz⟩:=h.HQ rfl rfl;obtain⟨v3,v4,h1,U,ah,aJ,bk⟩:=h.rows;obtain rfl:=ah rfl;show wi Tryz.prog T.c T.a 1 8 (S 28) (S 31) w K;rw[h.nh 28 (by decide),abU,b2];have tN:=h.mod.size;refine hx.app (vs:=dy (dy vs 3 v3) 4 (vs 4)) (xs:=dy (dy s.rows 3 (if true=true then s.L++[x.bA] else s.L)) 4 (if false=true then s.H++[x.af] else s.H)) (y:=x.af) 4 (by decide) h1 (fun _=>rfl) (h4 bz) j1 (by simp[dy];omega) (by simp[dy];unfold maxLen;omega) (by omega) fun ck w' aZ aV _=>?_;have bq:Mod (fun k=>(cg (vs 4)).ownBlock=some k) w w':=Mod.grown aV fun k hk=>hk;refine hk _ _ ⟨fun t aL=>?_,h.mod.trans (bq.Ip fun k hk=>.inr hk),?_,fun _ e=>(by cases e),fun _ e=>(by cases e),fun a=>by rw[gd,b6,if_neg (by decide)];exact h.Ew a⟩
 ·rw[gd,b6,if_neg (by intro e;subst e;simp at aL)];exact h.nh t aL
 ·refine⟨v3,ck,aZ.congr (fun i af=>?_) (fun i af=>?_),fun e=>(by cases e),fun e=>(by cases e),fun e=>by rw[gd,b6,if_neg (by decide)];exact aJ e,fun _=>by simp[gd,b6]⟩
  ·unfold dy;by_cases a:i=4
   ·subst a;simp
   ·simp[a]
  ·unfold dy;by_cases a:i=4
   ·subst a;simp
   ·simp[a]
theorem mr.Nt(h:mr aq s x nb w0 vs a33 d25 d26 d31 d32 d33 S w):mr aq s x nb w0 vs a33 d25 d26 d31 d32 true (cc S 33 (.pointer (some a33))) w:=by
 have q:∀t,t≠33→cc S 33 (.pointer (some a33)) t=S t:=fun t aL=>by rw[b6,if_neg aL]
 refine⟨fun t aL=>?_,h.mod,?_,fun a b=>?_,fun a b=>?_,fun _=>by simp[b6]⟩
 ·rw[q t (by intro e;subst e;simp at aL)];exact h.nh t aL
 ·obtain⟨v3,v4,h1,U,ah,aJ,bk⟩:=h.rows;exact⟨v3,v4,h1,U,ah,fun e=>by rw[q _ (by decide)];exact aJ e,fun e=>by rw[q _ (by decide)];exact bk e⟩
 ·obtain⟨gk,h1,U⟩:=h.qn a b;exact⟨gk,by rw[q _ (by decide)];exact h1,U⟩
 ·obtain⟨gk,h1,U⟩:=h.HQ a b;exact⟨gk,by rw[q _ (by decide)];exact h1,U⟩
end
end Go.Proofs.R
end
section
namespace Go.Proofs.R
open Go Go.RowKit bt
def jW(b:Nat)(w w':World):Prop := ∀j,j<3→w'.cell? (Addr.add ⟨b,0,none⟩ j)=w.cell? (Addr.add ⟨b,0,none⟩ j)
theorem jW.refl{b:Nat}{w:World}:jW b w w:=fun _ _=>rfl
theorem jW.trans{b:Nat}{w w' b1:World}(h:jW b w w')(k:jW b w' b1):jW b w b1:=fun j aI=>(k j aI).trans (h j aI)
theorem jW.of{b:Nat}{w w':World}{bV c1 c2:Value}{l sy:List Value}{t fJ:TypeId}{f r5:Nat×Nat}(h:w.heap[b]? = some (.cells (bV :: c1 :: c2 :: l).toArray t f))(bK:w'.heap[b]? = some (.cells (bV :: c1 :: c2 :: sy).toArray fJ r5)):jW b w w':=fun j aI=>by
 have:j=0∨j=1∨j=2:=by omega
 rcases this with rfl | rfl | rfl
 ·rw[eN h (v:=bV) rfl,eN bK (v:=bV) rfl]
 ·rw[eN h (v:=c1) rfl,eN bK (v:=c1) rfl]
 ·rw[eN h (v:=c2) rfl,eN bK (v:=c2) rfl]
theorem jW.ext{b:Nat}{w w':World}(he:Ext w w')(h:b<w.heap.size):jW b w w':=fun j _=>by
 rw[add_eq];simp only[World.cell?,he.heap h]
def QW:eD:=(.take (ag 21 4 3) (.take (ae 22 21) (.take (ag 23 0 11) (.take (ae 24 23) (.take (ag 27 5 3) (.take (ae 28 27) (.take (ag 29 1 11) (.take (ae 30 29) (.alt (ay 25 (.cQ T.a 1 1 [(.int .i64 0)] [(0,(ab 24))])) (.alt (ay 26 (.app T.c T.a 1 8 (ab 22) (ab 25))) (.take (ag 33 4 3) (.alt (ay 31 (.cQ T.a 1 1 [(.int .i64 0)] [(0,(ab 30))])) (.bT (ay 32 (.app T.c T.a 1 8 (ab 28) (ab 31))) (.bT (ys 33 26) (.take (ag 34 5 3) (.bT (ys 34 32) .done .nil)) .nil) .nil) .nil)) (.alt (ay 31 (.cQ T.a 1 1 [(.int .i64 0)] [(0,(ab 30))])) (.alt (ay 26 (.app T.c T.a 1 8 (ab 22) (ab 25))) (.take (ag 33 4 3) (.bT (ay 32 (.app T.c T.a 1 8 (ab 28) (ab 31))) (.bT (ys 33 26) (.take (ag 34 5 3) (.bT (ys 34 32) .done .nil)) .nil) .nil)) .nil) .nil)) (.alt (ay 31 (.cQ T.a 1 1 [(.int .i64 0)] [(0,(ab 30))])) (.alt (ay 25 (.cQ T.a 1 1 [(.int .i64 0)] [(0,(ab 24))])) (.alt (ay 26 (.app T.c T.a 1 8 (ab 22) (ab 25))) (.take (ag 33 4 3) (.bT (ay 32 (.app T.c T.a 1 8 (ab 28) (ab 31))) (.bT (ys 33 26) (.take (ag 34 5 3) (.bT (ys 34 32) .done .nil)) .nil) .nil)) .nil) .nil) .nil))))))))))
theorem lk{S:Fr}{n m:Nat}{v u:Value}(h:S m=u)(aH:m≠n):cc S n v m=u:=by rw[b6,if_neg aH];exact h
theorem Yy{aq w:World}{bR b0 ch:Nat}{s:o.gr}{x:o.dJ}{S:Fr}{di:Fr→World→Prop}(cH:bR≠b0)(kG:bR<aq.heap.size∧b0<aq.heap.size)(aG:jY aq bR b0 s w)(ah:S 3 = .pointer (some ⟨bR,0,none⟩))(zu:S 11 = .pointer (some ⟨ch,0,none⟩))
  (aw:w.heap[ch]? = some (.cells x.enc.toArray T.m))(hm:s.L.length≤100000)(K9:s.H.length≤100000)
  (hk:∀a8 w',jY aq bR b0 ⟨s.V,s.C,s.ep,s.n,s.L++[x.bA],s.H++[x.af],s.Z⟩ w'→ey rn w w'→jW bR w w'→di a8 w'):∃C:World→Prop,C w∧cI Tryz.prog C QW S w di:=by
 obtain⟨vs,u,g1,g2,g3,g4⟩:=aG.ex;have AJ:=g2.not g1 (by decide);have mQ:=g2.not aw (by decide);refine⟨Mod (fun k=>(cg (vs 3)).ownBlock=some k∨(cg (vs 4)).ownBlock=some k) w,Mod.refl _ _,?_⟩;have rx:∀w',Mod (fun k=>(cg (vs 3)).ownBlock=some k∨(cg (vs 4)).ownBlock=some k) w w'→w'.heap[bR]? = some (.cells #[cg (vs 0),cg (vs 1),cg (vs 2),.int .i64 s.n,cg (vs 3),cg (vs 4)] T.h) :=
  fun w' m=>m.obj (fun h=>h.elim (AJ 3 (by decide)) (AJ 4 (by decide))) g1
 have mb:∀w',Mod (fun k=>(cg (vs 3)).ownBlock=some k∨(cg (vs 4)).ownBlock=some k) w w'→w'.heap[ch]? = some (.cells x.enc.toArray T.m) :=
  fun w' m=>m.obj (fun h=>h.elim (mQ 3 (by decide)) (mQ 4 (by decide))) aw
 have dn:aq.heap.size≤w.heap.size:=aG.mod.size;unfold QW;refine cI.jK ah ?_;refine cI.ld (v:=cg (vs 3)) (by simp[b6];rfl) (fun w' m=>eN (rx w' m) rfl) ?_;refine cI.jK (a:=⟨ch,0,none⟩) (by simp[b6,zu]) ?_;refine cI.ld (v:=.int .i64 x.bA) (by simp[b6];rfl) (fun w' m=>eN (mb w' m) rfl) ?_;refine cI.jK (a:=⟨bR,0,none⟩) (by simp[b6,ah]) ?_;refine cI.ld (v:=cg (vs 4)) (by simp[b6];rfl) (fun w' m=>eN (rx w' m) rfl) ?_;refine cI.jK (a:=⟨ch,0,none⟩) (by simp[b6,zu]) ?_;refine cI.ld (v:=.int .i64 x.af) (by simp[b6];rfl) (fun w' m=>eN (mb w' m) rfl) ?_;generalize pk:cc _ 30 _=o7;have bz:o7 3 = .pointer (some ⟨bR,0,none⟩):=by subst pk;simp[b6,ah]
 have JC:o7 22=cg (vs 3):=by subst pk;simp[b6]
 have Gd:o7 24 = .int .i64 x.bA:=by subst pk;simp[b6]
 have JD:o7 28=cg (vs 4):=by subst pk;simp[b6]
 have JE:o7 30 = .int .i64 x.af:=by subst pk;simp[b6]
 have gb:∀i,vs i=dy (dy vs 3 (vs 3)) 4 (vs 4) i:=fun i=>by
  unfold dy;by_cases a:i=4
  ·subst a;simp
  ·by_cases b:i=3
   ·subst b;simp
   ·simp[a,b]
 have hQ:∀i,s.rows i=dy (dy s.rows 3 (if false=true then s.L++[x.bA] else s.L)) 4 (if false=true then s.H++[x.af] else s.H) i:=fun i=>by
  unfold dy;by_cases a:i=4
  ·subst a;simp[o.gr.rows]
  ·by_cases b:i=3
   ·subst b;simp[o.gr.rows]
   ·simp[a,b]
 have t0:mr aq s x o7 w vs (Addr.add ⟨bR,0,none⟩ 4) false false false false false o7 w :=
  ⟨fun _ _=>rfl,Mod.refl _ _,⟨vs 3,vs 4,g2.congr (fun i af=>gb i) (fun i af=>hQ i),
   fun _=>rfl,fun _=>rfl,fun e=>(by cases e),fun e=>(by cases e)⟩,fun e=>(by cases e),fun e=>(by cases e),fun e=>(by cases e)⟩
 have cB:∀i k,i<5→(cg (vs i)).ownBlock=some k→k<w.heap.size:=fun i k af he=>(g2.lt i k af he).2;have fin:∀S aU,mr aq s x o7 w vs (Addr.add ⟨bR,0,none⟩ 4) true true true true true S aU→cI Tryz.prog (Mod (fun k=>(cg (vs 3)).ownBlock=some k∨(cg (vs 4)).ownBlock=some k) w) (.bT (ys 33 26) (.take (ag 34 5 3) (.bT (ys 34 32) .done .nil)) .nil) S aU di:=by
  intro S aU t;obtain⟨v3,v4,dQ,_,_,hR,qm⟩:=t.rows;have av:=rx aU t.mod;refine cI.r7 ?_;show wL (S 33) (S 26) aU _;rw[t.Ew rfl,hR rfl];refine No fun qu=>K.st1 av (by simp) rfl fun aY fk bB=>?_;show cI _ _ _ S _ _;refine cI.jK (a:=⟨bR,0,none⟩) (by rw[t.nh 3 (by decide),bz]) ?_;refine cI.r7 ?_;show wL (cc S 34 _ 34) (cc S 34 _ 32) aY _;rw[show cc S 34 (.pointer (some (Addr.add ⟨bR,0,none⟩ 5))) 34 = .pointer (some (Addr.add ⟨bR,0,none⟩ 5)) from by simp[b6],lk (qm rfl) (by decide)];refine No fun qu=>K.st1 bB (by simp) rfl fun bo eu bH=>?_;have hw:=fk.trans eu;have jw:=dQ.not av (by decide);obtain⟨us,alY⟩:∃us,us=cg u:=⟨_,rfl⟩;refine hk _ _ ⟨?_,dy (dy vs 3 v3) 4 v4,u,?_,(dQ.mod (hw.mod (A:=fun k=>k=bR) rfl) fun i k af hk e=>jw i af (by rw[←e];exact hk)).congr (fun _ _=>rfl) (fun i af=>?_),?_,?_⟩ ?_ ?_
  ·refine(aG.mod.comp t.mod (B:=fun k=>k=bR∨k=b0) (fun _ _ a=>a) fun i af a=>?_).trans (hw.mod (A:=fun k=>k=bR∨k=b0) (.inl rfl));rcases a with a | a
   ·have:=(g2.lt 3 i (by decide) a).1;omega
   ·have:=(g2.lt 4 i (by decide) a).1;omega
  ·exact bH
  ·have:i=0∨i=1∨i=2∨i=3∨i=4:=by omega
   rcases this with rfl | rfl | rfl | rfl | rfl<;>simp[dy,o.gr.rows]
  ·exact hw.obj (t.mod.obj (fun h=>h.elim (g2.not g3 (by decide) 3 (by decide)) (g2.not g3 (by decide) 4 (by decide))) g3) (Ne.symm cH)
  ·refine(g4.mod t.mod fun k hk h=>?_).mod (hw.mod (A:=fun k=>k=bR) rfl) fun k hk e=>?_
   ·obtain⟨cur,gL⟩:=g4.aQ k hk;exact h.elim (g2.not gL (by decide) 3 (by decide)) (g2.not gL (by decide) 4 (by decide))
   ·obtain⟨cur,gL⟩:=g4.aQ k hk;subst e;rw[g1] at gL;injection gL with gL;injection gL with _ e;exact absurd e (by decide)
  ·refine(ey.mod t.mod fun k c fJ aw a=>?_).trans (ey.wr hw av (by decide));rcases a with a | a
   ·obtain⟨cur,gL⟩:=(g2.own 3 (by decide)).aQ k a;rw[aw] at gL;injection gL with gL;injection gL with _ e;rw[e];decide
   ·obtain⟨cur,gL⟩:=(g2.own 4 (by decide)).aQ k a;rw[aw] at gL;injection gL with gL;injection gL with _ e;rw[e];decide
  ·exact jW.of g1 bH
 clear hk;refine⟨kh.e (t0.VC Gd fun v2 aU t2=>⟨t2.mod,?_,?_,trivial⟩),kh.e (t0.Mn JE fun v2 aU t2=>⟨t2.mod,?_⟩),trivial⟩
 ·refine kh.e (t2.IZ JC cB dn hm fun v3 aY t3=>⟨t3.mod,?_⟩);refine cI.jK (a:=⟨bR,0,none⟩) (by rw[t3.nh 3 (by decide),bz]) ?_;refine cI.wQ (kh.e (t3.Nt.Mn JE fun v4 bo t4=>⟨t4.mod,?_⟩));exact cI.r7 (lC.e (t4.I0 JD dn K9 fun v5 bD t5=>fin _ _ t5))
 ·refine kh.e (t2.Mn JE fun v3 aY t3=>⟨t3.mod,?_⟩);refine cI.wQ (kh.e (t3.IZ JC cB dn hm fun v4 bo t4=>⟨t4.mod,?_⟩));refine cI.jK (a:=⟨bR,0,none⟩) (by rw[t4.nh 3 (by decide),bz]) ?_;exact cI.r7 (lC.e (t4.Nt.I0 JD dn K9 fun v5 bD t5=>fin _ _ t5))
 ·refine cI.wQ (kh.e (t2.VC Gd fun v3 aY t3=>⟨t3.mod,?_⟩));refine cI.wQ (kh.e (t3.IZ JC cB dn hm fun v4 bo t4=>⟨t4.mod,?_⟩));refine cI.jK (a:=⟨bR,0,none⟩) (by rw[t4.nh 3 (by decide),bz]) ?_;exact cI.r7 (lC.e (t4.Nt.I0 JD dn K9 fun v5 bD t5=>fin _ _ t5))
end Go.Proofs.R
end