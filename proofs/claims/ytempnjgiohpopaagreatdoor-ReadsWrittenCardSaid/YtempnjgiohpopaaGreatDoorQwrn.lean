/- Texts joined: LayI LayJ StaP StaQ StaA LayK LayL LayM LiteV ProcR ReaP StaR StaS ReaQ ReaA ReaB ReaC ReaS. -/
import Derived.Test.YtempnjgiohpopaaGreatDoorQwrd
import Derived.Test.YtempnjgiohpopaaGreatDoorQwre
import Derived.Test.YtempnjgiohpopaaGreatDoorQwri
import Derived.Test.YtempnjgiohpopaaGreatDoorQwrj
import Derived.Test.YtempnjgiohpopaaGreatDoorQwrk
import Derived.Test.YtempnjgiohpopaaGreatDoorQwrl
import Derived.Test.YtempnjgiohpopaaGreatDoorQwrm
import Derived.Lib.SlKeysI
import Derived.Maps.OwnSet
set_option linter.all false
set_option maxRecDepth 8000
set_option maxHeartbeats 16000000
section
namespace bt
open Go Go.RowKit
theorem K.Aq{P:Program}{cY:Value→World→Prop}{α:Type}{enc:α→List Value}{e:TypeId}{sz base n:Nat}{w:World}{vs:Nat→Option Addr×Nat×Nat}{xs:Nat→List α}{ty:TypeId}{b:Nat}{a:Addr}{c:Nat}{y:α}{t}(i:Nat)(ad:i<n)(h:hl enc e sz base w n vs xs)(c3:∀x,(enc x).length=sz)(av:fb w a (enc y))(h1:∀y,∀u∈enc y,u.oneCell'=true)
  (aD:((xs i).length+1)*b≤140737488355328)(jo:(xs i).length+1≤maxLen)(iB:base≤w.heap.size)
  (hk:∀b3 w',hl enc e sz base w' n (dg vs i b3) (dg xs i (xs i++[y]))→w.grownBy w' (cf (vs i)).ownBlock→cY (cf b3) w'):j5 P ty e sz b (cf (vs i)) (.slice (some a) 1 c) w cY t:=by
 unfold j5;exact hl.app i ad h c3 av h1 aD jo iB fun b3 w' a b _=>hk b3 w' a b
end bt
namespace o
theorem H3{s:Int}{l:List Cell}{k:Nat}(h:k<l.length):hn s (l.take (k+1)) 0=hn s (l.take k) 0++(if l[k].place=0∧l[k].sort=s then [(k:Int)] else []):=by
 rw[List.take_succ_eq_append_getElem h,AY];simp only[hn,List.append_nil,List.length_take,Nat.zero_add];rw[show min k l.length=k from by omega]
theorem PR(s:Int):∀(l:List Cell) (i:Nat),(hn s l i).length≤l.length
 | [],_=>by simp[hn]
 | x :: r,i=>by
  have:=PR s r (i+1)
  simp only[hn,List.length_append,List.length_cons];split<;>simp<;>omega
def eH(l:List Cell)(k:Nat):Nat→List Int:=fun i=>if i=0 then hn 1 (l.take k) 0 else if i=1 then hn 2 (l.take k) 0 else if i=2 then hn 3 (l.take k) 0 else if i=3 then (l.take k).map (·.aZ) else (l.take k).map (·.ad)
end o
namespace Go.Proofs.R
open Go Go.RowKit bt
def zA:List TypeId:=[T.a,T.i]
def kh(vs:Nat→fU)(n:Int):Array Value:=#[cf (vs 0),cf (vs 1),cf (vs 2),.int .i64 n,cf (vs 3),cf (vs 4)]
structure mJ(w1:World)(b:Nat)(xs:Nat→List Int)(n:Int)(W:World):Prop where
 mod:Mod (fun k=>k=b) w1 W
 ex:∃vs:Nat→fU,W.heap[b]? = some (.cells (kh vs n) T.i)∧hl dk T.a 1 w1.heap.size W 5 vs xs
theorem mJ.congr{w1:World}{b:Nat}{xs Du:Nat→List Int}{n:Int}{W:World}(h:mJ w1 b xs n W)(aw:∀i,i<5→xs i=Du i):mJ w1 b Du n W :=
 let ⟨vs,g1,g2⟩:=h.ex; ⟨h.mod,vs,g1,g2.congr (fun _ _=>rfl) aw⟩
theorem CI{w1:World}{b:Nat}{xs:Nat→List Int}{n y:Int}{W p1 kB pc:World}{vs:Nat→fU}{b3:fU}{i:Nat}(ad:i<5)(hm:Mod (fun k=>k=b) w1 W)(g1:W.heap[b]? = some (.cells (kh vs n) T.i))(g2:hl dk T.a 1 w1.heap.size W 5 vs xs)
  (he:Ext W p1)(a6:p1.grownBy kB (cf (vs i)).ownBlock)(a8:hl dk T.a 1 w1.heap.size kB 5 (dg vs i b3) (dg xs i (xs i++[y])))(hw:dH b kB pc)(av:pc.heap[b]? = some (.cells (kh (dg vs i b3) n) T.i)) :
  mJ w1 b (dg xs i (xs i++[y])) n pc∧dV zA W pc:=by
 have uY:Mod (fun k=>(cf (vs i)).ownBlock=some k) p1 kB:=Mod.grown a6 fun k hk=>hk;have g5:=he.obj g1;have g6:kB.heap[b]? = some (.cells (kh vs n) T.i):=uY.obj ((g2.ext he).not g5 (by decide) i ad) g5;refine⟨⟨?_,_,av,a8.mod (hw.mod (A:=fun k=>k=b) rfl) fun j k aT hk e=>?_⟩,?_⟩
 ·have h1:Mod (fun k=>k=b) w1 p1:=hm.comp (A':=fun _=>False) he.mod (fun _ _ a=>a) fun _ _ a=>a.elim;have U:Mod (fun k=>k=b) w1 kB:=h1.comp uY (fun _ _ a=>a) fun j aT a=>by have:=(g2.lt i j ad a).1;omega
  exact U.trans (hw.mod rfl)
 ·subst e;exact a8.not g6 (by decide) j aT hk
 ·refine((dV.ext he).trans (dV.mod uY fun k c t av a=>?_)).trans (dV.wr hw g6 (by decide));obtain⟨cur,h⟩:=((g2.ext he).own i ad).aV k a;rw[av] at h;injection h with h;injection h with _ h;rw[h];decide
theorem Ty(cs:List Value)(m:o.Model)(w:World)(h:o.ew w cs m)(a6:m.cT)(bd:o.eI m) :
  bq Tryz.prog F.zc #[.agg cs.toArray] w fun v w'=>(∃xs,v = .agg xs.toArray∧dW w (fun w=>o.jg w xs (o.layout m)) w')∧Ext w w':=by
 have fF:=h;obtain⟨cv,bN,b9,c1,cq,c2,cm,bK,cw,bQ,rfl,_⟩:=h.form;have nD:=o.l3 bd;refine bI E.zc ?_;refine bF ?_;refine aa ?_;intro Gy bz cK oI al;have eb:=cL al;refine aa ?_;intro Gz b4 dw nK aI;have dY:=cL aI;replace al:=nK.obj al;refine aa ?_;intro w1 bZ fG lh bG;replace al:=lh.obj al;replace aI:=lh.obj aI;have eg:=cL bG;have nm:=oI.size;have mG:=nK.size;have zO:=lh.size;have n13:bz≠bZ:=by omega
 have bT:=(oI.trans nK).trans lh;refine aa ?_;refine K.call (aez _ m w1 (fF.ext bT) a6 bd) ?_;rintro dL vc ⟨eU,nL⟩;obtain⟨ade,WD,rfl,_⟩:=eU.form;have iu:mJ w1 bZ (o.eH (o.b1 m) 0) 0 vc:=⟨nL.mod,fun _=>(none,0,0),nL.obj bG,⟨fun i ad=>by
   have e:o.eH (o.b1 m) 0 i=[]:=by unfold o.eH; (repeat' split)<;>simp[o.hn]
   rw[e];exact bp.nil _ _ _ _ _,fun i j k _ _ _ e=>by cases e⟩⟩
 have pA:∀{xs n W},mJ w1 bZ xs n W→W.heap[bz]? = w1.heap[bz]? := fun h=>h.mod.block _ (by omega) n13;have hK:∀{xs n W},mJ w1 bZ xs n W→W.heap[b4]? = w1.heap[b4]? := fun h=>h.mod.block _ (by omega) (by omega);have e0:∀{xs n W},mJ w1 bZ xs n W→Ext w W:=fun h=>h.mod.ext bT fun i ad e=>by omega
 have kK:∀{W:World},dV zA vc W→bB 6 (Flat o.Cell.enc) W (.slice ade (o.b1 m).length WD) (o.b1 m):=fun k=>bp.lz (enc:=o.Cell.enc) (fun _=>rfl) (eU.gZ k (by decide));rw[aI] at hK;clear al aI bG eU;refine aa ?_;refine K.da 5 (o.b1 m).length [1,2,3,4] (fun _:Unit=>[]) () (fun k _ W=>mJ w1 bZ (o.eH (o.b1 m) k) 0 W∧dV zA vc W) bw bw ⟨iu,dV.refl⟩ ?_;clear iu;rintro k _ S aR hk ⟨ay,l1⟩;have eU:=kK l1;obtain⟨agp,g1,g2⟩:=ay.ex;refine aa ?_;apply K.cond<;>intro g0
 ·have bb:k<(o.b1 m).length:=by omega
  obtain⟨a,rfl⟩:=eU.addr (by omega);clear g1 g2;obtain⟨x,aw⟩:∃x,x=(o.b1 m)[k]:=⟨_,rfl⟩;have lj:∀i,(o.eH (o.b1 m) k i).length≤100:=fun i=>by
   unfold o.eH;have q:=fun s=>o.PR s ((o.b1 m).take k) 0;have eb:=q 1;have dY:=q 2;have eg:=q 3
   (repeat' split)<;>simp only[List.length_map,List.length_take] at * <;> omega
  refine ei ?_;simp -dsimp only[cu];refine ei ?_;refine K.hE [1,2,3,4,5] (fun _:Unit=>[]) (fun _ W=>mJ w1 bZ (dg (o.eH (o.b1 m) k) 0 ((o.eH (o.b1 m) k) 0++if x.place=0∧x.sort=1 then [(k:Int)] else [])) 0 W∧dV zA vc W) ?_ ?_
  ·have eU:=kK l1;obtain⟨vs,g1,g2⟩:=ay.ex;have k8:=g1;unfold kh at g1;dsimp only[cf] at g1;have same:¬(x.place=0∧x.sort=1)→mJ w1 bZ (dg (o.eH (o.b1 m) k) 0 ((o.eH (o.b1 m) k) 0++if x.place=0∧x.sort=1 then [(k:Int)] else [])) 0 aR:=fun e=>ay.congr fun j aT=>by
    unfold dg;by_cases a:j=0
    ·subst a;simp[e]
    ·simp[a]
   refine aa ?_;rw[←aw];apply K.cond<;>intro g3
   ·refine aa ?_;rw[←aw];apply K.cond<;>intro g4
    ·refine aa ?_;intro bR dz lV bf cx;have fy:=ay.mod.size;have z2:=bf.size;have hlen:((o.eH (o.b1 m) k) 0).length≤100:=lj 0;have mm:=g2.ext bf;have g15:=bf.obj k8;refine K.Aq (y:=(k:Int)) 0 (by decide) mm (fun _=>rfl) (fZ cx) kG (by omega) (by unfold maxLen;omega) (by omega) fun b3 bW dn iU=>?_;have gG:bW.heap[bZ]? = some (.cells (kh vs 0) T.i):=(Mod.grown (A:=fun k=>(cf (vs 0)).ownBlock=some k) iU fun k hk=>hk).obj (mm.not g15 (by decide) 0 (by decide)) g15;have Qp:=gG;unfold kh at gG;refine aa ?_;intro cj eo c5;obtain⟨iD,rz⟩:=CI (by decide) ay.mod k8 g2 bf iU dn eo c5;refine aa ?_;refine⟨(),trivial,iD.congr fun j aT=>?_,l1.trans rz⟩;have e:(if x.place=0∧x.sort=1 then [(k:Int)] else [])=[(k:Int)]:=if_pos ⟨g3,g4⟩;rw[e]
    ·refine aa ?_;exact⟨(),trivial,same fun e=>g4 e.2,l1⟩
   ·refine aa ?_;exact⟨(),trivial,same fun e=>g3 e.1,l1⟩
  rintro _ S eX ⟨Fv,FK⟩;refine ei ?_;refine K.hE [1,2,3,4,5] (fun _:Unit=>[]) (fun _ W=>mJ w1 bZ (dg (dg (o.eH (o.b1 m) k) 0 ((o.eH (o.b1 m) k) 0++if x.place=0∧x.sort=1 then [(k:Int)] else [])) 1 ((dg (o.eH (o.b1 m) k) 0 ((o.eH (o.b1 m) k) 0++if x.place=0∧x.sort=1 then [(k:Int)] else [])) 1++if x.place=0∧x.sort=2 then [(k:Int)] else [])) 0 W∧dV zA vc W) ?_ ?_
  ·have eU:=kK FK;obtain⟨vs,g1,g2⟩:=Fv.ex;have k8:=g1;unfold kh at g1;dsimp only[cf] at g1;have same:¬(x.place=0∧x.sort=2)→mJ w1 bZ (dg (dg (o.eH (o.b1 m) k) 0 ((o.eH (o.b1 m) k) 0++if x.place=0∧x.sort=1 then [(k:Int)] else [])) 1 ((dg (o.eH (o.b1 m) k) 0 ((o.eH (o.b1 m) k) 0++if x.place=0∧x.sort=1 then [(k:Int)] else [])) 1++if x.place=0∧x.sort=2 then [(k:Int)] else [])) 0 eX:=fun e=>Fv.congr fun j aT=>by
    unfold dg;by_cases a:j=1
    ·subst a;simp[e]
    ·simp[a]
   refine aa ?_;rw[←aw];apply K.cond<;>intro g3
   ·refine aa ?_;rw[←aw];apply K.cond<;>intro g4
    ·refine aa ?_;intro bR dz lV bf cx;have fy:=Fv.mod.size;have z2:=bf.size;have hlen:((dg (o.eH (o.b1 m) k) 0 ((o.eH (o.b1 m) k) 0++if x.place=0∧x.sort=1 then [(k:Int)] else [])) 1).length≤100:=lj 1;have mm:=g2.ext bf;have g15:=bf.obj k8;refine K.Aq (y:=(k:Int)) 1 (by decide) mm (fun _=>rfl) (fZ cx) kG (by omega) (by unfold maxLen;omega) (by omega) fun b3 bW dn iU=>?_;have gG:bW.heap[bZ]? = some (.cells (kh vs 0) T.i):=(Mod.grown (A:=fun k=>(cf (vs 1)).ownBlock=some k) iU fun k hk=>hk).obj (mm.not g15 (by decide) 1 (by decide)) g15;have Qp:=gG;unfold kh at gG;refine aa ?_;intro cj eo c5;obtain⟨iD,rz⟩:=CI (by decide) Fv.mod k8 g2 bf iU dn eo c5;refine aa ?_;refine⟨(),trivial,iD.congr fun j aT=>?_,FK.trans rz⟩;have e:(if x.place=0∧x.sort=2 then [(k:Int)] else [])=[(k:Int)]:=if_pos ⟨g3,g4⟩;rw[e]
    ·refine aa ?_;exact⟨(),trivial,same fun e=>g4 e.2,FK⟩
   ·refine aa ?_;exact⟨(),trivial,same fun e=>g3 e.1,FK⟩
  rintro _ S hh ⟨Fw,FL⟩;refine ei ?_;refine K.hE [1,2,3,4,5] (fun _:Unit=>[]) (fun _ W=>mJ w1 bZ (dg (dg (dg (o.eH (o.b1 m) k) 0 ((o.eH (o.b1 m) k) 0++if x.place=0∧x.sort=1 then [(k:Int)] else [])) 1 ((dg (o.eH (o.b1 m) k) 0 ((o.eH (o.b1 m) k) 0++if x.place=0∧x.sort=1 then [(k:Int)] else [])) 1++if x.place=0∧x.sort=2 then [(k:Int)] else [])) 2 ((dg (dg (o.eH (o.b1 m) k) 0 ((o.eH (o.b1 m) k) 0++if x.place=0∧x.sort=1 then [(k:Int)] else [])) 1 ((dg (o.eH (o.b1 m) k) 0 ((o.eH (o.b1 m) k) 0++if x.place=0∧x.sort=1 then [(k:Int)] else [])) 1++if x.place=0∧x.sort=2 then [(k:Int)] else [])) 2++if x.place=0∧x.sort=3 then [(k:Int)] else [])) 0 W∧dV zA vc W) ?_ ?_
  ·have eU:=kK FL;obtain⟨vs,g1,g2⟩:=Fw.ex;have k8:=g1;unfold kh at g1;dsimp only[cf] at g1;have same:¬(x.place=0∧x.sort=3)→mJ w1 bZ (dg (dg (dg (o.eH (o.b1 m) k) 0 ((o.eH (o.b1 m) k) 0++if x.place=0∧x.sort=1 then [(k:Int)] else [])) 1 ((dg (o.eH (o.b1 m) k) 0 ((o.eH (o.b1 m) k) 0++if x.place=0∧x.sort=1 then [(k:Int)] else [])) 1++if x.place=0∧x.sort=2 then [(k:Int)] else [])) 2 ((dg (dg (o.eH (o.b1 m) k) 0 ((o.eH (o.b1 m) k) 0++if x.place=0∧x.sort=1 then [(k:Int)] else [])) 1 ((dg (o.eH (o.b1 m) k) 0 ((o.eH (o.b1 m) k) 0++if x.place=0∧x.sort=1 then [(k:Int)] else [])) 1++if x.place=0∧x.sort=2 then [(k:Int)] else [])) 2++if x.place=0∧x.sort=3 then [(k:Int)] else [])) 0 hh:=fun e=>Fw.congr fun j aT=>by
    unfold dg;by_cases a:j=2
    ·subst a;simp[e]
    ·simp[a]
   refine aa ?_;rw[←aw];apply K.cond<;>intro g3
   ·refine aa ?_;rw[←aw];apply K.cond<;>intro g4
    ·refine aa ?_;intro bR dz lV bf cx;have fy:=Fw.mod.size;have z2:=bf.size;have hlen:((dg (dg (o.eH (o.b1 m) k) 0 ((o.eH (o.b1 m) k) 0++if x.place=0∧x.sort=1 then [(k:Int)] else [])) 1 ((dg (o.eH (o.b1 m) k) 0 ((o.eH (o.b1 m) k) 0++if x.place=0∧x.sort=1 then [(k:Int)] else [])) 1++if x.place=0∧x.sort=2 then [(k:Int)] else [])) 2).length≤100:=lj 2;have mm:=g2.ext bf;have g15:=bf.obj k8;refine K.Aq (y:=(k:Int)) 2 (by decide) mm (fun _=>rfl) (fZ cx) kG (by omega) (by unfold maxLen;omega) (by omega) fun b3 bW dn iU=>?_;have gG:bW.heap[bZ]? = some (.cells (kh vs 0) T.i):=(Mod.grown (A:=fun k=>(cf (vs 2)).ownBlock=some k) iU fun k hk=>hk).obj (mm.not g15 (by decide) 2 (by decide)) g15;have Qp:=gG;unfold kh at gG;refine aa ?_;intro cj eo c5;obtain⟨iD,rz⟩:=CI (by decide) Fw.mod k8 g2 bf iU dn eo c5;refine aa ?_;refine⟨(),trivial,iD.congr fun j aT=>?_,FL.trans rz⟩;have e:(if x.place=0∧x.sort=3 then [(k:Int)] else [])=[(k:Int)]:=if_pos ⟨g3,g4⟩;rw[e]
    ·refine aa ?_;exact⟨(),trivial,same fun e=>g4 e.2,FL⟩
   ·refine aa ?_;exact⟨(),trivial,same fun e=>g3 e.1,FL⟩
  rintro _ S lB ⟨Jt,Si⟩;have eU:=kK Si;obtain⟨vs,g1,g2⟩:=Jt.ex;have k8:=g1;unfold kh at g1;dsimp only[cf] at g1;refine aa ?_;intro bR bf;replace eU:=eU.ext Flat.ext bf;replace g1:=bf.obj g1;refine aa ?_;intro bW ie gG bc dm;refine⟨bc,?_⟩;have sv:=bf.trans bc;have fy:=Jt.mod.size;have z2:=sv.size;have hlen:(o.eH (o.b1 m) k 3).length≤100:=lj 3;have mm:=g2.ext sv;have g15:=sv.obj k8;refine K.Aq (y:=(o.b1 m)[k].aZ) 3 (by decide) mm (fun _=>rfl) (fZ dm) kG (by rw[show(dg _ 2 _ 3:List Int)=o.eH (o.b1 m) k 3 from rfl];omega) (by rw[show(dg _ 2 _ 3:List Int)=o.eH (o.b1 m) k 3 from rfl];unfold maxLen;omega) (by omega) fun b3 cj dX iV=>?_;have jr:cj.heap[bZ]? = some (.cells (kh vs 0) T.i):=(Mod.grown (A:=fun k=>(cf (vs 3)).ownBlock=some k) iV fun k hk=>hk).obj (mm.not g15 (by decide) 3 (by decide)) g15;have Iu:=jr;unfold kh at jr;refine aa ?_;intro ajy kp eL;obtain⟨Jm,ab1⟩:=CI (by decide) Jt.mod k8 g2 sv iV dX kp eL;clear g1 g2 k8 mm g15 dX jr Iu eL dm eU;have Sg:=Si.trans ab1;have eU:=kK Sg;obtain⟨vs,g1,g2⟩:=Jm.ex;have k8:=g1;unfold kh at g1;dsimp only[cf] at g1;refine aa ?_;intro bR bf;replace eU:=eU.ext Flat.ext bf;replace g1:=bf.obj g1;refine aa ?_;intro bW ie gG bc dm;refine⟨bc,?_⟩;have sv:=bf.trans bc;have fy:=Jm.mod.size;have z2:=sv.size;have hlen:(o.eH (o.b1 m) k 4).length≤100:=lj 4;have mm:=g2.ext sv;have g15:=sv.obj k8;refine K.Aq (y:=(o.b1 m)[k].ad) 4 (by decide) mm (fun _=>rfl) (fZ dm) kG (by rw[show(dg _ 3 _ 4:List Int)=o.eH (o.b1 m) k 4 from rfl];omega) (by rw[show(dg _ 3 _ 4:List Int)=o.eH (o.b1 m) k 4 from rfl];unfold maxLen;omega) (by omega) fun b3 cj dX iV=>?_;have jr:cj.heap[bZ]? = some (.cells (kh vs 0) T.i):=(Mod.grown (A:=fun k=>(cf (vs 4)).ownBlock=some k) iV fun k hk=>hk).obj (mm.not g15 (by decide) 4 (by decide)) g15;have Iu:=jr;unfold kh at jr;refine aa ?_;intro ajz kp eL;obtain⟨aaZ,ab2⟩:=CI (by decide) Jm.mod k8 g2 sv iV dX kp eL;clear g1 g2 k8 mm g15 dX jr Iu eL dm eU;have ab3:=Sg.trans ab2;refine aa ?_;refine⟨bb,bu,(),trivial,aaZ.congr fun j aT=>?_,ab3⟩;subst aw;have a:j=0∨j=1∨j=2∨j=3∨j=4:=by omega
  rcases a with rfl | rfl | rfl | rfl | rfl
  ·exact(o.H3 (s:=1) bb).symm
  ·exact(o.H3 (s:=2) bb).symm
  ·exact(o.H3 (s:=3) bb).symm
  ·show(_:List Int)=((o.b1 m).take (k+1)).map (·.aZ);rw[List.take_succ_eq_append_getElem bb,List.map_append];rfl
  ·show(_:List Int)=((o.b1 m).take (k+1)).map (·.ad);rw[List.take_succ_eq_append_getElem bb,List.map_append];rfl
 have rl:k=(o.b1 m).length:=by omega
 subst rl;have cP:=e0 ay;have aI:=hK ay;clear g1 g2;obtain⟨vs,g1,g2⟩:=ay.ex;have k8:=g1;unfold kh at g1;dsimp only[cf] at g1;refine aa ?_;intro ba eV bG;have g23:=g2.mod (eV.mod (A:=fun k=>k=bZ) rfl) fun i k ad hk e=>by subst e;exact g2.not k8 (by decide) i ad hk
 replace aI:=eV.obj aI (by omega);replace bG:ba.heap[bZ]? = some (.cells #[cf (vs 0),cf (vs 1),cf (vs 2),.int .i64 (o.b1 m).length,cf (vs 3),cf (vs 4)] T.i):=bG;dsimp only[cf] at bG;refine aa ?_;intro bo ed bJ;have g24:=g23.mod (ed.mod (A:=fun k=>k=b4) rfl) fun i k ad hk e=>by subst e;exact g23.not aI (by decide) i ad hk
 have bU:w.heap.size≤w1.heap.size:=by omega
 have qE:=fun(i:Nat) (ad:i<5)=>bp.new (e:=T.a) (enc:=dk) (fun _=>rfl) (bp.low bU (g24.own i ad));obtain⟨f1,f2,f3⟩:=o.Yr bd;have gM:o.eH (o.b1 m) (o.b1 m).length 0=(o.layout m).vars:=by show o.hn 1 ((o.b1 m).take _) 0=_;rw[List.take_length,f1];rfl
 have fl:o.eH (o.b1 m) (o.b1 m).length 1=(o.layout m).aH:=by show o.hn 2 ((o.b1 m).take _) 0=_;rw[List.take_length,f2];rfl
 have fD:o.eH (o.b1 m) (o.b1 m).length 2=(o.layout m).insts:=by show o.hn 3 ((o.b1 m).take _) 0=_;rw[List.take_length,f3];rfl
 have hc:o.eH (o.b1 m) (o.b1 m).length 3=(o.layout m).aZ:=by show((o.b1 m).take _).map _=_;rw[List.take_length];rfl
 have jF:o.eH (o.b1 m) (o.b1 m).length 4=(o.layout m).ad:=by show((o.b1 m).take _).map _=_;rw[List.take_length];rfl
 refine aa ?_;refine⟨⟨[_,_,_,_,_,_],rfl,fun fp qB=>⟨⟨_,_,_,_,_,rfl,?_,?_,?_,?_,?_⟩⟩⟩,ed.ext (eV.ext cP (by omega)) (by omega)⟩
 ·rw[←gM];exact qE 0 (by decide) fp qB
 ·rw[←fl];exact qE 1 (by decide) fp qB
 ·rw[←fD];exact qE 2 (by decide) fp qB
 ·rw[←hc];exact qE 3 (by decide) fp qB
 ·rw[←jF];exact qE 4 (by decide) fp qB
theorem aeA(cs:List Value)(m:o.Model)(w:World)(h:o.ew w cs m)(a6:m.cT) :
  bq Tryz.prog F.Ct #[.agg cs.toArray] w fun v w'=>(∃xs,v = .agg xs.toArray∧dW w (fun w=>o.jg w xs (o.lay m)) w')∧Ext w w':=by
 have bd:=h;obtain⟨cv,bN,b9,c1,cq,c2,cm,bK,cw,bQ,rfl,_⟩:=h.form;refine bI E.Ct ?_;refine bF ?_;refine aa ?_;intro w1 bz cK az al;refine aa ?_;intro aR b4 dw aA aI;have fy:=cL al;replace al:=aA.obj al;have z2:=cL aI;have z3:=az.size;have bg:=az.trans aA;refine aa ?_;refine K.call (YN _ m aR (bd.ext bg) a6) ?_;rintro _ ba ⟨rfl,au⟩;replace al:=au.obj al;replace aI:=au.obj aI;have bO:=bg.trans au;by_cases hk:(o.check m).dh=0
 ·rw[decide_eq_true hk];refine aa ?_;refine K.call (Ty _ m ba (bd.ext bO) a6 (o.pE hk)) ?_;rintro _ bo ⟨⟨xs,rfl,dF⟩,aP⟩;obtain⟨jJ,d0,lC,d1,lD,d2,ma,d3,lE,d4,rfl,_⟩:=dF.here.form;replace aI:=aP.obj aI;have b8:=bO.trans aP;have z4:=au.size;refine aa ?_;intro bW gd dm;have aN:=dF.wr gd (by omega);refine aa ?_;exact⟨⟨_,rfl,by rw[o.B0 hk];exact aN.low bO.size⟩,gd.ext b8 (by omega)⟩
 ·rw[decide_eq_false hk];refine aa ?_;intro bo ed bJ;refine aa ?_;exact⟨⟨[_,_,_,_,_,_],rfl,by rw[o.Sq hk];exact fM.of fun _=>o.jg.zero _⟩,ed.ext bO (by omega)⟩
end Go.Proofs.R
end
section
namespace o
open Go
def jz(m:Model)(i:Nat):Nat:=total ((cF m).take i)
def cU(m:Model)(i:Nat):Nat:=total (cF m)+total ((c7 m).take i)
def dG(m:Model)(i:Nat):Nat:=total (cF m)+total (c7 m)+total ((eN m).take i)
theorem Gj(n:Nat):∀(ls:List (List di)) (i:Nat) (h:i<(gD n ls).length),(gD n ls)[i]=((n+total (ls.take i):Nat):Int)
 | [],i,h=>by simp[gD] at h
 | l :: r,0,h=>by simp[gD,total]
 | l :: r,i+1,h=>by
  simp only[gD,List.getElem_cons_succ,List.take_succ_cons,Dp];rw[Gj (n+l.length) r i (by simpa[gD] using h)];congr 1;omega
def fO(m:Model):Nat:=(b1 m).length
theorem q1(m:Model):fO m=total (cF m)+total (c7 m)+total (eN m):=BZ m
theorem Gq{m:Model}{i:Nat}(h:i<m.vars.length):∃bA:i<(layout m).vars.length,(layout m).vars[i]=(jz m i:Int):=by
 have bA:i<(gD 0 (cF m)).length:=by rw[rM];simpa[cF] using h
 exact⟨bA,by have:=Gj 0 (cF m) i bA;rw[Nat.zero_add] at this;exact this⟩
theorem vH{m:Model}{i:Nat}(h:i<m.aH.length):∃bA:i<(layout m).aH.length,(layout m).aH[i]=(cU m i:Int):=by
 have bA:i<(gD (total (cF m)) (c7 m)).length:=by rw[rM];simpa[c7] using h
 exact⟨bA,Gj _ _ i bA⟩
theorem wJ{m:Model}{i:Nat}(h:i<(insts m).length):∃bA:i<(layout m).insts.length,(layout m).insts[i]=(dG m i:Int):=by
 have bA:i<(gD (total (cF m)+total (c7 m)) (eN m)).length:=by rw[rM];simpa[eN] using h
 exact⟨bA,Gj _ _ i bA⟩
theorem xn{m:Model}{i:Nat}(h:i<m.vars.length):jz m i+(cells m.vars[i] m.scalars).toNat≤total (cF m):=by
 have bA:i<(cF m).length:=by simpa[cF] using h
 have:=KZ bA
 have e:(cF m)[i].length=(cells m.vars[i] m.scalars).toNat:=by simp[cF,zL]
 rw[e] at this;exact this
theorem x9{m:Model}{i:Nat}(h:i<m.aH.length):cU m i+(1+m.aH[i].cap.toNat)≤total (cF m)+total (c7 m):=by
 have bA:i<(c7 m).length:=by simpa[c7] using h
 have:=KZ bA
 have e:(c7 m)[i].length=1+m.aH[i].cap.toNat:=by simp[c7,r7]
 rw[e] at this;unfold cU;omega
theorem RR{m:Model}{i:Nat}(h:i<(insts m).length):dG m i+(jY m (insts m)[i]).length≤fO m:=by
 have bA:i<(eN m).length:=by simpa[eN] using h
 have:=KZ bA
 have e:(eN m)[i].length=(jY m (insts m)[i]).length:=by simp[eN]
 rw[e] at this;rw[q1];unfold dG;omega
def lL(s:List Scalar)(c:c4)(l:List Int):Prop :=
 ∃n,l[0]? = some n∧0≤n∧n≤c.cap∧∀k:Nat,(k:Int)<c.cap→∃x,l[k+1]? = some x∧((k:Int)<n→(eK c.scalar c.aZ c.ad s).aZ≤x∧x≤(eK c.scalar c.aZ c.ad s).ad)∧(n≤k→x=0)
def nA(m:Model)(i:Nat)(c:c4)(s:List Int):List Int:=(s.drop (cU m i)).take (1+c.cap.toNat)
structure Fits(m:Model)(s:List Int):Prop where
 len:s.length=fO m
 queue:∀i (h:i<m.aH.length),lL m.scalars m.aH[i] (nA m i m.aH[i] s)
 cell:∀i (h:i<s.length) (bA:i<(b1 m).length),(b1 m)[i].aZ≤s[i]∧s[i]≤(b1 m)[i].ad
def tH(m:Model)(s:List Int):Prop:=(check m).dh=0∧Fits m s
def r3(m:Model)(s:List Int)(p:Int)(l:Int)(k:Nat):Nat:=((List.range k).filter fun i=>decide (((insts m)[i]?.map (·.proc))=some p∧s[dG m i]? = some l)).length
def jN(m:Model)(s:List Int)(p:Nat)(n:Int)(k:Nat):List Int:=(List.range n.toNat).map fun(l:Nat)=>((r3 m s (p:Int) (l:Int) k:Nat):Int)
def Ge(m:Model)(s:List Int)(inst:Int):List Int×Int :=
 match nth (insts m) inst with
 | some x=>((s.drop (dG m inst.toNat+1)).take ((jY m x).length - 1),x.elem)
 | none=>([],0)
def dK(m:Model)(s:List Int)(inst:Int):Env :=
 ⟨(List.range m.vars.length).map fun i=>(s.drop (jz m i)).take (cF m)[i]!.length,
  (List.range m.aH.length).map fun i=>s[cU m i]!,
  (Ge m s inst).1,
  (List.range m.procs.length).map fun i=>jN m s i (m.procs[i]?.map (·.cz) |>.getD 0) (insts m).length,
  (Ge m s inst).2⟩
def val:List Nat→Nat
 | []=>0
 | d :: r=>d+256*val r
def EC(n:Nat):List Nat:=if h:n=0 then [] else n % 256 :: EC (n / 256)
termination_by n
decreasing_by omega
def SX:List Cell→List Int→Nat→Nat
 | x :: r,v :: s,n=>SX r s (n*(x.ad - x.aZ+1).toNat+(v - x.aZ).toNat)
 | _,_,n=>n
def num(m:Model)(s:List Int):Nat:=SX (b1 m) s 0
def eW(m:Model):Nat:=num m ((b1 m).map (·.ad))
def Wo(m:Model):Nat:=(EC (eW m)).length
def fixed(k n:Nat):List Nat:=EC n++List.replicate (k - (EC n).length) 0
def bytes(m:Model)(s:List Int):List Nat:=(fixed (Wo m) (num m s)).reverse
end o
end
section
namespace Go.Proofs.R
open Go Go.RowKit bt
abbrev fo(w:World)(v:Value)(l:List Int):Prop:=bB 1 (Flat dk) w v l
structure agM(w:World)(b:Nat)(m:o.Model):Prop where
 ex:∃xs cs cn,w.heap[b]? = some (.cells (xs++cs++[cn]).toArray T.a4)∧o.jg w xs (o.layout m)∧o.ew w cs m∧oh w cn (o.insts m)
theorem FN(v1 v2:Value)(dt dB:List Int)(w:World)(h1:bB 1 (Flat dk) w v1 dt)(U:bB 1 (Flat dk) w v2 dB) :
  bq Tryz.prog F.z #[v1,v2] w fun v w'=>(∃b:Bool,v = .bool b∧(b=true↔dt=dB))∧Ext w w' :=
 XX kN E.z _ _ dt dB w h1 U
end Go.Proofs.R
end
section
namespace o
theorem Su(m:Model):(layout m).aZ.length=(b1 m).length:=by simp[layout,y0]
theorem Ss(m:Model):(layout m).ad.length=(b1 m).length:=by simp[layout,y0]
theorem St{m:Model}{c:Nat}(h:c<(layout m).aZ.length)(bA:c<(b1 m).length):(layout m).aZ[c]=(b1 m)[c].aZ:=by simp[layout,y0]
theorem Sr{m:Model}{c:Nat}(h:c<(layout m).ad.length)(bA:c<(b1 m).length):(layout m).ad[c]=(b1 m)[c].ad:=by simp[layout,y0]
theorem JS(m:Model):(layout m).vars.length=m.vars.length∧(layout m).aH.length=m.aH.length∧(layout m).insts.length=(insts m).length:=by
 refine⟨?_,?_,?_⟩<;>simp[layout,y0,rM,cF,c7,eN]
end o
end
section
namespace bt
open Go Go.RowKit
structure DZ(es:Array MapEntry)(c:Nat)(L:List Int):Prop where
 wL:∃l:List (Int×Value),gQ (Value.int .i64) es.toList l∧(l.map (·.1)).Nodup∧(∀x,x∈l.map (·.1)↔x∈L)∧l.length≤L.length∧∀p∈l,∃z,p.2 = .int .i64 z
 born:∀e∈es.toList,e.born<c
 nodup:(es.toList.map (·.born)).Nodup
structure eB(w:World)(b:Nat)(L:List Int):Prop where
 ok:∀x∈L,-9223372036854775808≤x∧x≤9223372036854775807
 ex:∃es c,w.heap[b]? = some (.map es c)∧DZ es c L
theorem eB.of{w w':World}{b:Nat}{L:List Int}(h:eB w b L)(e:w'.heap[b]? = w.heap[b]?):eB w' b L:=let ⟨es,c,h1,U⟩:=h.ex; ⟨h.ok,es,c,e.trans h1,U⟩
theorem eB.lt{w:World}{b:Nat}{L:List Int}(h:eB w b L):b<w.heap.size:=let ⟨_,_,h1,_⟩:=h.ex;cL h1
theorem eB.ext{w w':World}{b:Nat}{L:List Int}(h:eB w b L)(e:Ext w w'):eB w' b L:=h.of (e.heap h.lt)
theorem eB.mod{A:Nat→Prop}{w w':World}{b:Nat}{L:List Int}(h:eB w b L)(e:Mod A w w')(hk:¬A b):eB w' b L:=h.of (e.block b h.lt hk)
theorem DZ.empty:DZ #[] 0 []:=⟨⟨[],rfl,by simp,fun _=>Iff.rfl,Nat.le_refl _,fun p h=>by simp at h⟩,fun e he=>by simp at he,by simp⟩
theorem eB.empty{w:World}{b:Nat}(h:w.heap[b]? = some (.map #[] 0)):eB w b []:=⟨fun _ h=>by simp at h,_,_,h,DZ.empty⟩
theorem gQ.len{mc:Type}{enc:mc→Value}{es:List MapEntry}{l:List (mc×Value)}(h:gQ enc es l):es.length=l.length:=by
 have:=congrArg List.length h
 simpa using this
theorem gQ.at{mc:Type}{enc:mc→Value}{es:List MapEntry}{l:List (mc×Value)}(h:gQ enc es l)(i:Nat):es[i]?.map (fun e=>(e.key,e.val))=l[i]?.map (fun p=>(enc p.1,p.2)):=by
 have:=congrArg (fun q=>q[i]?) h
 simpa using this
theorem eB.look{w:World}{b:Nat}{L:List Int}(h:eB w b L)(x:Int):∃es r z,o8 w (.map (some b)) es∧Instr.findNow (.int .i64) (.int .i64 x) es.toList 0=some r∧kU (.int .i64 0) false r = .int .i64 z:=by
 obtain⟨es,c,h1,hm⟩:=h.ex;obtain⟨l,U,ai,aL,bn,bL⟩:=hm.wL;obtain⟨r,na,im⟩:=vS (F7 .i64 .i64) x es.toList _ 0 U;cases r with
 | none=>exact⟨es,none,0,.inr ⟨b,c,rfl,h1⟩,na,rfl⟩
 | some q =>
  cases aJ:l.find? (fun p=>decide (x=p.1)) with
  | none=>rw[aJ] at im;cases im
  | some p =>
   rw[aJ] at im;obtain⟨z,bU⟩:=bL p (List.mem_of_find?_eq_some aJ);simp only[Option.map_some,Option.some.injEq] at im;exact⟨es,some q,z,.inr ⟨b,c,rfl,h1⟩,na,by simp[kU,im,bU]⟩
theorem ab6{x z:Int}{l:List (Int×Value)}{es:List MapEntry}{j:Nat}(h:gQ (Value.int .i64) es l)(hk:∀p,l[j]? = some p→p.1=x):gQ (Value.int .i64) (es.modify j fun e=>{ e with key:=.int .i64 x,val:=.int .i64 z }) (l.modify j fun p=>(p.1,.int .i64 z)):=by
 unfold gQ;apply List.ext_getElem?;intro i;have ad:=h.at i;simp only[List.getElem?_map,List.getElem?_modify] at *;by_cases e:j=i
 ·subst e;simp only[if_true] at *;cases he:es[j]? with
  | none=>rw[he] at ad;cases aO:l[j]? with
   | none=>simp
   | some p=>rw[aO] at ad;cases ad
  | some q =>
   rw[he] at ad;cases aO:l[j]? with
   | none=>rw[aO] at ad;cases ad
   | some p=>simp[hk p aO]
 ·simp only[if_neg e];cases he:es[i]? with
  | none=>rw[he] at ad;cases aO:l[i]? with
   | none=>simp
   | some p=>rw[aO] at ad;cases ad
  | some q =>
   rw[he] at ad;cases aO:l[i]? with
   | none=>rw[aO] at ad;cases ad
   | some p=>rw[aO] at ad;simpa using ad
theorem PZ{z:Value}(l:List (Int×Value))(j:Nat):(l.modify j fun p=>(p.1,z)).map (·.1)=l.map (·.1):=by
 apply List.ext_getElem?;intro i;simp only[List.getElem?_map,List.getElem?_modify];by_cases e:j=i
 ·subst e;cases l[j]? <;> simp
 ·simp[e]
theorem OJ{k v:Value}(es:List MapEntry)(j:Nat):(es.modify j fun e=>{ e with key:=k,val:=v }).map (·.born)=es.map (·.born):=by
 apply List.ext_getElem?;intro i;simp only[List.getElem?_map,List.getElem?_modify];by_cases e:j=i
 ·subst e;cases es[j]? <;> simp
 ·simp[e]
theorem eB.put{w:World}{b:Nat}{L:List Int}(h:eB w b L)(x z:Int)(aw : -9223372036854775808≤x∧x≤9223372036854775807):∃es c q,w.heap[b]? = some (.map es c)∧Instr.findNow (.int .i64) (.int .i64 x) es.toList 0=some q ∧
  ∀w':World,w'.heap[b]? = some (pG es c (.int .i64 x) (.int .i64 z) q)→eB w' b (L++[x]):=by
 obtain⟨es,c,h1,hm⟩:=h.ex;obtain⟨l,U,ai,aL,bn,bL⟩:=hm.wL;obtain⟨r,na,im⟩:=vS (F7 .i64 .i64) x es.toList _ 0 U;have dd:∀y∈L++[x],-9223372036854775808≤y∧y≤9223372036854775807:=fun y cB=>by
  rcases List.mem_append.1 cB with cB | cB
  ·exact h.ok y cB
  ·simp only[List.mem_singleton] at cB;subst cB;exact aw
 refine⟨es,c,r,h1,na,fun w' hw=>?_⟩;cases r with
 | none =>
  have aN:∀p∈l,p.1≠x:=by
   cases aJ:l.find? (fun p=>decide (x=p.1)) with
   | none =>
    intro p aO e
    have:=List.find?_eq_none.1 aJ p aO
    simp[e] at this
   | some p=>rw[aJ] at im;cases im
  refine⟨dd,_,_,hw,⟨⟨l++[(x,.int .i64 z)],gQ.push U x (.int .i64 z) c,?_,fun y=>?_,?_,fun p aO=>?_⟩,?_,?_⟩⟩
  ·rw[List.map_append,List.map_cons,List.map_nil,List.nodup_append];refine⟨ai,by simp,fun a br b aD=>?_⟩;obtain⟨p,aO,rfl⟩:=List.mem_map.1 br;simp only[List.mem_singleton] at aD;rw[aD];exact aN p aO
  ·rw[List.map_append,List.mem_append,List.mem_append,aL y];simp
  ·rw[List.length_append,List.length_append];simp;exact bn
  ·rcases List.mem_append.1 aO with aO | aO
   ·exact bL p aO
   ·simp only[List.mem_singleton] at aO;subst aO;exact⟨z,rfl⟩
  ·intro e he;simp only[Array.toList_push,List.mem_append,List.mem_singleton] at he;rcases he with he | rfl
   ·have:=hm.born e he;omega
   ·show c<c+1;omega
  ·simp only[Array.toList_push,List.map_append,List.map_cons,List.map_nil];rw[List.nodup_append];refine⟨hm.nodup,by simp,fun a br mS A9=>?_⟩;obtain⟨e,he,rfl⟩:=List.mem_map.1 br;simp only[List.mem_singleton] at A9
   have:=hm.born e he
   omega
 | some JL =>
  obtain⟨j,v⟩:=JL;obtain⟨_,e,he,ay⟩:=H0 na;rw[Nat.sub_zero] at he;have Q9:∀p,l[j]? = some p→p.1=x:=fun p aO=>by
   have:=U.at j
   rw[he,aO] at this;simp only[Option.map_some,Option.some.injEq,Prod.mk.injEq] at this;rw[this.1,F7] at ay;have ay:=Option.some.inj ay;simp only[decide_eq_true_eq] at ay;exact ay.symm
  have uL:x∈L:=by
   have aT:=U.at j;rw[he] at aT;cases aO:l[j]? with
   | none=>rw[aO] at aT;cases aT
   | some p =>
    rw[←aL x,←Q9 p aO];exact List.mem_map.2 ⟨p,List.mem_of_getElem? aO,rfl⟩
  have oQ:w'.heap[b]? = some (.map (es.modify j fun e=>{ e with key:=.int .i64 x,val:=.int .i64 z }) c):=hw;refine⟨dd,_,_,oQ,⟨⟨l.modify j fun p=>(p.1,.int .i64 z),?_,by rw[PZ];exact ai,fun y=>?_,?_,fun p aO=>?_⟩,?_,?_⟩⟩
  ·rw[Array.toList_modify];exact ab6 U Q9
  ·rw[PZ,aL y,List.mem_append,List.mem_singleton];exact⟨.inl,fun q=>q.elim id fun q=>q ▸ uL⟩
  ·rw[List.length_modify,List.length_append];omega
  ·obtain⟨i,ad,rfl⟩:=List.mem_iff_getElem.1 aO;rw[List.getElem_modify];split
   ·exact⟨z,rfl⟩
   ·exact bL _ (List.getElem_mem _)
  ·rw[Array.toList_modify];intro e' mv
   have:e'.born∈es.toList.map (·.born):=by rw[←OJ (k:=.int .i64 x) (v:=.int .i64 z) es.toList j];exact List.mem_map.2 ⟨e',mv,rfl⟩
   obtain⟨du,aj,fV⟩:=List.mem_map.1 this
   have:=hm.born du aj
   omega
  ·rw[Array.toList_modify,OJ];exact hm.nodup
section
variable{P:Program}{gR:World→Prop}{aE:Value→Prop}{w:World}
theorem K.acx{b:Nat}{L:List Int}{x:Int}{t}(h:eB w b L)(hk:∀z,aE (.int .i64 z)):xE (.int .i64) (.int .i64 0) false (.map (some b)) (.int .i64 x) w aE t:=by
 obtain⟨es,r,z,h1,U,ai⟩:=h.look x;exact K.lp h1 U (by rw[ai];exact hk z)
theorem K.acS{b:Nat}{L:List Int}{x z:Int}{t}(h:eB w b L)(aw : -9223372036854775808≤x∧x≤9223372036854775807)(hk:∀w1,dH b w w1→eB w1 b (L++[x])→gR w1):vk (.int .i64) (.map (some b)) (.int .i64 x) (.int .i64 z) w gR t:=by
 obtain⟨es,c,q,h1,U,ai⟩:=h.put x z aw;exact K.hZ h1 U (hk _ (dH.e1 w b _) (ai _ (zD (cL h1))))
end
theorem wf_i64{x:Int}(h : -9223372036854775808≤x∧x≤9223372036854775807):(Lit.int .i64 x).wf=true:=by
 have h1:IntKind.i64.min = -9223372036854775808:=by decide
 have U:IntKind.i64.max=9223372036854775807:=by decide
 simp only[Lit.wf,h1,U,Bool.and_eq_true,decide_eq_true_eq];exact h
theorem eB.own{P:Program}{k:TypeId}{w:World}{b:Nat}{L:List Int}(hk:P.underlying k=some (.int .i64))(h:eB w b L)(dF:L.length≤maxLen) :
  ∃qQ:DataW Unit,w.ownsMap P k (fun _=>some (.lit (.bool true),[])) b L.length qQ∧Maps.size qQ≤L.length∧∀bX:List Int,bX.Perm (intKeys qQ)→bX.Nodup∧∀x,x∈bX↔x∈L:=by
 obtain⟨es,c,h1,hm⟩:=h.ex;obtain⟨l,U,ai,aL,bn,bL⟩:=hm.wL;have hlen:es.toList.length=l.length:=U.len;have oO:∀e∈es.toList,∃x,e.key = .int .i64 x∧WideElems.rd P k (fun _=>some ((.lit (.bool true):DataW Unit),[])) e=some (.int .i64 x,.lit (.bool true)):=fun e he=>by
  obtain⟨i,ad,rfl⟩:=List.mem_iff_getElem.1 he;have jq:=U.at i;rw[List.getElem?_eq_getElem ad,List.getElem?_eq_getElem (by omega)] at jq;simp only[Option.map_some,Option.some.injEq,Prod.mk.injEq] at jq;refine⟨_,jq.1,?_⟩;have hw:=wf_i64 (h.ok l[i].1 ((aL _).1 (List.mem_map.2 ⟨l[i],List.getElem_mem _,rfl⟩)));unfold WideElems.rd;rw[jq.1,Maps.keyOf_int_mk hk hw];rfl
 have Ig:WideElems.Fit P k (fun _=>some ((.lit (.bool true):DataW Unit),[])) es c:=⟨by simp at hlen;omega,⟨hm.born,hm.nodup,by
  have:es.toList.map (·.key)=(l.map (·.1)).map (Value.int .i64):=by
   apply List.ext_getElem?;intro i;rw[List.getElem?_map,List.getElem?_map,List.getElem?_map]
   have:=U.at i
   cases he:es.toList[i]? with
   | none=>rw[he] at this;cases aO:l[i]? with
    | none=>rfl
    | some p=>rw[aO] at this;cases this
   | some q =>
    rw[he] at this;cases aO:l[i]? with
    | none=>rw[aO] at this;cases this
    | some p =>
     rw[aO] at this;simp only[Option.map_some,Option.some.injEq,Prod.mk.injEq] at this;simp only[Option.map_some,this.1]
  rw[this];exact List.pairwise_map.2 (ai.imp fun {a b} dc e=>dc (by injection e))⟩,fun x aw=>let ⟨y,_,cB⟩:=oO x aw; ⟨_,cB⟩⟩
 refine⟨_,World.ownsMap.mono (World.ownsMap_of_fit h1 Ig (fun _ _ _ q=>q)) (by simp at hlen;omega),?_,fun bX aO=>?_⟩
 ·rw[Maps.size_eq,length_sorted];simp at hlen ⊢;omega
 ·have aah:(intKeys (.map ((es.toList.map (WideElems.rg P k (fun _=>some ((.lit (.bool true):DataW Unit),[])))).foldr DataW.insert []))).Perm (l.map (·.1)):=by
   refine((WideShapes.sorted_perm _).map _).trans ?_;rw[List.map_map]
   have:es.toList.map ((fun p:Lit×DataW Unit=>intOf p.1)∘WideElems.rg P k (fun _=>some ((.lit (.bool true):DataW Unit),[])))=l.map (·.1):=by
    apply List.ext_getElem?;intro i;rw[List.getElem?_map,List.getElem?_map];cases he:es.toList[i]? with
    | none =>
     have:=U.at i
     rw[he] at this;cases aO:l[i]? with
     | none=>rfl
     | some p=>rw[aO] at this;cases this
    | some e =>
     obtain⟨x,aw,cB⟩:=oO e (List.mem_of_getElem? he)
     have:=U.at i
     rw[he] at this;cases aO:l[i]? with
     | none=>rw[aO] at this;cases this
     | some p =>
      rw[aO] at this;simp only[Option.map_some,Option.some.injEq,Prod.mk.injEq] at this;rw[aw] at this;have bT:x=p.1:=by have:=this.1;injection this
      simp only[Option.map_some,Function.comp,WideElems.rg_of cB,bT];rfl
   rw[this]
  have yL:=aO.trans aah;exact⟨yL.nodup_iff.2 ai,fun x=>by rw[yL.mem_iff];exact aL x⟩
theorem afy{bX:List Int}(h:bX.Nodup):(bX.mergeSort fun x y=>decide (x≤y)).Pairwise (· < ·):=by
 have af2:∀a b c:Int,decide (a≤b)=true→decide (b≤c)=true→decide (a≤c)=true:=fun a b c h1 U=>by simp only[decide_eq_true_eq] at *;omega
 have to:∀a b:Int,(decide (a≤b)||decide (b≤a))=true:=fun a b=>by simp only[Bool.or_eq_true,decide_eq_true_eq];omega
 have h1:=List.pairwise_mergeSort af2 to bX;have U:(bX.mergeSort fun x y=>decide (x≤y)).Nodup:=(List.mergeSort_perm bX _).nodup_iff.2 h;refine(h1.and U).imp fun {a b} q=>?_;simp only[decide_eq_true_eq] at q;omega
end bt
end
section
namespace o
open Go
theorem adT{p:dj}{s:Scope}(h:(gB p s).2.2=0):whole p s=0∧(jE p s).2=0∧(jP (inner p s) p.cz p.cJ p.cJ 0).2.2=0:=by
 unfold gB at h;by_cases h1:whole p s≠0
 ·rw[if_pos h1] at h;exact absurd h h1
 rw[if_neg h1] at h;by_cases U:(jE p s).2≠0
 ·rw[if_pos U] at h;exact absurd h U
 rw[if_neg U] at h;exact⟨by simpa using h1,by simpa using U,h⟩
theorem OV{own:Scope}{cz:Int}{all:List dD}:∀(l:List dD) (i:Nat),(jP own cz all l i).2.2=0→∀k (h:k<l.length),(ig l[k] cz own).2=0∧(all.take (i+k)).any (fun x=>decide (x.name=l[k].name))=false
 | [],_,_,k,h=>by simp at h
 | c :: r,i,e0,k,h=>by
  simp only[jP] at e0;by_cases h1:(ig c cz own).2≠0
  ·rw[if_pos h1] at e0;exact absurd e0 h1
  rw[if_neg h1] at e0;by_cases U:(all.take i).any (fun x=>decide (x.name=c.name))=true
  ·rw[if_pos U] at e0;cases e0
  rw[if_neg U] at e0;cases k with
  | zero=>exact⟨by simpa using h1,by simpa using U⟩
  | succ k =>
   have:=OV r (i+1) e0 k (by simpa using h)
   simpa[Nat.add_assoc,Nat.add_comm 1 k] using this
theorem u2{α:Type}{l:List α}{n:Int}{x:α}(h:nth l n=some x):0≤n∧l[n.toNat]? = some x∧n.toNat<l.length:=by
 unfold nth at h;by_cases aj:0≤n
 ·rw[if_pos aj] at h;exact⟨aj,h,(List.getElem?_eq_some_iff.1 h).1⟩
 ·rw[if_neg aj] at h;cases h
theorem abZ{n:Int}{s:Scope}(h:(gI n s).2=true):0≤n∧n≤s.scalars.length∧(gI n s).1=if n=0 then 0 else 1+n:=by
 unfold gI at h ⊢;by_cases h1:n=0
 ·subst h1;simp
 ·rw[if_neg h1] at h ⊢;by_cases U:n<0∨(s.scalars.length:Int)<n
  ·rw[if_pos U] at h;cases h
  ·rw[if_neg U,if_neg h1];exact⟨by omega,by omega,rfl⟩
theorem ab7{l:List Var}{n:Int}{s:Scope}(h:(fj l n s).2.2=true):∃v,nth l n=some v∧l[n.toNat]? = some v∧0≤n∧fj l n s=((gI v.scalar s).1,(gI v.over s).1,true)∧(gI v.scalar s).2=true∧(gI v.over s).2=true:=by
 unfold fj at h ⊢;cases aN:nth l n with
 | none=>rw[aN] at h;cases h
 | some v =>
  rw[aN] at h;simp only[Bool.and_eq_true] at h;obtain⟨aj,h1,_⟩:=u2 aN;exact⟨v,rfl,h1,aj,by simp only[h.1,h.2,Bool.and_self],h.1,h.2⟩
theorem F3:∀(a b:List Int),a.Pairwise (· < ·)→b.Pairwise (· < ·)→(∀x,x∈a↔x∈b)→a=b
 | [],[],_,_,_=>rfl
 | [],y :: b,_,_,h=>by have:=(h y).2 (List.mem_cons_self ..);cases this
 | x :: a,[],_,_,h=>by have:=(h x).1 (List.mem_cons_self ..);cases this
 | x :: a,y :: b,br,aD,h=>by
  rw[List.pairwise_cons] at br aD;have e:x=y:=by
   rcases List.mem_cons.1 ((h x).1 (List.mem_cons_self ..)) with e | e
   ·exact e
   ·rcases List.mem_cons.1 ((h y).2 (List.mem_cons_self ..)) with bg | bg
    ·exact bg.symm
    ·have:=aD.1 x e;have:=br.1 y bg;omega
  subst e;congr 1;refine F3 a b br.2 aD.2 fun z=>⟨fun bU=>?_,fun bU=>?_⟩
  ·rcases List.mem_cons.1 ((h z).1 (List.mem_cons_of_mem _ bU)) with e | e
   ·subst e;have:=br.1 z bU;omega
   ·exact e
  ·rcases List.mem_cons.1 ((h z).2 (List.mem_cons_of_mem _ bU)) with e | e
   ·subst e;have:=aD.1 z bU;omega
   ·exact e
def fJ(a n:Nat):List Int:=(List.range n).map fun(k:Nat)=>((a+k:Nat):Int)
theorem TL(a n:Nat):(fJ a n).length=n:=by simp[fJ]
theorem aeW(a:Nat):fJ a 0=[]:=rfl
theorem KD(a:Nat):fJ a 1=[(a:Int)]:=by simp[fJ]
theorem TM(a n:Nat):fJ a (n+1)=fJ a n++[((a+n:Nat):Int)]:=by simp[fJ,List.range_succ]
theorem F5{a n:Nat}{x:Int}:x∈fJ a n↔(a:Int)≤x∧x<((a+n:Nat):Int):=by
 constructor
 ·intro h;obtain⟨k,hk,rfl⟩:=List.mem_map.1 h
  have:=List.mem_range.1 hk
  omega
 ·intro h;refine List.mem_map.2 ⟨(x - a).toNat,List.mem_range.2 (by omega),by omega⟩
theorem aeV(a n:Nat):(fJ a n).Pairwise (· < ·):=by
 induction n with
 | zero=>exact List.Pairwise.nil
 | succ n gf =>
  rw[TM,List.pairwise_append];refine⟨gf,by simp,fun x aw y cB=>?_⟩
  have:=(F5.1 aw).2
  simp only[List.mem_singleton] at cB;omega
structure agQ(l:List Int)(last:Int)(out:List Int):Prop where
 CX:out.Pairwise (· < ·)
 mem:∀x,x∈out↔x∈l∧x≤last
 last : -1≤last
structure mO(l r:List Int):Prop where
 CX:r.Pairwise (· < ·)
 mem:∀x,x∈r↔x∈l
theorem mO.eq{l sS r hb:List Int}(h:mO l r)(k:mO sS hb)(e:∀x,x∈l↔x∈sS):r=hb :=
 F3 r hb h.CX k.CX fun x=>by rw[h.mem,k.mem,e]
theorem mO.adh(a n:Nat):mO (fJ a n) (fJ a n):=⟨aeV a n,fun _=>Iff.rfl⟩
def uS(m:Model)(v:Nat):Nat:=match m.vars[v]? with | some x=>(cells x m.scalars).toNat | none=>0
def EE(m:Model)(q:Nat):Nat:=match (insts m)[q]? with | some x=>x.elem.toNat | none=>0
def jj(m:Model)(c:Nat):Nat:=match m.aH[c]? with | some x=>x.cap.toNat | none=>0
def ry(m:Model)(q v:Nat)(own:Bool):List Int:=if own then fJ (jz m v+EE m q - 1) 1 else fJ (jz m v) (uS m v)
def tO(m:Model)(p:Int)(n:Nat):List Int:=(List.range n).flatMap fun j=>if (insts m)[j]?.map (·.proc)=some p then fJ (dG m j) 1 else []
def lu(m:Model)(q:Nat)(own:Bool)(x:Node):List Int :=
 if x.op=2 then fJ (jz m x.n.toNat) 1
 else if x.op=3 then ry m q x.n.toNat own
 else if x.op=4 then fJ (dG m q+1+x.n.toNat) 1
 else if x.op=6 then fJ (cU m x.n.toNat) 1
 else if x.op=7 then tO m (x.n.tdiv 16) (insts m).length
 else []
def zo(e:List Node):Nat→Bool
 | 0=>false
 | k+1=>match e[k]? with | some x=>decide (x.op=5) | none=>false
def pk(m:Model)(q:Nat)(e:List Node)(n:Nat):List Int:=(List.range n).flatMap fun k=>match e[k]? with | some x=>lu m q (zo e k) x | none=>[]
def tX(m:Model)(c:Nat):List Int:=fJ (cU m c) (1+jj m c)
def td(a:Act):Bool:=match a.index with | [x]=>decide (x.op=5) | _=>false
def r1(m:Model)(q:Nat)(a:Act):List Int :=
 if a.kind=5 then tX m a.to.toNat
 else (if a.kind=2 then pk m q a.index a.index.length else if a.kind=4 then fJ (cU m a.to.toNat) 1 else [])++pk m q a.value a.value.length
def mR(m:Model)(q:Nat)(a:Act):List Int :=
 if a.kind=1 then fJ (jz m a.to.toNat) 1
 else if a.kind=2 then ry m q a.to.toNat (td a)
 else if a.kind=3 then fJ (dG m q+1+a.to.toNat) 1
 else if a.kind=4 then tX m a.to.toNat
 else if a.kind=5 then tX m a.to.toNat++fJ (dG m q+1+a.loc.toNat) 1
 else []
def uj(m:Model)(q:Nat)(c:dD):List Int:=fJ (dG m q) 1++pk m q c.guard c.guard.length
def qK(m:Model)(q:Nat)(c:dD)(n:Nat):List Int:=uj m q c++(c.b6.take n).flatMap (r1 m q)
def od(m:Model)(q:Nat)(c:dD)(n:Nat):List Int:=fJ (dG m q) 1++(c.b6.take n).flatMap (mR m q)
theorem Tv{m:Model}{q:Nat}{c:dD}{n:Nat}(h:n<c.b6.length):qK m q c (n+1)=qK m q c n++r1 m q c.b6[n]:=by
 unfold qK;rw[List.take_succ_eq_append_getElem h,List.flatMap_append,List.flatMap_singleton,List.append_assoc]
theorem US{m:Model}{q:Nat}{c:dD}{n:Nat}(h:n<c.b6.length):od m q c (n+1)=od m q c n++mR m q c.b6[n]:=by
 unfold od;rw[List.take_succ_eq_append_getElem h,List.flatMap_append,List.flatMap_singleton,List.append_assoc]
theorem PG{m:Model}{q:Nat}{e:List Node}{n:Nat}(h:n<e.length):pk m q e (n+1)=pk m q e n++lu m q (zo e n) e[n]:=by
 unfold pk;rw[List.range_succ,List.flatMap_append,List.flatMap_singleton,List.getElem?_eq_getElem h]
theorem S7{e:List Node}{n:Nat}(h:n<e.length):zo e (n+1)=decide (e[n].op=5):=by
 simp only[zo,List.getElem?_eq_getElem h]
theorem Hd{m:Model}{p:Int}{n:Nat}(h:n<(insts m).length):tO m p (n+1)=tO m p n++if (insts m)[n].proc=p then fJ (dG m n) 1 else []:=by
 unfold tO;rw[List.range_succ,List.flatMap_append,List.flatMap_singleton,List.getElem?_eq_getElem h];simp only[Option.map_some,Option.some.injEq]
structure D3(s:Scope)(x:Node):Prop where
 var:x.op=2→0≤x.n∧∃v,s.vars[x.n.toNat]? = some v∧v.over=0
 item:x.op=3→0≤x.n∧x.n.toNat<s.vars.length
 loc:x.op=4→0≤x.n∧x.n.toNat<s.locals.length
 self:x.op=5→1≤s.self∧s.self≤s.scalars.length
 len:x.op=6→0≤x.n∧x.n.toNat<s.aH.length
 at_:x.op=7→0≤x.n∧(x.n.tdiv 16).toNat<s.procs.length
structure rT(s:Scope)(e:List Node):Prop where
 node:∀k (h:k<e.length),D3 s e[k]∧(e[k].op=3→0<k)
 len:e.length≤24
theorem acp{s:Scope}{x:Node}{top:Int}(h:(iq x s top).2=0):D3 s x:=by
 unfold iq at h;by_cases h1:x.op=1
 ·exact⟨by omega,by omega,by omega,by omega,by omega,by omega⟩
 rw[if_neg h1] at h;by_cases U:x.op=2∨x.op=3∨x.op=4
 ·rw[if_pos U] at h;simp only at h;by_cases aF:(fj (if x.op=4 then s.locals else s.vars) x.n s).2.2=false
  ·rw[if_pos aF] at h;cases h
  rw[if_neg aF] at h;obtain⟨v,eO,gA,kS,mz,uQ,yX⟩:=ab7 (by simpa using aF);obtain⟨b9,cq,cm⟩:=abZ yX;rw[mz] at h;simp only at h;have ck:=(List.getElem?_eq_some_iff.1 gA).1;by_cases ai:(x.op=3∧((gI v.over s).1=0∨top≠(gI v.over s).1))∨(x.op≠3∧(gI v.over s).1≠0)
  ·rw[if_pos ai] at h;cases h
  ·refine⟨fun e=>⟨kS,v,?_,?_⟩,fun e=>⟨kS,?_⟩,fun e=>⟨kS,?_⟩,by omega,by omega,by omega⟩
   ·rw[if_neg (by omega)] at gA;exact gA
   ·have:(gI v.over s).1=0:=Classical.byContradiction fun aN=>ai (.inr ⟨by omega,aN⟩)
    rw[cm] at this;split at this
    ·assumption
    ·omega
   ·rw[if_neg (by omega)] at ck;exact ck
   ·rw[if_pos e] at ck;exact ck
 ·rw[if_neg U] at h;unfold kT at h;refine⟨by omega,by omega,by omega,fun e=>?_,fun e=>?_,fun e=>?_⟩
  ·rw[if_pos e] at h;by_cases q:1≤s.self∧s.self≤s.scalars.length
   ·exact q
   ·rw[if_neg q] at h;cases h
  ·rw[if_neg (by omega),if_pos e] at h;unfold iE at h;cases aN:nth s.aH x.n with
   | none=>rw[aN] at h;cases h
   | some c=>exact⟨(u2 aN).1,(u2 aN).2.2⟩
  ·rw[if_neg (by omega),if_neg (by omega),if_pos e] at h;unfold yY at h;by_cases q:0≤x.n
   ·rw[if_pos q] at h;cases aN:nth s.procs (x.n.tdiv 16) with
    | none=>rw[aN] at h;cases h
    | some c=>exact⟨q,(u2 aN).2.2⟩
   ·rw[if_neg q] at h;cases h
theorem abW{e:List Node}{s:Scope}(h:(kind e s).2=0):rT s e:=by
 unfold kind lx at h;by_cases h1:e.length > 24
 ·rw[if_pos h1] at h;cases h
 rw[if_neg h1] at h;by_cases U:e.length=0
 ·exact⟨fun k hk=>by omega,by omega⟩
 rw[if_neg U] at h;by_cases ai:(gh (fP s) e []).1≠0
 ·rw[if_pos ai] at h;exact absurd h ai
 have ai:(gh (fP s) e []).1=0:=by simpa using ai
 refine⟨fun k hk=>?_,by omega⟩;have sH:∀j,(gh (fP s) (e.take j) []).1=0:=fun j=>Classical.byContradiction fun aN=>by
  have:=TR (f:=fP s) (e:=e) (k:=j) rfl aN
  rw[this] at ai;exact aN ai
 have nS:gh (fP s) (e.take k) []=(0,(gh (fP s) (e.take k) []).2):=Prod.ext (sH k) rfl;have aL:=C7 hk nS;have bn:=sH (k+1);rw[aL] at bn;unfold stepG at bn;by_cases eb:e9 e[k].op<0
 ·rw[if_pos eb] at bn;cases bn
 rw[if_neg eb] at bn;by_cases dY:((gh (fP s) (e.take k) []).2.length:Int)<e9 e[k].op
 ·rw[if_pos dY] at bn;cases bn
 rw[if_neg dY] at bn;by_cases eg:(fP s e[k] (gh (fP s) (e.take k) []).2).2≠0
 ·rw[if_pos eg] at bn;exact absurd bn eg
 have eg:(fP s e[k] (gh (fP s) (e.take k) []).2).2=0:=by simpa using eg
 constructor
 ·by_cases a8:yU e[k].op=false
  ·unfold fP at eg;rw[S3 a8] at eg;exact acp eg
  ·have:9≤e[k].op:=by
    simp only[yU,decide_eq_false_iff_not] at a8;omega
   exact⟨by omega,by omega,by omega,by omega,by omega,by omega⟩
 ·intro bO;apply Classical.byContradiction;intro aN;have Fk:k=0:=by omega
  subst Fk;rw[bO] at dY;simp[gh,e9] at dY
theorem Ee{e:List Node}{k:Int}{s:Scope}(h:asked e k s=0):rT s e:=by
 unfold asked at h;by_cases h1:(kind e s).2≠0
 ·rw[if_pos h1] at h;exact absurd h h1
 ·exact abW (by simpa using h1)
structure pS(s:Scope)(a:Act):Prop where
 set:a.kind=1→0≤a.to∧∃v,s.vars[a.to.toNat]? = some v∧v.over=0
 item:a.kind=2→0≤a.to∧a.to.toNat<s.vars.length∧rT s a.index
 loc:a.kind=3→0≤a.to∧a.to.toNat<s.locals.length
 chan:a.kind=4∨a.kind=5→0≤a.to∧a.to.toNat<s.aH.length
 recv:a.kind=5→0≤a.loc∧a.loc.toNat<s.locals.length
 val:a.kind≠5→rT s a.value
 kind:1≤a.kind∧a.kind≤5
theorem O7{l:List Var}{n:Int}{s:Scope}{q:Var×Int}(h:declared l n s=some q):0≤n∧l[n.toNat]? = some q.1∧n.toNat<l.length:=by
 unfold declared at h;cases aN:nth l n with
 | none=>rw[aN] at h;cases h
 | some v =>
  rw[aN] at h;simp only at h;split at h
  ·injection h with h
   subst h;exact u2 aN
  ·cases h
theorem VA{a:Act}{s:Scope}(h:kC a s=0):pS s a:=by
 unfold kC at h;by_cases h1:a.kind=1∨a.kind=2∨a.kind=3
 ·rw[if_pos h1] at h;cases bs:declared (if a.kind=3 then s.locals else s.vars) a.to s with
  | none=>rw[bs] at h;cases h
  | some q =>
   rw[bs] at h;obtain⟨v,k⟩:=q;obtain⟨d1,d2,d3⟩:=O7 bs;simp only at h;by_cases U:(v.over≠0)≠(a.kind=2)
   ·rw[if_pos U] at h;cases h
   rw[if_neg U] at h;have U:(v.over≠0)=(a.kind=2):=Classical.byContradiction fun q=>U q;by_cases ai:a.kind=2∧asked a.index (1+v.over) s≠0
   ·rw[if_pos ai] at h;exact absurd h ai.2
   rw[if_neg ai] at h;refine⟨fun e=>⟨d1,v,?_,?_⟩,fun e=>⟨d1,?_,?_⟩,fun e=>⟨d1,?_⟩,by omega,by omega,fun _=>Ee h,by omega⟩
   ·rw[if_neg (by omega)] at d2;exact d2
   ·apply Classical.byContradiction;intro aN
    have:a.kind=2:=U ▸ aN
    omega
   ·rw[if_neg (by omega)] at d3;exact d3
   ·exact Ee (Classical.byContradiction fun aN=>ai ⟨e,aN⟩)
   ·rw[if_pos e] at d3;exact d3
 ·rw[if_neg h1] at h;by_cases U:a.kind=4∨a.kind=5
  ·rw[if_pos U] at h;cases av:channel a.to s with
   | none=>rw[av] at h;cases h
   | some k =>
    rw[av] at h;simp only at h;have sr:0≤a.to∧a.to.toNat<s.aH.length:=by
     unfold channel at av;cases aN:nth s.aH a.to with
     | none=>rw[aN] at av;cases av
     | some c=>exact⟨(u2 aN).1,(u2 aN).2.2⟩
    refine⟨by omega,by omega,by omega,fun _=>sr,fun e=>?_,fun e=>?_,by omega⟩
    ·rw[if_pos e] at h;unfold C5 at h;cases bs:declared s.locals a.loc s with
     | none=>rw[bs] at h;cases h
     | some q =>
      obtain⟨d1,d2,d3⟩:=O7 bs;exact⟨d1,d3⟩
    ·rw[if_neg e] at h;exact Ee h
  ·rw[if_neg U] at h;cases h
structure tt(s:Scope)(c:dD):Prop where
 guard:rT s c.guard
 act:∀k (h:k<c.b6.length),pS s c.b6[k]
 gT:c.b6.length≤6
theorem Oq{s:Scope}:∀(l:List Act) (i:Nat) (t:Bool),(kd s l i t).2=0→∀k (h:k<l.length),pS s l[k]
 | [],_,_,_,k,h=>by simp at h
 | a :: r,i,t,h,k,hk=>by
  unfold kd at h;by_cases h1:(gi a&&t)=true
  ·rw[if_pos h1] at h;cases h
  rw[if_neg h1] at h;by_cases U:kC a s≠0
  ·rw[if_pos U] at h;exact absurd h U
  rw[if_neg U] at h;cases k with
  | zero=>exact VA (by simpa using U)
  | succ k=>exact Oq r _ _ h k (by simpa using hk)
theorem Xf{c:dD}{cz:Int}{s:Scope}(h:(ig c cz s).2=0):tt s c:=by
 unfold ig at h;by_cases h1:head c cz≠0
 ·rw[if_pos h1] at h;exact absurd h h1
 rw[if_neg h1] at h;by_cases U:c.guard.length > 0∧asked c.guard 1 s≠0
 ·rw[if_pos U] at h;exact absurd h U.2
 rw[if_neg U] at h;refine⟨?_,Oq _ _ _ h,?_⟩
 ·by_cases a6:c.guard.length > 0
  ·exact Ee (Classical.byContradiction fun aN=>U ⟨a6,aN⟩)
  ·exact⟨fun k hk=>by omega,by omega⟩
 ·apply Classical.byContradiction;intro aN;apply h1;unfold head;by_cases eb:isName c.name=false
  ·rw[if_pos eb];decide
  rw[if_neg eb];by_cases dY:c.from_<0∨cz≤c.from_∨c.to<0∨cz≤c.to
  ·rw[if_pos dY];decide
  rw[if_neg dY,if_pos (by omega)];decide
theorem Xc{m:Model}(h:(check m).dh=0):(lv m).dh=0:=by
 unfold check at h;by_cases bs:(data m).dh≠0
 ·rw[if_pos bs] at h;exact absurd h bs
 rw[if_neg bs] at h;apply Classical.byContradiction;intro aO;rw[if_pos aO] at h;exact aO h
theorem Xi{m:Model}(h:(check m).dh=0){p k:Nat}(aO:p<m.procs.length)(hk:k<m.procs[p].cJ.length):tt (inner m.procs[p] (fI m)) m.procs[p].cJ[k]:=by
 obtain⟨fk,_,_⟩:=Tf (Xc h);obtain⟨_,eO,_,_⟩:=EH aO (fk p aO);obtain⟨_,_,mz⟩:=adT eO;have e:gq m (p:Int)=inner m.procs[p] (fI m):=by
  unfold gq;rw[h0 (by omega) (by omega)];rfl
 have bn:=(OV _ _ mz k hk).1;rw[e] at bn;exact Xf bn
theorem vU{L:List (List Int)}{B:List (List di)}(h:L.map List.length=B.map List.length):L.flatten.length=total B:=by
 rw[List.length_flatten,h];rfl
def pre(xO:List Int)(d:Nat):List Int:=xO.take d++List.replicate (xO.length - d) 0
theorem zG{xO:List Int}{d:Nat}{x:Int}(h:xO[d]? = some x):xO.take (d+1)=xO.take d++[x]:=by
 obtain⟨bs,rfl⟩:=List.getElem?_eq_some_iff.1 h;exact List.take_succ_eq_append_getElem bs
theorem Wu{m:Model}{i:Nat}(h:i<m.aH.length):cU m (i+1)=cU m i+(1+m.aH[i].cap.toNat):=by
 have bA:i<(c7 m).length:=by simpa[c7] using h
 unfold cU;rw[Dq bA];simp[c7,r7];omega
theorem Wv(m:Model):cU m 0=total (cF m):=by simp[cU,total]
theorem Sk(s w:Int):∀(l:List di) (k j:Nat) (h:j<l.length),(eR s w l k)[j]? = some ⟨s,w,(k+j:Nat),l[j].aZ,l[j].ad,l[j].kind⟩
 | [],_,_,h=>by simp at h
 | b :: l,k,0,_=>by simp[eR]
 | b :: l,k,j+1,h=>by
  simp only[eR,List.getElem?_cons_succ,List.getElem_cons_succ];rw[Sk s w l (k+1) j (by simpa using h),show k+1+j=k+(j+1) from by omega]
theorem Ht(s:Int):∀(ls:List (List di)) (i w k:Nat) (hw:w<ls.length) (hk:k<ls[w].length),(cellsOf s ls i)[total (ls.take w)+k]? = some ⟨s,(i+w:Nat),k,ls[w][k].aZ,ls[w][k].ad,ls[w][k].kind⟩
 | [],_,_,_,hw,_=>by simp at hw
 | l :: r,i,0,k,_,hk=>by
  simp only[List.take_zero,total,List.map_nil,List.sum_nil,Nat.zero_add,List.getElem_cons_zero,cellsOf] at hk ⊢;rw[List.getElem?_append_left (by rw[rA];exact hk),Sk s i l 0 k hk];simp
 | l :: r,i,w+1,k,hw,hk=>by
  simp only[List.take_succ_cons,Dp,List.getElem_cons_succ,cellsOf] at hk ⊢;rw[List.getElem?_append_right (by rw[rA];omega),rA,show l.length+total (r.take w)+k - l.length=total (r.take w)+k from by omega,Ht s r (i+1) w k (by simpa using hw) hk,show i+1+w=i+(w+1) from by omega]
theorem aci{m:Model}{k p:Nat}(hk:k<(insts m).length)(aO:p<m.procs.length)(aD:jY m (insts m)[k]=rG m.scalars m.procs[p]):∃h:dG m k<(b1 m).length,(b1 m)[dG m k].aZ=0∧(b1 m)[dG m k].ad=m.procs[p].cz - 1:=by
 have hw:k<(eN m).length:=by simpa[eN] using hk
 have e:(eN m)[k]=rG m.scalars m.procs[p]:=by simp[eN,aD]
 have aj:0<(eN m)[k].length:=by rw[e,xc];omega
 have h1:=Ht 3 (eN m) 0 k 0 hw aj;have U:=ach (m:=m) (c:=dG m k) (by unfold dG;omega);rw[show dG m k - (total (cF m)+total (c7 m))=total ((eN m).take k)+0 from by unfold dG;omega,h1] at U;obtain⟨ai,aL⟩:=List.getElem?_eq_some_iff.1 U;refine⟨ai,?_,?_⟩
 ·rw[aL];simp only[e];rfl
 ·rw[aL];simp only[e];rfl
theorem Fits.loc{m:Model}{s:List Int}(h:Fits m s){k p:Nat}(hk:k<(insts m).length)(aO:p<m.procs.length)(aD:jY m (insts m)[k]=rG m.scalars m.procs[p]):∃d:Nat,s[dG m k]? = some (d:Int)∧(d:Int)<m.procs[p].cz:=by
 obtain⟨h1,U,ai⟩:=aci hk aO aD;have ay:dG m k<s.length:=by rw[h.len];exact h1
 have aL:=h.cell _ ay h1;rw[U,ai] at aL;refine⟨s[dG m k].toNat,?_,by omega⟩;rw[List.getElem?_eq_getElem ay,Int.toNat_of_nonneg aL.1]
theorem OF(m:Model)(s:List Int)(p l:Int)(k:Nat):r3 m s p l (k+1)=r3 m s p l k+if ((insts m)[k]?.map (·.proc))=some p∧s[dG m k]? = some l then 1 else 0:=by
 unfold r3;rw[List.range_succ,List.filter_append,List.length_append,List.filter_cons,List.filter_nil];by_cases h:((insts m)[k]?.map (·.proc))=some p∧s[dG m k]? = some l
 ·rw[decide_eq_true h,if_pos rfl,if_pos h];rfl
 ·rw[decide_eq_false h,if_neg (by simp),if_neg h];rfl
theorem vB(m:Model)(s:List Int)(p:Nat)(n:Int)(k:Nat):(jN m s p n k).length=n.toNat:=by simp[jN]
theorem Ef{m:Model}{s:List Int}{p:Nat}{n:Int}{k d:Nat}(h:d<n.toNat):(jN m s p n k)[d]? = some ((r3 m s p d k:Nat):Int):=by
 simp[jN,h]
theorem VZ(m:Model)(s:List Int)(p:Nat)(n:Int):jN m s p n 0=List.replicate n.toNat 0:=by
 apply List.ext_getElem?;intro i;by_cases h:i<n.toNat
 ·rw[Ef h];simp[r3,h]
 ·rw[List.getElem?_eq_none (by rw[vB];omega),List.getElem?_eq_none (by simp;omega)]
theorem VX{m:Model}{s:List Int}{p:Nat}{n:Int}{k:Nat}(h:(insts m)[k]?.map (·.proc)≠some (p:Int)):jN m s p n (k+1)=jN m s p n k:=by
 unfold jN;apply List.map_congr_left;intro l _;rw[OF,if_neg (fun e=>h e.1),Nat.add_zero]
theorem VY{m:Model}{s:List Int}{p:Nat}{n:Int}{k d:Nat}(h:(insts m)[k]?.map (·.proc)=some (p:Int))(ay:s[dG m k]? = some (d:Int))(bs:d<n.toNat):jN m s p n (k+1)=(jN m s p n k).set d ((r3 m s p d k:Nat)+1:Int):=by
 apply List.ext_getElem?;intro i;rw[List.getElem?_set];by_cases ad:i<n.toNat
 ·rw[Ef ad,OF];by_cases IY:d=i
  ·subst IY;rw[if_pos ⟨h,ay⟩,if_pos rfl,if_pos (by rw[vB];exact bs)];rfl
  ·rw[if_neg (fun e=>IY (by have bg:=e.2;rw[ay] at bg;have bO:=Option.some.inj bg;omega)),if_neg IY,Ef ad,Nat.add_zero]
 ·rw[List.getElem?_eq_none (by rw[vB];omega),if_neg (by omega),List.getElem?_eq_none (by rw[vB];omega)]
theorem OE(m:Model)(s:List Int)(p l:Int)(k:Nat):r3 m s p l k≤k:=by
 unfold r3;refine Nat.le_trans (List.length_filter_le _ _) ?_;simp
theorem RX{m:Model}:∀(l:List dj) (i:Nat),l=m.procs.drop i→∀x∈iY m l i,∃(p:Nat) (h:p<m.procs.length),x.proc=p∧(m.procs[p].over≠0→1≤x.elem)
 | [],_,_,x,aw=>by simp[iY] at aw
 | p :: r,i,h,x,aw=>by
  have ad:i<m.procs.length:=by
   apply Classical.byContradiction;intro aN;rw[List.drop_eq_nil_of_le (by omega)] at h;cases h
  rw[List.drop_eq_getElem_cons ad] at h;injection h with h1 U
  simp only[iY,List.mem_append] at aw;rcases aw with (aw | aw) | aw
  ·unfold hN at aw;split at aw
   ·rename_i aj;rw[List.mem_singleton] at aw;subst aw;exact⟨i,ad,rfl,fun aN=>absurd (h1 ▸ aj) aN⟩
   ·cases aw
  ·unfold ir at aw;obtain⟨k,_,rfl⟩:=List.mem_map.1 aw;exact⟨i,ad,rfl,fun _=>by simp only;omega⟩
  ·exact RX r (i+1) U x aw
structure h8(m:Model)(q p:Nat):Prop where
 aF:q<(insts m).length
 aO:p<m.procs.length
 eq:(insts m)[q].proc=p
 elem:m.procs[p].over≠0→1≤(insts m)[q].elem
 eW:0≤(insts m)[q].elem∧(insts m)[q].elem≤4
theorem JF{m:Model}{q:Nat}(h:q<(insts m).length):∃p,h8 m q p:=by
 obtain⟨p,aO,e,h1⟩:=RX m.procs 0 (by simp) _ (List.getElem_mem h);exact⟨p,h,aO,e,h1,(qw _ (List.getElem_mem h)).elem⟩
theorem h8.nth{m:Model}{q p:Nat}(h:h8 m q p):o.nth m.procs ((insts m)[q]'(h.aF)).proc=some (m.procs[p]'(h.aO)):=by
 rw[h.eq,h0 (by omega) (by have:=h.aO;omega)];rfl
theorem h8.OH{m:Model}{q p:Nat}(h:h8 m q p):jY m ((insts m)[q]'(h.aF))=rG m.scalars (m.procs[p]'(h.aO)):=by
 unfold jY;rw[h.nth]
theorem h8.room{m:Model}{q p:Nat}(h:h8 m q p):dG m q+(1+(m.procs[p]'(h.aO)).vars.length)≤fO m:=by
 have:=RR h.aF
 rw[h.OH,xc] at this;exact this
theorem HO{m:Model}{q:Nat}(h:q<(insts m).length):EE m q=((insts m)[q]'h).elem.toNat:=by
 unfold EE;rw[List.getElem?_eq_getElem h]
theorem y3{m:Model}{v:Nat}(h:v<m.vars.length):uS m v=(cells m.vars[v] m.scalars).toNat:=by
 unfold uS;rw[List.getElem?_eq_getElem h]
theorem oA{m:Model}{c:Nat}(h:c<m.aH.length):jj m c=m.aH[c].cap.toNat:=by
 unfold jj;rw[List.getElem?_eq_getElem h]
theorem Gs{m:Model}(bd:eI m){v:Nat}(h:v<m.vars.length):jz m v+uS m v≤64:=by
 have:=xn h
 rw[y3 h]
 have:=q1 m
 have:fO m≤64:=l3 bd
 omega
theorem tS{m:Model}(bd:eI m){c:Nat}(h:c<m.aH.length):cU m c+(1+jj m c)≤64:=by
 have:=x9 h
 rw[oA h]
 have:=q1 m
 have:fO m≤64:=l3 bd
 omega
theorem yS{m:Model}(bd:eI m){q:Nat}(h:q<(insts m).length):dG m q+1≤64:=by
 obtain⟨p,aO⟩:=JF h
 have:=aO.room
 have:fO m≤64:=l3 bd
 omega
theorem h8.zz{m:Model}(bd:eI m){q p:Nat}(h:h8 m q p):dG m q+(1+(m.procs[p]'(h.aO)).vars.length)≤64:=by
 have:=h.room
 have:fO m≤64:=l3 bd
 omega
structure eT(n:Nat)(l:List Int):Prop where
 aZ:∀x∈l,0≤x∧x<80
 len:l.length≤n
theorem eT.row{a n k:Nat}(h:a+n≤80)(aN:n≤k):eT k (fJ a n):=⟨fun x aw=>by have:=F5.1 aw;omega,by rw[TL];exact aN⟩
theorem eT.nil(n:Nat):eT n []:=⟨fun x aw=>(by cases aw),Nat.zero_le _⟩
theorem eT.app{a b n:Nat}{l r:List Int}(h:eT a l)(k:eT b r)(aN:a+b≤n):eT n (l++r):=⟨fun x aw=>by
 rcases List.mem_append.1 aw with aw | aw
 ·exact h.aZ x aw
 ·exact k.aZ x aw,by rw[List.length_append];have:=h.len;have:=k.len;omega⟩
theorem eT.mono{a n:Nat}{l:List Int}(h:eT a l)(aN:a≤n):eT n l:=⟨h.aZ,Nat.le_trans h.len aN⟩
theorem R5{m:Model}(bd:eI m){q v:Nat}(aF:q<(insts m).length)(aU:v<m.vars.length)(own:Bool):eT 64 (ry m q v own):=by
 have:=Gs bd aU
 have aL:=(qw _ (List.getElem_mem aF)).elem
 have:=HO aF
 unfold ry;cases own
 ·exact eT.row (by omega) (by omega)
 ·exact eT.row (by omega) (by omega)
theorem OD{m:Model}(bd:eI m)(p:Int):∀n,n≤(insts m).length→eT n (tO m p n)
 | 0,_=>eT.nil _
 | n+1,h=>by
  rw[Hd (by omega)]
  have:=yS bd (q:=n) (by omega)
  refine eT.app (OD bd p n (by omega)) (b:=1) ?_ (Nat.le_refl _);split
  ·exact eT.row (by omega) (Nat.le_refl _)
  ·exact eT.nil _
theorem JG{m:Model}(bd:eI m):(insts m).length≤30:=by have:=sO m;have:=bd.procs;omega
theorem ac2{m:Model}(bd:eI m){q p:Nat}(h:h8 m q p){x:Node}(aw:D3 (inner (m.procs[p]'(h.aO)) (fI m)) x)(own:Bool):eT 64 (lu m q own x):=by
 unfold lu;by_cases U:x.op=2
 ·rw[if_pos U];obtain⟨_,v,aU,_⟩:=aw.var U;have e7:x.n.toNat<m.vars.length:=(List.getElem?_eq_some_iff.1 aU).1
  have:=xn e7
  have:=q1 m
  have:fO m≤64:=l3 bd
  exact eT.row (by omega) (by omega)
 rw[if_neg U];by_cases ai:x.op=3
 ·rw[if_pos ai];exact R5 bd h.aF (aw.item ai).2 own
 rw[if_neg ai];by_cases aL:x.op=4
 ·rw[if_pos aL];have bn:x.n.toNat<(m.procs[p]'(h.aO)).vars.length:=(aw.loc aL).2
  have:=h.zz bd
  exact eT.row (by omega) (by omega)
 rw[if_neg aL];by_cases bL:x.op=6
 ·rw[if_pos bL]
  have:=tS bd (aw.len bL).2
  exact eT.row (by omega) (by omega)
 rw[if_neg bL];by_cases b7:x.op=7
 ·rw[if_pos b7];exact(OD bd _ _ (Nat.le_refl _)).mono (by have:=JG bd;omega)
 ·rw[if_neg b7];exact eT.nil _
theorem PH{m:Model}(bd:eI m){q p:Nat}(h:h8 m q p){e:List Node}(he:rT (inner (m.procs[p]'(h.aO)) (fI m)) e):∀n,n≤e.length→eT (64*n) (pk m q e n)
 | 0,_=>eT.nil _
 | n+1,aN=>by
  rw[PG (by omega)];exact eT.app (PH bd h he n (by omega)) (ac2 bd h (he.node n (by omega)).1 _) (by omega)
theorem HX{m:Model}(bd:eI m){q p:Nat}(h:h8 m q p){e:List Node}(he:rT (inner (m.procs[p]'(h.aO)) (fI m)) e){n:Nat}(aN:n≤e.length):eT 1536 (pk m q e n) :=
 (PH bd h he n aN).mono (by have:=he.len;omega)
theorem Hv{m:Model}(bd:eI m){c:Nat}(h:c<m.aH.length):eT 64 (tX m c):=by
 have:=tS bd h
 exact eT.row (by omega) (by omega)
theorem Vw{m:Model}(bd:eI m){q p:Nat}(h:h8 m q p){a:Act}(br:pS (inner (m.procs[p]'(h.aO)) (fI m)) a):eT 3072 (r1 m q a):=by
 unfold r1;by_cases bn:a.kind=5
 ·rw[if_pos bn];exact(Hv bd (br.chan (.inr bn)).2).mono (by omega)
 ·rw[if_neg bn];refine eT.app (a:=1536) ?_ (HX bd h (br.val bn) (Nat.le_refl _)) (by omega);by_cases U:a.kind=2
  ·rw[if_pos U];exact HX bd h (br.item U).2.2 (Nat.le_refl _)
  rw[if_neg U];by_cases aL:a.kind=4
  ·rw[if_pos aL]
   have:=tS bd (br.chan (.inl aL)).2
   exact eT.row (by omega) (by omega)
  ·rw[if_neg aL];exact eT.nil _
theorem Vx{m:Model}(bd:eI m){q p:Nat}(h:h8 m q p){a:Act}(br:pS (inner (m.procs[p]'(h.aO)) (fI m)) a):eT 80 (mR m q a):=by
 have nD:=h.zz bd;unfold mR;by_cases h1:a.kind=1
 ·rw[if_pos h1];obtain⟨_,v,aU,_⟩:=br.set h1;have e7:a.to.toNat<m.vars.length:=(List.getElem?_eq_some_iff.1 aU).1
  have:=Gs bd e7
  exact eT.row (by omega) (by omega)
 rw[if_neg h1];by_cases U:a.kind=2
 ·rw[if_pos U];exact(R5 bd h.aF (br.item U).2.1 _).mono (by omega)
 rw[if_neg U];by_cases ai:a.kind=3
 ·rw[if_pos ai];have bn:a.to.toNat<(m.procs[p]'(h.aO)).vars.length:=(br.loc ai).2;exact eT.row (by omega) (by omega)
 rw[if_neg ai];by_cases aL:a.kind=4
 ·rw[if_pos aL];exact(Hv bd (br.chan (.inl aL)).2).mono (by omega)
 rw[if_neg aL];by_cases bn:a.kind=5
 ·rw[if_pos bn];have bL:a.loc.toNat<(m.procs[p]'(h.aO)).vars.length:=(br.recv bn).2;exact eT.app (Hv bd (br.chan (.inr bn)).2) (eT.row (k:=1) (by omega) (by omega)) (by omega)
 ·rw[if_neg bn];exact eT.nil _
theorem P1{m:Model}(bd:eI m){q p:Nat}(h:h8 m q p){c:dD}(av:tt (inner (m.procs[p]'(h.aO)) (fI m)) c):eT 1537 (uj m q c):=by
 have:=yS bd h.aF
 exact eT.app (eT.row (k:=1) (by omega) (by omega)) (HX bd h av.guard (Nat.le_refl _)) (by omega)
theorem Tw{m:Model}(bd:eI m){q p:Nat}(h:h8 m q p){c:dD}(av:tt (inner (m.procs[p]'(h.aO)) (fI m)) c):∀n,n≤c.b6.length→eT (1537+3072*n) (qK m q c n)
 | 0,_=>by
  unfold qK;simpa using P1 bd h av
 | n+1,aN=>by
  rw[Tv (by omega)];exact eT.app (Tw bd h av n (by omega)) (Vw bd h (av.act n (by omega))) (by omega)
theorem UT{m:Model}(bd:eI m){q p:Nat}(h:h8 m q p){c:dD}(av:tt (inner (m.procs[p]'(h.aO)) (fI m)) c):∀n,n≤c.b6.length→eT (1+80*n) (od m q c n)
 | 0,_=>by
  have:=yS bd h.aF
  unfold od;simpa using eT.row (a:=dG m q) (n:=1) (k:=1) (by omega) (by omega)
 | n+1,aN=>by
  rw[US (by omega)];exact eT.app (UT bd h av n (by omega)) (Vx bd h (av.act n (by omega))) (by omega)
theorem afn{a:Act}(h:a.index.length=1):td a=decide ((a.index[0]'(by omega)).op=5):=by
 obtain⟨x,aw⟩:=List.length_eq_one_iff.1 h;unfold td;simp[aw]
theorem afm{a:Act}(h:¬a.index.length=1):td a=false:=by
 unfold td;split
 ·rename_i x aw;rw[aw] at h;exact absurd rfl h
 ·rfl
theorem adY(L:List Int)(a n:Nat):L++fJ a (n+1)=L++fJ a n++[((a+n:Nat):Int)]:=by rw[TM,List.append_assoc]
end o
namespace Go.Proofs.R
open Go Go.RowKit bt
structure mP(w:World)(b:Nat)(m:o.Model)(q:Nat):Prop where
 ex:∃cs ys cn,w.heap[b]? = some (.cells (cs++ys++[cn,.int .i64 q]).toArray T.p8)∧o.ew w cs m∧o.jg w ys (o.layout m)∧oh w cn (o.insts m)
theorem mP.ext{w w':World}{b q:Nat}{m:o.Model}(he:Ext w w')(h:mP w b m q):mP w' b m q :=
 let ⟨xs,cs,cn,aj,h1,U,ai⟩:=h.ex; ⟨xs,cs,cn,he.obj aj,h1.ext he,U.ext he,ai.ext Flat.ext he⟩
theorem mP.form{w:World}{b q:Nat}{m:o.Model}(h:mP w b m q):∃cv bN b9 c1 cq c2 cm bK cw bQ hz d0 fk d1 gp d2 gL d3 h2 d4 et ci,
  w.heap[b]? = some (.cells #[.slice hz m.scalars.length d0,.slice fk m.vars.length d1,.slice gp m.aH.length d2,.slice gL m.procs.length d3,.slice h2 m.props.length d4,
   .slice cv (o.layout m).vars.length bN,.slice b9 (o.layout m).aH.length c1,.slice cq (o.layout m).insts.length c2,.int .i64 (o.layout m).cells,.slice cm (o.layout m).aZ.length bK,.slice cw (o.layout m).ad.length bQ,.slice et (o.insts m).length ci,.int .i64 q] T.p8) ∧
  bB 1 (Flat dk) w (.slice cv (o.layout m).vars.length bN) (o.layout m).vars∧bB 1 (Flat dk) w (.slice b9 (o.layout m).aH.length c1) (o.layout m).aH∧bB 1 (Flat dk) w (.slice cq (o.layout m).insts.length c2) (o.layout m).insts ∧
  o.fY w (.slice hz m.scalars.length d0) m.scalars∧o.gF w (.slice fk m.vars.length d1) m.vars∧o.lG w (.slice gp m.aH.length d2) m.aH∧o.o9 w (.slice gL m.procs.length d3) m.procs ∧
  oh w (.slice et (o.insts m).length ci) (o.insts m):=by
 obtain⟨cs,xs,cn,aD,bd,dF,bM⟩:=h.ex;obtain⟨cv,bN,b9,c1,cq,c2,cm,bK,cw,bQ,rfl,gM,fl,fD,hc,jF⟩:=dF.form;obtain⟨hz,d0,fk,d1,gp,d2,gL,d3,h2,d4,rfl,aj,h1,U,ai,aL,_⟩:=bd.form;obtain⟨et,ci,rfl,_⟩:=bM.form;exact⟨cv,bN,b9,c1,cq,c2,cm,bK,cw,bQ,hz,d0,fk,d1,gp,d2,gL,d3,h2,d4,et,ci,aD,gM,fl,fD,aj,h1,U,ai,bM⟩
theorem oW(b:Nat)(L:List Int)(a n:Nat)(x y:Int)(w:World)(h:eB w b L)(aw:x=a)(cB:y=n)(hm:a+n≤1000000000) :
  bq Tryz.prog F.a #[.map (some b),.int .i64 x,.int .i64 y] w fun _ w'=>eB w' b (L++o.fJ a n)∧Mod (fun i=>i=b) w w':=by
 subst aw cB;refine bI E.a ?_;refine bF ?_;refine an ?_;refine K.da 8 n [0,1,7] (fun _:Unit=>[]) () (fun k _ W=>Mod (fun i=>i=b) w W∧eB W b (L++o.fJ a k)) bw bw ⟨Mod.refl _ _,by simpa[o.aeW] using h⟩ ?_;rintro k _ S w1 hk ⟨sD,fv⟩;refine an ?_;apply K.cond<;>intro g1
 ·refine an ?_;refine K.acx fv fun z=>?_;refine an ?_;refine K.GB ?_;refine an ?_;refine K.acS fv (by omega) fun aR oQ dS=>?_;refine an ?_;refine⟨by omega,bu,(),trivial,sD.trans (oQ.mod rfl),?_⟩;rw[o.adY];exact dS
 ·have oK:k=n:=by omega
  subst oK;refine an ?_;exact⟨fv,sD⟩
theorem yA(b q:Nat)(m:o.Model)(w:World)(h:mP w b m q)(aF:q<(o.insts m).length) :
  bq Tryz.prog F.f #[.pointer (some ⟨b,0,none⟩)] w fun v w'=>v = .int .i64 (o.dG m q)∧Ext w w':=by
 obtain⟨cv,bN,b9,c1,cq,c2,cm,bK,cw,bQ,hz,d0,fk,d1,gp,d2,gL,d3,h2,d4,et,ci,aD,gM,fl,fD,aj,h1,U,ai,bM⟩:=h.form;obtain⟨ad,he⟩:=o.wJ aF;obtain⟨a2,rfl⟩:=fD.addr (by omega);refine bI E.f ?_;refine bF ?_;refine an ?_;intro w1 az;refine an ?_;exact⟨by rw[he],az⟩
theorem La(b cM q i:Nat)(L:List Int)(m:o.Model)(w0 w:World)(h:mP w0 b m q)(he:Ext w0 w)(kl:w0.heap.size≤cM)(ay:eB w cM L)(bd:o.eI m)(ad:i<m.aH.length) :
  bq Tryz.prog F.ow #[.pointer (some ⟨b,0,none⟩),.map (some cM),.int .i64 i] w fun _ w'=>eB w' cM (L++o.tX m i)∧Mod (fun k=>k=cM) w w':=by
 obtain⟨cv,bN,b9,c1,cq,c2,cm,bK,cw,bQ,hz,d0,fk,d1,gp,d2,gL,d3,h2,d4,et,ci,aD,gM,fl,fD,aj,h1,U,ai,bM⟩:=(h.ext he).form;obtain⟨lf,eZ⟩:=o.vH ad;have yP:=o.tS bd ad;have gy:=o.oA ad;have ho:=(bd.chan _ (List.getElem_mem ad)).cap;have gT:=bd.gT;obtain⟨dy,rfl⟩:=fl.addr (by omega);obtain⟨a2,rfl⟩:=U.addr (by omega);have eu:=(U.at i ad).cells;refine bI E.ow ?_;refine bF ?_;refine an ?_;intro w1 az;refine an ?_;refine K.call (oW cM L (o.cU m i) (1+o.jj m i) _ _ w1 (ay.ext az) (by rw[eZ]) (by omega) (by omega)) ?_;rintro _ aR ⟨dS,fu⟩;refine an ?_;exact⟨dS,az.mod.trans fu⟩
theorem Ds(b cM q i:Nat)(item own:Bool)(L:List Int)(m:o.Model)(w0 w:World)(h:mP w0 b m q)(he:Ext w0 w)(kl:w0.heap.size≤cM)(ay:eB w cM L)(bd:o.eI m)(aF:q<(o.insts m).length)(ad:i<m.vars.length)
  (a8:item=true→own=true→1≤(o.insts m)[q].elem) :
  bq Tryz.prog F.g #[.pointer (some ⟨b,0,none⟩),.map (some cM),.int .i64 i,.bool item,.bool own] w fun _ w'=>eB w' cM (L++o.ry m q i (item&&own))∧Mod (fun k=>k=cM) w w':=by
 obtain⟨cv,bN,b9,c1,cq,c2,cm,bK,cw,bQ,hz,d0,fk,d1,gp,d2,gL,d3,h2,d4,et,ci,aD,gM,fl,fD,aj,h1,U,ai,bM⟩:=(h.ext he).form;obtain⟨fg,nV⟩:=o.Gq ad;have yP:=o.Gs bd ad;have By:=o.y3 ad;have sw:=(o.qw _ (List.getElem_mem aF)).elem;have hJ:=o.HO aF;have eU:=o.r6 m.vars[i] m.scalars;obtain⟨a0,rfl⟩:=gM.addr (by omega);obtain⟨dy,rfl⟩:=h1.addr (by omega);obtain⟨ic,rfl⟩:=bM.addr (by omega);have eu:=(h1.at i ad).cells;cases item<;>cases own;rotate_left 3
 ·have kO:=a8 rfl rfl;refine bI E.g ?_;refine bF ?_;refine an ?_;intro w1 az;refine an ?_;refine K.call (oW cM L (o.jz m i+o.EE m q - 1) 1 _ _ w1 (ay.ext az) (by rw[nV];omega) rfl (by omega)) ?_;rintro _ aR ⟨dS,fu⟩;refine an ?_;exact⟨dS,az.mod.trans fu⟩
 all_goals
  clear a8;refine bI E.g ?_;refine bF ?_;refine an ?_;intro w1 az;refine an ?_;refine K.call (Eo m.vars[i] _ m.scalars w1 (aj.ext az)) ?_;rintro _ aR ⟨rfl,aA⟩;refine an ?_;refine K.call (oW cM L (o.jz m i) (o.uS m i) _ _ aR ((ay.ext az).ext aA) (by rw[nV]) (by omega) (by omega)) ?_;rintro _ ba ⟨gY,hW⟩;refine an ?_;exact⟨gY,(az.mod.trans aA.mod).trans hW⟩
end Go.Proofs.R
end
section
namespace o
open Go
theorem SS{m:Model}{q:Nat}{own:Bool}{x:Node}(h:x.op=2){v:Var}(aU:m.vars[x.n.toNat]? = some v)(aj:v.over=0):ry m q x.n.toNat false=lu m q own x:=by
 obtain⟨h1,U⟩:=List.getElem?_eq_some_iff.1 aU;unfold lu ry;rw[if_pos h,if_neg (by simp),y3 h1,U]
 have:cells v m.scalars=1:=by unfold cells;rw[if_pos aj]
 rw[this];rfl
end o
namespace Go.Proofs.R
open Go Go.RowKit bt
structure tr(w:World)(cy k2 b cM:Nat):Prop where
 x:w.heap[cy]? = some (.cells #[.pointer (some ⟨b,0,none⟩)] T.a0)
 z:w.heap[k2]? = some (.cells #[.map (some cM)] T.u)
theorem tr.mod{w w':World}{cy k2 b cM:Nat}{L:List Int}(h:tr w cy k2 b cM)(ay:eB w cM L)(hm:Mod (fun k=>k=cM) w w'):tr w' cy k2 b cM:=by
 obtain⟨es,c,av,_⟩:=ay.ex;have aN:∀{k:Nat} {cs t},w.heap[k]? = some (.cells cs t)→¬k=cM:=fun hk e=>by subst e;rw[hk] at av;cases av
 exact⟨hm.obj (aN h.x) h.x,hm.obj (aN h.z) h.z⟩
theorem tr.ext{w w':World}{cy k2 b cM:Nat}(h:tr w cy k2 b cM)(he:Ext w w'):tr w' cy k2 b cM:=⟨he.obj h.x,he.obj h.z⟩
theorem Ya(x:o.Node)(own:Bool)(b cM cy k2 q p:Nat)(L:List Int)(m:o.Model)(w0 w:World)(h:mP w0 b m q)(he:Ext w0 w)(kl:w0.heap.size≤cM)(ay:eB w cM L)(kj:tr w cy k2 b cM)(bd:o.eI m)(bM:o.h8 m q p)
  (aw:o.D3 (o.inner (m.procs[p]'(bM.aO)) (o.fI m)) x)(dd:x.ok)(a8:own=true→1≤((o.insts m)[q]'(bM.aF)).elem) :
  bq Tryz.prog F.fN #[.agg x.enc.toArray,.bool own,.pointer (some ⟨cy,0,none⟩),.pointer (some ⟨k2,0,none⟩)] w fun _ w'=>eB w' cM (L++o.lu m q own x)∧Mod (fun k=>k=cM) w w':=by
 have aF:=bM.aF;have nD:=bM.zz bd;have abo:=dd.op;have abn:=dd.n;unfold o.ep at abo abn;have rf:=kj.x;have sn:=kj.z;obtain⟨cv,bN,b9,c1,cq,c2,cm,bK,cw,bQ,hz,d0,fk,d1,gp,d2,gL,d3,h2,d4,et,ci,we,gM,fl,fD,_,_,_,_,Ih⟩:=h.form;refine bI E.fN ?_;refine bF ?_;refine an ?_;intro w1 cE fh az bJ;replace rf:=az.obj rf;replace sn:=az.obj sn;have fv:=ay.ext az;have hT:=he.trans az;obtain⟨es,ce,eZ,_⟩:=fv.ex;have s3:¬cE=cM:=fun e=>by subst e;rw[bJ] at eZ;cases eZ
 have s4:¬cy=cM:=fun e=>by subst e;rw[rf] at eZ;cases eZ
 have ac9:¬k2=cM:=fun e=>by subst e;rw[sn] at eZ;cases eZ
 clear eZ;unfold o.Node.enc at bJ;refine an ?_;apply K.cond<;>intro g2
 ·obtain⟨hL,v,aU,jV⟩:=aw.var g2;have e7:x.n.toNat<m.vars.length:=(List.getElem?_eq_some_iff.1 aU).1;have hU:x.n=(x.n.toNat:Nat):=by omega
  refine an ?_;rw[hU];refine K.call (Ds b cM q x.n.toNat false false L m w0 w1 h hT kl fv bd aF e7 (fun a=>by cases a)) ?_;rintro _ aR ⟨dS,fu⟩;rw[Bool.false_and,o.SS g2 aU jV (own:=own)] at dS;refine an ?_;exact⟨dS,az.mod.trans fu⟩
 refine an ?_;apply K.cond<;>intro g3
 ·obtain⟨hL,e7⟩:=aw.item g3;have hU:x.n=(x.n.toNat:Nat):=by omega
  refine an ?_;rw[hU];refine K.call (Ds b cM q x.n.toNat true own L m w0 w1 h hT kl fv bd aF e7 (fun _ a=>a8 a)) ?_;rintro _ aR ⟨dS,fu⟩;have bO:o.lu m q own x=o.ry m q x.n.toNat (true&&own):=by unfold o.lu;rw[if_neg g2,if_pos g3,Bool.true_and]
  rw[←bO] at dS;refine an ?_;exact⟨dS,az.mod.trans fu⟩
 refine an ?_;apply K.cond<;>intro g4
 ·obtain⟨hL,e7⟩:=aw.loc g4;have fW:x.n.toNat<(m.procs[p]'(bM.aO)).vars.length:=e7;have b8:o.lu m q own x=o.fJ (o.dG m q+1+x.n.toNat) 1:=by unfold o.lu;rw[if_neg g2,if_neg g3,if_pos g4]
  rw[b8];refine an ?_;intro aR aA;refine an ?_;refine K.call (yA b q m aR (h.ext (hT.trans aA)) aF) ?_;rintro _ ba ⟨rfl,au⟩;refine⟨au,?_⟩;refine an ?_;refine K.call (oW cM L (o.dG m q+1+x.n.toNat) 1 _ _ ba ((fv.ext aA).ext au) (by omega) rfl (by omega)) ?_;rintro _ bo ⟨lZ,rn⟩;refine an ?_;exact⟨lZ,((az.mod.trans aA.mod).trans au.mod).trans rn⟩
 refine an ?_;apply K.cond<;>intro g6
 ·obtain⟨hL,e7⟩:=aw.len g6;have fW:x.n.toNat<m.aH.length:=e7;have ql:=o.tS bd fW;have hU:x.n=(x.n.toNat:Nat):=by omega
  have c0:o.lu m q own x=o.fJ (o.cU m x.n.toNat) 1:=by unfold o.lu;rw[if_neg g2,if_neg g3,if_neg g4,if_pos g6]
  rw[c0];obtain⟨lf,eZ⟩:=o.vH fW;obtain⟨dy,rfl⟩:=fl.addr (by omega);have aD:=hT.obj we;have Kp:=fl.ext Flat.ext hT;rw[hU] at bJ;refine an ?_;intro aR aA;refine an ?_;refine K.call (oW cM L (o.cU m x.n.toNat) 1 _ _ aR (fv.ext aA) (by rw[eZ]) rfl (by omega)) ?_;rintro _ bo ⟨lZ,rn⟩;refine an ?_;exact⟨lZ,(az.mod.trans aA.mod).trans rn⟩
 refine an ?_;apply K.cond<;>intro g7;rotate_left
 ·have fq:o.lu m q own x=[]:=by unfold o.lu;rw[if_neg g2,if_neg g3,if_neg g4,if_neg g6,if_neg g7]
  rw[fq,List.append_nil];refine an ?_;exact⟨fv,az.mod⟩
 have ee:o.lu m q own x=o.tO m (x.n.tdiv 16) (o.insts m).length:=by unfold o.lu;rw[if_neg g2,if_neg g3,if_neg g4,if_neg g6,if_pos g7]
 rw[ee];obtain⟨f6,f7,f8⟩:=o.JS m;obtain⟨hL,aaK⟩:=aw.at_ g7;have ah4:(x.n.tdiv 16).toNat<m.procs.length:=aaK;have aic:=Int.tdiv_nonneg hL (show(0:Int)≤16 by omega);have ah6:=bd.procs;have aib : -9223372036854775808≤x.n.tdiv 16∧x.n.tdiv 16≤9223372036854775807:=by omega
 have yq:∀{W},Mod (fun k=>k=cM) w1 W→Ext w0 W:=fun hm=>hm.ext hT fun k hk e=>by omega
 have gT:=o.JG bd;have cK:=hT.obj we;clear gM fl;refine an ?_;refine K.da 55 (o.insts m).length [2,3,4,53,54] (fun _:Unit=>[]) () (fun k _ W=>Mod (fun i=>i=cM) w1 W∧eB W cM (L++o.tO m (x.n.tdiv 16) k)) bw bw ⟨Mod.refl _ _,by simpa[o.tO] using fv⟩ ?_;have IH:=sn;have kK:=rf;have hp:=bJ;clear rf sn bJ cK;rintro k _ S aR hk ⟨fu,dS⟩;have rf:=fu.obj s4 kK;have sn:=fu.obj ac9 IH;have bJ:=fu.obj s3 hp;have aD:=(yq fu).obj we;have Y5:=Ih.ext Flat.ext (yq fu);refine an ?_;apply K.cond<;>intro g1
 ·have e5:k<(o.insts m).length:=by omega
  obtain⟨ic,rfl⟩:=Ih.addr (by omega);obtain⟨IZ,sA⟩:=o.wJ e5;have I1:=o.yS bd e5;obtain⟨a2,rfl⟩:=fD.addr (by omega);have To:=fD.ext Flat.ext (yq fu);refine an ?_;intro wn lQ jr hJ gy;refine an ?_;intro ba eV c5;have au:Ext aR ba:=eV.ext hJ jr;replace rf:=au.obj rf;replace sn:=au.obj sn;replace bJ:=au.obj bJ;replace aD:=au.obj aD;replace To:=To.ext Flat.ext au;have gY:=dS.ext au;have hW:=fu.trans au.mod;clear dS Y5;refine an ?_;refine K.quo (by omega) ?_;refine an ?_;apply K.cond<;>intro g2
  ·refine an ?_;intro bo aP;refine an ?_;refine K.call (oW cM _ (o.dG m k) 1 _ _ bo (gY.ext aP) (by rw[sA]) rfl (by omega)) ?_;rintro _ bR ⟨sI,qo⟩;refine an ?_;refine⟨e5,bu,(),trivial,(hW.trans aP.mod).trans qo,?_⟩;rw[o.Hd e5,if_pos g2,←List.append_assoc];exact sI
  ·refine an ?_;refine⟨e5,bu,(),trivial,hW,?_⟩;rw[o.Hd e5,if_neg g2,List.append_nil];exact gY
 ·have oK:(o.insts m).length=k:=by omega
  rw[oK];refine an ?_;exact⟨dS,az.mod.trans fu⟩
theorem XK(e:List o.Node)(v:Value)(b cM cy k2 q p:Nat)(L:List Int)(m:o.Model)(w0 w:World)(h:mP w0 b m q)(he:Ext w0 w)(kl:w0.heap.size≤cM)(ay:eB w cM L)(kj:tr w cy k2 b cM)(bd:o.eI m)(bM:o.h8 m q p)
  (aN:o.fA w0 v e)(aw:o.rT (o.inner (m.procs[p]'(bM.aO)) (o.fI m)) e) :
  bq Tryz.prog F.ph #[v,.func (.func F.fN) #[] #[.pointer (some ⟨cy,0,none⟩),.pointer (some ⟨k2,0,none⟩)]] w fun _ w'=>eB w' cM (L++o.pk m q e e.length)∧Mod (fun k=>k=cM) w w':=by
 obtain⟨bh,iN,rfl,aQ⟩:=aN.form;have yq:∀{W},Mod (fun k=>k=cM) w W→Ext w0 W:=fun hm=>hm.ext he fun k hk e=>by omega
 have hle:=aw.len;refine bI E.ph ?_;refine bF ?_;refine an ?_;refine K.da 9 e.length [1,7,8] (fun aq:Bool=>[(4,.bool aq)]) false (fun k aq W=>aq=o.zo e k∧Mod (fun i=>i=cM) w W∧eB W cM (L++o.pk m q e k)) bw bw ⟨rfl,Mod.refl _ _,by simpa[o.pk] using ay⟩ ?_;rintro k aq S w1 hk ⟨rfl,sD,fv⟩;have uG:=aN.ext (yq sD);have P8:=kj.mod ay sD;refine an ?_;apply K.cond<;>intro g1
 ·have e5:k<e.length:=by omega
  obtain⟨a,rfl⟩:=aN.addr (by omega);have gW:=(aN.at k e5).ok;have rv:=aw.node k e5;refine an ?_;intro aR ie gG aA dm;have dS:=fv.ext aA;have fu:=sD.trans aA.mod;have Y2:=P8.ext aA;have n6:¬ie=cM:=fun e=>by subst e;obtain⟨_,_,eZ,_⟩:=dS.ex;rw[dm] at eZ;cases eZ
  clear uG fv P8;refine an ?_;refine K.pg (first:=[]) (cap:=[.pointer (some ⟨cy,0,none⟩),.pointer (some ⟨k2,0,none⟩)]) (by kernel_rfl) (Ya e[k] (o.zo e k) b cM cy k2 q p _ m w0 aR h (yq fu) kl dS Y2 bd bM rv.1 gW ?_) ?_
  ·intro fB;cases k with
   | zero=>cases fB
   | succ j =>
    rw[o.S7 (by omega)] at fB;have bn:=(aw.node j (by omega)).1.self (by simpa using fB);exact bM.elem (by have:(o.inner (m.procs[p]'(bM.aO)) (o.fI m)).self=(m.procs[p]'(bM.aO)).over:=rfl;omega)
  rintro _ ba ⟨gY,hW⟩;have ahG:=hW.obj n6 dm;clear dm;refine an ?_;refine⟨e5,bu,_,⟨rfl,trivial⟩,?_,fu.trans hW,?_⟩
  ·rw[o.S7 e5]
  ·rw[o.PG e5,←List.append_assoc];exact gY
 ·have oK:e.length=k:=by omega
  rw[oK];refine an ?_;exact⟨fv,sD⟩
theorem ym(e:List o.Node)(v:Value)(b cM q p:Nat)(L:List Int)(m:o.Model)(w0 w:World)(h:mP w0 b m q)(he:Ext w0 w)(kl:w0.heap.size≤cM)(ay:eB w cM L)(bd:o.eI m)(bM:o.h8 m q p)
  (aN:o.fA w0 v e)(aw:o.rT (o.inner (m.procs[p]'(bM.aO)) (o.fI m)) e) :
  bq Tryz.prog F.p #[.pointer (some ⟨b,0,none⟩),.map (some cM),v] w fun _ w'=>eB w' cM (L++o.pk m q e e.length)∧Mod (fun k=>k=cM) w w':=by
 refine bI E.p ?_;refine bF ?_;refine an ?_;intro w1 cy rf az kK;refine an ?_;intro aR k2 sn aA IH;refine an ?_;refine K.call (XK e v b cM cy k2 q p L m w0 aR h ((he.trans az).trans aA) kl ((ay.ext az).ext aA) ⟨aA.obj kK,IH⟩ bd bM aN aw) ?_;rintro _ ba ⟨gY,hW⟩;refine an ?_;exact⟨gY,(az.mod.trans aA.mod).trans hW⟩
theorem aer(a:o.Act)(cn cr:Value)(b cM q p:Nat)(L:List Int)(m:o.Model)(w0 w:World)(h:mP w0 b m q)(he:Ext w0 w)(kl:w0.heap.size≤cM)(ay:eB w cM L)(bd:o.eI m)(bM:o.h8 m q p)
  (ad:o.fA w0 cn a.index)(aU:o.fA w0 cr a.value)(br:o.pS (o.inner (m.procs[p]'(bM.aO)) (o.fI m)) a) :
  bq Tryz.prog F.ff #[.pointer (some ⟨b,0,none⟩),.map (some cM),.agg (a.enc cn cr).toArray] w fun _ w'=>eB w' cM (L++o.r1 m q a)∧Mod (fun k=>k=cM) w w':=by
 obtain⟨cv,bN,b9,c1,cq,c2,cm,bK,cw,bQ,hz,d0,fk,d1,gp,d2,gL,d3,h2,d4,et,ci,we,gM,fl,fD,_,_,_,_,Ih⟩:=h.form;have Bt:=br.kind;refine bI E.ff ?_;refine bF ?_;refine an ?_;intro w1 dz lV az cx;have fv:=ay.ext az;have hT:=he.trans az;have aD:=hT.obj we;obtain⟨es,ce,eZ,_⟩:=fv.ex;have n5:¬dz=cM:=fun e=>by subst e;rw[cx] at eZ;cases eZ
 clear eZ;unfold o.Act.enc at cx;refine an ?_;apply K.cond<;>intro g2
 ·refine an ?_;refine K.call (ym a.index cn b cM q p L m w0 w1 h hT kl fv bd bM ad (br.item g2).2.2) ?_;rintro _ aR ⟨dS,fu⟩;have yv:=fu.obj n5 cx;clear cx aD;refine an ?_;refine K.call (ym a.value cr b cM q p _ m w0 aR h (fu.ext hT fun k hk e=>by omega) kl dS bd bM aU (br.val (by omega))) ?_;rintro _ ba ⟨gY,hW⟩;refine an ?_;refine⟨?_,(az.mod.trans fu).trans hW⟩;unfold o.r1;rw[if_neg (by omega),if_pos g2,←List.append_assoc];exact gY
 refine an ?_;apply K.cond<;>intro g4
 ·obtain⟨hL,e7⟩:=br.chan (.inl g4);have fW:a.to.toNat<m.aH.length:=e7;have ql:=o.tS bd fW;have hU:a.to=(a.to.toNat:Nat):=by omega
  obtain⟨lf,eZ⟩:=o.vH fW;obtain⟨dy,rfl⟩:=fl.addr (by omega);have Kp:=fl.ext Flat.ext hT;rw[hU] at cx;refine an ?_;intro aR aA;have yv:=aA.obj cx;refine an ?_;refine K.call (oW cM L (o.cU m a.to.toNat) 1 _ _ aR (fv.ext aA) (by rw[eZ]) rfl (by omega)) ?_;rintro _ ba ⟨gY,hW⟩;have ahF:=hW.obj n5 yv;clear cx yv aD;refine an ?_;refine K.call (ym a.value cr b cM q p _ m w0 ba h (hW.ext (hT.trans aA) fun k hk e=>by omega) kl gY bd bM aU (br.val (by omega))) ?_;rintro _ bo ⟨lZ,rn⟩;refine an ?_;refine⟨?_,((az.mod.trans aA.mod).trans hW).trans rn⟩;unfold o.r1;rw[if_neg (by omega),if_neg g2,if_pos g4,←List.append_assoc];exact lZ
 refine an ?_;apply K.cond<;>intro g5
 ·obtain⟨hL,e7⟩:=br.chan (.inr g5);have fW:a.to.toNat<m.aH.length:=e7;have hU:a.to=(a.to.toNat:Nat):=by omega
  rw[hU] at cx;refine an ?_;refine K.call (La b cM q a.to.toNat L m w0 w1 h hT kl fv bd fW) ?_;rintro _ aR ⟨dS,fu⟩;refine an ?_;refine⟨?_,az.mod.trans fu⟩;unfold o.r1;rw[if_pos g5];exact dS
 ·refine an ?_;refine K.call (ym a.value cr b cM q p _ m w0 w1 h hT kl fv bd bM aU (br.val g5)) ?_;rintro _ aR ⟨dS,fu⟩;refine an ?_;refine⟨?_,az.mod.trans fu⟩;unfold o.r1;rw[if_neg g5,if_neg g2,if_neg g4,List.nil_append];exact dS
theorem agA(a:o.Act)(cn cr:Value)(b cM q p:Nat)(L:List Int)(m:o.Model)(w0 w:World)(h:mP w0 b m q)(he:Ext w0 w)(kl:w0.heap.size≤cM)(ay:eB w cM L)(bd:o.eI m)(bM:o.h8 m q p)
  (ad:o.fA w0 cn a.index)(br:o.pS (o.inner (m.procs[p]'(bM.aO)) (o.fI m)) a) :
  bq Tryz.prog F.yh #[.pointer (some ⟨b,0,none⟩),.map (some cM),.agg (a.enc cn cr).toArray] w fun _ w'=>eB w' cM (L++o.mR m q a)∧Mod (fun k=>k=cM) w w':=by
 have Bt:=br.kind;have aF:=bM.aF;have nD:=bM.zz bd;refine bI E.yh ?_;refine bF ?_;refine an ?_;intro w1 dz lV az cx;have fv:=ay.ext az;have hT:=he.trans az;obtain⟨es,ce,eZ,_⟩:=fv.ex;have n5:¬dz=cM:=fun e=>by subst e;rw[cx] at eZ;cases eZ
 clear eZ;obtain⟨et,ci,rfl,aiZ⟩:=ad.form;unfold o.Act.enc at cx;refine an ?_;apply K.cond<;>intro g1
 ·obtain⟨hL,v,aU,jV⟩:=br.set g1;have e7:a.to.toNat<m.vars.length:=(List.getElem?_eq_some_iff.1 aU).1;have hU:a.to=(a.to.toNat:Nat):=by omega
  rw[hU] at cx;refine an ?_;refine K.call (Ds b cM q a.to.toNat false false L m w0 w1 h hT kl fv bd aF e7 (fun a=>by cases a)) ?_;rintro _ aR ⟨dS,fu⟩;refine an ?_;refine⟨?_,az.mod.trans fu⟩;unfold o.mR;rw[if_pos g1];have e:=o.SS (m:=m) (q:=q) (own:=false) (x:=⟨2,a.to⟩) rfl aU jV;unfold o.lu at e;rw[if_pos rfl] at e;rw[Bool.false_and,e] at dS;exact dS
 refine an ?_;apply K.cond<;>intro g2
 ·obtain⟨hL,e7,Q1⟩:=br.item g2;have fW:a.to.toNat<m.vars.length:=e7;have hU:a.to=(a.to.toNat:Nat):=by omega
  rw[hU] at cx;have HM:o.mR m q a=o.ry m q a.to.toNat (o.td a):=by unfold o.mR;rw[if_neg g1,if_pos g2]
  rw[HM];have Fh:=ad.ext hT;refine an ?_;intro aR aA;replace cx:=aA.obj cx;replace Fh:=Fh.ext aA;refine an ?_;apply K.cond<;>intro g3
  ·obtain⟨ic,rfl⟩:=ad.addr (by omega);have rv:=(Q1.node 0 (by omega)).1;have wG:=o.afn (a:=a) (by omega);refine an ?_;refine K.dr 0 rfl (by omega) ?_;refine an ?_;refine K.call (Ds b cM q a.to.toNat true (decide ((a.index[0]'(by omega)).op=5)) L m w0 aR h (hT.trans aA) kl (fv.ext aA) bd aF fW (fun _ bn=>?_)) ?_
   ·have bn:=rv.self (by simpa using bn);exact bM.elem (by have:(o.inner (m.procs[p]'(bM.aO)) (o.fI m)).self=(m.procs[p]'(bM.aO)).over:=rfl;omega)
   rintro _ ba ⟨gY,hW⟩;rw[Bool.true_and,←wG] at gY;refine an ?_;exact⟨gY,(az.mod.trans aA.mod).trans hW⟩
  ·have wG:=o.afm (a:=a) (by omega);refine an ?_;refine K.call (Ds b cM q a.to.toNat true false L m w0 aR h (hT.trans aA) kl (fv.ext aA) bd aF fW (fun _ bn=>by cases bn)) ?_;rintro _ ba ⟨gY,hW⟩;rw[Bool.and_false,←wG] at gY;refine an ?_;exact⟨gY,(az.mod.trans aA.mod).trans hW⟩
 refine an ?_;apply K.cond<;>intro g3
 ·obtain⟨hL,e7⟩:=br.loc g3;have fW:a.to.toNat<(m.procs[p]'(bM.aO)).vars.length:=e7;have HM:o.mR m q a=o.fJ (o.dG m q+1+a.to.toNat) 1:=by unfold o.mR;rw[if_neg g1,if_neg g2,if_pos g3]
  rw[HM];refine an ?_;intro aR aA;refine an ?_;refine K.call (yA b q m aR (h.ext (hT.trans aA)) aF) ?_;rintro _ ba ⟨rfl,au⟩;refine⟨au,?_⟩;refine an ?_;refine K.call (oW cM L (o.dG m q+1+a.to.toNat) 1 _ _ ba ((fv.ext aA).ext au) (by omega) rfl (by omega)) ?_;rintro _ bo ⟨lZ,rn⟩;refine an ?_;exact⟨lZ,((az.mod.trans aA.mod).trans au.mod).trans rn⟩
 refine an ?_;apply K.cond<;>intro g4
 ·obtain⟨hL,e7⟩:=br.chan (.inl g4);have fW:a.to.toNat<m.aH.length:=e7;have hU:a.to=(a.to.toNat:Nat):=by omega
  rw[hU] at cx;refine an ?_;refine K.call (La b cM q a.to.toNat L m w0 w1 h hT kl fv bd fW) ?_;rintro _ aR ⟨dS,fu⟩;refine an ?_;refine⟨?_,az.mod.trans fu⟩;unfold o.mR;rw[if_neg g1,if_neg g2,if_neg g3,if_pos g4];exact dS
 have g5:a.kind=5:=by omega
 ·obtain⟨hL,e7⟩:=br.chan (.inr g5);obtain⟨eO,ht⟩:=br.recv g5;have qn:a.loc.toNat<(m.procs[p]'(bM.aO)).vars.length:=ht;have fW:a.to.toNat<m.aH.length:=e7;have hU:a.to=(a.to.toNat:Nat):=by omega
  rw[hU] at cx;refine an ?_;refine K.call (La b cM q a.to.toNat L m w0 w1 h hT kl fv bd fW) ?_;rintro _ aR ⟨dS,fu⟩;have ahE:=fu.obj n5 cx;have cP:=fu.ext hT fun k hk e=>by omega
  clear cx;refine an ?_;intro ba au;refine an ?_;refine K.call (yA b q m ba (h.ext (cP.trans au)) aF) ?_;rintro _ bo ⟨rfl,aP⟩;refine⟨aP,?_⟩;refine an ?_;refine K.call (oW cM _ (o.dG m q+1+a.loc.toNat) 1 _ _ bo ((dS.ext au).ext aP) (by omega) rfl (by omega)) ?_;rintro _ bR ⟨sI,qo⟩;refine an ?_;refine⟨?_,(((az.mod.trans fu).trans au.mod).trans aP.mod).trans qo⟩;unfold o.mR;rw[if_neg g1,if_neg g2,if_neg g3,if_neg g4,if_pos g5,←List.append_assoc];exact sI
end Go.Proofs.R
end
section
namespace o
open Go
structure gj(m:Model)(ref:Int)(q p k:Nat):Prop where
 ok:(check m).dh=0
 aZ:0≤ref
 ad:ref.toNat<(refs m).length
 at_:NL m ((refs m)[ref.toNat]) q p k
def Told(m:Model)(ref:Int):Prop:=(check m).dh=0∧0≤ref∧ref<(refs m).length
theorem HA{m:Model}{ref:Int}(h:Told m ref):∃q p k,gj m ref q p k:=by
 obtain⟨h1,U,ai⟩:=h;obtain⟨q,p,k,aL⟩:=aeK (List.getElem_mem (show ref.toNat<(refs m).length by omega));exact⟨q,p,k,h1,U,by omega,aL⟩
theorem gj.told{m:Model}{ref:Int}{q p k:Nat}(h:gj m ref q p k):Told m ref:=⟨h.ok,h.aZ,by have:=h.ad;have:=h.aZ;omega⟩
theorem gj.inst{m:Model}{ref:Int}{q p k:Nat}(h:gj m ref q p k):h8 m q p:=by
 obtain⟨qH,aO⟩:=JF h.at_.ad;have e:qH=p:=by
  have h1:=aO.eq;rw[h.at_.ip] at h1;omega
 subst e;exact aO
theorem gj.one{m:Model}{ref:Int}{q p k oX qH k':Nat}(h:gj m ref q p k)(bA:gj m ref oX qH k'):q=oX∧p=qH∧k=k':=by
 have bT:q=oX:=by have a:=h.at_.zv;have b:=bA.at_.zv;omega
 subst bT;have a:=h.at_.ip;have b:=bA.at_.ip;have c:=h.at_.zx;have d:=bA.at_.zx;exact⟨rfl,by omega,by omega⟩
def dE(m:Model)(p k:Nat):dD:=((m.procs[p]?.map (·.cJ[k]?)).join).getD ⟨⟨#[]⟩,0,0,[],[],false⟩
theorem Hy{m:Model}{p k:Nat}(aO:p<m.procs.length)(hk:k<m.procs[p].cJ.length):dE m p k=m.procs[p].cJ[k]:=by
 unfold dE;rw[List.getElem?_eq_getElem aO];simp[hk]
theorem gj.cin{m:Model}{ref:Int}{q p k:Nat}(h:gj m ref q p k):tt (inner (m.procs[p]'(h.at_.aO)) (fI m)) (dE m p k):=by
 rw[Hy h.at_.aO h.at_.hk];exact Xi h.ok h.at_.aO h.at_.hk
structure tG(m:Model)(ref:Int)(a b:List Int):Prop where
 there:∀q p k,gj m ref q p k→mO (qK m q (dE m p k) (dE m p k).b6.length) a∧mO (od m q (dE m p k) (dE m p k).b6.length) b
 none:¬Told m ref→a=[]∧b=[]
theorem tG.of{m:Model}{ref:Int}{q p k:Nat}{a b:List Int}(av:gj m ref q p k)(h1:mO (qK m q (dE m p k) (dE m p k).b6.length) a)(U:mO (od m q (dE m p k) (dE m p k).b6.length) b):tG m ref a b :=
 ⟨fun oX qH k' h=>by obtain⟨rfl,rfl,rfl⟩:=av.one h;exact⟨h1,U⟩,fun aN=>absurd av.told aN⟩
theorem tG.nil{m:Model}{ref:Int}(h:¬Told m ref):tG m ref [] []:=⟨fun _ _ _ av=>absurd av.told h,fun _=>⟨rfl,rfl⟩⟩
structure tx(m:Model)(ref:Int)(a:List Int):Prop where
 there:∀q p k,gj m ref q p k→mO (uj m q (dE m p k)) a
 none:¬Told m ref→a=[]
theorem tx.of{m:Model}{ref:Int}{q p k:Nat}{a:List Int}(av:gj m ref q p k)(h1:mO (uj m q (dE m p k)) a):tx m ref a :=
 ⟨fun oX qH k' h=>by obtain⟨rfl,rfl,rfl⟩:=av.one h;exact h1,fun aN=>absurd av.told aN⟩
theorem tx.nil{m:Model}{ref:Int}(h:¬Told m ref):tx m ref []:=⟨fun _ _ _ av=>absurd av.told h,fun _=>rfl⟩
def w9(m:Model)(inst:Int):List Int:=if (check m).dh=0 then (match nth (insts m) inst with | some x=>fJ (dG m inst.toNat) (jY m x).length | none=>[]) else []
theorem adA{m:Model}{q p:Nat}(h:h8 m q p)(hk:(check m).dh=0):w9 m q=fJ (dG m q) (1+(m.procs[p]'(h.aO)).vars.length):=by
 unfold w9
 have:=h.aF
 rw[if_pos hk,h0 (by omega) (by omega)];simp only[Int.toNat_natCast];rw[h.OH,xc]
theorem Kc{m:Model}{inst:Int}(h:(check m).dh=0→inst<0∨(insts m).length≤inst):w9 m inst=[]:=by
 unfold w9;by_cases hk:(check m).dh=0
 ·rw[if_pos hk,gK (h hk)]
 ·rw[if_neg hk]
theorem eI.lim{m:Model}(h:eI m):vi m:=⟨by have:=h.procs;omega,fun p aO=>by have:=(h.proc p aO).gT;omega⟩
end o
namespace bt
open Go
def Hz:List Value:=[.string ⟨#[]⟩,.int .i64 0,.int .i64 0,.slice none 0 0,.slice none 0 0,.bool false]
end bt
end