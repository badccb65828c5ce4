/- Texts joined: LayI LayJ StaP StaQ StaA LayK LayL LayM LiteV ProcR ReaP StaR StaS ReaQ ReaA ReaB ReaC ReaS. -/
import Derived.Test.YtempnjgiohpopaaGreatDoorQrdd
import Derived.Test.YtempnjgiohpopaaGreatDoorQrde
import Derived.Test.YtempnjgiohpopaaGreatDoorQrdi
import Derived.Test.YtempnjgiohpopaaGreatDoorQrdj
import Derived.Test.YtempnjgiohpopaaGreatDoorQrdk
import Derived.Test.YtempnjgiohpopaaGreatDoorQrdl
import Derived.Test.YtempnjgiohpopaaGreatDoorQrdm
import Derived.Lib.SlKeysI
import Derived.Maps.OwnSet
set_option linter.all false
set_option maxRecDepth 8000
set_option maxHeartbeats 16000000
section
namespace bt
open Go Go.RowKit
theorem K.Aw{P:Program}{c6:Value→World→Prop}{α:Type}{enc:α→List Value}{e:TypeId}{sz base n:Nat}{w:World}{vs:Nat→Option Addr×Nat×Nat}{xs:Nat→List α}{ty:TypeId}{b:Nat}{a:Addr}{c:Nat}{y:α}{t}(i:Nat)(ad:i<n)(h:hx enc e sz base w n vs xs)(c8:∀x,(enc x).length=sz)(ax:fi w a (enc y))(h1:∀y,∀u∈enc y,u.oneCell'=true)
  (aD:((xs i).length+1)*b≤140737488355328)(jA:(xs i).length+1≤maxLen)(iP:base≤w.heap.size)
  (hk:∀b8 w',hx enc e sz base w' n (di vs i b8) (di xs i (xs i++[y]))→w.grownBy w' (cj (vs i)).ownBlock→c6 (cj b8) w'):ki P ty e sz b (cj (vs i)) (.slice (some a) 1 c) w c6 t:=by
 unfold ki;exact hx.app i ad h c8 ax h1 aD jA iP fun b8 w' a b _=>hk b8 w' a b
end bt
namespace o
theorem Ig{s:Int}{l:List Cell}{k:Nat}(h:k<l.length):hy s (l.take (k+1)) 0=hy s (l.take k) 0++(if l[k].place=0∧l[k].sort=s then [(k:Int)] else []):=by
 rw[List.take_succ_eq_append_getElem h,A6];simp only[hy,List.append_nil,List.length_take,Nat.zero_add];rw[show min k l.length=k from by omega]
theorem P6(s:Int):∀(l:List Cell) (i:Nat),(hy s l i).length≤l.length
 | [],_=>by simp[hy]
 | x :: r,i=>by
  have:=P6 s r (i+1)
  simp only[hy,List.length_append,List.length_cons];split<;>simp<;>omega
def eH(l:List Cell)(k:Nat):Nat→List Int:=fun i=>if i=0 then hy 1 (l.take k) 0 else if i=1 then hy 2 (l.take k) 0 else if i=2 then hy 3 (l.take k) 0 else if i=3 then (l.take k).map (·.aZ) else (l.take k).map (·.ad)
end o
namespace Go.Proofs.R
open Go Go.RowKit bt
def zD:List TypeId:=[T.a,T.i]
def ku(vs:Nat→gj)(n:Int):Array Value:=#[cj (vs 0),cj (vs 1),cj (vs 2),.int .i64 n,cj (vs 3),cj (vs 4)]
structure mT(av:World)(b:Nat)(xs:Nat→List Int)(n:Int)(W:World):Prop where
 mod:Mod (fun k=>k=b) av W
 ex:∃vs:Nat→gj,W.heap[b]? = some (.cells (ku vs n) T.i)∧hx dA T.a 1 av.heap.size W 5 vs xs
theorem mT.congr{av:World}{b:Nat}{xs DB:Nat→List Int}{n:Int}{W:World}(h:mT av b xs n W)(ar:∀i,i<5→xs i=DB i):mT av b DB n W :=
 let ⟨vs,g1,g2⟩:=h.ex; ⟨h.mod,vs,g1,g2.congr (fun _ _=>rfl) ar⟩
theorem CO{av:World}{b:Nat}{xs:Nat→List Int}{n y:Int}{W qe kT py:World}{vs:Nat→gj}{b8:gj}{i:Nat}(ad:i<5)(hm:Mod (fun k=>k=b) av W)(g1:W.heap[b]? = some (.cells (ku vs n) T.i))(g2:hx dA T.a 1 av.heap.size W 5 vs xs)
  (he:Ext W qe)(a8:qe.grownBy kT (cj (vs i)).ownBlock)(a1:hx dA T.a 1 av.heap.size kT 5 (di vs i b8) (di xs i (xs i++[y])))(hw:dK b kT py)(ax:py.heap[b]? = some (.cells (ku (di vs i b8) n) T.i)) :
  mT av b (di xs i (xs i++[y])) n py∧dW zD W py:=by
 have u7:Mod (fun k=>(cj (vs i)).ownBlock=some k) qe kT:=Mod.grown a8 fun k hk=>hk;have g5:=he.obj g1;have g6:kT.heap[b]? = some (.cells (ku vs n) T.i):=u7.obj ((g2.ext he).not g5 (by decide) i ad) g5;refine⟨⟨?_,_,ax,a1.mod (hw.mod (A:=fun k=>k=b) rfl) fun j k aU hk e=>?_⟩,?_⟩
 ·have h1:Mod (fun k=>k=b) av qe:=hm.comp (A':=fun _=>False) he.mod (fun _ _ a=>a) fun _ _ a=>a.elim;have U:Mod (fun k=>k=b) av kT:=h1.comp u7 (fun _ _ a=>a) fun j aU a=>by have:=(g2.lt i j ad a).1;omega
  exact U.trans (hw.mod rfl)
 ·subst e;exact a1.not g6 (by decide) j aU hk
 ·refine((dW.ext he).trans (dW.mod u7 fun k c t ax a=>?_)).trans (dW.wr hw g6 (by decide));obtain⟨cur,h⟩:=((g2.ext he).own i ad).aW k a;rw[ax] at h;injection h with h;injection h with _ h;rw[h];decide
theorem TO(cs:List Value)(m:o.Model)(w:World)(h:o.er w cs m)(a8:m.cX)(bg:o.eI m) :
  bu Tryz.prog F.zi #[.agg cs.toArray] w fun v w'=>(∃xs,v = .agg xs.toArray∧ev w (fun w=>o.jr w xs (o.layout m)) w')∧Ext w w':=by
 have fP:=h;obtain⟨cy,bO,b9,c1,ch,c2,cm,bN,cA,bT,rfl,_⟩:=h.form;have oZ:=o.mJ bg;refine bM E.zi ?_;refine bF ?_;refine aa ?_;intro GH bC cL o2 aq;have dO:=cM aq;refine aa ?_;intro GI ca dB nV aM;have dP:=cM aM;replace aq:=nV.obj aq;refine aa ?_;intro av b5 fU lv bK;replace aq:=lv.obj aq;replace aM:=lv.obj aM;have eg:=cM bK;have nB:=o2.size;have mP:=nV.size;have zT:=lv.size;have n13:bC≠b5:=by omega
 have bP:=(o2.trans nV).trans lv;refine aa ?_;refine K.call (aeL _ m av (fP.ext bP) a8 bg) ?_;rintro dM vq ⟨fa,nW⟩;obtain⟨adt,WZ,rfl,_⟩:=fa.form;have iG:mT av b5 (o.eH (o.b1 m) 0) 0 vq:=⟨nW.mod,fun _=>(none,0,0),nW.obj bK,⟨fun i ad=>by
   have e:o.eH (o.b1 m) 0 i=[]:=by unfold o.eH; (repeat' split)<;>simp[o.hy]
   rw[e];exact bs.nil _ _ _ _ _,fun i j k _ _ _ e=>by cases e⟩⟩
 have pN:∀{xs n W},mT av b5 xs n W→W.heap[bC]? = av.heap[bC]? := fun h=>h.mod.block _ (by omega) n13;have hV:∀{xs n W},mT av b5 xs n W→W.heap[ca]? = av.heap[ca]? := fun h=>h.mod.block _ (by omega) (by omega);have e9:∀{xs n W},mT av b5 xs n W→Ext w W:=fun h=>h.mod.ext bP fun i ad e=>by omega
 have mE:∀{W:World},dW zD vq W→bz 6 (Flat o.Cell.enc) W (.slice adt (o.b1 m).length WZ) (o.b1 m):=fun k=>bs.lH (enc:=o.Cell.enc) (fun _=>rfl) (fa.hl k (by decide));rw[aM] at hV;clear aq aM bK fa;refine aa ?_;refine K.df 5 (o.b1 m).length [1,2,3,4] (fun _:Unit=>[]) () (fun k _ W=>mT av b5 (o.eH (o.b1 m) k) 0 W∧dW zD vq W) bB bB ⟨iG,dW.refl⟩ ?_;clear iG;rintro k _ S aT hk ⟨ay,l8⟩;have fa:=mE l8;obtain⟨agA,g1,g2⟩:=ay.ex;refine aa ?_;apply K.cond<;>intro g0
 ·have bh:k<(o.b1 m).length:=by omega
  obtain⟨a,rfl⟩:=fa.addr (by omega);clear g1 g2;obtain⟨x,ar⟩:∃x,x=(o.b1 m)[k]:=⟨_,rfl⟩;have lA:∀i,(o.eH (o.b1 m) k i).length≤100:=fun i=>by
   unfold o.eH;have q:=fun s=>o.P6 s ((o.b1 m).take k) 0;have dO:=q 1;have dP:=q 2;have eg:=q 3
   (repeat' split)<;>simp only[List.length_map,List.length_take] at * <;> omega
  refine ei ?_;simp -dsimp only[cw];refine ei ?_;refine K.hQ [1,2,3,4,5] (fun _:Unit=>[]) (fun _ W=>mT av b5 (di (o.eH (o.b1 m) k) 0 ((o.eH (o.b1 m) k) 0++if x.place=0∧x.sort=1 then [(k:Int)] else [])) 0 W∧dW zD vq W) ?_ ?_
  ·have fa:=mE l8;obtain⟨vs,g1,g2⟩:=ay.ex;have lo:=g1;unfold ku at g1;dsimp only[cj] at g1;have same:¬(x.place=0∧x.sort=1)→mT av b5 (di (o.eH (o.b1 m) k) 0 ((o.eH (o.b1 m) k) 0++if x.place=0∧x.sort=1 then [(k:Int)] else [])) 0 aT:=fun e=>ay.congr fun j aU=>by
    unfold di;by_cases a:j=0
    ·subst a;simp[e]
    ·simp[a]
   refine aa ?_;rw[←ar];apply K.cond<;>intro g3
   ·refine aa ?_;rw[←ar];apply K.cond<;>intro g4
    ·refine aa ?_;intro bS dH mB bj cC;have fE:=ay.mod.size;have z2:=bj.size;have hlen:((o.eH (o.b1 m) k) 0).length≤100:=lA 0;have my:=g2.ext bj;have g15:=bj.obj lo;refine K.Aw (y:=(k:Int)) 0 (by decide) my (fun _=>rfl) (gK cC) j4 (by omega) (by unfold maxLen;omega) (by omega) fun b8 bX dn jM=>?_;have gM:bX.heap[b5]? = some (.cells (ku vs 0) T.i):=(Mod.grown (A:=fun k=>(cj (vs 0)).ownBlock=some k) jM fun k hk=>hk).obj (my.not g15 (by decide) 0 (by decide)) g15;have QC:=gM;unfold ku at gM;refine aa ?_;intro cn ek da;obtain⟨iQ,rM⟩:=CO (by decide) ay.mod lo g2 bj jM dn ek da;refine aa ?_;refine⟨(),trivial,iQ.congr fun j aU=>?_,l8.trans rM⟩;have e:(if x.place=0∧x.sort=1 then [(k:Int)] else [])=[(k:Int)]:=if_pos ⟨g3,g4⟩;rw[e]
    ·refine aa ?_;exact⟨(),trivial,same fun e=>g4 e.2,l8⟩
   ·refine aa ?_;exact⟨(),trivial,same fun e=>g3 e.1,l8⟩
  rintro _ S eR ⟨FD,FR⟩;refine ei ?_;refine K.hQ [1,2,3,4,5] (fun _:Unit=>[]) (fun _ W=>mT av b5 (di (di (o.eH (o.b1 m) k) 0 ((o.eH (o.b1 m) k) 0++if x.place=0∧x.sort=1 then [(k:Int)] else [])) 1 ((di (o.eH (o.b1 m) k) 0 ((o.eH (o.b1 m) k) 0++if x.place=0∧x.sort=1 then [(k:Int)] else [])) 1++if x.place=0∧x.sort=2 then [(k:Int)] else [])) 0 W∧dW zD vq W) ?_ ?_
  ·have fa:=mE FR;obtain⟨vs,g1,g2⟩:=FD.ex;have lo:=g1;unfold ku at g1;dsimp only[cj] at g1;have same:¬(x.place=0∧x.sort=2)→mT av b5 (di (di (o.eH (o.b1 m) k) 0 ((o.eH (o.b1 m) k) 0++if x.place=0∧x.sort=1 then [(k:Int)] else [])) 1 ((di (o.eH (o.b1 m) k) 0 ((o.eH (o.b1 m) k) 0++if x.place=0∧x.sort=1 then [(k:Int)] else [])) 1++if x.place=0∧x.sort=2 then [(k:Int)] else [])) 0 eR:=fun e=>FD.congr fun j aU=>by
    unfold di;by_cases a:j=1
    ·subst a;simp[e]
    ·simp[a]
   refine aa ?_;rw[←ar];apply K.cond<;>intro g3
   ·refine aa ?_;rw[←ar];apply K.cond<;>intro g4
    ·refine aa ?_;intro bS dH mB bj cC;have fE:=FD.mod.size;have z2:=bj.size;have hlen:((di (o.eH (o.b1 m) k) 0 ((o.eH (o.b1 m) k) 0++if x.place=0∧x.sort=1 then [(k:Int)] else [])) 1).length≤100:=lA 1;have my:=g2.ext bj;have g15:=bj.obj lo;refine K.Aw (y:=(k:Int)) 1 (by decide) my (fun _=>rfl) (gK cC) j4 (by omega) (by unfold maxLen;omega) (by omega) fun b8 bX dn jM=>?_;have gM:bX.heap[b5]? = some (.cells (ku vs 0) T.i):=(Mod.grown (A:=fun k=>(cj (vs 1)).ownBlock=some k) jM fun k hk=>hk).obj (my.not g15 (by decide) 1 (by decide)) g15;have QC:=gM;unfold ku at gM;refine aa ?_;intro cn ek da;obtain⟨iQ,rM⟩:=CO (by decide) FD.mod lo g2 bj jM dn ek da;refine aa ?_;refine⟨(),trivial,iQ.congr fun j aU=>?_,FR.trans rM⟩;have e:(if x.place=0∧x.sort=2 then [(k:Int)] else [])=[(k:Int)]:=if_pos ⟨g3,g4⟩;rw[e]
    ·refine aa ?_;exact⟨(),trivial,same fun e=>g4 e.2,FR⟩
   ·refine aa ?_;exact⟨(),trivial,same fun e=>g3 e.1,FR⟩
  rintro _ S gH ⟨FE,FT⟩;refine ei ?_;refine K.hQ [1,2,3,4,5] (fun _:Unit=>[]) (fun _ W=>mT av b5 (di (di (di (o.eH (o.b1 m) k) 0 ((o.eH (o.b1 m) k) 0++if x.place=0∧x.sort=1 then [(k:Int)] else [])) 1 ((di (o.eH (o.b1 m) k) 0 ((o.eH (o.b1 m) k) 0++if x.place=0∧x.sort=1 then [(k:Int)] else [])) 1++if x.place=0∧x.sort=2 then [(k:Int)] else [])) 2 ((di (di (o.eH (o.b1 m) k) 0 ((o.eH (o.b1 m) k) 0++if x.place=0∧x.sort=1 then [(k:Int)] else [])) 1 ((di (o.eH (o.b1 m) k) 0 ((o.eH (o.b1 m) k) 0++if x.place=0∧x.sort=1 then [(k:Int)] else [])) 1++if x.place=0∧x.sort=2 then [(k:Int)] else [])) 2++if x.place=0∧x.sort=3 then [(k:Int)] else [])) 0 W∧dW zD vq W) ?_ ?_
  ·have fa:=mE FT;obtain⟨vs,g1,g2⟩:=FE.ex;have lo:=g1;unfold ku at g1;dsimp only[cj] at g1;have same:¬(x.place=0∧x.sort=3)→mT av b5 (di (di (di (o.eH (o.b1 m) k) 0 ((o.eH (o.b1 m) k) 0++if x.place=0∧x.sort=1 then [(k:Int)] else [])) 1 ((di (o.eH (o.b1 m) k) 0 ((o.eH (o.b1 m) k) 0++if x.place=0∧x.sort=1 then [(k:Int)] else [])) 1++if x.place=0∧x.sort=2 then [(k:Int)] else [])) 2 ((di (di (o.eH (o.b1 m) k) 0 ((o.eH (o.b1 m) k) 0++if x.place=0∧x.sort=1 then [(k:Int)] else [])) 1 ((di (o.eH (o.b1 m) k) 0 ((o.eH (o.b1 m) k) 0++if x.place=0∧x.sort=1 then [(k:Int)] else [])) 1++if x.place=0∧x.sort=2 then [(k:Int)] else [])) 2++if x.place=0∧x.sort=3 then [(k:Int)] else [])) 0 gH:=fun e=>FE.congr fun j aU=>by
    unfold di;by_cases a:j=2
    ·subst a;simp[e]
    ·simp[a]
   refine aa ?_;rw[←ar];apply K.cond<;>intro g3
   ·refine aa ?_;rw[←ar];apply K.cond<;>intro g4
    ·refine aa ?_;intro bS dH mB bj cC;have fE:=FE.mod.size;have z2:=bj.size;have hlen:((di (di (o.eH (o.b1 m) k) 0 ((o.eH (o.b1 m) k) 0++if x.place=0∧x.sort=1 then [(k:Int)] else [])) 1 ((di (o.eH (o.b1 m) k) 0 ((o.eH (o.b1 m) k) 0++if x.place=0∧x.sort=1 then [(k:Int)] else [])) 1++if x.place=0∧x.sort=2 then [(k:Int)] else [])) 2).length≤100:=lA 2;have my:=g2.ext bj;have g15:=bj.obj lo;refine K.Aw (y:=(k:Int)) 2 (by decide) my (fun _=>rfl) (gK cC) j4 (by omega) (by unfold maxLen;omega) (by omega) fun b8 bX dn jM=>?_;have gM:bX.heap[b5]? = some (.cells (ku vs 0) T.i):=(Mod.grown (A:=fun k=>(cj (vs 2)).ownBlock=some k) jM fun k hk=>hk).obj (my.not g15 (by decide) 2 (by decide)) g15;have QC:=gM;unfold ku at gM;refine aa ?_;intro cn ek da;obtain⟨iQ,rM⟩:=CO (by decide) FE.mod lo g2 bj jM dn ek da;refine aa ?_;refine⟨(),trivial,iQ.congr fun j aU=>?_,FT.trans rM⟩;have e:(if x.place=0∧x.sort=3 then [(k:Int)] else [])=[(k:Int)]:=if_pos ⟨g3,g4⟩;rw[e]
    ·refine aa ?_;exact⟨(),trivial,same fun e=>g4 e.2,FT⟩
   ·refine aa ?_;exact⟨(),trivial,same fun e=>g3 e.1,FT⟩
  rintro _ S kh ⟨JD,Sy⟩;have fa:=mE Sy;obtain⟨vs,g1,g2⟩:=JD.ex;have lo:=g1;unfold ku at g1;dsimp only[cj] at g1;refine aa ?_;intro bS bj;replace fa:=fa.ext Flat.ext bj;replace g1:=bj.obj g1;refine aa ?_;intro bX ix gM bk dr;refine⟨bk,?_⟩;have sO:=bj.trans bk;have fE:=JD.mod.size;have z2:=sO.size;have hlen:(o.eH (o.b1 m) k 3).length≤100:=lA 3;have my:=g2.ext sO;have g15:=sO.obj lo;refine K.Aw (y:=(o.b1 m)[k].aZ) 3 (by decide) my (fun _=>rfl) (gK dr) j4 (by rw[show(di _ 2 _ 3:List Int)=o.eH (o.b1 m) k 3 from rfl];omega) (by rw[show(di _ 2 _ 3:List Int)=o.eH (o.b1 m) k 3 from rfl];unfold maxLen;omega) (by omega) fun b8 cn dX ji=>?_;have jC:cn.heap[b5]? = some (.cells (ku vs 0) T.i):=(Mod.grown (A:=fun k=>(cj (vs 3)).ownBlock=some k) ji fun k hk=>hk).obj (my.not g15 (by decide) 3 (by decide)) g15;have IF:=jC;unfold ku at jC;refine aa ?_;intro ajK kG eN;obtain⟨Jv,acg⟩:=CO (by decide) JD.mod lo g2 sO ji dX kG eN;clear g1 g2 lo my g15 dX jC IF eN dr fa;have Sw:=Sy.trans acg;have fa:=mE Sw;obtain⟨vs,g1,g2⟩:=Jv.ex;have lo:=g1;unfold ku at g1;dsimp only[cj] at g1;refine aa ?_;intro bS bj;replace fa:=fa.ext Flat.ext bj;replace g1:=bj.obj g1;refine aa ?_;intro bX ix gM bk dr;refine⟨bk,?_⟩;have sO:=bj.trans bk;have fE:=Jv.mod.size;have z2:=sO.size;have hlen:(o.eH (o.b1 m) k 4).length≤100:=lA 4;have my:=g2.ext sO;have g15:=sO.obj lo;refine K.Aw (y:=(o.b1 m)[k].ad) 4 (by decide) my (fun _=>rfl) (gK dr) j4 (by rw[show(di _ 3 _ 4:List Int)=o.eH (o.b1 m) k 4 from rfl];omega) (by rw[show(di _ 3 _ 4:List Int)=o.eH (o.b1 m) k 4 from rfl];unfold maxLen;omega) (by omega) fun b8 cn dX ji=>?_;have jC:cn.heap[b5]? = some (.cells (ku vs 0) T.i):=(Mod.grown (A:=fun k=>(cj (vs 4)).ownBlock=some k) ji fun k hk=>hk).obj (my.not g15 (by decide) 4 (by decide)) g15;have IF:=jC;unfold ku at jC;refine aa ?_;intro ajL kG eN;obtain⟨aba,ach⟩:=CO (by decide) Jv.mod lo g2 sO ji dX kG eN;clear g1 g2 lo my g15 dX jC IF eN dr fa;have aci:=Sw.trans ach;refine aa ?_;refine⟨bh,bw,(),trivial,aba.congr fun j aU=>?_,aci⟩;subst ar;have a:j=0∨j=1∨j=2∨j=3∨j=4:=by omega
  rcases a with rfl | rfl | rfl | rfl | rfl
  ·exact(o.Ig (s:=1) bh).symm
  ·exact(o.Ig (s:=2) bh).symm
  ·exact(o.Ig (s:=3) bh).symm
  ·show(_:List Int)=((o.b1 m).take (k+1)).map (·.aZ);rw[List.take_succ_eq_append_getElem bh,List.map_append];rfl
  ·show(_:List Int)=((o.b1 m).take (k+1)).map (·.ad);rw[List.take_succ_eq_append_getElem bh,List.map_append];rfl
 have rD:k=(o.b1 m).length:=by omega
 subst rD;have cR:=e9 ay;have aM:=hV ay;clear g1 g2;obtain⟨vs,g1,g2⟩:=ay.ex;have lo:=g1;unfold ku at g1;dsimp only[cj] at g1;refine aa ?_;intro bf eZ bK;have g23:=g2.mod (eZ.mod (A:=fun k=>k=b5) rfl) fun i k ad hk e=>by subst e;exact g2.not lo (by decide) i ad hk
 replace aM:=eZ.obj aM (by omega);replace bK:bf.heap[b5]? = some (.cells #[cj (vs 0),cj (vs 1),cj (vs 2),.int .i64 (o.b1 m).length,cj (vs 3),cj (vs 4)] T.i):=bK;dsimp only[cj] at bK;refine aa ?_;intro bq ee bI;have g24:=g23.mod (ee.mod (A:=fun k=>k=ca) rfl) fun i k ad hk e=>by subst e;exact g23.not aM (by decide) i ad hk
 have bU:w.heap.size≤av.heap.size:=by omega
 have qS:=fun(i:Nat) (ad:i<5)=>bs.new (e:=T.a) (enc:=dA) (fun _=>rfl) (bs.low bU (g24.own i ad));obtain⟨f1,f2,f3⟩:=o.YL bg;have gW:o.eH (o.b1 m) (o.b1 m).length 0=(o.layout m).vars:=by show o.hy 1 ((o.b1 m).take _) 0=_;rw[List.take_length,f1];rfl
 have fr:o.eH (o.b1 m) (o.b1 m).length 1=(o.layout m).aJ:=by show o.hy 2 ((o.b1 m).take _) 0=_;rw[List.take_length,f2];rfl
 have fL:o.eH (o.b1 m) (o.b1 m).length 2=(o.layout m).insts:=by show o.hy 3 ((o.b1 m).take _) 0=_;rw[List.take_length,f3];rfl
 have hp:o.eH (o.b1 m) (o.b1 m).length 3=(o.layout m).aZ:=by show((o.b1 m).take _).map _=_;rw[List.take_length];rfl
 have jS:o.eH (o.b1 m) (o.b1 m).length 4=(o.layout m).ad:=by show((o.b1 m).take _).map _=_;rw[List.take_length];rfl
 refine aa ?_;refine⟨⟨[_,_,_,_,_,_],rfl,fun ft qP=>⟨⟨_,_,_,_,_,rfl,?_,?_,?_,?_,?_⟩⟩⟩,ee.ext (eZ.ext cR (by omega)) (by omega)⟩
 ·rw[←gW];exact qS 0 (by decide) ft qP
 ·rw[←fr];exact qS 1 (by decide) ft qP
 ·rw[←fL];exact qS 2 (by decide) ft qP
 ·rw[←hp];exact qS 3 (by decide) ft qP
 ·rw[←jS];exact qS 4 (by decide) ft qP
theorem aeM(cs:List Value)(m:o.Model)(w:World)(h:o.er w cs m)(a8:m.cX) :
  bu Tryz.prog F.CC #[.agg cs.toArray] w fun v w'=>(∃xs,v = .agg xs.toArray∧ev w (fun w=>o.jr w xs (o.lay m)) w')∧Ext w w':=by
 have bg:=h;obtain⟨cy,bO,b9,c1,ch,c2,cm,bN,cA,bT,rfl,_⟩:=h.form;refine bM E.CC ?_;refine bF ?_;refine aa ?_;intro av bC cL aA aq;refine aa ?_;intro aT ca dB aC aM;have fE:=cM aq;replace aq:=aC.obj aq;have z2:=cM aM;have z3:=aA.size;have ba:=aA.trans aC;refine aa ?_;refine K.call (Y7 _ m aT (bg.ext ba) a8) ?_;rintro _ bf ⟨rfl,aw⟩;replace aq:=aw.obj aq;replace aM:=aw.obj aM;have bQ:=ba.trans aw;by_cases hk:(o.check m).dp=0
 ·rw[decide_eq_true hk];refine aa ?_;refine K.call (TO _ m bf (bg.ext bQ) a8 (o.qO hk)) ?_;rintro _ bq ⟨⟨xs,rfl,dE⟩,aR⟩;obtain⟨jW,d0,lK,d1,lL,d2,mi,d3,lM,d4,rfl,_⟩:=dE.here.form;replace aM:=aR.obj aM;have b3:=bQ.trans aR;have z4:=aw.size;refine aa ?_;intro bX fW dr;have aI:=dE.wr fW (by omega);refine aa ?_;exact⟨⟨_,rfl,by rw[o.Ca hk];exact aI.low bQ.size⟩,fW.ext b3 (by omega)⟩
 ·rw[decide_eq_false hk];refine aa ?_;intro bq ee bI;refine aa ?_;exact⟨⟨[_,_,_,_,_,_],rfl,by rw[o.SF hk];exact ga.of fun _=>o.jr.zero _⟩,ee.ext bQ (by omega)⟩
end Go.Proofs.R
end
section
namespace o
open Go
def hM(m:Model)(i:Nat):Nat:=total ((cG m).take i)
def cZ(m:Model)(i:Nat):Nat:=total (cG m)+total ((dc m).take i)
def dx(m:Model)(i:Nat):Nat:=total (cG m)+total (dc m)+total ((eP m).take i)
theorem Gs(n:Nat):∀(ls:List (List dm)) (i:Nat) (h:i<(gF n ls).length),(gF n ls)[i]=((n+total (ls.take i):Nat):Int)
 | [],i,h=>by simp[gF] at h
 | l :: r,0,h=>by simp[gF,total]
 | l :: r,i+1,h=>by
  simp only[gF,List.getElem_cons_succ,List.take_succ_cons,Dv];rw[Gs (n+l.length) r i (by simpa[gF] using h)];congr 1;omega
def fH(m:Model):Nat:=(b1 m).length
theorem pD(m:Model):fH m=total (cG m)+total (dc m)+total (eP m):=B9 m
theorem Gy{m:Model}{i:Nat}(h:i<m.vars.length):∃bA:i<(layout m).vars.length,(layout m).vars[i]=(hM m i:Int):=by
 have bA:i<(gF 0 (cG m)).length:=by rw[r1];simpa[cG] using h
 exact⟨bA,by have:=Gs 0 (cG m) i bA;rw[Nat.zero_add] at this;exact this⟩
theorem vW{m:Model}{i:Nat}(h:i<m.aJ.length):∃bA:i<(layout m).aJ.length,(layout m).aJ[i]=(cZ m i:Int):=by
 have bA:i<(gF (total (cG m)) (dc m)).length:=by rw[r1];simpa[dc] using h
 exact⟨bA,Gs _ _ i bA⟩
theorem wU{m:Model}{i:Nat}(h:i<(insts m).length):∃bA:i<(layout m).insts.length,(layout m).insts[i]=(dx m i:Int):=by
 have bA:i<(gF (total (cG m)+total (dc m)) (eP m)).length:=by rw[r1];simpa[eP] using h
 exact⟨bA,Gs _ _ i bA⟩
theorem tK{m:Model}{i:Nat}(h:i<m.vars.length):hM m i+(cells m.vars[i] m.scalars).toNat≤total (cG m):=by
 have bA:i<(cG m).length:=by simpa[cG] using h
 have:=Lc bA
 have e:(cG m)[i].length=(cells m.vars[i] m.scalars).toNat:=by simp[cG,zQ]
 rw[e] at this;exact this
theorem yh{m:Model}{i:Nat}(h:i<m.aJ.length):cZ m i+(1+m.aJ[i].cap.toNat)≤total (cG m)+total (dc m):=by
 have bA:i<(dc m).length:=by simpa[dc] using h
 have:=Lc bA
 have e:(dc m)[i].length=1+m.aJ[i].cap.toNat:=by simp[dc,sn]
 rw[e] at this;unfold cZ;omega
theorem R6{m:Model}{i:Nat}(h:i<(insts m).length):dx m i+(ka m (insts m)[i]).length≤fH m:=by
 have bA:i<(eP m).length:=by simpa[eP] using h
 have:=Lc bA
 have e:(eP m)[i].length=(ka m (insts m)[i]).length:=by simp[eP]
 rw[e] at this;rw[pD];unfold dx;omega
def lT(s:List Scalar)(c:c5)(l:List Int):Prop :=
 ∃n,l[0]? = some n∧0≤n∧n≤c.cap∧∀k:Nat,(k:Int)<c.cap→∃x,l[k+1]? = some x∧((k:Int)<n→(eM c.scalar c.aZ c.ad s).aZ≤x∧x≤(eM c.scalar c.aZ c.ad s).ad)∧(n≤k→x=0)
def nK(m:Model)(i:Nat)(c:c5)(s:List Int):List Int:=(s.drop (cZ m i)).take (1+c.cap.toNat)
structure Fits(m:Model)(s:List Int):Prop where
 len:s.length=fH m
 queue:∀i (h:i<m.aJ.length),lT m.scalars m.aJ[i] (nK m i m.aJ[i] s)
 cell:∀i (h:i<s.length) (bA:i<(b1 m).length),(b1 m)[i].aZ≤s[i]∧s[i]≤(b1 m)[i].ad
def pw(m:Model)(s:List Int):Prop:=(check m).dp=0∧Fits m s
def pA(m:Model)(s:List Int)(p:Int)(l:Int)(k:Nat):Nat:=((List.range k).filter fun i=>decide (((insts m)[i]?.map (·.proc))=some p∧s[dx m i]? = some l)).length
def jc(m:Model)(s:List Int)(p:Nat)(n:Int)(k:Nat):List Int:=(List.range n.toNat).map fun(l:Nat)=>((pA m s (p:Int) (l:Int) k:Nat):Int)
def zI(m:Model)(s:List Int)(inst:Int):List Int×Int :=
 match nth (insts m) inst with
 | some x=>((s.drop (dx m inst.toNat+1)).take ((ka m x).length - 1),x.elem)
 | none=>([],0)
def cS(m:Model)(s:List Int)(inst:Int):Env :=
 ⟨(List.range m.vars.length).map fun i=>(s.drop (hM m i)).take (cG m)[i]!.length,
  (List.range m.aJ.length).map fun i=>s[cZ m i]!,
  (zI m s inst).1,
  (List.range m.procs.length).map fun i=>jc m s i (m.procs[i]?.map (·.cz) |>.getD 0) (insts m).length,
  (zI m s inst).2⟩
def val:List Nat→Nat
 | []=>0
 | d :: r=>d+256*val r
def EG(n:Nat):List Nat:=if h:n=0 then [] else n % 256 :: EG (n / 256)
termination_by n
decreasing_by omega
def Te:List Cell→List Int→Nat→Nat
 | x :: r,v :: s,n=>Te r s (n*(x.ad - x.aZ+1).toNat+(v - x.aZ).toNat)
 | _,_,n=>n
def num(m:Model)(s:List Int):Nat:=Te (b1 m) s 0
def e0(m:Model):Nat:=num m ((b1 m).map (·.ad))
def WK(m:Model):Nat:=(EG (e0 m)).length
def fixed(k n:Nat):List Nat:=EG n++List.replicate (k - (EG n).length) 0
def bytes(m:Model)(s:List Int):List Nat:=(fixed (WK m) (num m s)).reverse
end o
end
section
namespace Go.Proofs.R
open Go Go.RowKit bt
abbrev e4(w:World)(v:Value)(l:List Int):Prop:=bz 1 (Flat dA) w v l
structure agX(w:World)(b:Nat)(m:o.Model):Prop where
 ex:∃xs cs cr,w.heap[b]? = some (.cells (xs++cs++[cr]).toArray T.a2)∧o.jr w xs (o.layout m)∧o.er w cs m∧oE w cr (o.insts m)
theorem FV(v1 v2:Value)(du dF:List Int)(w:World)(h1:bz 1 (Flat dA) w v1 du)(U:bz 1 (Flat dA) w v2 dF) :
  bu Tryz.prog F.jt #[v1,v2] w fun v w'=>(∃b:Bool,v = .bool b∧(b=true↔du=dF))∧Ext w w' :=
 Yf lx E.jt _ _ du dF w h1 U
end Go.Proofs.R
end
section
namespace o
theorem SJ(m:Model):(layout m).aZ.length=(b1 m).length:=by simp[layout,y6]
theorem SH(m:Model):(layout m).ad.length=(b1 m).length:=by simp[layout,y6]
theorem SI{m:Model}{c:Nat}(h:c<(layout m).aZ.length)(bA:c<(b1 m).length):(layout m).aZ[c]=(b1 m)[c].aZ:=by simp[layout,y6]
theorem SG{m:Model}{c:Nat}(h:c<(layout m).ad.length)(bA:c<(b1 m).length):(layout m).ad[c]=(b1 m)[c].ad:=by simp[layout,y6]
theorem J2(m:Model):(layout m).vars.length=m.vars.length∧(layout m).aJ.length=m.aJ.length∧(layout m).insts.length=(insts m).length:=by
 refine⟨?_,?_,?_⟩<;>simp[layout,y6,r1,cG,dc,eP]
end o
end
section
namespace bt
open Go Go.RowKit
structure D3(es:Array MapEntry)(c:Nat)(L:List Int):Prop where
 wX:∃l:List (Int×Value),ha (Value.int .i64) es.toList l∧(l.map (·.1)).Nodup∧(∀x,x∈l.map (·.1)↔x∈L)∧l.length≤L.length∧∀p∈l,∃z,p.2 = .int .i64 z
 born:∀e∈es.toList,e.born<c
 nodup:(es.toList.map (·.born)).Nodup
structure eC(w:World)(b:Nat)(L:List Int):Prop where
 ok:∀x∈L,-9223372036854775808≤x∧x≤9223372036854775807
 ex:∃es c,w.heap[b]? = some (.map es c)∧D3 es c L
theorem eC.of{w w':World}{b:Nat}{L:List Int}(h:eC w b L)(e:w'.heap[b]? = w.heap[b]?):eC w' b L:=let ⟨es,c,h1,U⟩:=h.ex; ⟨h.ok,es,c,e.trans h1,U⟩
theorem eC.lt{w:World}{b:Nat}{L:List Int}(h:eC w b L):b<w.heap.size:=let ⟨_,_,h1,_⟩:=h.ex;cM h1
theorem eC.ext{w w':World}{b:Nat}{L:List Int}(h:eC w b L)(e:Ext w w'):eC w' b L:=h.of (e.heap h.lt)
theorem eC.mod{A:Nat→Prop}{w w':World}{b:Nat}{L:List Int}(h:eC w b L)(e:Mod A w w')(hk:¬A b):eC w' b L:=h.of (e.block b h.lt hk)
theorem D3.empty:D3 #[] 0 []:=⟨⟨[],rfl,by simp,fun _=>Iff.rfl,Nat.le_refl _,fun p h=>by simp at h⟩,fun e he=>by simp at he,by simp⟩
theorem eC.empty{w:World}{b:Nat}(h:w.heap[b]? = some (.map #[] 0)):eC w b []:=⟨fun _ h=>by simp at h,_,_,h,D3.empty⟩
theorem ha.len{ml:Type}{enc:ml→Value}{es:List MapEntry}{l:List (ml×Value)}(h:ha enc es l):es.length=l.length:=by
 have:=congrArg List.length h
 simpa using this
theorem ha.at{ml:Type}{enc:ml→Value}{es:List MapEntry}{l:List (ml×Value)}(h:ha enc es l)(i:Nat):es[i]?.map (fun e=>(e.key,e.val))=l[i]?.map (fun p=>(enc p.1,p.2)):=by
 have:=congrArg (fun q=>q[i]?) h
 simpa using this
theorem eC.look{w:World}{b:Nat}{L:List Int}(h:eC w b L)(x:Int):∃es r z,ps w (.map (some b)) es∧Instr.findNow (.int .i64) (.int .i64 x) es.toList 0=some r∧k4 (.int .i64 0) false r = .int .i64 z:=by
 obtain⟨es,c,h1,hm⟩:=h.ex;obtain⟨l,U,ag,aK,bc,bD⟩:=hm.wX;obtain⟨r,nm,jP⟩:=wg (Gf .i64 .i64) x es.toList _ 0 U;cases r with
 | none=>exact⟨es,none,0,.inr ⟨b,c,rfl,h1⟩,nm,rfl⟩
 | some q =>
  cases aN:l.find? (fun p=>decide (x=p.1)) with
  | none=>rw[aN] at jP;cases jP
  | some p =>
   rw[aN] at jP;obtain⟨z,bU⟩:=bD p (List.mem_of_find?_eq_some aN);simp only[Option.map_some,Option.some.injEq] at jP;exact⟨es,some q,z,.inr ⟨b,c,rfl,h1⟩,nm,by simp[k4,jP,bU]⟩
theorem acm{x z:Int}{l:List (Int×Value)}{es:List MapEntry}{j:Nat}(h:ha (Value.int .i64) es l)(hk:∀p,l[j]? = some p→p.1=x):ha (Value.int .i64) (es.modify j fun e=>{ e with key:=.int .i64 x,val:=.int .i64 z }) (l.modify j fun p=>(p.1,.int .i64 z)):=by
 unfold ha;apply List.ext_getElem?;intro i;have ad:=h.at i;simp only[List.getElem?_map,List.getElem?_modify] at *;by_cases e:j=i
 ·subst e;simp only[if_true] at *;cases he:es[j]? with
  | none=>rw[he] at ad;cases aO:l[j]? with
   | none=>simp
   | some p=>rw[aO] at ad;cases ad
  | some q =>
   rw[he] at ad;cases aO:l[j]? with
   | none=>rw[aO] at ad;cases ad
   | some p=>simp[hk p aO]
 ·simp only[if_neg e];cases he:es[i]? with
  | none=>rw[he] at ad;cases aO:l[i]? with
   | none=>simp
   | some p=>rw[aO] at ad;cases ad
  | some q =>
   rw[he] at ad;cases aO:l[i]? with
   | none=>rw[aO] at ad;cases ad
   | some p=>rw[aO] at ad;simpa using ad
theorem Qe{z:Value}(l:List (Int×Value))(j:Nat):(l.modify j fun p=>(p.1,z)).map (·.1)=l.map (·.1):=by
 apply List.ext_getElem?;intro i;simp only[List.getElem?_map,List.getElem?_modify];by_cases e:j=i
 ·subst e;cases l[j]? <;> simp
 ·simp[e]
theorem OX{k v:Value}(es:List MapEntry)(j:Nat):(es.modify j fun e=>{ e with key:=k,val:=v }).map (·.born)=es.map (·.born):=by
 apply List.ext_getElem?;intro i;simp only[List.getElem?_map,List.getElem?_modify];by_cases e:j=i
 ·subst e;cases es[j]? <;> simp
 ·simp[e]
theorem eC.put{w:World}{b:Nat}{L:List Int}(h:eC w b L)(x z:Int)(ar : -9223372036854775808≤x∧x≤9223372036854775807):∃es c q,w.heap[b]? = some (.map es c)∧Instr.findNow (.int .i64) (.int .i64 x) es.toList 0=some q ∧
  ∀w':World,w'.heap[b]? = some (pS es c (.int .i64 x) (.int .i64 z) q)→eC w' b (L++[x]):=by
 obtain⟨es,c,h1,hm⟩:=h.ex;obtain⟨l,U,ag,aK,bc,bD⟩:=hm.wX;obtain⟨r,nm,jP⟩:=wg (Gf .i64 .i64) x es.toList _ 0 U;have dh:∀y∈L++[x],-9223372036854775808≤y∧y≤9223372036854775807:=fun y cx=>by
  rcases List.mem_append.1 cx with cx | cx
  ·exact h.ok y cx
  ·simp only[List.mem_singleton] at cx;subst cx;exact ar
 refine⟨es,c,r,h1,nm,fun w' hw=>?_⟩;cases r with
 | none =>
  have aI:∀p∈l,p.1≠x:=by
   cases aN:l.find? (fun p=>decide (x=p.1)) with
   | none =>
    intro p aO e
    have:=List.find?_eq_none.1 aN p aO
    simp[e] at this
   | some p=>rw[aN] at jP;cases jP
  refine⟨dh,_,_,hw,⟨⟨l++[(x,.int .i64 z)],ha.push U x (.int .i64 z) c,?_,fun y=>?_,?_,fun p aO=>?_⟩,?_,?_⟩⟩
  ·rw[List.map_append,List.map_cons,List.map_nil,List.nodup_append];refine⟨ag,by simp,fun a bp b aD=>?_⟩;obtain⟨p,aO,rfl⟩:=List.mem_map.1 bp;simp only[List.mem_singleton] at aD;rw[aD];exact aI p aO
  ·rw[List.map_append,List.mem_append,List.mem_append,aK y];simp
  ·rw[List.length_append,List.length_append];simp;exact bc
  ·rcases List.mem_append.1 aO with aO | aO
   ·exact bD p aO
   ·simp only[List.mem_singleton] at aO;subst aO;exact⟨z,rfl⟩
  ·intro e he;simp only[Array.toList_push,List.mem_append,List.mem_singleton] at he;rcases he with he | rfl
   ·have:=hm.born e he;omega
   ·show c<c+1;omega
  ·simp only[Array.toList_push,List.map_append,List.map_cons,List.map_nil];rw[List.nodup_append];refine⟨hm.nodup,by simp,fun a bp mZ Bh=>?_⟩;obtain⟨e,he,rfl⟩:=List.mem_map.1 bp;simp only[List.mem_singleton] at Bh
   have:=hm.born e he
   omega
 | some JV =>
  obtain⟨j,v⟩:=JV;obtain⟨_,e,he,ay⟩:=Ie nm;rw[Nat.sub_zero] at he;have Rp:∀p,l[j]? = some p→p.1=x:=fun p aO=>by
   have:=U.at j
   rw[he,aO] at this;simp only[Option.map_some,Option.some.injEq,Prod.mk.injEq] at this;rw[this.1,Gf] at ay;have ay:=Option.some.inj ay;simp only[decide_eq_true_eq] at ay;exact ay.symm
  have uT:x∈L:=by
   have aU:=U.at j;rw[he] at aU;cases aO:l[j]? with
   | none=>rw[aO] at aU;cases aU
   | some p =>
    rw[←aK x,←Rp p aO];exact List.mem_map.2 ⟨p,List.mem_of_getElem? aO,rfl⟩
  have rJ:w'.heap[b]? = some (.map (es.modify j fun e=>{ e with key:=.int .i64 x,val:=.int .i64 z }) c):=hw;refine⟨dh,_,_,rJ,⟨⟨l.modify j fun p=>(p.1,.int .i64 z),?_,by rw[Qe];exact ag,fun y=>?_,?_,fun p aO=>?_⟩,?_,?_⟩⟩
  ·rw[Array.toList_modify];exact acm U Rp
  ·rw[Qe,aK y,List.mem_append,List.mem_singleton];exact⟨.inl,fun q=>q.elim id fun q=>q ▸ uT⟩
  ·rw[List.length_modify,List.length_append];omega
  ·obtain⟨i,ad,rfl⟩:=List.mem_iff_getElem.1 aO;rw[List.getElem_modify];split
   ·exact⟨z,rfl⟩
   ·exact bD _ (List.getElem_mem _)
  ·rw[Array.toList_modify];intro e' mF
   have:e'.born∈es.toList.map (·.born):=by rw[←OX (k:=.int .i64 x) (v:=.int .i64 z) es.toList j];exact List.mem_map.2 ⟨e',mF,rfl⟩
   obtain⟨dw,aj,gb⟩:=List.mem_map.1 this
   have:=hm.born dw aj
   omega
  ·rw[Array.toList_modify,OX];exact hm.nodup
section
variable{P:Program}{hb:World→Prop}{aF:Value→Prop}{w:World}
theorem K.acM{b:Nat}{L:List Int}{x:Int}{t}(h:eC w b L)(hk:∀z,aF (.int .i64 z)):xP (.int .i64) (.int .i64 0) false (.map (some b)) (.int .i64 x) w aF t:=by
 obtain⟨es,r,z,h1,U,ag⟩:=h.look x;exact K.lD h1 U (by rw[ag];exact hk z)
theorem K.ac8{b:Nat}{L:List Int}{x z:Int}{t}(h:eC w b L)(ar : -9223372036854775808≤x∧x≤9223372036854775807)(hk:∀av,dK b w av→eC av b (L++[x])→hb av):vz (.int .i64) (.map (some b)) (.int .i64 x) (.int .i64 z) w hb t:=by
 obtain⟨es,c,q,h1,U,ag⟩:=h.put x z ar;exact K.ig h1 U (hk _ (dK.e5 w b _) (ag _ (zH (cM h1))))
end
theorem wf_i64{x:Int}(h : -9223372036854775808≤x∧x≤9223372036854775807):(Lit.int .i64 x).wf=true:=by
 have h1:IntKind.i64.min = -9223372036854775808:=by decide
 have U:IntKind.i64.max=9223372036854775807:=by decide
 simp only[Lit.wf,h1,U,Bool.and_eq_true,decide_eq_true_eq];exact h
theorem eC.own{P:Program}{k:TypeId}{w:World}{b:Nat}{L:List Int}(hk:P.underlying k=some (.int .i64))(h:eC w b L)(dE:L.length≤maxLen) :
  ∃qZ:DataW Unit,w.ownsMap P k (fun _=>some (.lit (.bool true),[])) b L.length qZ∧Maps.size qZ≤L.length∧∀bY:List Int,bY.Perm (intKeys qZ)→bY.Nodup∧∀x,x∈bY↔x∈L:=by
 obtain⟨es,c,h1,hm⟩:=h.ex;obtain⟨l,U,ag,aK,bc,bD⟩:=hm.wX;have hlen:es.toList.length=l.length:=U.len;have o7:∀e∈es.toList,∃x,e.key = .int .i64 x∧WideElems.rd P k (fun _=>some ((.lit (.bool true):DataW Unit),[])) e=some (.int .i64 x,.lit (.bool true)):=fun e he=>by
  obtain⟨i,ad,rfl⟩:=List.mem_iff_getElem.1 he;have jB:=U.at i;rw[List.getElem?_eq_getElem ad,List.getElem?_eq_getElem (by omega)] at jB;simp only[Option.map_some,Option.some.injEq,Prod.mk.injEq] at jB;refine⟨_,jB.1,?_⟩;have hw:=wf_i64 (h.ok l[i].1 ((aK _).1 (List.mem_map.2 ⟨l[i],List.getElem_mem _,rfl⟩)));unfold WideElems.rd;rw[jB.1,Maps.keyOf_int_mk hk hw];rfl
 have Ir:WideElems.Fit P k (fun _=>some ((.lit (.bool true):DataW Unit),[])) es c:=⟨by simp at hlen;omega,⟨hm.born,hm.nodup,by
  have:es.toList.map (·.key)=(l.map (·.1)).map (Value.int .i64):=by
   apply List.ext_getElem?;intro i;rw[List.getElem?_map,List.getElem?_map,List.getElem?_map]
   have:=U.at i
   cases he:es.toList[i]? with
   | none=>rw[he] at this;cases aO:l[i]? with
    | none=>rfl
    | some p=>rw[aO] at this;cases this
   | some q =>
    rw[he] at this;cases aO:l[i]? with
    | none=>rw[aO] at this;cases this
    | some p =>
     rw[aO] at this;simp only[Option.map_some,Option.some.injEq,Prod.mk.injEq] at this;simp only[Option.map_some,this.1]
  rw[this];exact List.pairwise_map.2 (ag.imp fun {a b} dg e=>dg (by injection e))⟩,fun x ar=>let ⟨y,_,cx⟩:=o7 x ar; ⟨_,cx⟩⟩
 refine⟨_,World.ownsMap.mono (World.ownsMap_of_fit h1 Ir (fun _ _ _ q=>q)) (by simp at hlen;omega),?_,fun bY aO=>?_⟩
 ·rw[Maps.size_eq,length_sorted];simp at hlen ⊢;omega
 ·have aay:(intKeys (.map ((es.toList.map (WideElems.rg P k (fun _=>some ((.lit (.bool true):DataW Unit),[])))).foldr DataW.insert []))).Perm (l.map (·.1)):=by
   refine((WideShapes.sorted_perm _).map _).trans ?_;rw[List.map_map]
   have:es.toList.map ((fun p:Lit×DataW Unit=>intOf p.1)∘WideElems.rg P k (fun _=>some ((.lit (.bool true):DataW Unit),[])))=l.map (·.1):=by
    apply List.ext_getElem?;intro i;rw[List.getElem?_map,List.getElem?_map];cases he:es.toList[i]? with
    | none =>
     have:=U.at i
     rw[he] at this;cases aO:l[i]? with
     | none=>rfl
     | some p=>rw[aO] at this;cases this
    | some e =>
     obtain⟨x,ar,cx⟩:=o7 e (List.mem_of_getElem? he)
     have:=U.at i
     rw[he] at this;cases aO:l[i]? with
     | none=>rw[aO] at this;cases this
     | some p =>
      rw[aO] at this;simp only[Option.map_some,Option.some.injEq,Prod.mk.injEq] at this;rw[ar] at this;have bP:x=p.1:=by have:=this.1;injection this
      simp only[Option.map_some,Function.comp,WideElems.rg_of cx,bP];rfl
   rw[this]
  have yU:=aO.trans aay;exact⟨yU.nodup_iff.2 ag,fun x=>by rw[yU.mem_iff];exact aK x⟩
theorem afK{bY:List Int}(h:bY.Nodup):(bY.mergeSort fun x y=>decide (x≤y)).Pairwise (· < ·):=by
 have agd:∀a b c:Int,decide (a≤b)=true→decide (b≤c)=true→decide (a≤c)=true:=fun a b c h1 U=>by simp only[decide_eq_true_eq] at *;omega
 have to:∀a b:Int,(decide (a≤b)||decide (b≤a))=true:=fun a b=>by simp only[Bool.or_eq_true,decide_eq_true_eq];omega
 have h1:=List.pairwise_mergeSort agd to bY;have U:(bY.mergeSort fun x y=>decide (x≤y)).Nodup:=(List.mergeSort_perm bY _).nodup_iff.2 h;refine(h1.and U).imp fun {a b} q=>?_;simp only[decide_eq_true_eq] at q;omega
end bt
end
section
namespace o
open Go
theorem Tu{p:dj}{s:Scope}(h:(gD p s).2.2=0):whole p s=0∧(jR p s).2=0∧(j2 (inner p s) p.cz p.cB p.cB 0).2.2=0:=by
 unfold gD at h;by_cases h1:whole p s≠0
 ·rw[if_pos h1] at h;exact absurd h h1
 rw[if_neg h1] at h;by_cases U:(jR p s).2≠0
 ·rw[if_pos U] at h;exact absurd h U
 rw[if_neg U] at h;exact⟨by simpa using h1,by simpa using U,h⟩
theorem HG{own:Scope}{cz:Int}{all:List dG}:∀(l:List dG) (i:Nat),(j2 own cz all l i).2.2=0→∀k (h:k<l.length),(h4 l[k] cz own).2=0∧(all.take (i+k)).any (fun x=>decide (x.name=l[k].name))=false
 | [],_,_,k,h=>by simp at h
 | c :: r,i,e9,k,h=>by
  simp only[j2] at e9;by_cases h1:(h4 c cz own).2≠0
  ·rw[if_pos h1] at e9;exact absurd e9 h1
  rw[if_neg h1] at e9;by_cases U:(all.take i).any (fun x=>decide (x.name=c.name))=true
  ·rw[if_pos U] at e9;cases e9
  rw[if_neg U] at e9;cases k with
  | zero=>exact⟨by simpa using h1,by simpa using U⟩
  | succ k =>
   have:=HG r (i+1) e9 k (by simpa using h)
   simpa[Nat.add_assoc,Nat.add_comm 1 k] using this
theorem tr{α:Type}{l:List α}{n:Int}{x:α}(h:nth l n=some x):0≤n∧l[n.toNat]? = some x∧n.toNat<l.length:=by
 unfold nth at h;by_cases aj:0≤n
 ·rw[if_pos aj] at h;exact⟨aj,h,(List.getElem?_eq_some_iff.1 h).1⟩
 ·rw[if_neg aj] at h;cases h
theorem ace{n:Int}{s:Scope}(h:(gP n s).2=true):0≤n∧n≤s.scalars.length∧(gP n s).1=if n=0 then 0 else 1+n:=by
 unfold gP at h ⊢;by_cases h1:n=0
 ·subst h1;simp
 ·rw[if_neg h1] at h ⊢;by_cases U:n<0∨(s.scalars.length:Int)<n
  ·rw[if_pos U] at h;cases h
  ·rw[if_neg U,if_neg h1];exact⟨by omega,by omega,rfl⟩
theorem acn{l:List Var}{n:Int}{s:Scope}(h:(fq l n s).2.2=true):∃v,nth l n=some v∧l[n.toNat]? = some v∧0≤n∧fq l n s=((gP v.scalar s).1,(gP v.over s).1,true)∧(gP v.scalar s).2=true∧(gP v.over s).2=true:=by
 unfold fq at h ⊢;cases aI:nth l n with
 | none=>rw[aI] at h;cases h
 | some v =>
  rw[aI] at h;simp only[Bool.and_eq_true] at h;obtain⟨aj,h1,_⟩:=tr aI;exact⟨v,rfl,h1,aj,by simp only[h.1,h.2,Bool.and_self],h.1,h.2⟩
theorem Gb:∀(a b:List Int),a.Pairwise (· < ·)→b.Pairwise (· < ·)→(∀x,x∈a↔x∈b)→a=b
 | [],[],_,_,_=>rfl
 | [],y :: b,_,_,h=>by have:=(h y).2 (List.mem_cons_self ..);cases this
 | x :: a,[],_,_,h=>by have:=(h x).1 (List.mem_cons_self ..);cases this
 | x :: a,y :: b,bp,aD,h=>by
  rw[List.pairwise_cons] at bp aD;have e:x=y:=by
   rcases List.mem_cons.1 ((h x).1 (List.mem_cons_self ..)) with e | e
   ·exact e
   ·rcases List.mem_cons.1 ((h y).2 (List.mem_cons_self ..)) with ba | ba
    ·exact ba.symm
    ·have:=aD.1 x e;have:=bp.1 y ba;omega
  subst e;congr 1;refine Gb a b bp.2 aD.2 fun z=>⟨fun bU=>?_,fun bU=>?_⟩
  ·rcases List.mem_cons.1 ((h z).1 (List.mem_cons_of_mem _ bU)) with e | e
   ·subst e;have:=bp.1 z bU;omega
   ·exact e
  ·rcases List.mem_cons.1 ((h z).2 (List.mem_cons_of_mem _ bU)) with e | e
   ·subst e;have:=aD.1 z bU;omega
   ·exact e
def fC(a n:Nat):List Int:=(List.range n).map fun(k:Nat)=>((a+k:Nat):Int)
theorem T2(a n:Nat):(fC a n).length=n:=by simp[fC]
theorem ae7(a:Nat):fC a 0=[]:=rfl
theorem Gd(a:Nat):fC a 1=[(a:Int)]:=by simp[fC]
theorem T3(a n:Nat):fC a (n+1)=fC a n++[((a+n:Nat):Int)]:=by simp[fC,List.range_succ]
theorem pg{a n:Nat}{x:Int}:x∈fC a n↔(a:Int)≤x∧x<((a+n:Nat):Int):=by
 constructor
 ·intro h;obtain⟨k,hk,rfl⟩:=List.mem_map.1 h
  have:=List.mem_range.1 hk
  omega
 ·intro h;refine List.mem_map.2 ⟨(x - a).toNat,List.mem_range.2 (by omega),by omega⟩
theorem ae6(a n:Nat):(fC a n).Pairwise (· < ·):=by
 induction n with
 | zero=>exact List.Pairwise.nil
 | succ n fB =>
  rw[T3,List.pairwise_append];refine⟨fB,by simp,fun x ar y cx=>?_⟩
  have:=(pg.1 ar).2
  simp only[List.mem_singleton] at cx;omega
structure ag1(l:List Int)(last:Int)(out:List Int):Prop where
 zv:out.Pairwise (· < ·)
 mem:∀x,x∈out↔x∈l∧x≤last
 last : -1≤last
structure lV(l r:List Int):Prop where
 zv:r.Pairwise (· < ·)
 mem:∀x,x∈r↔x∈l
theorem lV.eq{l te r ho:List Int}(h:lV l r)(k:lV te ho)(e:∀x,x∈l↔x∈te):r=ho :=
 Gb r ho h.zv k.zv fun x=>by rw[h.mem,k.mem,e]
theorem lV.adw(a n:Nat):lV (fC a n) (fC a n):=⟨ae6 a n,fun _=>Iff.rfl⟩
def u0(m:Model)(v:Nat):Nat:=match m.vars[v]? with | some x=>(cells x m.scalars).toNat | none=>0
def EJ(m:Model)(q:Nat):Nat:=match (insts m)[q]? with | some x=>x.elem.toNat | none=>0
def jd(m:Model)(c:Nat):Nat:=match m.aJ[c]? with | some x=>x.cap.toNat | none=>0
def o9(m:Model)(q v:Nat)(own:Bool):List Int:=if own then fC (hM m v+EJ m q - 1) 1 else fC (hM m v) (u0 m v)
def pz(m:Model)(p:Int)(n:Nat):List Int:=(List.range n).flatMap fun j=>if (insts m)[j]?.map (·.proc)=some p then fC (dx m j) 1 else []
def iV(m:Model)(q:Nat)(own:Bool)(x:Node):List Int :=
 if x.op=2 then fC (hM m x.n.toNat) 1
 else if x.op=3 then o9 m q x.n.toNat own
 else if x.op=4 then fC (dx m q+1+x.n.toNat) 1
 else if x.op=6 then fC (cZ m x.n.toNat) 1
 else if x.op=7 then pz m (x.n.tdiv 16) (insts m).length
 else []
def vg(e:List Node):Nat→Bool
 | 0=>false
 | k+1=>match e[k]? with | some x=>decide (x.op=5) | none=>false
def nP(m:Model)(q:Nat)(e:List Node)(n:Nat):List Int:=(List.range n).flatMap fun k=>match e[k]? with | some x=>iV m q (vg e k) x | none=>[]
def sq(m:Model)(c:Nat):List Int:=fC (cZ m c) (1+jd m c)
def p0(a:Act):Bool:=match a.index with | [x]=>decide (x.op=5) | _=>false
def oO(m:Model)(q:Nat)(a:Act):List Int :=
 if a.kind=5 then sq m a.to.toNat
 else (if a.kind=2 then nP m q a.index a.index.length else if a.kind=4 then fC (cZ m a.to.toNat) 1 else [])++nP m q a.value a.value.length
def kp(m:Model)(q:Nat)(a:Act):List Int :=
 if a.kind=1 then fC (hM m a.to.toNat) 1
 else if a.kind=2 then o9 m q a.to.toNat (p0 a)
 else if a.kind=3 then fC (dx m q+1+a.to.toNat) 1
 else if a.kind=4 then sq m a.to.toNat
 else if a.kind=5 then sq m a.to.toNat++fC (dx m q+1+a.loc.toNat) 1
 else []
def sF(m:Model)(q:Nat)(c:dG):List Int:=fC (dx m q) 1++nP m q c.guard c.guard.length
def ow(m:Model)(q:Nat)(c:dG)(n:Nat):List Int:=sF m q c++(c.b4.take n).flatMap (oO m q)
def lJ(m:Model)(q:Nat)(c:dG)(n:Nat):List Int:=fC (dx m q) 1++(c.b4.take n).flatMap (kp m q)
theorem TM{m:Model}{q:Nat}{c:dG}{n:Nat}(h:n<c.b4.length):ow m q c (n+1)=ow m q c n++oO m q c.b4[n]:=by
 unfold ow;rw[List.take_succ_eq_append_getElem h,List.flatMap_append,List.flatMap_singleton,List.append_assoc]
theorem Vc{m:Model}{q:Nat}{c:dG}{n:Nat}(h:n<c.b4.length):lJ m q c (n+1)=lJ m q c n++kp m q c.b4[n]:=by
 unfold lJ;rw[List.take_succ_eq_append_getElem h,List.flatMap_append,List.flatMap_singleton,List.append_assoc]
theorem PW{m:Model}{q:Nat}{e:List Node}{n:Nat}(h:n<e.length):nP m q e (n+1)=nP m q e n++iV m q (vg e n) e[n]:=by
 unfold nP;rw[List.range_succ,List.flatMap_append,List.flatMap_singleton,List.getElem?_eq_getElem h]
theorem Ko{e:List Node}{n:Nat}(h:n<e.length):vg e (n+1)=decide (e[n].op=5):=by
 simp only[vg,List.getElem?_eq_getElem h]
theorem Hk{m:Model}{p:Int}{n:Nat}(h:n<(insts m).length):pz m p (n+1)=pz m p n++if (insts m)[n].proc=p then fC (dx m n) 1 else []:=by
 unfold pz;rw[List.range_succ,List.flatMap_append,List.flatMap_singleton,List.getElem?_eq_getElem h];simp only[Option.map_some,Option.some.injEq]
structure Ag(s:Scope)(x:Node):Prop where
 var:x.op=2→0≤x.n∧∃v,s.vars[x.n.toNat]? = some v∧v.over=0
 item:x.op=3→0≤x.n∧x.n.toNat<s.vars.length
 loc:x.op=4→0≤x.n∧x.n.toNat<s.locals.length
 self:x.op=5→1≤s.self∧s.self≤s.scalars.length
 len:x.op=6→0≤x.n∧x.n.toNat<s.aJ.length
 at_:x.op=7→0≤x.n∧(x.n.tdiv 16).toNat<s.procs.length
structure q2(s:Scope)(e:List Node):Prop where
 node:∀k (h:k<e.length),Ag s e[k]∧(e[k].op=3→0<k)
 len:e.length≤24
theorem acE{s:Scope}{x:Node}{top:Int}(h:(ie x s top).2=0):Ag s x:=by
 unfold ie at h;by_cases h1:x.op=1
 ·exact⟨by omega,by omega,by omega,by omega,by omega,by omega⟩
 rw[if_neg h1] at h;by_cases U:x.op=2∨x.op=3∨x.op=4
 ·rw[if_pos U] at h;simp only at h;by_cases aB:(fq (if x.op=4 then s.locals else s.vars) x.n s).2.2=false
  ·rw[if_pos aB] at h;cases h
  rw[if_neg aB] at h;obtain⟨v,ez,gd,iS,k3,uY,y4⟩:=acn (by simpa using aB);obtain⟨b9,ch,cm⟩:=ace y4;rw[k3] at h;simp only at h;have cq:=(List.getElem?_eq_some_iff.1 gd).1;by_cases ag:(x.op=3∧((gP v.over s).1=0∨top≠(gP v.over s).1))∨(x.op≠3∧(gP v.over s).1≠0)
  ·rw[if_pos ag] at h;cases h
  ·refine⟨fun e=>⟨iS,v,?_,?_⟩,fun e=>⟨iS,?_⟩,fun e=>⟨iS,?_⟩,by omega,by omega,by omega⟩
   ·rw[if_neg (by omega)] at gd;exact gd
   ·have:(gP v.over s).1=0:=Classical.byContradiction fun aI=>ag (.inr ⟨by omega,aI⟩)
    rw[cm] at this;split at this
    ·assumption
    ·omega
   ·rw[if_neg (by omega)] at cq;exact cq
   ·rw[if_pos e] at cq;exact cq
 ·rw[if_neg U] at h;unfold kK at h;refine⟨by omega,by omega,by omega,fun e=>?_,fun e=>?_,fun e=>?_⟩
  ·rw[if_pos e] at h;by_cases q:1≤s.self∧s.self≤s.scalars.length
   ·exact q
   ·rw[if_neg q] at h;cases h
  ·rw[if_neg (by omega),if_pos e] at h;unfold iT at h;cases aI:nth s.aJ x.n with
   | none=>rw[aI] at h;cases h
   | some c=>exact⟨(tr aI).1,(tr aI).2.2⟩
  ·rw[if_neg (by omega),if_neg (by omega),if_pos e] at h;unfold y5 at h;by_cases q:0≤x.n
   ·rw[if_pos q] at h;cases aI:nth s.procs (x.n.tdiv 16) with
    | none=>rw[aI] at h;cases h
    | some c=>exact⟨q,(tr aI).2.2⟩
   ·rw[if_neg q] at h;cases h
theorem ab9{e:List Node}{s:Scope}(h:(kind e s).2=0):q2 s e:=by
 unfold kind jU at h;by_cases h1:e.length > 24
 ·rw[if_pos h1] at h;cases h
 rw[if_neg h1] at h;by_cases U:e.length=0
 ·exact⟨fun k hk=>by omega,by omega⟩
 rw[if_neg U] at h;by_cases ag:(eL (fO s) e []).1≠0
 ·rw[if_pos ag] at h;exact absurd h ag
 have ag:(eL (fO s) e []).1=0:=by simpa using ag
 refine⟨fun k hk=>?_,by omega⟩;have s0:∀j,(eL (fO s) (e.take j) []).1=0:=fun j=>Classical.byContradiction fun aI=>by
  have:=T9 (f:=fO s) (e:=e) (k:=j) rfl aI
  rw[this] at ag;exact aI ag
 have ia:eL (fO s) (e.take k) []=(0,(eL (fO s) (e.take k) []).2):=Prod.ext (s0 k) rfl;have aK:=vj hk ia;have bc:=s0 (k+1);rw[aK] at bc;unfold stepG at bc;by_cases dO:eK e[k].op<0
 ·rw[if_pos dO] at bc;cases bc
 rw[if_neg dO] at bc;by_cases dP:((eL (fO s) (e.take k) []).2.length:Int)<eK e[k].op
 ·rw[if_pos dP] at bc;cases bc
 rw[if_neg dP] at bc;by_cases eg:(fO s e[k] (eL (fO s) (e.take k) []).2).2≠0
 ·rw[if_pos eg] at bc;exact absurd bc eg
 have eg:(fO s e[k] (eL (fO s) (e.take k) []).2).2=0:=by simpa using eg
 constructor
 ·by_cases a1:y2 e[k].op=false
  ·unfold fO at eg;rw[Ti a1] at eg;exact acE eg
  ·have:9≤e[k].op:=by
    simp only[y2,decide_eq_false_iff_not] at a1;omega
   exact⟨by omega,by omega,by omega,by omega,by omega,by omega⟩
 ·intro bQ;apply Classical.byContradiction;intro aI;have Fu:k=0:=by omega
  subst Fu;rw[bQ] at dP;simp[eL,eK] at dP
theorem Ei{e:List Node}{k:Int}{s:Scope}(h:asked e k s=0):q2 s e:=by
 unfold asked at h;by_cases h1:(kind e s).2≠0
 ·rw[if_pos h1] at h;exact absurd h h1
 ·exact ab9 (by simpa using h1)
structure oB(s:Scope)(a:Act):Prop where
 set:a.kind=1→0≤a.to∧∃v,s.vars[a.to.toNat]? = some v∧v.over=0
 item:a.kind=2→0≤a.to∧a.to.toNat<s.vars.length∧q2 s a.index
 loc:a.kind=3→0≤a.to∧a.to.toNat<s.locals.length
 chan:a.kind=4∨a.kind=5→0≤a.to∧a.to.toNat<s.aJ.length
 recv:a.kind=5→0≤a.loc∧a.loc.toNat<s.locals.length
 val:a.kind≠5→q2 s a.value
 kind:1≤a.kind∧a.kind≤5
theorem HN{l:List Var}{n:Int}{s:Scope}{q:Var×Int}(h:declared l n s=some q):0≤n∧l[n.toNat]? = some q.1∧n.toNat<l.length:=by
 unfold declared at h;cases aI:nth l n with
 | none=>rw[aI] at h;cases h
 | some v =>
  rw[aI] at h;simp only at h;split at h
  ·injection h with h
   subst h;exact tr aI
  ·cases h
theorem He{a:Act}{s:Scope}(h:jb a s=0):oB s a:=by
 unfold jb at h;by_cases h1:a.kind=1∨a.kind=2∨a.kind=3
 ·rw[if_pos h1] at h;cases br:declared (if a.kind=3 then s.locals else s.vars) a.to s with
  | none=>rw[br] at h;cases h
  | some q =>
   rw[br] at h;obtain⟨v,k⟩:=q;obtain⟨d1,d2,d3⟩:=HN br;simp only at h;by_cases U:(v.over≠0)≠(a.kind=2)
   ·rw[if_pos U] at h;cases h
   rw[if_neg U] at h;have U:(v.over≠0)=(a.kind=2):=Classical.byContradiction fun q=>U q;by_cases ag:a.kind=2∧asked a.index (1+v.over) s≠0
   ·rw[if_pos ag] at h;exact absurd h ag.2
   rw[if_neg ag] at h;refine⟨fun e=>⟨d1,v,?_,?_⟩,fun e=>⟨d1,?_,?_⟩,fun e=>⟨d1,?_⟩,by omega,by omega,fun _=>Ei h,by omega⟩
   ·rw[if_neg (by omega)] at d2;exact d2
   ·apply Classical.byContradiction;intro aI
    have:a.kind=2:=U ▸ aI
    omega
   ·rw[if_neg (by omega)] at d3;exact d3
   ·exact Ei (Classical.byContradiction fun aI=>ag ⟨e,aI⟩)
   ·rw[if_pos e] at d3;exact d3
 ·rw[if_neg h1] at h;by_cases U:a.kind=4∨a.kind=5
  ·rw[if_pos U] at h;cases ax:channel a.to s with
   | none=>rw[ax] at h;cases h
   | some k =>
    rw[ax] at h;simp only at h;have qz:0≤a.to∧a.to.toNat<s.aJ.length:=by
     unfold channel at ax;cases aI:nth s.aJ a.to with
     | none=>rw[aI] at ax;cases ax
     | some c=>exact⟨(tr aI).1,(tr aI).2.2⟩
    refine⟨by omega,by omega,by omega,fun _=>qz,fun e=>?_,fun e=>?_,by omega⟩
    ·rw[if_pos e] at h;unfold C9 at h;cases br:declared s.locals a.loc s with
     | none=>rw[br] at h;cases h
     | some q =>
      obtain⟨d1,d2,d3⟩:=HN br;exact⟨d1,d3⟩
    ·rw[if_neg e] at h;exact Ei h
  ·rw[if_neg U] at h;cases h
structure r7(s:Scope)(c:dG):Prop where
 guard:q2 s c.guard
 act:∀k (h:k<c.b4.length),oB s c.b4[k]
 gU:c.b4.length≤6
theorem OE{s:Scope}:∀(l:List Act) (i:Nat) (t:Bool),(jv s l i t).2=0→∀k (h:k<l.length),oB s l[k]
 | [],_,_,_,k,h=>by simp at h
 | a :: r,i,t,h,k,hk=>by
  unfold jv at h;by_cases h1:(gh a&&t)=true
  ·rw[if_pos h1] at h;cases h
  rw[if_neg h1] at h;by_cases U:jb a s≠0
  ·rw[if_pos U] at h;exact absurd h U
  rw[if_neg U] at h;cases k with
  | zero=>exact He (by simpa using U)
  | succ k=>exact OE r _ _ h k (by simpa using hk)
theorem Xy{c:dG}{cz:Int}{s:Scope}(h:(h4 c cz s).2=0):r7 s c:=by
 unfold h4 at h;by_cases h1:head c cz≠0
 ·rw[if_pos h1] at h;exact absurd h h1
 rw[if_neg h1] at h;by_cases U:c.guard.length > 0∧asked c.guard 1 s≠0
 ·rw[if_pos U] at h;exact absurd h U.2
 rw[if_neg U] at h;refine⟨?_,OE _ _ _ h,?_⟩
 ·by_cases a8:c.guard.length > 0
  ·exact Ei (Classical.byContradiction fun aI=>U ⟨a8,aI⟩)
  ·exact⟨fun k hk=>by omega,by omega⟩
 ·apply Classical.byContradiction;intro aI;apply h1;unfold head;by_cases dO:isName c.name=false
  ·rw[if_pos dO];decide
  rw[if_neg dO];by_cases dP:c.from_<0∨cz≤c.from_∨c.to<0∨cz≤c.to
  ·rw[if_pos dP];decide
  rw[if_neg dP,if_pos (by omega)];decide
theorem O8{m:Model}(h:(check m).dp=0):(lF m).dp=0:=by
 unfold check at h;by_cases br:(data m).dp≠0
 ·rw[if_pos br] at h;exact absurd h br
 rw[if_neg br] at h;apply Classical.byContradiction;intro aO;rw[if_pos aO] at h;exact aO h
theorem XC{m:Model}(h:(check m).dp=0){p k:Nat}(aO:p<m.procs.length)(hk:k<m.procs[p].cB.length):r7 (inner m.procs[p] (eU m)) m.procs[p].cB[k]:=by
 obtain⟨ff,_,_⟩:=Ky (O8 h);obtain⟨_,ez,_,_⟩:=A3 aO (ff p aO);obtain⟨_,_,k3⟩:=Tu ez;have e:gg m (p:Int)=inner m.procs[p] (eU m):=by
  unfold gg;rw[hX (by omega) (by omega)];rfl
 have bc:=(HG _ _ k3 k hk).1;rw[e] at bc;exact Xy bc
theorem wi{L:List (List Int)}{B:List (List dm)}(h:L.map List.length=B.map List.length):L.flatten.length=total B:=by
 rw[List.length_flatten,h];rfl
def pre(xZ:List Int)(d:Nat):List Int:=xZ.take d++List.replicate (xZ.length - d) 0
theorem zL{xZ:List Int}{d:Nat}{x:Int}(h:xZ[d]? = some x):xZ.take (d+1)=xZ.take d++[x]:=by
 obtain⟨br,rfl⟩:=List.getElem?_eq_some_iff.1 h;exact List.take_succ_eq_append_getElem br
theorem WR{m:Model}{i:Nat}(h:i<m.aJ.length):cZ m (i+1)=cZ m i+(1+m.aJ[i].cap.toNat):=by
 have bA:i<(dc m).length:=by simpa[dc] using h
 unfold cZ;rw[Dw bA];simp[dc,sn];omega
theorem WS(m:Model):cZ m 0=total (cG m):=by simp[cZ,total]
theorem SA(s w:Int):∀(l:List dm) (k j:Nat) (h:j<l.length),(eT s w l k)[j]? = some ⟨s,w,(k+j:Nat),l[j].aZ,l[j].ad,l[j].kind⟩
 | [],_,_,h=>by simp at h
 | b :: l,k,0,_=>by simp[eT]
 | b :: l,k,j+1,h=>by
  simp only[eT,List.getElem?_cons_succ,List.getElem_cons_succ];rw[SA s w l (k+1) j (by simpa using h),show k+1+j=k+(j+1) from by omega]
theorem Hz(s:Int):∀(ls:List (List dm)) (i w k:Nat) (hw:w<ls.length) (hk:k<ls[w].length),(cellsOf s ls i)[total (ls.take w)+k]? = some ⟨s,(i+w:Nat),k,ls[w][k].aZ,ls[w][k].ad,ls[w][k].kind⟩
 | [],_,_,_,hw,_=>by simp at hw
 | l :: r,i,0,k,_,hk=>by
  simp only[List.take_zero,total,List.map_nil,List.sum_nil,Nat.zero_add,List.getElem_cons_zero,cellsOf] at hk ⊢;rw[List.getElem?_append_left (by rw[rN];exact hk),SA s i l 0 k hk];simp
 | l :: r,i,w+1,k,hw,hk=>by
  simp only[List.take_succ_cons,Dv,List.getElem_cons_succ,cellsOf] at hk ⊢;rw[List.getElem?_append_right (by rw[rN];omega),rN,show l.length+total (r.take w)+k - l.length=total (r.take w)+k from by omega,Hz s r (i+1) w k (by simpa using hw) hk,show i+1+w=i+(w+1) from by omega]
theorem acy{m:Model}{k p:Nat}(hk:k<(insts m).length)(aO:p<m.procs.length)(aD:ka m (insts m)[k]=rU m.scalars m.procs[p]):∃h:dx m k<(b1 m).length,(b1 m)[dx m k].aZ=0∧(b1 m)[dx m k].ad=m.procs[p].cz - 1:=by
 have hw:k<(eP m).length:=by simpa[eP] using hk
 have e:(eP m)[k]=rU m.scalars m.procs[p]:=by simp[eP,aD]
 have aj:0<(eP m)[k].length:=by rw[e,xp];omega
 have h1:=Hz 3 (eP m) 0 k 0 hw aj;have U:=acx (m:=m) (c:=dx m k) (by unfold dx;omega);rw[show dx m k - (total (cG m)+total (dc m))=total ((eP m).take k)+0 from by unfold dx;omega,h1] at U;obtain⟨ag,aK⟩:=List.getElem?_eq_some_iff.1 U;refine⟨ag,?_,?_⟩
 ·rw[aK];simp only[e];rfl
 ·rw[aK];simp only[e];rfl
theorem Fits.loc{m:Model}{s:List Int}(h:Fits m s){k p:Nat}(hk:k<(insts m).length)(aO:p<m.procs.length)(aD:ka m (insts m)[k]=rU m.scalars m.procs[p]):∃d:Nat,s[dx m k]? = some (d:Int)∧(d:Int)<m.procs[p].cz:=by
 obtain⟨h1,U,ag⟩:=acy hk aO aD;have ay:dx m k<s.length:=by rw[h.len];exact h1
 have aK:=h.cell _ ay h1;rw[U,ag] at aK;refine⟨s[dx m k].toNat,?_,by omega⟩;rw[List.getElem?_eq_getElem ay,Int.toNat_of_nonneg aK.1]
theorem OU(m:Model)(s:List Int)(p l:Int)(k:Nat):pA m s p l (k+1)=pA m s p l k+if ((insts m)[k]?.map (·.proc))=some p∧s[dx m k]? = some l then 1 else 0:=by
 unfold pA;rw[List.range_succ,List.filter_append,List.length_append,List.filter_cons,List.filter_nil];by_cases h:((insts m)[k]?.map (·.proc))=some p∧s[dx m k]? = some l
 ·rw[decide_eq_true h,if_pos rfl,if_pos h];rfl
 ·rw[decide_eq_false h,if_neg (by simp),if_neg h];rfl
theorem vQ(m:Model)(s:List Int)(p:Nat)(n:Int)(k:Nat):(jc m s p n k).length=n.toNat:=by simp[jc]
theorem Ej{m:Model}{s:List Int}{p:Nat}{n:Int}{k d:Nat}(h:d<n.toNat):(jc m s p n k)[d]? = some ((pA m s p d k:Nat):Int):=by
 simp[jc,h]
theorem Wl(m:Model)(s:List Int)(p:Nat)(n:Int):jc m s p n 0=List.replicate n.toNat 0:=by
 apply List.ext_getElem?;intro i;by_cases h:i<n.toNat
 ·rw[Ej h];simp[pA,h]
 ·rw[List.getElem?_eq_none (by rw[vQ];omega),List.getElem?_eq_none (by simp;omega)]
theorem Wj{m:Model}{s:List Int}{p:Nat}{n:Int}{k:Nat}(h:(insts m)[k]?.map (·.proc)≠some (p:Int)):jc m s p n (k+1)=jc m s p n k:=by
 unfold jc;apply List.map_congr_left;intro l _;rw[OU,if_neg (fun e=>h e.1),Nat.add_zero]
theorem Wk{m:Model}{s:List Int}{p:Nat}{n:Int}{k d:Nat}(h:(insts m)[k]?.map (·.proc)=some (p:Int))(ay:s[dx m k]? = some (d:Int))(br:d<n.toNat):jc m s p n (k+1)=(jc m s p n k).set d ((pA m s p d k:Nat)+1:Int):=by
 apply List.ext_getElem?;intro i;rw[List.getElem?_set];by_cases ad:i<n.toNat
 ·rw[Ej ad,OU];by_cases I7:d=i
  ·subst I7;rw[if_pos ⟨h,ay⟩,if_pos rfl,if_pos (by rw[vQ];exact br)];rfl
  ·rw[if_neg (fun e=>I7 (by have ba:=e.2;rw[ay] at ba;have bQ:=Option.some.inj ba;omega)),if_neg I7,Ej ad,Nat.add_zero]
 ·rw[List.getElem?_eq_none (by rw[vQ];omega),if_neg (by omega),List.getElem?_eq_none (by rw[vQ];omega)]
theorem OT(m:Model)(s:List Int)(p l:Int)(k:Nat):pA m s p l k≤k:=by
 unfold pA;refine Nat.le_trans (List.length_filter_le _ _) ?_;simp
theorem Sc{m:Model}:∀(l:List dj) (i:Nat),l=m.procs.drop i→∀x∈ic m l i,∃(p:Nat) (h:p<m.procs.length),x.proc=p∧(m.procs[p].over≠0→1≤x.elem)
 | [],_,_,x,ar=>by simp[ic] at ar
 | p :: r,i,h,x,ar=>by
  have ad:i<m.procs.length:=by
   apply Classical.byContradiction;intro aI;rw[List.drop_eq_nil_of_le (by omega)] at h;cases h
  rw[List.drop_eq_getElem_cons ad] at h;injection h with h1 U
  simp only[ic,List.mem_append] at ar;rcases ar with (ar | ar) | ar
  ·unfold hI at ar;split at ar
   ·rename_i aj;rw[List.mem_singleton] at ar;subst ar;exact⟨i,ad,rfl,fun aI=>absurd (h1 ▸ aj) aI⟩
   ·cases ar
  ·unfold ih at ar;obtain⟨k,_,rfl⟩:=List.mem_map.1 ar;exact⟨i,ad,rfl,fun _=>by simp only;omega⟩
  ·exact Sc r (i+1) U x ar
structure gp(m:Model)(q p:Nat):Prop where
 aB:q<(insts m).length
 aO:p<m.procs.length
 eq:(insts m)[q].proc=p
 elem:m.procs[p].over≠0→1≤(insts m)[q].elem
 e0:0≤(insts m)[q].elem∧(insts m)[q].elem≤4
theorem JP{m:Model}{q:Nat}(h:q<(insts m).length):∃p,gp m q p:=by
 obtain⟨p,aO,e,h1⟩:=Sc m.procs 0 (by simp) _ (List.getElem_mem h);exact⟨p,h,aO,e,h1,(qK _ (List.getElem_mem h)).elem⟩
theorem gp.nth{m:Model}{q p:Nat}(h:gp m q p):o.nth m.procs ((insts m)[q]'(h.aB)).proc=some (m.procs[p]'(h.aO)):=by
 rw[h.eq,hX (by omega) (by have:=h.aO;omega)];rfl
theorem gp.OV{m:Model}{q p:Nat}(h:gp m q p):ka m ((insts m)[q]'(h.aB))=rU m.scalars (m.procs[p]'(h.aO)):=by
 unfold ka;rw[h.nth]
theorem gp.room{m:Model}{q p:Nat}(h:gp m q p):dx m q+(1+(m.procs[p]'(h.aO)).vars.length)≤fH m:=by
 have:=R6 h.aB
 rw[h.OV,xp] at this;exact this
theorem AZ{m:Model}{q:Nat}(h:q<(insts m).length):EJ m q=((insts m)[q]'h).elem.toNat:=by
 unfold EJ;rw[List.getElem?_eq_getElem h]
theorem u1{m:Model}{v:Nat}(h:v<m.vars.length):u0 m v=(cells m.vars[v] m.scalars).toNat:=by
 unfold u0;rw[List.getElem?_eq_getElem h]
theorem oV{m:Model}{c:Nat}(h:c<m.aJ.length):jd m c=m.aJ[c].cap.toNat:=by
 unfold jd;rw[List.getElem?_eq_getElem h]
theorem GA{m:Model}(bg:eI m){v:Nat}(h:v<m.vars.length):hM m v+u0 m v≤64:=by
 have:=tK h
 rw[u1 h]
 have:=pD m
 have:fH m≤64:=mJ bg
 omega
theorem ug{m:Model}(bg:eI m){c:Nat}(h:c<m.aJ.length):cZ m c+(1+jd m c)≤64:=by
 have:=yh h
 rw[oV h]
 have:=pD m
 have:fH m≤64:=mJ bg
 omega
theorem yZ{m:Model}(bg:eI m){q:Nat}(h:q<(insts m).length):dx m q+1≤64:=by
 obtain⟨p,aO⟩:=JP h
 have:=aO.room
 have:fH m≤64:=mJ bg
 omega
theorem gp.zC{m:Model}(bg:eI m){q p:Nat}(h:gp m q p):dx m q+(1+(m.procs[p]'(h.aO)).vars.length)≤64:=by
 have:=h.room
 have:fH m≤64:=mJ bg
 omega
structure eS(n:Nat)(l:List Int):Prop where
 aZ:∀x∈l,0≤x∧x<80
 len:l.length≤n
theorem eS.row{a n k:Nat}(h:a+n≤80)(aI:n≤k):eS k (fC a n):=⟨fun x ar=>by have:=pg.1 ar;omega,by rw[T2];exact aI⟩
theorem eS.nil(n:Nat):eS n []:=⟨fun x ar=>(by cases ar),Nat.zero_le _⟩
theorem eS.app{a b n:Nat}{l r:List Int}(h:eS a l)(k:eS b r)(aI:a+b≤n):eS n (l++r):=⟨fun x ar=>by
 rcases List.mem_append.1 ar with ar | ar
 ·exact h.aZ x ar
 ·exact k.aZ x ar,by rw[List.length_append];have:=h.len;have:=k.len;omega⟩
theorem eS.mono{a n:Nat}{l:List Int}(h:eS a l)(aI:a≤n):eS n l:=⟨h.aZ,Nat.le_trans h.len aI⟩
theorem Sk{m:Model}(bg:eI m){q v:Nat}(aB:q<(insts m).length)(aS:v<m.vars.length)(own:Bool):eS 64 (o9 m q v own):=by
 have:=GA bg aS
 have aK:=(qK _ (List.getElem_mem aB)).elem
 have:=AZ aB
 unfold o9;cases own
 ·exact eS.row (by omega) (by omega)
 ·exact eS.row (by omega) (by omega)
theorem OS{m:Model}(bg:eI m)(p:Int):∀n,n≤(insts m).length→eS n (pz m p n)
 | 0,_=>eS.nil _
 | n+1,h=>by
  rw[Hk (by omega)]
  have:=yZ bg (q:=n) (by omega)
  refine eS.app (OS bg p n (by omega)) (b:=1) ?_ (Nat.le_refl _);split
  ·exact eS.row (by omega) (Nat.le_refl _)
  ·exact eS.nil _
theorem JQ{m:Model}(bg:eI m):(insts m).length≤30:=by have:=ta m;have:=bg.procs;omega
theorem adl{m:Model}(bg:eI m){q p:Nat}(h:gp m q p){x:Node}(ar:Ag (inner (m.procs[p]'(h.aO)) (eU m)) x)(own:Bool):eS 64 (iV m q own x):=by
 unfold iV;by_cases U:x.op=2
 ·rw[if_pos U];obtain⟨_,v,aS,_⟩:=ar.var U;have fc:x.n.toNat<m.vars.length:=(List.getElem?_eq_some_iff.1 aS).1
  have:=tK fc
  have:=pD m
  have:fH m≤64:=mJ bg
  exact eS.row (by omega) (by omega)
 rw[if_neg U];by_cases ag:x.op=3
 ·rw[if_pos ag];exact Sk bg h.aB (ar.item ag).2 own
 rw[if_neg ag];by_cases aK:x.op=4
 ·rw[if_pos aK];have bc:x.n.toNat<(m.procs[p]'(h.aO)).vars.length:=(ar.loc aK).2
  have:=h.zC bg
  exact eS.row (by omega) (by omega)
 rw[if_neg aK];by_cases bD:x.op=6
 ·rw[if_pos bD]
  have:=ug bg (ar.len bD).2
  exact eS.row (by omega) (by omega)
 rw[if_neg bD];by_cases b6:x.op=7
 ·rw[if_pos b6];exact(OS bg _ _ (Nat.le_refl _)).mono (by have:=JQ bg;omega)
 ·rw[if_neg b6];exact eS.nil _
theorem PX{m:Model}(bg:eI m){q p:Nat}(h:gp m q p){e:List Node}(he:q2 (inner (m.procs[p]'(h.aO)) (eU m)) e):∀n,n≤e.length→eS (64*n) (nP m q e n)
 | 0,_=>eS.nil _
 | n+1,aI=>by
  rw[PW (by omega)];exact eS.app (PX bg h he n (by omega)) (adl bg h (he.node n (by omega)).1 _) (by omega)
theorem H9{m:Model}(bg:eI m){q p:Nat}(h:gp m q p){e:List Node}(he:q2 (inner (m.procs[p]'(h.aO)) (eU m)) e){n:Nat}(aI:n≤e.length):eS 1536 (nP m q e n) :=
 (PX bg h he n aI).mono (by have:=he.len;omega)
theorem HB{m:Model}(bg:eI m){c:Nat}(h:c<m.aJ.length):eS 64 (sq m c):=by
 have:=ug bg h
 exact eS.row (by omega) (by omega)
theorem VQ{m:Model}(bg:eI m){q p:Nat}(h:gp m q p){a:Act}(bp:oB (inner (m.procs[p]'(h.aO)) (eU m)) a):eS 3072 (oO m q a):=by
 unfold oO;by_cases bc:a.kind=5
 ·rw[if_pos bc];exact(HB bg (bp.chan (.inr bc)).2).mono (by omega)
 ·rw[if_neg bc];refine eS.app (a:=1536) ?_ (H9 bg h (bp.val bc) (Nat.le_refl _)) (by omega);by_cases U:a.kind=2
  ·rw[if_pos U];exact H9 bg h (bp.item U).2.2 (Nat.le_refl _)
  rw[if_neg U];by_cases aK:a.kind=4
  ·rw[if_pos aK]
   have:=ug bg (bp.chan (.inl aK)).2
   exact eS.row (by omega) (by omega)
  ·rw[if_neg aK];exact eS.nil _
theorem VR{m:Model}(bg:eI m){q p:Nat}(h:gp m q p){a:Act}(bp:oB (inner (m.procs[p]'(h.aO)) (eU m)) a):eS 80 (kp m q a):=by
 have oZ:=h.zC bg;unfold kp;by_cases h1:a.kind=1
 ·rw[if_pos h1];obtain⟨_,v,aS,_⟩:=bp.set h1;have fc:a.to.toNat<m.vars.length:=(List.getElem?_eq_some_iff.1 aS).1
  have:=GA bg fc
  exact eS.row (by omega) (by omega)
 rw[if_neg h1];by_cases U:a.kind=2
 ·rw[if_pos U];exact(Sk bg h.aB (bp.item U).2.1 _).mono (by omega)
 rw[if_neg U];by_cases ag:a.kind=3
 ·rw[if_pos ag];have bc:a.to.toNat<(m.procs[p]'(h.aO)).vars.length:=(bp.loc ag).2;exact eS.row (by omega) (by omega)
 rw[if_neg ag];by_cases aK:a.kind=4
 ·rw[if_pos aK];exact(HB bg (bp.chan (.inl aK)).2).mono (by omega)
 rw[if_neg aK];by_cases bc:a.kind=5
 ·rw[if_pos bc];have bD:a.loc.toNat<(m.procs[p]'(h.aO)).vars.length:=(bp.recv bc).2;exact eS.app (HB bg (bp.chan (.inr bc)).2) (eS.row (k:=1) (by omega) (by omega)) (by omega)
 ·rw[if_neg bc];exact eS.nil _
theorem Qg{m:Model}(bg:eI m){q p:Nat}(h:gp m q p){c:dG}(ax:r7 (inner (m.procs[p]'(h.aO)) (eU m)) c):eS 1537 (sF m q c):=by
 have:=yZ bg h.aB
 exact eS.app (eS.row (k:=1) (by omega) (by omega)) (H9 bg h ax.guard (Nat.le_refl _)) (by omega)
theorem KJ{m:Model}(bg:eI m){q p:Nat}(h:gp m q p){c:dG}(ax:r7 (inner (m.procs[p]'(h.aO)) (eU m)) c):∀n,n≤c.b4.length→eS (1537+3072*n) (ow m q c n)
 | 0,_=>by
  unfold ow;simpa using Qg bg h ax
 | n+1,aI=>by
  rw[TM (by omega)];exact eS.app (KJ bg h ax n (by omega)) (VQ bg h (ax.act n (by omega))) (by omega)
theorem Lr{m:Model}(bg:eI m){q p:Nat}(h:gp m q p){c:dG}(ax:r7 (inner (m.procs[p]'(h.aO)) (eU m)) c):∀n,n≤c.b4.length→eS (1+80*n) (lJ m q c n)
 | 0,_=>by
  have:=yZ bg h.aB
  unfold lJ;simpa using eS.row (a:=dx m q) (n:=1) (k:=1) (by omega) (by omega)
 | n+1,aI=>by
  rw[Vc (by omega)];exact eS.app (Lr bg h ax n (by omega)) (VR bg h (ax.act n (by omega))) (by omega)
theorem afz{a:Act}(h:a.index.length=1):p0 a=decide ((a.index[0]'(by omega)).op=5):=by
 obtain⟨x,ar⟩:=List.length_eq_one_iff.1 h;unfold p0;simp[ar]
theorem afy{a:Act}(h:¬a.index.length=1):p0 a=false:=by
 unfold p0;split
 ·rename_i x ar;rw[ar] at h;exact absurd rfl h
 ·rfl
theorem aea(L:List Int)(a n:Nat):L++fC a (n+1)=L++fC a n++[((a+n:Nat):Int)]:=by rw[T3,List.append_assoc]
end o
namespace Go.Proofs.R
open Go Go.RowKit bt
structure mX(w:World)(b:Nat)(m:o.Model)(q:Nat):Prop where
 ex:∃cs ys cr,w.heap[b]? = some (.cells (cs++ys++[cr,.int .i64 q]).toArray T.x3)∧o.er w cs m∧o.jr w ys (o.layout m)∧oE w cr (o.insts m)
theorem mX.ext{w w':World}{b q:Nat}{m:o.Model}(he:Ext w w')(h:mX w b m q):mX w' b m q :=
 let ⟨xs,cs,cr,aj,h1,U,ag⟩:=h.ex; ⟨xs,cs,cr,he.obj aj,h1.ext he,U.ext he,ag.ext Flat.ext he⟩
theorem mX.form{w:World}{b q:Nat}{m:o.Model}(h:mX w b m q):∃cy bO b9 c1 ch c2 cm bN cA bT hJ d0 ff d1 gf d2 gV d3 ij d4 eu ci,
  w.heap[b]? = some (.cells #[.slice hJ m.scalars.length d0,.slice ff m.vars.length d1,.slice gf m.aJ.length d2,.slice gV m.procs.length d3,.slice ij m.props.length d4,
   .slice cy (o.layout m).vars.length bO,.slice b9 (o.layout m).aJ.length c1,.slice ch (o.layout m).insts.length c2,.int .i64 (o.layout m).cells,.slice cm (o.layout m).aZ.length bN,.slice cA (o.layout m).ad.length bT,.slice eu (o.insts m).length ci,.int .i64 q] T.x3) ∧
  bz 1 (Flat dA) w (.slice cy (o.layout m).vars.length bO) (o.layout m).vars∧bz 1 (Flat dA) w (.slice b9 (o.layout m).aJ.length c1) (o.layout m).aJ∧bz 1 (Flat dA) w (.slice ch (o.layout m).insts.length c2) (o.layout m).insts ∧
  o.gi w (.slice hJ m.scalars.length d0) m.scalars∧o.gJ w (.slice ff m.vars.length d1) m.vars∧o.lN w (.slice gf m.aJ.length d2) m.aJ∧o.pt w (.slice gV m.procs.length d3) m.procs ∧
  oE w (.slice eu (o.insts m).length ci) (o.insts m):=by
 obtain⟨cs,xs,cr,aD,bg,dE,bH⟩:=h.ex;obtain⟨cy,bO,b9,c1,ch,c2,cm,bN,cA,bT,rfl,gW,fr,fL,hp,jS⟩:=dE.form;obtain⟨hJ,d0,ff,d1,gf,d2,gV,d3,ij,d4,rfl,aj,h1,U,ag,aK,_⟩:=bg.form;obtain⟨eu,ci,rfl,_⟩:=bH.form;exact⟨cy,bO,b9,c1,ch,c2,cm,bN,cA,bT,hJ,d0,ff,d1,gf,d2,gV,d3,ij,d4,eu,ci,aD,gW,fr,fL,aj,h1,U,ag,bH⟩
theorem pe(b:Nat)(L:List Int)(a n:Nat)(x y:Int)(w:World)(h:eC w b L)(ar:x=a)(cx:y=n)(hm:a+n≤1000000000) :
  bu Tryz.prog F.a #[.map (some b),.int .i64 x,.int .i64 y] w fun _ w'=>eC w' b (L++o.fC a n)∧Mod (fun i=>i=b) w w':=by
 subst ar cx;refine bM E.a ?_;refine bF ?_;refine al ?_;refine K.df 8 n [0,1,7] (fun _:Unit=>[]) () (fun k _ W=>Mod (fun i=>i=b) w W∧eC W b (L++o.fC a k)) bB bB ⟨Mod.refl _ _,by simpa[o.ae7] using h⟩ ?_;rintro k _ S av hk ⟨sV,fA⟩;refine al ?_;apply K.cond<;>intro g1
 ·refine al ?_;refine K.acM fA fun z=>?_;refine al ?_;refine K.GK ?_;refine al ?_;refine K.ac8 fA (by omega) fun aT rJ eb=>?_;refine al ?_;refine⟨by omega,bw,(),trivial,sV.trans (rJ.mod rfl),?_⟩;rw[o.aea];exact eb
 ·have o3:k=n:=by omega
  subst o3;refine al ?_;exact⟨fA,sV⟩
theorem yJ(b q:Nat)(m:o.Model)(w:World)(h:mX w b m q)(aB:q<(o.insts m).length) :
  bu Tryz.prog F.f #[.pointer (some ⟨b,0,none⟩)] w fun v w'=>v = .int .i64 (o.dx m q)∧Ext w w':=by
 obtain⟨cy,bO,b9,c1,ch,c2,cm,bN,cA,bT,hJ,d0,ff,d1,gf,d2,gV,d3,ij,d4,eu,ci,aD,gW,fr,fL,aj,h1,U,ag,bH⟩:=h.form;obtain⟨ad,he⟩:=o.wU aB;obtain⟨a2,rfl⟩:=fL.addr (by omega);refine bM E.f ?_;refine bF ?_;refine al ?_;intro av aA;refine al ?_;exact⟨by rw[he],aA⟩
theorem Lm(b cN q i:Nat)(L:List Int)(m:o.Model)(w0 w:World)(h:mX w0 b m q)(he:Ext w0 w)(kA:w0.heap.size≤cN)(ay:eC w cN L)(bg:o.eI m)(ad:i<m.aJ.length) :
  bu Tryz.prog F.oQ #[.pointer (some ⟨b,0,none⟩),.map (some cN),.int .i64 i] w fun _ w'=>eC w' cN (L++o.sq m i)∧Mod (fun k=>k=cN) w w':=by
 obtain⟨cy,bO,b9,c1,ch,c2,cm,bN,cA,bT,hJ,d0,ff,d1,gf,d2,gV,d3,ij,d4,eu,ci,aD,gW,fr,fL,aj,h1,U,ag,bH⟩:=(h.ext he).form;obtain⟨lr,e3⟩:=o.vW ad;have wQ:=o.ug bg ad;have gA:=o.oV ad;have hz:=(bg.chan _ (List.getElem_mem ad)).cap;have gU:=bg.gU;obtain⟨dy,rfl⟩:=fr.addr (by omega);obtain⟨a2,rfl⟩:=U.addr (by omega);have et:=(U.at i ad).cells;refine bM E.oQ ?_;refine bF ?_;refine al ?_;intro av aA;refine al ?_;refine K.call (pe cN L (o.cZ m i) (1+o.jd m i) _ _ av (ay.ext aA) (by rw[e3]) (by omega) (by omega)) ?_;rintro _ aT ⟨eb,fz⟩;refine al ?_;exact⟨eb,aA.mod.trans fz⟩
theorem Dy(b cN q i:Nat)(item own:Bool)(L:List Int)(m:o.Model)(w0 w:World)(h:mX w0 b m q)(he:Ext w0 w)(kA:w0.heap.size≤cN)(ay:eC w cN L)(bg:o.eI m)(aB:q<(o.insts m).length)(ad:i<m.vars.length)
  (a1:item=true→own=true→1≤(o.insts m)[q].elem) :
  bu Tryz.prog F.g #[.pointer (some ⟨b,0,none⟩),.map (some cN),.int .i64 i,.bool item,.bool own] w fun _ w'=>eC w' cN (L++o.o9 m q i (item&&own))∧Mod (fun k=>k=cN) w w':=by
 obtain⟨cy,bO,b9,c1,ch,c2,cm,bN,cA,bT,hJ,d0,ff,d1,gf,d2,gV,d3,ij,d4,eu,ci,aD,gW,fr,fL,aj,h1,U,ag,bH⟩:=(h.ext he).form;obtain⟨fm,od⟩:=o.Gy ad;have wQ:=o.GA bg ad;have sU:=o.u1 ad;have sP:=(o.qK _ (List.getElem_mem aB)).elem;have hU:=o.AZ aB;have fa:=o.sm m.vars[i] m.scalars;obtain⟨a0,rfl⟩:=gW.addr (by omega);obtain⟨dy,rfl⟩:=h1.addr (by omega);obtain⟨lY,rfl⟩:=bH.addr (by omega);have et:=(h1.at i ad).cells;cases item<;>cases own;rotate_left 3
 ·have k0:=a1 rfl rfl;refine bM E.g ?_;refine bF ?_;refine al ?_;intro av aA;refine al ?_;refine K.call (pe cN L (o.hM m i+o.EJ m q - 1) 1 _ _ av (ay.ext aA) (by rw[od];omega) rfl (by omega)) ?_;rintro _ aT ⟨eb,fz⟩;refine al ?_;exact⟨eb,aA.mod.trans fz⟩
 all_goals
  clear a1;refine bM E.g ?_;refine bF ?_;refine al ?_;intro av aA;refine al ?_;refine K.call (Eu m.vars[i] _ m.scalars av (aj.ext aA)) ?_;rintro _ aT ⟨rfl,aC⟩;refine al ?_;refine K.call (pe cN L (o.hM m i) (o.u0 m i) _ _ aT ((ay.ext aA).ext aC) (by rw[od]) (by omega) (by omega)) ?_;rintro _ bf ⟨hj,h8⟩;refine al ?_;exact⟨hj,(aA.mod.trans aC.mod).trans h8⟩
end Go.Proofs.R
end
section
namespace o
open Go
theorem Ta{m:Model}{q:Nat}{own:Bool}{x:Node}(h:x.op=2){v:Var}(aS:m.vars[x.n.toNat]? = some v)(aj:v.over=0):o9 m q x.n.toNat false=iV m q own x:=by
 obtain⟨h1,U⟩:=List.getElem?_eq_some_iff.1 aS;unfold iV o9;rw[if_pos h,if_neg (by simp),u1 h1,U]
 have:cells v m.scalars=1:=by unfold cells;rw[if_pos aj]
 rw[this];rfl
end o
namespace Go.Proofs.R
open Go Go.RowKit bt
structure tN(w:World)(cv lg b cN:Nat):Prop where
 x:w.heap[cv]? = some (.cells #[.pointer (some ⟨b,0,none⟩)] T.re)
 z:w.heap[lg]? = some (.cells #[.map (some cN)] T.t)
theorem tN.mod{w w':World}{cv lg b cN:Nat}{L:List Int}(h:tN w cv lg b cN)(ay:eC w cN L)(hm:Mod (fun k=>k=cN) w w'):tN w' cv lg b cN:=by
 obtain⟨es,c,ax,_⟩:=ay.ex;have aI:∀{k:Nat} {cs t},w.heap[k]? = some (.cells cs t)→¬k=cN:=fun hk e=>by subst e;rw[hk] at ax;cases ax
 exact⟨hm.obj (aI h.x) h.x,hm.obj (aI h.z) h.z⟩
theorem tN.ext{w w':World}{cv lg b cN:Nat}(h:tN w cv lg b cN)(he:Ext w w'):tN w' cv lg b cN:=⟨he.obj h.x,he.obj h.z⟩
theorem Ys(x:o.Node)(own:Bool)(b cN cv lg q p:Nat)(L:List Int)(m:o.Model)(w0 w:World)(h:mX w0 b m q)(he:Ext w0 w)(kA:w0.heap.size≤cN)(ay:eC w cN L)(hT:tN w cv lg b cN)(bg:o.eI m)(bH:o.gp m q p)
  (ar:o.Ag (o.inner (m.procs[p]'(bH.aO)) (o.eU m)) x)(dh:x.ok)(a1:own=true→1≤((o.insts m)[q]'(bH.aB)).elem) :
  bu Tryz.prog F.be #[.agg x.enc.toArray,.bool own,.pointer (some ⟨cv,0,none⟩),.pointer (some ⟨lg,0,none⟩)] w fun _ w'=>eC w' cN (L++o.iV m q own x)∧Mod (fun k=>k=cN) w w':=by
 have aB:=bH.aB;have oZ:=bH.zC bg;have abA:=dh.op;have abz:=dh.n;unfold o.en at abA abz;have rv:=hT.x;have sL:=hT.z;obtain⟨cy,bO,b9,c1,ch,c2,cm,bN,cA,bT,hJ,d0,ff,d1,gf,d2,gV,d3,ij,d4,eu,ci,wB,gW,fr,fL,_,_,_,_,Is⟩:=h.form;refine bM E.be ?_;refine bF ?_;refine al ?_;intro av cO fo aA bI;replace rv:=aA.obj rv;replace sL:=aA.obj sL;have fA:=ay.ext aA;have h3:=he.trans aA;obtain⟨es,ce,e3,_⟩:=fA.ex;have tq:¬cO=cN:=fun e=>by subst e;rw[bI] at e3;cases e3
 have pY:¬cv=cN:=fun e=>by subst e;rw[rv] at e3;cases e3
 have adr:¬lg=cN:=fun e=>by subst e;rw[sL] at e3;cases e3
 clear e3;unfold o.Node.enc at bI;refine al ?_;apply K.cond<;>intro g2
 ·obtain⟨gO,v,aS,jG⟩:=ar.var g2;have fc:x.n.toNat<m.vars.length:=(List.getElem?_eq_some_iff.1 aS).1;have h5:x.n=(x.n.toNat:Nat):=by omega
  refine al ?_;rw[h5];refine K.call (Dy b cN q x.n.toNat false false L m w0 av h h3 kA fA bg aB fc (fun a=>by cases a)) ?_;rintro _ aT ⟨eb,fz⟩;rw[Bool.false_and,o.Ta g2 aS jG (own:=own)] at eb;refine al ?_;exact⟨eb,aA.mod.trans fz⟩
 refine al ?_;apply K.cond<;>intro g3
 ·obtain⟨gO,fc⟩:=ar.item g3;have h5:x.n=(x.n.toNat:Nat):=by omega
  refine al ?_;rw[h5];refine K.call (Dy b cN q x.n.toNat true own L m w0 av h h3 kA fA bg aB fc (fun _ a=>a1 a)) ?_;rintro _ aT ⟨eb,fz⟩;have bQ:o.iV m q own x=o.o9 m q x.n.toNat (true&&own):=by unfold o.iV;rw[if_neg g2,if_pos g3,Bool.true_and]
  rw[←bQ] at eb;refine al ?_;exact⟨eb,aA.mod.trans fz⟩
 refine al ?_;apply K.cond<;>intro g4
 ·obtain⟨gO,fc⟩:=ar.loc g4;have fJ:x.n.toNat<(m.procs[p]'(bH.aO)).vars.length:=fc;have b3:o.iV m q own x=o.fC (o.dx m q+1+x.n.toNat) 1:=by unfold o.iV;rw[if_neg g2,if_neg g3,if_pos g4]
  rw[b3];refine al ?_;intro aT aC;refine al ?_;refine K.call (yJ b q m aT (h.ext (h3.trans aC)) aB) ?_;rintro _ bf ⟨rfl,aw⟩;refine⟨aw,?_⟩;refine al ?_;refine K.call (pe cN L (o.dx m q+1+x.n.toNat) 1 _ _ bf ((fA.ext aC).ext aw) (by omega) rfl (by omega)) ?_;rintro _ bq ⟨l6,rF⟩;refine al ?_;exact⟨l6,((aA.mod.trans aC.mod).trans aw.mod).trans rF⟩
 refine al ?_;apply K.cond<;>intro g6
 ·obtain⟨gO,fc⟩:=ar.len g6;have fJ:x.n.toNat<m.aJ.length:=fc;have qA:=o.ug bg fJ;have h5:x.n=(x.n.toNat:Nat):=by omega
  have c0:o.iV m q own x=o.fC (o.cZ m x.n.toNat) 1:=by unfold o.iV;rw[if_neg g2,if_neg g3,if_neg g4,if_pos g6]
  rw[c0];obtain⟨lr,e3⟩:=o.vW fJ;obtain⟨dy,rfl⟩:=fr.addr (by omega);have aD:=h3.obj wB;have KD:=fr.ext Flat.ext h3;rw[h5] at bI;refine al ?_;intro aT aC;refine al ?_;refine K.call (pe cN L (o.cZ m x.n.toNat) 1 _ _ aT (fA.ext aC) (by rw[e3]) rfl (by omega)) ?_;rintro _ bq ⟨l6,rF⟩;refine al ?_;exact⟨l6,(aA.mod.trans aC.mod).trans rF⟩
 refine al ?_;apply K.cond<;>intro g7;rotate_left
 ·have eW:o.iV m q own x=[]:=by unfold o.iV;rw[if_neg g2,if_neg g3,if_neg g4,if_neg g6,if_neg g7]
  rw[eW,List.append_nil];refine al ?_;exact⟨fA,aA.mod⟩
 have dZ:o.iV m q own x=o.pz m (x.n.tdiv 16) (o.insts m).length:=by unfold o.iV;rw[if_neg g2,if_neg g3,if_neg g4,if_neg g6,if_pos g7]
 rw[dZ];obtain⟨f6,f7,f8⟩:=o.J2 m;obtain⟨gO,aaV⟩:=ar.at_ g7;have aie:(x.n.tdiv 16).toNat<m.procs.length:=aaV;have aim:=Int.tdiv_nonneg gO (show(0:Int)≤16 by omega);have aih:=bg.procs;have ail : -9223372036854775808≤x.n.tdiv 16∧x.n.tdiv 16≤9223372036854775807:=by omega
 have yB:∀{W},Mod (fun k=>k=cN) av W→Ext w0 W:=fun hm=>hm.ext h3 fun k hk e=>by omega
 have gU:=o.JQ bg;have cL:=h3.obj wB;clear gW fr;refine al ?_;refine K.df 55 (o.insts m).length [2,3,4,53,54] (fun _:Unit=>[]) () (fun k _ W=>Mod (fun i=>i=cN) av W∧eC W cN (L++o.pz m (x.n.tdiv 16) k)) bB bB ⟨Mod.refl _ _,by simpa[o.pz] using fA⟩ ?_;have IS:=sL;have mE:=rv;have gr:=bI;clear rv sL bI cL;rintro k _ S aT hk ⟨fz,eb⟩;have rv:=fz.obj pY mE;have sL:=fz.obj adr IS;have bI:=fz.obj tq gr;have aD:=(yB fz).obj wB;have Zs:=Is.ext Flat.ext (yB fz);refine al ?_;apply K.cond<;>intro g1
 ·have eO:k<(o.insts m).length:=by omega
  obtain⟨lY,rfl⟩:=Is.addr (by omega);obtain⟨I8,sR⟩:=o.wU eO;have Ja:=o.yZ bg eO;obtain⟨a2,rfl⟩:=fL.addr (by omega);have TE:=fL.ext Flat.ext (yB fz);refine al ?_;intro wn lZ jC hU gA;refine al ?_;intro bf eZ da;have aw:Ext aT bf:=eZ.ext hU jC;replace rv:=aw.obj rv;replace sL:=aw.obj sL;replace bI:=aw.obj bI;replace aD:=aw.obj aD;replace TE:=TE.ext Flat.ext aw;have hj:=eb.ext aw;have h8:=fz.trans aw.mod;clear eb Zs;refine al ?_;refine K.quo (by omega) ?_;refine al ?_;apply K.cond<;>intro g2
  ·refine al ?_;intro bq aR;refine al ?_;refine K.call (pe cN _ (o.dx m k) 1 _ _ bq (hj.ext aR) (by rw[sR]) rfl (by omega)) ?_;rintro _ bS ⟨s3,qD⟩;refine al ?_;refine⟨eO,bw,(),trivial,(h8.trans aR.mod).trans qD,?_⟩;rw[o.Hk eO,if_pos g2,←List.append_assoc];exact s3
  ·refine al ?_;refine⟨eO,bw,(),trivial,h8,?_⟩;rw[o.Hk eO,if_neg g2,List.append_nil];exact hj
 ·have o3:(o.insts m).length=k:=by omega
  rw[o3];refine al ?_;exact⟨eb,aA.mod.trans fz⟩
theorem X1(e:List o.Node)(v:Value)(b cN cv lg q p:Nat)(L:List Int)(m:o.Model)(w0 w:World)(h:mX w0 b m q)(he:Ext w0 w)(kA:w0.heap.size≤cN)(ay:eC w cN L)(hT:tN w cv lg b cN)(bg:o.eI m)(bH:o.gp m q p)
  (aI:o.fG w0 v e)(ar:o.q2 (o.inner (m.procs[p]'(bH.aO)) (o.eU m)) e) :
  bu Tryz.prog F.pE #[v,.func (.func F.be) #[] #[.pointer (some ⟨cv,0,none⟩),.pointer (some ⟨lg,0,none⟩)]] w fun _ w'=>eC w' cN (L++o.nP m q e e.length)∧Mod (fun k=>k=cN) w w':=by
 obtain⟨bl,iz,rfl,aP⟩:=aI.form;have yB:∀{W},Mod (fun k=>k=cN) w W→Ext w0 W:=fun hm=>hm.ext he fun k hk e=>by omega
 have hle:=ar.len;refine bM E.pE ?_;refine bF ?_;refine al ?_;refine K.df 9 e.length [1,7,8] (fun au:Bool=>[(4,.bool au)]) false (fun k au W=>au=o.vg e k∧Mod (fun i=>i=cN) w W∧eC W cN (L++o.nP m q e k)) bB bB ⟨rfl,Mod.refl _ _,by simpa[o.nP] using ay⟩ ?_;rintro k au S av hk ⟨rfl,sV,fA⟩;have uN:=aI.ext (yB sV);have Qm:=hT.mod ay sV;refine al ?_;apply K.cond<;>intro g1
 ·have eO:k<e.length:=by omega
  obtain⟨a,rfl⟩:=aI.addr (by omega);have hg:=(aI.at k eO).ok;have rL:=ar.node k eO;refine al ?_;intro aT ix gM aC dr;have eb:=fA.ext aC;have fz:=sV.trans aC.mod;have Zn:=Qm.ext aC;have n6:¬ix=cN:=fun e=>by subst e;obtain⟨_,_,e3,_⟩:=eb.ex;rw[dr] at e3;cases e3
  clear uN fA Qm;refine al ?_;refine K.pC (first:=[]) (cap:=[.pointer (some ⟨cv,0,none⟩),.pointer (some ⟨lg,0,none⟩)]) (by kernel_rfl) (Ys e[k] (o.vg e k) b cN cv lg q p _ m w0 aT h (yB fz) kA eb Zn bg bH rL.1 hg ?_) ?_
  ·intro fI;cases k with
   | zero=>cases fI
   | succ j =>
    rw[o.Ko (by omega)] at fI;have bc:=(ar.node j (by omega)).1.self (by simpa using fI);exact bH.elem (by have:(o.inner (m.procs[p]'(bH.aO)) (o.eU m)).self=(m.procs[p]'(bH.aO)).over:=rfl;omega)
  rintro _ bf ⟨hj,h8⟩;have ahS:=h8.obj n6 dr;clear dr;refine al ?_;refine⟨eO,bw,_,⟨rfl,trivial⟩,?_,fz.trans h8,?_⟩
  ·rw[o.Ko eO]
  ·rw[o.PW eO,←List.append_assoc];exact hj
 ·have o3:e.length=k:=by omega
  rw[o3];refine al ?_;exact⟨fA,sV⟩
theorem yy(e:List o.Node)(v:Value)(b cN q p:Nat)(L:List Int)(m:o.Model)(w0 w:World)(h:mX w0 b m q)(he:Ext w0 w)(kA:w0.heap.size≤cN)(ay:eC w cN L)(bg:o.eI m)(bH:o.gp m q p)
  (aI:o.fG w0 v e)(ar:o.q2 (o.inner (m.procs[p]'(bH.aO)) (o.eU m)) e) :
  bu Tryz.prog F.p #[.pointer (some ⟨b,0,none⟩),.map (some cN),v] w fun _ w'=>eC w' cN (L++o.nP m q e e.length)∧Mod (fun k=>k=cN) w w':=by
 refine bM E.p ?_;refine bF ?_;refine al ?_;intro av cv rv aA mE;refine al ?_;intro aT lg sL aC IS;refine al ?_;refine K.call (X1 e v b cN cv lg q p L m w0 aT h ((he.trans aA).trans aC) kA ((ay.ext aA).ext aC) ⟨aC.obj mE,IS⟩ bg bH aI ar) ?_;rintro _ bf ⟨hj,h8⟩;refine al ?_;exact⟨hj,(aA.mod.trans aC.mod).trans h8⟩
theorem aeC(a:o.Act)(cr ct:Value)(b cN q p:Nat)(L:List Int)(m:o.Model)(w0 w:World)(h:mX w0 b m q)(he:Ext w0 w)(kA:w0.heap.size≤cN)(ay:eC w cN L)(bg:o.eI m)(bH:o.gp m q p)
  (ad:o.fG w0 cr a.index)(aS:o.fG w0 ct a.value)(bp:o.oB (o.inner (m.procs[p]'(bH.aO)) (o.eU m)) a) :
  bu Tryz.prog F.yr #[.pointer (some ⟨b,0,none⟩),.map (some cN),.agg (a.enc cr ct).toArray] w fun _ w'=>eC w' cN (L++o.oO m q a)∧Mod (fun k=>k=cN) w w':=by
 obtain⟨cy,bO,b9,c1,ch,c2,cm,bN,cA,bT,hJ,d0,ff,d1,gf,d2,gV,d3,ij,d4,eu,ci,wB,gW,fr,fL,_,_,_,_,Is⟩:=h.form;have BE:=bp.kind;refine bM E.yr ?_;refine bF ?_;refine al ?_;intro av dH mB aA cC;have fA:=ay.ext aA;have h3:=he.trans aA;have aD:=h3.obj wB;obtain⟨es,ce,e3,_⟩:=fA.ex;have n5:¬dH=cN:=fun e=>by subst e;rw[cC] at e3;cases e3
 clear e3;unfold o.Act.enc at cC;refine al ?_;apply K.cond<;>intro g2
 ·refine al ?_;refine K.call (yy a.index cr b cN q p L m w0 av h h3 kA fA bg bH ad (bp.item g2).2.2) ?_;rintro _ aT ⟨eb,fz⟩;have yF:=fz.obj n5 cC;clear cC aD;refine al ?_;refine K.call (yy a.value ct b cN q p _ m w0 aT h (fz.ext h3 fun k hk e=>by omega) kA eb bg bH aS (bp.val (by omega))) ?_;rintro _ bf ⟨hj,h8⟩;refine al ?_;refine⟨?_,(aA.mod.trans fz).trans h8⟩;unfold o.oO;rw[if_neg (by omega),if_pos g2,←List.append_assoc];exact hj
 refine al ?_;apply K.cond<;>intro g4
 ·obtain⟨gO,fc⟩:=bp.chan (.inl g4);have fJ:a.to.toNat<m.aJ.length:=fc;have qA:=o.ug bg fJ;have h5:a.to=(a.to.toNat:Nat):=by omega
  obtain⟨lr,e3⟩:=o.vW fJ;obtain⟨dy,rfl⟩:=fr.addr (by omega);have KD:=fr.ext Flat.ext h3;rw[h5] at cC;refine al ?_;intro aT aC;have yF:=aC.obj cC;refine al ?_;refine K.call (pe cN L (o.cZ m a.to.toNat) 1 _ _ aT (fA.ext aC) (by rw[e3]) rfl (by omega)) ?_;rintro _ bf ⟨hj,h8⟩;have ahR:=h8.obj n5 yF;clear cC yF aD;refine al ?_;refine K.call (yy a.value ct b cN q p _ m w0 bf h (h8.ext (h3.trans aC) fun k hk e=>by omega) kA hj bg bH aS (bp.val (by omega))) ?_;rintro _ bq ⟨l6,rF⟩;refine al ?_;refine⟨?_,((aA.mod.trans aC.mod).trans h8).trans rF⟩;unfold o.oO;rw[if_neg (by omega),if_neg g2,if_pos g4,←List.append_assoc];exact l6
 refine al ?_;apply K.cond<;>intro g5
 ·obtain⟨gO,fc⟩:=bp.chan (.inr g5);have fJ:a.to.toNat<m.aJ.length:=fc;have h5:a.to=(a.to.toNat:Nat):=by omega
  rw[h5] at cC;refine al ?_;refine K.call (Lm b cN q a.to.toNat L m w0 av h h3 kA fA bg fJ) ?_;rintro _ aT ⟨eb,fz⟩;refine al ?_;refine⟨?_,aA.mod.trans fz⟩;unfold o.oO;rw[if_pos g5];exact eb
 ·refine al ?_;refine K.call (yy a.value ct b cN q p _ m w0 av h h3 kA fA bg bH aS (bp.val g5)) ?_;rintro _ aT ⟨eb,fz⟩;refine al ?_;refine⟨?_,aA.mod.trans fz⟩;unfold o.oO;rw[if_neg g5,if_neg g2,if_neg g4,List.nil_append];exact eb
theorem agN(a:o.Act)(cr ct:Value)(b cN q p:Nat)(L:List Int)(m:o.Model)(w0 w:World)(h:mX w0 b m q)(he:Ext w0 w)(kA:w0.heap.size≤cN)(ay:eC w cN L)(bg:o.eI m)(bH:o.gp m q p)
  (ad:o.fG w0 cr a.index)(bp:o.oB (o.inner (m.procs[p]'(bH.aO)) (o.eU m)) a) :
  bu Tryz.prog F.cW #[.pointer (some ⟨b,0,none⟩),.map (some cN),.agg (a.enc cr ct).toArray] w fun _ w'=>eC w' cN (L++o.kp m q a)∧Mod (fun k=>k=cN) w w':=by
 have BE:=bp.kind;have aB:=bH.aB;have oZ:=bH.zC bg;refine bM E.cW ?_;refine bF ?_;refine al ?_;intro av dH mB aA cC;have fA:=ay.ext aA;have h3:=he.trans aA;obtain⟨es,ce,e3,_⟩:=fA.ex;have n5:¬dH=cN:=fun e=>by subst e;rw[cC] at e3;cases e3
 clear e3;obtain⟨eu,ci,rfl,ai7⟩:=ad.form;unfold o.Act.enc at cC;refine al ?_;apply K.cond<;>intro g1
 ·obtain⟨gO,v,aS,jG⟩:=bp.set g1;have fc:a.to.toNat<m.vars.length:=(List.getElem?_eq_some_iff.1 aS).1;have h5:a.to=(a.to.toNat:Nat):=by omega
  rw[h5] at cC;refine al ?_;refine K.call (Dy b cN q a.to.toNat false false L m w0 av h h3 kA fA bg aB fc (fun a=>by cases a)) ?_;rintro _ aT ⟨eb,fz⟩;refine al ?_;refine⟨?_,aA.mod.trans fz⟩;unfold o.kp;rw[if_pos g1];have e:=o.Ta (m:=m) (q:=q) (own:=false) (x:=⟨2,a.to⟩) rfl aS jG;unfold o.iV at e;rw[if_pos rfl] at e;rw[Bool.false_and,e] at eb;exact eb
 refine al ?_;apply K.cond<;>intro g2
 ·obtain⟨gO,fc,Rg⟩:=bp.item g2;have fJ:a.to.toNat<m.vars.length:=fc;have h5:a.to=(a.to.toNat:Nat):=by omega
  rw[h5] at cC;have HX:o.kp m q a=o.o9 m q a.to.toNat (o.p0 a):=by unfold o.kp;rw[if_neg g1,if_pos g2]
  rw[HX];have Fq:=ad.ext h3;refine al ?_;intro aT aC;replace cC:=aC.obj cC;replace Fq:=Fq.ext aC;refine al ?_;apply K.cond<;>intro g3
  ·obtain⟨lY,rfl⟩:=ad.addr (by omega);have rL:=(Rg.node 0 (by omega)).1;have qH:=o.afz (a:=a) (by omega);refine al ?_;refine K.dk 0 rfl (by omega) ?_;refine al ?_;refine K.call (Dy b cN q a.to.toNat true (decide ((a.index[0]'(by omega)).op=5)) L m w0 aT h (h3.trans aC) kA (fA.ext aC) bg aB fJ (fun _ bc=>?_)) ?_
   ·have bc:=rL.self (by simpa using bc);exact bH.elem (by have:(o.inner (m.procs[p]'(bH.aO)) (o.eU m)).self=(m.procs[p]'(bH.aO)).over:=rfl;omega)
   rintro _ bf ⟨hj,h8⟩;rw[Bool.true_and,←qH] at hj;refine al ?_;exact⟨hj,(aA.mod.trans aC.mod).trans h8⟩
  ·have qH:=o.afy (a:=a) (by omega);refine al ?_;refine K.call (Dy b cN q a.to.toNat true false L m w0 aT h (h3.trans aC) kA (fA.ext aC) bg aB fJ (fun _ bc=>by cases bc)) ?_;rintro _ bf ⟨hj,h8⟩;rw[Bool.and_false,←qH] at hj;refine al ?_;exact⟨hj,(aA.mod.trans aC.mod).trans h8⟩
 refine al ?_;apply K.cond<;>intro g3
 ·obtain⟨gO,fc⟩:=bp.loc g3;have fJ:a.to.toNat<(m.procs[p]'(bH.aO)).vars.length:=fc;have HX:o.kp m q a=o.fC (o.dx m q+1+a.to.toNat) 1:=by unfold o.kp;rw[if_neg g1,if_neg g2,if_pos g3]
  rw[HX];refine al ?_;intro aT aC;refine al ?_;refine K.call (yJ b q m aT (h.ext (h3.trans aC)) aB) ?_;rintro _ bf ⟨rfl,aw⟩;refine⟨aw,?_⟩;refine al ?_;refine K.call (pe cN L (o.dx m q+1+a.to.toNat) 1 _ _ bf ((fA.ext aC).ext aw) (by omega) rfl (by omega)) ?_;rintro _ bq ⟨l6,rF⟩;refine al ?_;exact⟨l6,((aA.mod.trans aC.mod).trans aw.mod).trans rF⟩
 refine al ?_;apply K.cond<;>intro g4
 ·obtain⟨gO,fc⟩:=bp.chan (.inl g4);have fJ:a.to.toNat<m.aJ.length:=fc;have h5:a.to=(a.to.toNat:Nat):=by omega
  rw[h5] at cC;refine al ?_;refine K.call (Lm b cN q a.to.toNat L m w0 av h h3 kA fA bg fJ) ?_;rintro _ aT ⟨eb,fz⟩;refine al ?_;refine⟨?_,aA.mod.trans fz⟩;unfold o.kp;rw[if_neg g1,if_neg g2,if_neg g3,if_pos g4];exact eb
 have g5:a.kind=5:=by omega
 ·obtain⟨gO,fc⟩:=bp.chan (.inr g5);obtain⟨ez,hD⟩:=bp.recv g5;have qC:a.loc.toNat<(m.procs[p]'(bH.aO)).vars.length:=hD;have fJ:a.to.toNat<m.aJ.length:=fc;have h5:a.to=(a.to.toNat:Nat):=by omega
  rw[h5] at cC;refine al ?_;refine K.call (Lm b cN q a.to.toNat L m w0 av h h3 kA fA bg fJ) ?_;rintro _ aT ⟨eb,fz⟩;have ahQ:=fz.obj n5 cC;have cR:=fz.ext h3 fun k hk e=>by omega
  clear cC;refine al ?_;intro bf aw;refine al ?_;refine K.call (yJ b q m bf (h.ext (cR.trans aw)) aB) ?_;rintro _ bq ⟨rfl,aR⟩;refine⟨aR,?_⟩;refine al ?_;refine K.call (pe cN _ (o.dx m q+1+a.loc.toNat) 1 _ _ bq ((eb.ext aw).ext aR) (by omega) rfl (by omega)) ?_;rintro _ bS ⟨s3,qD⟩;refine al ?_;refine⟨?_,(((aA.mod.trans fz).trans aw.mod).trans aR.mod).trans qD⟩;unfold o.kp;rw[if_neg g1,if_neg g2,if_neg g3,if_neg g4,if_pos g5,←List.append_assoc];exact s3
end Go.Proofs.R
end
section
namespace o
open Go
structure gZ(m:Model)(ref:Int)(q p k:Nat):Prop where
 ok:(check m).dp=0
 aZ:0≤ref
 ad:ref.toNat<(refs m).length
 at_:NW m ((refs m)[ref.toNat]) q p k
def Told(m:Model)(ref:Int):Prop:=(check m).dp=0∧0≤ref∧ref<(refs m).length
theorem HF{m:Model}{ref:Int}(h:Told m ref):∃q p k,gZ m ref q p k:=by
 obtain⟨h1,U,ag⟩:=h;obtain⟨q,p,k,aK⟩:=aeV (List.getElem_mem (show ref.toNat<(refs m).length by omega));exact⟨q,p,k,h1,U,by omega,aK⟩
theorem gZ.told{m:Model}{ref:Int}{q p k:Nat}(h:gZ m ref q p k):Told m ref:=⟨h.ok,h.aZ,by have:=h.ad;have:=h.aZ;omega⟩
theorem gZ.inst{m:Model}{ref:Int}{q p k:Nat}(h:gZ m ref q p k):gp m q p:=by
 obtain⟨mc,aO⟩:=JP h.at_.ad;have e:mc=p:=by
  have h1:=aO.eq;rw[h.at_.ip] at h1;omega
 subst e;exact aO
theorem gZ.one{m:Model}{ref:Int}{q p k nv mc k':Nat}(h:gZ m ref q p k)(bA:gZ m ref nv mc k'):q=nv∧p=mc∧k=k':=by
 have bP:q=nv:=by have a:=h.at_.Db;have b:=bA.at_.Db;omega
 subst bP;have a:=h.at_.ip;have b:=bA.at_.ip;have c:=h.at_.Dc;have d:=bA.at_.Dc;exact⟨rfl,by omega,by omega⟩
def dQ(m:Model)(p k:Nat):dG:=((m.procs[p]?.map (·.cB[k]?)).join).getD ⟨⟨#[]⟩,0,0,[],[],false⟩
theorem Ex{m:Model}{p k:Nat}(aO:p<m.procs.length)(hk:k<m.procs[p].cB.length):dQ m p k=m.procs[p].cB[k]:=by
 unfold dQ;rw[List.getElem?_eq_getElem aO];simp[hk]
theorem gZ.cin{m:Model}{ref:Int}{q p k:Nat}(h:gZ m ref q p k):r7 (inner (m.procs[p]'(h.at_.aO)) (eU m)) (dQ m p k):=by
 rw[Ex h.at_.aO h.at_.hk];exact XC h.ok h.at_.aO h.at_.hk
structure sf(m:Model)(ref:Int)(a b:List Int):Prop where
 there:∀q p k,gZ m ref q p k→lV (ow m q (dQ m p k) (dQ m p k).b4.length) a∧lV (lJ m q (dQ m p k) (dQ m p k).b4.length) b
 none:¬Told m ref→a=[]∧b=[]
theorem sf.of{m:Model}{ref:Int}{q p k:Nat}{a b:List Int}(ax:gZ m ref q p k)(h1:lV (ow m q (dQ m p k) (dQ m p k).b4.length) a)(U:lV (lJ m q (dQ m p k) (dQ m p k).b4.length) b):sf m ref a b :=
 ⟨fun nv mc k' h=>by obtain⟨rfl,rfl,rfl⟩:=ax.one h;exact⟨h1,U⟩,fun aI=>absurd ax.told aI⟩
theorem sf.nil{m:Model}{ref:Int}(h:¬Told m ref):sf m ref [] []:=⟨fun _ _ _ ax=>absurd ax.told h,fun _=>⟨rfl,rfl⟩⟩
structure tS(m:Model)(ref:Int)(a:List Int):Prop where
 there:∀q p k,gZ m ref q p k→lV (sF m q (dQ m p k)) a
 none:¬Told m ref→a=[]
theorem tS.of{m:Model}{ref:Int}{q p k:Nat}{a:List Int}(ax:gZ m ref q p k)(h1:lV (sF m q (dQ m p k)) a):tS m ref a :=
 ⟨fun nv mc k' h=>by obtain⟨rfl,rfl,rfl⟩:=ax.one h;exact h1,fun aI=>absurd ax.told aI⟩
theorem tS.nil{m:Model}{ref:Int}(h:¬Told m ref):tS m ref []:=⟨fun _ _ _ ax=>absurd ax.told h,fun _=>rfl⟩
def xm(m:Model)(inst:Int):List Int:=if (check m).dp=0 then (match nth (insts m) inst with | some x=>fC (dx m inst.toNat) (ka m x).length | none=>[]) else []
theorem adN{m:Model}{q p:Nat}(h:gp m q p)(hk:(check m).dp=0):xm m q=fC (dx m q) (1+(m.procs[p]'(h.aO)).vars.length):=by
 unfold xm
 have:=h.aB
 rw[if_pos hk,hX (by omega) (by omega)];simp only[Int.toNat_natCast];rw[h.OV,xp]
theorem Kp{m:Model}{inst:Int}(h:(check m).dp=0→inst<0∨(insts m).length≤inst):xm m inst=[]:=by
 unfold xm;by_cases hk:(check m).dp=0
 ·rw[if_pos hk,gQ (h hk)]
 ·rw[if_neg hk]
theorem eI.lim{m:Model}(h:eI m):vx m:=⟨by have:=h.procs;omega,fun p aO=>by have:=(h.proc p aO).gU;omega⟩
end o
namespace bt
open Go
def HE:List Value:=[.string ⟨#[]⟩,.int .i64 0,.int .i64 0,.slice none 0 0,.slice none 0 0,.bool false]
end bt
end