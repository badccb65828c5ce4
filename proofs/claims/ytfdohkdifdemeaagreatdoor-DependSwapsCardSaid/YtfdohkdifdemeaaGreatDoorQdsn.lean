/- Parts. -/
import Derived.Test.YtfdohkdifdemeaaGreatDoorQdsm
import Derived.Lib.SlKeysI
import Derived.Maps.OwnSet
set_option linter.all false
set_option maxRecDepth 8000
set_option maxHeartbeats 16000000
section
namespace bt
open Go Go.RowKit
theorem K.B8{P:Program}{c9:Value->World->Prop}{α:Type}{enc:α->List Value}{e:TypeId}{sz base n:Nat}{w:World}{vs:Nat->Option Addr×Nat×Nat}{xs:Nat->List α}{ty:TypeId}{b:Nat}{a:Addr}{c:Nat}{y:α}{t}(i:Nat)(ad:i<n)(h:hU enc e sz base w n vs xs)(dm:∀x,(enc x).length=sz)(aw:eS w a (enc y))(h1:∀y,∀u∈enc y,u.oneCell'=true)
  (aC:((xs i).length+1)*b<=140737488355328)(ki:(xs i).length+1<=maxLen)(jx:base<=w.heap.size)
  (hk:∀cf w',hU enc e sz base w' n (dF vs i cf) (dF xs i (xs i++[y]))->w.grownBy w' (cz (vs i)).ownBlock->c9 (cz cf) w'):lf P ty e sz b (cz (vs i)) (.slice (some a) 1 c) w c9 t:=by
 unfold lf;exact hU.app i ad h dm aw h1 aC ki jx fun cf w' a b _=>hk cf w' a b
end bt
namespace o
theorem KI{s:Int}{l:List Cell}{k:Nat}(h:k<l.length):ih s (l.take (k+1)) 0=ih s (l.take k) 0++(if l[k].place=0/\l[k].sort=s then [(k:Int)] else []):=by
 rw[List.take_succ_eq_append_getElem h,CT];simp only[ih,List.append_nil,List.length_take,Nat.zero_add];rw[show min k l.length=k from by omega]
theorem Th(s:Int):∀(l:List Cell) (i:Nat),(ih s l i).length<=l.length
 | [],_=>by simp[ih]
 | x :: r,i=>by
  have:=Th s r (i+1)
  simp only[ih,List.length_append,List.length_cons];split<;>simp<;>omega
def e4(l:List Cell)(k:Nat):Nat->List Int:=fun i=>if i=0 then ih 1 (l.take k) 0 else if i=1 then ih 2 (l.take k) 0 else if i=2 then ih 3 (l.take k) 0 else if i=3 then (l.take k).map (·.bf) else (l.take k).map (·.ad)
end o
namespace Go.Proofs.R
open Go Go.RowKit bt
def Bn:List TypeId:=[T.a,T.g]
def lx(vs:Nat->gQ)(n:Int):Array Value:=#[cz (vs 0),cz (vs 1),cz (vs 2),.int .i64 n,cz (vs 3),cz (vs 4)]
structure n4(av:World)(b:Nat)(xs:Nat->List Int)(n:Int)(W:World):Prop where
 mod:Mod (fun k=>k=b) av W
 ex:∃vs:Nat->gQ,W.heap[b]? = some (.cells (lx vs n) T.g)/\hU ey T.a 1 av.heap.size W 5 vs xs
theorem n4.congr{av:World}{b:Nat}{xs FG:Nat->List Int}{n:Int}{W:World}(h:n4 av b xs n W)(ar:∀i,i<5->xs i=FG i):n4 av b FG n W :=
 let ⟨vs,g1,g2⟩:=h.ex; ⟨h.mod,vs,g1,g2.congr (fun _ _=>rfl) ar⟩
theorem ET{av:World}{b:Nat}{xs:Nat->List Int}{n y:Int}{W rC lY qw:World}{vs:Nat->gQ}{cf:gQ}{i:Nat}(ad:i<5)(hm:Mod (fun k=>k=b) av W)(g1:W.heap[b]? = some (.cells (lx vs n) T.g))(g2:hU ey T.a 1 av.heap.size W 5 vs xs)
  (he:Ext W rC)(a1:rC.grownBy lY (cz (vs i)).ownBlock)(ba:hU ey T.a 1 av.heap.size lY 5 (dF vs i cf) (dF xs i (xs i++[y])))(hw:dA b lY qw)(aw:qw.heap[b]? = some (.cells (lx (dF vs i cf) n) T.g)) :
  n4 av b (dF xs i (xs i++[y])) n qw/\ep Bn W qw:=by
 have wP:Mod (fun k=>(cz (vs i)).ownBlock=some k) rC lY:=Mod.grown a1 fun k hk=>hk;have g5:=he.obj g1;have g6:lY.heap[b]? = some (.cells (lx vs n) T.g):=wP.obj ((g2.ext he).not g5 (by decide) i ad) g5;refine⟨⟨?_,_,aw,ba.mod (hw.mod (A:=fun k=>k=b) rfl) fun j k aR hk e=>?_⟩,?_⟩
 .have h1:Mod (fun k=>k=b) av rC:=hm.comp (A':=fun _=>False) he.mod (fun _ _ a=>a) fun _ _ a=>a.elim;have U:Mod (fun k=>k=b) av lY:=h1.comp wP (fun _ _ a=>a) fun j aR a=>by have:=(g2.lt i j ad a).1;omega
  exact U.trans (hw.mod rfl)
 .subst e;exact ba.not g6 (by decide) j aR hk
 .refine((ep.ext he).trans (ep.mod wP fun k c t aw a=>?_)).trans (ep.wr hw g6 (by decide));obtain⟨cur,h⟩:=((g2.ext he).own i ad).aX k a;rw[aw] at h;injection h with h;injection h with _ h;rw[h];decide
theorem XE(cs:List Value)(m:o.Model)(w:World)(h:o.dY w cs m)(a1:m.cQ)(br:o.eN m) :
  bu Tryz.prog F.AS #[.agg cs.toArray] w fun v w'=>(∃xs,v = .agg xs.toArray/\eF w (fun w=>o.jr w xs (o.layout m)) w')/\Ext w w':=by
 have eh:=h;obtain⟨cy,bP,b9,c1,ck,c2,cn,bQ,cB,bX,rfl,_⟩:=h.form;have qI:=o.nm br;refine bL E.AS ?_;refine bG ?_;refine aa ?_;intro I6 bC cR p4 aq;have dH:=cG aq;refine aa ?_;intro I7 cp dR pb aQ;have dN:=cG aQ;replace aq:=pb.obj aq;refine aa ?_;intro av b4 fp mA bA;replace aq:=mA.obj aq;replace aQ:=mA.obj aQ;have eb:=cG bA;have kN:=p4.size;have kv:=pb.size;have y5:=mA.size;have n13:bC≠b4:=by omega
 have bR:=(p4.trans pb).trans mA;refine aa ?_;refine K.call (ajN _ m av (eh.ext bR) a1 br) ?_;rintro dU w8 ⟨eZ,pc⟩;obtain⟨ait,aaV,rfl,_⟩:=eZ.form;have jn:n4 av b4 (o.e4 (o.cb m) 0) 0 w8:=⟨pc.mod,fun _=>(none,0,0),pc.obj bA,⟨fun i ad=>by
   have e:o.e4 (o.cb m) 0 i=[]:=by unfold o.e4; (repeat' split)<;>simp[o.ih]
   rw[e];exact bs.nil _ _ _ _ _,fun i j k _ _ _ e=>by cases e⟩⟩
 have kq:∀{xs n W},n4 av b4 xs n W->W.heap[bC]? = av.heap[bC]? := fun h=>h.mod.block _ (by omega) n13;have gT:∀{xs n W},n4 av b4 xs n W->W.heap[cp]? = av.heap[cp]? := fun h=>h.mod.block _ (by omega) (by omega);have fS:∀{xs n W},n4 av b4 xs n W->Ext w W:=fun h=>h.mod.ext bR fun i ad e=>by omega
 have jz:∀{W:World},ep Bn w8 W->bE 6 (Flat o.Cell.enc) W (.slice ait (o.cb m).length aaV) (o.cb m):=fun k=>bs.jI (enc:=o.Cell.enc) (fun _=>rfl) (eZ.hB k (by decide));rw[aQ] at gT;clear aq aQ bA eZ;refine aa ?_;refine K.dk 5 (o.cb m).length [1,2,3,4] (fun _:Unit=>[]) () (fun k _ W=>n4 av b4 (o.e4 (o.cb m) k) 0 W/\ep Bn w8 W) bz bz ⟨jn,ep.refl⟩ ?_;clear jn;rintro k _ S aU hk ⟨ay,nj⟩;have eZ:=jz nj;obtain⟨al7,g1,g2⟩:=ay.ex;refine aa ?_;apply K.cond<;>intro g0
 .have bp:k<(o.cb m).length:=by omega
  obtain⟨a,rfl⟩:=eZ.addr (by omega);clear g1 g2;obtain⟨x,ar⟩:∃x,x=(o.cb m)[k]:=⟨_,rfl⟩;have j1:∀i,(o.e4 (o.cb m) k i).length<=100:=fun i=>by
   unfold o.e4;have q:=fun s=>o.Th s ((o.cb m).take k) 0;have dH:=q 1;have dN:=q 2;have eb:=q 3
   (repeat' split)<;>simp only[List.length_map,List.length_take] at * <;> omega
  refine ee ?_;simp -dsimp only[cF];refine ee ?_;refine K.hl [1,2,3,4,5] (fun _:Unit=>[]) (fun _ W=>n4 av b4 (dF (o.e4 (o.cb m) k) 0 ((o.e4 (o.cb m) k) 0++if x.place=0/\x.sort=1 then [(k:Int)] else [])) 0 W/\ep Bn w8 W) ?_ ?_
  .have eZ:=jz nj;obtain⟨vs,g1,g2⟩:=ay.ex;have mu:=g1;unfold lx at g1;dsimp only[cz] at g1;have same:¬(x.place=0/\x.sort=1)->n4 av b4 (dF (o.e4 (o.cb m) k) 0 ((o.e4 (o.cb m) k) 0++if x.place=0/\x.sort=1 then [(k:Int)] else [])) 0 aU:=fun e=>ay.congr fun j aR=>by
    unfold dF;by_cases a:j=0
    .subst a;simp[e]
    .simp[a]
   refine aa ?_;rw[<-ar];apply K.cond<;>intro g3
   .refine aa ?_;rw[<-ar];apply K.cond<;>intro g4
    .refine aa ?_;intro bT dO kX aZ cC;have gl:=ay.mod.size;have z2:=aZ.size;have hlen:((o.e4 (o.cb m) k) 0).length<=100:=j1 0;have nI:=g2.ext aZ;have g15:=aZ.obj mu;refine K.B8 (y:=(k:Int)) 0 (by decide) nI (fun _=>rfl) (hj cC) mm (by omega) (by unfold maxLen;omega) (by omega) fun cf bV dL jZ=>?_;have gq:bV.heap[b4]? = some (.cells (lx vs 0) T.g):=(Mod.grown (A:=fun k=>(cz (vs 0)).ownBlock=some k) jZ fun k hk=>hk).obj (nI.not g15 (by decide) 0 (by decide)) g15;have uj:=gq;unfold lx at gq;refine aa ?_;intro cc dx cU;obtain⟨jC,tg⟩:=ET (by decide) ay.mod mu g2 aZ jZ dL dx cU;refine aa ?_;refine⟨(),trivial,jC.congr fun j aR=>?_,nj.trans tg⟩;have e:(if x.place=0/\x.sort=1 then [(k:Int)] else [])=[(k:Int)]:=if_pos ⟨g3,g4⟩;rw[e]
    .refine aa ?_;exact⟨(),trivial,same fun e=>g4 e.2,nj⟩
   .refine aa ?_;exact⟨(),trivial,same fun e=>g3 e.1,nj⟩
  rintro _ S fw ⟨HT,Ib⟩;refine ee ?_;refine K.hl [1,2,3,4,5] (fun _:Unit=>[]) (fun _ W=>n4 av b4 (dF (dF (o.e4 (o.cb m) k) 0 ((o.e4 (o.cb m) k) 0++if x.place=0/\x.sort=1 then [(k:Int)] else [])) 1 ((dF (o.e4 (o.cb m) k) 0 ((o.e4 (o.cb m) k) 0++if x.place=0/\x.sort=1 then [(k:Int)] else [])) 1++if x.place=0/\x.sort=2 then [(k:Int)] else [])) 0 W/\ep Bn w8 W) ?_ ?_
  .have eZ:=jz Ib;obtain⟨vs,g1,g2⟩:=HT.ex;have mu:=g1;unfold lx at g1;dsimp only[cz] at g1;have same:¬(x.place=0/\x.sort=2)->n4 av b4 (dF (dF (o.e4 (o.cb m) k) 0 ((o.e4 (o.cb m) k) 0++if x.place=0/\x.sort=1 then [(k:Int)] else [])) 1 ((dF (o.e4 (o.cb m) k) 0 ((o.e4 (o.cb m) k) 0++if x.place=0/\x.sort=1 then [(k:Int)] else [])) 1++if x.place=0/\x.sort=2 then [(k:Int)] else [])) 0 fw:=fun e=>HT.congr fun j aR=>by
    unfold dF;by_cases a:j=1
    .subst a;simp[e]
    .simp[a]
   refine aa ?_;rw[<-ar];apply K.cond<;>intro g3
   .refine aa ?_;rw[<-ar];apply K.cond<;>intro g4
    .refine aa ?_;intro bT dO kX aZ cC;have gl:=HT.mod.size;have z2:=aZ.size;have hlen:((dF (o.e4 (o.cb m) k) 0 ((o.e4 (o.cb m) k) 0++if x.place=0/\x.sort=1 then [(k:Int)] else [])) 1).length<=100:=j1 1;have nI:=g2.ext aZ;have g15:=aZ.obj mu;refine K.B8 (y:=(k:Int)) 1 (by decide) nI (fun _=>rfl) (hj cC) mm (by omega) (by unfold maxLen;omega) (by omega) fun cf bV dL jZ=>?_;have gq:bV.heap[b4]? = some (.cells (lx vs 0) T.g):=(Mod.grown (A:=fun k=>(cz (vs 1)).ownBlock=some k) jZ fun k hk=>hk).obj (nI.not g15 (by decide) 1 (by decide)) g15;have uj:=gq;unfold lx at gq;refine aa ?_;intro cc dx cU;obtain⟨jC,tg⟩:=ET (by decide) HT.mod mu g2 aZ jZ dL dx cU;refine aa ?_;refine⟨(),trivial,jC.congr fun j aR=>?_,Ib.trans tg⟩;have e:(if x.place=0/\x.sort=2 then [(k:Int)] else [])=[(k:Int)]:=if_pos ⟨g3,g4⟩;rw[e]
    .refine aa ?_;exact⟨(),trivial,same fun e=>g4 e.2,Ib⟩
   .refine aa ?_;exact⟨(),trivial,same fun e=>g3 e.1,Ib⟩
  rintro _ S gw ⟨HU,Ic⟩;refine ee ?_;refine K.hl [1,2,3,4,5] (fun _:Unit=>[]) (fun _ W=>n4 av b4 (dF (dF (dF (o.e4 (o.cb m) k) 0 ((o.e4 (o.cb m) k) 0++if x.place=0/\x.sort=1 then [(k:Int)] else [])) 1 ((dF (o.e4 (o.cb m) k) 0 ((o.e4 (o.cb m) k) 0++if x.place=0/\x.sort=1 then [(k:Int)] else [])) 1++if x.place=0/\x.sort=2 then [(k:Int)] else [])) 2 ((dF (dF (o.e4 (o.cb m) k) 0 ((o.e4 (o.cb m) k) 0++if x.place=0/\x.sort=1 then [(k:Int)] else [])) 1 ((dF (o.e4 (o.cb m) k) 0 ((o.e4 (o.cb m) k) 0++if x.place=0/\x.sort=1 then [(k:Int)] else [])) 1++if x.place=0/\x.sort=2 then [(k:Int)] else [])) 2++if x.place=0/\x.sort=3 then [(k:Int)] else [])) 0 W/\ep Bn w8 W) ?_ ?_
  .have eZ:=jz Ic;obtain⟨vs,g1,g2⟩:=HU.ex;have mu:=g1;unfold lx at g1;dsimp only[cz] at g1;have same:¬(x.place=0/\x.sort=3)->n4 av b4 (dF (dF (dF (o.e4 (o.cb m) k) 0 ((o.e4 (o.cb m) k) 0++if x.place=0/\x.sort=1 then [(k:Int)] else [])) 1 ((dF (o.e4 (o.cb m) k) 0 ((o.e4 (o.cb m) k) 0++if x.place=0/\x.sort=1 then [(k:Int)] else [])) 1++if x.place=0/\x.sort=2 then [(k:Int)] else [])) 2 ((dF (dF (o.e4 (o.cb m) k) 0 ((o.e4 (o.cb m) k) 0++if x.place=0/\x.sort=1 then [(k:Int)] else [])) 1 ((dF (o.e4 (o.cb m) k) 0 ((o.e4 (o.cb m) k) 0++if x.place=0/\x.sort=1 then [(k:Int)] else [])) 1++if x.place=0/\x.sort=2 then [(k:Int)] else [])) 2++if x.place=0/\x.sort=3 then [(k:Int)] else [])) 0 gw:=fun e=>HU.congr fun j aR=>by
    unfold dF;by_cases a:j=2
    .subst a;simp[e]
    .simp[a]
   refine aa ?_;rw[<-ar];apply K.cond<;>intro g3
   .refine aa ?_;rw[<-ar];apply K.cond<;>intro g4
    .refine aa ?_;intro bT dO kX aZ cC;have gl:=HU.mod.size;have z2:=aZ.size;have hlen:((dF (dF (o.e4 (o.cb m) k) 0 ((o.e4 (o.cb m) k) 0++if x.place=0/\x.sort=1 then [(k:Int)] else [])) 1 ((dF (o.e4 (o.cb m) k) 0 ((o.e4 (o.cb m) k) 0++if x.place=0/\x.sort=1 then [(k:Int)] else [])) 1++if x.place=0/\x.sort=2 then [(k:Int)] else [])) 2).length<=100:=j1 2;have nI:=g2.ext aZ;have g15:=aZ.obj mu;refine K.B8 (y:=(k:Int)) 2 (by decide) nI (fun _=>rfl) (hj cC) mm (by omega) (by unfold maxLen;omega) (by omega) fun cf bV dL jZ=>?_;have gq:bV.heap[b4]? = some (.cells (lx vs 0) T.g):=(Mod.grown (A:=fun k=>(cz (vs 2)).ownBlock=some k) jZ fun k hk=>hk).obj (nI.not g15 (by decide) 2 (by decide)) g15;have uj:=gq;unfold lx at gq;refine aa ?_;intro cc dx cU;obtain⟨jC,tg⟩:=ET (by decide) HU.mod mu g2 aZ jZ dL dx cU;refine aa ?_;refine⟨(),trivial,jC.congr fun j aR=>?_,Ic.trans tg⟩;have e:(if x.place=0/\x.sort=3 then [(k:Int)] else [])=[(k:Int)]:=if_pos ⟨g3,g4⟩;rw[e]
    .refine aa ?_;exact⟨(),trivial,same fun e=>g4 e.2,Ic⟩
   .refine aa ?_;exact⟨(),trivial,same fun e=>g3 e.1,Ic⟩
  rintro _ S la ⟨Mk,We⟩;have eZ:=jz We;obtain⟨vs,g1,g2⟩:=Mk.ex;have mu:=g1;unfold lx at g1;dsimp only[cz] at g1;refine aa ?_;intro bT aZ;replace eZ:=eZ.ext Flat.ext aZ;replace g1:=aZ.obj g1;refine aa ?_;intro bV fl gq a8 ct;refine⟨a8,?_⟩;have ur:=aZ.trans a8;have gl:=Mk.mod.size;have z2:=ur.size;have hlen:(o.e4 (o.cb m) k 3).length<=100:=j1 3;have nI:=g2.ext ur;have g15:=ur.obj mu;refine K.B8 (y:=(o.cb m)[k].bf) 3 (by decide) nI (fun _=>rfl) (hj ct) mm (by rw[show(dF _ 2 _ 3:List Int)=o.e4 (o.cb m) k 3 from rfl];omega) (by rw[show(dF _ 2 _ 3:List Int)=o.e4 (o.cb m) k 3 from rfl];unfold maxLen;omega) (by omega) fun cf cc et j0=>?_;have jX:cc.heap[b4]? = some (.cells (lx vs 0) T.g):=(Mod.grown (A:=fun k=>(cz (vs 3)).ownBlock=some k) j0 fun k hk=>hk).obj (nI.not g15 (by decide) 3 (by decide)) g15;have K9:=jX;unfold lx at jX;refine aa ?_;intro apK iJ cL;obtain⟨Me,ahf⟩:=ET (by decide) Mk.mod mu g2 ur j0 et iJ cL;clear g1 g2 mu nI g15 et jX K9 cL ct eZ;have Wc:=We.trans ahf;have eZ:=jz Wc;obtain⟨vs,g1,g2⟩:=Me.ex;have mu:=g1;unfold lx at g1;dsimp only[cz] at g1;refine aa ?_;intro bT aZ;replace eZ:=eZ.ext Flat.ext aZ;replace g1:=aZ.obj g1;refine aa ?_;intro bV fl gq a8 ct;refine⟨a8,?_⟩;have ur:=aZ.trans a8;have gl:=Me.mod.size;have z2:=ur.size;have hlen:(o.e4 (o.cb m) k 4).length<=100:=j1 4;have nI:=g2.ext ur;have g15:=ur.obj mu;refine K.B8 (y:=(o.cb m)[k].ad) 4 (by decide) nI (fun _=>rfl) (hj ct) mm (by rw[show(dF _ 3 _ 4:List Int)=o.e4 (o.cb m) k 4 from rfl];omega) (by rw[show(dF _ 3 _ 4:List Int)=o.e4 (o.cb m) k 4 from rfl];unfold maxLen;omega) (by omega) fun cf cc et j0=>?_;have jX:cc.heap[b4]? = some (.cells (lx vs 0) T.g):=(Mod.grown (A:=fun k=>(cz (vs 4)).ownBlock=some k) j0 fun k hk=>hk).obj (nI.not g15 (by decide) 4 (by decide)) g15;have K9:=jX;unfold lx at jX;refine aa ?_;intro apL iJ cL;obtain⟨agb,ahg⟩:=ET (by decide) Me.mod mu g2 ur j0 et iJ cL;clear g1 g2 mu nI g15 et jX K9 cL ct eZ;have ahh:=Wc.trans ahg;refine aa ?_;refine⟨bp,bk,(),trivial,agb.congr fun j aR=>?_,ahh⟩;subst ar;have a:j=0\/j=1\/j=2\/j=3\/j=4:=by omega
  rcases a with rfl | rfl | rfl | rfl | rfl
  .exact(o.KI (s:=1) bp).symm
  .exact(o.KI (s:=2) bp).symm
  .exact(o.KI (s:=3) bp).symm
  .show(_:List Int)=((o.cb m).take (k+1)).map (·.bf);rw[List.take_succ_eq_append_getElem bp,List.map_append];rfl
  .show(_:List Int)=((o.cb m).take (k+1)).map (·.ad);rw[List.take_succ_eq_append_getElem bp,List.map_append];rfl
 have qR:k=(o.cb m).length:=by omega
 subst qR;have c6:=fS ay;have aQ:=gT ay;clear g1 g2;obtain⟨vs,g1,g2⟩:=ay.ex;have mu:=g1;unfold lx at g1;dsimp only[cz] at g1;refine aa ?_;intro bb fT bA;have g23:=g2.mod (fT.mod (A:=fun k=>k=b4) rfl) fun i k ad hk e=>by subst e;exact g2.not mu (by decide) i ad hk
 replace aQ:=fT.obj aQ (by omega);replace bA:bb.heap[b4]? = some (.cells #[cz (vs 0),cz (vs 1),cz (vs 2),.int .i64 (o.cb m).length,cz (vs 3),cz (vs 4)] T.g):=bA;dsimp only[cz] at bA;refine aa ?_;intro bq eu bw;have g24:=g23.mod (eu.mod (A:=fun k=>k=cp) rfl) fun i k ad hk e=>by subst e;exact g23.not aQ (by decide) i ad hk
 have bN:w.heap.size<=av.heap.size:=by omega
 have sd:=fun(i:Nat) (ad:i<5)=>bs.new (e:=T.a) (enc:=ey) (fun _=>rfl) (bs.low bN (g24.own i ad));obtain⟨f1,f2,f3⟩:=o.ac4 br;have gz:o.e4 (o.cb m) (o.cb m).length 0=(o.layout m).vars:=by show o.ih 1 ((o.cb m).take _) 0=_;rw[List.take_length,f1];rfl
 have fi:o.e4 (o.cb m) (o.cb m).length 1=(o.layout m).aL:=by show o.ih 2 ((o.cb m).take _) 0=_;rw[List.take_length,f2];rfl
 have fR:o.e4 (o.cb m) (o.cb m).length 2=(o.layout m).insts:=by show o.ih 3 ((o.cb m).take _) 0=_;rw[List.take_length,f3];rfl
 have ix:o.e4 (o.cb m) (o.cb m).length 3=(o.layout m).bf:=by show((o.cb m).take _).map _=_;rw[List.take_length];rfl
 have k7:o.e4 (o.cb m) (o.cb m).length 4=(o.layout m).ad:=by show((o.cb m).take _).map _=_;rw[List.take_length];rfl
 refine aa ?_;refine⟨⟨[_,_,_,_,_,_],rfl,fun eI r9=>⟨⟨_,_,_,_,_,rfl,?_,?_,?_,?_,?_⟩⟩⟩,eu.ext (fT.ext c6 (by omega)) (by omega)⟩
 .rw[<-gz];exact sd 0 (by decide) eI r9
 .rw[<-fi];exact sd 1 (by decide) eI r9
 .rw[<-fR];exact sd 2 (by decide) eI r9
 .rw[<-ix];exact sd 3 (by decide) eI r9
 .rw[<-k7];exact sd 4 (by decide) eI r9
theorem ajO(cs:List Value)(m:o.Model)(w:World)(h:o.dY w cs m)(a1:m.cQ) :
  bu Tryz.prog F.EH #[.agg cs.toArray] w fun v w'=>(∃xs,v = .agg xs.toArray/\eF w (fun w=>o.jr w xs (o.lay m)) w')/\Ext w w':=by
 have br:=h;obtain⟨cy,bP,b9,c1,ck,c2,cn,bQ,cB,bX,rfl,_⟩:=h.form;refine bL E.EH ?_;refine bG ?_;refine aa ?_;intro av bC cR aB aq;refine aa ?_;intro aU cp dR aA aQ;have gl:=cG aq;replace aq:=aA.obj aq;have z2:=cG aQ;have z3:=aB.size;have aW:=aB.trans aA;refine aa ?_;refine K.call (adv _ m aU (br.ext aW) a1) ?_;rintro _ bb ⟨rfl,ax⟩;replace aq:=ax.obj aq;replace aQ:=ax.obj aQ;have bJ:=aW.trans ax;by_cases hk:(o.check m).c3=0
 .rw[decide_eq_true hk];refine aa ?_;refine K.call (XE _ m bb (br.ext bJ) a1 (o.mF hk)) ?_;rintro _ bq ⟨⟨xs,rfl,dg⟩,aM⟩;obtain⟨lb,d0,j8,d1,j9,d2,n0,d3,nw,d4,rfl,_⟩:=dg.here.form;replace aQ:=aM.obj aQ;have bZ:=bJ.trans aM;have z4:=ax.size;refine aa ?_;intro bV gh ct;have aE:=dg.wr gh (by omega);refine aa ?_;exact⟨⟨_,rfl,by rw[o.Ih hk];exact aE.low bJ.size⟩,gh.ext bZ (by omega)⟩
 .rw[decide_eq_false hk];refine aa ?_;intro bq eu bw;refine aa ?_;exact⟨⟨[_,_,_,_,_,_],rfl,by rw[o.Wn hk];exact gJ.of fun _=>o.jr.zero _⟩,eu.ext bJ (by omega)⟩
end Go.Proofs.R
end
section
namespace o
open Go
def gW(m:Model)(i:Nat):Nat:=total ((cV m).take i)
def df(m:Model)(i:Nat):Nat:=total (cV m)+total ((dw m).take i)
def dS(m:Model)(i:Nat):Nat:=total (cV m)+total (dw m)+total ((fc m).take i)
theorem IT(n:Nat):∀(ls:List (List dG)) (i:Nat) (h:i<(hq n ls).length),(hq n ls)[i]=((n+total (ls.take i):Nat):Int)
 | [],i,h=>by simp[hq] at h
 | l :: r,0,h=>by simp[hq,total]
 | l :: r,i+1,h=>by
  simp only[hq,List.getElem_cons_succ,List.take_succ_cons,FA];rw[IT (n+l.length) r i (by simpa[hq] using h)];congr 1;omega
def eB(m:Model):Nat:=(cb m).length
theorem o3(m:Model):eB m=total (cV m)+total (dw m)+total (fc m):=Ec m
theorem Bz{m:Model}{i:Nat}(h:i<m.vars.length):∃bF:i<(layout m).vars.length,(layout m).vars[i]=(gW m i:Int):=by
 have bF:i<(hq 0 (cV m)).length:=by rw[tw];simpa[cV] using h
 exact⟨bF,by have:=IT 0 (cV m) i bF;rw[Nat.zero_add] at this;exact this⟩
theorem vL{m:Model}{i:Nat}(h:i<m.aL.length):∃bF:i<(layout m).aL.length,(layout m).aL[i]=(df m i:Int):=by
 have bF:i<(hq (total (cV m)) (dw m)).length:=by rw[tw];simpa[dw] using h
 exact⟨bF,IT _ _ i bF⟩
theorem yt{m:Model}{i:Nat}(h:i<(insts m).length):∃bF:i<(layout m).insts.length,(layout m).insts[i]=(dS m i:Int):=by
 have bF:i<(hq (total (cV m)+total (dw m)) (fc m)).length:=by rw[tw];simpa[fc] using h
 exact⟨bF,IT _ _ i bF⟩
theorem tz{m:Model}{i:Nat}(h:i<m.vars.length):gW m i+(cells m.vars[i] m.scalars).toNat<=total (cV m):=by
 have bF:i<(cV m).length:=by simpa[cV] using h
 have:=Oi bF
 have e:(cV m)[i].length=(cells m.vars[i] m.scalars).toNat:=by simp[cV,BA]
 rw[e] at this;exact this
theorem xJ{m:Model}{i:Nat}(h:i<m.aL.length):df m i+(1+m.aL[i].cap.toNat)<=total (cV m)+total (dw m):=by
 have bF:i<(dw m).length:=by simpa[dw] using h
 have:=Oi bF
 have e:(dw m)[i].length=1+m.aL[i].cap.toNat:=by simp[dw,tO]
 rw[e] at this;unfold df;omega
theorem VD{m:Model}{i:Nat}(h:i<(insts m).length):dS m i+(lJ m (insts m)[i]).length<=eB m:=by
 have bF:i<(fc m).length:=by simpa[fc] using h
 have:=Oi bF
 have e:(fc m)[i].length=(lJ m (insts m)[i]).length:=by simp[fc]
 rw[e] at this;rw[o3];unfold dS;omega
def mQ(s:List Scalar)(c:dr)(l:List Int):Prop :=
 ∃n,l[0]? = some n/\0<=n/\n<=c.cap/\∀k:Nat,(k:Int)<c.cap->∃x,l[k+1]? = some x/\((k:Int)<n->(fb c.scalar c.bf c.ad s).bf<=x/\x<=(fb c.scalar c.bf c.ad s).ad)/\(n<=k->x=0)
def o4(m:Model)(i:Nat)(c:dr)(s:List Int):List Int:=(s.drop (df m i)).take (1+c.cap.toNat)
structure Fits(m:Model)(s:List Int):Prop where
 len:s.length=eB m
 queue:∀i (h:i<m.aL.length),mQ m.scalars m.aL[i] (o4 m i m.aL[i] s)
 cell:∀i (h:i<s.length) (bF:i<(cb m).length),(cb m)[i].bf<=s[i]/\s[i]<=(cb m)[i].ad
def oe(m:Model)(s:List Int):Prop:=(check m).c3=0/\Fits m s
def qz(m:Model)(s:List Int)(p:Int)(l:Int)(k:Nat):Nat:=((List.range k).filter fun i=>decide (((insts m)[i]?.map (·.proc))=some p/\s[dS m i]? = some l)).length
def jR(m:Model)(s:List Int)(p:Nat)(n:Int)(k:Nat):List Int:=(List.range n.toNat).map fun(l:Nat)=>((qz m s (p:Int) (l:Int) k:Nat):Int)
def Bs(m:Model)(s:List Int)(inst:Int):List Int×Int :=
 match nth (insts m) inst with
 | some x=>((s.drop (dS m inst.toNat+1)).take ((lJ m x).length - 1),x.elem)
 | none=>([],0)
def c8(m:Model)(s:List Int)(inst:Int):Env :=
 ⟨(List.range m.vars.length).map fun i=>(s.drop (gW m i)).take (cV m)[i]!.length,
  (List.range m.aL.length).map fun i=>s[df m i]!,
  (Bs m s inst).1,
  (List.range m.procs.length).map fun i=>jR m s i (m.procs[i]?.map (·.cw) |>.getD 0) (insts m).length,
  (Bs m s inst).2⟩
def val:List Nat->Nat
 | []=>0
 | d :: r=>d+256*val r
def GP(n:Nat):List Nat:=if h:n=0 then [] else n % 256 :: GP (n / 256)
termination_by n
decreasing_by omega
def WW:List Cell->List Int->Nat->Nat
 | x :: r,v :: s,n=>WW r s (n*(x.ad - x.bf+1).toNat+(v - x.bf).toNat)
 | _,_,n=>n
def num(m:Model)(s:List Int):Nat:=WW (cb m) s 0
def fs(m:Model):Nat:=num m ((cb m).map (·.ad))
def aaI(m:Model):Nat:=(GP (fs m)).length
def fixed(k n:Nat):List Nat:=GP n++List.replicate (k - (GP n).length) 0
def bytes(m:Model)(s:List Int):List Nat:=(fixed (aaI m) (num m s)).reverse
end o
end
section
namespace Go.Proofs.R
open Go Go.RowKit bt
abbrev eO(w:World)(v:Value)(l:List Int):Prop:=bE 1 (Flat ey) w v l
end Go.Proofs.R
end
section
namespace o
theorem Wr(m:Model):(layout m).bf.length=(cb m).length:=by simp[layout,AG]
theorem Wp(m:Model):(layout m).ad.length=(cb m).length:=by simp[layout,AG]
theorem Wq{m:Model}{c:Nat}(h:c<(layout m).bf.length)(bF:c<(cb m).length):(layout m).bf[c]=(cb m)[c].bf:=by simp[layout,AG]
theorem Wo{m:Model}{c:Nat}(h:c<(layout m).ad.length)(bF:c<(cb m).length):(layout m).ad[c]=(cb m)[c].ad:=by simp[layout,AG]
theorem Ii(m:Model):(layout m).vars.length=m.vars.length/\(layout m).aL.length=m.aL.length/\(layout m).insts.length=(insts m).length:=by
 refine⟨?_,?_,?_⟩<;>simp[layout,AG,tw,cV,dw,fc]
end o
end
section
namespace bt
open Go Go.RowKit
structure F8(es:Array MapEntry)(c:Nat)(L:List Int):Prop where
 yw:∃l:List (Int×Value),hT (Value.int .i64) es.toList l/\(l.map (·.1)).Nodup/\(∀x,x∈l.map (·.1)↔x∈L)/\l.length<=L.length/\∀p∈l,∃z,p.2 = .int .i64 z
 born:∀e∈es.toList,e.born<c
 nodup:(es.toList.map (·.born)).Nodup
structure e5(w:World)(b:Nat)(L:List Int):Prop where
 ok:∀x∈L,-9223372036854775808<=x/\x<=9223372036854775807
 ex:∃es c,w.heap[b]? = some (.map es c)/\F8 es c L
theorem e5.of{w w':World}{b:Nat}{L:List Int}(h:e5 w b L)(e:w'.heap[b]? = w.heap[b]?):e5 w' b L:=let ⟨es,c,h1,U⟩:=h.ex; ⟨h.ok,es,c,e.trans h1,U⟩
theorem e5.lt{w:World}{b:Nat}{L:List Int}(h:e5 w b L):b<w.heap.size:=let ⟨_,_,h1,_⟩:=h.ex;cG h1
theorem e5.ext{w w':World}{b:Nat}{L:List Int}(h:e5 w b L)(e:Ext w w'):e5 w' b L:=h.of (e.heap h.lt)
theorem e5.mod{A:Nat->Prop}{w w':World}{b:Nat}{L:List Int}(h:e5 w b L)(e:Mod A w w')(hk:¬A b):e5 w' b L:=h.of (e.block b h.lt hk)
theorem F8.empty:F8 #[] 0 []:=⟨⟨[],rfl,by simp,fun _=>Iff.rfl,Nat.le_refl _,fun p h=>by simp at h⟩,fun e he=>by simp at he,by simp⟩
theorem e5.empty{w:World}{b:Nat}(h:w.heap[b]? = some (.map #[] 0)):e5 w b []:=⟨fun _ h=>by simp at h,_,_,h,F8.empty⟩
theorem hT.len{ny:Type}{enc:ny->Value}{es:List MapEntry}{l:List (ny×Value)}(h:hT enc es l):es.length=l.length:=by
 have:=congrArg List.length h
 simpa using this
theorem hT.at{ny:Type}{enc:ny->Value}{es:List MapEntry}{l:List (ny×Value)}(h:hT enc es l)(i:Nat):es[i]?.map (fun e=>(e.key,e.val))=l[i]?.map (fun p=>(enc p.1,p.2)):=by
 have:=congrArg (fun q=>q[i]?) h
 simpa using this
theorem e5.look{w:World}{b:Nat}{L:List Int}(h:e5 w b L)(x:Int):∃es r z,qs w (.map (some b)) es/\Instr.findNow (.int .i64) (.int .i64 x) es.toList 0=some r/\l9 (.int .i64 0) false r = .int .i64 z:=by
 obtain⟨es,c,h1,hm⟩:=h.ex;obtain⟨l,U,ag,aJ,bg,bS⟩:=hm.yw;obtain⟨r,ko,hM⟩:=xV (IE .i64 .i64) x es.toList _ 0 U;cases r with
 | none=>exact⟨es,none,0,.inr ⟨b,c,rfl,h1⟩,ko,rfl⟩
 | some q =>
  cases aK:l.find? (fun p=>decide (x=p.1)) with
  | none=>rw[aK] at hM;cases hM
  | some p =>
   rw[aK] at hM;obtain⟨z,bN⟩:=bS p (List.mem_of_find?_eq_some aK);simp only[Option.map_some,Option.some.injEq] at hM;exact⟨es,some q,z,.inr ⟨b,c,rfl,h1⟩,ko,by simp[l9,hM,bN]⟩
theorem ahk{x z:Int}{l:List (Int×Value)}{es:List MapEntry}{j:Nat}(h:hT (Value.int .i64) es l)(hk:∀p,l[j]? = some p->p.1=x):hT (Value.int .i64) (es.modify j fun e=>{ e with key:=.int .i64 x,val:=.int .i64 z }) (l.modify j fun p=>(p.1,.int .i64 z)):=by
 unfold hT;apply List.ext_getElem?;intro i;have ad:=h.at i;simp only[List.getElem?_map,List.getElem?_modify] at *;by_cases e:j=i
 .subst e;simp only[if_true] at *;cases he:es[j]? with
  | none=>rw[he] at ad;cases aN:l[j]? with
   | none=>simp
   | some p=>rw[aN] at ad;cases ad
  | some q =>
   rw[he] at ad;cases aN:l[j]? with
   | none=>rw[aN] at ad;cases ad
   | some p=>simp[hk p aN]
 .simp only[if_neg e];cases he:es[i]? with
  | none=>rw[he] at ad;cases aN:l[i]? with
   | none=>simp
   | some p=>rw[aN] at ad;cases ad
  | some q =>
   rw[he] at ad;cases aN:l[i]? with
   | none=>rw[aN] at ad;cases ad
   | some p=>rw[aN] at ad;simpa using ad
theorem Ts{z:Value}(l:List (Int×Value))(j:Nat):(l.modify j fun p=>(p.1,z)).map (·.1)=l.map (·.1):=by
 apply List.ext_getElem?;intro i;simp only[List.getElem?_map,List.getElem?_modify];by_cases e:j=i
 .subst e;cases l[j]? <;> simp
 .simp[e]
theorem RZ{k v:Value}(es:List MapEntry)(j:Nat):(es.modify j fun e=>{ e with key:=k,val:=v }).map (·.born)=es.map (·.born):=by
 apply List.ext_getElem?;intro i;simp only[List.getElem?_map,List.getElem?_modify];by_cases e:j=i
 .subst e;cases es[j]? <;> simp
 .simp[e]
theorem e5.put{w:World}{b:Nat}{L:List Int}(h:e5 w b L)(x z:Int)(ar : -9223372036854775808<=x/\x<=9223372036854775807):∃es c q,w.heap[b]? = some (.map es c)/\Instr.findNow (.int .i64) (.int .i64 x) es.toList 0=some q /\
  ∀w':World,w'.heap[b]? = some (q4 es c (.int .i64 x) (.int .i64 z) q)->e5 w' b (L++[x]):=by
 obtain⟨es,c,h1,hm⟩:=h.ex;obtain⟨l,U,ag,aJ,bg,bS⟩:=hm.yw;obtain⟨r,ko,hM⟩:=xV (IE .i64 .i64) x es.toList _ 0 U;have dq:∀y∈L++[x],-9223372036854775808<=y/\y<=9223372036854775807:=fun y b2=>by
  rcases List.mem_append.1 b2 with b2 | b2
  .exact h.ok y b2
  .simp only[List.mem_singleton] at b2;subst b2;exact ar
 refine⟨es,c,r,h1,ko,fun w' hw=>?_⟩;cases r with
 | none =>
  have aE:∀p∈l,p.1≠x:=by
   cases aK:l.find? (fun p=>decide (x=p.1)) with
   | none =>
    intro p aN e
    have:=List.find?_eq_none.1 aK p aN
    simp[e] at this
   | some p=>rw[aK] at hM;cases hM
  refine⟨dq,_,_,hw,⟨⟨l++[(x,.int .i64 z)],hT.push U x (.int .i64 z) c,?_,fun y=>?_,?_,fun p aN=>?_⟩,?_,?_⟩⟩
  .rw[List.map_append,List.map_cons,List.map_nil,List.nodup_append];refine⟨ag,by simp,fun a bj b aC=>?_⟩;obtain⟨p,aN,rfl⟩:=List.mem_map.1 bj;simp only[List.mem_singleton] at aC;rw[aC];exact aE p aN
  .rw[List.map_append,List.mem_append,List.mem_append,aJ y];simp
  .rw[List.length_append,List.length_append];simp;exact bg
  .rcases List.mem_append.1 aN with aN | aN
   .exact bS p aN
   .simp only[List.mem_singleton] at aN;subst aN;exact⟨z,rfl⟩
  .intro e he;simp only[Array.toList_push,List.mem_append,List.mem_singleton] at he;rcases he with he | rfl
   .have:=hm.born e he;omega
   .show c<c+1;omega
  .simp only[Array.toList_push,List.map_append,List.map_cons,List.map_nil];rw[List.nodup_append];refine⟨hm.nodup,by simp,fun a bj gm qL=>?_⟩;obtain⟨e,he,rfl⟩:=List.mem_map.1 bj;simp only[List.mem_singleton] at qL
   have:=hm.born e he
   omega
 | some MJ =>
  obtain⟨j,v⟩:=MJ;obtain⟨_,e,he,ay⟩:=KG ko;rw[Nat.sub_zero] at he;have UQ:∀p,l[j]? = some p->p.1=x:=fun p aN=>by
   have:=U.at j
   rw[he,aN] at this;simp only[Option.map_some,Option.some.injEq,Prod.mk.injEq] at this;rw[this.1,IE] at ay;have ay:=Option.some.inj ay;simp only[decide_eq_true_eq] at ay;exact ay.symm
  have te:x∈L:=by
   have aR:=U.at j;rw[he] at aR;cases aN:l[j]? with
   | none=>rw[aN] at aR;cases aR
   | some p =>
    rw[<-aJ x,<-UQ p aN];exact List.mem_map.2 ⟨p,List.mem_of_getElem? aN,rfl⟩
  have s9:w'.heap[b]? = some (.map (es.modify j fun e=>{ e with key:=.int .i64 x,val:=.int .i64 z }) c):=hw;refine⟨dq,_,_,s9,⟨⟨l.modify j fun p=>(p.1,.int .i64 z),?_,by rw[Ts];exact ag,fun y=>?_,?_,fun p aN=>?_⟩,?_,?_⟩⟩
  .rw[Array.toList_modify];exact ahk U UQ
  .rw[Ts,aJ y,List.mem_append,List.mem_singleton];exact⟨.inl,fun q=>q.elim id fun q=>q ▸ te⟩
  .rw[List.length_modify,List.length_append];omega
  .obtain⟨i,ad,rfl⟩:=List.mem_iff_getElem.1 aN;rw[List.getElem_modify];split
   .exact⟨z,rfl⟩
   .exact bS _ (List.getElem_mem _)
  .rw[Array.toList_modify];intro e' h2
   have:e'.born∈es.toList.map (·.born):=by rw[<-RZ (k:=.int .i64 x) (v:=.int .i64 z) es.toList j];exact List.mem_map.2 ⟨e',h2,rfl⟩
   obtain⟨dQ,ak,gK⟩:=List.mem_map.1 this
   have:=hm.born dQ ak
   omega
  .rw[Array.toList_modify,RZ];exact hm.nodup
section
variable{P:Program}{gu:World->Prop}{aI:Value->Prop}{w:World}
theorem K.ahL{b:Nat}{L:List Int}{x:Int}{t}(h:e5 w b L)(hk:∀z,aI (.int .i64 z)):zh (.int .i64) (.int .i64 0) false (.map (some b)) (.int .i64 x) w aI t:=by
 obtain⟨es,r,z,h1,U,ag⟩:=h.look x;exact K.mE h1 U (by rw[ag];exact hk z)
theorem K.ah7{b:Nat}{L:List Int}{x z:Int}{t}(h:e5 w b L)(ar : -9223372036854775808<=x/\x<=9223372036854775807)(hk:∀av,dA b w av->e5 av b (L++[x])->gu av):xj (.int .i64) (.map (some b)) (.int .i64 x) (.int .i64 z) w gu t:=by
 obtain⟨es,c,q,h1,U,ag⟩:=h.put x z ar;exact K.iX h1 U (hk _ (dA.fe w b _) (ag _ (Br (cG h1))))
end
theorem wf_i64{x:Int}(h : -9223372036854775808<=x/\x<=9223372036854775807):(Lit.int .i64 x).wf=true:=by
 have h1:IntKind.i64.min = -9223372036854775808:=by decide
 have U:IntKind.i64.max=9223372036854775807:=by decide
 simp only[Lit.wf,h1,U,Bool.and_eq_true,decide_eq_true_eq];exact h
theorem e5.own{P:Program}{k:TypeId}{w:World}{b:Nat}{L:List Int}(hk:P.underlying k=some (.int .i64))(h:e5 w b L)(dg:L.length<=maxLen) :
  ∃sq:DataW Unit,w.ownsMap P k (fun _=>some (.lit (.bool true),[])) b L.length sq/\Maps.size sq<=L.length/\∀b7:List Int,b7.Perm (intKeys sq)->b7.Nodup/\∀x,x∈b7↔x∈L:=by
 obtain⟨es,c,h1,hm⟩:=h.ex;obtain⟨l,U,ag,aJ,bg,bS⟩:=hm.yw;have hlen:es.toList.length=l.length:=U.len;have qa:∀e∈es.toList,∃x,e.key = .int .i64 x/\WideElems.rd P k (fun _=>some ((.lit (.bool true):DataW Unit),[])) e=some (.int .i64 x,.lit (.bool true)):=fun e he=>by
  obtain⟨i,ad,rfl⟩:=List.mem_iff_getElem.1 he;have kj:=U.at i;rw[List.getElem?_eq_getElem ad,List.getElem?_eq_getElem (by omega)] at kj;simp only[Option.map_some,Option.some.injEq,Prod.mk.injEq] at kj;refine⟨_,kj.1,?_⟩;have hw:=wf_i64 (h.ok l[i].1 ((aJ _).1 (List.mem_map.2 ⟨l[i],List.getElem_mem _,rfl⟩)));unfold WideElems.rd;rw[kj.1,Maps.keyOf_int_mk hk hw];rfl
 have z1:WideElems.Fit P k (fun _=>some ((.lit (.bool true):DataW Unit),[])) es c:=⟨by simp at hlen;omega,⟨hm.born,hm.nodup,by
  have:es.toList.map (·.key)=(l.map (·.1)).map (Value.int .i64):=by
   apply List.ext_getElem?;intro i;rw[List.getElem?_map,List.getElem?_map,List.getElem?_map]
   have:=U.at i
   cases he:es.toList[i]? with
   | none=>rw[he] at this;cases aN:l[i]? with
    | none=>rfl
    | some p=>rw[aN] at this;cases this
   | some q =>
    rw[he] at this;cases aN:l[i]? with
    | none=>rw[aN] at this;cases this
    | some p =>
     rw[aN] at this;simp only[Option.map_some,Option.some.injEq,Prod.mk.injEq] at this;simp only[Option.map_some,this.1]
  rw[this];exact List.pairwise_map.2 (ag.imp fun {a b} cI e=>cI (by injection e))⟩,fun x ar=>let ⟨y,_,b2⟩:=qa x ar; ⟨_,b2⟩⟩
 refine⟨_,World.ownsMap.mono (World.ownsMap_of_fit h1 z1 (fun _ _ _ q=>q)) (by simp at hlen;omega),?_,fun b7 aN=>?_⟩
 .rw[Maps.size_eq,length_sorted];simp at hlen ⊢;omega
 .have afl:(intKeys (.map ((es.toList.map (WideElems.rg P k (fun _=>some ((.lit (.bool true):DataW Unit),[])))).foldr DataW.insert []))).Perm (l.map (·.1)):=by
   refine((WideShapes.sorted_perm _).map _).trans ?_;rw[List.map_map]
   have:es.toList.map ((fun p:Lit×DataW Unit=>intOf p.1)∘WideElems.rg P k (fun _=>some ((.lit (.bool true):DataW Unit),[])))=l.map (·.1):=by
    apply List.ext_getElem?;intro i;rw[List.getElem?_map,List.getElem?_map];cases he:es.toList[i]? with
    | none =>
     have:=U.at i
     rw[he] at this;cases aN:l[i]? with
     | none=>rfl
     | some p=>rw[aN] at this;cases this
    | some e =>
     obtain⟨x,ar,b2⟩:=qa e (List.mem_of_getElem? he)
     have:=U.at i
     rw[he] at this;cases aN:l[i]? with
     | none=>rw[aN] at this;cases this
     | some p =>
      rw[aN] at this;simp only[Option.map_some,Option.some.injEq,Prod.mk.injEq] at this;rw[ar] at this;have bR:x=p.1:=by have:=this.1;injection this
      simp only[Option.map_some,Function.comp,WideElems.rg_of b2,bR];rfl
   rw[this]
  have Av:=aN.trans afl;exact⟨Av.nodup_iff.2 ag,fun x=>by rw[Av.mem_iff];exact aJ x⟩
theorem ak3{b7:List Int}(h:b7.Nodup):(b7.mergeSort fun x y=>decide (x<=y)).Pairwise (· < ·):=by
 have alI:∀a b c:Int,decide (a<=b)=true->decide (b<=c)=true->decide (a<=c)=true:=fun a b c h1 U=>by simp only[decide_eq_true_eq] at *;omega
 have to:∀a b:Int,(decide (a<=b)||decide (b<=a))=true:=fun a b=>by simp only[Bool.or_eq_true,decide_eq_true_eq];omega
 have h1:=List.pairwise_mergeSort alI to b7;have U:(b7.mergeSort fun x y=>decide (x<=y)).Nodup:=(List.mergeSort_perm b7 _).nodup_iff.2 h;refine(h1.and U).imp fun {a b} q=>?_;simp only[decide_eq_true_eq] at q;omega
end bt
end
section
namespace o
open Go
theorem Np{p:dy}{s:Scope}(h:(ho p s).2.2=0):whole p s=0/\(kI p s).2=0/\(kV (inner p s) p.cw p.cH p.cH 0).2.2=0:=by
 unfold ho at h;by_cases h1:whole p s≠0
 .rw[if_pos h1] at h;exact absurd h h1
 rw[if_neg h1] at h;by_cases U:(kI p s).2≠0
 .rw[if_pos U] at h;exact absurd h U
 rw[if_neg U] at h;exact⟨by simpa using h1,by simpa using U,h⟩
theorem GF{own:Scope}{cw:Int}{all:List dI}:∀(l:List dI) (i:Nat),(kV own cw all l i).2.2=0->∀k (h:k<l.length),(iC l[k] cw own).2=0/\(all.take (i+k)).any (fun x=>decide (x.name=l[k].name))=false
 | [],_,_,k,h=>by simp at h
 | c :: r,i,fS,k,h=>by
  simp only[kV] at fS;by_cases h1:(iC c cw own).2≠0
  .rw[if_pos h1] at fS;exact absurd fS h1
  rw[if_neg h1] at fS;by_cases U:(all.take i).any (fun x=>decide (x.name=c.name))=true
  .rw[if_pos U] at fS;cases fS
  rw[if_neg U] at fS;cases k with
  | zero=>exact⟨by simpa using h1,by simpa using U⟩
  | succ k =>
   have:=GF r (i+1) fS k (by simpa using h)
   simpa[Nat.add_assoc,Nat.add_comm 1 k] using this
theorem u3{α:Type}{l:List α}{n:Int}{x:α}(h:nth l n=some x):0<=n/\l[n.toNat]? = some x/\n.toNat<l.length:=by
 unfold nth at h;by_cases ak:0<=n
 .rw[if_pos ak] at h;exact⟨ak,h,(List.getElem?_eq_some_iff.1 h).1⟩
 .rw[if_neg ak] at h;cases h
theorem V8{n:Int}{s:Scope}(h:(gU n s).2=true):0<=n/\n<=s.scalars.length/\(gU n s).1=if n=0 then 0 else 1+n:=by
 unfold gU at h ⊢;by_cases h1:n=0
 .subst h1;simp
 .rw[if_neg h1] at h ⊢;by_cases U:n<0\/(s.scalars.length:Int)<n
  .rw[if_pos U] at h;cases h
  .rw[if_neg U,if_neg h1];exact⟨by omega,by omega,rfl⟩
theorem Wg{l:List Var}{n:Int}{s:Scope}(h:(fQ l n s).2.2=true):∃v,nth l n=some v/\l[n.toNat]? = some v/\0<=n/\fQ l n s=((gU v.scalar s).1,(gU v.over s).1,true)/\(gU v.scalar s).2=true/\(gU v.over s).2=true:=by
 unfold fQ at h ⊢;cases aE:nth l n with
 | none=>rw[aE] at h;cases h
 | some v =>
  rw[aE] at h;simp only[Bool.and_eq_true] at h;obtain⟨ak,h1,_⟩:=u3 aE;exact⟨v,rfl,h1,ak,by simp only[h.1,h.2,Bool.and_self],h.1,h.2⟩
theorem Bk:∀(a b:List Int),a.Pairwise (· < ·)->b.Pairwise (· < ·)->(∀x,x∈a↔x∈b)->a=b
 | [],[],_,_,_=>rfl
 | [],y :: b,_,_,h=>by have:=(h y).2 (List.mem_cons_self ..);cases this
 | x :: a,[],_,_,h=>by have:=(h x).1 (List.mem_cons_self ..);cases this
 | x :: a,y :: b,bj,aC,h=>by
  rw[List.pairwise_cons] at bj aC;have e:x=y:=by
   rcases List.mem_cons.1 ((h x).1 (List.mem_cons_self ..)) with e | e
   .exact e
   .rcases List.mem_cons.1 ((h y).2 (List.mem_cons_self ..)) with aW | aW
    .exact aW.symm
    .have:=aC.1 x e;have:=bj.1 y aW;omega
  subst e;congr 1;refine Bk a b bj.2 aC.2 fun z=>⟨fun bN=>?_,fun bN=>?_⟩
  .rcases List.mem_cons.1 ((h z).1 (List.mem_cons_of_mem _ bN)) with e | e
   .subst e;have:=bj.1 z bN;omega
   .exact e
  .rcases List.mem_cons.1 ((h z).2 (List.mem_cons_of_mem _ bN)) with e | e
   .subst e;have:=aC.1 z bN;omega
   .exact e
def gk(a n:Nat):List Int:=(List.range n).map fun(k:Nat)=>((a+k:Nat):Int)
theorem aj9(a n:Nat):(gk a n).length=n:=by simp[gk]
theorem XT(a:Nat):gk a 0=[]:=rfl
theorem Bm(a:Nat):gk a 1=[(a:Int)]:=by simp[gk]
theorem aka(a n:Nat):gk a (n+1)=gk a n++[((a+n:Nat):Int)]:=by simp[gk,List.range_succ]
theorem qj{a n:Nat}{x:Int}:x∈gk a n↔(a:Int)<=x/\x<((a+n:Nat):Int):=by
 constructor
 .intro h;obtain⟨k,hk,rfl⟩:=List.mem_map.1 h
  have:=List.mem_range.1 hk
  omega
 .intro h;refine List.mem_map.2 ⟨(x - a).toNat,List.mem_range.2 (by omega),by omega⟩
structure amH(l:List Int)(last:Int)(out:List Int):Prop where
 k6:out.Pairwise (· < ·)
 mem:∀x,x∈out↔x∈l/\x<=last
 last : -1<=last
structure pM(l r:List Int):Prop where
 k6:r.Pairwise (· < ·)
 mem:∀x,x∈r↔x∈l
theorem pM.eq{l uS r gy:List Int}(h:pM l r)(k:pM uS gy)(e:∀x,x∈l↔x∈uS):r=gy :=
 Bk r gy h.k6 k.k6 fun x=>by rw[h.mem,k.mem,e]
def oD(m:Model)(v:Nat):Nat:=match m.vars[v]? with | some x=>(cells x m.scalars).toNat | none=>0
def GR(m:Model)(q:Nat):Nat:=match (insts m)[q]? with | some x=>x.elem.toNat | none=>0
def jw(m:Model)(c:Nat):Nat:=match m.aL[c]? with | some x=>x.cap.toNat | none=>0
def pq(m:Model)(q v:Nat)(own:Bool):List Int:=if own then gk (gW m v+GR m q - 1) 1 else gk (gW m v) (oD m v)
def oj(m:Model)(p:Int)(n:Nat):List Int:=(List.range n).flatMap fun j=>if (insts m)[j]?.map (·.proc)=some p then gk (dS m j) 1 else []
def gj(m:Model)(q:Nat)(own:Bool)(x:Node):List Int :=
 if x.op=2 then gk (gW m x.n.toNat) 1
 else if x.op=3 then pq m q x.n.toNat own
 else if x.op=4 then gk (dS m q+1+x.n.toNat) 1
 else if x.op=6 then gk (df m x.n.toNat) 1
 else if x.op=7 then oj m (x.n.tdiv 16) (insts m).length
 else []
def wV(e:List Node):Nat->Bool
 | 0=>false
 | k+1=>match e[k]? with | some x=>decide (x.op=5) | none=>false
def o8(m:Model)(q:Nat)(e:List Node)(n:Nat):List Int:=(List.range n).flatMap fun k=>match e[k]? with | some x=>gj m q (wV e k) x | none=>[]
def tP(m:Model)(c:Nat):List Int:=gk (df m c) (1+jw m c)
def rf(a:Act):Bool:=match a.index with | [x]=>decide (x.op=5) | _=>false
def pO(m:Model)(q:Nat)(a:Act):List Int :=
 if a.kind=5 then tP m a.to.toNat
 else (if a.kind=2 then o8 m q a.index a.index.length else if a.kind=4 then gk (df m a.to.toNat) 1 else [])++o8 m q a.value a.value.length
def lo(m:Model)(q:Nat)(a:Act):List Int :=
 if a.kind=1 then gk (gW m a.to.toNat) 1
 else if a.kind=2 then pq m q a.to.toNat (rf a)
 else if a.kind=3 then gk (dS m q+1+a.to.toNat) 1
 else if a.kind=4 then tP m a.to.toNat
 else if a.kind=5 then tP m a.to.toNat++gk (dS m q+1+a.loc.toNat) 1
 else []
def CY(m:Model)(q:Nat)(c:dI):List Int:=gk (dS m q) 1++o8 m q c.guard c.guard.length
def nq(m:Model)(q:Nat)(c:dI)(n:Nat):List Int:=CY m q c++(c.b6.take n).flatMap (pO m q)
def kM(m:Model)(q:Nat)(c:dI)(n:Nat):List Int:=gk (dS m q) 1++(c.b6.take n).flatMap (lo m q)
theorem XA{m:Model}{q:Nat}{c:dI}{n:Nat}(h:n<c.b6.length):nq m q c (n+1)=nq m q c n++pO m q c.b6[n]:=by
 unfold nq;rw[List.take_succ_eq_append_getElem h,List.flatMap_append,List.flatMap_singleton,List.append_assoc]
theorem Y7{m:Model}{q:Nat}{c:dI}{n:Nat}(h:n<c.b6.length):kM m q c (n+1)=kM m q c n++lo m q c.b6[n]:=by
 unfold kM;rw[List.take_succ_eq_append_getElem h,List.flatMap_append,List.flatMap_singleton,List.append_assoc]
theorem S7{m:Model}{q:Nat}{e:List Node}{n:Nat}(h:n<e.length):o8 m q e (n+1)=o8 m q e n++gj m q (wV e n) e[n]:=by
 unfold o8;rw[List.range_succ,List.flatMap_append,List.flatMap_singleton,List.getElem?_eq_getElem h]
theorem Ng{e:List Node}{n:Nat}(h:n<e.length):wV e (n+1)=decide (e[n].op=5):=by
 simp only[wV,List.getElem?_eq_getElem h]
theorem Ca{m:Model}{p:Int}{n:Nat}(h:n<(insts m).length):oj m p (n+1)=oj m p n++if (insts m)[n].proc=p then gk (dS m n) 1 else []:=by
 unfold oj;rw[List.range_succ,List.flatMap_append,List.flatMap_singleton,List.getElem?_eq_getElem h];simp only[Option.map_some,Option.some.injEq]
structure zj(s:Scope)(x:Node):Prop where
 var:x.op=2->0<=x.n/\∃v,s.vars[x.n.toNat]? = some v/\v.over=0
 item:x.op=3->0<=x.n/\x.n.toNat<s.vars.length
 loc:x.op=4->0<=x.n/\x.n.toNat<s.locals.length
 self:x.op=5->1<=s.self/\s.self<=s.scalars.length
 len:x.op=6->0<=x.n/\x.n.toNat<s.aL.length
 at_:x.op=7->0<=x.n/\(x.n.tdiv 16).toNat<s.procs.length
structure rr(s:Scope)(e:List Node):Prop where
 node:∀k (h:k<e.length),zj s e[k]/\(e[k].op=3->0<k)
 len:e.length<=24
theorem ahz{s:Scope}{x:Node}{top:Int}(h:(iu x s top).2=0):zj s x:=by
 unfold iu at h;by_cases h1:x.op=1
 .exact⟨by omega,by omega,by omega,by omega,by omega,by omega⟩
 rw[if_neg h1] at h;by_cases U:x.op=2\/x.op=3\/x.op=4
 .rw[if_pos U] at h;simp only at h;by_cases aD:(fQ (if x.op=4 then s.locals else s.vars) x.n s).2.2=false
  .rw[if_pos aD] at h;cases h
  rw[if_neg aD] at h;obtain⟨v,cX,c0,gD,iK,uO,AE⟩:=Wg (by simpa using aD);obtain⟨b9,ck,cn⟩:=V8 AE;rw[iK] at h;simp only at h;have cv:=(List.getElem?_eq_some_iff.1 c0).1;by_cases ag:(x.op=3/\((gU v.over s).1=0\/top≠(gU v.over s).1))\/(x.op≠3/\(gU v.over s).1≠0)
  .rw[if_pos ag] at h;cases h
  .refine⟨fun e=>⟨gD,v,?_,?_⟩,fun e=>⟨gD,?_⟩,fun e=>⟨gD,?_⟩,by omega,by omega,by omega⟩
   .rw[if_neg (by omega)] at c0;exact c0
   .have:(gU v.over s).1=0:=Classical.byContradiction fun aE=>ag (.inr ⟨by omega,aE⟩)
    rw[cn] at this;split at this
    .assumption
    .omega
   .rw[if_neg (by omega)] at cv;exact cv
   .rw[if_pos e] at cv;exact cv
 .rw[if_neg U] at h;unfold lN at h;refine⟨by omega,by omega,by omega,fun e=>?_,fun e=>?_,fun e=>?_⟩
  .rw[if_pos e] at h;by_cases q:1<=s.self/\s.self<=s.scalars.length
   .exact q
   .rw[if_neg q] at h;cases h
  .rw[if_neg (by omega),if_pos e] at h;unfold jF at h;cases aE:nth s.aL x.n with
   | none=>rw[aE] at h;cases h
   | some c=>exact⟨(u3 aE).1,(u3 aE).2.2⟩
  .rw[if_neg (by omega),if_neg (by omega),if_pos e] at h;unfold AF at h;by_cases q:0<=x.n
   .rw[if_pos q] at h;cases aE:nth s.procs (x.n.tdiv 16) with
    | none=>rw[aE] at h;cases h
    | some c=>exact⟨q,(u3 aE).2.2⟩
   .rw[if_neg q] at h;cases h
theorem V6{e:List Node}{s:Scope}(h:(kind e s).2=0):rr s e:=by
 unfold kind kt at h;by_cases h1:e.length > 24
 .rw[if_pos h1] at h;cases h
 rw[if_neg h1] at h;by_cases U:e.length=0
 .exact⟨fun k hk=>by omega,by omega⟩
 rw[if_neg U] at h;by_cases ag:(eE (e7 s) e []).1≠0
 .rw[if_pos ag] at h;exact absurd h ag
 have ag:(eE (e7 s) e []).1=0:=by simpa using ag
 refine⟨fun k hk=>?_,by omega⟩;have qY:∀j,(eE (e7 s) (e.take j) []).1=0:=fun j=>Classical.byContradiction fun aE=>by
  have:=NX (f:=e7 s) (e:=e) (k:=j) rfl aE
  rw[this] at ag;exact aE ag
 have ha:eE (e7 s) (e.take k) []=(0,(eE (e7 s) (e.take k) []).2):=Prod.ext (qY k) rfl;have aJ:=vb hk ha;have bg:=qY (k+1);rw[aJ] at bg;unfold stepG at bg;by_cases dH:eV e[k].op<0
 .rw[if_pos dH] at bg;cases bg
 rw[if_neg dH] at bg;by_cases dN:((eE (e7 s) (e.take k) []).2.length:Int)<eV e[k].op
 .rw[if_pos dN] at bg;cases bg
 rw[if_neg dN] at bg;by_cases eb:(e7 s e[k] (eE (e7 s) (e.take k) []).2).2≠0
 .rw[if_pos eb] at bg;exact absurd bg eb
 have eb:(e7 s e[k] (eE (e7 s) (e.take k) []).2).2=0:=by simpa using eb
 constructor
 .by_cases ba:wH e[k].op=false
  .unfold e7 at eb;rw[Nf ba] at eb;exact ahz eb
  .have:9<=e[k].op:=by
    simp only[wH,decide_eq_false_iff_not] at ba;omega
   exact⟨by omega,by omega,by omega,by omega,by omega,by omega⟩
 .intro bJ;apply Classical.byContradiction;intro aE;have yh:k=0:=by omega
  subst yh;rw[bJ] at dN;simp[eE,eV] at dN
theorem Gs{e:List Node}{k:Int}{s:Scope}(h:asked e k s=0):rr s e:=by
 unfold asked at h;by_cases h1:(kind e s).2≠0
 .rw[if_pos h1] at h;exact absurd h h1
 .exact V6 (by simpa using h1)
structure oN(s:Scope)(a:Act):Prop where
 set:a.kind=1->0<=a.to/\∃v,s.vars[a.to.toNat]? = some v/\v.over=0
 item:a.kind=2->0<=a.to/\a.to.toNat<s.vars.length/\rr s a.index
 loc:a.kind=3->0<=a.to/\a.to.toNat<s.locals.length
 chan:a.kind=4\/a.kind=5->0<=a.to/\a.to.toNat<s.aL.length
 recv:a.kind=5->0<=a.loc/\a.loc.toNat<s.locals.length
 val:a.kind≠5->rr s a.value
 kind:1<=a.kind/\a.kind<=5
theorem Kk{l:List Var}{n:Int}{s:Scope}{q:Var×Int}(h:declared l n s=some q):0<=n/\l[n.toNat]? = some q.1/\n.toNat<l.length:=by
 unfold declared at h;cases aE:nth l n with
 | none=>rw[aE] at h;cases h
 | some v =>
  rw[aE] at h;simp only at h;split at h
  .injection h with h
   subst h;exact u3 aE
  .cases h
theorem JI{a:Act}{s:Scope}(h:jQ a s=0):oN s a:=by
 unfold jQ at h;by_cases h1:a.kind=1\/a.kind=2\/a.kind=3
 .rw[if_pos h1] at h;cases bx:declared (if a.kind=3 then s.locals else s.vars) a.to s with
  | none=>rw[bx] at h;cases h
  | some q =>
   rw[bx] at h;obtain⟨v,k⟩:=q;obtain⟨d1,d2,d3⟩:=Kk bx;simp only at h;by_cases U:(v.over≠0)≠(a.kind=2)
   .rw[if_pos U] at h;cases h
   rw[if_neg U] at h;have U:(v.over≠0)=(a.kind=2):=Classical.byContradiction fun q=>U q;by_cases ag:a.kind=2/\asked a.index (1+v.over) s≠0
   .rw[if_pos ag] at h;exact absurd h ag.2
   rw[if_neg ag] at h;refine⟨fun e=>⟨d1,v,?_,?_⟩,fun e=>⟨d1,?_,?_⟩,fun e=>⟨d1,?_⟩,by omega,by omega,fun _=>Gs h,by omega⟩
   .rw[if_neg (by omega)] at d2;exact d2
   .apply Classical.byContradiction;intro aE
    have:a.kind=2:=U ▸ aE
    omega
   .rw[if_neg (by omega)] at d3;exact d3
   .exact Gs (Classical.byContradiction fun aE=>ag ⟨e,aE⟩)
   .rw[if_pos e] at d3;exact d3
 .rw[if_neg h1] at h;by_cases U:a.kind=4\/a.kind=5
  .rw[if_pos U] at h;cases aw:channel a.to s with
   | none=>rw[aw] at h;cases h
   | some k =>
    rw[aw] at h;simp only at h;have rR:0<=a.to/\a.to.toNat<s.aL.length:=by
     unfold channel at aw;cases aE:nth s.aL a.to with
     | none=>rw[aE] at aw;cases aw
     | some c=>exact⟨(u3 aE).1,(u3 aE).2.2⟩
    refine⟨by omega,by omega,by omega,fun _=>rR,fun e=>?_,fun e=>?_,by omega⟩
    .rw[if_pos e] at h;unfold Fb at h;cases bx:declared s.locals a.loc s with
     | none=>rw[bx] at h;cases h
     | some q =>
      obtain⟨d1,d2,d3⟩:=Kk bx;exact⟨d1,d3⟩
    .rw[if_neg e] at h;exact Gs h
  .rw[if_neg U] at h;cases h
structure tC(s:Scope)(c:dI):Prop where
 guard:rr s c.guard
 act:∀k (h:k<c.b6.length),oN s c.b6[k]
 hJ:c.b6.length<=6
theorem RF{s:Scope}:∀(l:List Act) (i:Nat) (t:Bool),(kd s l i t).2=0->∀k (h:k<l.length),oN s l[k]
 | [],_,_,_,k,h=>by simp at h
 | a :: r,i,t,h,k,hk=>by
  unfold kd at h;by_cases h1:(gO a&&t)=true
  .rw[if_pos h1] at h;cases h
  rw[if_neg h1] at h;by_cases U:jQ a s≠0
  .rw[if_pos U] at h;exact absurd h U
  rw[if_neg U] at h;cases k with
  | zero=>exact JI (by simpa using U)
  | succ k=>exact RF r _ _ h k (by simpa using hk)
theorem abw{c:dI}{cw:Int}{s:Scope}(h:(iC c cw s).2=0):tC s c:=by
 unfold iC at h;by_cases h1:head c cw≠0
 .rw[if_pos h1] at h;exact absurd h h1
 rw[if_neg h1] at h;by_cases U:c.guard.length > 0/\asked c.guard 1 s≠0
 .rw[if_pos U] at h;exact absurd h U.2
 rw[if_neg U] at h;refine⟨?_,RF _ _ _ h,?_⟩
 .by_cases a1:c.guard.length > 0
  .exact Gs (Classical.byContradiction fun aE=>U ⟨a1,aE⟩)
  .exact⟨fun k hk=>by omega,by omega⟩
 .apply Classical.byContradiction;intro aE;apply h1;unfold head;by_cases dH:isName c.name=false
  .rw[if_pos dH];decide
  rw[if_neg dH];by_cases dN:c.from_<0\/cw<=c.from_\/c.to<0\/cw<=c.to
  .rw[if_pos dN];decide
  rw[if_neg dN,if_pos (by omega)];decide
theorem J8{m:Model}(h:(check m).c3=0):(lO m).c3=0:=by
 unfold check at h;by_cases bx:(data m).c3≠0
 .rw[if_pos bx] at h;exact absurd h bx
 rw[if_neg bx] at h;apply Classical.byContradiction;intro aN;rw[if_pos aN] at h;exact aN h
theorem abA{m:Model}(h:(check m).c3=0){p k:Nat}(aN:p<m.procs.length)(hk:k<m.procs[p].cH.length):tC (inner m.procs[p] (eR m)) m.procs[p].cH[k]:=by
 obtain⟨eD,_,_⟩:=Iu (J8 h);obtain⟨_,cX,_,_⟩:=zU aN (eD p aN);obtain⟨_,_,iK⟩:=Np cX;have e:gM m (p:Int)=inner m.procs[p] (eR m):=by
  unfold gM;rw[iY (by omega) (by omega)];rfl
 have bg:=(GF _ _ iK k hk).1;rw[e] at bg;exact abw bg
theorem xX{L:List (List Int)}{B:List (List dG)}(h:L.map List.length=B.map List.length):L.flatten.length=total B:=by
 rw[List.length_flatten,h];rfl
def pre(zu:List Int)(d:Nat):List Int:=zu.take d++List.replicate (zu.length - d) 0
theorem Bv{zu:List Int}{d:Nat}{x:Int}(h:zu[d]? = some x):zu.take (d+1)=zu.take d++[x]:=by
 obtain⟨bx,rfl⟩:=List.getElem?_eq_some_iff.1 h;exact List.take_succ_eq_append_getElem bx
theorem aaN{m:Model}{i:Nat}(h:i<m.aL.length):df m (i+1)=df m i+(1+m.aL[i].cap.toNat):=by
 have bF:i<(dw m).length:=by simpa[dw] using h
 unfold df;rw[FB bF];simp[dw,tO];omega
theorem aaO(m:Model):df m 0=total (cV m):=by simp[df,total]
theorem Wh(s w:Int):∀(l:List dG) (k j:Nat) (h:j<l.length),(fh s w l k)[j]? = some ⟨s,w,(k+j:Nat),l[j].bf,l[j].ad,l[j].kind⟩
 | [],_,_,h=>by simp at h
 | b :: l,k,0,_=>by simp[fh]
 | b :: l,k,j+1,h=>by
  simp only[fh,List.getElem?_cons_succ,List.getElem_cons_succ];rw[Wh s w l (k+1) j (by simpa using h),show k+1+j=k+(j+1) from by omega]
theorem J3(s:Int):∀(ls:List (List dG)) (i w k:Nat) (hw:w<ls.length) (hk:k<ls[w].length),(cellsOf s ls i)[total (ls.take w)+k]? = some ⟨s,(i+w:Nat),k,ls[w][k].bf,ls[w][k].ad,ls[w][k].kind⟩
 | [],_,_,_,hw,_=>by simp at hw
 | l :: r,i,0,k,_,hk=>by
  simp only[List.take_zero,total,List.map_nil,List.sum_nil,Nat.zero_add,List.getElem_cons_zero,cellsOf] at hk ⊢;rw[List.getElem?_append_left (by rw[th];exact hk),Wh s i l 0 k hk];simp
 | l :: r,i,w+1,k,hw,hk=>by
  simp only[List.take_succ_cons,FA,List.getElem_cons_succ,cellsOf] at hk ⊢;rw[List.getElem?_append_right (by rw[th];omega),th,show l.length+total (r.take w)+k - l.length=total (r.take w)+k from by omega,J3 s r (i+1) w k (by simpa using hw) hk,show i+1+w=i+(w+1) from by omega]
theorem Wm{m:Model}{k p:Nat}(hk:k<(insts m).length)(aN:p<m.procs.length)(aC:lJ m (insts m)[k]=tp m.scalars m.procs[p]):∃h:dS m k<(cb m).length,(cb m)[dS m k].bf=0/\(cb m)[dS m k].ad=m.procs[p].cw - 1:=by
 have hw:k<(fc m).length:=by simpa[fc] using hk
 have e:(fc m)[k]=tp m.scalars m.procs[p]:=by simp[fc,aC]
 have ak:0<(fc m)[k].length:=by rw[e,Bd];omega
 have h1:=J3 3 (fc m) 0 k 0 hw ak;have U:=ahu (m:=m) (c:=dS m k) (by unfold dS;omega);rw[show dS m k - (total (cV m)+total (dw m))=total ((fc m).take k)+0 from by unfold dS;omega,h1] at U;obtain⟨ag,aJ⟩:=List.getElem?_eq_some_iff.1 U;refine⟨ag,?_,?_⟩
 .rw[aJ];simp only[e];rfl
 .rw[aJ];simp only[e];rfl
theorem Fits.loc{m:Model}{s:List Int}(h:Fits m s){k p:Nat}(hk:k<(insts m).length)(aN:p<m.procs.length)(aC:lJ m (insts m)[k]=tp m.scalars m.procs[p]):∃d:Nat,s[dS m k]? = some (d:Int)/\(d:Int)<m.procs[p].cw:=by
 obtain⟨h1,U,ag⟩:=Wm hk aN aC;have ay:dS m k<s.length:=by rw[h.len];exact h1
 have aJ:=h.cell _ ay h1;rw[U,ag] at aJ;refine⟨s[dS m k].toNat,?_,by omega⟩;rw[List.getElem?_eq_getElem ay,Int.toNat_of_nonneg aJ.1]
theorem RV(m:Model)(s:List Int)(p l:Int)(k:Nat):qz m s p l (k+1)=qz m s p l k+if ((insts m)[k]?.map (·.proc))=some p/\s[dS m k]? = some l then 1 else 0:=by
 unfold qz;rw[List.range_succ,List.filter_append,List.length_append,List.filter_cons,List.filter_nil];by_cases h:((insts m)[k]?.map (·.proc))=some p/\s[dS m k]? = some l
 .rw[decide_eq_true h,if_pos rfl,if_pos h];rfl
 .rw[decide_eq_false h,if_neg (by simp),if_neg h];rfl
theorem xB(m:Model)(s:List Int)(p:Nat)(n:Int)(k:Nat):(jR m s p n k).length=n.toNat:=by simp[jR]
theorem Gt{m:Model}{s:List Int}{p:Nat}{n:Int}{k d:Nat}(h:d<n.toNat):(jR m s p n k)[d]? = some ((qz m s p d k:Nat):Int):=by
 simp[jR,h]
theorem aai(m:Model)(s:List Int)(p:Nat)(n:Int):jR m s p n 0=List.replicate n.toNat 0:=by
 apply List.ext_getElem?;intro i;by_cases h:i<n.toNat
 .rw[Gt h];simp[qz,h]
 .rw[List.getElem?_eq_none (by rw[xB];omega),List.getElem?_eq_none (by simp;omega)]
theorem aag{m:Model}{s:List Int}{p:Nat}{n:Int}{k:Nat}(h:(insts m)[k]?.map (·.proc)≠some (p:Int)):jR m s p n (k+1)=jR m s p n k:=by
 unfold jR;apply List.map_congr_left;intro l _;rw[RV,if_neg (fun e=>h e.1),Nat.add_zero]
theorem aah{m:Model}{s:List Int}{p:Nat}{n:Int}{k d:Nat}(h:(insts m)[k]?.map (·.proc)=some (p:Int))(ay:s[dS m k]? = some (d:Int))(bx:d<n.toNat):jR m s p n (k+1)=(jR m s p n k).set d ((qz m s p d k:Nat)+1:Int):=by
 apply List.ext_getElem?;intro i;rw[List.getElem?_set];by_cases ad:i<n.toNat
 .rw[Gt ad,RV];by_cases LN:d=i
  .subst LN;rw[if_pos ⟨h,ay⟩,if_pos rfl,if_pos (by rw[xB];exact bx)];rfl
  .rw[if_neg (fun e=>LN (by have aW:=e.2;rw[ay] at aW;have bJ:=Option.some.inj aW;omega)),if_neg LN,Gt ad,Nat.add_zero]
 .rw[List.getElem?_eq_none (by rw[xB];omega),if_neg (by omega),List.getElem?_eq_none (by rw[xB];omega)]
theorem RU(m:Model)(s:List Int)(p l:Int)(k:Nat):qz m s p l k<=k:=by
 unfold qz;refine Nat.le_trans (List.length_filter_le _ _) ?_;simp
theorem VJ{m:Model}:∀(l:List dy) (i:Nat),l=m.procs.drop i->∀x∈iW m l i,∃(p:Nat) (h:p<m.procs.length),x.proc=p/\(m.procs[p].over≠0->1<=x.elem)
 | [],_,_,x,ar=>by simp[iW] at ar
 | p :: r,i,h,x,ar=>by
  have ad:i<m.procs.length:=by
   apply Classical.byContradiction;intro aE;rw[List.drop_eq_nil_of_le (by omega)] at h;cases h
  rw[List.drop_eq_getElem_cons ad] at h;injection h with h1 U
  simp only[iW,List.mem_append] at ar;rcases ar with (ar | ar) | ar
  .unfold iw at ar;split at ar
   .rename_i ak;rw[List.mem_singleton] at ar;subst ar;exact⟨i,ad,rfl,fun aE=>absurd (h1 ▸ ak) aE⟩
   .cases ar
  .unfold iZ at ar;obtain⟨k,_,rfl⟩:=List.mem_map.1 ar;exact⟨i,ad,rfl,fun _=>by simp only;omega⟩
  .exact VJ r (i+1) U x ar
structure fW(m:Model)(q p:Nat):Prop where
 aD:q<(insts m).length
 aN:p<m.procs.length
 eq:(insts m)[q].proc=p
 elem:m.procs[p].over≠0->1<=(insts m)[q].elem
 fs:0<=(insts m)[q].elem/\(insts m)[q].elem<=4
theorem H3{m:Model}{q:Nat}(h:q<(insts m).length):∃p,fW m q p:=by
 obtain⟨p,aN,e,h1⟩:=VJ m.procs 0 (by simp) _ (List.getElem_mem h);exact⟨p,h,aN,e,h1,(r2 _ (List.getElem_mem h)).elem⟩
theorem fW.nth{m:Model}{q p:Nat}(h:fW m q p):o.nth m.procs ((insts m)[q]'(h.aD)).proc=some (m.procs[p]'(h.aN)):=by
 rw[h.eq,iY (by omega) (by have:=h.aN;omega)];rfl
theorem fW.RX{m:Model}{q p:Nat}(h:fW m q p):lJ m ((insts m)[q]'(h.aD))=tp m.scalars (m.procs[p]'(h.aN)):=by
 unfold lJ;rw[h.nth]
theorem fW.room{m:Model}{q p:Nat}(h:fW m q p):dS m q+(1+(m.procs[p]'(h.aN)).vars.length)<=eB m:=by
 have:=VD h.aD
 rw[h.RX,Bd] at this;exact this
theorem CE{m:Model}{q:Nat}(h:q<(insts m).length):GR m q=((insts m)[q]'h).elem.toNat:=by
 unfold GR;rw[List.getElem?_eq_getElem h]
theorem r4{m:Model}{v:Nat}(h:v<m.vars.length):oD m v=(cells m.vars[v] m.scalars).toNat:=by
 unfold oD;rw[List.getElem?_eq_getElem h]
theorem o2{m:Model}{c:Nat}(h:c<m.aL.length):jw m c=m.aL[c].cap.toNat:=by
 unfold jw;rw[List.getElem?_eq_getElem h]
theorem I1{m:Model}(br:eN m){v:Nat}(h:v<m.vars.length):gW m v+oD m v<=64:=by
 have:=tz h
 rw[r4 h]
 have:=o3 m
 have:eB m<=64:=nm br
 omega
theorem vM{m:Model}(br:eN m){c:Nat}(h:c<m.aL.length):df m c+(1+jw m c)<=64:=by
 have:=xJ h
 rw[o2 h]
 have:=o3 m
 have:eB m<=64:=nm br
 omega
theorem D4{m:Model}(br:eN m){q:Nat}(h:q<(insts m).length):dS m q+1<=64:=by
 obtain⟨p,aN⟩:=H3 h
 have:=aN.room
 have:eB m<=64:=nm br
 omega
theorem fW.Fg{m:Model}(br:eN m){q p:Nat}(h:fW m q p):dS m q+(1+(m.procs[p]'(h.aN)).vars.length)<=64:=by
 have:=h.room
 have:eB m<=64:=nm br
 omega
structure fk(n:Nat)(l:List Int):Prop where
 bf:∀x∈l,0<=x/\x<80
 len:l.length<=n
theorem fk.row{a n k:Nat}(h:a+n<=80)(aE:n<=k):fk k (gk a n):=⟨fun x ar=>by have:=qj.1 ar;omega,by rw[aj9];exact aE⟩
theorem fk.nil(n:Nat):fk n []:=⟨fun x ar=>(by cases ar),Nat.zero_le _⟩
theorem fk.app{a b n:Nat}{l r:List Int}(h:fk a l)(k:fk b r)(aE:a+b<=n):fk n (l++r):=⟨fun x ar=>by
 rcases List.mem_append.1 ar with ar | ar
 .exact h.bf x ar
 .exact k.bf x ar,by rw[List.length_append];have:=h.len;have:=k.len;omega⟩
theorem fk.mono{a n:Nat}{l:List Int}(h:fk a l)(aE:a<=n):fk n l:=⟨h.bf,Nat.le_trans h.len aE⟩
theorem VR{m:Model}(br:eN m){q v:Nat}(aD:q<(insts m).length)(aT:v<m.vars.length)(own:Bool):fk 64 (pq m q v own):=by
 have:=I1 br aT
 have aJ:=(r2 _ (List.getElem_mem aD)).elem
 have:=CE aD
 unfold pq;cases own
 .exact fk.row (by omega) (by omega)
 .exact fk.row (by omega) (by omega)
theorem RT{m:Model}(br:eN m)(p:Int):∀n,n<=(insts m).length->fk n (oj m p n)
 | 0,_=>fk.nil _
 | n+1,h=>by
  rw[Ca (by omega)]
  have:=D4 br (q:=n) (by omega)
  refine fk.app (RT br p n (by omega)) (b:=1) ?_ (Nat.le_refl _);split
  .exact fk.row (by omega) (Nat.le_refl _)
  .exact fk.nil _
theorem H4{m:Model}(br:eN m):(insts m).length<=30:=by have:=uM m;have:=br.procs;omega
theorem aik{m:Model}(br:eN m){q p:Nat}(h:fW m q p){x:Node}(ar:zj (inner (m.procs[p]'(h.aN)) (eR m)) x)(own:Bool):fk 64 (gj m q own x):=by
 unfold gj;by_cases U:x.op=2
 .rw[if_pos U];obtain⟨_,v,aT,_⟩:=ar.var U;have e8:x.n.toNat<m.vars.length:=(List.getElem?_eq_some_iff.1 aT).1
  have:=tz e8
  have:=o3 m
  have:eB m<=64:=nm br
  exact fk.row (by omega) (by omega)
 rw[if_neg U];by_cases ag:x.op=3
 .rw[if_pos ag];exact VR br h.aD (ar.item ag).2 own
 rw[if_neg ag];by_cases aJ:x.op=4
 .rw[if_pos aJ];have bg:x.n.toNat<(m.procs[p]'(h.aN)).vars.length:=(ar.loc aJ).2
  have:=h.Fg br
  exact fk.row (by omega) (by omega)
 rw[if_neg aJ];by_cases bS:x.op=6
 .rw[if_pos bS]
  have:=vM br (ar.len bS).2
  exact fk.row (by omega) (by omega)
 rw[if_neg bS];by_cases cj:x.op=7
 .rw[if_pos cj];exact(RT br _ _ (Nat.le_refl _)).mono (by have:=H4 br;omega)
 .rw[if_neg cj];exact fk.nil _
theorem S8{m:Model}(br:eN m){q p:Nat}(h:fW m q p){e:List Node}(he:rr (inner (m.procs[p]'(h.aN)) (eR m)) e):∀n,n<=e.length->fk (64*n) (o8 m q e n)
 | 0,_=>fk.nil _
 | n+1,aE=>by
  rw[S7 (by omega)];exact fk.app (S8 br h he n (by omega)) (aik br h (he.node n (by omega)).1 _) (by omega)
theorem KD{m:Model}(br:eN m){q p:Nat}(h:fW m q p){e:List Node}(he:rr (inner (m.procs[p]'(h.aN)) (eR m)) e){n:Nat}(aE:n<=e.length):fk 1536 (o8 m q e n) :=
 (S8 br h he n aE).mono (by have:=he.len;omega)
theorem J6{m:Model}(br:eN m){c:Nat}(h:c<m.aL.length):fk 64 (tP m c):=by
 have:=vM br h
 exact fk.row (by omega) (by omega)
theorem ZO{m:Model}(br:eN m){q p:Nat}(h:fW m q p){a:Act}(bj:oN (inner (m.procs[p]'(h.aN)) (eR m)) a):fk 3072 (pO m q a):=by
 unfold pO;by_cases bg:a.kind=5
 .rw[if_pos bg];exact(J6 br (bj.chan (.inr bg)).2).mono (by omega)
 .rw[if_neg bg];refine fk.app (a:=1536) ?_ (KD br h (bj.val bg) (Nat.le_refl _)) (by omega);by_cases U:a.kind=2
  .rw[if_pos U];exact KD br h (bj.item U).2.2 (Nat.le_refl _)
  rw[if_neg U];by_cases aJ:a.kind=4
  .rw[if_pos aJ]
   have:=vM br (bj.chan (.inl aJ)).2
   exact fk.row (by omega) (by omega)
  .rw[if_neg aJ];exact fk.nil _
theorem ZP{m:Model}(br:eN m){q p:Nat}(h:fW m q p){a:Act}(bj:oN (inner (m.procs[p]'(h.aN)) (eR m)) a):fk 80 (lo m q a):=by
 have qI:=h.Fg br;unfold lo;by_cases h1:a.kind=1
 .rw[if_pos h1];obtain⟨_,v,aT,_⟩:=bj.set h1;have e8:a.to.toNat<m.vars.length:=(List.getElem?_eq_some_iff.1 aT).1
  have:=I1 br e8
  exact fk.row (by omega) (by omega)
 rw[if_neg h1];by_cases U:a.kind=2
 .rw[if_pos U];exact(VR br h.aD (bj.item U).2.1 _).mono (by omega)
 rw[if_neg U];by_cases ag:a.kind=3
 .rw[if_pos ag];have bg:a.to.toNat<(m.procs[p]'(h.aN)).vars.length:=(bj.loc ag).2;exact fk.row (by omega) (by omega)
 rw[if_neg ag];by_cases aJ:a.kind=4
 .rw[if_pos aJ];exact(J6 br (bj.chan (.inl aJ)).2).mono (by omega)
 rw[if_neg aJ];by_cases bg:a.kind=5
 .rw[if_pos bg];have bS:a.loc.toNat<(m.procs[p]'(h.aN)).vars.length:=(bj.recv bg).2;exact fk.app (J6 br (bj.chan (.inr bg)).2) (fk.row (k:=1) (by omega) (by omega)) (by omega)
 .rw[if_neg bg];exact fk.nil _
theorem adB{m:Model}(br:eN m){q p:Nat}(h:fW m q p){c:dI}(aw:tC (inner (m.procs[p]'(h.aN)) (eR m)) c):fk 1537 (CY m q c):=by
 have:=D4 br h.aD
 exact fk.app (fk.row (k:=1) (by omega) (by omega)) (KD br h aw.guard (Nat.le_refl _)) (by omega)
theorem NK{m:Model}(br:eN m){q p:Nat}(h:fW m q p){c:dI}(aw:tC (inner (m.procs[p]'(h.aN)) (eR m)) c):∀n,n<=c.b6.length->fk (1537+3072*n) (nq m q c n)
 | 0,_=>by
  unfold nq;simpa using adB br h aw
 | n+1,aE=>by
  rw[XA (by omega)];exact fk.app (NK br h aw n (by omega)) (ZO br h (aw.act n (by omega))) (by omega)
theorem Y8{m:Model}(br:eN m){q p:Nat}(h:fW m q p){c:dI}(aw:tC (inner (m.procs[p]'(h.aN)) (eR m)) c):∀n,n<=c.b6.length->fk (1+80*n) (kM m q c n)
 | 0,_=>by
  have:=D4 br h.aD
  unfold kM;simpa using fk.row (a:=dS m q) (n:=1) (k:=1) (by omega) (by omega)
 | n+1,aE=>by
  rw[Y7 (by omega)];exact fk.app (Y8 br h aw n (by omega)) (ZP br h (aw.act n (by omega))) (by omega)
theorem akL{a:Act}(h:a.index.length=1):rf a=decide ((a.index[0]'(by omega)).op=5):=by
 obtain⟨x,ar⟩:=List.length_eq_one_iff.1 h;unfold rf;simp[ar]
theorem akK{a:Act}(h:¬a.index.length=1):rf a=false:=by
 unfold rf;split
 .rename_i x ar;rw[ar] at h;exact absurd rfl h
 .rfl
theorem Xg(L:List Int)(a n:Nat):L++gk a (n+1)=L++gk a n++[((a+n:Nat):Int)]:=by rw[aka,List.append_assoc]
end o
namespace Go.Proofs.R
open Go Go.RowKit bt
structure og(w:World)(b:Nat)(m:o.Model)(q:Nat):Prop where
 ex:∃cs ys cx,w.heap[b]? = some (.cells (cs++ys++[cx,.int .i64 q]).toArray T.oZ)/\o.dY w cs m/\o.jr w ys (o.layout m)/\lV w cx (o.insts m)
theorem og.ext{w w':World}{b q:Nat}{m:o.Model}(he:Ext w w')(h:og w b m q):og w' b m q :=
 let ⟨xs,cs,cx,ak,h1,U,ag⟩:=h.ex; ⟨xs,cs,cx,he.obj ak,h1.ext he,U.ext he,ag.ext Flat.ext he⟩
theorem og.form{w:World}{b q:Nat}{m:o.Model}(h:og w b m q):∃cy bP b9 c1 ck c2 cn bQ cB bX gv d0 eD d1 fC d2 fU d3 gF d4 cS ci,
  w.heap[b]? = some (.cells #[.slice gv m.scalars.length d0,.slice eD m.vars.length d1,.slice fC m.aL.length d2,.slice fU m.procs.length d3,.slice gF m.props.length d4,
   .slice cy (o.layout m).vars.length bP,.slice b9 (o.layout m).aL.length c1,.slice ck (o.layout m).insts.length c2,.int .i64 (o.layout m).cells,.slice cn (o.layout m).bf.length bQ,.slice cB (o.layout m).ad.length bX,.slice cS (o.insts m).length ci,.int .i64 q] T.oZ) /\
  bE 1 (Flat ey) w (.slice cy (o.layout m).vars.length bP) (o.layout m).vars/\bE 1 (Flat ey) w (.slice b9 (o.layout m).aL.length c1) (o.layout m).aL/\bE 1 (Flat ey) w (.slice ck (o.layout m).insts.length c2) (o.layout m).insts /\
  o.hI w (.slice gv m.scalars.length d0) m.scalars/\o.hi w (.slice eD m.vars.length d1) m.vars/\o.mK w (.slice fC m.aL.length d2) m.aL/\o.pJ w (.slice fU m.procs.length d3) m.procs /\
  lV w (.slice cS (o.insts m).length ci) (o.insts m):=by
 obtain⟨cs,xs,cx,aC,br,dg,bB⟩:=h.ex;obtain⟨cy,bP,b9,c1,ck,c2,cn,bQ,cB,bX,rfl,gz,fi,fR,ix,k7⟩:=dg.form;obtain⟨gv,d0,eD,d1,fC,d2,fU,d3,gF,d4,rfl,ak,h1,U,ag,aJ,_⟩:=br.form;obtain⟨cS,ci,rfl,_⟩:=bB.form;exact⟨cy,bP,b9,c1,ck,c2,cn,bQ,cB,bX,gv,d0,eD,d1,fC,d2,fU,d3,gF,d4,cS,ci,aC,gz,fi,fR,ak,h1,U,ag,bB⟩
theorem sh(b:Nat)(L:List Int)(a n:Nat)(x y:Int)(w:World)(h:e5 w b L)(ar:x=a)(b2:y=n)(hm:a+n<=1000000000) :
  bu Tryz.prog F.c #[.map (some b),.int .i64 x,.int .i64 y] w fun _ w'=>e5 w' b (L++o.gk a n)/\Mod (fun i=>i=b) w w':=by
 subst ar b2;refine bL E.c ?_;refine bG ?_;refine af ?_;refine K.dk 8 n [0,1,7] (fun _:Unit=>[]) () (fun k _ W=>Mod (fun i=>i=b) w W/\e5 W b (L++o.gk a k)) bz bz ⟨Mod.refl _ _,by simpa[o.XT] using h⟩ ?_;rintro k _ S av hk ⟨uB,gg⟩;refine af ?_;apply K.cond<;>intro g1
 .refine af ?_;refine K.ahL gg fun z=>?_;refine af ?_;refine K.I9 ?_;refine af ?_;refine K.ah7 gg (by omega) fun aU s9 ez=>?_;refine af ?_;refine⟨by omega,bk,(),trivial,uB.trans (s9.mod rfl),?_⟩;rw[o.Xg];exact ez
 .have km:k=n:=by omega
  subst km;refine af ?_;exact⟨gg,uB⟩
theorem Dv(b q:Nat)(m:o.Model)(w:World)(h:og w b m q)(aD:q<(o.insts m).length) :
  bu Tryz.prog F.p #[.pointer (some ⟨b,0,none⟩)] w fun v w'=>v = .int .i64 (o.dS m q)/\Ext w w':=by
 obtain⟨cy,bP,b9,c1,ck,c2,cn,bQ,cB,bX,gv,d0,eD,d1,fC,d2,fU,d3,gF,d4,cS,ci,aC,gz,fi,fR,ak,h1,U,ag,bB⟩:=h.form;obtain⟨ad,he⟩:=o.yt aD;obtain⟨a2,rfl⟩:=fR.addr (by omega);refine bL E.p ?_;refine bG ?_;refine af ?_;intro av aB;refine af ?_;exact⟨by rw[he],aB⟩
theorem Ow(b cZ q i:Nat)(L:List Int)(m:o.Model)(w0 w:World)(h:og w0 b m q)(he:Ext w0 w)(lC:w0.heap.size<=cZ)(ay:e5 w cZ L)(br:o.eN m)(ad:i<m.aL.length) :
  bu Tryz.prog F.qy #[.pointer (some ⟨b,0,none⟩),.map (some cZ),.int .i64 i] w fun _ w'=>e5 w' cZ (L++o.tP m i)/\Mod (fun k=>k=cZ) w w':=by
 obtain⟨cy,bP,b9,c1,ck,c2,cn,bQ,cB,bX,gv,d0,eD,d1,fC,d2,fU,d3,gF,d4,cS,ci,aC,gz,fi,fR,ak,h1,U,ag,bB⟩:=(h.ext he).form;obtain⟨l4,fg⟩:=o.vL ad;have Aw:=o.vM br ad;have fX:=o.o2 ad;have ij:=(br.chan _ (List.getElem_mem ad)).cap;have hJ:=br.hJ;obtain⟨dJ,rfl⟩:=fi.addr (by omega);obtain⟨a2,rfl⟩:=U.addr (by omega);have ei:=(U.at i ad).cells;refine bL E.qy ?_;refine bG ?_;refine af ?_;intro av aB;refine af ?_;refine K.call (sh cZ L (o.df m i) (1+o.jw m i) _ _ av (ay.ext aB) (by rw[fg]) (by omega) (by omega)) ?_;rintro _ aU ⟨ez,fq⟩;refine af ?_;exact⟨ez,aB.mod.trans fq⟩
theorem FF(b cZ q i:Nat)(item own:Bool)(L:List Int)(m:o.Model)(w0 w:World)(h:og w0 b m q)(he:Ext w0 w)(lC:w0.heap.size<=cZ)(ay:e5 w cZ L)(br:o.eN m)(aD:q<(o.insts m).length)(ad:i<m.vars.length)
  (ba:item=true->own=true->1<=(o.insts m)[q].elem) :
  bu Tryz.prog F.j #[.pointer (some ⟨b,0,none⟩),.map (some cZ),.int .i64 i,.bool item,.bool own] w fun _ w'=>e5 w' cZ (L++o.pq m q i (item&&own))/\Mod (fun k=>k=cZ) w w':=by
 obtain⟨cy,bP,b9,c1,ck,c2,cn,bQ,cB,bX,gv,d0,eD,d1,fC,d2,fU,d3,gF,d4,cS,ci,aC,gz,fi,fR,ak,h1,U,ag,bB⟩:=(h.ext he).form;obtain⟨fB,lH⟩:=o.Bz ad;have Aw:=o.I1 br ad;have uA:=o.r4 ad;have uv:=(o.r2 _ (List.getElem_mem aD)).elem;have gL:=o.CE aD;have eZ:=o.tN m.vars[i] m.scalars;obtain⟨a0,rfl⟩:=gz.addr (by omega);obtain⟨dJ,rfl⟩:=h1.addr (by omega);obtain⟨lp,rfl⟩:=bB.addr (by omega);have ei:=(h1.at i ad).cells;cases item<;>cases own;rotate_left 3
 .have l7:=ba rfl rfl;refine bL E.j ?_;refine bG ?_;refine af ?_;intro av aB;refine af ?_;refine K.call (sh cZ L (o.gW m i+o.GR m q - 1) 1 _ _ av (ay.ext aB) (by rw[lH];omega) rfl (by omega)) ?_;rintro _ aU ⟨ez,fq⟩;refine af ?_;exact⟨ez,aB.mod.trans fq⟩
 all_goals
  clear ba;refine bL E.j ?_;refine bG ?_;refine af ?_;intro av aB;refine af ?_;refine K.call (GB m.vars[i] _ m.scalars av (ak.ext aB)) ?_;rintro _ aU ⟨rfl,aA⟩;refine af ?_;refine K.call (sh cZ L (o.gW m i) (o.oD m i) _ _ aU ((ay.ext aB).ext aA) (by rw[lH]) (by omega) (by omega)) ?_;rintro _ bb ⟨h4,im⟩;refine af ?_;exact⟨h4,(aB.mod.trans aA.mod).trans im⟩
end Go.Proofs.R
end
section
namespace o
open Go
theorem WR{m:Model}{q:Nat}{own:Bool}{x:Node}(h:x.op=2){v:Var}(aT:m.vars[x.n.toNat]? = some v)(ak:v.over=0):pq m q x.n.toNat false=gj m q own x:=by
 obtain⟨h1,U⟩:=List.getElem?_eq_some_iff.1 aT;unfold gj pq;rw[if_pos h,if_neg (by simp),r4 h1,U]
 have:cells v m.scalars=1:=by unfold cells;rw[if_pos ak]
 rw[this];rfl
end o
namespace Go.Proofs.R
open Go Go.RowKit bt
structure vr(w:World)(bW jv b cZ:Nat):Prop where
 x:w.heap[bW]? = some (.cells #[.pointer (some ⟨b,0,none⟩)] T.a0)
 z:w.heap[jv]? = some (.cells #[.map (some cZ)] T.x)
theorem vr.mod{w w':World}{bW jv b cZ:Nat}{L:List Int}(h:vr w bW jv b cZ)(ay:e5 w cZ L)(hm:Mod (fun k=>k=cZ) w w'):vr w' bW jv b cZ:=by
 obtain⟨es,c,aw,_⟩:=ay.ex;have aE:∀{k:Nat} {cs t},w.heap[k]? = some (.cells cs t)->¬k=cZ:=fun hk e=>by subst e;rw[hk] at aw;cases aw
 exact⟨hm.obj (aE h.x) h.x,hm.obj (aE h.z) h.z⟩
theorem vr.ext{w w':World}{bW jv b cZ:Nat}(h:vr w bW jv b cZ)(he:Ext w w'):vr w' bW jv b cZ:=⟨he.obj h.x,he.obj h.z⟩
theorem acN(x:o.Node)(own:Bool)(b cZ bW jv q p:Nat)(L:List Int)(m:o.Model)(w0 w:World)(h:og w0 b m q)(he:Ext w0 w)(lC:w0.heap.size<=cZ)(ay:e5 w cZ L)(ji:vr w bW jv b cZ)(br:o.eN m)(bB:o.fW m q p)
  (ar:o.zj (o.inner (m.procs[p]'(bB.aN)) (o.eR m)) x)(dq:x.ok)(ba:own=true->1<=((o.insts m)[q]'(bB.aD)).elem) :
  bu Tryz.prog F.jv #[.agg x.enc.toArray,.bool own,.pointer (some ⟨bW,0,none⟩),.pointer (some ⟨jv,0,none⟩)] w fun _ w'=>e5 w' cZ (L++o.gj m q own x)/\Mod (fun k=>k=cZ) w w':=by
 have aD:=bB.aD;have qI:=bB.Fg br;have MA:=dq.op;have Mz:=dq.n;unfold o.eG at MA Mz;have nc:=ji.x;have uk:=ji.z;obtain⟨cy,bP,b9,c1,ck,c2,cn,bQ,cB,bX,gv,d0,eD,d1,fC,d2,fU,d3,gF,d4,cS,ci,sQ,gz,fi,fR,_,_,_,_,KU⟩:=h.form;refine bL E.jv ?_;refine bG ?_;refine af ?_;intro av cN fN aB bw;replace nc:=aB.obj nc;replace uk:=aB.obj uk;have gg:=ay.ext aB;have iP:=he.trans aB;obtain⟨es,ce,fg,_⟩:=gg.ex;have sc:¬cN=cZ:=fun e=>by subst e;rw[bw] at fg;cases fg
 have Bb:¬bW=cZ:=fun e=>by subst e;rw[nc] at fg;cases fg
 have air:¬jv=cZ:=fun e=>by subst e;rw[uk] at fg;cases fg
 clear fg;unfold o.Node.enc at bw;refine af ?_;apply K.cond<;>intro g2
 .obtain⟨gC,v,aT,iI⟩:=ar.var g2;have e8:x.n.toNat<m.vars.length:=(List.getElem?_eq_some_iff.1 aT).1;have iS:x.n=(x.n.toNat:Nat):=by omega
  refine af ?_;rw[iS];refine K.call (FF b cZ q x.n.toNat false false L m w0 av h iP lC gg br aD e8 (fun a=>by cases a)) ?_;rintro _ aU ⟨ez,fq⟩;rw[Bool.false_and,o.WR g2 aT iI (own:=own)] at ez;refine af ?_;exact⟨ez,aB.mod.trans fq⟩
 refine af ?_;apply K.cond<;>intro g3
 .obtain⟨gC,e8⟩:=ar.item g3;have iS:x.n=(x.n.toNat:Nat):=by omega
  refine af ?_;rw[iS];refine K.call (FF b cZ q x.n.toNat true own L m w0 av h iP lC gg br aD e8 (fun _ a=>ba a)) ?_;rintro _ aU ⟨ez,fq⟩;have bJ:o.gj m q own x=o.pq m q x.n.toNat (true&&own):=by unfold o.gj;rw[if_neg g2,if_pos g3,Bool.true_and]
  rw[<-bJ] at ez;refine af ?_;exact⟨ez,aB.mod.trans fq⟩
 refine af ?_;apply K.cond<;>intro g4
 .obtain⟨gC,e8⟩:=ar.loc g4;have fA:x.n.toNat<(m.procs[p]'(bB.aN)).vars.length:=e8;have bZ:o.gj m q own x=o.gk (o.dS m q+1+x.n.toNat) 1:=by unfold o.gj;rw[if_neg g2,if_neg g3,if_pos g4]
  rw[bZ];refine af ?_;intro aU aA;refine af ?_;refine K.call (Dv b q m aU (h.ext (iP.trans aA)) aD) ?_;rintro _ bb ⟨rfl,ax⟩;refine⟨ax,?_⟩;refine af ?_;refine K.call (sh cZ L (o.dS m q+1+x.n.toNat) 1 _ _ bb ((gg.ext aA).ext ax) (by omega) rfl (by omega)) ?_;rintro _ bq ⟨k2,kn⟩;refine af ?_;exact⟨k2,((aB.mod.trans aA.mod).trans ax.mod).trans kn⟩
 refine af ?_;apply K.cond<;>intro g6
 .obtain⟨gC,e8⟩:=ar.len g6;have fA:x.n.toNat<m.aL.length:=e8;have Dq:=o.vM br fA;have iS:x.n=(x.n.toNat:Nat):=by omega
  have cM:o.gj m q own x=o.gk (o.df m x.n.toNat) 1:=by unfold o.gj;rw[if_neg g2,if_neg g3,if_neg g4,if_pos g6]
  rw[cM];obtain⟨l4,fg⟩:=o.vL fA;obtain⟨dJ,rfl⟩:=fi.addr (by omega);have aC:=iP.obj sQ;have NC:=fi.ext Flat.ext iP;rw[iS] at bw;refine af ?_;intro aU aA;refine af ?_;refine K.call (sh cZ L (o.df m x.n.toNat) 1 _ _ aU (gg.ext aA) (by rw[fg]) rfl (by omega)) ?_;rintro _ bq ⟨k2,kn⟩;refine af ?_;exact⟨k2,(aB.mod.trans aA.mod).trans kn⟩
 refine af ?_;apply K.cond<;>intro g7;rotate_left
 .have eg:o.gj m q own x=[]:=by unfold o.gj;rw[if_neg g2,if_neg g3,if_neg g4,if_neg g6,if_neg g7]
  rw[eg,List.append_nil];refine af ?_;exact⟨gg,aB.mod⟩
 have dz:o.gj m q own x=o.oj m (x.n.tdiv 16) (o.insts m).length:=by unfold o.gj;rw[if_neg g2,if_neg g3,if_neg g4,if_neg g6,if_pos g7]
 rw[dz];obtain⟨f6,f7,f8⟩:=o.Ii m;obtain⟨gC,L6⟩:=ar.at_ g7;have afN:(x.n.tdiv 16).toNat<m.procs.length:=L6;have afZ:=Int.tdiv_nonneg gC (show(0:Int)<=16 by omega);have afR:=br.procs;have afX : -9223372036854775808<=x.n.tdiv 16/\x.n.tdiv 16<=9223372036854775807:=by omega
 have qJ:∀{W},Mod (fun k=>k=cZ) av W->Ext w0 W:=fun hm=>hm.ext iP fun k hk e=>by omega
 have hJ:=o.H4 br;have cR:=iP.obj sQ;clear gz fi;refine af ?_;refine K.dk 55 (o.insts m).length [2,3,4,53,54] (fun _:Unit=>[]) () (fun k _ W=>Mod (fun i=>i=cZ) av W/\e5 W cZ (L++o.oj m (x.n.tdiv 16) k)) bz bz ⟨Mod.refl _ _,by simpa[o.oj] using gg⟩ ?_;have Lx:=uk;have jz:=nc;have gx:=bw;clear nc uk bw cR;rintro k _ S aU hk ⟨fq,ez⟩;have nc:=fq.obj Bb jz;have uk:=fq.obj air Lx;have bw:=fq.obj sc gx;have aC:=(qJ fq).obj sQ;have adO:=KU.ext Flat.ext (qJ fq);refine af ?_;apply K.cond<;>intro g1
 .have du:k<(o.insts m).length:=by omega
  obtain⟨lp,rfl⟩:=KU.addr (by omega);obtain⟨LO,rT⟩:=o.yt du;have LQ:=o.D4 br du;obtain⟨a2,rfl⟩:=fR.addr (by omega);have Xp:=fR.ext Flat.ext (qJ fq);refine af ?_;intro wn l1 jX gL fX;refine af ?_;intro bb fT cU;have ax:Ext aU bb:=fT.ext gL jX;replace nc:=ax.obj nc;replace uk:=ax.obj uk;replace bw:=ax.obj bw;replace aC:=ax.obj aC;replace Xp:=Xp.ext Flat.ext ax;have h4:=ez.ext ax;have im:=fq.trans ax.mod;clear ez adO;refine af ?_;refine K.quo (by omega) ?_;refine af ?_;apply K.cond<;>intro g2
  .refine af ?_;intro bq aM;refine af ?_;refine K.call (sh cZ _ (o.dS m k) 1 _ _ bq (h4.ext aM) (by rw[rT]) rfl (by omega)) ?_;rintro _ bT ⟨uG,lD⟩;refine af ?_;refine⟨du,bk,(),trivial,(im.trans aM.mod).trans lD,?_⟩;rw[o.Ca du,if_pos g2,<-List.append_assoc];exact uG
  .refine af ?_;refine⟨du,bk,(),trivial,im,?_⟩;rw[o.Ca du,if_neg g2,List.append_nil];exact h4
 .have km:(o.insts m).length=k:=by omega
  rw[km];refine af ?_;exact⟨ez,aB.mod.trans fq⟩
theorem ab8(e:List o.Node)(v:Value)(b cZ bW jv q p:Nat)(L:List Int)(m:o.Model)(w0 w:World)(h:og w0 b m q)(he:Ext w0 w)(lC:w0.heap.size<=cZ)(ay:e5 w cZ L)(ji:vr w bW jv b cZ)(br:o.eN m)(bB:o.fW m q p)
  (aE:o.gd w0 v e)(ar:o.rr (o.inner (m.procs[p]'(bB.aN)) (o.eR m)) e) :
  bu Tryz.prog F.d4 #[v,.func (.func F.jv) #[] #[.pointer (some ⟨bW,0,none⟩),.pointer (some ⟨jv,0,none⟩)]] w fun _ w'=>e5 w' cZ (L++o.o8 m q e e.length)/\Mod (fun k=>k=cZ) w w':=by
 obtain⟨bm,gf,rfl,aS⟩:=aE.form;have qJ:∀{W},Mod (fun k=>k=cZ) w W->Ext w0 W:=fun hm=>hm.ext he fun k hk e=>by omega
 have hle:=ar.len;refine bL E.d4 ?_;refine bG ?_;refine af ?_;refine K.dk 9 e.length [1,7,8] (fun al:Bool=>[(4,.bool al)]) false (fun k al W=>al=o.wV e k/\Mod (fun i=>i=cZ) w W/\e5 W cZ (L++o.o8 m q e k)) bz bz ⟨rfl,Mod.refl _ _,by simpa[o.o8] using ay⟩ ?_;rintro k al S av hk ⟨rfl,uB,gg⟩;have pk:=aE.ext (qJ uB);have TB:=ji.mod ay uB;refine af ?_;apply K.cond<;>intro g1
 .have du:k<e.length:=by omega
  obtain⟨a,rfl⟩:=aE.addr (by omega);have gZ:=(aE.at k du).ok;have td:=ar.node k du;refine af ?_;intro aU fl gq aA ct;have ez:=gg.ext aA;have fq:=uB.trans aA.mod;have adL:=TB.ext aA;have n6:¬fl=cZ:=fun e=>by subst e;obtain⟨_,_,fg,_⟩:=ez.ex;rw[ct] at fg;cases fg
  clear pk gg TB;refine af ?_;refine K.mX (first:=[]) (cap:=[.pointer (some ⟨bW,0,none⟩),.pointer (some ⟨jv,0,none⟩)]) (by kernel_rfl) (acN e[k] (o.wV e k) b cZ bW jv q p _ m w0 aU h (qJ fq) lC ez adL br bB td.1 gZ ?_) ?_
  .intro gr;cases k with
   | zero=>cases gr
   | succ j =>
    rw[o.Ng (by omega)] at gr;have bg:=(ar.node j (by omega)).1.self (by simpa using gr);exact bB.elem (by have:(o.inner (m.procs[p]'(bB.aN)) (o.eR m)).self=(m.procs[p]'(bB.aN)).over:=rfl;omega)
  rintro _ bb ⟨h4,im⟩;have aeA:=im.obj n6 ct;clear ct;refine af ?_;refine⟨du,bk,_,⟨rfl,trivial⟩,?_,fq.trans im,?_⟩
  .rw[o.Ng du]
  .rw[o.S7 du,<-List.append_assoc];exact h4
 .have km:e.length=k:=by omega
  rw[km];refine af ?_;exact⟨gg,uB⟩
theorem CQ(e:List o.Node)(v:Value)(b cZ q p:Nat)(L:List Int)(m:o.Model)(w0 w:World)(h:og w0 b m q)(he:Ext w0 w)(lC:w0.heap.size<=cZ)(ay:e5 w cZ L)(br:o.eN m)(bB:o.fW m q p)
  (aE:o.gd w0 v e)(ar:o.rr (o.inner (m.procs[p]'(bB.aN)) (o.eR m)) e) :
  bu Tryz.prog F.am #[.pointer (some ⟨b,0,none⟩),.map (some cZ),v] w fun _ w'=>e5 w' cZ (L++o.o8 m q e e.length)/\Mod (fun k=>k=cZ) w w':=by
 refine bL E.am ?_;refine bG ?_;refine af ?_;intro av bW nc aB jz;refine af ?_;intro aU jv uk aA Lx;refine af ?_;refine K.call (ab8 e v b cZ bW jv q p L m w0 aU h ((he.trans aB).trans aA) lC ((ay.ext aB).ext aA) ⟨aA.obj jz,Lx⟩ br bB aE ar) ?_;rintro _ bb ⟨h4,im⟩;refine af ?_;exact⟨h4,(aB.mod.trans aA.mod).trans im⟩
theorem ajF(a:o.Act)(cx cE:Value)(b cZ q p:Nat)(L:List Int)(m:o.Model)(w0 w:World)(h:og w0 b m q)(he:Ext w0 w)(lC:w0.heap.size<=cZ)(ay:e5 w cZ L)(br:o.eN m)(bB:o.fW m q p)
  (ad:o.gd w0 cx a.index)(aT:o.gd w0 cE a.value)(bj:o.oN (o.inner (m.procs[p]'(bB.aN)) (o.eR m)) a) :
  bu Tryz.prog F.dl #[.pointer (some ⟨b,0,none⟩),.map (some cZ),.agg (a.enc cx cE).toArray] w fun _ w'=>e5 w' cZ (L++o.pO m q a)/\Mod (fun k=>k=cZ) w w':=by
 obtain⟨cy,bP,b9,c1,ck,c2,cn,bQ,cB,bX,gv,d0,eD,d1,fC,d2,fU,d3,gF,d4,cS,ci,sQ,gz,fi,fR,_,_,_,_,KU⟩:=h.form;have yj:=bj.kind;refine bL E.dl ?_;refine bG ?_;refine af ?_;intro av dO kX aB cC;have gg:=ay.ext aB;have iP:=he.trans aB;have aC:=iP.obj sQ;obtain⟨es,ce,fg,_⟩:=gg.ex;have n5:¬dO=cZ:=fun e=>by subst e;rw[cC] at fg;cases fg
 clear fg;unfold o.Act.enc at cC;refine af ?_;apply K.cond<;>intro g2
 .refine af ?_;refine K.call (CQ a.index cx b cZ q p L m w0 av h iP lC gg br bB ad (bj.item g2).2.2) ?_;rintro _ aU ⟨ez,fq⟩;have Ae:=fq.obj n5 cC;clear cC aC;refine af ?_;refine K.call (CQ a.value cE b cZ q p _ m w0 aU h (fq.ext iP fun k hk e=>by omega) lC ez br bB aT (bj.val (by omega))) ?_;rintro _ bb ⟨h4,im⟩;refine af ?_;refine⟨?_,(aB.mod.trans fq).trans im⟩;unfold o.pO;rw[if_neg (by omega),if_pos g2,<-List.append_assoc];exact h4
 refine af ?_;apply K.cond<;>intro g4
 .obtain⟨gC,e8⟩:=bj.chan (.inl g4);have fA:a.to.toNat<m.aL.length:=e8;have Dq:=o.vM br fA;have iS:a.to=(a.to.toNat:Nat):=by omega
  obtain⟨l4,fg⟩:=o.vL fA;obtain⟨dJ,rfl⟩:=fi.addr (by omega);have NC:=fi.ext Flat.ext iP;rw[iS] at cC;refine af ?_;intro aU aA;have Ae:=aA.obj cC;refine af ?_;refine K.call (sh cZ L (o.df m a.to.toNat) 1 _ _ aU (gg.ext aA) (by rw[fg]) rfl (by omega)) ?_;rintro _ bb ⟨h4,im⟩;have anN:=im.obj n5 Ae;clear cC Ae aC;refine af ?_;refine K.call (CQ a.value cE b cZ q p _ m w0 bb h (im.ext (iP.trans aA) fun k hk e=>by omega) lC h4 br bB aT (bj.val (by omega))) ?_;rintro _ bq ⟨k2,kn⟩;refine af ?_;refine⟨?_,((aB.mod.trans aA.mod).trans im).trans kn⟩;unfold o.pO;rw[if_neg (by omega),if_neg g2,if_pos g4,<-List.append_assoc];exact k2
 refine af ?_;apply K.cond<;>intro g5
 .obtain⟨gC,e8⟩:=bj.chan (.inr g5);have fA:a.to.toNat<m.aL.length:=e8;have iS:a.to=(a.to.toNat:Nat):=by omega
  rw[iS] at cC;refine af ?_;refine K.call (Ow b cZ q a.to.toNat L m w0 av h iP lC gg br fA) ?_;rintro _ aU ⟨ez,fq⟩;refine af ?_;refine⟨?_,aB.mod.trans fq⟩;unfold o.pO;rw[if_pos g5];exact ez
 .refine af ?_;refine K.call (CQ a.value cE b cZ q p _ m w0 av h iP lC gg br bB aT (bj.val g5)) ?_;rintro _ aU ⟨ez,fq⟩;refine af ?_;refine⟨?_,aB.mod.trans fq⟩;unfold o.pO;rw[if_neg g5,if_neg g2,if_neg g4,List.nil_append];exact ez
theorem amk(a:o.Act)(cx cE:Value)(b cZ q p:Nat)(L:List Int)(m:o.Model)(w0 w:World)(h:og w0 b m q)(he:Ext w0 w)(lC:w0.heap.size<=cZ)(ay:e5 w cZ L)(br:o.eN m)(bB:o.fW m q p)
  (ad:o.gd w0 cx a.index)(bj:o.oN (o.inner (m.procs[p]'(bB.aN)) (o.eR m)) a) :
  bu Tryz.prog F.Cq #[.pointer (some ⟨b,0,none⟩),.map (some cZ),.agg (a.enc cx cE).toArray] w fun _ w'=>e5 w' cZ (L++o.lo m q a)/\Mod (fun k=>k=cZ) w w':=by
 have yj:=bj.kind;have aD:=bB.aD;have qI:=bB.Fg br;refine bL E.Cq ?_;refine bG ?_;refine af ?_;intro av dO kX aB cC;have gg:=ay.ext aB;have iP:=he.trans aB;obtain⟨es,ce,fg,_⟩:=gg.ex;have n5:¬dO=cZ:=fun e=>by subst e;rw[cC] at fg;cases fg
 clear fg;obtain⟨cS,ci,rfl,ao1⟩:=ad.form;unfold o.Act.enc at cC;refine af ?_;apply K.cond<;>intro g1
 .obtain⟨gC,v,aT,iI⟩:=bj.set g1;have e8:a.to.toNat<m.vars.length:=(List.getElem?_eq_some_iff.1 aT).1;have iS:a.to=(a.to.toNat:Nat):=by omega
  rw[iS] at cC;refine af ?_;refine K.call (FF b cZ q a.to.toNat false false L m w0 av h iP lC gg br aD e8 (fun a=>by cases a)) ?_;rintro _ aU ⟨ez,fq⟩;refine af ?_;refine⟨?_,aB.mod.trans fq⟩;unfold o.lo;rw[if_pos g1];have e:=o.WR (m:=m) (q:=q) (own:=false) (x:=⟨2,a.to⟩) rfl aT iI;unfold o.gj at e;rw[if_pos rfl] at e;rw[Bool.false_and,e] at ez;exact ez
 refine af ?_;apply K.cond<;>intro g2
 .obtain⟨gC,e8,UI⟩:=bj.item g2;have fA:a.to.toNat<m.vars.length:=e8;have iS:a.to=(a.to.toNat:Nat):=by omega
  rw[iS] at cC;have Ku:o.lo m q a=o.pq m q a.to.toNat (o.rf a):=by unfold o.lo;rw[if_neg g1,if_pos g2]
  rw[Ku];have HF:=ad.ext iP;refine af ?_;intro aU aA;replace cC:=aA.obj cC;replace HF:=HF.ext aA;refine af ?_;apply K.cond<;>intro g3
  .obtain⟨lp,rfl⟩:=ad.addr (by omega);have td:=(UI.node 0 (by omega)).1;have rY:=o.akL (a:=a) (by omega);refine af ?_;refine K.dD 0 rfl (by omega) ?_;refine af ?_;refine K.call (FF b cZ q a.to.toNat true (decide ((a.index[0]'(by omega)).op=5)) L m w0 aU h (iP.trans aA) lC (gg.ext aA) br aD fA (fun _ bg=>?_)) ?_
   .have bg:=td.self (by simpa using bg);exact bB.elem (by have:(o.inner (m.procs[p]'(bB.aN)) (o.eR m)).self=(m.procs[p]'(bB.aN)).over:=rfl;omega)
   rintro _ bb ⟨h4,im⟩;rw[Bool.true_and,<-rY] at h4;refine af ?_;exact⟨h4,(aB.mod.trans aA.mod).trans im⟩
  .have rY:=o.akK (a:=a) (by omega);refine af ?_;refine K.call (FF b cZ q a.to.toNat true false L m w0 aU h (iP.trans aA) lC (gg.ext aA) br aD fA (fun _ bg=>by cases bg)) ?_;rintro _ bb ⟨h4,im⟩;rw[Bool.and_false,<-rY] at h4;refine af ?_;exact⟨h4,(aB.mod.trans aA.mod).trans im⟩
 refine af ?_;apply K.cond<;>intro g3
 .obtain⟨gC,e8⟩:=bj.loc g3;have fA:a.to.toNat<(m.procs[p]'(bB.aN)).vars.length:=e8;have Ku:o.lo m q a=o.gk (o.dS m q+1+a.to.toNat) 1:=by unfold o.lo;rw[if_neg g1,if_neg g2,if_pos g3]
  rw[Ku];refine af ?_;intro aU aA;refine af ?_;refine K.call (Dv b q m aU (h.ext (iP.trans aA)) aD) ?_;rintro _ bb ⟨rfl,ax⟩;refine⟨ax,?_⟩;refine af ?_;refine K.call (sh cZ L (o.dS m q+1+a.to.toNat) 1 _ _ bb ((gg.ext aA).ext ax) (by omega) rfl (by omega)) ?_;rintro _ bq ⟨k2,kn⟩;refine af ?_;exact⟨k2,((aB.mod.trans aA.mod).trans ax.mod).trans kn⟩
 refine af ?_;apply K.cond<;>intro g4
 .obtain⟨gC,e8⟩:=bj.chan (.inl g4);have fA:a.to.toNat<m.aL.length:=e8;have iS:a.to=(a.to.toNat:Nat):=by omega
  rw[iS] at cC;refine af ?_;refine K.call (Ow b cZ q a.to.toNat L m w0 av h iP lC gg br fA) ?_;rintro _ aU ⟨ez,fq⟩;refine af ?_;refine⟨?_,aB.mod.trans fq⟩;unfold o.lo;rw[if_neg g1,if_neg g2,if_neg g3,if_pos g4];exact ez
 have g5:a.kind=5:=by omega
 .obtain⟨gC,e8⟩:=bj.chan (.inr g5);obtain⟨cX,il⟩:=bj.recv g5;have rX:a.loc.toNat<(m.procs[p]'(bB.aN)).vars.length:=il;have fA:a.to.toNat<m.aL.length:=e8;have iS:a.to=(a.to.toNat:Nat):=by omega
  rw[iS] at cC;refine af ?_;refine K.call (Ow b cZ q a.to.toNat L m w0 av h iP lC gg br fA) ?_;rintro _ aU ⟨ez,fq⟩;have anM:=fq.obj n5 cC;have c6:=fq.ext iP fun k hk e=>by omega
  clear cC;refine af ?_;intro bb ax;refine af ?_;refine K.call (Dv b q m bb (h.ext (c6.trans ax)) aD) ?_;rintro _ bq ⟨rfl,aM⟩;refine⟨aM,?_⟩;refine af ?_;refine K.call (sh cZ _ (o.dS m q+1+a.loc.toNat) 1 _ _ bq ((ez.ext ax).ext aM) (by omega) rfl (by omega)) ?_;rintro _ bT ⟨uG,lD⟩;refine af ?_;refine⟨?_,(((aB.mod.trans fq).trans ax.mod).trans aM.mod).trans lD⟩;unfold o.lo;rw[if_neg g1,if_neg g2,if_neg g3,if_neg g4,if_pos g5,<-List.append_assoc];exact uG
end Go.Proofs.R
end
section
namespace o
open Go
structure fD(m:Model)(ref:Int)(q p k:Nat):Prop where
 ok:(check m).c3=0
 bf:0<=ref
 ad:ref.toNat<(refs m).length
 at_:Q0 m ((refs m)[ref.toNat]) q p k
def Told(m:Model)(ref:Int):Prop:=(check m).c3=0/\0<=ref/\ref<(refs m).length
theorem sD{m:Model}{ref:Int}(h:Told m ref):∃q p k,fD m ref q p k:=by
 obtain⟨h1,U,ag⟩:=h;obtain⟨q,p,k,aJ⟩:=ajX (List.getElem_mem (show ref.toNat<(refs m).length by omega));exact⟨q,p,k,h1,U,by omega,aJ⟩
theorem fD.told{m:Model}{ref:Int}{q p k:Nat}(h:fD m ref q p k):Told m ref:=⟨h.ok,h.bf,by have:=h.ad;have:=h.bf;omega⟩
theorem fD.inst{m:Model}{ref:Int}{q p k:Nat}(h:fD m ref q p k):fW m q p:=by
 obtain⟨fZ,aN⟩:=H3 h.at_.ad;have e:fZ=p:=by
  have h1:=aN.eq;rw[h.at_.ip] at h1;omega
 subst e;exact aN
theorem fD.one{m:Model}{ref:Int}{q p k ga fZ k':Nat}(h:fD m ref q p k)(bF:fD m ref ga fZ k'):q=ga/\p=fZ/\k=k':=by
 have bR:q=ga:=by have a:=h.at_.wY;have b:=bF.at_.wY;omega
 subst bR;have a:=h.at_.ip;have b:=bF.at_.ip;have c:=h.at_.yT;have d:=bF.at_.yT;exact⟨rfl,by omega,by omega⟩
def cD(m:Model)(p k:Nat):dI:=((m.procs[p]?.map (·.cH[k]?)).join).getD ⟨⟨#[]⟩,0,0,[],[],false⟩
theorem zP{m:Model}{p k:Nat}(aN:p<m.procs.length)(hk:k<m.procs[p].cH.length):cD m p k=m.procs[p].cH[k]:=by
 unfold cD;rw[List.getElem?_eq_getElem aN];simp[hk]
theorem fD.cin{m:Model}{ref:Int}{q p k:Nat}(h:fD m ref q p k):tC (inner (m.procs[p]'(h.at_.aN)) (eR m)) (cD m p k):=by
 rw[zP h.at_.aN h.at_.hk];exact abA h.ok h.at_.aN h.at_.hk
structure iQ(m:Model)(ref:Int)(a b:List Int):Prop where
 there:∀q p k,fD m ref q p k->pM (nq m q (cD m p k) (cD m p k).b6.length) a/\pM (kM m q (cD m p k) (cD m p k).b6.length) b
 none:¬Told m ref->a=[]/\b=[]
theorem iQ.eq{m:Model}{ref:Int}{a b c5 gm:List Int}(h:iQ m ref a b)(bF:iQ m ref c5 gm):a=c5/\b=gm:=by
 by_cases aO:Told m ref
 .obtain⟨q,p,k,aw⟩:=sD aO;obtain⟨h1,U⟩:=h.there q p k aw;obtain⟨ag,aJ⟩:=bF.there q p k aw;exact⟨h1.eq ag fun _=>Iff.rfl,U.eq aJ fun _=>Iff.rfl⟩
 .obtain⟨rfl,rfl⟩:=h.none aO;obtain⟨rfl,rfl⟩:=bF.none aO;exact⟨rfl,rfl⟩
theorem iQ.of{m:Model}{ref:Int}{q p k:Nat}{a b:List Int}(aw:fD m ref q p k)(h1:pM (nq m q (cD m p k) (cD m p k).b6.length) a)(U:pM (kM m q (cD m p k) (cD m p k).b6.length) b):iQ m ref a b :=
 ⟨fun ga fZ k' h=>by obtain⟨rfl,rfl,rfl⟩:=aw.one h;exact⟨h1,U⟩,fun aE=>absurd aw.told aE⟩
theorem iQ.nil{m:Model}{ref:Int}(h:¬Told m ref):iQ m ref [] []:=⟨fun _ _ _ aw=>absurd aw.told h,fun _=>⟨rfl,rfl⟩⟩
structure amx(m:Model)(ref:Int)(a:List Int):Prop where
 there:∀q p k,fD m ref q p k->pM (CY m q (cD m p k)) a
 none:¬Told m ref->a=[]
theorem eN.lim{m:Model}(h:eN m):vz m:=⟨by have:=h.procs;omega,fun p aN=>by have:=(h.proc p aN).hJ;omega⟩
end o
namespace bt
open Go
def Sa:List Value:=[.string ⟨#[]⟩,.int .i64 0,.int .i64 0,.slice none 0 0,.slice none 0 0,.bool false]
end bt
end