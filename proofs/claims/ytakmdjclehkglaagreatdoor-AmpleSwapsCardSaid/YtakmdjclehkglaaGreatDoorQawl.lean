/- Parts. -/
import Derived.Test.YtakmdjclehkglaaGreatDoorQawk
import Derived.Lib.SlKeysI
import Derived.Maps.OwnSet
set_option linter.all false
set_option maxRecDepth 8000
set_option maxHeartbeats 16000000
section
namespace a7
open Go Go.RowKit
theorem _p{P:D_}{cK:B_->A_->Prop}{α:Type}{enc:α->C_ B_}{e:F_}{sz base n:Nat}{w:A_}{vs:Nat->H_ Addr×Nat×Nat}{xs:Nat->C_ α}{ty:F_}{b:Nat}{a:Addr}{c:Nat}{y:α}{t}(i:Nat)(U:i<n)(h:iA enc e sz base w n vs xs)(dd:∀x,(enc x).length=sz)(ai:e7 w a (enc y))(h1:∀y,∀u∈enc y,u.oneCell'=true)
  (an:((xs i).length+1)*b<=140737488355328)(k3:(xs i).length+1<=maxLen)(kp:base<=w.heap.size)
  (hk:∀bS w',iA enc e sz base w' n (dK vs i bS) (dK xs i (xs i++[y]))->w.grownBy w' (cj (vs i)).ownBlock->cK (cj bS) w'):mB P ty e sz b (cj (vs i)) (.slice (some a) 1 c) w cK t:=by
 unfold mB;exact iA.app i U h dd ai h1 an k3 kp fun bS w' a b _=>hk bS w' a b
end a7
namespace o
theorem OI{s:Int}{l:C_ Cell}{k:Nat}(h:k<l.length):iV s (l.take (k+1)) 0=iV s (l.take k) 0++(if l[k].place=0/\l[k].sort=s then [(k:Int)] else []):=by
 rw[L1 h,D4];simp only[iV,List.append_nil,List.length_take,Nat.zero_add];rw[show min k l.length=k from Aw]
theorem XV(s:Int):∀(l:C_ Cell) (i:Nat),(iV s l i).length<=l.length
 | [],_=>by simp[iV]
 | x :: r,i=>by
  have:=XV s r (i+1)
  simp only[iV,List.length_append,List.length_cons];split<;>simp<;>omega
def fh(l:C_ Cell)(k:Nat):Nat->C_ Int:=fun i=>if i=0 then iV 1 (l.take k) 0 else if i=1 then iV 2 (l.take k) 0 else if i=2 then iV 3 (l.take k) 0 else if i=3 then (l.take k).map (·.aQ) else (l.take k).map (·.U)
end o
namespace Go.Proofs.R
open Go Go.RowKit a7
def CI:C_ F_:=[T.a,T.h]
def mi(vs:Nat->gr)(n:Int):Array B_:=#[cj (vs 0),cj (vs 1),cj (vs 2),.int .i64 n,cj (vs 3),cj (vs 4)]
structure pf(w1:World)(b:Nat)(xs:Nat->List Int)(n:Int)(W:World):Prop where
 mod:Mod (fun k=>k=b) w1 W
 ex:∃vs:Nat->gr,W.heap[b]? = some (.cells (mi vs n) T.h)/\iA cE T.a 1 w1.heap.size W 5 vs xs
theorem pf.congr{w1:A_}{b:Nat}{xs GA:Nat->C_ Int}{n:Int}{W:A_}(h:pf w1 b xs n W)(af:∀i,i<5->xs i=GA i):pf w1 b GA n W :=
 let ⟨vs,g1,g2⟩:=h.ex; ⟨h.mod,vs,g1,g2.congr (fun _ _=>rfl) af⟩
theorem FH{w1:A_}{b:Nat}{xs:Nat->C_ Int}{n y:Int}{W p6 lo rU:A_}{vs:Nat->gr}{bS:gr}{i:Nat}(U:i<5)(hm:Mod (fun k=>k=b) w1 W)(g1:W.heap[b]? = some (.cells (mi vs n) T.h))(g2:iA cE T.a 1 w1.heap.size W 5 vs xs)
  (he:Ext W p6)(aH:p6.grownBy lo (cj (vs i)).ownBlock)(aJ:iA cE T.a 1 w1.heap.size lo 5 (dK vs i bS) (dK xs i (xs i++[y])))(hw:di b lo rU)(ai:rU.heap[b]? = some (.cells (mi (dK vs i bS) n) T.h)) :
  pf w1 b (dK xs i (xs i++[y])) n rU/\eC CI W rU:=by
 have yz:Mod (fun k=>(cj (vs i)).ownBlock=some k) p6 lo:=Mod.grown aH fun k hk=>hk;have g5:=he.obj g1;have g6:lo.heap[b]? = some (.cells (mi vs n) T.h):=yz.obj ((g2.ext he).not g5 BJ i U) g5;refine⟨⟨?_,_,ai,aJ.mod (hw.mod (A:=fun k=>k=b) rfl) fun j k aC hk e=>?_⟩,?_⟩
 .have h1:Mod (fun k=>k=b) w1 p6:=hm.comp (A':=fun _=>False) he.mod (fun _ _ a=>a) fun _ _ a=>a.elim;have I:Mod (fun k=>k=b) w1 lo:=h1.comp yz (fun _ _ a=>a) fun j aC a=>by have:=(g2.lt i j U a).1;omega
  exact I.trans (hw.mod rfl)
 .subst e;exact aJ.not g6 BJ j aC hk
 .refine((eC.ext he).trans (eC.mod yz fun k c t ai a=>?_)).trans (eC.wr hw g6 BJ);obtain⟨cur,h⟩:=((g2.ext he).own i U).cm k a;rw[ai] at h;injection h with h;injection h with _ h;rw[h];decide
theorem aqx(cs:C_ B_)(m:o.Model)(w:A_)(h:o.dU w cs m)(aH:m.cA)(aS:o.eD m) :
  Dz F.KT #[.agg cs.toArray] w fun v w'=>(∃xs,v = .agg xs.toArray/\ed w (fun w=>o.ky w xs (o.layout m)) w')/\Ext w w':=by
 have cX:=h;obtain⟨bW,bu,bI,c1,bO,c2,bQ,bp,bZ,bB,rfl,_⟩:=h.form;have ko:=o.iL aS;refine bl E.KT ?_;refine aa ?_;intro Mj br cF rb al;have cO:=cr al;refine aa ?_;intro Mn bP db qo au;have de:=cr au;replace al:=qo.obj al;refine aa ?_;intro w1 bR e9 ny bh;replace al:=ny.obj al;replace au:=ny.obj au;have dQ:=cr bh;have kh:=rb.size;have jX:=qo.size;have rK:=ny.size;have n13:br≠bR:=Aw
 have e1:=(rb.trans qo).trans ny;refine aa ?_;refine J_ (aqw _ m w1 (cX.ext e1) aH aS) ?_;rintro dL yT ⟨dv,qp⟩;obtain⟨aoF,af4,rfl,_⟩:=dv.form;have kf:pf w1 bR (o.fh (o.bU m) 0) 0 yT:=⟨qp.mod,fun _=>(none,0,0),qp.obj bh,⟨fun i U=>by
   have e:o.fh (o.bU m) 0 i=[]:=by unfold o.fh; (repeat' split)<;>simp[o.iV]
   rw[e];exact aP.nil _ _ _ _ _,fun i j k _ _ _ e=>by cases e⟩⟩
 have oj:∀{xs n W},pf w1 bR xs n W->W.heap[br]? = w1.heap[br]? := fun h=>h.mod.block _ Aw n13;have ft:∀{xs n W},pf w1 bR xs n W->W.heap[bP]? = w1.heap[bP]? := fun h=>h.mod.block _ Aw Aw;have dI:∀{xs n W},pf w1 bR xs n W->Ext w W:=fun h=>h.mod.ext e1 fun i U e=>Aw
 have k6:∀{W:A_},eC CI yT W->bg 6 (Flat o.Cell.enc) W (.slice aoF (o.bU m).length af4) (o.bU m):=fun k=>aP.hA (enc:=o.Cell.enc) (fun _=>rfl) (dv.ig k BJ);rw[au] at ft;clear al au bh dv;refine aa ?_;refine L_ 5 (o.bU m).length [1,2,3,4] (fun _:Unit=>[]) () (fun k _ W=>pf w1 bR (o.fh (o.bU m) k) 0 W/\eC CI yT W) a8 a8 ⟨kf,eC.refl⟩ ?_;clear kf;rintro k _ S aB hk ⟨ak,oo⟩;have dv:=k6 oo;obtain⟨asR,g1,g2⟩:=ak.ex;refine aa ?_;apply I_<;>intro g0
 .have aV:k<(o.bU m).length:=Aw
  obtain⟨a,rfl⟩:=dv.addr;clear g1 g2;obtain⟨x,af⟩:∃x,x=(o.bU m)[k]:=⟨_,rfl⟩;have iI:∀i,(o.fh (o.bU m) k i).length<=100:=fun i=>by
   unfold o.fh;have q:=fun s=>o.XV s ((o.bU m).take k) 0;have cO:=q 1;have de:=q 2;have dQ:=q 3
   (repeat' split)<;>simp only[List.length_map,List.length_take] at * <;> omega
  refine dO ?_;simp -dsimp only[cu];refine dO ?_;refine S_ [1,2,3,4,5] (fun _:Unit=>[]) (fun _ W=>pf w1 bR (dK (o.fh (o.bU m) k) 0 ((o.fh (o.bU m) k) 0++if x.place=0/\x.sort=1 then [(k:Int)] else [])) 0 W/\eC CI yT W) ?_ ?_
  .have dv:=k6 oo;obtain⟨vs,g1,g2⟩:=ak.ex;have ns:=g1;unfold mi at g1;dsimp only[cj] at g1;have same:¬(x.place=0/\x.sort=1)->pf w1 bR (dK (o.fh (o.bU m) k) 0 ((o.fh (o.bU m) k) 0++if x.place=0/\x.sort=1 then [(k:Int)] else [])) 0 aB:=fun e=>ak.congr fun j aC=>by
    unfold dK;by_cases a:j=0
    .subst a;simp[e]
    .simp[a]
   refine aa ?_;rw[<-af];apply I_<;>intro g3
   .refine aa ?_;rw[<-af];apply I_<;>intro g4
    .refine aa ?_;intro bo dE kI aF bY;have gq:=ak.mod.size;have z2:=aF.size;have hlen:((o.fh (o.bU m) k) 0).length<=100:=iI 0;have oP:=g2.ext aF;have g15:=aF.obj ns;refine _p (y:=(k:Int)) 0 BJ oP (fun _=>rfl) (gN bY) lQ Aw (by unfold maxLen;omega) Aw fun bS bt c9 iq=>?_;have gf:bt.heap[bR]? = some (.cells (mi vs 0) T.h):=(Mod.grown (A:=fun k=>(cj (vs 0)).ownBlock=some k) iq fun k hk=>hk).obj (oP.not g15 BJ 0 BJ) g15;have wc:=gf;unfold mi at gf;refine aa ?_;intro bG dy cf;obtain⟨jx,uZ⟩:=FH BJ ak.mod ns g2 aF iq c9 dy cf;refine aa ?_;refine⟨(),trivial,jx.congr fun j aC=>?_,oo.trans uZ⟩;have e:(if x.place=0/\x.sort=1 then [(k:Int)] else [])=[(k:Int)]:=if_pos ⟨g3,g4⟩;rw[e]
    .refine aa ?_;exact⟨(),trivial,same fun e=>g4 e.2,oo⟩
   .refine aa ?_;exact⟨(),trivial,same fun e=>g3 e.1,oo⟩
  rintro _ S eG ⟨JG,JW⟩;refine dO ?_;refine S_ [1,2,3,4,5] (fun _:Unit=>[]) (fun _ W=>pf w1 bR (dK (dK (o.fh (o.bU m) k) 0 ((o.fh (o.bU m) k) 0++if x.place=0/\x.sort=1 then [(k:Int)] else [])) 1 ((dK (o.fh (o.bU m) k) 0 ((o.fh (o.bU m) k) 0++if x.place=0/\x.sort=1 then [(k:Int)] else [])) 1++if x.place=0/\x.sort=2 then [(k:Int)] else [])) 0 W/\eC CI yT W) ?_ ?_
  .have dv:=k6 JW;obtain⟨vs,g1,g2⟩:=JG.ex;have ns:=g1;unfold mi at g1;dsimp only[cj] at g1;have same:¬(x.place=0/\x.sort=2)->pf w1 bR (dK (dK (o.fh (o.bU m) k) 0 ((o.fh (o.bU m) k) 0++if x.place=0/\x.sort=1 then [(k:Int)] else [])) 1 ((dK (o.fh (o.bU m) k) 0 ((o.fh (o.bU m) k) 0++if x.place=0/\x.sort=1 then [(k:Int)] else [])) 1++if x.place=0/\x.sort=2 then [(k:Int)] else [])) 0 eG:=fun e=>JG.congr fun j aC=>by
    unfold dK;by_cases a:j=1
    .subst a;simp[e]
    .simp[a]
   refine aa ?_;rw[<-af];apply I_<;>intro g3
   .refine aa ?_;rw[<-af];apply I_<;>intro g4
    .refine aa ?_;intro bo dE kI aF bY;have gq:=JG.mod.size;have z2:=aF.size;have hlen:((dK (o.fh (o.bU m) k) 0 ((o.fh (o.bU m) k) 0++if x.place=0/\x.sort=1 then [(k:Int)] else [])) 1).length<=100:=iI 1;have oP:=g2.ext aF;have g15:=aF.obj ns;refine _p (y:=(k:Int)) 1 BJ oP (fun _=>rfl) (gN bY) lQ Aw (by unfold maxLen;omega) Aw fun bS bt c9 iq=>?_;have gf:bt.heap[bR]? = some (.cells (mi vs 0) T.h):=(Mod.grown (A:=fun k=>(cj (vs 1)).ownBlock=some k) iq fun k hk=>hk).obj (oP.not g15 BJ 1 BJ) g15;have wc:=gf;unfold mi at gf;refine aa ?_;intro bG dy cf;obtain⟨jx,uZ⟩:=FH BJ JG.mod ns g2 aF iq c9 dy cf;refine aa ?_;refine⟨(),trivial,jx.congr fun j aC=>?_,JW.trans uZ⟩;have e:(if x.place=0/\x.sort=2 then [(k:Int)] else [])=[(k:Int)]:=if_pos ⟨g3,g4⟩;rw[e]
    .refine aa ?_;exact⟨(),trivial,same fun e=>g4 e.2,JW⟩
   .refine aa ?_;exact⟨(),trivial,same fun e=>g3 e.1,JW⟩
  rintro _ S fN ⟨JH,JX⟩;refine dO ?_;refine S_ [1,2,3,4,5] (fun _:Unit=>[]) (fun _ W=>pf w1 bR (dK (dK (dK (o.fh (o.bU m) k) 0 ((o.fh (o.bU m) k) 0++if x.place=0/\x.sort=1 then [(k:Int)] else [])) 1 ((dK (o.fh (o.bU m) k) 0 ((o.fh (o.bU m) k) 0++if x.place=0/\x.sort=1 then [(k:Int)] else [])) 1++if x.place=0/\x.sort=2 then [(k:Int)] else [])) 2 ((dK (dK (o.fh (o.bU m) k) 0 ((o.fh (o.bU m) k) 0++if x.place=0/\x.sort=1 then [(k:Int)] else [])) 1 ((dK (o.fh (o.bU m) k) 0 ((o.fh (o.bU m) k) 0++if x.place=0/\x.sort=1 then [(k:Int)] else [])) 1++if x.place=0/\x.sort=2 then [(k:Int)] else [])) 2++if x.place=0/\x.sort=3 then [(k:Int)] else [])) 0 W/\eC CI yT W) ?_ ?_
  .have dv:=k6 JX;obtain⟨vs,g1,g2⟩:=JH.ex;have ns:=g1;unfold mi at g1;dsimp only[cj] at g1;have same:¬(x.place=0/\x.sort=3)->pf w1 bR (dK (dK (dK (o.fh (o.bU m) k) 0 ((o.fh (o.bU m) k) 0++if x.place=0/\x.sort=1 then [(k:Int)] else [])) 1 ((dK (o.fh (o.bU m) k) 0 ((o.fh (o.bU m) k) 0++if x.place=0/\x.sort=1 then [(k:Int)] else [])) 1++if x.place=0/\x.sort=2 then [(k:Int)] else [])) 2 ((dK (dK (o.fh (o.bU m) k) 0 ((o.fh (o.bU m) k) 0++if x.place=0/\x.sort=1 then [(k:Int)] else [])) 1 ((dK (o.fh (o.bU m) k) 0 ((o.fh (o.bU m) k) 0++if x.place=0/\x.sort=1 then [(k:Int)] else [])) 1++if x.place=0/\x.sort=2 then [(k:Int)] else [])) 2++if x.place=0/\x.sort=3 then [(k:Int)] else [])) 0 fN:=fun e=>JH.congr fun j aC=>by
    unfold dK;by_cases a:j=2
    .subst a;simp[e]
    .simp[a]
   refine aa ?_;rw[<-af];apply I_<;>intro g3
   .refine aa ?_;rw[<-af];apply I_<;>intro g4
    .refine aa ?_;intro bo dE kI aF bY;have gq:=JH.mod.size;have z2:=aF.size;have hlen:((dK (dK (o.fh (o.bU m) k) 0 ((o.fh (o.bU m) k) 0++if x.place=0/\x.sort=1 then [(k:Int)] else [])) 1 ((dK (o.fh (o.bU m) k) 0 ((o.fh (o.bU m) k) 0++if x.place=0/\x.sort=1 then [(k:Int)] else [])) 1++if x.place=0/\x.sort=2 then [(k:Int)] else [])) 2).length<=100:=iI 2;have oP:=g2.ext aF;have g15:=aF.obj ns;refine _p (y:=(k:Int)) 2 BJ oP (fun _=>rfl) (gN bY) lQ Aw (by unfold maxLen;omega) Aw fun bS bt c9 iq=>?_;have gf:bt.heap[bR]? = some (.cells (mi vs 0) T.h):=(Mod.grown (A:=fun k=>(cj (vs 2)).ownBlock=some k) iq fun k hk=>hk).obj (oP.not g15 BJ 2 BJ) g15;have wc:=gf;unfold mi at gf;refine aa ?_;intro bG dy cf;obtain⟨jx,uZ⟩:=FH BJ JH.mod ns g2 aF iq c9 dy cf;refine aa ?_;refine⟨(),trivial,jx.congr fun j aC=>?_,JX.trans uZ⟩;have e:(if x.place=0/\x.sort=3 then [(k:Int)] else [])=[(k:Int)]:=if_pos ⟨g3,g4⟩;rw[e]
    .refine aa ?_;exact⟨(),trivial,same fun e=>g4 e.2,JX⟩
   .refine aa ?_;exact⟨(),trivial,same fun e=>g3 e.1,JX⟩
  rintro _ S h2 ⟨QJ,aba⟩;have dv:=k6 aba;obtain⟨vs,g1,g2⟩:=QJ.ex;have ns:=g1;unfold mi at g1;dsimp only[cj] at g1;refine aa ?_;intro bo aF;replace dv:=dv.ext Flat.ext aF;replace g1:=aF.obj g1;refine aa ?_;intro bt ee gf aI b1;refine⟨aI,?_⟩;have wj:=aF.trans aI;have gq:=QJ.mod.size;have z2:=wj.size;have hlen:(o.fh (o.bU m) k 3).length<=100:=iI 3;have oP:=g2.ext wj;have g15:=wj.obj ns;refine _p (y:=(o.bU m)[k].aQ) 3 BJ oP (fun _=>rfl) (gN b1) lQ (by rw[show(dK _ 2 _ 3:C_ Int)=o.fh (o.bU m) k 3 from rfl];omega) (by rw[show(dK _ 2 _ 3:C_ Int)=o.fh (o.bU m) k 3 from rfl];unfold maxLen;omega) Aw fun bS bG dM kJ=>?_;have ia:bG.heap[bR]? = some (.cells (mi vs 0) T.h):=(Mod.grown (A:=fun k=>(cj (vs 3)).ownBlock=some k) kJ fun k hk=>hk).obj (oP.not g15 BJ 3 BJ) g15;have Pm:=ia;unfold mi at ia;refine aa ?_;intro awm iK cn;obtain⟨QA,anf⟩:=FH BJ QJ.mod ns g2 wj kJ dM iK cn;clear g1 g2 ns oP g15 dM ia Pm cn b1 dv;have aa8:=aba.trans anf;have dv:=k6 aa8;obtain⟨vs,g1,g2⟩:=QA.ex;have ns:=g1;unfold mi at g1;dsimp only[cj] at g1;refine aa ?_;intro bo aF;replace dv:=dv.ext Flat.ext aF;replace g1:=aF.obj g1;refine aa ?_;intro bt ee gf aI b1;refine⟨aI,?_⟩;have wj:=aF.trans aI;have gq:=QA.mod.size;have z2:=wj.size;have hlen:(o.fh (o.bU m) k 4).length<=100:=iI 4;have oP:=g2.ext wj;have g15:=wj.obj ns;refine _p (y:=(o.bU m)[k].U) 4 BJ oP (fun _=>rfl) (gN b1) lQ (by rw[show(dK _ 3 _ 4:C_ Int)=o.fh (o.bU m) k 4 from rfl];omega) (by rw[show(dK _ 3 _ 4:C_ Int)=o.fh (o.bU m) k 4 from rfl];unfold maxLen;omega) Aw fun bS bG dM kJ=>?_;have ia:bG.heap[bR]? = some (.cells (mi vs 0) T.h):=(Mod.grown (A:=fun k=>(cj (vs 4)).ownBlock=some k) kJ fun k hk=>hk).obj (oP.not g15 BJ 4 BJ) g15;have Pm:=ia;unfold mi at ia;refine aa ?_;intro awn iK cn;obtain⟨al9,ang⟩:=FH BJ QA.mod ns g2 wj kJ dM iK cn;clear g1 g2 ns oP g15 dM ia Pm cn b1 dv;have anh:=aa8.trans ang;refine aa ?_;refine⟨aV,aL,(),trivial,al9.congr fun j aC=>?_,anh⟩;subst af;have a:j=0\/j=1\/j=2\/j=3\/j=4:=Aw
  rcases a with rfl | rfl | rfl | rfl | rfl
  .exact(o.OI (s:=1) aV).symm
  .exact(o.OI (s:=2) aV).symm
  .exact(o.OI (s:=3) aV).symm
  .show(_:C_ Int)=((o.bU m).take (k+1)).map (·.aQ);rw[L1 aV,AF6];rfl
  .show(_:C_ Int)=((o.bU m).take (k+1)).map (·.U);rw[L1 aV,AF6];rfl
 have oh:k=(o.bU m).length:=Aw
 subst oh;have cY:=dI ak;have au:=ft ak;clear g1 g2;obtain⟨vs,g1,g2⟩:=ak.ex;have ns:=g1;unfold mi at g1;dsimp only[cj] at g1;refine aa ?_;intro aK fY bh;have g23:=g2.mod (fY.mod (A:=fun k=>k=bR) rfl) fun i k U hk e=>by subst e;exact g2.not ns BJ i U hk
 replace au:=fY.obj au Aw;replace bh:aK.heap[bR]? = some (.cells #[cj (vs 0),cj (vs 1),cj (vs 2),.I (o.bU m).length,cj (vs 3),cj (vs 4)] T.h):=bh;dsimp only[cj] at bh;refine aa ?_;intro aR dq bf;have g24:=g23.mod (dq.mod (A:=fun k=>k=bP) rfl) fun i k U hk e=>by subst e;exact g23.not au BJ i U hk
 have bw:w.heap.size<=w1.heap.size:=Aw
 have tK:=fun(i:Nat) (U:i<5)=>aP.new (e:=T.a) (enc:=cE) (fun _=>rfl) (aP.low bw (g24.own i U));obtain⟨f1,f2,f3⟩:=o.aix aS;have dV:o.fh (o.bU m) (o.bU m).length 0=(o.layout m).vars:=by show o.iV 1 ((o.bU m).take _) 0=_;rw[AF1,f1];rfl
 have dH:o.fh (o.bU m) (o.bU m).length 1=(o.layout m).ar:=by show o.iV 2 ((o.bU m).take _) 0=_;rw[AF1,f2];rfl
 have df:o.fh (o.bU m) (o.bU m).length 2=(o.layout m).insts:=by show o.iV 3 ((o.bU m).take _) 0=_;rw[AF1,f3];rfl
 have eO:o.fh (o.bU m) (o.bU m).length 3=(o.layout m).aQ:=by show((o.bU m).take _).map _=_;rw[AF1];rfl
 have fM:o.fh (o.bU m) (o.bU m).length 4=(o.layout m).U:=by show((o.bU m).take _).map _=_;rw[AF1];rfl
 refine aa ?_;refine⟨⟨[_,_,_,_,_,_],rfl,fun eV tG=>⟨⟨_,_,_,_,_,rfl,?_,?_,?_,?_,?_⟩⟩⟩,dq.ext (fY.ext cY Aw) Aw⟩
 .rw[<-dV];exact tK 0 BJ eV tG
 .rw[<-dH];exact tK 1 BJ eV tG
 .rw[<-df];exact tK 2 BJ eV tG
 .rw[<-eO];exact tK 3 BJ eV tG
 .rw[<-fM];exact tK 4 BJ eV tG
end Go.Proofs.R
end
section
namespace o
open Go
def gp(m:Model)(i:Nat):Nat:=total ((cP m).take i)
def b6(m:Model)(i:Nat):Nat:=total (cP m)+total ((dx m).take i)
def da(m:Model)(i:Nat):Nat:=total (cP m)+total (dx m)+total ((fu m).take i)
theorem L2(n:Nat):∀(ls:C_ (C_ dN)) (i:Nat) (h:i<(hZ n ls).length),(hZ n ls)[i]=((n+total (ls.take i):Nat):Int)
 | [],i,h=>by simp[hZ] at h
 | l :: r,0,h=>by simp[hZ,total]
 | l :: r,i+1,h=>by
  simp only[hZ,List.getElem_cons_succ,List.take_succ_cons,Gs];rw[L2 (n+l.length) r i (by simpa[hZ] using h)];congr 1;omega
def c6(m:Model):Nat:=(bU m).length
theorem mL(m:Model):c6 m=total (cP m)+total (dx m)+total (fu m):=Fz m
theorem xf{m:Model}{i:Nat}(h:i<m.vars.length):∃bk:i<(layout m).vars.length,(layout m).vars[i]=(gp m i:Int):=by
 have bk:i<(hZ 0 (cP m)).length:=by rw[ua];simpa[cP] using h
 exact⟨bk,by have:=L2 0 (cP m) i bk;rw[AE9] at this;exact this⟩
theorem s6{m:Model}{i:Nat}(h:i<m.ar.length):∃bk:i<(layout m).ar.length,(layout m).ar[i]=(b6 m i:Int):=by
 have bk:i<(hZ (total (cP m)) (dx m)).length:=by rw[ua];simpa[dx] using h
 exact⟨bk,L2 _ _ i bk⟩
theorem rq{m:Model}{i:Nat}(h:i<(insts m).length):∃bk:i<(layout m).insts.length,(layout m).insts[i]=(da m i:Int):=by
 have bk:i<(hZ (total (cP m)+total (dx m)) (fu m)).length:=by rw[ua];simpa[fu] using h
 exact⟨bk,L2 _ _ i bk⟩
theorem rJ{m:Model}{i:Nat}(h:i<m.vars.length):gp m i+(cells m.vars[i] m.scalars).toNat<=total (cP m):=by
 have bk:i<(cP m).length:=by simpa[cP] using h
 have:=SP bk
 have e:(cP m)[i].length=(cells m.vars[i] m.scalars).toNat:=by simp[cP,CY]
 rw[e] at this;exact this
theorem vF{m:Model}{i:Nat}(h:i<m.ar.length):b6 m i+(1+m.ar[i].cap.toNat)<=total (cP m)+total (dx m):=by
 have bk:i<(dx m).length:=by simpa[dx] using h
 have:=SP bk
 have e:(dx m)[i].length=1+m.ar[i].cap.toNat:=by simp[dx,vI]
 rw[e] at this;unfold b6;omega
theorem Q8{m:Model}{i:Nat}(h:i<(insts m).length):da m i+(l0 m (insts m)[i]).length<=c6 m:=by
 have bk:i<(fu m).length:=by simpa[fu] using h
 have:=SP bk
 have e:(fu m)[i].length=(l0 m (insts m)[i]).length:=by simp[fu]
 rw[e] at this;rw[mL];unfold da;omega
def lM(s:C_ Scalar)(c:dg)(l:C_ Int):Prop :=
 ∃n,l[0]? = some n/\0<=n/\n<=c.cap/\∀k:Nat,(k:Int)<c.cap->∃x,l[k+1]? = some x/\((k:Int)<n->(eS c.scalar c.aQ c.U s).aQ<=x/\x<=(eS c.scalar c.aQ c.U s).U)/\(n<=k->x=0)
def mM(m:Model)(i:Nat)(c:dg)(s:C_ Int):C_ Int:=(s.drop (b6 m i)).take (1+c.cap.toNat)
structure Fits(m:Model)(s:List Int):Prop where
 len:s.length=c6 m
 queue:∀i (h:i<m.ar.length),lM m.scalars m.ar[i] (mM m i m.ar[i] s)
 cell:∀i (h:i<s.length) (bk:i<(bU m).length),(bU m)[i].aQ<=s[i]/\s[i]<=(bU m)[i].U
def hB(m:Model)(s:C_ Int):Prop:=(check m).cC=0/\Fits m s
def rY(m:Model)(s:C_ Int)(p:Int)(l:Int)(k:Nat):Nat:=((List.range k).filter fun i=>decide (((insts m)[i]?.map (·.proc))=some p/\s[da m i]? = some l)).length
def jl(m:Model)(s:C_ Int)(p:Nat)(n:Int)(k:Nat):C_ Int:=(List.range n.toNat).map fun(l:Nat)=>((rY m s (p:Int) (l:Int) k:Nat):Int)
def CP(m:Model)(s:C_ Int)(inst:Int):C_ Int×Int :=
 match nth (insts m) inst with
 | some x=>((s.drop (da m inst.toNat+1)).take ((l0 m x).length - 1),x.elem)
 | none=>([],0)
def cc(m:Model)(s:C_ Int)(inst:Int):Env :=
 ⟨(List.range m.vars.length).map fun i=>(s.drop (gp m i)).take (cP m)[i]!.length,
  (List.range m.ar.length).map fun i=>s[b6 m i]!,
  (CP m s inst).1,
  (List.range m.procs.length).map fun i=>jl m s i (m.procs[i]?.map (·.b2) |>.getD 0) (insts m).length,
  (CP m s inst).2⟩
def val:C_ Nat->Nat
 | []=>0
 | d :: r=>d+256*val r
def HM(n:Nat):C_ Nat:=if h:n=0 then [] else n % 256 :: HM (n / 256)
termination_by n
decreasing_by omega
def abP:C_ Cell->C_ Int->Nat->Nat
 | x :: r,v :: s,n=>abP r s (n*(x.U - x.aQ+1).toNat+(v - x.aQ).toNat)
 | _,_,n=>n
def num(m:Model)(s:C_ Int):Nat:=abP (bU m) s 0
def fL(m:Model):Nat:=num m ((bU m).map (·.U))
def afQ(m:Model):Nat:=(HM (fL m)).length
def fixed(k n:Nat):C_ Nat:=HM n++List.replicate (k - (HM n).length) 0
def bytes(m:Model)(s:C_ Int):C_ Nat:=(fixed (afQ m) (num m s)).reverse
end o
end
section
namespace Go.Proofs.R
open Go Go.RowKit a7
abbrev dc(w:A_)(v:B_)(l:C_ Int):Prop:=bg 1 (Flat cE) w v l
structure xG(w:World)(b:Nat)(m:o.Model):Prop where
 ex:∃xs cs bH,w.heap[b]? = some (.cells (xs++cs++[bH]).toArray T.oM)/\o.ky w xs (o.layout m)/\o.dU w cs m/\kk w bH (o.insts m)
theorem xG.ext{w w':A_}{b:Nat}{m:o.Model}(he:Ext w w')(h:xG w b m):xG w' b m :=
 let ⟨xs,cs,bH,ad,h1,I,ab⟩:=h.ex; ⟨xs,cs,bH,he.obj ad,h1.ext he,I.ext he,ab.ext Flat.ext he⟩
theorem aqn(cs:C_ B_)(m:o.Model)(w:A_)(h:o.dU w cs m)(aH:m.cA)(aJ:gF w) :
  Dz F.vG #[.agg cs.toArray] w fun v w'=>((v = .pointer none/\¬(o.check m).cC=0)\/(∃b,v = .pointer (some ⟨b,0,none⟩)/\(o.check m).cC=0/\xG w' b m))/\Ext w w':=by
 have aS:=h;obtain⟨bW,bu,bI,c1,bO,c2,bQ,bp,bZ,bB,rfl,_⟩:=h.form;refine bl E.vG ?_;refine aa ?_;intro w1 br cF ah al;refine aa ?_;refine J_ (yy _ m w1 (aS.ext ah) aH (aJ.ext ah)) ?_;rintro _ aB ⟨rfl,aj⟩;replace al:=aj.obj al;have e2:=ah.trans aj;refine aa ?_;refine _K (v:=.I (o.check m).cC) rfl ?_;refine aa ?_;refine I_ (fun hk=>?_) (fun hk=>?_);rotate_left
 .refine aa ?_;exact⟨.inl ⟨aL,hk⟩,e2⟩
 refine aa ?_;intro aK ag;replace al:=ag.obj al;have a1:=e2.trans ag;refine aa ?_;refine J_ (FA _ m aK (aS.ext a1) aH (aJ.ext a1)) ?_;rintro _ aR ⟨⟨xs,rfl,cM⟩,aw⟩;replace cM:=cM.here;rw[o.FB hk] at cM;obtain⟨l7,d0,jW,d1,kQ,d2,pa,d3,oD,d4,rfl,_⟩:=cM.form;have bC:=a1.trans aw;refine⟨aw,?_⟩;refine aa ?_;refine J_ (wI _ m aR (aS.ext bC) aH) ?_;rintro bH bo ⟨eM,aF⟩;obtain⟨b9,ci,rfl,_⟩:=eM.form;have bF:=bC.trans aF;refine⟨aw.trans aF,?_⟩;refine aa ?_;intro bt ee gf aI b1;refine aa ?_;exact⟨.inr ⟨ee,rfl,hk,⟨_,_,_,b1,cM.ext (aF.trans aI),aS.ext (bF.trans aI),aP.hA (enc:=o.cR.enc) (fun _=>rfl) (eM.ext aI)⟩⟩,bF.trans aI⟩
end Go.Proofs.R
end
section
namespace o
theorem J3(m:Model):(layout m).aQ.length=(bU m).length:=by simp[layout,Ag]
theorem J1(m:Model):(layout m).U.length=(bU m).length:=by simp[layout,Ag]
theorem J2{m:Model}{c:Nat}(h:c<(layout m).aQ.length)(bk:c<(bU m).length):(layout m).aQ[c]=(bU m)[c].aQ:=by simp[layout,Ag]
theorem J0{m:Model}{c:Nat}(h:c<(layout m).U.length)(bk:c<(bU m).length):(layout m).U[c]=(bU m)[c].U:=by simp[layout,Ag]
theorem tC(m:Model):(layout m).vars.length=m.vars.length/\(layout m).ar.length=m.ar.length/\(layout m).insts.length=(insts m).length:=by
 refine⟨?_,?_,?_⟩<;>simp[layout,Ag,ua,cP,dx,fu]
end o
end
section
namespace a7
open Go Go.RowKit
structure G2(es:Array MapEntry)(c:Nat)(L:List Int):Prop where
 Ae:∃l:List (Int×Value),iy (Value.int .i64) es.toList l/\(l.map (·.1)).Nodup/\(∀x,x∈l.map (·.1)↔x∈L)/\l.length<=L.length/\∀p∈l,∃z,p.2 = .int .i64 z
 born:∀e∈es.toList,e.born<c
 nodup:(es.toList.map (·.born)).Nodup
structure fi(w:World)(b:Nat)(L:List Int):Prop where
 ok:∀x∈L,-9223372036854775808<=x/\x<=9223372036854775807
 ex:∃es c,w.heap[b]? = some (.map es c)/\G2 es c L
theorem fi.of{w w':A_}{b:Nat}{L:C_ Int}(h:fi w b L)(e:w'.heap[b]? = w.heap[b]?):fi w' b L:=let ⟨es,c,h1,I⟩:=h.ex; ⟨h.ok,es,c,e.trans h1,I⟩
theorem fi.lt{w:A_}{b:Nat}{L:C_ Int}(h:fi w b L):b<w.heap.size:=let ⟨_,_,h1,_⟩:=h.ex;cr h1
theorem fi.ext{w w':A_}{b:Nat}{L:C_ Int}(h:fi w b L)(e:Ext w w'):fi w' b L:=h.of (e.heap h.lt)
theorem fi.mod{A:Nat->Prop}{w w':A_}{b:Nat}{L:C_ Int}(h:fi w b L)(e:Mod A w w')(hk:¬A b):fi w' b L:=h.of (e.block b h.lt hk)
theorem G2.empty:G2 #[] 0 []:=⟨⟨[],rfl,Bh,fun _=>Iff.rfl,Gf _,fun p h=>by simp at h⟩,fun e he=>by simp at he,Bh⟩
theorem fi.empty{w:A_}{b:Nat}(h:w.heap[b]? = some (.map #[] 0)):fi w b []:=⟨fun _ h=>by simp at h,_,_,h,G2.empty⟩
theorem iy.len{oG:Type}{enc:oG->B_}{es:C_ MapEntry}{l:C_ (oG×B_)}(h:iy enc es l):es.length=l.length:=by
 have:=congrArg List.length h
 simpa using this
theorem iy.at{oG:Type}{enc:oG->B_}{es:C_ MapEntry}{l:C_ (oG×B_)}(h:iy enc es l)(i:Nat):es[i]?.map (fun e=>(e.key,e.val))=l[i]?.map (fun p=>(enc p.1,p.2)):=by
 have:=congrArg (fun q=>q[i]?) h
 simpa using this
theorem fi.look{w:A_}{b:Nat}{L:C_ Int}(h:fi w b L)(x:Int):∃es r z,rP w (.map (some b)) es/\Instr.findNow (.int .i64) (.I x) es.toList 0=some r/\mX (.I 0) false r = .I z:=by
 obtain⟨es,c,h1,hm⟩:=h.ex;obtain⟨l,I,ab,aE,aY,bz⟩:=hm.Ae;obtain⟨r,mU,ka⟩:=zr (LL .i64 .i64) x es.toList _ 0 I;cases r with
 | none=>exact⟨es,none,0,.inr ⟨b,c,rfl,h1⟩,mU,rfl⟩
 | some q =>
  cases av:l.find? (fun p=>decide (x=p.1)) with
  | none=>rw[av] at ka;cases ka
  | some p =>
   rw[av] at ka;obtain⟨z,bw⟩:=bz p (List.mem_of_find?_eq_some av);simp only[Option.map_some,Option.some.injEq] at ka;exact⟨es,some q,z,.inr ⟨b,c,rfl,h1⟩,mU,by simp[mX,ka,bw]⟩
theorem ank{x z:Int}{l:C_ (Int×B_)}{es:C_ MapEntry}{j:Nat}(h:iy (Value.int .i64) es l)(hk:∀p,l[j]? = some p->p.1=x):iy (Value.int .i64) (es.modify j fun e=>{ e with key:=.I x,val:=.I z }) (l.modify j fun p=>(p.1,.I z)):=by
 unfold iy;apply List.ext_getElem?;intro i;have U:=h.at i;simp only[List.getElem?_map,List.getElem?_modify] at *;by_cases e:j=i
 .subst e;simp only[if_true] at *;cases he:es[j]? with
  | none=>rw[he] at U;cases aq:l[j]? with
   | none=>simp
   | some p=>rw[aq] at U;cases U
  | some q =>
   rw[he] at U;cases aq:l[j]? with
   | none=>rw[aq] at U;cases U
   | some p=>simp[hk p aq]
 .simp only[if_neg e];cases he:es[i]? with
  | none=>rw[he] at U;cases aq:l[i]? with
   | none=>simp
   | some p=>rw[aq] at U;cases U
  | some q =>
   rw[he] at U;cases aq:l[i]? with
   | none=>rw[aq] at U;cases U
   | some p=>rw[aq] at U;simpa using U
theorem X6{z:B_}(l:C_ (Int×B_))(j:Nat):(l.modify j fun p=>(p.1,z)).map (·.1)=l.map (·.1):=by
 apply List.ext_getElem?;intro i;simp only[List.getElem?_map,List.getElem?_modify];by_cases e:j=i
 .subst e;cases l[j]? <;> simp
 .simp[e]
theorem Wx{k v:B_}(es:C_ MapEntry)(j:Nat):(es.modify j fun e=>{ e with key:=k,val:=v }).map (·.born)=es.map (·.born):=by
 apply List.ext_getElem?;intro i;simp only[List.getElem?_map,List.getElem?_modify];by_cases e:j=i
 .subst e;cases es[j]? <;> simp
 .simp[e]
theorem fi.put{w:A_}{b:Nat}{L:C_ Int}(h:fi w b L)(x z:Int)(af : -9223372036854775808<=x/\x<=9223372036854775807):∃es c q,w.heap[b]? = some (.map es c)/\Instr.findNow (.int .i64) (.I x) es.toList 0=some q /\
  ∀w':A_,w'.heap[b]? = some (sq es c (.I x) (.I z) q)->fi w' b (L++[x]):=by
 obtain⟨es,c,h1,hm⟩:=h.ex;obtain⟨l,I,ab,aE,aY,bz⟩:=hm.Ae;obtain⟨r,mU,ka⟩:=zr (LL .i64 .i64) x es.toList _ 0 I;have c5:∀y∈L++[x],-9223372036854775808<=y/\y<=9223372036854775807:=fun y bK=>by
  rcases List.mem_append.1 bK with bK | bK
  .exact h.ok y bK
  .simp only[List.mem_singleton] at bK;subst bK;exact af
 refine⟨es,c,r,h1,mU,fun w' hw=>?_⟩;cases r with
 | none =>
  have ax:∀p∈l,p.1≠x:=by
   cases av:l.find? (fun p=>decide (x=p.1)) with
   | none =>
    intro p aq e
    have:=List.find?_eq_none.1 av p aq
    simp[e] at this
   | some p=>rw[av] at ka;cases ka
  refine⟨c5,_,_,hw,⟨⟨l++[(x,.I z)],iy.push I x (.I z) c,?_,fun y=>?_,?_,fun p aq=>?_⟩,?_,?_⟩⟩
  .rw[AF6,AG5,AJ6,AK0];refine⟨ab,Bh,fun a aU b an=>?_⟩;obtain⟨p,aq,rfl⟩:=List.mem_map.1 aU;simp only[List.mem_singleton] at an;rw[an];exact ax p aq
  .rw[AF6,AI1,AI1,aE y];simp
  .rw[Lk,Lk];simp;exact aY
  .rcases List.mem_append.1 aq with aq | aq
   .exact bz p aq
   .simp only[List.mem_singleton] at aq;subst aq;exact⟨z,rfl⟩
  .intro e he;simp only[Array.toList_push,List.mem_append,List.mem_singleton] at he;rcases he with he | rfl
   .have:=hm.born e he;omega
   .show c<c+1;omega
  .simp only[Array.toList_push,List.map_append,List.map_cons,List.map_nil];rw[AK0];refine⟨hm.nodup,Bh,fun a aU fG qf=>?_⟩;obtain⟨e,he,rfl⟩:=List.mem_map.1 aU;simp only[List.mem_singleton] at qf
   have:=hm.born e he
   omega
 | some Ri =>
  obtain⟨j,v⟩:=Ri;obtain⟨_,e,he,ak⟩:=OG mU;rw[Nat.sub_zero] at he;have ZG:∀p,l[j]? = some p->p.1=x:=fun p aq=>by
   have:=I.at j
   rw[he,aq] at this;simp only[Option.map_some,Option.some.injEq,Prod.mk.injEq] at this;rw[this.1,LL] at ak;have ak:=Option.some.inj ak;simp only[decide_eq_true_eq] at ak;exact ak.symm
  have tA:x∈L:=by
   have aC:=I.at j;rw[he] at aC;cases aq:l[j]? with
   | none=>rw[aq] at aC;cases aC
   | some p =>
    rw[<-aE x,<-ZG p aq];exact List.mem_map.2 ⟨p,List.mem_of_getElem? aq,rfl⟩
  have nD:w'.heap[b]? = some (.map (es.modify j fun e=>{ e with key:=.I x,val:=.I z }) c):=hw;refine⟨c5,_,_,nD,⟨⟨l.modify j fun p=>(p.1,.I z),?_,by rw[X6];exact ab,fun y=>?_,?_,fun p aq=>?_⟩,?_,?_⟩⟩
  .rw[AK4];exact ank I ZG
  .rw[X6,aE y,AI1,AG4];exact⟨.inl,fun q=>q.elim id fun q=>q ▸ tA⟩
  .rw[List.length_modify,Lk];omega
  .obtain⟨i,U,rfl⟩:=List.mem_iff_getElem.1 aq;rw[List.getElem_modify];split
   .exact⟨z,rfl⟩
   .exact bz _ (Gy _)
  .rw[AK4];intro e' iG
   have:e'.born∈es.toList.map (·.born):=by rw[<-Wx (k:=.I x) (v:=.I z) es.toList j];exact List.mem_map.2 ⟨e',iG,rfl⟩
   obtain⟨dS,ad,hb⟩:=List.mem_map.1 this
   have:=hm.born dS ad
   omega
  .rw[AK4,Wx];exact hm.nodup
section
variable{P:Program}{KW:World->Prop}{ba:Value->Prop}{w:World}
theorem AD0{b:Nat}{L:C_ Int}{x:Int}{t}(h:fi w b L)(hk:∀z,ba (.I z)):Di (.int .i64) (.I 0) false (.map (some b)) (.I x) w ba t:=by
 obtain⟨es,r,z,h1,I,ab⟩:=h.look x;exact _m h1 I (by rw[ab];exact hk z)
theorem AD1{b:Nat}{L:C_ Int}{x z:Int}{t}(h:fi w b L)(af : -9223372036854775808<=x/\x<=9223372036854775807)(hk:∀w1,di b w w1->fi w1 b (L++[x])->KW w1):AZ (.int .i64) (.map (some b)) (.I x) (.I z) w KW t:=by
 obtain⟨es,c,q,h1,I,ab⟩:=h.put x z af;exact _t h1 I (hk _ (di.fv w b _) (ab _ (CO (cr h1))))
end
theorem wf_i64{x:Int}(h : -9223372036854775808<=x/\x<=9223372036854775807):(Lit.int .i64 x).wf=true:=by
 have h1:IntKind.i64.min = -9223372036854775808:=BJ
 have I:IntKind.i64.max=9223372036854775807:=BJ
 simp only[Lit.wf,h1,I,Bool.and_eq_true,decide_eq_true_eq];exact h
theorem fi.own{P:D_}{k:F_}{w:A_}{b:Nat}{L:C_ Int}(hk:P.underlying k=some (.int .i64))(h:fi w b L)(cM:L.length<=maxLen) :
  ∃uc:DataW Unit,w.ownsMap P k (fun _=>some (.lit (.bool true),[])) b L.length uc/\Maps.size uc<=L.length/\∀ca:C_ Int,ca.Perm (intKeys uc)->ca.Nodup/\∀x,x∈ca↔x∈L:=by
 obtain⟨es,c,h1,hm⟩:=h.ex;obtain⟨l,I,ab,aE,aY,bz⟩:=hm.Ae;have hlen:es.toList.length=l.length:=I.len;have rn:∀e∈es.toList,∃x,e.key = .I x/\WideElems.rd P k (fun _=>some ((.lit (.bool true):DataW Unit),[])) e=some (.int .i64 x,.lit (.bool true)):=fun e he=>by
  obtain⟨i,U,rfl⟩:=List.mem_iff_getElem.1 he;have k4:=I.at i;rw[List.getElem?_eq_getElem U,List.getElem?_eq_getElem Aw] at k4;simp only[Option.map_some,Option.some.injEq,Prod.mk.injEq] at k4;refine⟨_,k4.1,?_⟩;have hw:=wf_i64 (h.ok l[i].1 ((aE _).1 (List.mem_map.2 ⟨l[i],Gy _,rfl⟩)));unfold WideElems.rd;rw[k4.1,Maps.keyOf_int_mk hk hw];rfl
 have BQ:WideElems.Fit P k (fun _=>some ((.lit (.bool true):DataW Unit),[])) es c:=⟨by simp at hlen;omega,⟨hm.born,hm.nodup,by
  have:es.toList.map (·.key)=(l.map (·.1)).map (Value.int .i64):=by
   apply List.ext_getElem?;intro i;rw[List.getElem?_map,List.getElem?_map,List.getElem?_map]
   have:=I.at i
   cases he:es.toList[i]? with
   | none=>rw[he] at this;cases aq:l[i]? with
    | none=>rfl
    | some p=>rw[aq] at this;cases this
   | some q =>
    rw[he] at this;cases aq:l[i]? with
    | none=>rw[aq] at this;cases this
    | some p =>
     rw[aq] at this;simp only[Option.map_some,Option.some.injEq,Prod.mk.injEq] at this;simp only[Option.map_some,this.1]
  rw[this];exact List.pairwise_map.2 (ab.imp fun {a b} b8 e=>b8 (by injection e))⟩,fun x af=>let ⟨y,_,bK⟩:=rn x af; ⟨_,bK⟩⟩
 refine⟨_,World.ownsMap.mono (World.ownsMap_of_fit h1 BQ (fun _ _ _ q=>q)) (by simp at hlen;omega),?_,fun ca aq=>?_⟩
 .rw[Maps.size_eq,length_sorted];simp at hlen ⊢;omega
 .have ak9:(intKeys (.map ((es.toList.map (WideElems.rg P k (fun _=>some ((.lit (.bool true):DataW Unit),[])))).foldr DataW.insert []))).Perm (l.map (·.1)):=by
   refine((WideShapes.sorted_perm _).map _).trans ?_;rw[List.map_map]
   have:es.toList.map ((fun p:Lit×DataW Unit=>intOf p.1)∘WideElems.rg P k (fun _=>some ((.lit (.bool true):DataW Unit),[])))=l.map (·.1):=by
    apply List.ext_getElem?;intro i;rw[List.getElem?_map,List.getElem?_map];cases he:es.toList[i]? with
    | none =>
     have:=I.at i
     rw[he] at this;cases aq:l[i]? with
     | none=>rfl
     | some p=>rw[aq] at this;cases this
    | some e =>
     obtain⟨x,af,bK⟩:=rn e (List.mem_of_getElem? he)
     have:=I.at i
     rw[he] at this;cases aq:l[i]? with
     | none=>rw[aq] at this;cases this
     | some p =>
      rw[aq] at this;simp only[Option.map_some,Option.some.injEq,Prod.mk.injEq] at this;rw[af] at this;have e1:x=p.1:=by have:=this.1;injection this
      simp only[Option.map_some,Function.comp,WideElems.rg_of bK,e1];rfl
   rw[this]
  have wz:=aq.trans ak9;exact⟨wz.nodup_iff.2 ab,fun x=>by rw[wz.mem_iff];exact aE x⟩
theorem arM{ca:C_ Int}(h:ca.Nodup):(ca.mergeSort fun x y=>decide (x<=y)).Pairwise (· < ·):=by
 have asp:∀a b c:Int,decide (a<=b)=true->decide (b<=c)=true->decide (a<=c)=true:=fun a b c h1 I=>by simp only[decide_eq_true_eq] at *;omega
 have to:∀a b:Int,(decide (a<=b)||decide (b<=a))=true:=fun a b=>by simp only[Bool.or_eq_true,decide_eq_true_eq];omega
 have h1:=List.pairwise_mergeSort asp to ca;have I:(ca.mergeSort fun x y=>decide (x<=y)).Nodup:=(List.mergeSort_perm ca _).nodup_iff.2 h;refine(h1.and I).imp fun {a b} q=>?_;simp only[decide_eq_true_eq] at q;omega
end a7
end
section
namespace o
open Go
theorem R2{p:dw}{s:Scope}(h:(hX p s).2.2=0):whole p s=0/\(lE p s).2=0/\(lO (inner p s) p.b2 p.cy p.cy 0).2.2=0:=by
 unfold hX at h;by_cases h1:whole p s≠0
 .rw[if_pos h1] at h;exact absurd h h1
 rw[if_neg h1] at h;by_cases I:(lE p s).2≠0
 .rw[if_pos I] at h;exact absurd h I
 rw[if_neg I] at h;exact⟨by simpa using h1,by simpa using I,h⟩
theorem Hw{own:Scope}{b2:Int}{all:C_ dr}:∀(l:C_ dr) (i:Nat),(lO own b2 all l i).2.2=0->∀k (h:k<l.length),(jn l[k] b2 own).2=0/\(all.take (i+k)).any (fun x=>decide (x.name=l[k].name))=false
 | [],_,_,k,h=>by simp at h
 | c :: r,i,dI,k,h=>by
  simp only[lO] at dI;by_cases h1:(jn c b2 own).2≠0
  .rw[if_pos h1] at dI;exact absurd dI h1
  rw[if_neg h1] at dI;by_cases I:(all.take i).any (fun x=>decide (x.name=c.name))=true
  .rw[if_pos I] at dI;cases dI
  rw[if_neg I] at dI;cases k with
  | zero=>exact⟨by simpa using h1,by simpa using I⟩
  | succ k =>
   have:=Hw r (i+1) dI k (by simpa using h)
   simpa[Nat.add_assoc,Nat.add_comm 1 k] using this
theorem wW{α:Type}{l:C_ α}{n:Int}{x:α}(h:nth l n=some x):0<=n/\l[n.toNat]? = some x/\n.toNat<l.length:=by
 unfold nth at h;by_cases ad:0<=n
 .rw[if_pos ad] at h;exact⟨ad,h,(List.getElem?_eq_some_iff.1 h).1⟩
 .rw[if_neg ad] at h;cases h
theorem aa4{n:Int}{s:Scope}(h:(hy n s).2=true):0<=n/\n<=s.scalars.length/\(hy n s).1=if n=0 then 0 else 1+n:=by
 unfold hy at h ⊢;by_cases h1:n=0
 .subst h1;simp
 .rw[if_neg h1] at h ⊢;by_cases I:n<0\/(s.scalars.length:Int)<n
  .rw[if_pos I] at h;cases h
  .rw[if_neg I,if_neg h1];exact⟨Aw,Aw,rfl⟩
theorem abc{l:C_ Var}{n:Int}{s:Scope}(h:(gg l n s).2.2=true):∃v,nth l n=some v/\l[n.toNat]? = some v/\0<=n/\gg l n s=((hy v.scalar s).1,(hy v.over s).1,true)/\(hy v.scalar s).2=true/\(hy v.over s).2=true:=by
 unfold gg at h ⊢;cases ax:nth l n with
 | none=>rw[ax] at h;cases h
 | some v =>
  rw[ax] at h;simp only[Bool.and_eq_true] at h;obtain⟨ad,h1,_⟩:=wW ax;exact⟨v,rfl,h1,ad,by simp only[h.1,h.2,Bool.and_self],h.1,h.2⟩
theorem CF:∀(a b:C_ Int),a.Pairwise (· < ·)->b.Pairwise (· < ·)->(∀x,x∈a↔x∈b)->a=b
 | [],[],_,_,_=>rfl
 | [],y :: b,_,_,h=>by have:=(h y).2 (AG2 ..);cases this
 | x :: a,[],_,_,h=>by have:=(h x).1 (AG2 ..);cases this
 | x :: a,y :: b,aU,an,h=>by
  rw[AJ1] at aU an;have e:x=y:=by
   rcases List.mem_cons.1 ((h x).1 (AG2 ..)) with e | e
   .exact e
   .rcases List.mem_cons.1 ((h y).2 (AG2 ..)) with e2 | e2
    .exact e2.symm
    .have:=an.1 x e;have:=aU.1 y e2;omega
  subst e;congr 1;refine CF a b aU.2 an.2 fun z=>⟨fun bw=>?_,fun bw=>?_⟩
  .rcases List.mem_cons.1 ((h z).1 (AH6 _ bw)) with e | e
   .subst e;have:=aU.1 z bw;omega
   .exact e
  .rcases List.mem_cons.1 ((h z).2 (AH6 _ bw)) with e | e
   .subst e;have:=an.1 z bw;omega
   .exact e
def gB(a n:Nat):C_ Int:=(List.range n).map fun(k:Nat)=>((a+k:Nat):Int)
theorem aqU(a n:Nat):(gB a n).length=n:=by simp[gB]
theorem acY(a:Nat):gB a 0=[]:=rfl
theorem CH(a:Nat):gB a 1=[(a:Int)]:=by simp[gB]
theorem aqV(a n:Nat):gB a (n+1)=gB a n++[((a+n:Nat):Int)]:=by simp[gB,List.range_succ]
theorem sB{a n:Nat}{x:Int}:x∈gB a n↔(a:Int)<=x/\x<((a+n:Nat):Int):=by
 constructor
 .intro h;obtain⟨k,hk,rfl⟩:=List.mem_map.1 h
  have:=List.mem_range.1 hk
  omega
 .intro h;refine List.mem_map.2 ⟨(x - a).toNat,List.mem_range.2 Aw,Aw⟩
structure ats(l:List Int)(last:Int)(out:List Int):Prop where
 mZ:out.Pairwise (· < ·)
 mem:∀x,x∈out↔x∈l/\x<=last
 last : -1<=last
structure qU(l r:List Int):Prop where
 mZ:r.Pairwise (· < ·)
 mem:∀x,x∈r↔x∈l
theorem qU.eq{l wN r r':C_ Int}(h:qU l r)(k:qU wN r')(e:∀x,x∈l↔x∈wN):r=r' :=
 CF r r' h.mZ k.mZ fun x=>by rw[h.mem,k.mem,e]
def o4(m:Model)(v:Nat):Nat:=match m.vars[v]? with | some x=>(cells x m.scalars).toNat | none=>0
def H3(m:Model)(q:Nat):Nat:=match (insts m)[q]? with | some x=>x.elem.toNat | none=>0
def fH(m:Model)(c:Nat):Nat:=match m.ar[c]? with | some x=>x.cap.toNat | none=>0
def qB(m:Model)(q v:Nat)(own:Bool):C_ Int:=if own then gB (gp m v+H3 m q - 1) 1 else gB (gp m v) (o4 m v)
def ps(m:Model)(p:Int)(n:Nat):C_ Int:=(List.range n).flatMap fun j=>if (insts m)[j]?.map (·.proc)=some p then gB (da m j) 1 else []
def gA(m:Model)(q:Nat)(own:Bool)(x:Node):C_ Int :=
 if x.op=2 then gB (gp m x.n.toNat) 1
 else if x.op=3 then qB m q x.n.toNat own
 else if x.op=4 then gB (da m q+1+x.n.toNat) 1
 else if x.op=6 then gB (b6 m x.n.toNat) 1
 else if x.op=7 then ps m (x.n.tdiv 16) (insts m).length
 else []
def yG(e:C_ Node):Nat->Bool
 | 0=>false
 | k+1=>match e[k]? with | some x=>decide (x.op=5) | none=>false
def qe(m:Model)(q:Nat)(e:C_ Node)(n:Nat):C_ Int:=(List.range n).flatMap fun k=>match e[k]? with | some x=>gA m q (yG e k) x | none=>[]
def vJ(m:Model)(c:Nat):C_ Int:=gB (b6 m c) (1+fH m c)
def sD(a:Act):Bool:=match a.index with | [x]=>decide (x.op=5) | _=>false
def qW(m:Model)(q:Nat)(a:Act):C_ Int :=
 if a.kind=5 then vJ m a.to.toNat
 else (if a.kind=2 then qe m q a.index a.index.length else if a.kind=4 then gB (b6 m a.to.toNat) 1 else [])++qe m q a.value a.value.length
def mf(m:Model)(q:Nat)(a:Act):C_ Int :=
 if a.kind=1 then gB (gp m a.to.toNat) 1
 else if a.kind=2 then qB m q a.to.toNat (sD a)
 else if a.kind=3 then gB (da m q+1+a.to.toNat) 1
 else if a.kind=4 then vJ m a.to.toNat
 else if a.kind=5 then vJ m a.to.toNat++gB (da m q+1+a.loc.toNat) 1
 else []
def D9(m:Model)(q:Nat)(c:dr):C_ Int:=gB (da m q) 1++qe m q c.guard c.guard.length
def ow(m:Model)(q:Nat)(c:dr)(n:Nat):C_ Int:=D9 m q c++(c.bE.take n).flatMap (qW m q)
def l6(m:Model)(q:Nat)(c:dr)(n:Nat):C_ Int:=gB (da m q) 1++(c.bE.take n).flatMap (mf m q)
theorem acG{m:Model}{q:Nat}{c:dr}{n:Nat}(h:n<c.bE.length):ow m q c (n+1)=ow m q c n++qW m q c.bE[n]:=by
 unfold ow;rw[L1 h,AH1,AK1,Wi]
theorem aeh{m:Model}{q:Nat}{c:dr}{n:Nat}(h:n<c.bE.length):l6 m q c (n+1)=l6 m q c n++mf m q c.bE[n]:=by
 unfold l6;rw[L1 h,AH1,AK1,Wi]
theorem XH{m:Model}{q:Nat}{e:C_ Node}{n:Nat}(h:n<e.length):qe m q e (n+1)=qe m q e n++gA m q (yG e n) e[n]:=by
 unfold qe;rw[AH9,AH1,AK1,List.getElem?_eq_getElem h]
theorem RU{e:C_ Node}{n:Nat}(h:n<e.length):yG e (n+1)=decide (e[n].op=5):=by
 simp only[yG,List.getElem?_eq_getElem h]
theorem DB{m:Model}{p:Int}{n:Nat}(h:n<(insts m).length):ps m p (n+1)=ps m p n++if (insts m)[n].proc=p then gB (da m n) 1 else []:=by
 unfold ps;rw[AH9,AH1,AK1,List.getElem?_eq_getElem h];simp only[Option.map_some,Option.some.injEq]
structure A0(s:Scope)(x:Node):Prop where
 var:x.op=2->0<=x.n/\∃v,s.vars[x.n.toNat]? = some v/\v.over=0
 item:x.op=3->0<=x.n/\x.n.toNat<s.vars.length
 loc:x.op=4->0<=x.n/\x.n.toNat<s.locals.length
 self:x.op=5->1<=s.self/\s.self<=s.scalars.length
 len:x.op=6->0<=x.n/\x.n.toNat<s.ar.length
 at_:x.op=7->0<=x.n/\(x.n.tdiv 16).toNat<s.procs.length
structure sK(s:Scope)(e:List Node):Prop where
 node:∀k (h:k<e.length),A0 s e[k]/\(e[k].op=3->0<k)
 len:e.length<=24
theorem anB{s:Scope}{x:Node}{top:Int}(h:(jc x s top).2=0):A0 s x:=by
 unfold jc at h;by_cases h1:x.op=1
 .exact⟨Aw,Aw,Aw,Aw,Aw,Aw⟩
 rw[if_neg h1] at h;by_cases I:x.op=2\/x.op=3\/x.op=4
 .rw[if_pos I] at h;simp only at h;by_cases ao:(gg (if x.op=4 then s.locals else s.vars) x.n s).2.2=false
  .rw[if_pos ao] at h;cases h
  rw[if_neg ao] at h;obtain⟨v,cq,cB,e5,hK,uX,Cn⟩:=abc (by simpa using ao);obtain⟨bI,bO,bQ⟩:=aa4 Cn;rw[hK] at h;simp only at h;have b4:=(List.getElem?_eq_some_iff.1 cB).1;by_cases ab:(x.op=3/\((hy v.over s).1=0\/top≠(hy v.over s).1))\/(x.op≠3/\(hy v.over s).1≠0)
  .rw[if_pos ab] at h;cases h
  .refine⟨fun e=>⟨e5,v,?_,?_⟩,fun e=>⟨e5,?_⟩,fun e=>⟨e5,?_⟩,Aw,Aw,Aw⟩
   .rw[if_neg Aw] at cB;exact cB
   .have:(hy v.over s).1=0:=Classical.byContradiction fun ax=>ab (.inr ⟨Aw,ax⟩)
    rw[bQ] at this;split at this
    .assumption
    .omega
   .rw[if_neg Aw] at b4;exact b4
   .rw[if_pos e] at b4;exact b4
 .rw[if_neg I] at h;unfold mq at h;refine⟨Aw,Aw,Aw,fun e=>?_,fun e=>?_,fun e=>?_⟩
  .rw[if_pos e] at h;by_cases q:1<=s.self/\s.self<=s.scalars.length
   .exact q
   .rw[if_neg q] at h;cases h
  .rw[if_neg Aw,if_pos e] at h;unfold ks at h;cases ax:nth s.ar x.n with
   | none=>rw[ax] at h;cases h
   | some c=>exact⟨(wW ax).1,(wW ax).2.2⟩
  .rw[if_neg Aw,if_neg Aw,if_pos e] at h;unfold Co at h;by_cases q:0<=x.n
   .rw[if_pos q] at h;cases ax:nth s.procs (x.n.tdiv 16) with
    | none=>rw[ax] at h;cases h
    | some c=>exact⟨q,(wW ax).2.2⟩
   .rw[if_neg q] at h;cases h
theorem aa2{e:C_ Node}{s:Scope}(h:(kind e s).2=0):sK s e:=by
 unfold kind lh at h;by_cases h1:e.length > 24
 .rw[if_pos h1] at h;cases h
 rw[if_neg h1] at h;by_cases I:e.length=0
 .exact⟨fun k hk=>Aw,Aw⟩
 rw[if_neg I] at h;by_cases ab:(eP (fk s) e []).1≠0
 .rw[if_pos ab] at h;exact absurd h ab
 have ab:(eP (fk s) e []).1=0:=by simpa using ab
 refine⟨fun k hk=>?_,Aw⟩;have si:∀j,(eP (fk s) (e.take j) []).1=0:=fun j=>Classical.byContradiction fun ax=>by
  have:=Su (f:=fk s) (e:=e) (k:=j) rfl ax
  rw[this] at ab;exact ax ab
 have fS:eP (fk s) (e.take k) []=(0,(eP (fk s) (e.take k) []).2):=Prod.ext (si k) rfl;have aE:=w4 hk fS;have aY:=si (k+1);rw[aE] at aY;unfold stepG at aY;by_cases cO:fe e[k].op<0
 .rw[if_pos cO] at aY;cases aY
 rw[if_neg cO] at aY;by_cases de:((eP (fk s) (e.take k) []).2.length:Int)<fe e[k].op
 .rw[if_pos de] at aY;cases aY
 rw[if_neg de] at aY;by_cases dQ:(fk s e[k] (eP (fk s) (e.take k) []).2).2≠0
 .rw[if_pos dQ] at aY;exact absurd aY dQ
 have dQ:(fk s e[k] (eP (fk s) (e.take k) []).2).2=0:=by simpa using dQ
 constructor
 .by_cases aJ:yv e[k].op=false
  .unfold fk at dQ;rw[RR aJ] at dQ;exact anB dQ
  .have:9<=e[k].op:=by
    simp only[yv,decide_eq_false_iff_not] at aJ;omega
   exact⟨Aw,Aw,Aw,Aw,Aw,Aw⟩
 .intro a1;apply Classical.byContradiction;intro ax;have gl:k=0:=Aw
  subst gl;rw[a1] at de;simp[eP,fe] at de
theorem Hi{e:C_ Node}{k:Int}{s:Scope}(h:asked e k s=0):sK s e:=by
 unfold asked at h;by_cases h1:(kind e s).2≠0
 .rw[if_pos h1] at h;exact absurd h h1
 .exact aa2 (by simpa using h1)
structure l8(s:Scope)(a:Act):Prop where
 set:a.kind=1->0<=a.to/\∃v,s.vars[a.to.toNat]? = some v/\v.over=0
 item:a.kind=2->0<=a.to/\a.to.toNat<s.vars.length/\sK s a.index
 loc:a.kind=3->0<=a.to/\a.to.toNat<s.locals.length
 chan:a.kind=4\/a.kind=5->0<=a.to/\a.to.toNat<s.ar.length
 recv:a.kind=5->0<=a.loc/\a.loc.toNat<s.locals.length
 val:a.kind≠5->sK s a.value
 kind:1<=a.kind/\a.kind<=5
theorem Od{l:C_ Var}{n:Int}{s:Scope}{q:Var×Int}(h:declared l n s=some q):0<=n/\l[n.toNat]? = some q.1/\n.toNat<l.length:=by
 unfold declared at h;cases ax:nth l n with
 | none=>rw[ax] at h;cases h
 | some v =>
  rw[ax] at h;simp only at h;split at h
  .injection h with h
   subst h;exact wW ax
  .cases h
theorem Nn{a:Act}{s:Scope}(h:kA a s=0):l8 s a:=by
 unfold kA at h;by_cases h1:a.kind=1\/a.kind=2\/a.kind=3
 .rw[if_pos h1] at h;cases a6:declared (if a.kind=3 then s.locals else s.vars) a.to s with
  | none=>rw[a6] at h;cases h
  | some q =>
   rw[a6] at h;obtain⟨v,k⟩:=q;obtain⟨d1,d2,d3⟩:=Od a6;simp only at h;by_cases I:(v.over≠0)≠(a.kind=2)
   .rw[if_pos I] at h;cases h
   rw[if_neg I] at h;have I:(v.over≠0)=(a.kind=2):=Classical.byContradiction fun q=>I q;by_cases ab:a.kind=2/\asked a.index (1+v.over) s≠0
   .rw[if_pos ab] at h;exact absurd h ab.2
   rw[if_neg ab] at h;refine⟨fun e=>⟨d1,v,?_,?_⟩,fun e=>⟨d1,?_,?_⟩,fun e=>⟨d1,?_⟩,Aw,Aw,fun _=>Hi h,Aw⟩
   .rw[if_neg Aw] at d2;exact d2
   .apply Classical.byContradiction;intro ax
    have:a.kind=2:=I ▸ ax
    omega
   .rw[if_neg Aw] at d3;exact d3
   .exact Hi (Classical.byContradiction fun ax=>ab ⟨e,ax⟩)
   .rw[if_pos e] at d3;exact d3
 .rw[if_neg h1] at h;by_cases I:a.kind=4\/a.kind=5
  .rw[if_pos I] at h;cases ai:channel a.to s with
   | none=>rw[ai] at h;cases h
   | some k =>
    rw[ai] at h;simp only at h;have qk:0<=a.to/\a.to.toNat<s.ar.length:=by
     unfold channel at ai;cases ax:nth s.ar a.to with
     | none=>rw[ax] at ai;cases ai
     | some c=>exact⟨(wW ax).1,(wW ax).2.2⟩
    refine⟨Aw,Aw,Aw,fun _=>qk,fun e=>?_,fun e=>?_,Aw⟩
    .rw[if_pos e] at h;unfold F6 at h;cases a6:declared s.locals a.loc s with
     | none=>rw[a6] at h;cases h
     | some q =>
      obtain⟨d1,d2,d3⟩:=Od a6;exact⟨d1,d3⟩
    .rw[if_neg e] at h;exact Hi h
  .rw[if_neg I] at h;cases h
structure vn(s:Scope)(c:dr):Prop where
 guard:sK s c.guard
 act:∀k (h:k<c.bE.length),l8 s c.bE[k]
 gG:c.bE.length<=6
theorem V8{s:Scope}:∀(l:C_ Act) (i:Nat) (t:Bool),(kV s l i t).2=0->∀k (h:k<l.length),l8 s l[k]
 | [],_,_,_,k,h=>by simp at h
 | a :: r,i,t,h,k,hk=>by
  unfold kV at h;by_cases h1:(hn a&&t)=true
  .rw[if_pos h1] at h;cases h
  rw[if_neg h1] at h;by_cases I:kA a s≠0
  .rw[if_pos I] at h;exact absurd h I
  rw[if_neg I] at h;cases k with
  | zero=>exact Nn (by simpa using I)
  | succ k=>exact V8 r _ _ h k (by simpa using hk)
theorem agL{c:dr}{b2:Int}{s:Scope}(h:(jn c b2 s).2=0):vn s c:=by
 unfold jn at h;by_cases h1:head c b2≠0
 .rw[if_pos h1] at h;exact absurd h h1
 rw[if_neg h1] at h;by_cases I:c.guard.length > 0/\asked c.guard 1 s≠0
 .rw[if_pos I] at h;exact absurd h I.2
 rw[if_neg I] at h;refine⟨?_,V8 _ _ _ h,?_⟩
 .by_cases aH:c.guard.length > 0
  .exact Hi (Classical.byContradiction fun ax=>I ⟨aH,ax⟩)
  .exact⟨fun k hk=>Aw,Aw⟩
 .apply Classical.byContradiction;intro ax;apply h1;unfold head;by_cases cO:isName c.name=false
  .rw[if_pos cO];decide
  rw[if_neg cO];by_cases de:c.from_<0\/b2<=c.from_\/c.to<0\/b2<=c.to
  .rw[if_pos de];decide
  rw[if_neg de,if_pos Aw];decide
theorem NX{m:Model}(h:(check m).cC=0):(mr m).cC=0:=by
 unfold check at h;by_cases a6:(data m).cC≠0
 .rw[if_pos a6] at h;exact absurd h a6
 rw[if_neg a6] at h;apply Classical.byContradiction;intro aq;rw[if_pos aq] at h;exact aq h
theorem agO{m:Model}(h:(check m).cC=0){p k:Nat}(aq:p<m.procs.length)(hk:k<m.procs[p].cy.length):vn (inner m.procs[p] (eF m)) m.procs[p].cy[k]:=by
 obtain⟨dB,_,_⟩:=Lv (NX h);obtain⟨_,cq,_,_⟩:=BC aq (dB p aq);obtain⟨_,_,hK⟩:=R2 cq;have e:hl m (p:Int)=inner m.procs[p] (eF m):=by
  unfold hl;rw[iv Aw Aw];rfl
 have aY:=(Hw _ _ hK k hk).1;rw[e] at aY;exact agL aY
theorem x6{L:C_ (C_ Int)}{B:C_ (C_ dN)}(h:L.map List.length=B.map List.length):L.flatten.length=total B:=by
 rw[List.length_flatten,h];rfl
def pre(Bd:C_ Int)(d:Nat):C_ Int:=Bd.take d++List.replicate (Bd.length - d) 0
theorem CU{Bd:C_ Int}{d:Nat}{x:Int}(h:Bd[d]? = some x):Bd.take (d+1)=Bd.take d++[x]:=by
 obtain⟨a6,rfl⟩:=List.getElem?_eq_some_iff.1 h;exact L1 a6
theorem afV{m:Model}{i:Nat}(h:i<m.ar.length):b6 m (i+1)=b6 m i+(1+m.ar[i].cap.toNat):=by
 have bk:i<(dx m).length:=by simpa[dx] using h
 unfold b6;rw[Gt bk];simp[dx,vI];omega
theorem afW(m:Model):b6 m 0=total (cP m):=by simp[b6,total]
theorem abd(s w:Int):∀(l:C_ dN) (k j:Nat) (h:j<l.length),(fB s w l k)[j]? = some ⟨s,w,(k+j:Nat),l[j].aQ,l[j].U,l[j].kind⟩
 | [],_,_,h=>by simp at h
 | b :: l,k,0,_=>by simp[fB]
 | b :: l,k,j+1,h=>by
  simp only[fB,List.getElem?_cons_succ,List.getElem_cons_succ];rw[abd s w l (k+1) j (by simpa using h),show k+1+j=k+(j+1) from Aw]
theorem NS(s:Int):∀(ls:C_ (C_ dN)) (i w k:Nat) (hw:w<ls.length) (hk:k<ls[w].length),(cellsOf s ls i)[total (ls.take w)+k]? = some ⟨s,(i+w:Nat),k,ls[w][k].aQ,ls[w][k].U,ls[w][k].kind⟩
 | [],_,_,_,hw,_=>by simp at hw
 | l :: r,i,0,k,_,hk=>by
  simp only[List.take_zero,total,List.map_nil,List.sum_nil,Nat.zero_add,List.getElem_cons_zero,cellsOf] at hk ⊢;rw[List.getElem?_append_left (by rw[u0];exact hk),abd s i l 0 k hk];simp
 | l :: r,i,w+1,k,hw,hk=>by
  simp only[List.take_succ_cons,Gs,List.getElem_cons_succ,cellsOf] at hk ⊢;rw[List.getElem?_append_right (by rw[u0];omega),u0,show l.length+total (r.take w)+k - l.length=total (r.take w)+k from Aw,NS s r (i+1) w k (by simpa using hw) hk,show i+1+w=i+(w+1) from Aw]
theorem abh{m:Model}{k p:Nat}(hk:k<(insts m).length)(aq:p<m.procs.length)(an:l0 m (insts m)[k]=u9 m.scalars m.procs[p]):∃h:da m k<(bU m).length,(bU m)[da m k].aQ=0/\(bU m)[da m k].U=m.procs[p].b2 - 1:=by
 have hw:k<(fu m).length:=by simpa[fu] using hk
 have e:(fu m)[k]=u9 m.scalars m.procs[p]:=by simp[fu,an]
 have ad:0<(fu m)[k].length:=by rw[e,Ap];omega
 have h1:=NS 3 (fu m) 0 k 0 hw ad;have I:=anu (m:=m) (c:=da m k) (by unfold da;omega);rw[show da m k - (total (cP m)+total (dx m))=total ((fu m).take k)+0 from by unfold da;omega,h1] at I;obtain⟨ab,aE⟩:=List.getElem?_eq_some_iff.1 I;refine⟨ab,?_,?_⟩
 .rw[aE];simp only[e];rfl
 .rw[aE];simp only[e];rfl
theorem Fits.loc{m:Model}{s:C_ Int}(h:Fits m s){k p:Nat}(hk:k<(insts m).length)(aq:p<m.procs.length)(an:l0 m (insts m)[k]=u9 m.scalars m.procs[p]):∃d:Nat,s[da m k]? = some (d:Int)/\(d:Int)<m.procs[p].b2:=by
 obtain⟨h1,I,ab⟩:=abh hk aq an;have ak:da m k<s.length:=by rw[h.len];exact h1
 have aE:=h.cell _ ak h1;rw[I,ab] at aE;refine⟨s[da m k].toNat,?_,Aw⟩;rw[List.getElem?_eq_getElem ak,Int.toNat_of_nonneg aE.1]
theorem Wl(m:Model)(s:C_ Int)(p l:Int)(k:Nat):rY m s p l (k+1)=rY m s p l k+if ((insts m)[k]?.map (·.proc))=some p/\s[da m k]? = some l then 1 else 0:=by
 unfold rY;rw[AH9,AK5,Lk,List.filter_cons,List.filter_nil];by_cases h:((insts m)[k]?.map (·.proc))=some p/\s[da m k]? = some l
 .rw[decide_eq_true h,if_pos rfl,if_pos h];rfl
 .rw[decide_eq_false h,if_neg Bh,if_neg h];rfl
theorem vA(m:Model)(s:C_ Int)(p:Nat)(n:Int)(k:Nat):(jl m s p n k).length=n.toNat:=by simp[jl]
theorem DC{m:Model}{s:C_ Int}{p:Nat}{n:Int}{k d:Nat}(h:d<n.toNat):(jl m s p n k)[d]? = some ((rY m s p d k:Nat):Int):=by
 simp[jl,h]
theorem Wo(m:Model)(s:C_ Int)(p:Nat)(n:Int):jl m s p n 0=List.replicate n.toNat 0:=by
 apply List.ext_getElem?;intro i;by_cases h:i<n.toNat
 .rw[DC h];simp[rY,h]
 .rw[List.getElem?_eq_none (by rw[vA];omega),List.getElem?_eq_none (by simp;omega)]
theorem Wm{m:Model}{s:C_ Int}{p:Nat}{n:Int}{k:Nat}(h:(insts m)[k]?.map (·.proc)≠some (p:Int)):jl m s p n (k+1)=jl m s p n k:=by
 unfold jl;apply List.map_congr_left;intro l _;rw[Wl,if_neg (fun e=>h e.1),AJ2]
theorem Wn{m:Model}{s:C_ Int}{p:Nat}{n:Int}{k d:Nat}(h:(insts m)[k]?.map (·.proc)=some (p:Int))(ak:s[da m k]? = some (d:Int))(a6:d<n.toNat):jl m s p n (k+1)=(jl m s p n k).set d ((rY m s p d k:Nat)+1:Int):=by
 apply List.ext_getElem?;intro i;rw[List.getElem?_set];by_cases U:i<n.toNat
 .rw[DC U,Wl];by_cases P2:d=i
  .subst P2;rw[if_pos ⟨h,ak⟩,if_pos rfl,if_pos (by rw[vA];exact a6)];rfl
  .rw[if_neg (fun e=>P2 (by have e2:=e.2;rw[ak] at e2;have a1:=Option.some.inj e2;omega)),if_neg P2,DC U,AJ2]
 .rw[List.getElem?_eq_none (by rw[vA];omega),if_neg Aw,List.getElem?_eq_none (by rw[vA];omega)]
theorem NA(m:Model)(s:C_ Int)(p l:Int)(k:Nat):rY m s p l k<=k:=by
 unfold rY;refine Ru (AK6 _ _) ?_;simp
theorem aaC{m:Model}:∀(l:C_ dw) (i:Nat),l=m.procs.drop i->∀x∈jO m l i,∃(p:Nat) (h:p<m.procs.length),x.proc=p/\(m.procs[p].over≠0->1<=x.elem)
 | [],_,_,x,af=>by simp[jO] at af
 | p :: r,i,h,x,af=>by
  have U:i<m.procs.length:=by
   apply Classical.byContradiction;intro ax;rw[AF0 Aw] at h;cases h
  rw[AF3 U] at h;injection h with h1 I
  simp only[jO,List.mem_append] at af;rcases af with (af | af) | af
  .unfold je at af;split at af
   .rename_i ad;rw[AG4] at af;subst af;exact⟨i,U,rfl,fun ax=>absurd (h1 ▸ ad) ax⟩
   .cases af
  .unfold jR at af;obtain⟨k,_,rfl⟩:=List.mem_map.1 af;exact⟨i,U,rfl,fun _=>by simp only;omega⟩
  .exact aaC r (i+1) I x af
structure fo(m:Model)(q p:Nat):Prop where
 ao:q<(insts m).length
 aq:p<m.procs.length
 eq:(insts m)[q].proc=p
 elem:m.procs[p].over≠0->1<=(insts m)[q].elem
 fL:0<=(insts m)[q].elem/\(insts m)[q].elem<=4
theorem Fq{m:Model}{q:Nat}(h:q<(insts m).length):∃p,fo m q p:=by
 obtain⟨p,aq,e,h1⟩:=aaC m.procs 0 Bh _ (Gy h);exact⟨p,h,aq,e,h1,(rr _ (Gy h)).elem⟩
theorem fo.nth{m:Model}{q p:Nat}(h:fo m q p):o.nth m.procs ((insts m)[q]'(h.ao)).proc=some (m.procs[p]'(h.aq)):=by
 rw[h.eq,iv Aw (by have:=h.aq;omega)];rfl
theorem fo.Wu{m:Model}{q p:Nat}(h:fo m q p):l0 m ((insts m)[q]'(h.ao))=u9 m.scalars (m.procs[p]'(h.aq)):=by
 unfold l0;rw[h.nth]
theorem fo.room{m:Model}{q p:Nat}(h:fo m q p):da m q+(1+(m.procs[p]'(h.aq)).vars.length)<=c6 m:=by
 have:=Q8 h.ao
 rw[h.Wu,Ap] at this;exact this
theorem DV{m:Model}{q:Nat}(h:q<(insts m).length):H3 m q=((insts m)[q]'h).elem.toNat:=by
 unfold H3;rw[List.getElem?_eq_getElem h]
theorem rv{m:Model}{v:Nat}(h:v<m.vars.length):o4 m v=(cells m.vars[v] m.scalars).toNat:=by
 unfold o4;rw[List.getElem?_eq_getElem h]
theorem oN{m:Model}{c:Nat}(h:c<m.ar.length):fH m c=m.ar[c].cap.toNat:=by
 unfold fH;rw[List.getElem?_eq_getElem h]
theorem Mb{m:Model}(aS:eD m){v:Nat}(h:v<m.vars.length):gp m v+o4 m v<=64:=by
 have:=rJ h
 rw[rv h]
 have:=mL m
 have:c6 m<=64:=iL aS
 omega
theorem xS{m:Model}(aS:eD m){c:Nat}(h:c<m.ar.length):b6 m c+(1+fH m c)<=64:=by
 have:=vF h
 rw[oN h]
 have:=mL m
 have:c6 m<=64:=iL aS
 omega
theorem Fo{m:Model}(aS:eD m){q:Nat}(h:q<(insts m).length):da m q+1<=64:=by
 obtain⟨p,aq⟩:=Fq h
 have:=aq.room
 have:c6 m<=64:=iL aS
 omega
theorem fo.F9{m:Model}(aS:eD m){q p:Nat}(h:fo m q p):da m q+(1+(m.procs[p]'(h.aq)).vars.length)<=64:=by
 have:=h.room
 have:c6 m<=64:=iL aS
 omega
structure fF(n:Nat)(l:List Int):Prop where
 aQ:∀x∈l,0<=x/\x<80
 len:l.length<=n
theorem fF.row{a n k:Nat}(h:a+n<=80)(ax:n<=k):fF k (gB a n):=⟨fun x af=>by have:=sB.1 af;omega,by rw[aqU];exact ax⟩
theorem fF.nil(n:Nat):fF n []:=⟨fun x af=>(by cases af),AG0 _⟩
theorem fF.app{a b n:Nat}{l r:C_ Int}(h:fF a l)(k:fF b r)(ax:a+b<=n):fF n (l++r):=⟨fun x af=>by
 rcases List.mem_append.1 af with af | af
 .exact h.aQ x af
 .exact k.aQ x af,by rw[Lk];have:=h.len;have:=k.len;omega⟩
theorem fF.mono{a n:Nat}{l:C_ Int}(h:fF a l)(ax:a<=n):fF n l:=⟨h.aQ,Ru h.len ax⟩
theorem aaO{m:Model}(aS:eD m){q v:Nat}(ao:q<(insts m).length)(aD:v<m.vars.length)(own:Bool):fF 64 (qB m q v own):=by
 have:=Mb aS aD
 have aE:=(rr _ (Gy ao)).elem
 have:=DV ao
 unfold qB;cases own
 .exact fF.row Aw Aw
 .exact fF.row Aw Aw
theorem Wk{m:Model}(aS:eD m)(p:Int):∀n,n<=(insts m).length->fF n (ps m p n)
 | 0,_=>fF.nil _
 | n+1,h=>by
  rw[DB Aw]
  have:=Fo aS (q:=n) Aw
  refine fF.app (Wk aS p n Aw) (b:=1) ?_ (Gf _);split
  .exact fF.row Aw (Gf _)
  .exact fF.nil _
theorem Fs{m:Model}(aS:eD m):(insts m).length<=30:=by have:=uS m;have:=aS.procs;omega
theorem aoq{m:Model}(aS:eD m){q p:Nat}(h:fo m q p){x:Node}(af:A0 (inner (m.procs[p]'(h.aq)) (eF m)) x)(own:Bool):fF 64 (gA m q own x):=by
 unfold gA;by_cases I:x.op=2
 .rw[if_pos I];obtain⟨_,v,aD,_⟩:=af.var I;have eT:x.n.toNat<m.vars.length:=(List.getElem?_eq_some_iff.1 aD).1
  have:=rJ eT
  have:=mL m
  have:c6 m<=64:=iL aS
  exact fF.row Aw Aw
 rw[if_neg I];by_cases ab:x.op=3
 .rw[if_pos ab];exact aaO aS h.ao (af.item ab).2 own
 rw[if_neg ab];by_cases aE:x.op=4
 .rw[if_pos aE];have aY:x.n.toNat<(m.procs[p]'(h.aq)).vars.length:=(af.loc aE).2
  have:=h.F9 aS
  exact fF.row Aw Aw
 rw[if_neg aE];by_cases bz:x.op=6
 .rw[if_pos bz]
  have:=xS aS (af.len bz).2
  exact fF.row Aw Aw
 rw[if_neg bz];by_cases b0:x.op=7
 .rw[if_pos b0];exact(Wk aS _ _ (Gf _)).mono (by have:=Fs aS;omega)
 .rw[if_neg b0];exact fF.nil _
theorem XI{m:Model}(aS:eD m){q p:Nat}(h:fo m q p){e:C_ Node}(he:sK (inner (m.procs[p]'(h.aq)) (eF m)) e):∀n,n<=e.length->fF (64*n) (qe m q e n)
 | 0,_=>fF.nil _
 | n+1,ax=>by
  rw[XH Aw];exact fF.app (XI aS h he n Aw) (aoq aS h (he.node n Aw).1 _) Aw
theorem OB{m:Model}(aS:eD m){q p:Nat}(h:fo m q p){e:C_ Node}(he:sK (inner (m.procs[p]'(h.aq)) (eF m)) e){n:Nat}(ax:n<=e.length):fF 1536 (qe m q e n) :=
 (XI aS h he n ax).mono (by have:=he.len;omega)
theorem NV{m:Model}(aS:eD m){c:Nat}(h:c<m.ar.length):fF 64 (vJ m c):=by
 have:=xS aS h
 exact fF.row Aw Aw
theorem ae1{m:Model}(aS:eD m){q p:Nat}(h:fo m q p){a:Act}(aU:l8 (inner (m.procs[p]'(h.aq)) (eF m)) a):fF 3072 (qW m q a):=by
 unfold qW;by_cases aY:a.kind=5
 .rw[if_pos aY];exact(NV aS (aU.chan (.inr aY)).2).mono Aw
 .rw[if_neg aY];refine fF.app (a:=1536) ?_ (OB aS h (aU.val aY) (Gf _)) Aw;by_cases I:a.kind=2
  .rw[if_pos I];exact OB aS h (aU.item I).2.2 (Gf _)
  rw[if_neg I];by_cases aE:a.kind=4
  .rw[if_pos aE]
   have:=xS aS (aU.chan (.inl aE)).2
   exact fF.row Aw Aw
  .rw[if_neg aE];exact fF.nil _
theorem ae2{m:Model}(aS:eD m){q p:Nat}(h:fo m q p){a:Act}(aU:l8 (inner (m.procs[p]'(h.aq)) (eF m)) a):fF 80 (mf m q a):=by
 have ko:=h.F9 aS;unfold mf;by_cases h1:a.kind=1
 .rw[if_pos h1];obtain⟨_,v,aD,_⟩:=aU.set h1;have eT:a.to.toNat<m.vars.length:=(List.getElem?_eq_some_iff.1 aD).1
  have:=Mb aS eT
  exact fF.row Aw Aw
 rw[if_neg h1];by_cases I:a.kind=2
 .rw[if_pos I];exact(aaO aS h.ao (aU.item I).2.1 _).mono Aw
 rw[if_neg I];by_cases ab:a.kind=3
 .rw[if_pos ab];have aY:a.to.toNat<(m.procs[p]'(h.aq)).vars.length:=(aU.loc ab).2;exact fF.row Aw Aw
 rw[if_neg ab];by_cases aE:a.kind=4
 .rw[if_pos aE];exact(NV aS (aU.chan (.inl aE)).2).mono Aw
 rw[if_neg aE];by_cases aY:a.kind=5
 .rw[if_pos aY];have bz:a.loc.toNat<(m.procs[p]'(h.aq)).vars.length:=(aU.recv aY).2;exact fF.app (NV aS (aU.chan (.inr aY)).2) (fF.row (k:=1) Aw Aw) Aw
 .rw[if_neg aY];exact fF.nil _
theorem ajb{m:Model}(aS:eD m){q p:Nat}(h:fo m q p){c:dr}(ai:vn (inner (m.procs[p]'(h.aq)) (eF m)) c):fF 1537 (D9 m q c):=by
 have:=Fo aS h.ao
 exact fF.app (fF.row (k:=1) Aw Aw) (OB aS h ai.guard (Gf _)) Aw
theorem Sg{m:Model}(aS:eD m){q p:Nat}(h:fo m q p){c:dr}(ai:vn (inner (m.procs[p]'(h.aq)) (eF m)) c):∀n,n<=c.bE.length->fF (1537+3072*n) (ow m q c n)
 | 0,_=>by
  unfold ow;simpa using ajb aS h ai
 | n+1,ax=>by
  rw[acG Aw];exact fF.app (Sg aS h ai n Aw) (ae1 aS h (ai.act n Aw)) Aw
theorem aej{m:Model}(aS:eD m){q p:Nat}(h:fo m q p){c:dr}(ai:vn (inner (m.procs[p]'(h.aq)) (eF m)) c):∀n,n<=c.bE.length->fF (1+80*n) (l6 m q c n)
 | 0,_=>by
  have:=Fo aS h.ao
  unfold l6;simpa using fF.row (a:=da m q) (n:=1) (k:=1) Aw Aw
 | n+1,ax=>by
  rw[aeh Aw];exact fF.app (aej aS h ai n Aw) (ae2 aS h (ai.act n Aw)) Aw
theorem aru{a:Act}(h:a.index.length=1):sD a=decide ((a.index[0]' Aw).op=5):=by
 obtain⟨x,af⟩:=List.length_eq_one_iff.1 h;unfold sD;simp[af]
theorem art{a:Act}(h:¬a.index.length=1):sD a=false:=by
 unfold sD;split
 .rename_i x af;rw[af] at h;exact absurd rfl h
 .rfl
theorem acm(L:C_ Int)(a n:Nat):L++gB a (n+1)=L++gB a n++[((a+n:Nat):Int)]:=by rw[aqV,Wi]
end o
namespace Go.Proofs.R
open Go Go.RowKit a7
structure pn(w:World)(b:Nat)(m:o.Model)(q:Nat):Prop where
 ex:∃cs ys bH,w.heap[b]? = some (.cells (cs++ys++[bH,.int .i64 q]).toArray T.a0)/\o.dU w cs m/\o.ky w ys (o.layout m)/\kk w bH (o.insts m)
theorem pn.ext{w w':A_}{b q:Nat}{m:o.Model}(he:Ext w w')(h:pn w b m q):pn w' b m q :=
 let ⟨xs,cs,bH,ad,h1,I,ab⟩:=h.ex; ⟨xs,cs,bH,he.obj ad,h1.ext he,I.ext he,ab.ext Flat.ext he⟩
theorem pn.form{w:A_}{b q:Nat}{m:o.Model}(h:pn w b m q):∃bW bu bI c1 bO c2 bQ bp bZ bB eB d0 dB d1 ec d2 er d3 eN d4 b9 ci,
  w.heap[b]? = some (.cells #[.slice eB m.scalars.length d0,.slice dB m.vars.length d1,.slice ec m.ar.length d2,.slice er m.procs.length d3,.slice eN m.props.length d4,
   .slice bW (o.layout m).vars.length bu,.slice bI (o.layout m).ar.length c1,.slice bO (o.layout m).insts.length c2,.I (o.layout m).cells,.slice bQ (o.layout m).aQ.length bp,.slice bZ (o.layout m).U.length bB,.slice b9 (o.insts m).length ci,.I q] T.a0) /\
  bg 1 (Flat cE) w (.slice bW (o.layout m).vars.length bu) (o.layout m).vars/\bg 1 (Flat cE) w (.slice bI (o.layout m).ar.length c1) (o.layout m).ar/\bg 1 (Flat cE) w (.slice bO (o.layout m).insts.length c2) (o.layout m).insts /\
  o.h5 w (.slice eB m.scalars.length d0) m.scalars/\o.hR w (.slice dB m.vars.length d1) m.vars/\o.mC w (.slice ec m.ar.length d2) m.ar/\o.qQ w (.slice er m.procs.length d3) m.procs /\
  kk w (.slice b9 (o.insts m).length ci) (o.insts m):=by
 obtain⟨cs,xs,bH,an,aS,cM,aX⟩:=h.ex;obtain⟨bW,bu,bI,c1,bO,c2,bQ,bp,bZ,bB,rfl,dV,dH,df,eO,fM⟩:=cM.form;obtain⟨eB,d0,dB,d1,ec,d2,er,d3,eN,d4,rfl,ad,h1,I,ab,aE,_⟩:=aS.form;obtain⟨b9,ci,rfl,_⟩:=aX.form;exact⟨bW,bu,bI,c1,bO,c2,bQ,bp,bZ,bB,eB,d0,dB,d1,ec,d2,er,d3,eN,d4,b9,ci,an,dV,dH,df,ad,h1,I,ab,aX⟩
theorem tR(b:Nat)(L:C_ Int)(a n:Nat)(x y:Int)(w:A_)(h:fi w b L)(af:x=a)(bK:y=n)(hm:a+n<=1000000000) :
  Dz F.HS #[.map (some b),.I x,.I y] w fun _ w'=>fi w' b (L++o.gB a n)/\Mod (fun i=>i=b) w w':=by
 subst af bK;refine bl E.HS ?_;refine J ?_;refine L_ 8 n [0,1,7] (fun _:Unit=>[]) () (fun k _ W=>Mod (fun i=>i=b) w W/\fi W b (L++o.gB a k)) a8 a8 ⟨Mod.refl _ _,by simpa[o.acY] using h⟩ ?_;rintro k _ S w1 hk ⟨ri,ff⟩;refine J ?_;apply I_<;>intro g1
 .refine J ?_;refine AD0 ff fun z=>?_;refine J ?_;refine _l ?_;refine J ?_;refine AD1 ff Aw fun aB nD dX=>?_;refine J ?_;refine⟨Aw,aL,(),trivial,ri.trans (nD.mod rfl),?_⟩;rw[o.acm];exact dX
 .have jw:k=n:=Aw
  subst jw;refine J ?_;exact⟨ff,ri⟩
theorem EJ(b q:Nat)(m:o.Model)(w:A_)(h:pn w b m q)(ao:q<(o.insts m).length) :
  Dz F.HT #[.pointer (some ⟨b,0,none⟩)] w fun v w'=>v = .I (o.da m q)/\Ext w w':=by
 obtain⟨bW,bu,bI,c1,bO,c2,bQ,bp,bZ,bB,eB,d0,dB,d1,ec,d2,er,d3,eN,d4,b9,ci,an,dV,dH,df,ad,h1,I,ab,aX⟩:=h.form;obtain⟨U,he⟩:=o.rq ao;obtain⟨a2,rfl⟩:=df.addr;refine bl E.HT ?_;refine J ?_;intro w1 ah;refine J ?_;exact⟨by rw[he],ah⟩
theorem S4(b cH q i:Nat)(L:C_ Int)(m:o.Model)(w0 w:A_)(h:pn w0 b m q)(he:Ext w0 w)(ml:w0.heap.size<=cH)(ak:fi w cH L)(aS:o.eD m)(U:i<m.ar.length) :
  Dz F.ex #[.pointer (some ⟨b,0,none⟩),.map (some cH),.I i] w fun _ w'=>fi w' cH (L++o.vJ m i)/\Mod (fun k=>k=cH) w w':=by
 obtain⟨bW,bu,bI,c1,bO,c2,bQ,bp,bZ,bB,eB,d0,dB,d1,ec,d2,er,d3,eN,d4,b9,ci,an,dV,dH,df,ad,h1,I,ab,aX⟩:=(h.ext he).form;obtain⟨j7,e0⟩:=o.s6 U;have sj:=o.xS aS U;have eE:=o.oN U;have hS:=(aS.chan _ (Gy U)).cap;have gG:=aS.gG;obtain⟨cZ,rfl⟩:=dH.addr;obtain⟨a2,rfl⟩:=I.addr;have dT:=(I.at i U).cells;refine bl E.ex ?_;refine J ?_;intro w1 ah;refine J ?_;refine J_ (tR cH L (o.b6 m i) (1+o.fH m i) _ _ w1 (ak.ext ah) (by rw[e0]) Aw Aw) ?_;rintro _ aB ⟨dX,fJ⟩;refine J ?_;exact⟨dX,ah.mod.trans fJ⟩
theorem Gw(b cH q i:Nat)(item own:Bool)(L:C_ Int)(m:o.Model)(w0 w:A_)(h:pn w0 b m q)(he:Ext w0 w)(ml:w0.heap.size<=cH)(ak:fi w cH L)(aS:o.eD m)(ao:q<(o.insts m).length)(U:i<m.vars.length)
  (aJ:item=true->own=true->1<=(o.insts m)[q].elem) :
  Dz F.z #[.pointer (some ⟨b,0,none⟩),.map (some cH),.I i,.bool item,.bool own] w fun _ w'=>fi w' cH (L++o.qB m q i (item&&own))/\Mod (fun k=>k=cH) w w':=by
 obtain⟨bW,bu,bI,c1,bO,c2,bQ,bp,bZ,bB,eB,d0,dB,d1,ec,d2,er,d3,eN,d4,b9,ci,an,dV,dH,df,ad,h1,I,ab,aX⟩:=(h.ext he).form;obtain⟨eM,hG⟩:=o.xf U;have sj:=o.Mb aS U;have wu:=o.rv U;have uH:=(o.rr _ (Gy ao)).elem;have fr:=o.DV ao;have dv:=o.r0 m.vars[i] m.scalars;obtain⟨a0,rfl⟩:=dV.addr;obtain⟨cZ,rfl⟩:=h1.addr;obtain⟨h7,rfl⟩:=aX.addr;have dT:=(h1.at i U).cells;cases item<;>cases own;rotate_left 3
 .have mR:=aJ rfl rfl;refine bl E.z ?_;refine J ?_;intro w1 ah;refine J ?_;refine J_ (tR cH L (o.gp m i+o.H3 m q - 1) 1 _ _ w1 (ak.ext ah) (by rw[hG];omega) rfl Aw) ?_;rintro _ aB ⟨dX,fJ⟩;refine J ?_;exact⟨dX,ah.mod.trans fJ⟩
 all_goals
  clear aJ;refine bl E.z ?_;refine J ?_;intro w1 ah;refine J ?_;refine J_ (Bu m.vars[i] _ m.scalars w1 (ad.ext ah)) ?_;rintro _ aB ⟨rfl,aj⟩;refine J ?_;refine J_ (tR cH L (o.gp m i) (o.o4 m i) _ _ aB ((ak.ext ah).ext aj) (by rw[hG]) Aw Aw) ?_;rintro _ aK ⟨gH,iY⟩;refine J ?_;exact⟨gH,(ah.mod.trans aj.mod).trans iY⟩
end Go.Proofs.R
end
section
namespace o
open Go
theorem abL{m:Model}{q:Nat}{own:Bool}{x:Node}(h:x.op=2){v:Var}(aD:m.vars[x.n.toNat]? = some v)(ad:v.over=0):qB m q x.n.toNat false=gA m q own x:=by
 obtain⟨h1,I⟩:=List.getElem?_eq_some_iff.1 aD;unfold gA qB;rw[if_pos h,if_neg Bh,rv h1,I]
 have:cells v m.scalars=1:=by unfold cells;rw[if_pos ad]
 rw[this];rfl
end o
namespace Go.Proofs.R
open Go Go.RowKit a7
structure xn(w:World)(bJ kW b cH:Nat):Prop where
 x:w.heap[bJ]? = some (.cells #[.pointer (some ⟨b,0,none⟩)] T.rW)
 z:w.heap[kW]? = some (.cells #[.map (some cH)] T.r)
theorem xn.mod{w w':A_}{bJ kW b cH:Nat}{L:C_ Int}(h:xn w bJ kW b cH)(ak:fi w cH L)(hm:Mod (fun k=>k=cH) w w'):xn w' bJ kW b cH:=by
 obtain⟨es,c,ai,_⟩:=ak.ex;have ax:∀{k:Nat} {cs t},w.heap[k]? = some (.cells cs t)->¬k=cH:=fun hk e=>by subst e;rw[hk] at ai;cases ai
 exact⟨hm.obj (ax h.x) h.x,hm.obj (ax h.z) h.z⟩
theorem xn.ext{w w':A_}{bJ kW b cH:Nat}(h:xn w bJ kW b cH)(he:Ext w w'):xn w' bJ kW b cH:=⟨he.obj h.x,he.obj h.z⟩
theorem ah5(x:o.Node)(own:Bool)(b cH bJ kW q p:Nat)(L:C_ Int)(m:o.Model)(w0 w:A_)(h:pn w0 b m q)(he:Ext w0 w)(ml:w0.heap.size<=cH)(ak:fi w cH L)(j5:xn w bJ kW b cH)(aS:o.eD m)(aX:o.fo m q p)
  (af:o.A0 (o.inner (m.procs[p]'(aX.aq)) (o.eF m)) x)(c5:x.ok)(aJ:own=true->1<=((o.insts m)[q]'(aX.ao)).elem) :
  Dz F.Bj #[.agg x.enc.toArray,.bool own,.pointer (some ⟨bJ,0,none⟩),.pointer (some ⟨kW,0,none⟩)] w fun _ w'=>fi w' cH (L++o.gA m q own x)/\Mod (fun k=>k=cH) w w':=by
 have ao:=aX.ao;have ko:=aX.F9 aS;have Q4:=c5.op;have Q3:=c5.n;unfold o.dP at Q4 Q3;have n4:=j5.x;have we:=j5.z;obtain⟨bW,bu,bI,c1,bO,c2,bQ,bp,bZ,bB,eB,d0,dB,d1,ec,d2,er,d3,eN,d4,b9,ci,sa,dV,dH,df,_,_,_,_,O1⟩:=h.form;refine bl E.Bj ?_;refine J ?_;intro w1 cx e3 ah bf;replace n4:=ah.obj n4;replace we:=ah.obj we;have ff:=ak.ext ah;have jE:=he.trans ah;obtain⟨es,ce,e0,_⟩:=ff.ex;have tJ:¬cx=cH:=fun e=>by subst e;rw[bf] at e0;cases e0
 have tL:¬bJ=cH:=fun e=>by subst e;rw[n4] at e0;cases e0
 have aoC:¬kW=cH:=fun e=>by subst e;rw[we] at e0;cases e0
 clear e0;unfold o.Node.enc at bf;refine J ?_;apply I_<;>intro g2
 .obtain⟨gv,v,aD,iJ⟩:=af.var g2;have eT:x.n.toNat<m.vars.length:=(List.getElem?_eq_some_iff.1 aD).1;have gZ:x.n=(x.n.toNat:Nat):=Aw
  refine J ?_;rw[gZ];refine J_ (Gw b cH q x.n.toNat false false L m w0 w1 h jE ml ff aS ao eT (fun a=>by cases a)) ?_;rintro _ aB ⟨dX,fJ⟩;rw[Bool.false_and,o.abL g2 aD iJ (own:=own)] at dX;refine J ?_;exact⟨dX,ah.mod.trans fJ⟩
 refine J ?_;apply I_<;>intro g3
 .obtain⟨gv,eT⟩:=af.item g3;have gZ:x.n=(x.n.toNat:Nat):=Aw
  refine J ?_;rw[gZ];refine J_ (Gw b cH q x.n.toNat true own L m w0 w1 h jE ml ff aS ao eT (fun _ a=>aJ a)) ?_;rintro _ aB ⟨dX,fJ⟩;have a1:o.gA m q own x=o.qB m q x.n.toNat (true&&own):=by unfold o.gA;rw[if_neg g2,if_pos g3,AJ3]
  rw[<-a1] at dX;refine J ?_;exact⟨dX,ah.mod.trans fJ⟩
 refine J ?_;apply I_<;>intro g4
 .obtain⟨gv,eT⟩:=af.loc g4;have fa:x.n.toNat<(m.procs[p]'(aX.aq)).vars.length:=eT;have bC:o.gA m q own x=o.gB (o.da m q+1+x.n.toNat) 1:=by unfold o.gA;rw[if_neg g2,if_neg g3,if_pos g4]
  rw[bC];refine J ?_;intro aB aj;refine J ?_;refine J_ (EJ b q m aB (h.ext (jE.trans aj)) ao) ?_;rintro _ aK ⟨rfl,ag⟩;refine⟨ag,?_⟩;refine J ?_;refine J_ (tR cH L (o.da m q+1+x.n.toNat) 1 _ _ aK ((ff.ext aj).ext ag) Aw rfl Aw) ?_;rintro _ aR ⟨lb,jM⟩;refine J ?_;exact⟨lb,((ah.mod.trans aj.mod).trans ag.mod).trans jM⟩
 refine J ?_;apply I_<;>intro g6
 .obtain⟨gv,eT⟩:=af.len g6;have fa:x.n.toNat<m.ar.length:=eT;have EC:=o.xS aS fa;have gZ:x.n=(x.n.toNat:Nat):=Aw
  have cg:o.gA m q own x=o.gB (o.b6 m x.n.toNat) 1:=by unfold o.gA;rw[if_neg g2,if_neg g3,if_neg g4,if_pos g6]
  rw[cg];obtain⟨j7,e0⟩:=o.s6 fa;obtain⟨cZ,rfl⟩:=dH.addr;have an:=jE.obj sa;have Sa:=dH.ext Flat.ext jE;rw[gZ] at bf;refine J ?_;intro aB aj;refine J ?_;refine J_ (tR cH L (o.b6 m x.n.toNat) 1 _ _ aB (ff.ext aj) (by rw[e0]) rfl Aw) ?_;rintro _ aR ⟨lb,jM⟩;refine J ?_;exact⟨lb,(ah.mod.trans aj.mod).trans jM⟩
 refine J ?_;apply I_<;>intro g7;rotate_left
 .have eY:o.gA m q own x=[]:=by unfold o.gA;rw[if_neg g2,if_neg g3,if_neg g4,if_neg g6,if_neg g7]
  rw[eY,AF2];refine J ?_;exact⟨ff,ah.mod⟩
 have c8:o.gA m q own x=o.ps m (x.n.tdiv 16) (o.insts m).length:=by unfold o.gA;rw[if_neg g2,if_neg g3,if_neg g4,if_neg g6,if_pos g7]
 rw[c8];obtain⟨f6,f7,f8⟩:=o.tC m;obtain⟨gv,Cf⟩:=af.at_ g7;have alM:(x.n.tdiv 16).toNat<m.procs.length:=Cf;have alX:=AK7 gv (show(0:Int)<=16 by omega);have alQ:=aS.procs;have alW : -9223372036854775808<=x.n.tdiv 16/\x.n.tdiv 16<=9223372036854775807:=Aw
 have r8:∀{W},Mod (fun k=>k=cH) w1 W->Ext w0 W:=fun hm=>hm.ext jE fun k hk e=>Aw
 have gG:=o.Fs aS;have cF:=jE.obj sa;clear dV dH;refine J ?_;refine L_ 55 (o.insts m).length [2,3,4,53,54] (fun _:Unit=>[]) () (fun k _ W=>Mod (fun i=>i=cH) w1 W/\fi W cH (L++o.ps m (x.n.tdiv 16) k)) a8 a8 ⟨Mod.refl _ _,by simpa[o.ps] using ff⟩ ?_;have PJ:=we;have k6:=n4;have fR:=bf;clear n4 we bf cF;rintro k _ S aB hk ⟨fJ,dX⟩;have n4:=fJ.obj tL k6;have we:=fJ.obj aoC PJ;have bf:=fJ.obj tJ fR;have an:=(r8 fJ).obj sa;have zz:=O1.ext Flat.ext (r8 fJ);refine J ?_;apply I_<;>intro g1
 .have cI:k<(o.insts m).length:=Aw
  obtain⟨h7,rfl⟩:=O1.addr;obtain⟨EM,qu⟩:=o.rq cI;have EN:=o.Fo aS cI;obtain⟨a2,rfl⟩:=df.addr;have acw:=df.ext Flat.ext (r8 fJ);refine J ?_;intro wn iC ia fr eE;refine J ?_;intro aK fY cf;have ag:Ext aB aK:=fY.ext fr ia;replace n4:=ag.obj n4;replace we:=ag.obj we;replace bf:=ag.obj bf;replace an:=ag.obj an;replace acw:=acw.ext Flat.ext ag;have gH:=dX.ext ag;have iY:=fJ.trans ag.mod;clear dX zz;refine J ?_;refine _J Aw ?_;refine J ?_;apply I_<;>intro g2
  .refine J ?_;intro aR aw;refine J ?_;refine J_ (tR cH _ (o.da m k) 1 _ _ aR (gH.ext aw) (by rw[qu]) rfl Aw) ?_;rintro _ bo ⟨rp,ly⟩;refine J ?_;refine⟨cI,aL,(),trivial,(iY.trans aw.mod).trans ly,?_⟩;rw[o.DB cI,if_pos g2,<-Wi];exact rp
  .refine J ?_;refine⟨cI,aL,(),trivial,iY,?_⟩;rw[o.DB cI,if_neg g2,AF2];exact gH
 .have jw:(o.insts m).length=k:=Aw
  rw[jw];refine J ?_;exact⟨dX,ah.mod.trans fJ⟩
theorem aho(e:C_ o.Node)(v:B_)(b cH bJ kW q p:Nat)(L:C_ Int)(m:o.Model)(w0 w:A_)(h:pn w0 b m q)(he:Ext w0 w)(ml:w0.heap.size<=cH)(ak:fi w cH L)(j5:xn w bJ kW b cH)(aS:o.eD m)(aX:o.fo m q p)
  (ax:o.eL w0 v e)(af:o.sK (o.inner (m.procs[p]'(aX.aq)) (o.eF m)) e) :
  Dz F.H9 #[v,.func (.func F.Bj) #[] #[.pointer (some ⟨bJ,0,none⟩),.pointer (some ⟨kW,0,none⟩)]] w fun _ w'=>fi w' cH (L++o.qe m q e e.length)/\Mod (fun k=>k=cH) w w':=by
 obtain⟨aO,fz,rfl,az⟩:=ax.form;have r8:∀{W},Mod (fun k=>k=cH) w W->Ext w0 W:=fun hm=>hm.ext he fun k hk e=>Aw
 have hle:=af.len;refine bl E.H9 ?_;refine J ?_;refine L_ 9 e.length [1,7,8] (fun ae:Bool=>[(4,.bool ae)]) false (fun k ae W=>ae=o.yG e k/\Mod (fun i=>i=cH) w W/\fi W cH (L++o.qe m q e k)) a8 a8 ⟨rfl,Mod.refl _ _,by simpa[o.qe] using ak⟩ ?_;rintro k ae S w1 hk ⟨rfl,ri,ff⟩;have rk:=ax.ext (r8 ri);have Yl:=j5.mod ak ri;refine J ?_;apply I_<;>intro g1
 .have cI:k<e.length:=Aw
  obtain⟨a,rfl⟩:=ax.addr;have fg:=(ax.at k cI).ok;have uP:=af.node k cI;refine J ?_;intro aB ee gf aj b1;have dX:=ff.ext aj;have fJ:=ri.trans aj.mod;have ajl:=Yl.ext aj;have n6:¬ee=cH:=fun e=>by subst e;obtain⟨_,_,e0,_⟩:=dX.ex;rw[b1] at e0;cases e0
  clear rk ff Yl;refine J ?_;refine V_ (first:=[]) (cap:=[.pointer (some ⟨bJ,0,none⟩),.pointer (some ⟨kW,0,none⟩)]) Cq (ah5 e[k] (o.yG e k) b cH bJ kW q p _ m w0 aB h (r8 fJ) ml dX ajl aS aX uP.1 fg ?_) ?_
  .intro fK;cases k with
   | zero=>cases fK
   | succ j =>
    rw[o.RU Aw] at fK;have aY:=(af.node j Aw).1.self (by simpa using fK);exact aX.elem (by have:(o.inner (m.procs[p]'(aX.aq)) (o.eF m)).self=(m.procs[p]'(aX.aq)).over:=rfl;omega)
  rintro _ aK ⟨gH,iY⟩;have akg:=iY.obj n6 b1;clear b1;refine J ?_;refine⟨cI,aL,_,⟨rfl,trivial⟩,?_,fJ.trans iY,?_⟩
  .rw[o.RU cI]
  .rw[o.XH cI,<-Wi];exact gH
 .have jw:e.length=k:=Aw
  rw[jw];refine J ?_;exact⟨ff,ri⟩
theorem D3(e:C_ o.Node)(v:B_)(b cH q p:Nat)(L:C_ Int)(m:o.Model)(w0 w:A_)(h:pn w0 b m q)(he:Ext w0 w)(ml:w0.heap.size<=cH)(ak:fi w cH L)(aS:o.eD m)(aX:o.fo m q p)
  (ax:o.eL w0 v e)(af:o.sK (o.inner (m.procs[p]'(aX.aq)) (o.eF m)) e) :
  Dz F.ds #[.pointer (some ⟨b,0,none⟩),.map (some cH),v] w fun _ w'=>fi w' cH (L++o.qe m q e e.length)/\Mod (fun k=>k=cH) w w':=by
 refine bl E.ds ?_;refine J ?_;intro w1 bJ n4 ah k6;refine J ?_;intro aB kW we aj PJ;refine J ?_;refine J_ (aho e v b cH bJ kW q p L m w0 aB h ((he.trans ah).trans aj) ml ((ak.ext ah).ext aj) ⟨aj.obj k6,PJ⟩ aS aX ax af) ?_;rintro _ aK ⟨gH,iY⟩;refine J ?_;exact⟨gH,(ah.mod.trans aj.mod).trans iY⟩
theorem aqm(a:o.Act)(bH bV:B_)(b cH q p:Nat)(L:C_ Int)(m:o.Model)(w0 w:A_)(h:pn w0 b m q)(he:Ext w0 w)(ml:w0.heap.size<=cH)(ak:fi w cH L)(aS:o.eD m)(aX:o.fo m q p)
  (U:o.eL w0 bH a.index)(aD:o.eL w0 bV a.value)(aU:o.l8 (o.inner (m.procs[p]'(aX.aq)) (o.eF m)) a) :
  Dz F.HV #[.pointer (some ⟨b,0,none⟩),.map (some cH),.agg (a.enc bH bV).toArray] w fun _ w'=>fi w' cH (L++o.qW m q a)/\Mod (fun k=>k=cH) w w':=by
 obtain⟨bW,bu,bI,c1,bO,c2,bQ,bp,bZ,bB,eB,d0,dB,d1,ec,d2,er,d3,eN,d4,b9,ci,sa,dV,dH,df,_,_,_,_,O1⟩:=h.form;have zP:=aU.kind;refine bl E.HV ?_;refine J ?_;intro w1 dE kI ah bY;have ff:=ak.ext ah;have jE:=he.trans ah;have an:=jE.obj sa;obtain⟨es,ce,e0,_⟩:=ff.ex;have n5:¬dE=cH:=fun e=>by subst e;rw[bY] at e0;cases e0
 clear e0;unfold o.Act.enc at bY;refine J ?_;apply I_<;>intro g2
 .refine J ?_;refine J_ (D3 a.index bH b cH q p L m w0 w1 h jE ml ff aS aX U (aU.item g2).2.2) ?_;rintro _ aB ⟨dX,fJ⟩;have BY:=fJ.obj n5 bY;clear bY an;refine J ?_;refine J_ (D3 a.value bV b cH q p _ m w0 aB h (fJ.ext jE fun k hk e=>Aw) ml dX aS aX aD (aU.val Aw)) ?_;rintro _ aK ⟨gH,iY⟩;refine J ?_;refine⟨?_,(ah.mod.trans fJ).trans iY⟩;unfold o.qW;rw[if_neg Aw,if_pos g2,<-Wi];exact gH
 refine J ?_;apply I_<;>intro g4
 .obtain⟨gv,eT⟩:=aU.chan (.inl g4);have fa:a.to.toNat<m.ar.length:=eT;have EC:=o.xS aS fa;have gZ:a.to=(a.to.toNat:Nat):=Aw
  obtain⟨j7,e0⟩:=o.s6 fa;obtain⟨cZ,rfl⟩:=dH.addr;have Sa:=dH.ext Flat.ext jE;rw[gZ] at bY;refine J ?_;intro aB aj;have BY:=aj.obj bY;refine J ?_;refine J_ (tR cH L (o.b6 m a.to.toNat) 1 _ _ aB (ff.ext aj) (by rw[e0]) rfl Aw) ?_;rintro _ aK ⟨gH,iY⟩;have auv:=iY.obj n5 BY;clear bY BY an;refine J ?_;refine J_ (D3 a.value bV b cH q p _ m w0 aK h (iY.ext (jE.trans aj) fun k hk e=>Aw) ml gH aS aX aD (aU.val Aw)) ?_;rintro _ aR ⟨lb,jM⟩;refine J ?_;refine⟨?_,((ah.mod.trans aj.mod).trans iY).trans jM⟩;unfold o.qW;rw[if_neg Aw,if_neg g2,if_pos g4,<-Wi];exact lb
 refine J ?_;apply I_<;>intro g5
 .obtain⟨gv,eT⟩:=aU.chan (.inr g5);have fa:a.to.toNat<m.ar.length:=eT;have gZ:a.to=(a.to.toNat:Nat):=Aw
  rw[gZ] at bY;refine J ?_;refine J_ (S4 b cH q a.to.toNat L m w0 w1 h jE ml ff aS fa) ?_;rintro _ aB ⟨dX,fJ⟩;refine J ?_;refine⟨?_,ah.mod.trans fJ⟩;unfold o.qW;rw[if_pos g5];exact dX
 .refine J ?_;refine J_ (D3 a.value bV b cH q p _ m w0 w1 h jE ml ff aS aX aD (aU.val g5)) ?_;rintro _ aB ⟨dX,fJ⟩;refine J ?_;refine⟨?_,ah.mod.trans fJ⟩;unfold o.qW;rw[if_neg g5,if_neg g2,if_neg g4,AF9];exact dX
theorem as7(a:o.Act)(bH bV:B_)(b cH q p:Nat)(L:C_ Int)(m:o.Model)(w0 w:A_)(h:pn w0 b m q)(he:Ext w0 w)(ml:w0.heap.size<=cH)(ak:fi w cH L)(aS:o.eD m)(aX:o.fo m q p)
  (U:o.eL w0 bH a.index)(aU:o.l8 (o.inner (m.procs[p]'(aX.aq)) (o.eF m)) a) :
  Dz F.HW #[.pointer (some ⟨b,0,none⟩),.map (some cH),.agg (a.enc bH bV).toArray] w fun _ w'=>fi w' cH (L++o.mf m q a)/\Mod (fun k=>k=cH) w w':=by
 have zP:=aU.kind;have ao:=aX.ao;have ko:=aX.F9 aS;refine bl E.HW ?_;refine J ?_;intro w1 dE kI ah bY;have ff:=ak.ext ah;have jE:=he.trans ah;obtain⟨es,ce,e0,_⟩:=ff.ex;have n5:¬dE=cH:=fun e=>by subst e;rw[bY] at e0;cases e0
 clear e0;obtain⟨b9,ci,rfl,avJ⟩:=U.form;unfold o.Act.enc at bY;refine J ?_;apply I_<;>intro g1
 .obtain⟨gv,v,aD,iJ⟩:=aU.set g1;have eT:a.to.toNat<m.vars.length:=(List.getElem?_eq_some_iff.1 aD).1;have gZ:a.to=(a.to.toNat:Nat):=Aw
  rw[gZ] at bY;refine J ?_;refine J_ (Gw b cH q a.to.toNat false false L m w0 w1 h jE ml ff aS ao eT (fun a=>by cases a)) ?_;rintro _ aB ⟨dX,fJ⟩;refine J ?_;refine⟨?_,ah.mod.trans fJ⟩;unfold o.mf;rw[if_pos g1];have e:=o.abL (m:=m) (q:=q) (own:=false) (x:=⟨2,a.to⟩) rfl aD iJ;unfold o.gA at e;rw[if_pos rfl] at e;rw[Bool.false_and,e] at dX;exact dX
 refine J ?_;apply I_<;>intro g2
 .obtain⟨gv,eT,P4⟩:=aU.item g2;have fa:a.to.toNat<m.vars.length:=eT;have gZ:a.to=(a.to.toNat:Nat):=Aw
  rw[gZ] at bY;have Oo:o.mf m q a=o.qB m q a.to.toNat (o.sD a):=by unfold o.mf;rw[if_neg g1,if_pos g2]
  rw[Oo];have Jq:=U.ext jE;refine J ?_;intro aB aj;replace bY:=aj.obj bY;replace Jq:=Jq.ext aj;refine J ?_;apply I_<;>intro g3
  .obtain⟨h7,rfl⟩:=U.addr;have uP:=(P4.node 0 Aw).1;have tw:=o.aru (a:=a) Aw;refine J ?_;refine K_ 0 rfl Aw ?_;refine J ?_;refine J_ (Gw b cH q a.to.toNat true (decide ((a.index[0]' Aw).op=5)) L m w0 aB h (jE.trans aj) ml (ff.ext aj) aS ao fa (fun _ aY=>?_)) ?_
   .have aY:=uP.self (by simpa using aY);exact aX.elem (by have:(o.inner (m.procs[p]'(aX.aq)) (o.eF m)).self=(m.procs[p]'(aX.aq)).over:=rfl;omega)
   rintro _ aK ⟨gH,iY⟩;rw[AJ3,<-tw] at gH;refine J ?_;exact⟨gH,(ah.mod.trans aj.mod).trans iY⟩
  .have tw:=o.art (a:=a) Aw;refine J ?_;refine J_ (Gw b cH q a.to.toNat true false L m w0 aB h (jE.trans aj) ml (ff.ext aj) aS ao fa (fun _ aY=>by cases aY)) ?_;rintro _ aK ⟨gH,iY⟩;rw[Bool.and_false,<-tw] at gH;refine J ?_;exact⟨gH,(ah.mod.trans aj.mod).trans iY⟩
 refine J ?_;apply I_<;>intro g3
 .obtain⟨gv,eT⟩:=aU.loc g3;have fa:a.to.toNat<(m.procs[p]'(aX.aq)).vars.length:=eT;have Oo:o.mf m q a=o.gB (o.da m q+1+a.to.toNat) 1:=by unfold o.mf;rw[if_neg g1,if_neg g2,if_pos g3]
  rw[Oo];refine J ?_;intro aB aj;refine J ?_;refine J_ (EJ b q m aB (h.ext (jE.trans aj)) ao) ?_;rintro _ aK ⟨rfl,ag⟩;refine⟨ag,?_⟩;refine J ?_;refine J_ (tR cH L (o.da m q+1+a.to.toNat) 1 _ _ aK ((ff.ext aj).ext ag) Aw rfl Aw) ?_;rintro _ aR ⟨lb,jM⟩;refine J ?_;exact⟨lb,((ah.mod.trans aj.mod).trans ag.mod).trans jM⟩
 refine J ?_;apply I_<;>intro g4
 .obtain⟨gv,eT⟩:=aU.chan (.inl g4);have fa:a.to.toNat<m.ar.length:=eT;have gZ:a.to=(a.to.toNat:Nat):=Aw
  rw[gZ] at bY;refine J ?_;refine J_ (S4 b cH q a.to.toNat L m w0 w1 h jE ml ff aS fa) ?_;rintro _ aB ⟨dX,fJ⟩;refine J ?_;refine⟨?_,ah.mod.trans fJ⟩;unfold o.mf;rw[if_neg g1,if_neg g2,if_neg g3,if_pos g4];exact dX
 have g5:a.kind=5:=Aw
 .obtain⟨gv,eT⟩:=aU.chan (.inr g5);obtain⟨cq,ir⟩:=aU.recv g5;have se:a.loc.toNat<(m.procs[p]'(aX.aq)).vars.length:=ir;have fa:a.to.toNat<m.ar.length:=eT;have gZ:a.to=(a.to.toNat:Nat):=Aw
  rw[gZ] at bY;refine J ?_;refine J_ (S4 b cH q a.to.toNat L m w0 w1 h jE ml ff aS fa) ?_;rintro _ aB ⟨dX,fJ⟩;have auu:=fJ.obj n5 bY;have cY:=fJ.ext jE fun k hk e=>Aw
  clear bY;refine J ?_;intro aK ag;refine J ?_;refine J_ (EJ b q m aK (h.ext (cY.trans ag)) ao) ?_;rintro _ aR ⟨rfl,aw⟩;refine⟨aw,?_⟩;refine J ?_;refine J_ (tR cH _ (o.da m q+1+a.loc.toNat) 1 _ _ aR ((dX.ext ag).ext aw) Aw rfl Aw) ?_;rintro _ bo ⟨rp,ly⟩;refine J ?_;refine⟨?_,(((ah.mod.trans fJ).trans ag.mod).trans aw.mod).trans ly⟩;unfold o.mf;rw[if_neg g1,if_neg g2,if_neg g3,if_neg g4,if_pos g5,<-Wi];exact rp
end Go.Proofs.R
end
section
namespace o
open Go
structure ez(m:Model)(ref:Int)(q p k:Nat):Prop where
 ok:(check m).cC=0
 aQ:0<=ref
 U:ref.toNat<(refs m).length
 at_:Vw m ((refs m)[ref.toNat]) q p k
def Told(m:Model)(ref:Int):Prop:=(check m).cC=0/\0<=ref/\ref<(refs m).length
theorem oO{m:Model}{ref:Int}(h:Told m ref):∃q p k,ez m ref q p k:=by
 obtain⟨h1,I,ab⟩:=h;obtain⟨q,p,k,aE⟩:=aqI (Gy (show ref.toNat<(refs m).length by omega));exact⟨q,p,k,h1,I,Aw,aE⟩
theorem ez.told{m:Model}{ref:Int}{q p k:Nat}(h:ez m ref q p k):Told m ref:=⟨h.ok,h.aQ,by have:=h.U;have:=h.aQ;omega⟩
theorem ez.inst{m:Model}{ref:Int}{q p k:Nat}(h:ez m ref q p k):fo m q p:=by
 obtain⟨eX,aq⟩:=Fq h.at_.U;have e:eX=p:=by
  have h1:=aq.eq;rw[h.at_.ip] at h1;omega
 subst e;exact aq
theorem ez.one{m:Model}{ref:Int}{q p k ei eX k':Nat}(h:ez m ref q p k)(bk:ez m ref ei eX k'):q=ei/\p=eX/\k=k':=by
 have e1:q=ei:=by have a:=h.at_.ox;have b:=bk.at_.ox;omega
 subst e1;have a:=h.at_.ip;have b:=bk.at_.ip;have c:=h.at_.sA;have d:=bk.at_.sA;exact⟨rfl,Aw,Aw⟩
def bx(m:Model)(p k:Nat):dr:=((m.procs[p]?.map (·.cy[k]?)).join).getD ⟨⟨#[]⟩,0,0,[],[],false⟩
theorem vK{m:Model}{p k:Nat}(aq:p<m.procs.length)(hk:k<m.procs[p].cy.length):bx m p k=m.procs[p].cy[k]:=by
 unfold bx;rw[List.getElem?_eq_getElem aq];simp[hk]
theorem ez.cin{m:Model}{ref:Int}{q p k:Nat}(h:ez m ref q p k):vn (inner (m.procs[p]'(h.at_.aq)) (eF m)) (bx m p k):=by
 rw[vK h.at_.aq h.at_.hk];exact agO h.ok h.at_.aq h.at_.hk
structure kz(m:Model)(ref:Int)(a b:List Int):Prop where
 there:∀q p k,ez m ref q p k->qU (ow m q (bx m p k) (bx m p k).bE.length) a/\qU (l6 m q (bx m p k) (bx m p k).bE.length) b
 none:¬Told m ref->a=[]/\b=[]
theorem kz.eq{m:Model}{ref:Int}{a b cp fG:C_ Int}(h:kz m ref a b)(bk:kz m ref cp fG):a=cp/\b=fG:=by
 by_cases aA:Told m ref
 .obtain⟨q,p,k,ai⟩:=oO aA;obtain⟨h1,I⟩:=h.there q p k ai;obtain⟨ab,aE⟩:=bk.there q p k ai;exact⟨h1.eq ab fun _=>Iff.rfl,I.eq aE fun _=>Iff.rfl⟩
 .obtain⟨rfl,rfl⟩:=h.none aA;obtain⟨rfl,rfl⟩:=bk.none aA;exact⟨rfl,rfl⟩
theorem kz.of{m:Model}{ref:Int}{q p k:Nat}{a b:C_ Int}(ai:ez m ref q p k)(h1:qU (ow m q (bx m p k) (bx m p k).bE.length) a)(I:qU (l6 m q (bx m p k) (bx m p k).bE.length) b):kz m ref a b :=
 ⟨fun ei eX k' h=>by obtain⟨rfl,rfl,rfl⟩:=ai.one h;exact⟨h1,I⟩,fun ax=>absurd ai.told ax⟩
theorem kz.nil{m:Model}{ref:Int}(h:¬Told m ref):kz m ref [] []:=⟨fun _ _ _ ai=>absurd ai.told h,fun _=>⟨rfl,rfl⟩⟩
structure ati(m:Model)(ref:Int)(a:List Int):Prop where
 there:∀q p k,ez m ref q p k->qU (D9 m q (bx m p k)) a
 none:¬Told m ref->a=[]
theorem eD.lim{m:Model}(h:eD m):vt m:=⟨by have:=h.procs;omega,fun p aq=>by have:=(h.proc p aq).gG;omega⟩
end o
namespace a7
open Go
def WT:C_ B_:=[.string ⟨#[]⟩,.int .i64 0,.int .i64 0,.slice none 0 0,.slice none 0 0,.bool false]
end a7
end