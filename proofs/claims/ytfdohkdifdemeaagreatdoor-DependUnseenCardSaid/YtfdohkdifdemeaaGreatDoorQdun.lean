/- Parts. -/
import Derived.Test.YtfdohkdifdemeaaGreatDoorQdum
import Derived.Lib.SlKeysI
import Derived.Maps.OwnSet
set_option linter.all false
set_option maxRecDepth 8000
set_option maxHeartbeats 16000000
section
namespace bt
open Go Go.RowKit
theorem K.B2{P:Program}{da:Value->World->Prop}{α:Type}{enc:α->List Value}{e:TypeId}{sz base n:Nat}{w:World}{vs:Nat->Option Addr×Nat×Nat}{xs:Nat->List α}{ty:TypeId}{b:Nat}{a:Addr}{c:Nat}{y:α}{t}(i:Nat)(ad:i<n)(h:hU enc e sz base w n vs xs)(dn:∀x,(enc x).length=sz)(aw:fg w a (enc y))(h1:∀y,∀u∈enc y,u.oneCell'=true)
  (aC:((xs i).length+1)*b<=140737488355328)(kb:(xs i).length+1<=maxLen)(jx:base<=w.heap.size)
  (hk:∀ck w',hU enc e sz base w' n (dG vs i ck) (dG xs i (xs i++[y]))->w.grownBy w' (cB (vs i)).ownBlock->da (cB ck) w'):k4 P ty e sz b (cB (vs i)) (.slice (some a) 1 c) w da t:=by
 unfold k4;exact hU.app i ad h dn aw h1 aC kb jx fun ck w' a b _=>hk ck w' a b
end bt
namespace o
theorem KD{s:Int}{l:List Cell}{k:Nat}(h:k<l.length):ie s (l.take (k+1)) 0=ie s (l.take k) 0++(if l[k].place=0/\l[k].sort=s then [(k:Int)] else []):=by
 rw[List.take_succ_eq_append_getElem h,CM];simp only[ie,List.append_nil,List.length_take,Nat.zero_add];rw[show min k l.length=k from by omega]
theorem S9(s:Int):∀(l:List Cell) (i:Nat),(ie s l i).length<=l.length
 | [],_=>by simp[ie]
 | x :: r,i=>by
  have:=S9 s r (i+1)
  simp only[ie,List.length_append,List.length_cons];split<;>simp<;>omega
def e2(l:List Cell)(k:Nat):Nat->List Int:=fun i=>if i=0 then ie 1 (l.take k) 0 else if i=1 then ie 2 (l.take k) 0 else if i=2 then ie 3 (l.take k) 0 else if i=3 then (l.take k).map (·.bf) else (l.take k).map (·.ad)
end o
namespace Go.Proofs.R
open Go Go.RowKit bt
def Bj:List TypeId:=[T.a,T.g]
def ll(vs:Nat->gN)(n:Int):Array Value:=#[cB (vs 0),cB (vs 1),cB (vs 2),.int .i64 n,cB (vs 3),cB (vs 4)]
structure n2(av:World)(b:Nat)(xs:Nat->List Int)(n:Int)(W:World):Prop where
 mod:Mod (fun k=>k=b) av W
 ex:∃vs:Nat->gN,W.heap[b]? = some (.cells (ll vs n) T.g)/\hU eB T.a 1 av.heap.size W 5 vs xs
theorem n2.congr{av:World}{b:Nat}{xs Fw:Nat->List Int}{n:Int}{W:World}(h:n2 av b xs n W)(au:∀i,i<5->xs i=Fw i):n2 av b Fw n W :=
 let ⟨vs,g1,g2⟩:=h.ex; ⟨h.mod,vs,g1,g2.congr (fun _ _=>rfl) au⟩
theorem EL{av:World}{b:Nat}{xs:Nat->List Int}{n y:Int}{W rB lP qx:World}{vs:Nat->gN}{ck:gN}{i:Nat}(ad:i<5)(hm:Mod (fun k=>k=b) av W)(g1:W.heap[b]? = some (.cells (ll vs n) T.g))(g2:hU eB T.a 1 av.heap.size W 5 vs xs)
  (he:Ext W rB)(aZ:rB.grownBy lP (cB (vs i)).ownBlock)(bc:hU eB T.a 1 av.heap.size lP 5 (dG vs i ck) (dG xs i (xs i++[y])))(hw:dC b lP qx)(aw:qx.heap[b]? = some (.cells (ll (dG vs i ck) n) T.g)) :
  n2 av b (dG xs i (xs i++[y])) n qx/\ev Bj W qx:=by
 have wI:Mod (fun k=>(cB (vs i)).ownBlock=some k) rB lP:=Mod.grown aZ fun k hk=>hk;have g5:=he.obj g1;have g6:lP.heap[b]? = some (.cells (ll vs n) T.g):=wI.obj ((g2.ext he).not g5 (by decide) i ad) g5;refine⟨⟨?_,_,aw,bc.mod (hw.mod (A:=fun k=>k=b) rfl) fun j k aR hk e=>?_⟩,?_⟩
 .have h1:Mod (fun k=>k=b) av rB:=hm.comp (A':=fun _=>False) he.mod (fun _ _ a=>a) fun _ _ a=>a.elim;have U:Mod (fun k=>k=b) av lP:=h1.comp wI (fun _ _ a=>a) fun j aR a=>by have:=(g2.lt i j ad a).1;omega
  exact U.trans (hw.mod rfl)
 .subst e;exact bc.not g6 (by decide) j aR hk
 .refine((ev.ext he).trans (ev.mod wI fun k c t aw a=>?_)).trans (ev.wr hw g6 (by decide));obtain⟨cur,h⟩:=((g2.ext he).own i ad).aV k a;rw[aw] at h;injection h with h;injection h with _ h;rw[h];decide
theorem XA(cs:List Value)(m:o.Model)(w:World)(h:o.ec w cs m)(aZ:m.cQ)(bq:o.eF m) :
  bu Tryz.prog F.AP #[.agg cs.toArray] w fun v w'=>(∃xs,v = .agg xs.toArray/\eH w (fun w=>o.ja w xs (o.layout m)) w')/\Ext w w':=by
 have dP:=h;obtain⟨cz,bS,b9,c1,cn,c2,cp,bP,cA,bX,rfl,_⟩:=h.form;have qI:=o.nf bq;refine bL E.AP ?_;refine bG ?_;refine aa ?_;intro I1 bC cR pX ao;have dH:=cH ao;refine aa ?_;intro I2 cr dQ o6 aP;have dM:=cH aP;replace ao:=o6.obj ao;refine aa ?_;intro av b5 fo mm bz;replace ao:=mm.obj ao;replace aP:=mm.obj aP;have eh:=cH bz;have kI:=pX.size;have kq:=o6.size;have yZ:=mm.size;have n13:bC≠b5:=by omega
 have bU:=(pX.trans o6).trans mm;refine aa ?_;refine K.call (ajV _ m av (dP.ext bU) aZ bq) ?_;rintro dT w2 ⟨eM,o7⟩;obtain⟨aix,aaQ,rfl,_⟩:=eM.form;have jl:n2 av b5 (o.e2 (o.cc m) 0) 0 w2:=⟨o7.mod,fun _=>(none,0,0),o7.obj bz,⟨fun i ad=>by
   have e:o.e2 (o.cc m) 0 i=[]:=by unfold o.e2; (repeat' split)<;>simp[o.ie]
   rw[e];exact bs.nil _ _ _ _ _,fun i j k _ _ _ e=>by cases e⟩⟩
 have kl:∀{xs n W},n2 av b5 xs n W->W.heap[bC]? = av.heap[bC]? := fun h=>h.mod.block _ (by omega) n13;have hA:∀{xs n W},n2 av b5 xs n W->W.heap[cr]? = av.heap[cr]? := fun h=>h.mod.block _ (by omega) (by omega);have fF:∀{xs n W},n2 av b5 xs n W->Ext w W:=fun h=>h.mod.ext bU fun i ad e=>by omega
 have jy:∀{W:World},ev Bj w2 W->bF 6 (Flat o.Cell.enc) W (.slice aix (o.cc m).length aaQ) (o.cc m):=fun k=>bs.iW (enc:=o.Cell.enc) (fun _=>rfl) (eM.hB k (by decide));rw[aP] at hA;clear ao aP bz eM;refine aa ?_;refine K.dj 5 (o.cc m).length [1,2,3,4] (fun _:Unit=>[]) () (fun k _ W=>n2 av b5 (o.e2 (o.cc m) k) 0 W/\ev Bj w2 W) bx bx ⟨jl,ev.refl⟩ ?_;clear jl;rintro k _ S aU hk ⟨ay,nc⟩;have eM:=jy nc;obtain⟨amm,g1,g2⟩:=ay.ex;refine aa ?_;apply K.cond<;>intro g0
 .have br:k<(o.cc m).length:=by omega
  obtain⟨a,rfl⟩:=eM.addr (by omega);clear g1 g2;obtain⟨x,au⟩:∃x,x=(o.cc m)[k]:=⟨_,rfl⟩;have kk:∀i,(o.e2 (o.cc m) k i).length<=100:=fun i=>by
   unfold o.e2;have q:=fun s=>o.S9 s ((o.cc m).take k) 0;have dH:=q 1;have dM:=q 2;have eh:=q 3
   (repeat' split)<;>simp only[List.length_map,List.length_take] at * <;> omega
  refine ef ?_;simp -dsimp only[cF];refine ef ?_;refine K.gU [1,2,3,4,5] (fun _:Unit=>[]) (fun _ W=>n2 av b5 (dG (o.e2 (o.cc m) k) 0 ((o.e2 (o.cc m) k) 0++if x.place=0/\x.sort=1 then [(k:Int)] else [])) 0 W/\ev Bj w2 W) ?_ ?_
  .have eM:=jy nc;obtain⟨vs,g1,g2⟩:=ay.ex;have mf:=g1;unfold ll at g1;dsimp only[cB] at g1;have same:¬(x.place=0/\x.sort=1)->n2 av b5 (dG (o.e2 (o.cc m) k) 0 ((o.e2 (o.cc m) k) 0++if x.place=0/\x.sort=1 then [(k:Int)] else [])) 0 aU:=fun e=>ay.congr fun j aR=>by
    unfold dG;by_cases a:j=0
    .subst a;simp[e]
    .simp[a]
   refine aa ?_;rw[<-au];apply K.cond<;>intro g3
   .refine aa ?_;rw[<-au];apply K.cond<;>intro g4
    .refine aa ?_;intro bR dR kR aW cD;have gh:=ay.mod.size;have z2:=aW.size;have hlen:((o.e2 (o.cc m) k) 0).length<=100:=kk 0;have nG:=g2.ext aW;have g15:=aW.obj mf;refine K.B2 (y:=(k:Int)) 0 (by decide) nG (fun _=>rfl) (hl cD) ma (by omega) (by unfold maxLen;omega) (by omega) fun ck bY dO jU=>?_;have e6:bY.heap[b5]? = some (.cells (ll vs 0) T.g):=(Mod.grown (A:=fun k=>(cB (vs 0)).ownBlock=some k) jU fun k hk=>hk).obj (nG.not g15 (by decide) 0 (by decide)) g15;have ue:=e6;unfold ll at e6;refine aa ?_;intro cd dB cS;obtain⟨jC,s8⟩:=EL (by decide) ay.mod mf g2 aW jU dO dB cS;refine aa ?_;refine⟨(),trivial,jC.congr fun j aR=>?_,nc.trans s8⟩;have e:(if x.place=0/\x.sort=1 then [(k:Int)] else [])=[(k:Int)]:=if_pos ⟨g3,g4⟩;rw[e]
    .refine aa ?_;exact⟨(),trivial,same fun e=>g4 e.2,nc⟩
   .refine aa ?_;exact⟨(),trivial,same fun e=>g3 e.1,nc⟩
  rintro _ S e3 ⟨HO,H6⟩;refine ef ?_;refine K.gU [1,2,3,4,5] (fun _:Unit=>[]) (fun _ W=>n2 av b5 (dG (dG (o.e2 (o.cc m) k) 0 ((o.e2 (o.cc m) k) 0++if x.place=0/\x.sort=1 then [(k:Int)] else [])) 1 ((dG (o.e2 (o.cc m) k) 0 ((o.e2 (o.cc m) k) 0++if x.place=0/\x.sort=1 then [(k:Int)] else [])) 1++if x.place=0/\x.sort=2 then [(k:Int)] else [])) 0 W/\ev Bj w2 W) ?_ ?_
  .have eM:=jy H6;obtain⟨vs,g1,g2⟩:=HO.ex;have mf:=g1;unfold ll at g1;dsimp only[cB] at g1;have same:¬(x.place=0/\x.sort=2)->n2 av b5 (dG (dG (o.e2 (o.cc m) k) 0 ((o.e2 (o.cc m) k) 0++if x.place=0/\x.sort=1 then [(k:Int)] else [])) 1 ((dG (o.e2 (o.cc m) k) 0 ((o.e2 (o.cc m) k) 0++if x.place=0/\x.sort=1 then [(k:Int)] else [])) 1++if x.place=0/\x.sort=2 then [(k:Int)] else [])) 0 e3:=fun e=>HO.congr fun j aR=>by
    unfold dG;by_cases a:j=1
    .subst a;simp[e]
    .simp[a]
   refine aa ?_;rw[<-au];apply K.cond<;>intro g3
   .refine aa ?_;rw[<-au];apply K.cond<;>intro g4
    .refine aa ?_;intro bR dR kR aW cD;have gh:=HO.mod.size;have z2:=aW.size;have hlen:((dG (o.e2 (o.cc m) k) 0 ((o.e2 (o.cc m) k) 0++if x.place=0/\x.sort=1 then [(k:Int)] else [])) 1).length<=100:=kk 1;have nG:=g2.ext aW;have g15:=aW.obj mf;refine K.B2 (y:=(k:Int)) 1 (by decide) nG (fun _=>rfl) (hl cD) ma (by omega) (by unfold maxLen;omega) (by omega) fun ck bY dO jU=>?_;have e6:bY.heap[b5]? = some (.cells (ll vs 0) T.g):=(Mod.grown (A:=fun k=>(cB (vs 1)).ownBlock=some k) jU fun k hk=>hk).obj (nG.not g15 (by decide) 1 (by decide)) g15;have ue:=e6;unfold ll at e6;refine aa ?_;intro cd dB cS;obtain⟨jC,s8⟩:=EL (by decide) HO.mod mf g2 aW jU dO dB cS;refine aa ?_;refine⟨(),trivial,jC.congr fun j aR=>?_,H6.trans s8⟩;have e:(if x.place=0/\x.sort=2 then [(k:Int)] else [])=[(k:Int)]:=if_pos ⟨g3,g4⟩;rw[e]
    .refine aa ?_;exact⟨(),trivial,same fun e=>g4 e.2,H6⟩
   .refine aa ?_;exact⟨(),trivial,same fun e=>g3 e.1,H6⟩
  rintro _ S gg ⟨HP,H7⟩;refine ef ?_;refine K.gU [1,2,3,4,5] (fun _:Unit=>[]) (fun _ W=>n2 av b5 (dG (dG (dG (o.e2 (o.cc m) k) 0 ((o.e2 (o.cc m) k) 0++if x.place=0/\x.sort=1 then [(k:Int)] else [])) 1 ((dG (o.e2 (o.cc m) k) 0 ((o.e2 (o.cc m) k) 0++if x.place=0/\x.sort=1 then [(k:Int)] else [])) 1++if x.place=0/\x.sort=2 then [(k:Int)] else [])) 2 ((dG (dG (o.e2 (o.cc m) k) 0 ((o.e2 (o.cc m) k) 0++if x.place=0/\x.sort=1 then [(k:Int)] else [])) 1 ((dG (o.e2 (o.cc m) k) 0 ((o.e2 (o.cc m) k) 0++if x.place=0/\x.sort=1 then [(k:Int)] else [])) 1++if x.place=0/\x.sort=2 then [(k:Int)] else [])) 2++if x.place=0/\x.sort=3 then [(k:Int)] else [])) 0 W/\ev Bj w2 W) ?_ ?_
  .have eM:=jy H7;obtain⟨vs,g1,g2⟩:=HP.ex;have mf:=g1;unfold ll at g1;dsimp only[cB] at g1;have same:¬(x.place=0/\x.sort=3)->n2 av b5 (dG (dG (dG (o.e2 (o.cc m) k) 0 ((o.e2 (o.cc m) k) 0++if x.place=0/\x.sort=1 then [(k:Int)] else [])) 1 ((dG (o.e2 (o.cc m) k) 0 ((o.e2 (o.cc m) k) 0++if x.place=0/\x.sort=1 then [(k:Int)] else [])) 1++if x.place=0/\x.sort=2 then [(k:Int)] else [])) 2 ((dG (dG (o.e2 (o.cc m) k) 0 ((o.e2 (o.cc m) k) 0++if x.place=0/\x.sort=1 then [(k:Int)] else [])) 1 ((dG (o.e2 (o.cc m) k) 0 ((o.e2 (o.cc m) k) 0++if x.place=0/\x.sort=1 then [(k:Int)] else [])) 1++if x.place=0/\x.sort=2 then [(k:Int)] else [])) 2++if x.place=0/\x.sort=3 then [(k:Int)] else [])) 0 gg:=fun e=>HP.congr fun j aR=>by
    unfold dG;by_cases a:j=2
    .subst a;simp[e]
    .simp[a]
   refine aa ?_;rw[<-au];apply K.cond<;>intro g3
   .refine aa ?_;rw[<-au];apply K.cond<;>intro g4
    .refine aa ?_;intro bR dR kR aW cD;have gh:=HP.mod.size;have z2:=aW.size;have hlen:((dG (dG (o.e2 (o.cc m) k) 0 ((o.e2 (o.cc m) k) 0++if x.place=0/\x.sort=1 then [(k:Int)] else [])) 1 ((dG (o.e2 (o.cc m) k) 0 ((o.e2 (o.cc m) k) 0++if x.place=0/\x.sort=1 then [(k:Int)] else [])) 1++if x.place=0/\x.sort=2 then [(k:Int)] else [])) 2).length<=100:=kk 2;have nG:=g2.ext aW;have g15:=aW.obj mf;refine K.B2 (y:=(k:Int)) 2 (by decide) nG (fun _=>rfl) (hl cD) ma (by omega) (by unfold maxLen;omega) (by omega) fun ck bY dO jU=>?_;have e6:bY.heap[b5]? = some (.cells (ll vs 0) T.g):=(Mod.grown (A:=fun k=>(cB (vs 2)).ownBlock=some k) jU fun k hk=>hk).obj (nG.not g15 (by decide) 2 (by decide)) g15;have ue:=e6;unfold ll at e6;refine aa ?_;intro cd dB cS;obtain⟨jC,s8⟩:=EL (by decide) HP.mod mf g2 aW jU dO dB cS;refine aa ?_;refine⟨(),trivial,jC.congr fun j aR=>?_,H7.trans s8⟩;have e:(if x.place=0/\x.sort=3 then [(k:Int)] else [])=[(k:Int)]:=if_pos ⟨g3,g4⟩;rw[e]
    .refine aa ?_;exact⟨(),trivial,same fun e=>g4 e.2,H7⟩
   .refine aa ?_;exact⟨(),trivial,same fun e=>g3 e.1,H7⟩
  rintro _ S lI ⟨Mi,Wb⟩;have eM:=jy Wb;obtain⟨vs,g1,g2⟩:=Mi.ex;have mf:=g1;unfold ll at g1;dsimp only[cB] at g1;refine aa ?_;intro bR aW;replace eM:=eM.ext Flat.ext aW;replace g1:=aW.obj g1;refine aa ?_;intro bY ek e6 a8 ct;refine⟨a8,?_⟩;have uj:=aW.trans a8;have gh:=Mi.mod.size;have z2:=uj.size;have hlen:(o.e2 (o.cc m) k 3).length<=100:=kk 3;have nG:=g2.ext uj;have g15:=uj.obj mf;refine K.B2 (y:=(o.cc m)[k].bf) 3 (by decide) nG (fun _=>rfl) (hl ct) ma (by rw[show(dG _ 2 _ 3:List Int)=o.e2 (o.cc m) k 3 from rfl];omega) (by rw[show(dG _ 2 _ 3:List Int)=o.e2 (o.cc m) k 3 from rfl];unfold maxLen;omega) (by omega) fun ck cd ew jV=>?_;have jw:cd.heap[b5]? = some (.cells (ll vs 0) T.g):=(Mod.grown (A:=fun k=>(cB (vs 3)).ownBlock=some k) jV fun k hk=>hk).obj (nG.not g15 (by decide) 3 (by decide)) g15;have K5:=jw;unfold ll at jw;refine aa ?_;intro apR iG cK;obtain⟨Md,ahc⟩:=EL (by decide) Mi.mod mf g2 uj jV ew iG cK;clear g1 g2 mf nG g15 ew jw K5 cK ct eM;have V9:=Wb.trans ahc;have eM:=jy V9;obtain⟨vs,g1,g2⟩:=Md.ex;have mf:=g1;unfold ll at g1;dsimp only[cB] at g1;refine aa ?_;intro bR aW;replace eM:=eM.ext Flat.ext aW;replace g1:=aW.obj g1;refine aa ?_;intro bY ek e6 a8 ct;refine⟨a8,?_⟩;have uj:=aW.trans a8;have gh:=Md.mod.size;have z2:=uj.size;have hlen:(o.e2 (o.cc m) k 4).length<=100:=kk 4;have nG:=g2.ext uj;have g15:=uj.obj mf;refine K.B2 (y:=(o.cc m)[k].ad) 4 (by decide) nG (fun _=>rfl) (hl ct) ma (by rw[show(dG _ 3 _ 4:List Int)=o.e2 (o.cc m) k 4 from rfl];omega) (by rw[show(dG _ 3 _ 4:List Int)=o.e2 (o.cc m) k 4 from rfl];unfold maxLen;omega) (by omega) fun ck cd ew jV=>?_;have jw:cd.heap[b5]? = some (.cells (ll vs 0) T.g):=(Mod.grown (A:=fun k=>(cB (vs 4)).ownBlock=some k) jV fun k hk=>hk).obj (nG.not g15 (by decide) 4 (by decide)) g15;have K5:=jw;unfold ll at jw;refine aa ?_;intro apS iG cK;obtain⟨af7,ahd⟩:=EL (by decide) Md.mod mf g2 uj jV ew iG cK;clear g1 g2 mf nG g15 ew jw K5 cK ct eM;have ahe:=V9.trans ahd;refine aa ?_;refine⟨br,bk,(),trivial,af7.congr fun j aR=>?_,ahe⟩;subst au;have a:j=0\/j=1\/j=2\/j=3\/j=4:=by omega
  rcases a with rfl | rfl | rfl | rfl | rfl
  .exact(o.KD (s:=1) br).symm
  .exact(o.KD (s:=2) br).symm
  .exact(o.KD (s:=3) br).symm
  .show(_:List Int)=((o.cc m).take (k+1)).map (·.bf);rw[List.take_succ_eq_append_getElem br,List.map_append];rfl
  .show(_:List Int)=((o.cc m).take (k+1)).map (·.ad);rw[List.take_succ_eq_append_getElem br,List.map_append];rfl
 have qP:k=(o.cc m).length:=by omega
 subst qP;have c9:=fF ay;have aP:=hA ay;clear g1 g2;obtain⟨vs,g1,g2⟩:=ay.ex;have mf:=g1;unfold ll at g1;dsimp only[cB] at g1;refine aa ?_;intro bb fR bz;have g23:=g2.mod (fR.mod (A:=fun k=>k=b5) rfl) fun i k ad hk e=>by subst e;exact g2.not mf (by decide) i ad hk
 replace aP:=fR.obj aP (by omega);replace bz:bb.heap[b5]? = some (.cells #[cB (vs 0),cB (vs 1),cB (vs 2),.int .i64 (o.cc m).length,cB (vs 3),cB (vs 4)] T.g):=bz;dsimp only[cB] at bz;refine aa ?_;intro bp ey bA;have g24:=g23.mod (ey.mod (A:=fun k=>k=cr) rfl) fun i k ad hk e=>by subst e;exact g23.not aP (by decide) i ad hk
 have bQ:w.heap.size<=av.heap.size:=by omega
 have r5:=fun(i:Nat) (ad:i<5)=>bs.new (e:=T.a) (enc:=eB) (fun _=>rfl) (bs.low bQ (g24.own i ad));obtain⟨f1,f2,f3⟩:=o.acZ bq;have gx:o.e2 (o.cc m) (o.cc m).length 0=(o.layout m).vars:=by show o.ie 1 ((o.cc m).take _) 0=_;rw[List.take_length,f1];rfl
 have fA:o.e2 (o.cc m) (o.cc m).length 1=(o.layout m).aM:=by show o.ie 2 ((o.cc m).take _) 0=_;rw[List.take_length,f2];rfl
 have gd:o.e2 (o.cc m) (o.cc m).length 2=(o.layout m).insts:=by show o.ie 3 ((o.cc m).take _) 0=_;rw[List.take_length,f3];rfl
 have ir:o.e2 (o.cc m) (o.cc m).length 3=(o.layout m).bf:=by show((o.cc m).take _).map _=_;rw[List.take_length];rfl
 have k0:o.e2 (o.cc m) (o.cc m).length 4=(o.layout m).ad:=by show((o.cc m).take _).map _=_;rw[List.take_length];rfl
 refine aa ?_;refine⟨⟨[_,_,_,_,_,_],rfl,fun eK r1=>⟨⟨_,_,_,_,_,rfl,?_,?_,?_,?_,?_⟩⟩⟩,ey.ext (fR.ext c9 (by omega)) (by omega)⟩
 .rw[<-gx];exact r5 0 (by decide) eK r1
 .rw[<-fA];exact r5 1 (by decide) eK r1
 .rw[<-gd];exact r5 2 (by decide) eK r1
 .rw[<-ir];exact r5 3 (by decide) eK r1
 .rw[<-k0];exact r5 4 (by decide) eK r1
theorem Xz(cs:List Value)(m:o.Model)(w:World)(h:o.ec w cs m)(aZ:m.cQ) :
  bu Tryz.prog F.AQ #[.agg cs.toArray] w fun v w'=>(∃xs,v = .agg xs.toArray/\eH w (fun w=>o.ja w xs (o.lay m)) w')/\Ext w w':=by
 have bq:=h;obtain⟨cz,bS,b9,c1,cn,c2,cp,bP,cA,bX,rfl,_⟩:=h.form;refine bL E.AQ ?_;refine bG ?_;refine aa ?_;intro av bC cR aB ao;refine aa ?_;intro aU cr dQ aA aP;have gh:=cH ao;replace ao:=aA.obj ao;have z2:=cH aP;have z3:=aB.size;have a6:=aB.trans aA;refine aa ?_;refine K.call (adp _ m aU (bq.ext a6) aZ) ?_;rintro _ bb ⟨rfl,ax⟩;replace ao:=ax.obj ao;replace aP:=ax.obj aP;have bK:=a6.trans ax;by_cases hk:(o.check m).cX=0
 .rw[decide_eq_true hk];refine aa ?_;refine K.call (XA _ m bb (bq.ext bK) aZ (o.lZ hk)) ?_;rintro _ bp ⟨⟨xs,rfl,c7⟩,aN⟩;obtain⟨k3,d0,j1,d1,j2,d2,nY,d3,nq,d4,rfl,_⟩:=c7.here.form;replace aP:=aN.obj aP;have b0:=bK.trans aN;have z4:=ax.size;refine aa ?_;intro bY fZ ct;have aD:=c7.wr fZ (by omega);refine aa ?_;exact⟨⟨_,rfl,by rw[o.H9 hk];exact aD.low bK.size⟩,fZ.ext b0 (by omega)⟩
 .rw[decide_eq_false hk];refine aa ?_;intro bp ey bA;refine aa ?_;exact⟨⟨[_,_,_,_,_,_],rfl,by rw[o.Wk hk];exact gE.of fun _=>o.ja.zero _⟩,ey.ext bK (by omega)⟩
end Go.Proofs.R
end
section
namespace o
open Go
def gT(m:Model)(i:Nat):Nat:=total ((cW m).take i)
def df(m:Model)(i:Nat):Nat:=total (cW m)+total ((dA m).take i)
def eg(m:Model)(i:Nat):Nat:=total (cW m)+total (dA m)+total ((fc m).take i)
theorem IM(n:Nat):∀(ls:List (List dK)) (i:Nat) (h:i<(hq n ls).length),(hq n ls)[i]=((n+total (ls.take i):Nat):Int)
 | [],i,h=>by simp[hq] at h
 | l :: r,0,h=>by simp[hq,total]
 | l :: r,i+1,h=>by
  simp only[hq,List.getElem_cons_succ,List.take_succ_cons,Fq];rw[IM (n+l.length) r i (by simpa[hq] using h)];congr 1;omega
def eA(m:Model):Nat:=(cc m).length
theorem o0(m:Model):eA m=total (cW m)+total (dA m)+total (fc m):=D3 m
theorem Bt{m:Model}{i:Nat}(h:i<m.vars.length):∃bE:i<(layout m).vars.length,(layout m).vars[i]=(gT m i:Int):=by
 have bE:i<(hq 0 (cW m)).length:=by rw[tq];simpa[cW] using h
 exact⟨bE,by have:=IM 0 (cW m) i bE;rw[Nat.zero_add] at this;exact this⟩
theorem vB{m:Model}{i:Nat}(h:i<m.aM.length):∃bE:i<(layout m).aM.length,(layout m).aM[i]=(df m i:Int):=by
 have bE:i<(hq (total (cW m)) (dA m)).length:=by rw[tq];simpa[dA] using h
 exact⟨bE,IM _ _ i bE⟩
theorem ym{m:Model}{i:Nat}(h:i<(insts m).length):∃bE:i<(layout m).insts.length,(layout m).insts[i]=(eg m i:Int):=by
 have bE:i<(hq (total (cW m)+total (dA m)) (fc m)).length:=by rw[tq];simpa[fc] using h
 exact⟨bE,IM _ _ i bE⟩
theorem ts{m:Model}{i:Nat}(h:i<m.vars.length):gT m i+(cells m.vars[i] m.scalars).toNat<=total (cW m):=by
 have bE:i<(cW m).length:=by simpa[cW] using h
 have:=Oh bE
 have e:(cW m)[i].length=(cells m.vars[i] m.scalars).toNat:=by simp[cW,Bu]
 rw[e] at this;exact this
theorem xE{m:Model}{i:Nat}(h:i<m.aM.length):df m i+(1+m.aM[i].cap.toNat)<=total (cW m)+total (dA m):=by
 have bE:i<(dA m).length:=by simpa[dA] using h
 have:=Oh bE
 have e:(dA m)[i].length=1+m.aM[i].cap.toNat:=by simp[dA,tK]
 rw[e] at this;unfold df;omega
theorem Vy{m:Model}{i:Nat}(h:i<(insts m).length):eg m i+(lz m (insts m)[i]).length<=eA m:=by
 have bE:i<(fc m).length:=by simpa[fc] using h
 have:=Oh bE
 have e:(fc m)[i].length=(lz m (insts m)[i]).length:=by simp[fc]
 rw[e] at this;rw[o0];unfold eg;omega
def mI(s:List Scalar)(c:dv)(l:List Int):Prop :=
 ∃n,l[0]? = some n/\0<=n/\n<=c.cap/\∀k:Nat,(k:Int)<c.cap->∃x,l[k+1]? = some x/\((k:Int)<n->(fb c.scalar c.bf c.ad s).bf<=x/\x<=(fb c.scalar c.bf c.ad s).ad)/\(n<=k->x=0)
def oh(m:Model)(i:Nat)(c:dv)(s:List Int):List Int:=(s.drop (df m i)).take (1+c.cap.toNat)
structure Fits(m:Model)(s:List Int):Prop where
 len:s.length=eA m
 queue:∀i (h:i<m.aM.length),mI m.scalars m.aM[i] (oh m i m.aM[i] s)
 cell:∀i (h:i<s.length) (bE:i<(cc m).length),(cc m)[i].bf<=s[i]/\s[i]<=(cc m)[i].ad
def oT(m:Model)(s:List Int):Prop:=(check m).cX=0/\Fits m s
def qA(m:Model)(s:List Int)(p:Int)(l:Int)(k:Nat):Nat:=((List.range k).filter fun i=>decide (((insts m)[i]?.map (·.proc))=some p/\s[eg m i]? = some l)).length
def js(m:Model)(s:List Int)(p:Nat)(n:Int)(k:Nat):List Int:=(List.range n.toNat).map fun(l:Nat)=>((qA m s (p:Int) (l:Int) k:Nat):Int)
def wZ(m:Model)(s:List Int)(inst:Int):List Int×Int :=
 match nth (insts m) inst with
 | some x=>((s.drop (eg m inst.toNat+1)).take ((lz m x).length - 1),x.elem)
 | none=>([],0)
def cZ(m:Model)(s:List Int)(inst:Int):Env :=
 ⟨(List.range m.vars.length).map fun i=>(s.drop (gT m i)).take (cW m)[i]!.length,
  (List.range m.aM.length).map fun i=>s[df m i]!,
  (wZ m s inst).1,
  (List.range m.procs.length).map fun i=>js m s i (m.procs[i]?.map (·.cx) |>.getD 0) (insts m).length,
  (wZ m s inst).2⟩
def val:List Nat->Nat
 | []=>0
 | d :: r=>d+256*val r
def GI(n:Nat):List Nat:=if h:n=0 then [] else n % 256 :: GI (n / 256)
termination_by n
decreasing_by omega
def WU:List Cell->List Int->Nat->Nat
 | x :: r,v :: s,n=>WU r s (n*(x.ad - x.bf+1).toNat+(v - x.bf).toNat)
 | _,_,n=>n
def num(m:Model)(s:List Int):Nat:=WU (cc m) s 0
def fr(m:Model):Nat:=num m ((cc m).map (·.ad))
def aaE(m:Model):Nat:=(GI (fr m)).length
def fixed(k n:Nat):List Nat:=GI n++List.replicate (k - (GI n).length) 0
def bytes(m:Model)(s:List Int):List Nat:=(fixed (aaE m) (num m s)).reverse
end o
end
section
namespace Go.Proofs.R
open Go Go.RowKit bt
abbrev eT(w:World)(v:Value)(l:List Int):Prop:=bF 1 (Flat eB) w v l
end Go.Proofs.R
end
section
namespace o
theorem Wo(m:Model):(layout m).bf.length=(cc m).length:=by simp[layout,AB]
theorem Wm(m:Model):(layout m).ad.length=(cc m).length:=by simp[layout,AB]
theorem Wn{m:Model}{c:Nat}(h:c<(layout m).bf.length)(bE:c<(cc m).length):(layout m).bf[c]=(cc m)[c].bf:=by simp[layout,AB]
theorem Wl{m:Model}{c:Nat}(h:c<(layout m).ad.length)(bE:c<(cc m).length):(layout m).ad[c]=(cc m)[c].ad:=by simp[layout,AB]
theorem Ia(m:Model):(layout m).vars.length=m.vars.length/\(layout m).aM.length=m.aM.length/\(layout m).insts.length=(insts m).length:=by
 refine⟨?_,?_,?_⟩<;>simp[layout,AB,tq,cW,dA,fc]
end o
end
section
namespace bt
open Go Go.RowKit
structure FY(es:Array MapEntry)(c:Nat)(L:List Int):Prop where
 yo:∃l:List (Int×Value),hT (Value.int .i64) es.toList l/\(l.map (·.1)).Nodup/\(∀x,x∈l.map (·.1)↔x∈L)/\l.length<=L.length/\∀p∈l,∃z,p.2 = .int .i64 z
 born:∀e∈es.toList,e.born<c
 nodup:(es.toList.map (·.born)).Nodup
structure e4(w:World)(b:Nat)(L:List Int):Prop where
 ok:∀x∈L,-9223372036854775808<=x/\x<=9223372036854775807
 ex:∃es c,w.heap[b]? = some (.map es c)/\FY es c L
theorem e4.of{w w':World}{b:Nat}{L:List Int}(h:e4 w b L)(e:w'.heap[b]? = w.heap[b]?):e4 w' b L:=let ⟨es,c,h1,U⟩:=h.ex; ⟨h.ok,es,c,e.trans h1,U⟩
theorem e4.lt{w:World}{b:Nat}{L:List Int}(h:e4 w b L):b<w.heap.size:=let ⟨_,_,h1,_⟩:=h.ex;cH h1
theorem e4.ext{w w':World}{b:Nat}{L:List Int}(h:e4 w b L)(e:Ext w w'):e4 w' b L:=h.of (e.heap h.lt)
theorem e4.mod{A:Nat->Prop}{w w':World}{b:Nat}{L:List Int}(h:e4 w b L)(e:Mod A w w')(hk:¬A b):e4 w' b L:=h.of (e.block b h.lt hk)
theorem FY.empty:FY #[] 0 []:=⟨⟨[],rfl,by simp,fun _=>Iff.rfl,Nat.le_refl _,fun p h=>by simp at h⟩,fun e he=>by simp at he,by simp⟩
theorem e4.empty{w:World}{b:Nat}(h:w.heap[b]? = some (.map #[] 0)):e4 w b []:=⟨fun _ h=>by simp at h,_,_,h,FY.empty⟩
theorem hT.len{ns:Type}{enc:ns->Value}{es:List MapEntry}{l:List (ns×Value)}(h:hT enc es l):es.length=l.length:=by
 have:=congrArg List.length h
 simpa using this
theorem hT.at{ns:Type}{enc:ns->Value}{es:List MapEntry}{l:List (ns×Value)}(h:hT enc es l)(i:Nat):es[i]?.map (fun e=>(e.key,e.val))=l[i]?.map (fun p=>(enc p.1,p.2)):=by
 have:=congrArg (fun q=>q[i]?) h
 simpa using this
theorem e4.look{w:World}{b:Nat}{L:List Int}(h:e4 w b L)(x:Int):∃es r z,qs w (.map (some b)) es/\Instr.findNow (.int .i64) (.int .i64 x) es.toList 0=some r/\lY (.int .i64 0) false r = .int .i64 z:=by
 obtain⟨es,c,h1,hm⟩:=h.ex;obtain⟨l,U,ag,aJ,bg,bO⟩:=hm.yo;obtain⟨r,kj,jj⟩:=xR (IA .i64 .i64) x es.toList _ 0 U;cases r with
 | none=>exact⟨es,none,0,.inr ⟨b,c,rfl,h1⟩,kj,rfl⟩
 | some q =>
  cases aK:l.find? (fun p=>decide (x=p.1)) with
  | none=>rw[aK] at jj;cases jj
  | some p =>
   rw[aK] at jj;obtain⟨z,bQ⟩:=bO p (List.mem_of_find?_eq_some aK);simp only[Option.map_some,Option.some.injEq] at jj;exact⟨es,some q,z,.inr ⟨b,c,rfl,h1⟩,kj,by simp[lY,jj,bQ]⟩
theorem ahh{x z:Int}{l:List (Int×Value)}{es:List MapEntry}{j:Nat}(h:hT (Value.int .i64) es l)(hk:∀p,l[j]? = some p->p.1=x):hT (Value.int .i64) (es.modify j fun e=>{ e with key:=.int .i64 x,val:=.int .i64 z }) (l.modify j fun p=>(p.1,.int .i64 z)):=by
 unfold hT;apply List.ext_getElem?;intro i;have ad:=h.at i;simp only[List.getElem?_map,List.getElem?_modify] at *;by_cases e:j=i
 .subst e;simp only[if_true] at *;cases he:es[j]? with
  | none=>rw[he] at ad;cases aO:l[j]? with
   | none=>simp
   | some p=>rw[aO] at ad;cases ad
  | some q =>
   rw[he] at ad;cases aO:l[j]? with
   | none=>rw[aO] at ad;cases ad
   | some p=>simp[hk p aO]
 .simp only[if_neg e];cases he:es[i]? with
  | none=>rw[he] at ad;cases aO:l[i]? with
   | none=>simp
   | some p=>rw[aO] at ad;cases ad
  | some q =>
   rw[he] at ad;cases aO:l[i]? with
   | none=>rw[aO] at ad;cases ad
   | some p=>rw[aO] at ad;simpa using ad
theorem Tk{z:Value}(l:List (Int×Value))(j:Nat):(l.modify j fun p=>(p.1,z)).map (·.1)=l.map (·.1):=by
 apply List.ext_getElem?;intro i;simp only[List.getElem?_map,List.getElem?_modify];by_cases e:j=i
 .subst e;cases l[j]? <;> simp
 .simp[e]
theorem RT{k v:Value}(es:List MapEntry)(j:Nat):(es.modify j fun e=>{ e with key:=k,val:=v }).map (·.born)=es.map (·.born):=by
 apply List.ext_getElem?;intro i;simp only[List.getElem?_map,List.getElem?_modify];by_cases e:j=i
 .subst e;cases es[j]? <;> simp
 .simp[e]
theorem e4.put{w:World}{b:Nat}{L:List Int}(h:e4 w b L)(x z:Int)(au : -9223372036854775808<=x/\x<=9223372036854775807):∃es c q,w.heap[b]? = some (.map es c)/\Instr.findNow (.int .i64) (.int .i64 x) es.toList 0=some q /\
  ∀w':World,w'.heap[b]? = some (q3 es c (.int .i64 x) (.int .i64 z) q)->e4 w' b (L++[x]):=by
 obtain⟨es,c,h1,hm⟩:=h.ex;obtain⟨l,U,ag,aJ,bg,bO⟩:=hm.yo;obtain⟨r,kj,jj⟩:=xR (IA .i64 .i64) x es.toList _ 0 U;have dt:∀y∈L++[x],-9223372036854775808<=y/\y<=9223372036854775807:=fun y b8=>by
  rcases List.mem_append.1 b8 with b8 | b8
  .exact h.ok y b8
  .simp only[List.mem_singleton] at b8;subst b8;exact au
 refine⟨es,c,r,h1,kj,fun w' hw=>?_⟩;cases r with
 | none =>
  have aD:∀p∈l,p.1≠x:=by
   cases aK:l.find? (fun p=>decide (x=p.1)) with
   | none =>
    intro p aO e
    have:=List.find?_eq_none.1 aK p aO
    simp[e] at this
   | some p=>rw[aK] at jj;cases jj
  refine⟨dt,_,_,hw,⟨⟨l++[(x,.int .i64 z)],hT.push U x (.int .i64 z) c,?_,fun y=>?_,?_,fun p aO=>?_⟩,?_,?_⟩⟩
  .rw[List.map_append,List.map_cons,List.map_nil,List.nodup_append];refine⟨ag,by simp,fun a bo b aC=>?_⟩;obtain⟨p,aO,rfl⟩:=List.mem_map.1 bo;simp only[List.mem_singleton] at aC;rw[aC];exact aD p aO
  .rw[List.map_append,List.mem_append,List.mem_append,aJ y];simp
  .rw[List.length_append,List.length_append];simp;exact bg
  .rcases List.mem_append.1 aO with aO | aO
   .exact bO p aO
   .simp only[List.mem_singleton] at aO;subst aO;exact⟨z,rfl⟩
  .intro e he;simp only[Array.toList_push,List.mem_append,List.mem_singleton] at he;rcases he with he | rfl
   .have:=hm.born e he;omega
   .show c<c+1;omega
  .simp only[Array.toList_push,List.map_append,List.map_cons,List.map_nil];rw[List.nodup_append];refine⟨hm.nodup,by simp,fun a bo ib C3=>?_⟩;obtain⟨e,he,rfl⟩:=List.mem_map.1 bo;simp only[List.mem_singleton] at C3
   have:=hm.born e he
   omega
 | some MG =>
  obtain⟨j,v⟩:=MG;obtain⟨_,e,he,ay⟩:=KB kj;rw[Nat.sub_zero] at he;have UL:∀p,l[j]? = some p->p.1=x:=fun p aO=>by
   have:=U.at j
   rw[he,aO] at this;simp only[Option.map_some,Option.some.injEq,Prod.mk.injEq] at this;rw[this.1,IA] at ay;have ay:=Option.some.inj ay;simp only[decide_eq_true_eq] at ay;exact ay.symm
  have uC:x∈L:=by
   have aR:=U.at j;rw[he] at aR;cases aO:l[j]? with
   | none=>rw[aO] at aR;cases aR
   | some p =>
    rw[<-aJ x,<-UL p aO];exact List.mem_map.2 ⟨p,List.mem_of_getElem? aO,rfl⟩
  have s0:w'.heap[b]? = some (.map (es.modify j fun e=>{ e with key:=.int .i64 x,val:=.int .i64 z }) c):=hw;refine⟨dt,_,_,s0,⟨⟨l.modify j fun p=>(p.1,.int .i64 z),?_,by rw[Tk];exact ag,fun y=>?_,?_,fun p aO=>?_⟩,?_,?_⟩⟩
  .rw[Array.toList_modify];exact ahh U UL
  .rw[Tk,aJ y,List.mem_append,List.mem_singleton];exact⟨.inl,fun q=>q.elim id fun q=>q ▸ uC⟩
  .rw[List.length_modify,List.length_append];omega
  .obtain⟨i,ad,rfl⟩:=List.mem_iff_getElem.1 aO;rw[List.getElem_modify];split
   .exact⟨z,rfl⟩
   .exact bO _ (List.getElem_mem _)
  .rw[Array.toList_modify];intro e' gP
   have:e'.born∈es.toList.map (·.born):=by rw[<-RT (k:=.int .i64 x) (v:=.int .i64 z) es.toList j];exact List.mem_map.2 ⟨e',gP,rfl⟩
   obtain⟨dS,ak,gG⟩:=List.mem_map.1 this
   have:=hm.born dS ak
   omega
  .rw[Array.toList_modify,RT];exact hm.nodup
section
variable{P:Program}{gm:World->Prop}{aI:Value->Prop}{w:World}
theorem K.ahK{b:Nat}{L:List Int}{x:Int}{t}(h:e4 w b L)(hk:∀z,aI (.int .i64 z)):zb (.int .i64) (.int .i64 0) false (.map (some b)) (.int .i64 x) w aI t:=by
 obtain⟨es,r,z,h1,U,ag⟩:=h.look x;exact K.mv h1 U (by rw[ag];exact hk z)
theorem K.ah9{b:Nat}{L:List Int}{x z:Int}{t}(h:e4 w b L)(au : -9223372036854775808<=x/\x<=9223372036854775807)(hk:∀av,dC b w av->e4 av b (L++[x])->gm av):xd (.int .i64) (.map (some b)) (.int .i64 x) (.int .i64 z) w gm t:=by
 obtain⟨es,c,q,h1,U,ag⟩:=h.put x z au;exact K.iS h1 U (hk _ (dC.fe w b _) (ag _ (Bm (cH h1))))
end
theorem wf_i64{x:Int}(h : -9223372036854775808<=x/\x<=9223372036854775807):(Lit.int .i64 x).wf=true:=by
 have h1:IntKind.i64.min = -9223372036854775808:=by decide
 have U:IntKind.i64.max=9223372036854775807:=by decide
 simp only[Lit.wf,h1,U,Bool.and_eq_true,decide_eq_true_eq];exact h
theorem e4.own{P:Program}{k:TypeId}{w:World}{b:Nat}{L:List Int}(hk:P.underlying k=some (.int .i64))(h:e4 w b L)(c7:L.length<=maxLen) :
  ∃si:DataW Unit,w.ownsMap P k (fun _=>some (.lit (.bool true),[])) b L.length si/\Maps.size si<=L.length/\∀b6:List Int,b6.Perm (intKeys si)->b6.Nodup/\∀x,x∈b6↔x∈L:=by
 obtain⟨es,c,h1,hm⟩:=h.ex;obtain⟨l,U,ag,aJ,bg,bO⟩:=hm.yo;have hlen:es.toList.length=l.length:=U.len;have p4:∀e∈es.toList,∃x,e.key = .int .i64 x/\WideElems.rd P k (fun _=>some ((.lit (.bool true):DataW Unit),[])) e=some (.int .i64 x,.lit (.bool true)):=fun e he=>by
  obtain⟨i,ad,rfl⟩:=List.mem_iff_getElem.1 he;have kd:=U.at i;rw[List.getElem?_eq_getElem ad,List.getElem?_eq_getElem (by omega)] at kd;simp only[Option.map_some,Option.some.injEq,Prod.mk.injEq] at kd;refine⟨_,kd.1,?_⟩;have hw:=wf_i64 (h.ok l[i].1 ((aJ _).1 (List.mem_map.2 ⟨l[i],List.getElem_mem _,rfl⟩)));unfold WideElems.rd;rw[kd.1,Maps.keyOf_int_mk hk hw];rfl
 have zZ:WideElems.Fit P k (fun _=>some ((.lit (.bool true):DataW Unit),[])) es c:=⟨by simp at hlen;omega,⟨hm.born,hm.nodup,by
  have:es.toList.map (·.key)=(l.map (·.1)).map (Value.int .i64):=by
   apply List.ext_getElem?;intro i;rw[List.getElem?_map,List.getElem?_map,List.getElem?_map]
   have:=U.at i
   cases he:es.toList[i]? with
   | none=>rw[he] at this;cases aO:l[i]? with
    | none=>rfl
    | some p=>rw[aO] at this;cases this
   | some q =>
    rw[he] at this;cases aO:l[i]? with
    | none=>rw[aO] at this;cases this
    | some p =>
     rw[aO] at this;simp only[Option.map_some,Option.some.injEq,Prod.mk.injEq] at this;simp only[Option.map_some,this.1]
  rw[this];exact List.pairwise_map.2 (ag.imp fun {a b} c5 e=>c5 (by injection e))⟩,fun x au=>let ⟨y,_,b8⟩:=p4 x au; ⟨_,b8⟩⟩
 refine⟨_,World.ownsMap.mono (World.ownsMap_of_fit h1 zZ (fun _ _ _ q=>q)) (by simp at hlen;omega),?_,fun b6 aO=>?_⟩
 .rw[Maps.size_eq,length_sorted];simp at hlen ⊢;omega
 .have afg:(intKeys (.map ((es.toList.map (WideElems.rg P k (fun _=>some ((.lit (.bool true):DataW Unit),[])))).foldr DataW.insert []))).Perm (l.map (·.1)):=by
   refine((WideShapes.sorted_perm _).map _).trans ?_;rw[List.map_map]
   have:es.toList.map ((fun p:Lit×DataW Unit=>intOf p.1)∘WideElems.rg P k (fun _=>some ((.lit (.bool true):DataW Unit),[])))=l.map (·.1):=by
    apply List.ext_getElem?;intro i;rw[List.getElem?_map,List.getElem?_map];cases he:es.toList[i]? with
    | none =>
     have:=U.at i
     rw[he] at this;cases aO:l[i]? with
     | none=>rfl
     | some p=>rw[aO] at this;cases this
    | some e =>
     obtain⟨x,au,b8⟩:=p4 e (List.mem_of_getElem? he)
     have:=U.at i
     rw[he] at this;cases aO:l[i]? with
     | none=>rw[aO] at this;cases this
     | some p =>
      rw[aO] at this;simp only[Option.map_some,Option.some.injEq,Prod.mk.injEq] at this;rw[au] at this;have bU:x=p.1:=by have:=this.1;injection this
      simp only[Option.map_some,Function.comp,WideElems.rg_of b8,bU];rfl
   rw[this]
  have Ar:=aO.trans afg;exact⟨Ar.nodup_iff.2 ag,fun x=>by rw[Ar.mem_iff];exact aJ x⟩
theorem alc{b6:List Int}(h:b6.Nodup):(b6.mergeSort fun x y=>decide (x<=y)).Pairwise (· < ·):=by
 have alT:∀a b c:Int,decide (a<=b)=true->decide (b<=c)=true->decide (a<=c)=true:=fun a b c h1 U=>by simp only[decide_eq_true_eq] at *;omega
 have to:∀a b:Int,(decide (a<=b)||decide (b<=a))=true:=fun a b=>by simp only[Bool.or_eq_true,decide_eq_true_eq];omega
 have h1:=List.pairwise_mergeSort alT to b6;have U:(b6.mergeSort fun x y=>decide (x<=y)).Nodup:=(List.mergeSort_perm b6 _).nodup_iff.2 h;refine(h1.and U).imp fun {a b} q=>?_;simp only[decide_eq_true_eq] at q;omega
end bt
end
section
namespace o
open Go
theorem Nh{p:dz}{s:Scope}(h:(ho p s).2.2=0):whole p s=0/\(kE p s).2=0/\(kO (inner p s) p.cx p.cI p.cI 0).2.2=0:=by
 unfold ho at h;by_cases h1:whole p s≠0
 .rw[if_pos h1] at h;exact absurd h h1
 rw[if_neg h1] at h;by_cases U:(kE p s).2≠0
 .rw[if_pos U] at h;exact absurd h U
 rw[if_neg U] at h;exact⟨by simpa using h1,by simpa using U,h⟩
theorem Gw{own:Scope}{cx:Int}{all:List dI}:∀(l:List dI) (i:Nat),(kO own cx all l i).2.2=0->∀k (h:k<l.length),(ix l[k] cx own).2=0/\(all.take (i+k)).any (fun x=>decide (x.name=l[k].name))=false
 | [],_,_,k,h=>by simp at h
 | c :: r,i,fF,k,h=>by
  simp only[kO] at fF;by_cases h1:(ix c cx own).2≠0
  .rw[if_pos h1] at fF;exact absurd fF h1
  rw[if_neg h1] at fF;by_cases U:(all.take i).any (fun x=>decide (x.name=c.name))=true
  .rw[if_pos U] at fF;cases fF
  rw[if_neg U] at fF;cases k with
  | zero=>exact⟨by simpa using h1,by simpa using U⟩
  | succ k =>
   have:=Gw r (i+1) fF k (by simpa using h)
   simpa[Nat.add_assoc,Nat.add_comm 1 k] using this
theorem uU{α:Type}{l:List α}{n:Int}{x:α}(h:nth l n=some x):0<=n/\l[n.toNat]? = some x/\n.toNat<l.length:=by
 unfold nth at h;by_cases ak:0<=n
 .rw[if_pos ak] at h;exact⟨ak,h,(List.getElem?_eq_some_iff.1 h).1⟩
 .rw[if_neg ak] at h;cases h
theorem V5{n:Int}{s:Scope}(h:(gR n s).2=true):0<=n/\n<=s.scalars.length/\(gR n s).1=if n=0 then 0 else 1+n:=by
 unfold gR at h ⊢;by_cases h1:n=0
 .subst h1;simp
 .rw[if_neg h1] at h ⊢;by_cases U:n<0\/(s.scalars.length:Int)<n
  .rw[if_pos U] at h;cases h
  .rw[if_neg U,if_neg h1];exact⟨by omega,by omega,rfl⟩
theorem Wd{l:List Var}{n:Int}{s:Scope}(h:(fP l n s).2.2=true):∃v,nth l n=some v/\l[n.toNat]? = some v/\0<=n/\fP l n s=((gR v.scalar s).1,(gR v.over s).1,true)/\(gR v.scalar s).2=true/\(gR v.over s).2=true:=by
 unfold fP at h ⊢;cases aD:nth l n with
 | none=>rw[aD] at h;cases h
 | some v =>
  rw[aD] at h;simp only[Bool.and_eq_true] at h;obtain⟨ak,h1,_⟩:=uU aD;exact⟨v,rfl,h1,ak,by simp only[h.1,h.2,Bool.and_self],h.1,h.2⟩
theorem Bg:∀(a b:List Int),a.Pairwise (· < ·)->b.Pairwise (· < ·)->(∀x,x∈a↔x∈b)->a=b
 | [],[],_,_,_=>rfl
 | [],y :: b,_,_,h=>by have:=(h y).2 (List.mem_cons_self ..);cases this
 | x :: a,[],_,_,h=>by have:=(h x).1 (List.mem_cons_self ..);cases this
 | x :: a,y :: b,bo,aC,h=>by
  rw[List.pairwise_cons] at bo aC;have e:x=y:=by
   rcases List.mem_cons.1 ((h x).1 (List.mem_cons_self ..)) with e | e
   .exact e
   .rcases List.mem_cons.1 ((h y).2 (List.mem_cons_self ..)) with a6 | a6
    .exact a6.symm
    .have:=aC.1 x e;have:=bo.1 y a6;omega
  subst e;congr 1;refine Bg a b bo.2 aC.2 fun z=>⟨fun bQ=>?_,fun bQ=>?_⟩
  .rcases List.mem_cons.1 ((h z).1 (List.mem_cons_of_mem _ bQ)) with e | e
   .subst e;have:=bo.1 z bQ;omega
   .exact e
  .rcases List.mem_cons.1 ((h z).2 (List.mem_cons_of_mem _ bQ)) with e | e
   .subst e;have:=aC.1 z bQ;omega
   .exact e
def gf(a n:Nat):List Int:=(List.range n).map fun(k:Nat)=>((a+k:Nat):Int)
theorem akh(a n:Nat):(gf a n).length=n:=by simp[gf]
theorem XO(a:Nat):gf a 0=[]:=rfl
theorem Bi(a:Nat):gf a 1=[(a:Int)]:=by simp[gf]
theorem aki(a n:Nat):gf a (n+1)=gf a n++[((a+n:Nat):Int)]:=by simp[gf,List.range_succ]
theorem nS{a n:Nat}{x:Int}:x∈gf a n↔(a:Int)<=x/\x<((a+n:Nat):Int):=by
 constructor
 .intro h;obtain⟨k,hk,rfl⟩:=List.mem_map.1 h
  have:=List.mem_range.1 hk
  omega
 .intro h;refine List.mem_map.2 ⟨(x - a).toNat,List.mem_range.2 (by omega),by omega⟩
structure amX(l:List Int)(last:Int)(out:List Int):Prop where
 kZ:out.Pairwise (· < ·)
 mem:∀x,x∈out↔x∈l/\x<=last
 last : -1<=last
structure rz(l r:List Int):Prop where
 kZ:r.Pairwise (· < ·)
 mem:∀x,x∈r↔x∈l
theorem rz.eq{l uK r gw:List Int}(h:rz l r)(k:rz uK gw)(e:∀x,x∈l↔x∈uK):r=gw :=
 Bg r gw h.kZ k.kZ fun x=>by rw[h.mem,k.mem,e]
def oD(m:Model)(v:Nat):Nat:=match m.vars[v]? with | some x=>(cells x m.scalars).toNat | none=>0
def GK(m:Model)(q:Nat):Nat:=match (insts m)[q]? with | some x=>x.elem.toNat | none=>0
def ju(m:Model)(c:Nat):Nat:=match m.aM[c]? with | some x=>x.cap.toNat | none=>0
def oB(m:Model)(q v:Nat)(own:Bool):List Int:=if own then gf (gT m v+GK m q - 1) 1 else gf (gT m v) (oD m v)
def nD(m:Model)(p:Int)(n:Nat):List Int:=(List.range n).flatMap fun j=>if (insts m)[j]?.map (·.proc)=some p then gf (eg m j) 1 else []
def fU(m:Model)(q:Nat)(own:Bool)(x:Node):List Int :=
 if x.op=2 then gf (gT m x.n.toNat) 1
 else if x.op=3 then oB m q x.n.toNat own
 else if x.op=4 then gf (eg m q+1+x.n.toNat) 1
 else if x.op=6 then gf (df m x.n.toNat) 1
 else if x.op=7 then nD m (x.n.tdiv 16) (insts m).length
 else []
def A6(e:List Node):Nat->Bool
 | 0=>false
 | k+1=>match e[k]? with | some x=>decide (x.op=5) | none=>false
def qF(m:Model)(q:Nat)(e:List Node)(n:Nat):List Int:=(List.range n).flatMap fun k=>match e[k]? with | some x=>fU m q (A6 e k) x | none=>[]
def vH(m:Model)(c:Nat):List Int:=gf (df m c) (1+ju m c)
def re(a:Act):Bool:=match a.index with | [x]=>decide (x.op=5) | _=>false
def tD(m:Model)(q:Nat)(a:Act):List Int :=
 if a.kind=5 then vH m a.to.toNat
 else (if a.kind=2 then qF m q a.index a.index.length else if a.kind=4 then gf (df m a.to.toNat) 1 else [])++qF m q a.value a.value.length
def mP(m:Model)(q:Nat)(a:Act):List Int :=
 if a.kind=1 then gf (gT m a.to.toNat) 1
 else if a.kind=2 then oB m q a.to.toNat (re a)
 else if a.kind=3 then gf (eg m q+1+a.to.toNat) 1
 else if a.kind=4 then vH m a.to.toNat
 else if a.kind=5 then vH m a.to.toNat++gf (eg m q+1+a.loc.toNat) 1
 else []
def GU(m:Model)(q:Nat)(c:dI):List Int:=gf (eg m q) 1++qF m q c.guard c.guard.length
def qf(m:Model)(q:Nat)(c:dI)(n:Nat):List Int:=GU m q c++(c.cb.take n).flatMap (tD m q)
def mB(m:Model)(q:Nat)(c:dI)(n:Nat):List Int:=gf (eg m q) 1++(c.cb.take n).flatMap (mP m q)
theorem Xw{m:Model}{q:Nat}{c:dI}{n:Nat}(h:n<c.cb.length):qf m q c (n+1)=qf m q c n++tD m q c.cb[n]:=by
 unfold qf;rw[List.take_succ_eq_append_getElem h,List.flatMap_append,List.flatMap_singleton,List.append_assoc]
theorem Y5{m:Model}{q:Nat}{c:dI}{n:Nat}(h:n<c.cb.length):mB m q c (n+1)=mB m q c n++mP m q c.cb[n]:=by
 unfold mB;rw[List.take_succ_eq_append_getElem h,List.flatMap_append,List.flatMap_singleton,List.append_assoc]
theorem SZ{m:Model}{q:Nat}{e:List Node}{n:Nat}(h:n<e.length):qF m q e (n+1)=qF m q e n++fU m q (A6 e n) e[n]:=by
 unfold qF;rw[List.range_succ,List.flatMap_append,List.flatMap_singleton,List.getElem?_eq_getElem h]
theorem W1{e:List Node}{n:Nat}(h:n<e.length):A6 e (n+1)=decide (e[n].op=5):=by
 simp only[A6,List.getElem?_eq_getElem h]
theorem B4{m:Model}{p:Int}{n:Nat}(h:n<(insts m).length):nD m p (n+1)=nD m p n++if (insts m)[n].proc=p then gf (eg m n) 1 else []:=by
 unfold nD;rw[List.range_succ,List.flatMap_append,List.flatMap_singleton,List.getElem?_eq_getElem h];simp only[Option.map_some,Option.some.injEq]
structure zd(s:Scope)(x:Node):Prop where
 var:x.op=2->0<=x.n/\∃v,s.vars[x.n.toNat]? = some v/\v.over=0
 item:x.op=3->0<=x.n/\x.n.toNat<s.vars.length
 loc:x.op=4->0<=x.n/\x.n.toNat<s.locals.length
 self:x.op=5->1<=s.self/\s.self<=s.scalars.length
 len:x.op=6->0<=x.n/\x.n.toNat<s.aM.length
 at_:x.op=7->0<=x.n/\(x.n.tdiv 16).toNat<s.procs.length
structure rp(s:Scope)(e:List Node):Prop where
 node:∀k (h:k<e.length),zd s e[k]/\(e[k].op=3->0<k)
 len:e.length<=24
theorem ahy{s:Scope}{x:Node}{top:Int}(h:(il x s top).2=0):zd s x:=by
 unfold il at h;by_cases h1:x.op=1
 .exact⟨by omega,by omega,by omega,by omega,by omega,by omega⟩
 rw[if_neg h1] at h;by_cases U:x.op=2\/x.op=3\/x.op=4
 .rw[if_pos U] at h;simp only at h;by_cases aG:(fP (if x.op=4 then s.locals else s.vars) x.n s).2.2=false
  .rw[if_pos aG] at h;cases h
  rw[if_neg aG] at h;obtain⟨v,dc,dd,gv,iH,uG,Az⟩:=Wd (by simpa using aG);obtain⟨b9,cn,cp⟩:=V5 Az;rw[iH] at h;simp only at h;have cw:=(List.getElem?_eq_some_iff.1 dd).1;by_cases ag:(x.op=3/\((gR v.over s).1=0\/top≠(gR v.over s).1))\/(x.op≠3/\(gR v.over s).1≠0)
  .rw[if_pos ag] at h;cases h
  .refine⟨fun e=>⟨gv,v,?_,?_⟩,fun e=>⟨gv,?_⟩,fun e=>⟨gv,?_⟩,by omega,by omega,by omega⟩
   .rw[if_neg (by omega)] at dd;exact dd
   .have:(gR v.over s).1=0:=Classical.byContradiction fun aD=>ag (.inr ⟨by omega,aD⟩)
    rw[cp] at this;split at this
    .assumption
    .omega
   .rw[if_neg (by omega)] at cw;exact cw
   .rw[if_pos e] at cw;exact cw
 .rw[if_neg U] at h;unfold lC at h;refine⟨by omega,by omega,by omega,fun e=>?_,fun e=>?_,fun e=>?_⟩
  .rw[if_pos e] at h;by_cases q:1<=s.self/\s.self<=s.scalars.length
   .exact q
   .rw[if_neg q] at h;cases h
  .rw[if_neg (by omega),if_pos e] at h;unfold jE at h;cases aD:nth s.aM x.n with
   | none=>rw[aD] at h;cases h
   | some c=>exact⟨(uU aD).1,(uU aD).2.2⟩
  .rw[if_neg (by omega),if_neg (by omega),if_pos e] at h;unfold AA at h;by_cases q:0<=x.n
   .rw[if_pos q] at h;cases aD:nth s.procs (x.n.tdiv 16) with
    | none=>rw[aD] at h;cases h
    | some c=>exact⟨q,(uU aD).2.2⟩
   .rw[if_neg q] at h;cases h
theorem V3{e:List Node}{s:Scope}(h:(kind e s).2=0):rp s e:=by
 unfold kind ko at h;by_cases h1:e.length > 24
 .rw[if_pos h1] at h;cases h
 rw[if_neg h1] at h;by_cases U:e.length=0
 .exact⟨fun k hk=>by omega,by omega⟩
 rw[if_neg U] at h;by_cases ag:(eS (e5 s) e []).1≠0
 .rw[if_pos ag] at h;exact absurd h ag
 have ag:(eS (e5 s) e []).1=0:=by simpa using ag
 refine⟨fun k hk=>?_,by omega⟩;have qW:∀j,(eS (e5 s) (e.take j) []).1=0:=fun j=>Classical.byContradiction fun aD=>by
  have:=NU (f:=e5 s) (e:=e) (k:=j) rfl aD
  rw[this] at ag;exact aD ag
 have kB:eS (e5 s) (e.take k) []=(0,(eS (e5 s) (e.take k) []).2):=Prod.ext (qW k) rfl;have aJ:=wT hk kB;have bg:=qW (k+1);rw[aJ] at bg;unfold stepG at bg;by_cases dH:e0 e[k].op<0
 .rw[if_pos dH] at bg;cases bg
 rw[if_neg dH] at bg;by_cases dM:((eS (e5 s) (e.take k) []).2.length:Int)<e0 e[k].op
 .rw[if_pos dM] at bg;cases bg
 rw[if_neg dM] at bg;by_cases eh:(e5 s e[k] (eS (e5 s) (e.take k) []).2).2≠0
 .rw[if_pos eh] at bg;exact absurd bg eh
 have eh:(e5 s e[k] (eS (e5 s) (e.take k) []).2).2=0:=by simpa using eh
 constructor
 .by_cases bc:wA e[k].op=false
  .unfold e5 at eh;rw[M9 bc] at eh;exact ahy eh
  .have:9<=e[k].op:=by
    simp only[wA,decide_eq_false_iff_not] at bc;omega
   exact⟨by omega,by omega,by omega,by omega,by omega,by omega⟩
 .intro bK;apply Classical.byContradiction;intro aD;have yc:k=0:=by omega
  subst yc;rw[bK] at dM;simp[eS,e0] at dM
theorem Gg{e:List Node}{k:Int}{s:Scope}(h:asked e k s=0):rp s e:=by
 unfold asked at h;by_cases h1:(kind e s).2≠0
 .rw[if_pos h1] at h;exact absurd h h1
 .exact V3 (by simpa using h1)
structure qm(s:Scope)(a:Act):Prop where
 set:a.kind=1->0<=a.to/\∃v,s.vars[a.to.toNat]? = some v/\v.over=0
 item:a.kind=2->0<=a.to/\a.to.toNat<s.vars.length/\rp s a.index
 loc:a.kind=3->0<=a.to/\a.to.toNat<s.locals.length
 chan:a.kind=4\/a.kind=5->0<=a.to/\a.to.toNat<s.aM.length
 recv:a.kind=5->0<=a.loc/\a.loc.toNat<s.locals.length
 val:a.kind≠5->rp s a.value
 kind:1<=a.kind/\a.kind<=5
theorem Ke{l:List Var}{n:Int}{s:Scope}{q:Var×Int}(h:declared l n s=some q):0<=n/\l[n.toNat]? = some q.1/\n.toNat<l.length:=by
 unfold declared at h;cases aD:nth l n with
 | none=>rw[aD] at h;cases h
 | some v =>
  rw[aD] at h;simp only at h;split at h
  .injection h with h
   subst h;exact uU aD
  .cases h
theorem JD{a:Act}{s:Scope}(h:jN a s=0):qm s a:=by
 unfold jN at h;by_cases h1:a.kind=1\/a.kind=2\/a.kind=3
 .rw[if_pos h1] at h;cases bw:declared (if a.kind=3 then s.locals else s.vars) a.to s with
  | none=>rw[bw] at h;cases h
  | some q =>
   rw[bw] at h;obtain⟨v,k⟩:=q;obtain⟨d1,d2,d3⟩:=Ke bw;simp only at h;by_cases U:(v.over≠0)≠(a.kind=2)
   .rw[if_pos U] at h;cases h
   rw[if_neg U] at h;have U:(v.over≠0)=(a.kind=2):=Classical.byContradiction fun q=>U q;by_cases ag:a.kind=2/\asked a.index (1+v.over) s≠0
   .rw[if_pos ag] at h;exact absurd h ag.2
   rw[if_neg ag] at h;refine⟨fun e=>⟨d1,v,?_,?_⟩,fun e=>⟨d1,?_,?_⟩,fun e=>⟨d1,?_⟩,by omega,by omega,fun _=>Gg h,by omega⟩
   .rw[if_neg (by omega)] at d2;exact d2
   .apply Classical.byContradiction;intro aD
    have:a.kind=2:=U ▸ aD
    omega
   .rw[if_neg (by omega)] at d3;exact d3
   .exact Gg (Classical.byContradiction fun aD=>ag ⟨e,aD⟩)
   .rw[if_pos e] at d3;exact d3
 .rw[if_neg h1] at h;by_cases U:a.kind=4\/a.kind=5
  .rw[if_pos U] at h;cases aw:channel a.to s with
   | none=>rw[aw] at h;cases h
   | some k =>
    rw[aw] at h;simp only at h;have Ac:0<=a.to/\a.to.toNat<s.aM.length:=by
     unfold channel at aw;cases aD:nth s.aM a.to with
     | none=>rw[aD] at aw;cases aw
     | some c=>exact⟨(uU aD).1,(uU aD).2.2⟩
    refine⟨by omega,by omega,by omega,fun _=>Ac,fun e=>?_,fun e=>?_,by omega⟩
    .rw[if_pos e] at h;unfold E3 at h;cases bw:declared s.locals a.loc s with
     | none=>rw[bw] at h;cases h
     | some q =>
      obtain⟨d1,d2,d3⟩:=Ke bw;exact⟨d1,d3⟩
    .rw[if_neg e] at h;exact Gg h
  .rw[if_neg U] at h;cases h
structure vg(s:Scope)(c:dI):Prop where
 guard:rp s c.guard
 act:∀k (h:k<c.cb.length),qm s c.cb[k]
 hx:c.cb.length<=6
theorem RC{s:Scope}:∀(l:List Act) (i:Nat) (t:Bool),(j6 s l i t).2=0->∀k (h:k<l.length),qm s l[k]
 | [],_,_,_,k,h=>by simp at h
 | a :: r,i,t,h,k,hk=>by
  unfold j6 at h;by_cases h1:(gK a&&t)=true
  .rw[if_pos h1] at h;cases h
  rw[if_neg h1] at h;by_cases U:jN a s≠0
  .rw[if_pos U] at h;exact absurd h U
  rw[if_neg U] at h;cases k with
  | zero=>exact JD (by simpa using U)
  | succ k=>exact RC r _ _ h k (by simpa using hk)
theorem abq{c:dI}{cx:Int}{s:Scope}(h:(ix c cx s).2=0):vg s c:=by
 unfold ix at h;by_cases h1:head c cx≠0
 .rw[if_pos h1] at h;exact absurd h h1
 rw[if_neg h1] at h;by_cases U:c.guard.length > 0/\asked c.guard 1 s≠0
 .rw[if_pos U] at h;exact absurd h U.2
 rw[if_neg U] at h;refine⟨?_,RC _ _ _ h,?_⟩
 .by_cases aZ:c.guard.length > 0
  .exact Gg (Classical.byContradiction fun aD=>U ⟨aZ,aD⟩)
  .exact⟨fun k hk=>by omega,by omega⟩
 .apply Classical.byContradiction;intro aD;apply h1;unfold head;by_cases dH:isName c.name=false
  .rw[if_pos dH];decide
  rw[if_neg dH];by_cases dM:c.from_<0\/cx<=c.from_\/c.to<0\/cx<=c.to
  .rw[if_pos dM];decide
  rw[if_neg dM,if_pos (by omega)];decide
theorem J2{m:Model}(h:(check m).cX=0):(lE m).cX=0:=by
 unfold check at h;by_cases bw:(data m).cX≠0
 .rw[if_pos bw] at h;exact absurd h bw
 rw[if_neg bw] at h;apply Classical.byContradiction;intro aO;rw[if_pos aO] at h;exact aO h
theorem abv{m:Model}(h:(check m).cX=0){p k:Nat}(aO:p<m.procs.length)(hk:k<m.procs[p].cI.length):vg (inner m.procs[p] (eN m)) m.procs[p].cI[k]:=by
 obtain⟨eO,_,_⟩:=Is (J2 h);obtain⟨_,dc,_,_⟩:=zR aO (eO p aO);obtain⟨_,_,iH⟩:=Nh dc;have e:gJ m (p:Int)=inner m.procs[p] (eN m):=by
  unfold gJ;rw[iT (by omega) (by omega)];rfl
 have bg:=(Gw _ _ iH k hk).1;rw[e] at bg;exact abq bg
theorem xT{L:List (List Int)}{B:List (List dK)}(h:L.map List.length=B.map List.length):L.flatten.length=total B:=by
 rw[List.length_flatten,h];rfl
def pre(zm:List Int)(d:Nat):List Int:=zm.take d++List.replicate (zm.length - d) 0
theorem Bp{zm:List Int}{d:Nat}{x:Int}(h:zm[d]? = some x):zm.take (d+1)=zm.take d++[x]:=by
 obtain⟨bw,rfl⟩:=List.getElem?_eq_some_iff.1 h;exact List.take_succ_eq_append_getElem bw
theorem aaJ{m:Model}{i:Nat}(h:i<m.aM.length):df m (i+1)=df m i+(1+m.aM[i].cap.toNat):=by
 have bE:i<(dA m).length:=by simpa[dA] using h
 unfold df;rw[Fs bE];simp[dA,tK];omega
theorem aaK(m:Model):df m 0=total (cW m):=by simp[df,total]
theorem We(s w:Int):∀(l:List dK) (k j:Nat) (h:j<l.length),(fi s w l k)[j]? = some ⟨s,w,(k+j:Nat),l[j].bf,l[j].ad,l[j].kind⟩
 | [],_,_,h=>by simp at h
 | b :: l,k,0,_=>by simp[fi]
 | b :: l,k,j+1,h=>by
  simp only[fi,List.getElem?_cons_succ,List.getElem_cons_succ];rw[We s w l (k+1) j (by simpa using h),show k+1+j=k+(j+1) from by omega]
theorem JY(s:Int):∀(ls:List (List dK)) (i w k:Nat) (hw:w<ls.length) (hk:k<ls[w].length),(cellsOf s ls i)[total (ls.take w)+k]? = some ⟨s,(i+w:Nat),k,ls[w][k].bf,ls[w][k].ad,ls[w][k].kind⟩
 | [],_,_,_,hw,_=>by simp at hw
 | l :: r,i,0,k,_,hk=>by
  simp only[List.take_zero,total,List.map_nil,List.sum_nil,Nat.zero_add,List.getElem_cons_zero,cellsOf] at hk ⊢;rw[List.getElem?_append_left (by rw[s9];exact hk),We s i l 0 k hk];simp
 | l :: r,i,w+1,k,hw,hk=>by
  simp only[List.take_succ_cons,Fq,List.getElem_cons_succ,cellsOf] at hk ⊢;rw[List.getElem?_append_right (by rw[s9];omega),s9,show l.length+total (r.take w)+k - l.length=total (r.take w)+k from by omega,JY s r (i+1) w k (by simpa using hw) hk,show i+1+w=i+(w+1) from by omega]
theorem Wj{m:Model}{k p:Nat}(hk:k<(insts m).length)(aO:p<m.procs.length)(aC:lz m (insts m)[k]=th m.scalars m.procs[p]):∃h:eg m k<(cc m).length,(cc m)[eg m k].bf=0/\(cc m)[eg m k].ad=m.procs[p].cx - 1:=by
 have hw:k<(fc m).length:=by simpa[fc] using hk
 have e:(fc m)[k]=th m.scalars m.procs[p]:=by simp[fc,aC]
 have ak:0<(fc m)[k].length:=by rw[e,A7];omega
 have h1:=JY 3 (fc m) 0 k 0 hw ak;have U:=aht (m:=m) (c:=eg m k) (by unfold eg;omega);rw[show eg m k - (total (cW m)+total (dA m))=total ((fc m).take k)+0 from by unfold eg;omega,h1] at U;obtain⟨ag,aJ⟩:=List.getElem?_eq_some_iff.1 U;refine⟨ag,?_,?_⟩
 .rw[aJ];simp only[e];rfl
 .rw[aJ];simp only[e];rfl
theorem Fits.loc{m:Model}{s:List Int}(h:Fits m s){k p:Nat}(hk:k<(insts m).length)(aO:p<m.procs.length)(aC:lz m (insts m)[k]=th m.scalars m.procs[p]):∃d:Nat,s[eg m k]? = some (d:Int)/\(d:Int)<m.procs[p].cx:=by
 obtain⟨h1,U,ag⟩:=Wj hk aO aC;have ay:eg m k<s.length:=by rw[h.len];exact h1
 have aJ:=h.cell _ ay h1;rw[U,ag] at aJ;refine⟨s[eg m k].toNat,?_,by omega⟩;rw[List.getElem?_eq_getElem ay,Int.toNat_of_nonneg aJ.1]
theorem RP(m:Model)(s:List Int)(p l:Int)(k:Nat):qA m s p l (k+1)=qA m s p l k+if ((insts m)[k]?.map (·.proc))=some p/\s[eg m k]? = some l then 1 else 0:=by
 unfold qA;rw[List.range_succ,List.filter_append,List.length_append,List.filter_cons,List.filter_nil];by_cases h:((insts m)[k]?.map (·.proc))=some p/\s[eg m k]? = some l
 .rw[decide_eq_true h,if_pos rfl,if_pos h];rfl
 .rw[decide_eq_false h,if_neg (by simp),if_neg h];rfl
theorem xx(m:Model)(s:List Int)(p:Nat)(n:Int)(k:Nat):(js m s p n k).length=n.toNat:=by simp[js]
theorem Gh{m:Model}{s:List Int}{p:Nat}{n:Int}{k d:Nat}(h:d<n.toNat):(js m s p n k)[d]? = some ((qA m s p d k:Nat):Int):=by
 simp[js,h]
theorem aaf(m:Model)(s:List Int)(p:Nat)(n:Int):js m s p n 0=List.replicate n.toNat 0:=by
 apply List.ext_getElem?;intro i;by_cases h:i<n.toNat
 .rw[Gh h];simp[qA,h]
 .rw[List.getElem?_eq_none (by rw[xx];omega),List.getElem?_eq_none (by simp;omega)]
theorem aad{m:Model}{s:List Int}{p:Nat}{n:Int}{k:Nat}(h:(insts m)[k]?.map (·.proc)≠some (p:Int)):js m s p n (k+1)=js m s p n k:=by
 unfold js;apply List.map_congr_left;intro l _;rw[RP,if_neg (fun e=>h e.1),Nat.add_zero]
theorem aae{m:Model}{s:List Int}{p:Nat}{n:Int}{k d:Nat}(h:(insts m)[k]?.map (·.proc)=some (p:Int))(ay:s[eg m k]? = some (d:Int))(bw:d<n.toNat):js m s p n (k+1)=(js m s p n k).set d ((qA m s p d k:Nat)+1:Int):=by
 apply List.ext_getElem?;intro i;rw[List.getElem?_set];by_cases ad:i<n.toNat
 .rw[Gh ad,RP];by_cases LL:d=i
  .subst LL;rw[if_pos ⟨h,ay⟩,if_pos rfl,if_pos (by rw[xx];exact bw)];rfl
  .rw[if_neg (fun e=>LL (by have a6:=e.2;rw[ay] at a6;have bK:=Option.some.inj a6;omega)),if_neg LL,Gh ad,Nat.add_zero]
 .rw[List.getElem?_eq_none (by rw[xx];omega),if_neg (by omega),List.getElem?_eq_none (by rw[xx];omega)]
theorem JJ(m:Model)(s:List Int)(p l:Int)(k:Nat):qA m s p l k<=k:=by
 unfold qA;refine Nat.le_trans (List.length_filter_le _ _) ?_;simp
theorem VF{m:Model}:∀(l:List dz) (i:Nat),l=m.procs.drop i->∀x∈iR m l i,∃(p:Nat) (h:p<m.procs.length),x.proc=p/\(m.procs[p].over≠0->1<=x.elem)
 | [],_,_,x,au=>by simp[iR] at au
 | p :: r,i,h,x,au=>by
  have ad:i<m.procs.length:=by
   apply Classical.byContradiction;intro aD;rw[List.drop_eq_nil_of_le (by omega)] at h;cases h
  rw[List.drop_eq_getElem_cons ad] at h;injection h with h1 U
  simp only[iR,List.mem_append] at au;rcases au with (au | au) | au
  .unfold iq at au;split at au
   .rename_i ak;rw[List.mem_singleton] at au;subst au;exact⟨i,ad,rfl,fun aD=>absurd (h1 ▸ ak) aD⟩
   .cases au
  .unfold iU at au;obtain⟨k,_,rfl⟩:=List.mem_map.1 au;exact⟨i,ad,rfl,fun _=>by simp only;omega⟩
  .exact VF r (i+1) U x au
structure gr(m:Model)(q p:Nat):Prop where
 aG:q<(insts m).length
 aO:p<m.procs.length
 eq:(insts m)[q].proc=p
 elem:m.procs[p].over≠0->1<=(insts m)[q].elem
 fr:0<=(insts m)[q].elem/\(insts m)[q].elem<=4
theorem HY{m:Model}{q:Nat}(h:q<(insts m).length):∃p,gr m q p:=by
 obtain⟨p,aO,e,h1⟩:=VF m.procs 0 (by simp) _ (List.getElem_mem h);exact⟨p,h,aO,e,h1,(rT _ (List.getElem_mem h)).elem⟩
theorem gr.nth{m:Model}{q p:Nat}(h:gr m q p):o.nth m.procs ((insts m)[q]'(h.aG)).proc=some (m.procs[p]'(h.aO)):=by
 rw[h.eq,iT (by omega) (by have:=h.aO;omega)];rfl
theorem gr.RR{m:Model}{q p:Nat}(h:gr m q p):lz m ((insts m)[q]'(h.aG))=th m.scalars (m.procs[p]'(h.aO)):=by
 unfold lz;rw[h.nth]
theorem gr.room{m:Model}{q p:Nat}(h:gr m q p):eg m q+(1+(m.procs[p]'(h.aO)).vars.length)<=eA m:=by
 have:=Vy h.aG
 rw[h.RR,A7] at this;exact this
theorem Cy{m:Model}{q:Nat}(h:q<(insts m).length):GK m q=((insts m)[q]'h).elem.toNat:=by
 unfold GK;rw[List.getElem?_eq_getElem h]
theorem rW{m:Model}{v:Nat}(h:v<m.vars.length):oD m v=(cells m.vars[v] m.scalars).toNat:=by
 unfold oD;rw[List.getElem?_eq_getElem h]
theorem od{m:Model}{c:Nat}(h:c<m.aM.length):ju m c=m.aM[c].cap.toNat:=by
 unfold ju;rw[List.getElem?_eq_getElem h]
theorem IV{m:Model}(bq:eF m){v:Nat}(h:v<m.vars.length):gT m v+oD m v<=64:=by
 have:=ts h
 rw[rW h]
 have:=o0 m
 have:eA m<=64:=nf bq
 omega
theorem vC{m:Model}(bq:eF m){c:Nat}(h:c<m.aM.length):df m c+(1+ju m c)<=64:=by
 have:=xE h
 rw[od h]
 have:=o0 m
 have:eA m<=64:=nf bq
 omega
theorem DT{m:Model}(bq:eF m){q:Nat}(h:q<(insts m).length):eg m q+1<=64:=by
 obtain⟨p,aO⟩:=HY h
 have:=aO.room
 have:eA m<=64:=nf bq
 omega
theorem gr.E5{m:Model}(bq:eF m){q p:Nat}(h:gr m q p):eg m q+(1+(m.procs[p]'(h.aO)).vars.length)<=64:=by
 have:=h.room
 have:eA m<=64:=nf bq
 omega
structure fk(n:Nat)(l:List Int):Prop where
 bf:∀x∈l,0<=x/\x<80
 len:l.length<=n
theorem fk.row{a n k:Nat}(h:a+n<=80)(aD:n<=k):fk k (gf a n):=⟨fun x au=>by have:=nS.1 au;omega,by rw[akh];exact aD⟩
theorem fk.nil(n:Nat):fk n []:=⟨fun x au=>(by cases au),Nat.zero_le _⟩
theorem fk.app{a b n:Nat}{l r:List Int}(h:fk a l)(k:fk b r)(aD:a+b<=n):fk n (l++r):=⟨fun x au=>by
 rcases List.mem_append.1 au with au | au
 .exact h.bf x au
 .exact k.bf x au,by rw[List.length_append];have:=h.len;have:=k.len;omega⟩
theorem fk.mono{a n:Nat}{l:List Int}(h:fk a l)(aD:a<=n):fk n l:=⟨h.bf,Nat.le_trans h.len aD⟩
theorem VO{m:Model}(bq:eF m){q v:Nat}(aG:q<(insts m).length)(aT:v<m.vars.length)(own:Bool):fk 64 (oB m q v own):=by
 have:=IV bq aT
 have aJ:=(rT _ (List.getElem_mem aG)).elem
 have:=Cy aG
 unfold oB;cases own
 .exact fk.row (by omega) (by omega)
 .exact fk.row (by omega) (by omega)
theorem RO{m:Model}(bq:eF m)(p:Int):∀n,n<=(insts m).length->fk n (nD m p n)
 | 0,_=>fk.nil _
 | n+1,h=>by
  rw[B4 (by omega)]
  have:=DT bq (q:=n) (by omega)
  refine fk.app (RO bq p n (by omega)) (b:=1) ?_ (Nat.le_refl _);split
  .exact fk.row (by omega) (Nat.le_refl _)
  .exact fk.nil _
theorem DV{m:Model}(bq:eF m):(insts m).length<=30:=by have:=uE m;have:=bq.procs;omega
theorem aim{m:Model}(bq:eF m){q p:Nat}(h:gr m q p){x:Node}(au:zd (inner (m.procs[p]'(h.aO)) (eN m)) x)(own:Bool):fk 64 (fU m q own x):=by
 unfold fU;by_cases U:x.op=2
 .rw[if_pos U];obtain⟨_,v,aT,_⟩:=au.var U;have e7:x.n.toNat<m.vars.length:=(List.getElem?_eq_some_iff.1 aT).1
  have:=ts e7
  have:=o0 m
  have:eA m<=64:=nf bq
  exact fk.row (by omega) (by omega)
 rw[if_neg U];by_cases ag:x.op=3
 .rw[if_pos ag];exact VO bq h.aG (au.item ag).2 own
 rw[if_neg ag];by_cases aJ:x.op=4
 .rw[if_pos aJ];have bg:x.n.toNat<(m.procs[p]'(h.aO)).vars.length:=(au.loc aJ).2
  have:=h.E5 bq
  exact fk.row (by omega) (by omega)
 rw[if_neg aJ];by_cases bO:x.op=6
 .rw[if_pos bO]
  have:=vC bq (au.len bO).2
  exact fk.row (by omega) (by omega)
 rw[if_neg bO];by_cases cj:x.op=7
 .rw[if_pos cj];exact(RO bq _ _ (Nat.le_refl _)).mono (by have:=DV bq;omega)
 .rw[if_neg cj];exact fk.nil _
theorem S0{m:Model}(bq:eF m){q p:Nat}(h:gr m q p){e:List Node}(he:rp (inner (m.procs[p]'(h.aO)) (eN m)) e):∀n,n<=e.length->fk (64*n) (qF m q e n)
 | 0,_=>fk.nil _
 | n+1,aD=>by
  rw[SZ (by omega)];exact fk.app (S0 bq h he n (by omega)) (aim bq h (he.node n (by omega)).1 _) (by omega)
theorem Ky{m:Model}(bq:eF m){q p:Nat}(h:gr m q p){e:List Node}(he:rp (inner (m.procs[p]'(h.aO)) (eN m)) e){n:Nat}(aD:n<=e.length):fk 1536 (qF m q e n) :=
 (S0 bq h he n aD).mono (by have:=he.len;omega)
theorem J0{m:Model}(bq:eF m){c:Nat}(h:c<m.aM.length):fk 64 (vH m c):=by
 have:=vC bq h
 exact fk.row (by omega) (by omega)
theorem ZK{m:Model}(bq:eF m){q p:Nat}(h:gr m q p){a:Act}(bo:qm (inner (m.procs[p]'(h.aO)) (eN m)) a):fk 3072 (tD m q a):=by
 unfold tD;by_cases bg:a.kind=5
 .rw[if_pos bg];exact(J0 bq (bo.chan (.inr bg)).2).mono (by omega)
 .rw[if_neg bg];refine fk.app (a:=1536) ?_ (Ky bq h (bo.val bg) (Nat.le_refl _)) (by omega);by_cases U:a.kind=2
  .rw[if_pos U];exact Ky bq h (bo.item U).2.2 (Nat.le_refl _)
  rw[if_neg U];by_cases aJ:a.kind=4
  .rw[if_pos aJ]
   have:=vC bq (bo.chan (.inl aJ)).2
   exact fk.row (by omega) (by omega)
  .rw[if_neg aJ];exact fk.nil _
theorem ZL{m:Model}(bq:eF m){q p:Nat}(h:gr m q p){a:Act}(bo:qm (inner (m.procs[p]'(h.aO)) (eN m)) a):fk 80 (mP m q a):=by
 have qI:=h.E5 bq;unfold mP;by_cases h1:a.kind=1
 .rw[if_pos h1];obtain⟨_,v,aT,_⟩:=bo.set h1;have e7:a.to.toNat<m.vars.length:=(List.getElem?_eq_some_iff.1 aT).1
  have:=IV bq e7
  exact fk.row (by omega) (by omega)
 rw[if_neg h1];by_cases U:a.kind=2
 .rw[if_pos U];exact(VO bq h.aG (bo.item U).2.1 _).mono (by omega)
 rw[if_neg U];by_cases ag:a.kind=3
 .rw[if_pos ag];have bg:a.to.toNat<(m.procs[p]'(h.aO)).vars.length:=(bo.loc ag).2;exact fk.row (by omega) (by omega)
 rw[if_neg ag];by_cases aJ:a.kind=4
 .rw[if_pos aJ];exact(J0 bq (bo.chan (.inl aJ)).2).mono (by omega)
 rw[if_neg aJ];by_cases bg:a.kind=5
 .rw[if_pos bg];have bO:a.loc.toNat<(m.procs[p]'(h.aO)).vars.length:=(bo.recv bg).2;exact fk.app (J0 bq (bo.chan (.inr bg)).2) (fk.row (k:=1) (by omega) (by omega)) (by omega)
 .rw[if_neg bg];exact fk.nil _
theorem adv{m:Model}(bq:eF m){q p:Nat}(h:gr m q p){c:dI}(aw:vg (inner (m.procs[p]'(h.aO)) (eN m)) c):fk 1537 (GU m q c):=by
 have:=DT bq h.aG
 exact fk.app (fk.row (k:=1) (by omega) (by omega)) (Ky bq h aw.guard (Nat.le_refl _)) (by omega)
theorem Xx{m:Model}(bq:eF m){q p:Nat}(h:gr m q p){c:dI}(aw:vg (inner (m.procs[p]'(h.aO)) (eN m)) c):∀n,n<=c.cb.length->fk (1537+3072*n) (qf m q c n)
 | 0,_=>by
  unfold qf;simpa using adv bq h aw
 | n+1,aD=>by
  rw[Xw (by omega)];exact fk.app (Xx bq h aw n (by omega)) (ZK bq h (aw.act n (by omega))) (by omega)
theorem Y6{m:Model}(bq:eF m){q p:Nat}(h:gr m q p){c:dI}(aw:vg (inner (m.procs[p]'(h.aO)) (eN m)) c):∀n,n<=c.cb.length->fk (1+80*n) (mB m q c n)
 | 0,_=>by
  have:=DT bq h.aG
  unfold mB;simpa using fk.row (a:=eg m q) (n:=1) (k:=1) (by omega) (by omega)
 | n+1,aD=>by
  rw[Y5 (by omega)];exact fk.app (Y6 bq h aw n (by omega)) (ZL bq h (aw.act n (by omega))) (by omega)
theorem akT{a:Act}(h:a.index.length=1):re a=decide ((a.index[0]'(by omega)).op=5):=by
 obtain⟨x,au⟩:=List.length_eq_one_iff.1 h;unfold re;simp[au]
theorem akS{a:Act}(h:¬a.index.length=1):re a=false:=by
 unfold re;split
 .rename_i x au;rw[au] at h;exact absurd rfl h
 .rfl
theorem Xg(L:List Int)(a n:Nat):L++gf a (n+1)=L++gf a n++[((a+n:Nat):Int)]:=by rw[aki,List.append_assoc]
end o
namespace Go.Proofs.R
open Go Go.RowKit bt
structure ob(w:World)(b:Nat)(m:o.Model)(q:Nat):Prop where
 ex:∃cs ys cy,w.heap[b]? = some (.cells (cs++ys++[cy,.int .i64 q]).toArray T.l7)/\o.ec w cs m/\o.ja w ys (o.layout m)/\kK w cy (o.insts m)
theorem ob.ext{w w':World}{b q:Nat}{m:o.Model}(he:Ext w w')(h:ob w b m q):ob w' b m q :=
 let ⟨xs,cs,cy,ak,h1,U,ag⟩:=h.ex; ⟨xs,cs,cy,he.obj ak,h1.ext he,U.ext he,ag.ext Flat.ext he⟩
theorem ob.form{w:World}{b q:Nat}{m:o.Model}(h:ob w b m q):∃cz bS b9 c1 cn c2 cp bP cA bX gp d0 eO d1 fz d2 gb d3 gA d4 cU ci,
  w.heap[b]? = some (.cells #[.slice gp m.scalars.length d0,.slice eO m.vars.length d1,.slice fz m.aM.length d2,.slice gb m.procs.length d3,.slice gA m.props.length d4,
   .slice cz (o.layout m).vars.length bS,.slice b9 (o.layout m).aM.length c1,.slice cn (o.layout m).insts.length c2,.int .i64 (o.layout m).cells,.slice cp (o.layout m).bf.length bP,.slice cA (o.layout m).ad.length bX,.slice cU (o.insts m).length ci,.int .i64 q] T.l7) /\
  bF 1 (Flat eB) w (.slice cz (o.layout m).vars.length bS) (o.layout m).vars/\bF 1 (Flat eB) w (.slice b9 (o.layout m).aM.length c1) (o.layout m).aM/\bF 1 (Flat eB) w (.slice cn (o.layout m).insts.length c2) (o.layout m).insts /\
  o.hI w (.slice gp m.scalars.length d0) m.scalars/\o.hh w (.slice eO m.vars.length d1) m.vars/\o.mC w (.slice fz m.aM.length d2) m.aM/\o.pB w (.slice gb m.procs.length d3) m.procs /\
  kK w (.slice cU (o.insts m).length ci) (o.insts m):=by
 obtain⟨cs,xs,cy,aC,bq,c7,bB⟩:=h.ex;obtain⟨cz,bS,b9,c1,cn,c2,cp,bP,cA,bX,rfl,gx,fA,gd,ir,k0⟩:=c7.form;obtain⟨gp,d0,eO,d1,fz,d2,gb,d3,gA,d4,rfl,ak,h1,U,ag,aJ,_⟩:=bq.form;obtain⟨cU,ci,rfl,_⟩:=bB.form;exact⟨cz,bS,b9,c1,cn,c2,cp,bP,cA,bX,gp,d0,eO,d1,fz,d2,gb,d3,gA,d4,cU,ci,aC,gx,fA,gd,ak,h1,U,ag,bB⟩
theorem r9(b:Nat)(L:List Int)(a n:Nat)(x y:Int)(w:World)(h:e4 w b L)(au:x=a)(b8:y=n)(hm:a+n<=1000000000) :
  bu Tryz.prog F.c #[.map (some b),.int .i64 x,.int .i64 y] w fun _ w'=>e4 w' b (L++o.gf a n)/\Mod (fun i=>i=b) w w':=by
 subst au b8;refine bL E.c ?_;refine bG ?_;refine ae ?_;refine K.dj 8 n [0,1,7] (fun _:Unit=>[]) () (fun k _ W=>Mod (fun i=>i=b) w W/\e4 W b (L++o.gf a k)) bx bx ⟨Mod.refl _ _,by simpa[o.XO] using h⟩ ?_;rintro k _ S av hk ⟨ur,fY⟩;refine ae ?_;apply K.cond<;>intro g1
 .refine ae ?_;refine K.ahK fY fun z=>?_;refine ae ?_;refine K.I4 ?_;refine ae ?_;refine K.ah9 fY (by omega) fun aU s0 eC=>?_;refine ae ?_;refine⟨by omega,bk,(),trivial,ur.trans (s0.mod rfl),?_⟩;rw[o.Xg];exact eC
 .have jz:k=n:=by omega
  subst jz;refine ae ?_;exact⟨fY,ur⟩
theorem Dk(b q:Nat)(m:o.Model)(w:World)(h:ob w b m q)(aG:q<(o.insts m).length) :
  bu Tryz.prog F.q #[.pointer (some ⟨b,0,none⟩)] w fun v w'=>v = .int .i64 (o.eg m q)/\Ext w w':=by
 obtain⟨cz,bS,b9,c1,cn,c2,cp,bP,cA,bX,gp,d0,eO,d1,fz,d2,gb,d3,gA,d4,cU,ci,aC,gx,fA,gd,ak,h1,U,ag,bB⟩:=h.form;obtain⟨ad,he⟩:=o.ym aG;obtain⟨a2,rfl⟩:=gd.addr (by omega);refine bL E.q ?_;refine bG ?_;refine ae ?_;intro av aB;refine ae ?_;exact⟨by rw[he],aB⟩
theorem Ov(b cN q i:Nat)(L:List Int)(m:o.Model)(w0 w:World)(h:ob w0 b m q)(he:Ext w0 w)(lq:w0.heap.size<=cN)(ay:e4 w cN L)(bq:o.eF m)(ad:i<m.aM.length) :
  bu Tryz.prog F.lg #[.pointer (some ⟨b,0,none⟩),.map (some cN),.int .i64 i] w fun _ w'=>e4 w' cN (L++o.vH m i)/\Mod (fun k=>k=cN) w w':=by
 obtain⟨cz,bS,b9,c1,cn,c2,cp,bP,cA,bX,gp,d0,eO,d1,fz,d2,gb,d3,gA,d4,cU,ci,aC,gx,fA,gd,ak,h1,U,ag,bB⟩:=(h.ext he).form;obtain⟨lS,fh⟩:=o.vB ad;have wq:=o.vC bq ad;have fG:=o.od ad;have hZ:=(bq.chan _ (List.getElem_mem ad)).cap;have hx:=bq.hx;obtain⟨dD,rfl⟩:=fA.addr (by omega);obtain⟨a2,rfl⟩:=U.addr (by omega);have en:=(U.at i ad).cells;refine bL E.lg ?_;refine bG ?_;refine ae ?_;intro av aB;refine ae ?_;refine K.call (r9 cN L (o.df m i) (1+o.ju m i) _ _ av (ay.ext aB) (by rw[fh]) (by omega) (by omega)) ?_;rintro _ aU ⟨eC,fp⟩;refine ae ?_;exact⟨eC,aB.mod.trans fp⟩
theorem Fv(b cN q i:Nat)(item own:Bool)(L:List Int)(m:o.Model)(w0 w:World)(h:ob w0 b m q)(he:Ext w0 w)(lq:w0.heap.size<=cN)(ay:e4 w cN L)(bq:o.eF m)(aG:q<(o.insts m).length)(ad:i<m.vars.length)
  (bc:item=true->own=true->1<=(o.insts m)[q].elem) :
  bu Tryz.prog F.k #[.pointer (some ⟨b,0,none⟩),.map (some cN),.int .i64 i,.bool item,.bool own] w fun _ w'=>e4 w' cN (L++o.oB m q i (item&&own))/\Mod (fun k=>k=cN) w w':=by
 obtain⟨cz,bS,b9,c1,cn,c2,cp,bP,cA,bX,gp,d0,eO,d1,fz,d2,gb,d3,gA,d4,cU,ci,aC,gx,fA,gd,ak,h1,U,ag,bB⟩:=(h.ext he).form;obtain⟨fy,lx⟩:=o.Bt ad;have wq:=o.IV bq ad;have Dx:=o.rW ad;have um:=(o.rT _ (List.getElem_mem aG)).elem;have gH:=o.Cy aG;have eM:=o.tJ m.vars[i] m.scalars;obtain⟨a0,rfl⟩:=gx.addr (by omega);obtain⟨dD,rfl⟩:=h1.addr (by omega);obtain⟨jc,rfl⟩:=bB.addr (by omega);have en:=(h1.at i ad).cells;cases item<;>cases own;rotate_left 3
 .have lV:=bc rfl rfl;refine bL E.k ?_;refine bG ?_;refine ae ?_;intro av aB;refine ae ?_;refine K.call (r9 cN L (o.gT m i+o.GK m q - 1) 1 _ _ av (ay.ext aB) (by rw[lx];omega) rfl (by omega)) ?_;rintro _ aU ⟨eC,fp⟩;refine ae ?_;exact⟨eC,aB.mod.trans fp⟩
 all_goals
  clear bc;refine bL E.k ?_;refine bG ?_;refine ae ?_;intro av aB;refine ae ?_;refine K.call (Gt m.vars[i] _ m.scalars av (ak.ext aB)) ?_;rintro _ aU ⟨rfl,aA⟩;refine ae ?_;refine K.call (r9 cN L (o.gT m i) (o.oD m i) _ _ aU ((ay.ext aB).ext aA) (by rw[lx]) (by omega) (by omega)) ?_;rintro _ bb ⟨h3,ij⟩;refine ae ?_;exact⟨h3,(aB.mod.trans aA.mod).trans ij⟩
end Go.Proofs.R
end
section
namespace o
open Go
theorem WO{m:Model}{q:Nat}{own:Bool}{x:Node}(h:x.op=2){v:Var}(aT:m.vars[x.n.toNat]? = some v)(ak:v.over=0):oB m q x.n.toNat false=fU m q own x:=by
 obtain⟨h1,U⟩:=List.getElem?_eq_some_iff.1 aT;unfold fU oB;rw[if_pos h,if_neg (by simp),rW h1,U]
 have:cells v m.scalars=1:=by unfold cells;rw[if_pos ak]
 rw[this];rfl
end o
namespace Go.Proofs.R
open Go Go.RowKit bt
structure ve(w:World)(bW jt b cN:Nat):Prop where
 x:w.heap[bW]? = some (.cells #[.pointer (some ⟨b,0,none⟩)] T.dD)
 z:w.heap[jt]? = some (.cells #[.map (some cN)] T.x)
theorem ve.mod{w w':World}{bW jt b cN:Nat}{L:List Int}(h:ve w bW jt b cN)(ay:e4 w cN L)(hm:Mod (fun k=>k=cN) w w'):ve w' bW jt b cN:=by
 obtain⟨es,c,aw,_⟩:=ay.ex;have aD:∀{k:Nat} {cs t},w.heap[k]? = some (.cells cs t)->¬k=cN:=fun hk e=>by subst e;rw[hk] at aw;cases aw
 exact⟨hm.obj (aD h.x) h.x,hm.obj (aD h.z) h.z⟩
theorem ve.ext{w w':World}{bW jt b cN:Nat}(h:ve w bW jt b cN)(he:Ext w w'):ve w' bW jt b cN:=⟨he.obj h.x,he.obj h.z⟩
theorem acJ(x:o.Node)(own:Bool)(b cN bW jt q p:Nat)(L:List Int)(m:o.Model)(w0 w:World)(h:ob w0 b m q)(he:Ext w0 w)(lq:w0.heap.size<=cN)(ay:e4 w cN L)(jh:ve w bW jt b cN)(bq:o.eF m)(bB:o.gr m q p)
  (au:o.zd (o.inner (m.procs[p]'(bB.aO)) (o.eN m)) x)(dt:x.ok)(bc:own=true->1<=((o.insts m)[q]'(bB.aG)).elem) :
  bu Tryz.prog F.bv #[.agg x.enc.toArray,.bool own,.pointer (some ⟨bW,0,none⟩),.pointer (some ⟨jt,0,none⟩)] w fun _ w'=>e4 w' cN (L++o.fU m q own x)/\Mod (fun k=>k=cN) w w':=by
 have aG:=bB.aG;have qI:=bB.E5 bq;have Mx:=dt.op;have Mw:=dt.n;unfold o.ez at Mx Mw;have mW:=jh.x;have uf:=jh.z;obtain⟨cz,bS,b9,c1,cn,c2,cp,bP,cA,bX,gp,d0,eO,d1,fz,d2,gb,d3,gA,d4,cU,ci,sL,gx,fA,gd,_,_,_,_,KP⟩:=h.form;refine bL E.bv ?_;refine bG ?_;refine ae ?_;intro av cM fM aB bA;replace mW:=aB.obj mW;replace uf:=aB.obj uf;have fY:=ay.ext aB;have iK:=he.trans aB;obtain⟨es,ce,fh,_⟩:=fY.ex;have r4:¬cM=cN:=fun e=>by subst e;rw[bA] at fh;cases fh
 have A4:¬bW=cN:=fun e=>by subst e;rw[mW] at fh;cases fh
 have aiv:¬jt=cN:=fun e=>by subst e;rw[uf] at fh;cases fh
 clear fh;unfold o.Node.enc at bA;refine ae ?_;apply K.cond<;>intro g2
 .obtain⟨gk,v,aT,iF⟩:=au.var g2;have e7:x.n.toNat<m.vars.length:=(List.getElem?_eq_some_iff.1 aT).1;have iM:x.n=(x.n.toNat:Nat):=by omega
  refine ae ?_;rw[iM];refine K.call (Fv b cN q x.n.toNat false false L m w0 av h iK lq fY bq aG e7 (fun a=>by cases a)) ?_;rintro _ aU ⟨eC,fp⟩;rw[Bool.false_and,o.WO g2 aT iF (own:=own)] at eC;refine ae ?_;exact⟨eC,aB.mod.trans fp⟩
 refine ae ?_;apply K.cond<;>intro g3
 .obtain⟨gk,e7⟩:=au.item g3;have iM:x.n=(x.n.toNat:Nat):=by omega
  refine ae ?_;rw[iM];refine K.call (Fv b cN q x.n.toNat true own L m w0 av h iK lq fY bq aG e7 (fun _ a=>bc a)) ?_;rintro _ aU ⟨eC,fp⟩;have bK:o.fU m q own x=o.oB m q x.n.toNat (true&&own):=by unfold o.fU;rw[if_neg g2,if_pos g3,Bool.true_and]
  rw[<-bK] at eC;refine ae ?_;exact⟨eC,aB.mod.trans fp⟩
 refine ae ?_;apply K.cond<;>intro g4
 .obtain⟨gk,e7⟩:=au.loc g4;have fQ:x.n.toNat<(m.procs[p]'(bB.aO)).vars.length:=e7;have b0:o.fU m q own x=o.gf (o.eg m q+1+x.n.toNat) 1:=by unfold o.fU;rw[if_neg g2,if_neg g3,if_pos g4]
  rw[b0];refine ae ?_;intro aU aA;refine ae ?_;refine K.call (Dk b q m aU (h.ext (iK.trans aA)) aG) ?_;rintro _ bb ⟨rfl,ax⟩;refine⟨ax,?_⟩;refine ae ?_;refine K.call (r9 cN L (o.eg m q+1+x.n.toNat) 1 _ _ bb ((fY.ext aA).ext ax) (by omega) rfl (by omega)) ?_;rintro _ bp ⟨kW,kh⟩;refine ae ?_;exact⟨kW,((aB.mod.trans aA.mod).trans ax.mod).trans kh⟩
 refine ae ?_;apply K.cond<;>intro g6
 .obtain⟨gk,e7⟩:=au.len g6;have fQ:x.n.toNat<m.aM.length:=e7;have Df:=o.vC bq fQ;have iM:x.n=(x.n.toNat:Nat):=by omega
  have cV:o.fU m q own x=o.gf (o.df m x.n.toNat) 1:=by unfold o.fU;rw[if_neg g2,if_neg g3,if_neg g4,if_pos g6]
  rw[cV];obtain⟨lS,fh⟩:=o.vB fQ;obtain⟨dD,rfl⟩:=fA.addr (by omega);have aC:=iK.obj sL;have Nx:=fA.ext Flat.ext iK;rw[iM] at bA;refine ae ?_;intro aU aA;refine ae ?_;refine K.call (r9 cN L (o.df m x.n.toNat) 1 _ _ aU (fY.ext aA) (by rw[fh]) rfl (by omega)) ?_;rintro _ bp ⟨kW,kh⟩;refine ae ?_;exact⟨kW,(aB.mod.trans aA.mod).trans kh⟩
 refine ae ?_;apply K.cond<;>intro g7;rotate_left
 .have dW:o.fU m q own x=[]:=by unfold o.fU;rw[if_neg g2,if_neg g3,if_neg g4,if_neg g6,if_neg g7]
  rw[dW,List.append_nil];refine ae ?_;exact⟨fY,aB.mod⟩
 have dw:o.fU m q own x=o.nD m (x.n.tdiv 16) (o.insts m).length:=by unfold o.fU;rw[if_neg g2,if_neg g3,if_neg g4,if_neg g6,if_pos g7]
 rw[dw];obtain⟨f6,f7,f8⟩:=o.Ia m;obtain⟨gk,L4⟩:=au.at_ g7;have afK:(x.n.tdiv 16).toNat<m.procs.length:=L4;have afV:=Int.tdiv_nonneg gk (show(0:Int)<=16 by omega);have afN:=bq.procs;have afT : -9223372036854775808<=x.n.tdiv 16/\x.n.tdiv 16<=9223372036854775807:=by omega
 have qJ:∀{W},Mod (fun k=>k=cN) av W->Ext w0 W:=fun hm=>hm.ext iK fun k hk e=>by omega
 have hx:=o.DV bq;have cR:=iK.obj sL;clear gx fA;refine ae ?_;refine K.dj 55 (o.insts m).length [2,3,4,53,54] (fun _:Unit=>[]) () (fun k _ W=>Mod (fun i=>i=cN) av W/\e4 W cN (L++o.nD m (x.n.tdiv 16) k)) bx bx ⟨Mod.refl _ _,by simpa[o.nD] using fY⟩ ?_;have Lu:=uf;have jy:=mW;have gu:=bA;clear mW uf bA cR;rintro k _ S aU hk ⟨fp,eC⟩;have mW:=fp.obj A4 jy;have uf:=fp.obj aiv Lu;have bA:=fp.obj r4 gu;have aC:=(qJ fp).obj sL;have adK:=KP.ext Flat.ext (qJ fp);refine ae ?_;apply K.cond<;>intro g1
 .have de:k<(o.insts m).length:=by omega
  obtain⟨jc,rfl⟩:=KP.addr (by omega);obtain⟨LM,rN⟩:=o.ym de;have LO:=o.DT bq de;obtain⟨a2,rfl⟩:=gd.addr (by omega);have Xp:=gd.ext Flat.ext (qJ fp);refine ae ?_;intro wn lh jw gH fG;refine ae ?_;intro bb fR cS;have ax:Ext aU bb:=fR.ext gH jw;replace mW:=ax.obj mW;replace uf:=ax.obj uf;replace bA:=ax.obj bA;replace aC:=ax.obj aC;replace Xp:=Xp.ext Flat.ext ax;have h3:=eC.ext ax;have ij:=fp.trans ax.mod;clear eC adK;refine ae ?_;refine K.quo (by omega) ?_;refine ae ?_;apply K.cond<;>intro g2
  .refine ae ?_;intro bp aN;refine ae ?_;refine K.call (r9 cN _ (o.eg m k) 1 _ _ bp (h3.ext aN) (by rw[rN]) rfl (by omega)) ?_;rintro _ bR ⟨uy,lr⟩;refine ae ?_;refine⟨de,bk,(),trivial,(ij.trans aN.mod).trans lr,?_⟩;rw[o.B4 de,if_pos g2,<-List.append_assoc];exact uy
  .refine ae ?_;refine⟨de,bk,(),trivial,ij,?_⟩;rw[o.B4 de,if_neg g2,List.append_nil];exact h3
 .have jz:(o.insts m).length=k:=by omega
  rw[jz];refine ae ?_;exact⟨eC,aB.mod.trans fp⟩
theorem ab1(e:List o.Node)(v:Value)(b cN bW jt q p:Nat)(L:List Int)(m:o.Model)(w0 w:World)(h:ob w0 b m q)(he:Ext w0 w)(lq:w0.heap.size<=cN)(ay:e4 w cN L)(jh:ve w bW jt b cN)(bq:o.eF m)(bB:o.gr m q p)
  (aD:o.fW w0 v e)(au:o.rp (o.inner (m.procs[p]'(bB.aO)) (o.eN m)) e) :
  bu Tryz.prog F.d3 #[v,.func (.func F.bv) #[] #[.pointer (some ⟨bW,0,none⟩),.pointer (some ⟨jt,0,none⟩)]] w fun _ w'=>e4 w' cN (L++o.qF m q e e.length)/\Mod (fun k=>k=cN) w w':=by
 obtain⟨bl,gO,rfl,aS⟩:=aD.form;have qJ:∀{W},Mod (fun k=>k=cN) w W->Ext w0 W:=fun hm=>hm.ext he fun k hk e=>by omega
 have hle:=au.len;refine bL E.d3 ?_;refine bG ?_;refine ae ?_;refine K.dj 9 e.length [1,7,8] (fun al:Bool=>[(4,.bool al)]) false (fun k al W=>al=o.A6 e k/\Mod (fun i=>i=cN) w W/\e4 W cN (L++o.qF m q e k)) bx bx ⟨rfl,Mod.refl _ _,by simpa[o.qF] using ay⟩ ?_;rintro k al S av hk ⟨rfl,ur,fY⟩;have wj:=aD.ext (qJ ur);have Tt:=jh.mod ay ur;refine ae ?_;apply K.cond<;>intro g1
 .have de:k<e.length:=by omega
  obtain⟨a,rfl⟩:=aD.addr (by omega);have hz:=(aD.at k de).ok;have s5:=au.node k de;refine ae ?_;intro aU ek e6 aA ct;have eC:=fY.ext aA;have fp:=ur.trans aA.mod;have adF:=Tt.ext aA;have n6:¬ek=cN:=fun e=>by subst e;obtain⟨_,_,fh,_⟩:=eC.ex;rw[ct] at fh;cases fh
  clear wj fY Tt;refine ae ?_;refine K.mS (first:=[]) (cap:=[.pointer (some ⟨bW,0,none⟩),.pointer (some ⟨jt,0,none⟩)]) (by kernel_rfl) (acJ e[k] (o.A6 e k) b cN bW jt q p _ m w0 aU h (qJ fp) lq eC adF bq bB s5.1 hz ?_) ?_
  .intro gj;cases k with
   | zero=>cases gj
   | succ j =>
    rw[o.W1 (by omega)] at gj;have bg:=(au.node j (by omega)).1.self (by simpa using gj);exact bB.elem (by have:(o.inner (m.procs[p]'(bB.aO)) (o.eN m)).self=(m.procs[p]'(bB.aO)).over:=rfl;omega)
  rintro _ bb ⟨h3,ij⟩;have aeu:=ij.obj n6 ct;clear ct;refine ae ?_;refine⟨de,bk,_,⟨rfl,trivial⟩,?_,fp.trans ij,?_⟩
  .rw[o.W1 de]
  .rw[o.SZ de,<-List.append_assoc];exact h3
 .have jz:e.length=k:=by omega
  rw[jz];refine ae ?_;exact⟨fY,ur⟩
theorem CJ(e:List o.Node)(v:Value)(b cN q p:Nat)(L:List Int)(m:o.Model)(w0 w:World)(h:ob w0 b m q)(he:Ext w0 w)(lq:w0.heap.size<=cN)(ay:e4 w cN L)(bq:o.eF m)(bB:o.gr m q p)
  (aD:o.fW w0 v e)(au:o.rp (o.inner (m.procs[p]'(bB.aO)) (o.eN m)) e) :
  bu Tryz.prog F.qy #[.pointer (some ⟨b,0,none⟩),.map (some cN),v] w fun _ w'=>e4 w' cN (L++o.qF m q e e.length)/\Mod (fun k=>k=cN) w w':=by
 refine bL E.qy ?_;refine bG ?_;refine ae ?_;intro av bW mW aB jy;refine ae ?_;intro aU jt uf aA Lu;refine ae ?_;refine K.call (ab1 e v b cN bW jt q p L m w0 aU h ((he.trans aB).trans aA) lq ((ay.ext aB).ext aA) ⟨aA.obj jy,Lu⟩ bq bB aD au) ?_;rintro _ bb ⟨h3,ij⟩;refine ae ?_;exact⟨h3,(aB.mod.trans aA.mod).trans ij⟩
theorem ajN(a:o.Act)(cy cE:Value)(b cN q p:Nat)(L:List Int)(m:o.Model)(w0 w:World)(h:ob w0 b m q)(he:Ext w0 w)(lq:w0.heap.size<=cN)(ay:e4 w cN L)(bq:o.eF m)(bB:o.gr m q p)
  (ad:o.fW w0 cy a.index)(aT:o.fW w0 cE a.value)(bo:o.qm (o.inner (m.procs[p]'(bB.aO)) (o.eN m)) a) :
  bu Tryz.prog F.Cj #[.pointer (some ⟨b,0,none⟩),.map (some cN),.agg (a.enc cy cE).toArray] w fun _ w'=>e4 w' cN (L++o.tD m q a)/\Mod (fun k=>k=cN) w w':=by
 obtain⟨cz,bS,b9,c1,cn,c2,cp,bP,cA,bX,gp,d0,eO,d1,fz,d2,gb,d3,gA,d4,cU,ci,sL,gx,fA,gd,_,_,_,_,KP⟩:=h.form;have ye:=bo.kind;refine bL E.Cj ?_;refine bG ?_;refine ae ?_;intro av dR kR aB cD;have fY:=ay.ext aB;have iK:=he.trans aB;have aC:=iK.obj sL;obtain⟨es,ce,fh,_⟩:=fY.ex;have n5:¬dR=cN:=fun e=>by subst e;rw[cD] at fh;cases fh
 clear fh;unfold o.Act.enc at cD;refine ae ?_;apply K.cond<;>intro g2
 .refine ae ?_;refine K.call (CJ a.index cy b cN q p L m w0 av h iK lq fY bq bB ad (bo.item g2).2.2) ?_;rintro _ aU ⟨eC,fp⟩;have Ab:=fp.obj n5 cD;clear cD aC;refine ae ?_;refine K.call (CJ a.value cE b cN q p _ m w0 aU h (fp.ext iK fun k hk e=>by omega) lq eC bq bB aT (bo.val (by omega))) ?_;rintro _ bb ⟨h3,ij⟩;refine ae ?_;refine⟨?_,(aB.mod.trans fp).trans ij⟩;unfold o.tD;rw[if_neg (by omega),if_pos g2,<-List.append_assoc];exact h3
 refine ae ?_;apply K.cond<;>intro g4
 .obtain⟨gk,e7⟩:=bo.chan (.inl g4);have fQ:a.to.toNat<m.aM.length:=e7;have Df:=o.vC bq fQ;have iM:a.to=(a.to.toNat:Nat):=by omega
  obtain⟨lS,fh⟩:=o.vB fQ;obtain⟨dD,rfl⟩:=fA.addr (by omega);have Nx:=fA.ext Flat.ext iK;rw[iM] at cD;refine ae ?_;intro aU aA;have Ab:=aA.obj cD;refine ae ?_;refine K.call (r9 cN L (o.df m a.to.toNat) 1 _ _ aU (fY.ext aA) (by rw[fh]) rfl (by omega)) ?_;rintro _ bb ⟨h3,ij⟩;have an2:=ij.obj n5 Ab;clear cD Ab aC;refine ae ?_;refine K.call (CJ a.value cE b cN q p _ m w0 bb h (ij.ext (iK.trans aA) fun k hk e=>by omega) lq h3 bq bB aT (bo.val (by omega))) ?_;rintro _ bp ⟨kW,kh⟩;refine ae ?_;refine⟨?_,((aB.mod.trans aA.mod).trans ij).trans kh⟩;unfold o.tD;rw[if_neg (by omega),if_neg g2,if_pos g4,<-List.append_assoc];exact kW
 refine ae ?_;apply K.cond<;>intro g5
 .obtain⟨gk,e7⟩:=bo.chan (.inr g5);have fQ:a.to.toNat<m.aM.length:=e7;have iM:a.to=(a.to.toNat:Nat):=by omega
  rw[iM] at cD;refine ae ?_;refine K.call (Ov b cN q a.to.toNat L m w0 av h iK lq fY bq fQ) ?_;rintro _ aU ⟨eC,fp⟩;refine ae ?_;refine⟨?_,aB.mod.trans fp⟩;unfold o.tD;rw[if_pos g5];exact eC
 .refine ae ?_;refine K.call (CJ a.value cE b cN q p _ m w0 av h iK lq fY bq bB aT (bo.val g5)) ?_;rintro _ aU ⟨eC,fp⟩;refine ae ?_;refine⟨?_,aB.mod.trans fp⟩;unfold o.tD;rw[if_neg g5,if_neg g2,if_neg g4,List.nil_append];exact eC
theorem amy(a:o.Act)(cy cE:Value)(b cN q p:Nat)(L:List Int)(m:o.Model)(w0 w:World)(h:ob w0 b m q)(he:Ext w0 w)(lq:w0.heap.size<=cN)(ay:e4 w cN L)(bq:o.eF m)(bB:o.gr m q p)
  (ad:o.fW w0 cy a.index)(bo:o.qm (o.inner (m.procs[p]'(bB.aO)) (o.eN m)) a) :
  bu Tryz.prog F.dl #[.pointer (some ⟨b,0,none⟩),.map (some cN),.agg (a.enc cy cE).toArray] w fun _ w'=>e4 w' cN (L++o.mP m q a)/\Mod (fun k=>k=cN) w w':=by
 have ye:=bo.kind;have aG:=bB.aG;have qI:=bB.E5 bq;refine bL E.dl ?_;refine bG ?_;refine ae ?_;intro av dR kR aB cD;have fY:=ay.ext aB;have iK:=he.trans aB;obtain⟨es,ce,fh,_⟩:=fY.ex;have n5:¬dR=cN:=fun e=>by subst e;rw[cD] at fh;cases fh
 clear fh;obtain⟨cU,ci,rfl,apf⟩:=ad.form;unfold o.Act.enc at cD;refine ae ?_;apply K.cond<;>intro g1
 .obtain⟨gk,v,aT,iF⟩:=bo.set g1;have e7:a.to.toNat<m.vars.length:=(List.getElem?_eq_some_iff.1 aT).1;have iM:a.to=(a.to.toNat:Nat):=by omega
  rw[iM] at cD;refine ae ?_;refine K.call (Fv b cN q a.to.toNat false false L m w0 av h iK lq fY bq aG e7 (fun a=>by cases a)) ?_;rintro _ aU ⟨eC,fp⟩;refine ae ?_;refine⟨?_,aB.mod.trans fp⟩;unfold o.mP;rw[if_pos g1];have e:=o.WO (m:=m) (q:=q) (own:=false) (x:=⟨2,a.to⟩) rfl aT iF;unfold o.fU at e;rw[if_pos rfl] at e;rw[Bool.false_and,e] at eC;exact eC
 refine ae ?_;apply K.cond<;>intro g2
 .obtain⟨gk,e7,UD⟩:=bo.item g2;have fQ:a.to.toNat<m.vars.length:=e7;have iM:a.to=(a.to.toNat:Nat):=by omega
  rw[iM] at cD;have Kp:o.mP m q a=o.oB m q a.to.toNat (o.re a):=by unfold o.mP;rw[if_neg g1,if_pos g2]
  rw[Kp];have Hz:=ad.ext iK;refine ae ?_;intro aU aA;replace cD:=aA.obj cD;replace Hz:=Hz.ext aA;refine ae ?_;apply K.cond<;>intro g3
  .obtain⟨jc,rfl⟩:=ad.addr (by omega);have s5:=(UD.node 0 (by omega)).1;have uz:=o.akT (a:=a) (by omega);refine ae ?_;refine K.dp 0 rfl (by omega) ?_;refine ae ?_;refine K.call (Fv b cN q a.to.toNat true (decide ((a.index[0]'(by omega)).op=5)) L m w0 aU h (iK.trans aA) lq (fY.ext aA) bq aG fQ (fun _ bg=>?_)) ?_
   .have bg:=s5.self (by simpa using bg);exact bB.elem (by have:(o.inner (m.procs[p]'(bB.aO)) (o.eN m)).self=(m.procs[p]'(bB.aO)).over:=rfl;omega)
   rintro _ bb ⟨h3,ij⟩;rw[Bool.true_and,<-uz] at h3;refine ae ?_;exact⟨h3,(aB.mod.trans aA.mod).trans ij⟩
  .have uz:=o.akS (a:=a) (by omega);refine ae ?_;refine K.call (Fv b cN q a.to.toNat true false L m w0 aU h (iK.trans aA) lq (fY.ext aA) bq aG fQ (fun _ bg=>by cases bg)) ?_;rintro _ bb ⟨h3,ij⟩;rw[Bool.and_false,<-uz] at h3;refine ae ?_;exact⟨h3,(aB.mod.trans aA.mod).trans ij⟩
 refine ae ?_;apply K.cond<;>intro g3
 .obtain⟨gk,e7⟩:=bo.loc g3;have fQ:a.to.toNat<(m.procs[p]'(bB.aO)).vars.length:=e7;have Kp:o.mP m q a=o.gf (o.eg m q+1+a.to.toNat) 1:=by unfold o.mP;rw[if_neg g1,if_neg g2,if_pos g3]
  rw[Kp];refine ae ?_;intro aU aA;refine ae ?_;refine K.call (Dk b q m aU (h.ext (iK.trans aA)) aG) ?_;rintro _ bb ⟨rfl,ax⟩;refine⟨ax,?_⟩;refine ae ?_;refine K.call (r9 cN L (o.eg m q+1+a.to.toNat) 1 _ _ bb ((fY.ext aA).ext ax) (by omega) rfl (by omega)) ?_;rintro _ bp ⟨kW,kh⟩;refine ae ?_;exact⟨kW,((aB.mod.trans aA.mod).trans ax.mod).trans kh⟩
 refine ae ?_;apply K.cond<;>intro g4
 .obtain⟨gk,e7⟩:=bo.chan (.inl g4);have fQ:a.to.toNat<m.aM.length:=e7;have iM:a.to=(a.to.toNat:Nat):=by omega
  rw[iM] at cD;refine ae ?_;refine K.call (Ov b cN q a.to.toNat L m w0 av h iK lq fY bq fQ) ?_;rintro _ aU ⟨eC,fp⟩;refine ae ?_;refine⟨?_,aB.mod.trans fp⟩;unfold o.mP;rw[if_neg g1,if_neg g2,if_neg g3,if_pos g4];exact eC
 have g5:a.kind=5:=by omega
 .obtain⟨gk,e7⟩:=bo.chan (.inr g5);obtain⟨dc,ih⟩:=bo.recv g5;have rP:a.loc.toNat<(m.procs[p]'(bB.aO)).vars.length:=ih;have fQ:a.to.toNat<m.aM.length:=e7;have iM:a.to=(a.to.toNat:Nat):=by omega
  rw[iM] at cD;refine ae ?_;refine K.call (Ov b cN q a.to.toNat L m w0 av h iK lq fY bq fQ) ?_;rintro _ aU ⟨eC,fp⟩;have an1:=fp.obj n5 cD;have c9:=fp.ext iK fun k hk e=>by omega
  clear cD;refine ae ?_;intro bb ax;refine ae ?_;refine K.call (Dk b q m bb (h.ext (c9.trans ax)) aG) ?_;rintro _ bp ⟨rfl,aN⟩;refine⟨aN,?_⟩;refine ae ?_;refine K.call (r9 cN _ (o.eg m q+1+a.loc.toNat) 1 _ _ bp ((eC.ext ax).ext aN) (by omega) rfl (by omega)) ?_;rintro _ bR ⟨uy,lr⟩;refine ae ?_;refine⟨?_,(((aB.mod.trans fp).trans ax.mod).trans aN.mod).trans lr⟩;unfold o.mP;rw[if_neg g1,if_neg g2,if_neg g3,if_neg g4,if_pos g5,<-List.append_assoc];exact uy
end Go.Proofs.R
end
section
namespace o
open Go
structure gl(m:Model)(ref:Int)(q p k:Nat):Prop where
 ok:(check m).cX=0
 bf:0<=ref
 ad:ref.toNat<(refs m).length
 at_:QY m ((refs m)[ref.toNat]) q p k
def Told(m:Model)(ref:Int):Prop:=(check m).cX=0/\0<=ref/\ref<(refs m).length
theorem tM{m:Model}{ref:Int}(h:Told m ref):∃q p k,gl m ref q p k:=by
 obtain⟨h1,U,ag⟩:=h;obtain⟨q,p,k,aJ⟩:=aj4 (List.getElem_mem (show ref.toNat<(refs m).length by omega));exact⟨q,p,k,h1,U,by omega,aJ⟩
theorem gl.told{m:Model}{ref:Int}{q p k:Nat}(h:gl m ref q p k):Told m ref:=⟨h.ok,h.bf,by have:=h.ad;have:=h.bf;omega⟩
theorem gl.inst{m:Model}{ref:Int}{q p k:Nat}(h:gl m ref q p k):gr m q p:=by
 obtain⟨hN,aO⟩:=HY h.at_.ad;have e:hN=p:=by
  have h1:=aO.eq;rw[h.at_.ip] at h1;omega
 subst e;exact aO
theorem gl.one{m:Model}{ref:Int}{q p k hC hN k':Nat}(h:gl m ref q p k)(bE:gl m ref hC hN k'):q=hC/\p=hN/\k=k':=by
 have bU:q=hC:=by have a:=h.at_.u0;have b:=bE.at_.u0;omega
 subst bU;have a:=h.at_.ip;have b:=bE.at_.ip;have c:=h.at_.wR;have d:=bE.at_.wR;exact⟨rfl,by omega,by omega⟩
def cL(m:Model)(p k:Nat):dI:=((m.procs[p]?.map (·.cI[k]?)).join).getD ⟨⟨#[]⟩,0,0,[],[],false⟩
theorem xG{m:Model}{p k:Nat}(aO:p<m.procs.length)(hk:k<m.procs[p].cI.length):cL m p k=m.procs[p].cI[k]:=by
 unfold cL;rw[List.getElem?_eq_getElem aO];simp[hk]
theorem gl.cin{m:Model}{ref:Int}{q p k:Nat}(h:gl m ref q p k):vg (inner (m.procs[p]'(h.at_.aO)) (eN m)) (cL m p k):=by
 rw[xG h.at_.aO h.at_.hk];exact abv h.ok h.at_.aO h.at_.hk
structure jq(m:Model)(ref:Int)(a b:List Int):Prop where
 there:∀q p k,gl m ref q p k->rz (qf m q (cL m p k) (cL m p k).cb.length) a/\rz (mB m q (cL m p k) (cL m p k).cb.length) b
 none:¬Told m ref->a=[]/\b=[]
theorem jq.eq{m:Model}{ref:Int}{a b di ib:List Int}(h:jq m ref a b)(bE:jq m ref di ib):a=di/\b=ib:=by
 by_cases aL:Told m ref
 .obtain⟨q,p,k,aw⟩:=tM aL;obtain⟨h1,U⟩:=h.there q p k aw;obtain⟨ag,aJ⟩:=bE.there q p k aw;exact⟨h1.eq ag fun _=>Iff.rfl,U.eq aJ fun _=>Iff.rfl⟩
 .obtain⟨rfl,rfl⟩:=h.none aL;obtain⟨rfl,rfl⟩:=bE.none aL;exact⟨rfl,rfl⟩
theorem jq.of{m:Model}{ref:Int}{q p k:Nat}{a b:List Int}(aw:gl m ref q p k)(h1:rz (qf m q (cL m p k) (cL m p k).cb.length) a)(U:rz (mB m q (cL m p k) (cL m p k).cb.length) b):jq m ref a b :=
 ⟨fun hC hN k' h=>by obtain⟨rfl,rfl,rfl⟩:=aw.one h;exact⟨h1,U⟩,fun aD=>absurd aw.told aD⟩
theorem jq.nil{m:Model}{ref:Int}(h:¬Told m ref):jq m ref [] []:=⟨fun _ _ _ aw=>absurd aw.told h,fun _=>⟨rfl,rfl⟩⟩
structure amM(m:Model)(ref:Int)(a:List Int):Prop where
 there:∀q p k,gl m ref q p k->rz (GU m q (cL m p k)) a
 none:¬Told m ref->a=[]
theorem eF.lim{m:Model}(h:eF m):vm m:=⟨by have:=h.procs;omega,fun p aO=>by have:=(h.proc p aO).hx;omega⟩
end o
namespace bt
open Go
def R4:List Value:=[.string ⟨#[]⟩,.int .i64 0,.int .i64 0,.slice none 0 0,.slice none 0 0,.bool false]
end bt
end