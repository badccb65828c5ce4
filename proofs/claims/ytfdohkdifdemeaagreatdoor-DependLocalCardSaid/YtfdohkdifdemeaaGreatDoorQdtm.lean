/- Texts joined: LayD LayE LayF LayG LayH LayI LayJ StaP StaQ StaA LayK LayL LayM LiteV ProcR. -/
import Derived.Test.YtfdohkdifdemeaaGreatDoorQdtd
import Derived.Test.YtfdohkdifdemeaaGreatDoorQdte
import Derived.Test.YtfdohkdifdemeaaGreatDoorQdth
import Derived.Test.YtfdohkdifdemeaaGreatDoorQdti
import Derived.Test.YtfdohkdifdemeaaGreatDoorQdtj
import Derived.Test.YtfdohkdifdemeaaGreatDoorQdtk
import Derived.Test.YtfdohkdifdemeaaGreatDoorQdtl
import Derived.Lib.SlKeysI
import Derived.Maps.OwnSet
set_option linter.all false
set_option maxRecDepth 8000
set_option maxHeartbeats 16000000
section
namespace Go.Proofs.R
open Go Go.RowKit bt
section
variable{aq:World}{bR b0:Nat}{s:o.gr}{W b8:World}
theorem aiN{vs:Nat→gf}{u:gf}{qG lx pT:World}{y:o.Cell}{ck:Value}(cH:bR≠b0)(hm:Mod (fun k=>k=bR∨k=b0) aq W)(g1:W.heap[bR]? = some (.cells #[cg (vs 0),cg (vs 1),cg (vs 2),.int .i64 s.n,cg (vs 3),cg (vs 4)] T.h))(g2:hx c4 T.a 1 aq.heap.size W 5 vs s.rows)
  (g3:W.heap[b0]? = some (.cells #[cg u] T.kV))(g4:bg o.Cell.slot T.u 4 aq.heap.size W (cg u) s.Z)(he:Ext W qG)(aV:qG.grownBy lx (cg u).ownBlock)(aZ:bg o.Cell.slot T.u 4 aq.heap.size lx ck (s.Z++[y]))
  (hw:dz b0 lx pT)(aw:pT.heap[b0]? = some (.cells #[ck] T.kV)):jY aq bR b0 ⟨s.V,s.C,s.ep,s.n,s.L,s.H,s.Z++[y]⟩ pT∧ey rn W pT∧jW bR W pT:=by
 obtain⟨bm,cap,rfl,_⟩:=aZ.form;have vP:Mod (fun k=>(cg u).ownBlock=some k) qG lx:=Mod.grown aV fun k hk=>hk;have n0:∀{k:Nat} {c:Array Value} {t:TypeId},W.heap[k]? = some (.cells c t)→t≠T.u→¬(cg u).ownBlock=some k:=fun {k c t} hk aL e=>by
  obtain⟨cur,h⟩:=g4.aQ k e;rw[hk] at h;injection h with h;injection h with _ h;exact aL h
 have m6:∀{k:Nat} {c:Array Value} {t:TypeId},W.heap[k]? = some (.cells c t)→t≠T.u→lx.heap[k]? = some (.cells c t):=fun hk aL=>vP.obj (n0 hk aL) (he.obj hk);have ru:Mod (fun k=>k=b0) lx pT:=hw.mod rfl;refine⟨⟨?_,vs,(bm,_,cap),ru.obj cH (m6 g1 (by decide)),?_,aw,aZ.mod ru fun k hk e=>?_⟩,?_,jW.of g1 (ru.obj cH (m6 g1 (by decide)))⟩
 ·have h1:Mod (fun k=>k=bR∨k=b0) aq qG:=hm.comp (A':=fun _=>False) he.mod (fun _ _ a=>a) fun _ _ a=>a.elim;have U:Mod (fun k=>k=bR∨k=b0) aq lx:=h1.comp vP (fun _ _ a=>a) fun i af a=>by have:=(g4.lt i a).1;omega
  exact U.trans (hw.mod (.inr rfl))
 ·refine((g2.ext he).mod vP fun i k af hk e=>?_).mod ru fun i k af hk e=>?_
  ·obtain⟨cur,h⟩:=(g2.own i af).aQ k hk;exact n0 h (by decide) e
  ·subst e;obtain⟨cur,h⟩:=(g2.own i af).aQ k hk;rw[g3] at h;injection h with h;injection h with _ h;exact absurd h (by decide)
 ·subst e;obtain⟨cur,h⟩:=aZ.aQ k hk;rw[m6 g3 (by decide)] at h;injection h with h;injection h with _ h;exact absurd h (by decide)
 ·refine((ey.ext he).trans (ey.mod vP fun k c t aw a=>?_)).trans (ey.wr hw (m6 g3 (by decide)) (by decide));obtain⟨cur,h⟩:=(g4.ext he).aQ k a;rw[aw] at h;injection h with h;injection h with _ h;rw[h];decide
theorem Z4{vs:Nat→gf}{u:gf}{n:Int}(cH:bR≠b0)(hm:Mod (fun k=>k=bR∨k=b0) aq W)(g1:W.heap[bR]? = some (.cells #[cg (vs 0),cg (vs 1),cg (vs 2),.int .i64 s.n,cg (vs 3),cg (vs 4)] T.h))(g2:hx c4 T.a 1 aq.heap.size W 5 vs s.rows)
  (g3:W.heap[b0]? = some (.cells #[cg u] T.kV))(g4:bg o.Cell.slot T.u 4 aq.heap.size W (cg u) s.Z)(hw:dz bR W b8)(aH:n=((s.n+1:Nat):Int))
  (aw:b8.heap[bR]? = some (.cells #[cg (vs 0),cg (vs 1),cg (vs 2),.int .i64 n,cg (vs 3),cg (vs 4)] T.h)):jY aq bR b0 ⟨s.V,s.C,s.ep,s.n+1,s.L,s.H,s.Z⟩ b8∧ey rn W b8∧jW bR W b8:=by
 subst aH;have ru:Mod (fun k=>k=bR) W b8:=hw.mod rfl;refine⟨⟨hm.trans (hw.mod (.inl rfl)),vs,u,aw,g2.mod ru fun i k af hk e=>?_,ru.obj (Ne.symm cH) g3,g4.mod ru fun k hk e=>?_⟩,ey.wr hw g1 (by decide),jW.of g1 aw⟩
 ·subst e;exact g2.not g1 (by decide) i af hk
 ·subst e;obtain⟨cur,h⟩:=g4.aQ k hk;rw[g1] at h;injection h with h;injection h with _ h;exact absurd h (by decide)
end
theorem afs(so hW:Int)(v:Value)(l:List o.dJ)(ow oj ot:List Int)(cs:List o.Cell)(base:Nat)(aq:World)(bR b0:Nat)(w:World)(cH:bR≠b0)(kG:bR<aq.heap.size∧b0<aq.heap.size)(aG:jY aq bR b0 (o.gr.of ow oj ot cs) w)(aO:bg o.dJ.enc T.m 3 base w v l)
  (hm:cs.length+l.length≤100000) :
  bw Tryz.prog F.kW #[.int .i64 so,.int .i64 hW,v,.pointer (some ⟨bR,0,none⟩),.pointer (some ⟨b0,0,none⟩)] w fun v w'=>v = .int .i64 cs.length∧jY aq bR b0 (o.gr.of ow oj ot (cs++o.fr so hW l 0)) w'∧ey rn w w'∧jW bR w w':=by
 obtain⟨bm,cap,rfl,_⟩:=aO.form;obtain⟨ajP,ajy,g1,g2,g3,g4⟩:=aG.ex;refine bP E.kW ?_;refine bM ?_;refine aa ?_;refine K.cR 16 l.length [0,1,2,3,4,9,14,15] (fun _:Unit=>[]) () (fun k _ w'=>jY aq bR b0 (o.gr.of ow oj ot (cs++o.fr so hW (l.take k) 0)) w'∧ey rn w w'∧jW bR w w') bp bp ⟨by simpa[o.fr] using aG,ey.refl,jW.refl⟩ ?_;clear g1 g2 g3 g4 aG;rintro k _ S aU hk ⟨aG,mL,lY⟩;have j7:bG 3 (Flat o.dJ.enc) aU (.slice bm l.length cap) l:=bg.fB (enc:=o.dJ.enc) (fun _=>rfl) (aO.hA mL (by decide));refine aa ?_;apply K.cond<;>intro g1
 ·have br:k<l.length:=by omega
  obtain⟨a,rfl⟩:=j7.addr (by omega);have Kg:(o.fr so hW (l.take k) 0).length=k:=by rw[o.xY,List.length_take];omega
  have tR:=o.u1 l[k];refine eh ?_;simp -dsimp only[cA];refine eh ?_;simp -dsimp only[cA];refine eh ?_;intro wn ch fE fF fT;refine eh ?_;intro aY fk bB;have ax:=fk.ext fF fE;have iO:=aG.ext ax;clear fk fF fT;refine eh ?_;refine K.gK [0,1,2,3,4,9,10,11,14,15,16] (fun _:Unit=>[]) (fun _ w'=>jY aq bR b0 ⟨ow,oj,ot,(cs++o.fr so hW (l.take k) 0).length,(cs++o.fr so hW (l.take k) 0).map (·.bA)++[l[k].bA],(cs++o.fr so hW (l.take k) 0).map (·.af)++[l[k].af],cs++o.fr so hW (l.take k) 0⟩ w'∧ey rn aY w'∧jW bR aY w') ?_ ?_
  ·refine aa ?_;intro bo aF;refine K.wide (Yy cH kG (iO.ext aF) (by simp[b6]) (by simp[b6]) (aF.obj bB) (by simp[o.gr.of,Kg];omega) (by simp[o.gr.of,Kg];omega) fun a8 w' h k bx=>?_);refine aa ?_;exact⟨(),trivial,h,(ey.ext aF).trans k,(jW.ext aF (by have:=iO.mod.size;omega)).trans bx⟩
  have adh:jW bR aU aY:=jW.ext ax (by have:=aG.mod.size;omega);clear iO;rintro _ S bo ⟨k5,U7,KJ⟩;obtain⟨vs,⟨ajy,Xt,yp⟩,g1,g2,g3,g4⟩:=k5.ex;have bH:=U7.aQ _ _ _ bB (by decide);refine aa ?_;intro bD dX jf aM b3;replace b3:bD.heap[dX]? = some (.cells (o.Cell.slot ⟨so,hW,k,l[k].bA,l[k].af,l[k].kind⟩).toArray T.u):=b3;have eF:=g4.ext aM;have fC:=k5.mod.size;have z2:=aM.size;have a1:(cs++o.fr so hW (l.take k) 0).length=cs.length+k:=by rw[List.length_append,Kg]
  refine K.ki (y:=⟨so,hW,k,l[k].bA,l[k].af,l[k].kind⟩) eF b3 rfl (fun _=>rfl) o.aiO (by simp only[a1];omega) (by unfold maxLen;simp only[a1];omega) (by omega) fun bm n c bQ et jP=>?_;have eK:=eF.box jP (aM.obj g3) (by decide);refine aa ?_;intro cd dC dq;obtain⟨mH,sx,adi⟩:=aiN cH k5.mod g1 g2 g3 g4 aM jP et dC dq;dsimp only at mH;obtain⟨rG,jz,dQ,ef,ev,hR⟩:=mH.ex;clear g1 g2 g3 g4 k5 eF et jP eK dq b3;have ahp:=dQ;dsimp only[cg] at dQ;refine aa ?_;intro c9 iz c5;obtain⟨aev,afk,adj⟩:=Z4 cH mH.mod ahp ef ev hR iz (by dsimp only;omega) c5;refine aa ?_;refine⟨br,bf,(),trivial,?_,((((mL.trans (ey.ext ax)).trans U7).trans sx).trans afk),((((lY.trans adh).trans KJ).trans adi).trans adj)⟩;rw[o.aft br,←List.append_assoc];have e:o.gr.of ow oj ot ((cs++o.fr so hW (l.take k) 0)++[⟨so,hW,k,l[k].bA,l[k].af,l[k].kind⟩])=⟨ow,oj,ot,(cs++o.fr so hW (l.take k) 0).length+1,(cs++o.fr so hW (l.take k) 0).map (·.bA)++[l[k].bA],(cs++o.fr so hW (l.take k) 0).map (·.af)++[l[k].af],cs++o.fr so hW (l.take k) 0++[⟨so,hW,k,l[k].bA,l[k].af,l[k].kind⟩]⟩:=by
   simp[o.gr.of,List.map_append,Nat.add_assoc]
  rw[e];exact aev
 ·refine aa ?_;rw[List.take_of_length_le (by omega)] at aG;exact⟨bf,aG,mL,lY⟩
end Go.Proofs.R
end
section
namespace bt
open Go Go.RowKit
section
variable{P:Program}{C:World→Prop}{S:Fr}{w:World}{K:Fr→World→Prop}
theorem cI.l7{d m:Nat}{r:eD}{v:Value}(av:S m=v)(h:cI P C r (cc S d v) w K):cI P C (.take ⟨some d,none,.p (.l7 (.tmp m))⟩ r) S w K:=by subst av;exact h
theorem kh.c{i:oY}{d:Nat}{k:Fr→World→Prop}(h:qw P i S w fun v w'=>C w'∧k (put S (some d) v) w'):kh P C ⟨some d,none,.c i⟩ S w k:=h
end
end bt
namespace o
def gr.add(s:gr)(off:Nat)(y:Int):gr:=if off=0 then { s with V:=s.V++[y] } else if off=1 then { s with C:=s.C++[y] } else { s with ep:=s.ep++[y] }
end o
namespace Go.Proofs.R
open Go Go.RowKit bt
def Rf(n x y off:Nat)(so:Int):eD :=
 (.take (ag n off 4) (.take (ae (n+1) n) (.take (I (n+2) 6) (.take (I (n+3) x) (.take (I (n+4) y)
 (.alt (dh (n+5) (.val (ab (n+2)) [(ai so),(ab (n+3)),(ab (n+4))]))
 (.alt (ay (n+6) (.cQ T.a 1 1 [(.int .i64 0)] [(0,(ab (n+5)))]))
 (.bT (ay (n+7) (.app T.c T.a 1 8 (ab (n+1)) (ab (n+6))))
 (.take (ag (n+8) off 4) (.bT (ys (n+8) (n+7)) .done .nil)) .nil) .nil) .nil))))))
theorem Jf{aq w:World}{bR b0 n x y off base:Nat}{so hW:Int}{oh:Value}{l:List o.dJ}{ow oj ot:List Int}{cs:List o.Cell}{S:Fr}{di:Fr→World→Prop}(Li:off<3)(aH:20≤n)(av:x<20)(bS:y<20)
  (cH:bR≠b0)(kG:bR<aq.heap.size∧b0<aq.heap.size)(aJ:S 4 = .pointer (some ⟨bR,0,none⟩))(bY:S 6 = .func (.func F.kW) #[] #[.pointer (some ⟨bR,0,none⟩),.pointer (some ⟨b0,0,none⟩)])(xP:S x = .int .i64 hW)(LR:S y=oh)
  (aG:jY aq bR b0 (o.gr.of ow oj ot cs) w)(aO:bg o.dJ.enc T.m 3 base w oh l)(hm:cs.length+l.length≤100000)(bd:ow.length≤100000∧oj.length≤100000∧ot.length≤100000)
  (hk:∀a8 w',(∀t,t<n∨n+8<t→a8 t=S t)→jY aq bR b0 ((o.gr.of ow oj ot (cs++o.fr so hW l 0)).add off cs.length) w'→ey rn w w'→di a8 w'):∃C:World→Prop,C w∧cI Tryz.prog C (Rf n x y off so) S w di:=by
 obtain⟨vs,u,g1,g2,g3,g4⟩:=aG.ex;have bV:w.cell? (Addr.add ⟨bR,0,none⟩ off)=some (cg (vs off)):=by
  have:off=0∨off=1∨off=2:=by omega
  rcases this with rfl | rfl | rfl<;>exact eN g1 rfl
 refine⟨fun w'=>w'.cell? (Addr.add ⟨bR,0,none⟩ off)=some (cg (vs off)),bV,?_⟩;unfold Rf;refine cI.jK aJ ?_;refine cI.ld (v:=cg (vs off)) (by simp[b6]) (fun w' m=>m) ?_;refine cI.l7 (lk (lk bY (by omega)) (by omega)) ?_;refine cI.l7 (lk (lk (lk xP (by omega)) (by omega)) (by omega)) ?_;refine cI.l7 (lk (lk (lk (lk LR (by omega)) (by omega)) (by omega)) (by omega)) ?_;generalize mB:cc _ (n+4) _=pS;have zr:∀t,t<n∨n+8<t→pS t=S t:=by
  subst mB;intro t aL;simp only[b6];rw[if_neg (by omega),if_neg (by omega),if_neg (by omega),if_neg (by omega),if_neg (by omega)]
 have bX:pS 4 = .pointer (some ⟨bR,0,none⟩):=by subst mB;exact lk (lk (lk (lk (lk aJ (by omega)) (by omega)) (by omega)) (by omega)) (by omega)
 have f1:pS (n+1)=cg (vs off):=by subst mB;simp[b6]
 have f2:pS (n+2) = .func (.func F.kW) #[] #[.pointer (some ⟨bR,0,none⟩),.pointer (some ⟨b0,0,none⟩)]:=by subst mB;simp[b6]
 have f3:pS (n+3) = .int .i64 hW:=by subst mB;simp[b6]
 have f4:pS (n+4)=oh:=by subst mB;simp[b6]
 refine cI.wQ (kh.c ?_);show yz _ (pS (n+2)) [.int .i64 so,pS (n+3),pS (n+4)] w _;rw[f2,f3,f4];refine Je (first:=[]) (cap:=[.pointer (some ⟨bR,0,none⟩),.pointer (some ⟨b0,0,none⟩)]) (by kernel_rfl) (afs so hW oh l ow oj ot cs base aq bR b0 w cH kG aG aO hm) ?_;rintro _ aU ⟨rfl,eZ,mL,lY⟩;refine⟨(lY off Li).trans bV,?_⟩;refine cI.wQ (kh.e ?_);have he:Ext aU (aU.alloc (.cells #[.int .i64 cs.length] T.a)):=(Ext.refl aU).alloc _;rw[JF];refine wU (cs:=[.int .i64 cs.length]) (Cp (by simp[gd,b6])) ?_;refine⟨he.cell ((lY off Li).trans bV),?_⟩;have bB:=heap_alloc_new aU (.cells #[.int .i64 cs.length] T.a);have bJ:=he.cell ((lY off Li).trans bV);have iO:=eZ.ext he;have U6:ey rn w (aU.alloc (.cells #[.int .i64 cs.length] T.a)):=mL.trans (ey.ext he);show cI _ _ _ _ (aU.alloc (.cells #[.int .i64 cs.length] T.a)) _;generalize aU.alloc (.cells #[.int .i64 cs.length] T.a)=aY at bB bJ iO U6;clear he g1 g2 g3 g4;obtain⟨rG,jz,g1,g2,g3,g4⟩:=iO.ex;have aaN:cg (vs off)=cg (rG off):=by
  have:off=0∨off=1∨off=2:=by omega
  rcases this with rfl | rfl | rfl
  ·rw[eN g1 (v:=cg (rG 0)) rfl] at bJ;exact(Option.some.inj bJ).symm
  ·rw[eN g1 (v:=cg (rG 1)) rfl] at bJ;exact(Option.some.inj bJ).symm
  ·rw[eN g1 (v:=cg (rG 2)) rfl] at bJ;exact(Option.some.inj bJ).symm
 refine cI.r7 (lC.e ?_);rw[B5];unfold ab;rw[fD,fD];rw[show ∀a b,put (put pS (some (n+5)) a) (some (n+6)) b (n+1)=cg (rG off) from fun a b=>by rw[gd,gd,←aaN];exact lk (lk f1 (by omega)) (by omega),
  show ∀a b,put (put pS (some (n+5)) a) (some (n+6)) b (n+6)=b from fun a b=>by rw[gd,gd,b6,if_pos rfl]]
 have fC:=iO.mod.size;have hlen:((o.gr.of ow oj ot (cs++o.fr so hW l 0)).rows off).length≤100000:=by
  have:off=0∨off=1∨off=2:=by omega
  rcases this with rfl | rfl | rfl
  ·exact bd.1
  ·exact bd.2.1
  ·exact bd.2.2
 refine hx.app (y:=(cs.length:Int)) off (by omega) g2 (fun _=>rfl) (h4 bB) j1 (by omega) (by unfold maxLen;omega) (by omega) fun ck bo fu zO _=>?_;have m4:Mod (fun k=>(cg (rG off)).ownBlock=some k) aY bo:=Mod.grown zO fun k hk=>hk;have n0:∀{k:Nat} {c:Array Value} {t:TypeId},aY.heap[k]? = some (.cells c t)→t≠T.a→bo.heap[k]? = some (.cells c t):=fun hk aL=>m4.obj (g2.not hk aL off (by omega)) hk;refine cI.jK (a:=⟨bR,0,none⟩) (by rw[gd,gd,gd];exact lk (lk (lk bX (by omega)) (by omega)) (by omega)) ?_;refine cI.r7 ?_;show wL (cc _ (n+8) _ (n+8)) (cc (put _ (some (n+7)) _) (n+8) _ (n+7)) bo _;rw[show ∀(S:Fr) v,cc S (n+8) v (n+8)=v from fun S v=>by rw[b6,if_pos rfl],show ∀(S:Fr) a b,cc (put S (some (n+7)) a) (n+8) b (n+7)=a from fun S a b=>by rw[gd,b6,if_neg (by omega),b6,if_pos rfl]];have db:=n0 g1 (by decide);refine No fun qu=>K.st1 db (by simp;omega) rfl fun bD eU b3=>?_;have ru:Mod (fun k=>k=bR) bo bD:=eU.mod rfl;refine hk _ _ (fun t aL=>?_) ⟨?_,dy rG off ck,jz,?_,(fu.mod ru fun i k af aR e=>?_).congr (fun _ _=>rfl) (fun i af=>?_),?_,?_⟩ ?_
 ·simp only[gd,V6,b6];rw[if_neg (by omega),if_neg (by omega),if_neg (by omega),if_neg (by omega)];exact zr t aL
 ·refine(iO.mod.comp m4 (B:=fun k=>k=bR∨k=b0) (fun _ _ a=>a) fun i af a=>?_).trans (eU.mod (A:=fun k=>k=bR∨k=b0) (.inl rfl))
  have:=(g2.lt off i (by omega) a).1;omega
 ·rw[b3]
  have:off=0∨off=1∨off=2:=by omega
  rcases this with rfl | rfl | rfl<;>rfl
 ·subst e;exact fu.not db (by decide) i af aR
 ·have a:off=0∨off=1∨off=2:=by omega
  have b:i=0∨i=1∨i=2∨i=3∨i=4:=by omega
  rcases a with rfl | rfl | rfl<;>rcases b with rfl | rfl | rfl | rfl | rfl<;>rfl
 ·exact eU.obj (n0 g3 (by decide)) (Ne.symm cH)
 ·have tr:((o.gr.of ow oj ot (cs++o.fr so hW l 0)).add off cs.length).Z=(o.gr.of ow oj ot (cs++o.fr so hW l 0)).Z:=by unfold o.gr.add; (repeat' split)<;>rfl
  rw[tr];refine(g4.mod m4 fun k hk h=>?_).mod ru fun k hk e=>?_
  ·obtain⟨cur,gL⟩:=g4.aQ k hk;exact g2.not gL (by decide) off (by omega) h
  ·obtain⟨cur,gL⟩:=g4.aQ k hk;subst e;rw[g1] at gL;injection gL with gL;injection gL with _ e;exact absurd e (by decide)
 ·refine(U6.trans (ey.mod m4 fun k c fJ aw a=>?_)).trans (ey.wr eU db (by decide));obtain⟨cur,gL⟩:=(g2.own off (by omega)).aQ k a;rw[aw] at gL;injection gL with gL;injection gL with _ e;rw[e];decide
end Go.Proofs.R
end
section
namespace bt
open Go Go.RowKit
theorem bg.wV{α:Type}{enc:α→List Value}{e:TypeId}{sz base b n:Nat}{w:World}{cs:List Value}(xs:List α)(h:w.heap[b]? = some (.cells cs.toArray e))(aB:base≤b)(iN:cs=xs.flatMap enc)(dn:∀x,(enc x).length=sz)(aH:n=xs.length)(hm:xs.length≤maxLen):bg enc e sz base w (.slice (some ⟨b,0,none⟩) n n) xs:=by
 subst aH;have a1:cs.length=xs.length*sz:=by rw[iN,xd dn]
 exact⟨by rw[xd dn],.inr ⟨b,xs.length,cs.toArray,rfl,aB,h,Nat.le_refl _,hm,by simpa using a1,by simp only;rw[←a1,List.take_length,iN]⟩⟩
theorem K.YG{P:Program}{di:Value→World→Prop}{α:Type}{enc:α→List Value}{e:TypeId}{sz base:Nat}{w:World}{v:Value}{xs:List α}{ty:TypeId}{hJ b:Nat}{y:α}{cs:List Value}{t}(aG:bg enc e sz base w v xs)(aw:w.heap[b]? = some (.cells cs.toArray e))(iN:cs=enc y)(dn:∀x,(enc x).length=sz)(h1:∀y,∀u∈enc y,u.oneCell'=true)
  (aB:(xs.length+1)*hJ≤140737488355328)(mA:xs.length+1≤maxLen)(lD:base≤w.heap.size)
  (hk:∀bm n c w',bg enc e sz base w' (.slice bm n c) (xs++[y])→w.grownBy w' v.ownBlock→((Value.slice bm n c).ownBlock=v.ownBlock∨(Value.slice bm n c).ownBlock=some w.heap.size)→di (.slice bm n c) w'):mg P ty e sz hJ v (.slice (some ⟨b,0,none⟩) 1 1) w di t:=by
 refine K.u0 (ys:=[y]) aG dn (by subst iN;simpa using h4 aw) rfl h1 aB mA lD fun ck w' aZ aV je=>?_;obtain⟨bm,cap,rfl,_⟩:=aZ.form;exact hk _ _ _ _ aZ aV je
end bt
namespace o
open Go Go.RowKit bt
structure kf(w:World)(cs:List Value)(x:uV):Prop where
 ex:∃v0 v1 v2 v3 v4,cs=[v0,v1,v2,.int .i64 x.cells,v3,v4]∧bG 1 (Flat c4) w v0 x.vars∧bG 1 (Flat c4) w v1 x.a7∧bG 1 (Flat c4) w v2 x.insts∧bG 1 (Flat c4) w v3 x.bA∧bG 1 (Flat c4) w v4 x.af
theorem kf.ext{w w':World}{cs:List Value}{x:uV}(he:Ext w w')(h:kf w cs x):kf w' cs x :=
 let ⟨v0,v1,v2,v3,v4,e,ao,h1,U,ah,aJ⟩:=h.ex
 ⟨v0,v1,v2,v3,v4,e,ao.ext Flat.ext he,h1.ext Flat.ext he,U.ext Flat.ext he,ah.ext Flat.ext he,aJ.ext Flat.ext he⟩
theorem kf.form{w:World}{cs:List Value}{x:uV}(h:kf w cs x):∃cz bV cj c1 cq c2 cr bJ cC bW,cs=[.slice cz x.vars.length bV,.slice cj x.a7.length c1,.slice cq x.insts.length c2,.int .i64 x.cells,.slice cr x.bA.length bJ,.slice cC x.af.length bW] ∧
  bG 1 (Flat c4) w (.slice cz x.vars.length bV) x.vars∧bG 1 (Flat c4) w (.slice cj x.a7.length c1) x.a7∧bG 1 (Flat c4) w (.slice cq x.insts.length c2) x.insts∧bG 1 (Flat c4) w (.slice cr x.bA.length bJ) x.bA∧bG 1 (Flat c4) w (.slice cC x.af.length bW) x.af:=by
 obtain⟨v0,v1,v2,v3,v4,rfl,ao,h1,U,ah,aJ⟩:=h.ex;obtain⟨cz,bV,rfl,_⟩:=ao.form;obtain⟨cj,c1,rfl,_⟩:=h1.form;obtain⟨cq,c2,rfl,_⟩:=U.form;obtain⟨cr,bJ,rfl,_⟩:=ah.form;obtain⟨cC,bW,rfl,_⟩:=aJ.form;exact⟨cz,bV,cj,c1,cq,c2,cr,bJ,cC,bW,rfl,ao,h1,U,ah,aJ⟩
theorem Ii{v:Var}{s:List Scalar}(h:yU v s)(aG:s.length≤2):0≤v.scalar∧v.scalar≤2:=by
 rcases h.v7 with e | e
 ·omega
 ·unfold size at e;split at e
  ·rename_i x av
   have:=(List.getElem?_eq_some_iff.1 av).1
   split at e<;>omega
  ·exact absurd rfl e
theorem Ri{v:dK}{s:List Scalar}(h:A9 v s)(aG:s.length≤2):0≤v.scalar∧v.scalar≤2:=by
 rcases h.v7 with e | e
 ·omega
 ·unfold size at e;split at e
  ·rename_i x av
   have:=(List.getElem?_eq_some_iff.1 av).1
   split at e<;>omega
  ·exact absurd rfl e
theorem Ie(m:Model)(h:ff m)(k:Nat):total ((dp m).take k)≤64:=by
 have h1:=Hw h;have U:=h.cells;have ah:=DL m;have e:total (dp m)=total ((dp m).take k)+total ((dp m).drop k):=by rw[←EV,List.take_append_drop]
 omega
theorem Ny(m:Model)(h:ff m)(k:Nat):total (dp m)+total ((ej m).take k)≤64:=by
 have h1:=Hw h;have U:=h.cells;have ah:=DL m;have e:total (ej m)=total ((ej m).take k)+total ((ej m).drop k):=by rw[←EV,List.take_append_drop]
 omega
theorem Xl(m:Model)(h:ff m)(k:Nat):total (dp m)+total (ej m)+total ((fG m).take k)≤64:=by
 have h1:=Hw h;have U:=h.cells;have ah:=DL m;have e:total (fG m)=total ((fG m).take k)+total ((fG m).drop k):=by rw[←EV,List.take_append_drop]
 omega
end o
namespace Go.Proofs.R
open Go Go.RowKit bt
theorem afy(cs:List Value)(m:o.Model)(w:World)(h:o.dM w cs m)(aV:m.cG)(bq:o.ff m) :
  bw Tryz.prog F.BW #[.agg cs.toArray] w fun v w'=>(∃xs u,v = .tuple #[.agg xs.toArray,u]∧e7 w (fun w=>o.kf w xs (o.layout m)) w'∧e7 w (fun w=>bG 4 (Flat o.Cell.slot) w u (o.cZ m)) w')∧Ext w w':=by
 obtain⟨cz,bV,cj,c1,cq,c2,cr,bJ,cC,bW,rfl,ao,h1,U,ah,aJ,eH,dB,dH,ee,ei⟩:=h.form;have jq:=bq.jq;refine bP E.BW ?_;refine bM ?_;refine aa ?_;intro NF bE c8 q6 ar;have dQ:=cy ar;refine aa ?_;intro Io cp dT oI aK;have ef:=cy aK;replace ar:=oI.obj ar;refine aa ?_;intro wh bR mC l0 h7;have amM:=cy h7;replace ar:=l0.obj ar;replace aK:=l0.obj aK;refine aa ?_;intro aq b0 ali oJ iN;have amL:=cy iN;replace ar:=oJ.obj ar;replace aK:=oJ.obj aK;replace h7:=oJ.obj h7;have mf:=q6.size;have lL:=oI.size;have yv:=l0.size;have yw:=oJ.size;have b2:=((q6.trans oI).trans l0).trans oJ;clear q6 oI l0 oJ;have cH:bR≠b0:=by omega
 have kG:bR<aq.heap.size∧b0<aq.heap.size:=⟨by omega,by omega⟩;have iB:jY aq bR b0 (o.gr.of [] [] [] []) aq:=⟨Mod.refl _ _,fun _=>(none,0,0),(none,0,0),h7,⟨fun i af=>by
   have e:(o.gr.of [] [] [] []).rows i=[]:=by unfold o.gr.rows; (repeat' split)<;>rfl
   rw[e];exact bg.nil _ _ _ _ _,fun i j k _ _ _ e=>by cases e⟩,iN,bg.nil _ _ _ _ _⟩
 have kI:∀{s W},jY aq bR b0 s W→W.heap[bE]? = aq.heap[bE]? := fun h=>h.mod.block _ (by omega) (by omega);have kq:∀{s W},jY aq bR b0 s W→W.heap[cp]? = aq.heap[cp]? := fun h=>h.mod.block _ (by omega) (by omega);have ga:∀{s W},jY aq bR b0 s W→Ext w W:=fun h=>h.mod.ext b2 fun i af e=>by omega
 rw[ar] at kI;rw[aK] at kq;refine aa ?_;refine K.cR 24 m.vars.length [1,2,4,5,6,22,23] (fun _:Unit=>[]) () (fun k _ W=>jY aq bR b0 (o.gr.of (o.ha 0 ((o.dp m).take k)) [] [] (o.cellsOf 1 ((o.dp m).take k) 0)) W) bp bp (by simpa[o.ha,o.cellsOf] using iB) ?_;clear iB h7 iN ar aK;rintro k _ S aU hk aG;have ar:=kI aG;have c0:=ga aG;refine aa ?_;apply K.cond<;>intro g1
 ·have br:k<m.vars.length:=by omega
  obtain⟨a,rfl⟩:=h1.addr (by omega);have ew:=((h1.at k br).cells).ext c0;have dA:=bq.var _ (List.getElem_mem br);have k6:=o.Ii dA jq.1;refine aa ?_;intro wn kA oE fF fT;refine aa ?_;intro aY fk bB;have ax:Ext aU aY:=fk.ext fF oE;replace bB:aY.heap[kA]? = some (.cells m.vars[k].enc.toArray T.i):=bB;replace ar:=ax.obj ar;clear fk fF fT ew;have eT:=c0.trans ax;refine aa ?_;refine K.call (FV m.vars[k] _ m.scalars aY (ao.ext eT)) ?_;rintro _ bo ⟨rfl,aF⟩;have gh:=o.w1 m.vars[k] m.scalars;have eb:=eT.trans aF;have vq:=aF.obj ar;have acP:=aF.obj bB;refine aa ?_;refine K.cR 33 (o.cells m.vars[k] m.scalars).toNat [1,2,4,5,6,7,8,22,23,24,32] (fun v:gf=>[(9,.slice v.1 v.2.1 v.2.2)]) (none,0,0) (fun j v W=>Ext bo W∧bg o.dJ.enc T.m 3 bo.heap.size W (.slice v.1 v.2.1 v.2.2) (List.replicate j (o.h2 m.vars[k].scalar m.vars[k].bA m.vars[k].af m.scalars))) bp bp ⟨Ext.refl _,bg.nil _ _ _ _ _⟩ ?_;clear ar bB;rintro j v S bD aI ⟨aM,eF⟩;have ar:=aM.obj vq;have bB:=aM.obj acP;refine aa ?_;apply K.cond<;>intro g2
  ·have eQ:j<(o.cells m.vars[k] m.scalars).toNat:=by omega
   refine aa ?_;refine K.call (Md m.vars[k] _ m.scalars bD (ao.ext (eb.trans aM)) (by unfold o.eM;omega)) ?_;rintro _ bQ ⟨rfl,aN⟩;have tR:=o.u1 (o.h2 m.vars[k].scalar m.vars[k].bA m.vars[k].af m.scalars);refine aa ?_;intro cd YR alb bC dq;replace dq:cd.heap[YR]? = some (.cells (o.h2 m.vars[k].scalar m.vars[k].bA m.vars[k].af m.scalars).enc.toArray T.m):=dq;have eR:=eF.ext (aN.trans bC);have GQ:=(aM.trans aN).trans bC;have a1:(List.replicate j (o.h2 m.vars[k].scalar m.vars[k].bA m.vars[k].af m.scalars)).length=j:=List.length_replicate;refine K.ki (y:=o.h2 m.vars[k].scalar m.vars[k].bA m.vars[k].af m.scalars) eR dq rfl (fun _=>rfl) o.u1 (by rw[a1];omega) (by rw[a1];unfold maxLen;omega) GQ.size fun bm n c c9 kp vz=>?_;refine aa ?_;exact⟨eQ,bf,(bm,n,c),bp,eR.j2 GQ vz (Nat.le_refl _),by rw[List.replicate_succ'];exact kp⟩
  ·have kF:j=(o.cells m.vars[k] m.scalars).toNat:=by omega
   have xO:=aG.ext ((ax.trans aF).trans aM);replace eF:bg o.dJ.enc T.m 3 bo.heap.size bD (.slice v.1 v.2.1 v.2.2) (o.yq m.scalars m.vars[k]):=by rw[kF] at eF;exact eF
   have fT:=o.nJ 1 ((o.dp m).take k) 0;have ri:=o.Ie m bq k;refine aa ?_;intro bQ aN;refine K.wide (Jf (n:=43) (x:=7) (y:=9) (off:=0) (so:=1) (by decide) (by decide) (by decide) (by decide) cH kG (by simp[b6]) (by simp[b6]) (by simp[b6];rfl) (by simp[b6]) (xO.ext aN) (eF.ext aN) (by rw[fT,o.E0];omega) ⟨by rw[o.sP,List.length_take];omega,by simp,by simp⟩ fun a8 cd aT cO vL=>?_);have tv:a8 24 = .int .i64 k:=by rw[aT 24 (by decide)];simp[b6]
   refine aa ?_;rw[tv];refine aa ?_;refine⟨br,bf,(),trivial,?_⟩;have aO:k<(o.dp m).length:=by simpa[o.dp] using br
   have e:(o.dp m)[k]=o.yq m.scalars m.vars[k]:=by simp[o.dp]
   rw[List.take_succ_eq_append_getElem aO,e,o.H7,o.wZ];have ba:(0+((o.dp m).take k).length:Nat)=k:=by rw[List.length_take];omega
   rw[ba,Nat.zero_add,←fT];exact cO
 have l2:m.vars.length≤k:=by omega
 rw[List.take_of_length_le (by simpa[o.dp] using l2)] at aG;have Nz:=o.Ie m bq m.vars.length;rw[List.take_of_length_le (by simp[o.dp])] at Nz;refine aa ?_;refine K.cR 56 m.a7.length [1,2,4,5,6,54,55] (fun _:Unit=>[]) () (fun k _ W=>jY aq bR b0 (o.gr.of (o.ha 0 (o.dp m)) (o.ha (o.total (o.dp m)) ((o.ej m).take k)) [] (o.cellsOf 1 (o.dp m) 0++o.cellsOf 2 ((o.ej m).take k) 0)) W) bp bp (by simpa[o.ha,o.cellsOf] using aG) ?_;clear aG ar c0;rintro k _ S aU hk aG;have ar:=kI aG;have c0:=ga aG;refine aa ?_;apply K.cond<;>intro g2
 ·have br:k<m.a7.length:=by omega
  obtain⟨a,rfl⟩:=U.addr (by omega);have ew:=((U.at k br).cells).ext c0;have dA:=bq.chan _ (List.getElem_mem br);have k6:=o.Ri dA jq.1;have tC:=dA.cap;refine aa ?_;intro wn qO Gz fF fT;refine aa ?_;intro aY fk bB;have ax:Ext aU aY:=fk.ext fF Gz;replace bB:aY.heap[qO]? = some (.cells m.a7[k].enc.toArray T.r):=bB;replace ar:=ax.obj ar;clear fk fF fT ew;have Ko:=ar;have acQ:=bB;have eT:=c0.trans ax;refine aa ?_;intro bo FP acB aF CO;replace CO:bo.heap[FP]? = some (.cells ([(⟨0,m.a7[k].cap,0⟩:o.dJ)].flatMap o.dJ.enc).toArray T.m):=CO;have fu:bg o.dJ.enc T.m 3 aY.heap.size bo (.slice (some ⟨FP,0,none⟩) 1 1) [(⟨0,m.a7[k].cap,0⟩:o.dJ)]:=bg.wV _ CO acB rfl (fun _=>rfl) rfl (by simp[maxLen]);replace ar:=aF.obj ar;replace bB:=aF.obj bB;have eb:=eT.trans aF;have Tb:=CO;clear CO;refine aa ?_;refine K.call (Md ⟨⟨#[]⟩,m.a7[k].scalar,0,min m.a7[k].bA 0,max m.a7[k].af 0,0⟩ _ m.scalars bo (ao.ext eb) (by unfold o.eM;simp only;omega)) ?_;rintro _ bD ⟨rfl,aM⟩;have tR:=o.u1 (o.h2 m.a7[k].scalar (min m.a7[k].bA 0) (max m.a7[k].af 0) m.scalars);refine aa ?_;intro bQ b13 CG aN hl;replace hl:bQ.heap[b13]? = some (.cells (o.kB m.scalars m.a7[k]).enc.toArray T.m):=hl;replace ar:=(aM.trans aN).obj ar;replace bB:=(aM.trans aN).obj bB;have et:=fu.ext (aM.trans aN);have adp:=(aF.trans aM).trans aN;clear fu;refine aa ?_;have ak8:FP<b13:=by have:=cy Tb;have:=aM.size;omega
  refine K.cR 79 m.a7[k].cap.toNat [1,2,4,5,6,10,11,13,54,55,56,78] (fun v:gf=>[(12,.slice v.1 v.2.1 v.2.2)]) (some ⟨FP,0,none⟩,1,1) (fun j v W=>Ext aY W∧W.heap[b13]? = bQ.heap[b13]? ∧ bg o.dJ.enc T.m 3 aY.heap.size W (.slice v.1 v.2.1 v.2.2) (⟨0,m.a7[k].cap,0⟩ :: List.replicate j (o.kB m.scalars m.a7[k]))∧(Value.slice v.1 v.2.1 v.2.2).ownBlock≠some b13) bp bp ⟨adp,rfl,et,by simp[Value.ownBlock];omega⟩ ?_;rw[hl];have ana:=cy hl;clear ar bB hl et Tb;rintro j v S cd aI ⟨po,hl,eR,jR⟩;have ar:=po.obj Ko;have bB:=po.obj acQ;refine aa ?_;apply K.cond<;>intro g3
  ·have eQ:j<m.a7[k].cap.toNat:=by omega
   have tR:=o.u1 (o.kB m.scalars m.a7[k]);refine aa ?_;intro c9 YU ald bU Ks;replace Ks:c9.heap[YU]? = some (.cells (o.kB m.scalars m.a7[k]).enc.toArray T.m):=Ks;have kp:=eR.ext bU;have a1:((⟨0,m.a7[k].cap,0⟩:o.dJ) :: List.replicate j (o.kB m.scalars m.a7[k])).length=j+1:=by simp
   have Tx:=po.trans bU;have z138:=cy (bU.obj hl);refine K.YG (y:=o.kB m.scalars m.a7[k]) kp Ks rfl (fun _=>rfl) o.u1 (by rw[a1];omega) (by rw[a1];unfold maxLen;omega) Tx.size fun bm n c dF jt tI je=>?_;have re:dF.heap[b13]? = _:=(Mod.grown (A:=fun i=>(Value.slice v.1 v.2.1 v.2.2).ownBlock=some i) tI fun k hk=>hk).obj jR (bU.obj hl);refine aa ?_;refine⟨eQ,bf,(bm,n,c),bp,kp.j2 Tx tI (Nat.le_refl _),re,by rw[List.replicate_succ'];exact jt,fun e=>?_⟩;rcases je with a | a
   ·exact jR (a.symm.trans e)
   ·rw[a] at e;injection e with e;omega
  ·have kF:j=m.a7[k].cap.toNat:=by omega
   have mH:=aG.ext (ax.trans po);replace eR:bg o.dJ.enc T.m 3 aY.heap.size cd (.slice v.1 v.2.1 v.2.2) (o.u6 m.scalars m.a7[k]):=by rw[kF] at eR;exact eR
   have fT:=o.nJ 1 (o.dp m) 0;have KD:=o.nJ 2 ((o.ej m).take k) 0;have hlen:(o.cellsOf 1 (o.dp m) 0++o.cellsOf 2 ((o.ej m).take k) 0).length=o.total (o.dp m)+o.total ((o.ej m).take k):=by rw[List.length_append,fT,KD]
   have ri:=o.Ny m bq k;refine aa ?_;intro c9 bU;refine K.wide (Jf (n:=86) (x:=10) (y:=12) (off:=1) (so:=2) (by decide) (by decide) (by decide) (by decide) cH kG (by simp[b6]) (by simp[b6]) (by simp[b6];rfl) (by simp[b6]) (mH.ext bU) (eR.ext bU) (by rw[hlen,o.FX];omega) ⟨by rw[o.sP];simp[o.dp];omega,by rw[o.sP,List.length_take];omega,by simp⟩ fun a8 cd aT cO vL=>?_);have tv:a8 56 = .int .i64 k:=by rw[aT 56 (by decide)];simp[b6]
   refine aa ?_;rw[tv];refine aa ?_;refine⟨br,bf,(),trivial,?_⟩;have aO:k<(o.ej m).length:=by simpa[o.ej] using br
   have e:(o.ej m)[k]=o.u6 m.scalars m.a7[k]:=by simp[o.ej]
   rw[List.take_succ_eq_append_getElem aO,e,o.H7,o.wZ];have ba:(0+((o.ej m).take k).length:Nat)=k:=by rw[List.length_take];omega
   rw[ba,←List.append_assoc,←hlen];exact cO
 have rb:m.a7.length≤k:=by omega
 rw[List.take_of_length_le (by simpa[o.ej] using rb)] at aG;have ajg:=o.Ny m bq m.a7.length;rw[List.take_of_length_le (by simp[o.ej])] at ajg;refine aa ?_;refine K.call (Ae _ m aU (h.ext c0) aV) ?_;rintro cw A4 ⟨fq,zN⟩;obtain⟨dd,ci,rfl,_⟩:=fq.form;have Dm:=aG.ext zN;have G2:(o.insts m).length≤30:=by have:=o.xU m;have:=bq.procs;omega
 refine aa ?_;refine K.cR 99 (o.insts m).length [1,2,4,5,6,97,98] (fun _:Unit=>[]) () (fun k _ W=>jY aq bR b0 (o.gr.of (o.ha 0 (o.dp m)) (o.ha (o.total (o.dp m)) (o.ej m)) (o.ha (o.total (o.dp m)+o.total (o.ej m)) ((o.fG m).take k)) (o.cellsOf 1 (o.dp m) 0++o.cellsOf 2 (o.ej m) 0++o.cellsOf 3 ((o.fG m).take k) 0)) W∧ey rn A4 W) bp bp ⟨by simpa[o.ha,o.cellsOf] using Dm,ey.refl⟩ ?_;clear aG Dm ar c0;rintro k _ S aU hk ⟨aG,mL⟩;have ar:=kI aG;have c0:=ga aG;have e5:jX aU (.slice dd (o.insts m).length ci) (o.insts m):=bg.fB (enc:=o.cU.enc) (fun _=>rfl) (fq.hA mL (by decide));refine aa ?_;apply K.cond<;>intro g3
 ·have br:k<(o.insts m).length:=by omega
  obtain⟨gB,rfl⟩:=e5.addr (by omega);have Lh:=o.tY _ (List.getElem_mem br);obtain⟨p,aW,gU,zH⟩:=o.LW Lh;have dA:=bq.proc _ (List.getElem_mem aW);have adZ:=dA.cW;have q7:=dA.jq.1;refine aa ?_;intro wn wS CH fF fT;refine aa ?_;intro aY fk bB;have ax:Ext aU aY:=fk.ext fF CH;replace bB:aY.heap[wS]? = some (.cells #[.int .i64 p,.int .i64 (o.insts m)[k].elem] T.n):=by rw[←gU];exact bB
  replace ar:=ax.obj ar;clear fk fF fT e5;have eT:=c0.trans ax;obtain⟨a,rfl⟩:=ah.addr (by omega);obtain⟨mI,cx,eg,dU,eL,fU⟩:=ah.at p aW;obtain⟨fz,ir,rfl,iA⟩:=eL.form;obtain⟨n1,kk,rfl,lc⟩:=fU.form;replace dU:=dU.ext eT;refine aa ?_;intro bo YO ak9 aF q4;replace q4:bo.heap[YO]? = some (.cells (m.procs[p].enc (.slice fz m.procs[p].vars.length ir) (.slice n1 m.procs[p].cE.length kk)).toArray T.g):=q4;unfold o.dt.enc at q4;have eb:=eT.trans aF;replace ar:=aF.obj ar;clear dU;refine aa ?_;intro bD I4 acz aM GG;replace GG:bD.heap[I4]? = some (.cells ([(⟨0,m.procs[p].cW - 1,0⟩:o.dJ)].flatMap o.dJ.enc).toArray T.m):=GG;have eF:bg o.dJ.enc T.m 3 bo.heap.size bD (.slice (some ⟨I4,0,none⟩) 1 1) [(⟨0,m.procs[p].cW - 1,0⟩:o.dJ)]:=bg.wV _ GG acz rfl (fun _=>rfl) rfl (by simp[maxLen]);have Ko:=ar;have acM:=q4;replace q4:=aM.obj q4;clear GG ar;refine aa ?_;refine K.cR 118 m.procs[p].vars.length [1,2,4,5,6,14,16,97,98,99,116,117] (fun v:gf=>[(17,.slice v.1 v.2.1 v.2.2)]) (some ⟨I4,0,none⟩,1,1) (fun j v W=>Ext bo W∧bg o.dJ.enc T.m 3 bo.heap.size W (.slice v.1 v.2.1 v.2.2) (⟨0,m.procs[p].cW - 1,0⟩ :: (m.procs[p].vars.take j).map fun v=>o.h2 v.scalar v.bA v.af m.scalars)) bp bp ⟨aM,by simpa using eF⟩ ?_;clear q4 eF;rintro j v S bQ aI ⟨zM,et⟩;have ar:=zM.obj Ko;have q4:=zM.obj acM;have kP:=eb.trans zM;refine aa ?_;apply K.cond<;>intro g4
  ·have eQ:j<m.procs[p].vars.length:=by omega
   obtain⟨rP,rfl⟩:=eL.addr (by omega);have ew:=((eL.at j eQ).cells).ext kP;have LJ:=dA.var _ (List.getElem_mem eQ);have k6:=o.Ii LJ jq.1;refine aa ?_;intro cd YP ala bC CL;replace CL:cd.heap[YP]? = some (.cells m.procs[p].vars[j].enc.toArray T.i):=CL;replace ar:=bC.obj ar;have jh:=kP.trans bC;clear ew;refine aa ?_;refine K.call (Md m.procs[p].vars[j] _ m.scalars cd (ao.ext jh) (by unfold o.eM;omega)) ?_;rintro _ c9 ⟨rfl,bU⟩;have tR:=o.u1 (o.h2 m.procs[p].vars[j].scalar m.procs[p].vars[j].bA m.procs[p].vars[j].af m.scalars);refine aa ?_;intro dF YN ak7 cL Kp;replace Kp:dF.heap[YN]? = some (.cells (o.h2 m.procs[p].vars[j].scalar m.procs[p].vars[j].bA m.procs[p].vars[j].af m.scalars).enc.toArray T.m):=Kp;have jt:=et.ext ((bC.trans bU).trans cL);have Ty:=((zM.trans bC).trans bU).trans cL;have a1:((⟨0,m.procs[p].cW - 1,0⟩:o.dJ) :: (m.procs[p].vars.take j).map fun v=>o.h2 v.scalar v.bA v.af m.scalars).length=j+1:=by simp;omega
   refine K.ki (y:=o.h2 m.procs[p].vars[j].scalar m.procs[p].vars[j].bA m.procs[p].vars[j].af m.scalars) jt Kp rfl (fun _=>rfl) o.u1 (by rw[a1];omega) (by rw[a1];unfold maxLen;omega) Ty.size fun bm n c fe tP nW=>?_;refine aa ?_;exact⟨eQ,bf,(bm,n,c),bp,jt.j2 Ty nW (Nat.le_refl _),by rw[List.take_succ_eq_append_getElem eQ,List.map_append];exact tP⟩
  ·have z7:=aG.ext ((ax.trans aF).trans zM);have L3:ey rn aU bQ:=ey.ext ((ax.trans aF).trans zM);replace et:bg o.dJ.enc T.m 3 bo.heap.size bQ (.slice v.1 v.2.1 v.2.2) (o.nZ m (o.insts m)[k]):=by rw[List.take_of_length_le (by omega)] at et;rw[zH];exact et
   have fT:=o.nJ 1 (o.dp m) 0;have KD:=o.nJ 2 (o.ej m) 0;have adb:=o.nJ 3 ((o.fG m).take k) 0;have hlen:(o.cellsOf 1 (o.dp m) 0++o.cellsOf 2 (o.ej m) 0++o.cellsOf 3 ((o.fG m).take k) 0).length=o.total (o.dp m)+o.total (o.ej m)+o.total ((o.fG m).take k):=by rw[List.length_append,List.length_append,fT,KD,adb]
   have ri:=o.Xl m bq k;have CJ:(o.nZ m (o.insts m)[k]).length≤10:=by rw[zH,o.HL];omega
   refine aa ?_;intro c9 bU;refine K.wide (Jf (n:=130) (x:=14) (y:=17) (off:=2) (so:=3) (by decide) (by decide) (by decide) (by decide) cH kG (by simp[b6]) (by simp[b6]) (by simp[b6];rfl) (by simp[b6]) (z7.ext bU) (et.ext bU) (by rw[hlen];omega) ⟨by rw[o.sP];simp[o.dp];omega,by rw[o.sP];simp[o.ej];omega,by rw[o.sP,List.length_take];omega⟩ fun a8 cd aT cO vL=>?_);have tv:a8 99 = .int .i64 k:=by rw[aT 99 (by decide)];simp[b6]
   refine aa ?_;rw[tv];refine aa ?_;refine⟨br,bf,(),trivial,?_,((mL.trans L3).trans (ey.ext bU)).trans vL⟩;have aO:k<(o.fG m).length:=by simpa[o.fG] using br
   have e:(o.fG m)[k]=o.nZ m (o.insts m)[k]:=by simp[o.fG]
   rw[List.take_succ_eq_append_getElem aO,e,o.H7,o.wZ];have ba:(0+((o.fG m).take k).length:Nat)=k:=by rw[List.length_take];omega
   rw[ba,←List.append_assoc,←hlen];exact cO
 have K3:(o.insts m).length≤k:=by omega
 rw[List.take_of_length_le (by simpa[o.fG] using K3)] at aG;have aK:=kq aG;obtain⟨vs,u,g1,g2,g3,g4⟩:=aG.ex;have fin:∀{aY W},Ext aU aY→dz cp aY W→(∃xs jz,Value.tuple #[.agg #[cg (vs 0),cg (vs 1),cg (vs 2),.int .i64 (o.cZ m).length,cg (vs 3),cg (vs 4)],cg u] = .tuple #[.agg xs.toArray,jz]∧e7 w (fun w=>o.kf w xs (o.layout m)) W∧e7 w (fun w=>bG 4 (Flat o.Cell.slot) w jz (o.cZ m)) W)∧Ext w W:=by
  intro aY W he hw;have dT:=he.obj aK;have abu:=(g2.ext he).mod (hw.mod (A:=fun i=>i=cp) rfl) fun i k af hk e=>by subst e;exact(g2.ext he).not dT (by decide) i af hk
  have abv:=(g4.ext he).mod (hw.mod (A:=fun i=>i=cp) rfl) fun k hk e=>by
   subst e;obtain⟨cur,gL⟩:=(g4.ext he).aQ k hk;rw[dT] at gL;injection gL with gL;injection gL with _ e;exact absurd e (by decide)
  have bL:w.heap.size≤aq.heap.size:=by omega
  have ry:=fun(i:Nat) (af:i<5)=>bg.new (e:=T.a) (enc:=c4) (fun _=>rfl) (bg.low bL (abu.own i af));refine⟨⟨[_,_,_,_,_,_],_,rfl,fun eE rq=>⟨⟨_,_,_,_,_,rfl,ry 0 (by decide) eE rq,ry 1 (by decide) eE rq,ry 2 (by decide) eE rq,ry 3 (by decide) eE rq,ry 4 (by decide) eE rq⟩⟩,bg.new (e:=T.u) (enc:=o.Cell.slot) (fun _=>rfl) (bg.low bL abv)⟩,hw.ext (c0.trans he) (by omega)⟩
 replace g1:aU.heap[bR]? = some (.cells #[cg (vs 0),cg (vs 1),cg (vs 2),.int .i64 (o.cZ m).length,cg (vs 3),cg (vs 4)] T.h):=g1;refine aa ?_;intro aY ax;replace g1:=ax.obj g1;replace g3:=ax.obj g3;replace aK:=ax.obj aK;dsimp only[cg] at g1 g3;refine aa ?_;refine⟨?_,?_⟩
 ·refine aa ?_;refine⟨?_,?_⟩
  ·refine aa ?_;intro bo eu bH;refine aa ?_;exact fin ax eu
  ·refine aa ?_;intro bo eu bH;replace g3:=eu.obj g3 (by omega);refine aa ?_;exact fin ax eu
 ·refine aa ?_;intro bo eu bH;refine aa ?_;exact fin ax eu
end Go.Proofs.R
end
section
namespace o
theorem L8{m:Model}(h:(check m).cM=0):lay m=layout m:=by unfold lay;rw[if_pos h]
theorem Vh{m:Model}(h:¬(check m).cM=0):lay m=Mo:=by unfold lay;rw[if_neg h]
theorem sA{m:Model}(h:ff m):(cZ m).length≤64:=by
 have:=Hw h
 have:=h.cells
 omega
open Go Go.RowKit bt in
theorem kf.zero(w:World):kf w [.slice none 0 0,.slice none 0 0,.slice none 0 0,.int .i64 0,.slice none 0 0,.slice none 0 0] Mo:=⟨_,_,_,_,_,rfl,bG.nil,bG.nil,bG.nil,bG.nil,bG.nil⟩
end o
namespace Go.Proofs.R
open Go Go.RowKit bt
theorem Vf(cs:List Value)(m:o.Model)(w:World)(h:o.dM w cs m)(aV:m.cG)(aZ:gH w) :
  bw Tryz.prog F.y #[.agg cs.toArray] w fun v w'=>(∃xs,v = .agg xs.toArray∧e7 w (fun w=>o.kf w xs (o.lay m)) w')∧Ext w w':=by
 have bq:=h;obtain⟨cz,bV,cj,c1,cq,c2,cr,bJ,cC,bW,rfl,_⟩:=h.form;refine bP E.y ?_;refine bM ?_;refine aa ?_;intro aq bE c8 aC ar;refine aa ?_;intro aU cp dT aA aK;have fC:=cy ar;replace ar:=aA.obj ar;have z2:=cy aK;have z3:=aC.size;have ba:=aC.trans aA;refine aa ?_;refine K.call (afZ _ m aU (bq.ext ba) aV (aZ.ext ba)) ?_;rintro _ aY ⟨rfl,ax⟩;replace ar:=ax.obj ar;replace aK:=ax.obj aK;have bz:=ba.trans ax;by_cases hk:(o.check m).cM=0
 ·rw[decide_eq_true hk];refine aa ?_;refine K.call (afy _ m aY (bq.ext bz) aV (o.mP hk)) ?_;rintro _ bo ⟨⟨xs,u,rfl,dg,aG⟩,aF⟩;obtain⟨me,d0,jB,d1,jC,d2,pK,d3,oX,d4,rfl,_⟩:=dg.here.form;obtain⟨sH,qS,rfl,_⟩:=aG.here.form;replace aK:=aF.obj aK;have bX:=bz.trans aF;have z4:=ax.size;refine aa ?_;intro bD ch fE aM bB;replace aK:=aM.obj aK;refine aa ?_;intro bQ fy b5;have aH:=(dg.ext aM aF.size).wr fy (by omega);refine aa ?_;exact⟨⟨_,rfl,by rw[o.L8 hk];exact aH.low bz.size⟩,fy.ext (bX.trans aM) (by omega)⟩
 ·rw[decide_eq_false hk];refine aa ?_;intro bo eu bH;refine aa ?_;exact⟨⟨[_,_,_,_,_,_],rfl,by rw[o.Vh hk];exact gI.of fun _=>o.kf.zero _⟩,eu.ext bz (by omega)⟩
end Go.Proofs.R
end
section
namespace o
theorem ZJ{c:dK}{s:List Scalar}(h:A9 c s)(ao:c.scalar≠0):∃i,∃af:i<s.length,c.scalar=(i:Int)+1∧s[i].size=size c.scalar s:=by
 have e:=h.v7.resolve_left ao;unfold size at e ⊢;split at e
 ·rename_i x av;obtain⟨cB,xP⟩:=List.getElem?_eq_some_iff.1 av;split at e
  ·rename_i h1;refine⟨(c.scalar - 1).toNat,cB,by omega,?_⟩;rw[xP,if_pos h1]
  ·exact absurd rfl e
 ·exact absurd rfl e
theorem L7(so hW:Int)(l:List dJ)(b:dJ):fr so hW (l++[b]) 0=fr so hW l 0++[⟨so,hW,(l.length:Nat),b.bA,b.af,b.kind⟩]:=by
 rw[L6,Nat.zero_add]
end o
namespace Go.Proofs.R
open Go Go.RowKit bt
theorem U9{α:Type}{enc:α→List Value}{e:TypeId}{sz base:Nat}{w w':World}{v:Value}{xs:List α}(aZ:bg enc e sz base w v xs)(aV:w.grownBy w' v.ownBlock):ey [e] w w':=ey.mod (A:=fun k=>v.ownBlock=some k) (Mod.grown aV fun k hk=>hk) fun k c t aw a=>by
 obtain⟨cur,h⟩:=aZ.aQ k a;rw[aw] at h;injection h with h;injection h with _ h;rw[h];simp
theorem ahR(cs:List Value)(m:o.Model)(w:World)(h:o.dM w cs m)(aV:m.cG)(bq:o.ff m) :
  bw Tryz.prog F.D8 #[.agg cs.toArray] w fun v w'=>bg o.Cell.enc T.kJ 6 w.heap.size w' v (o.cZ m)∧Ext w w':=by
 obtain⟨cz,bV,cj,c1,cq,c2,cr,bJ,cC,bW,rfl,ao,h1,U,ah,aJ,eH,dB,dH,ee,ei⟩:=h.form;have jq:=bq.jq;refine bP E.D8 ?_;refine bM ?_;refine aa ?_;intro aq bE c8 aC ar;refine aa ?_;refine K.cR 4 m.vars.length [1] (fun v:gf=>[(3,.slice v.1 v.2.1 v.2.2)]) (none,0,0) (fun k v W=>Ext aq W∧bg o.Cell.enc T.kJ 6 aq.heap.size W (.slice v.1 v.2.1 v.2.2) (o.cellsOf 1 ((o.dp m).take k) 0)) bp bp ⟨Ext.refl _,bg.nil _ _ _ _ _⟩ ?_;have vq:=ar;clear ar;rintro k v S aU hk ⟨aA,ko⟩;have ar:=aA.obj vq;have ba:=aC.trans aA;refine aa ?_;apply K.cond<;>intro g1
 ·have br:k<m.vars.length:=by omega
  obtain⟨a,rfl⟩:=h1.addr (by omega);have ew:=((h1.at k br).cells).ext ba;have dA:=bq.var _ (List.getElem_mem br);have k6:=o.Ii dA jq.1;have aO:k<(o.dp m).length:=by simpa[o.dp] using br
  have ri:=o.Ie m bq (k+1);rw[o.Ic aO] at ri;have vg:(o.dp m)[k]=o.yq m.scalars m.vars[k]:=by simp[o.dp]
  rw[vg,o.E0] at ri;have gh:=o.w1 m.vars[k] m.scalars;refine aa ?_;refine K.gm (.tuple #[.int .i64 (o.bounds m.vars[k] m.scalars).1,.int .i64 (o.bounds m.vars[k] m.scalars).2]) (fun w' e=>Wi m.vars[k] _ m.scalars w' (ao.ext (ba.trans e))) ?_;refine aa ?_;intro aY ax;have gT:=ko.ext ax;have bB:=ax.obj ar;have gC:=aA.trans ax;clear ar ew;refine aa ?_;refine K.cR 7 (o.cells m.vars[k] m.scalars).toNat [1,4,5,6] (fun v:gf=>[(3,.slice v.1 v.2.1 v.2.2)]) v (fun j v W=>Ext aq W∧bg o.Cell.enc T.kJ 6 aq.heap.size W (.slice v.1 v.2.1 v.2.2) (o.cellsOf 1 ((o.dp m).take k) 0++o.fr 1 k (List.replicate j (o.h2 m.vars[k].scalar m.vars[k].bA m.vars[k].af m.scalars)) 0)) bp bp ⟨gC,by simpa[o.fr] using gT⟩ ?_;clear bB gT ko aA ax gC;rintro j v S bo aI ⟨aF,fu⟩;have ar:=aF.obj vq;have bX:=aC.trans aF;have ew:=((h1.at k br).cells).ext bX;refine aa ?_;refine K.gm _ (fun w' e=>MW m.vars[k] _ m.scalars w' (ao.ext (bX.trans e))) ?_;refine aa ?_;intro bD aM;replace ar:=aM.obj ar;replace ew:=ew.ext aM;have eF:=fu.ext aM;have nq:=aF.trans aM;refine aa ?_;apply K.cond<;>intro g2
  ·have eQ:j<(o.cells m.vars[k] m.scalars).toNat:=by omega
   refine aa ?_;refine K.call (MY m.vars[k].scalar bD (by unfold o.eM;omega)) ?_;rintro _ rH ⟨rfl,rfl⟩;refine aa ?_;intro bQ dY eK aN b5;have et:=eF.ext aN;have zK:=nq.trans aN;have a1:(o.cellsOf 1 ((o.dp m).take k) 0++o.fr 1 k (List.replicate j (o.h2 m.vars[k].scalar m.vars[k].bA m.vars[k].af m.scalars)) 0).length=o.total ((o.dp m).take k)+j:=by
    rw[List.length_append,o.nJ,o.xY,List.length_replicate]
   refine K.ki (y:=⟨1,k,j,(o.bounds m.vars[k] m.scalars).1,(o.bounds m.vars[k] m.scalars).2,o.kindOf m.vars[k].scalar⟩) et b5 rfl (fun _=>rfl) o.BO (by rw[a1];omega) (by rw[a1];unfold maxLen;omega) zK.size fun bm n c cd eR ix=>?_;refine aa ?_;refine⟨eQ,bf,(bm,n,c),bp,et.j2 zK ix (Nat.le_refl _),?_⟩;rw[List.replicate_succ',o.L7,←List.append_assoc,List.length_replicate,o.FR];rw[o.FR] at eR;exact eR
  ·have kF:j=(o.cells m.vars[k] m.scalars).toNat:=by omega
   refine aa ?_;refine⟨br,bf,v,bp,nq,?_⟩;have ba:(0+((o.dp m).take k).length:Nat)=k:=by rw[List.length_take];omega
   rw[List.take_succ_eq_append_getElem aO,vg,o.wZ,ba];rw[kF] at eF;exact eF
 have l2:m.vars.length≤k:=by omega
 rw[List.take_of_length_le (by simpa[o.dp] using l2)] at ko;have Nz:=o.Ie m bq m.vars.length;rw[List.take_of_length_le (by simp[o.dp])] at Nz;refine aa ?_;refine K.cR 8 m.a7.length [1] (fun v:gf=>[(3,.slice v.1 v.2.1 v.2.2)]) v (fun k v W=>Ext aq W∧bg o.Cell.enc T.kJ 6 aq.heap.size W (.slice v.1 v.2.1 v.2.2) (o.cellsOf 1 (o.dp m) 0++o.cellsOf 2 ((o.ej m).take k) 0)) bp bp ⟨aA,by simpa[o.cellsOf] using ko⟩ ?_;clear ar ko aA ba;rintro k v S aU hk ⟨aA,ko⟩;have ar:=aA.obj vq;have ba:=aC.trans aA;refine aa ?_;apply K.cond<;>intro g2
 ·have br:k<m.a7.length:=by omega
  obtain⟨a,rfl⟩:=U.addr (by omega);have ew:=((U.at k br).cells).ext ba;have dA:=bq.chan _ (List.getElem_mem br);have k6:=o.Ri dA jq.1;have tC:=dA.cap;have aO:k<(o.ej m).length:=by simpa[o.ej] using br
  have ri:=o.Ny m bq (k+1);rw[o.Ic aO] at ri;have vg:(o.ej m)[k]=o.u6 m.scalars m.a7[k]:=by simp[o.ej]
  rw[vg,o.FX] at ri;have xu:(o.cellsOf 1 (o.dp m) 0++o.cellsOf 2 ((o.ej m).take k) 0).length=o.total (o.dp m)+o.total ((o.ej m).take k):=by rw[List.length_append,o.nJ,o.nJ]
  refine aa ?_;intro aY b9 lX ax dm;replace dm:aY.heap[b9]? = some (.cells m.a7[k].enc.toArray T.r):=dm;replace ar:=ax.obj ar;have gT:=ko.ext ax;clear ew;have gC:=aA.trans ax;refine aa ?_;intro bo db gw aF bH;have fu:=gT.ext aF;have se:=gC.trans aF;refine K.ki (y:=⟨2,k,0,0,m.a7[k].cap,0⟩) fu bH rfl (fun _=>rfl) o.BO (by rw[xu];omega) (by rw[xu];unfold maxLen;omega) se.size fun bm n c bD eF l1=>?_;have ar:=fu.box l1 (aF.obj ar) (by decide);have dm:=fu.box l1 (aF.obj dm) (by decide);have nq:=fu.j2 se l1 (Nat.le_refl _);have ca:=aC.trans nq;have anf:=cy dm;clear ko gT bH gw aF ax lX;refine eh ?_;simp -dsimp only[cA];refine eh ?_;intro bQ aN;replace ar:=aN.obj ar;replace dm:=aN.obj dm;have et:=eF.ext aN;have c7:=ca.trans aN;have zK:=nq.trans aN;refine K.gK [1,3,8,9] (fun _:Unit=>[(10,.int .i64 (o.kB m.scalars m.a7[k]).bA),(11,.int .i64 (o.kB m.scalars m.a7[k]).af)]) (fun _ W=>Ext bQ W) ?_ ?_
  ·refine aa ?_;apply K.cond<;>intro g3
   ·obtain⟨i,af,Dm,Lw⟩:=o.ZJ dA (by omega);obtain⟨a0,rfl⟩:=ao.addr (by omega);have iN:=((ao.at i af).cells).ext c7;refine aa ?_;refine K.dx i (by omega) af ?_;refine aa ?_;intro cd bC;refine aa ?_;have e:o.kB m.scalars m.a7[k]=⟨0,m.scalars[i].size,m.a7[k].scalar+1⟩:=by unfold o.kB o.h2;rw[if_neg (by omega),Lw]
    rw[e];exact⟨(),bp,bC⟩
   ·have gv:m.a7[k].scalar=0:=by omega
    refine aa ?_;have e:o.kB m.scalars m.a7[k]=⟨min 0 m.a7[k].bA,max 0 m.a7[k].af,0⟩:=by unfold o.kB o.h2;rw[if_pos gv,Int.min_comm,Int.max_comm]
    rw[e];exact⟨(),bp,Ext.refl _⟩
  rintro _ S cd bC;replace ar:=bC.obj ar;replace dm:=bC.obj dm;have eR:=et.ext bC;have zL:=zK.trans bC;have zT:o.kB m.scalars m.a7[k]=⟨(o.kB m.scalars m.a7[k]).bA,(o.kB m.scalars m.a7[k]).af,o.kindOf m.a7[k].scalar⟩:=by
   unfold o.kB o.h2 o.kindOf;split<;>rfl
  have Hm:∀{W:World},W.heap[b9]? = cd.heap[b9]? → _:=fun e=>e.trans dm;refine aa ?_;refine K.yu [1,8,9,10,11] (fun x:gf×Nat=>[(3,.slice x.1.1 x.1.2.1 x.1.2.2),(12,.int .i64 ((x.2:Int)+1))]) ((bm,n,c),0) (fun x W=>(Ext aq W∧W.heap[b9]? = cd.heap[b9]? ∧ (x.2:Int)≤m.a7[k].cap)∧bg o.Cell.enc T.kJ 6 aq.heap.size W (.slice x.1.1 x.1.2.1 x.1.2.2) (o.cellsOf 1 (o.dp m) 0++o.cellsOf 2 ((o.ej m).take k) 0++o.fr 2 k (⟨0,m.a7[k].cap,0⟩ :: List.replicate x.2 (o.kB m.scalars m.a7[k])) 0)) (fun x=>(m.a7[k].cap - x.2).toNat) bp ⟨⟨zL,rfl,by simp only;omega⟩,by simpa[o.fr] using eR⟩ ?_;clear ar dm eR et eF;rintro⟨v,j⟩ S c9 ⟨⟨CU,lX,aI⟩,kp⟩;have ar:=CU.obj vq;have dm:=Hm lX;simp only at aI;refine aa ?_;apply K.cond<;>intro g4
  ·refine aa ?_;refine K.call (MY m.a7[k].scalar c9 (by unfold o.eM;omega)) ?_;rintro _ rH ⟨rfl,rfl⟩;refine aa ?_;intro dF FO Gy cL nQ;have jt:=kp.ext cL;have CV:=CU.trans cL;have a1:(o.cellsOf 1 (o.dp m) 0++o.cellsOf 2 ((o.ej m).take k) 0++o.fr 2 k (⟨0,m.a7[k].cap,0⟩ :: List.replicate j (o.kB m.scalars m.a7[k])) 0).length=o.total (o.dp m)+o.total ((o.ej m).take k)+(j+1):=by
    rw[List.length_append,xu,o.xY,List.length_cons,List.length_replicate]
   refine K.ki (y:=⟨2,k,(j:Int)+1,(o.kB m.scalars m.a7[k]).bA,(o.kB m.scalars m.a7[k]).af,o.kindOf m.a7[k].scalar⟩) jt nQ rfl (fun _=>rfl) o.BO (by rw[a1];omega) (by rw[a1];unfold maxLen;omega) CV.size fun bm n c fe tP nW=>?_;have ac2:=jt.box nW (cL.obj dm) (by decide);refine aa ?_;refine⟨((bm,n,c),j+1),bp,⟨⟨jt.j2 CV nW (Nat.le_refl _),ac2.trans (Hm rfl).symm,by simp only;omega⟩,?_⟩,by simp only;omega⟩;rw[List.replicate_succ',←List.cons_append,o.L7,←List.append_assoc,List.length_cons,List.length_replicate];rw[zT] at tP ⊢;exact tP
  ·refine aa ?_;refine⟨br,bf,v,bp,CU,?_⟩;have ba:(0+((o.ej m).take k).length:Nat)=k:=by rw[List.length_take];omega
   have w9:j=m.a7[k].cap.toNat:=by omega
   rw[List.take_succ_eq_append_getElem aO,vg,o.wZ,ba,←List.append_assoc];rw[w9] at kp;exact kp
 have rb:m.a7.length≤k:=by omega
 rw[List.take_of_length_le (by simpa[o.ej] using rb)] at ko;refine aa ?_;refine K.call (vW _ m aU (h.ext ba) aV) ?_;rintro cw A4 ⟨fq,zN⟩;obtain⟨dd,ci,rfl,_⟩:=fq.form;have adJ:∀{W:World},ey [T.kJ] A4 W→jX W (.slice dd (o.insts m).length ci) (o.insts m):=fun k=>bg.fB (enc:=o.cU.enc) (fun _=>rfl) (fq.hA k (by decide));have G2:(o.insts m).length≤30:=by have:=o.xU m;have:=bq.procs;omega
 have T4:=ko.ext zN;have Tw:=aA.trans zN;have anb:=zN.size;refine aa ?_;refine K.cR 14 (o.insts m).length [1,13] (fun v:gf=>[(3,.slice v.1 v.2.1 v.2.2)]) v (fun k v W=>(Ext aq W∧ey [T.kJ] A4 W)∧bg o.Cell.enc T.kJ 6 aq.heap.size W (.slice v.1 v.2.1 v.2.2) (o.cellsOf 1 (o.dp m) 0++o.cellsOf 2 (o.ej m) 0++o.cellsOf 3 ((o.fG m).take k) 0)) bp bp ⟨⟨Tw,ey.refl⟩,by simpa[o.cellsOf] using T4⟩ ?_;clear ar ko aA ba T4 zN Tw;rintro k v S aU hk ⟨⟨aA,mL⟩,ko⟩;have e5:=adJ mL;have ar:=aA.obj vq;have ba:=aC.trans aA;refine aa ?_;apply K.cond<;>intro g3
 ·have br:k<(o.insts m).length:=by omega
  obtain⟨gB,rfl⟩:=e5.addr (by omega);have Lh:=o.tY _ (List.getElem_mem br);obtain⟨p,aW,gU,zH⟩:=o.LW Lh;have dA:=bq.proc _ (List.getElem_mem aW);have adZ:=dA.cW;have q7:=dA.jq.1;obtain⟨a,rfl⟩:=ah.addr (by omega);obtain⟨mI,cx,eg,dU,eL,fU⟩:=ah.at p aW;obtain⟨fz,ir,rfl,iA⟩:=eL.form;obtain⟨n1,kk,rfl,lc⟩:=fU.form;replace dU:=dU.ext ba;have aO:k<(o.fG m).length:=by simpa[o.fG] using br
  have ri:=o.Xl m bq (k+1);rw[o.Ic aO] at ri;have vg:(o.fG m)[k]=o.ye m.scalars m.procs[p]:=by simp[o.fG,zH]
  rw[vg,o.HL] at ri;have xu:(o.cellsOf 1 (o.dp m) 0++o.cellsOf 2 (o.ej m) 0++o.cellsOf 3 ((o.fG m).take k) 0).length=o.total (o.dp m)+o.total (o.ej m)+o.total ((o.fG m).take k):=by rw[List.length_append,List.length_append,o.nJ,o.nJ,o.nJ]
  refine aa ?_;intro aY ax;replace dU:=dU.ext ax;replace ar:=ax.obj ar;replace e5:=e5.ext Flat.ext ax;have gT:=ko.ext ax;have gC:=aA.trans ax;refine aa ?_;refine K.dx p gU aW ?_;refine aa ?_;intro wn wS CH fF fT;refine⟨fF,?_⟩;refine aa ?_;intro bo eu bH;have GS:Ext aY bo:=eu.ext fF CH;replace bH:bo.heap[wS]? = some (.cells (m.procs[p].enc (.slice fz m.procs[p].vars.length ir) (.slice n1 m.procs[p].cE.length kk)).toArray T.g):=bH;unfold o.dt.enc at bH;replace ar:=GS.obj ar;have fu:=gT.ext GS;have se:=gC.trans GS;clear eu fF fT dU gT ko e5;refine aa ?_;intro bD dX jf aM b3;have eF:=fu.ext aM;have nq:=se.trans aM;refine K.ki (y:=⟨3,k,0,0,m.procs[p].cW - 1,0⟩) eF b3 rfl (fun _=>rfl) o.BO (by rw[xu];omega) (by rw[xu];unfold maxLen;omega) nq.size fun bm n c bQ et jP=>?_;have ar:=eF.box jP (aM.obj ar) (by decide);have xp:=eF.box jP (aM.obj bH) (by decide);have zK:=eF.j2 nq jP (Nat.le_refl _);have L3:ey [T.kJ] A4 bQ:=((mL.trans (ey.ext (ax.trans GS))).trans (ey.ext aM)).trans (U9 eF jP);clear bH fu;have Up:∀{W:World},W.heap[wS]? = bQ.heap[wS]? → _:=fun e=>e.trans xp;refine aa ?_;refine K.cR 16 m.procs[p].vars.length [1,13,14,15] (fun v:gf=>[(3,.slice v.1 v.2.1 v.2.2)]) (bm,n,c) (fun j v W=>((Ext aq W∧ey [T.kJ] A4 W)∧W.heap[wS]? = bQ.heap[wS]?)∧bg o.Cell.enc T.kJ 6 aq.heap.size W (.slice v.1 v.2.1 v.2.2) (o.cellsOf 1 (o.dp m) 0++o.cellsOf 2 (o.ej m) 0++o.cellsOf 3 ((o.fG m).take k) 0++o.fr 3 k (⟨0,m.procs[p].cW - 1,0⟩ :: (m.procs[p].vars.take j).map fun v=>o.h2 v.scalar v.bA v.af m.scalars) 0)) bp bp ⟨⟨⟨zK,L3⟩,rfl⟩,by simpa[o.fr] using et⟩ ?_;clear ar xp et;rintro j v S cd aI ⟨⟨⟨zL,sx⟩,CH⟩,eR⟩;have ar:=zL.obj vq;have xp:=Up CH;have dw:=aC.trans zL;refine aa ?_;apply K.cond<;>intro g4
  ·have eQ:j<m.procs[p].vars.length:=by omega
   obtain⟨rP,rfl⟩:=eL.addr (by omega);have ew:=((eL.at j eQ).cells).ext dw;have LJ:=dA.var _ (List.getElem_mem eQ);have k6:=o.Ii LJ jq.1;refine aa ?_;refine K.gm (.tuple #[.int .i64 (o.bounds m.procs[p].vars[j] m.scalars).1,.int .i64 (o.bounds m.procs[p].vars[j] m.scalars).2]) (fun w' e=>Wi m.procs[p].vars[j] _ m.scalars w' (ao.ext (dw.trans e))) ?_;refine aa ?_;intro c9 bU;replace ar:=bU.obj ar;replace xp:=bU.obj xp;replace ew:=ew.ext bU;have kp:=eR.ext bU;have CU:=zL.trans bU;refine aa ?_;refine K.call (MY m.procs[p].vars[j].scalar c9 (by unfold o.eM;omega)) ?_;rintro _ rH ⟨rfl,rfl⟩;refine aa ?_;intro dF b9 lX cL dm;have jt:=kp.ext cL;have CV:=CU.trans cL;have a1:(o.cellsOf 1 (o.dp m) 0++o.cellsOf 2 (o.ej m) 0++o.cellsOf 3 ((o.fG m).take k) 0++o.fr 3 k (⟨0,m.procs[p].cW - 1,0⟩ :: (m.procs[p].vars.take j).map fun v=>o.h2 v.scalar v.bA v.af m.scalars) 0).length=o.total (o.dp m)+o.total (o.ej m)+o.total ((o.fG m).take k)+(j+1):=by
    rw[List.length_append,xu,o.xY,List.length_cons,List.length_map,List.length_take];omega
   have cB:((m.procs[p].vars.take j).map fun v=>o.h2 v.scalar v.bA v.af m.scalars).length=j:=by simp;omega
   refine K.ki (y:=⟨3,k,1+(j:Int),(o.bounds m.procs[p].vars[j] m.scalars).1,(o.bounds m.procs[p].vars[j] m.scalars).2,o.kindOf m.procs[p].vars[j].scalar⟩) jt dm rfl (fun _=>rfl) o.BO (by rw[a1];omega) (by rw[a1];unfold maxLen;omega) CV.size fun bm n c fe tP nW=>?_;have acL:=jt.box nW (cL.obj xp) (by decide);refine aa ?_;refine⟨eQ,bf,(bm,n,c),bp,⟨⟨jt.j2 CV nW (Nat.le_refl _),(sx.trans (ey.ext (bU.trans cL))).trans (U9 jt nW)⟩,acL.trans (Up rfl).symm⟩,?_⟩;rw[List.take_succ_eq_append_getElem eQ,List.map_append,←List.cons_append,List.map_cons,List.map_nil,o.L7,←List.append_assoc,List.length_cons,cB,o.FR m.procs[p].vars[j],show((j+1:Nat):Int)=1+(j:Int) from by omega];exact tP
  ·refine aa ?_;refine⟨br,bf,v,bp,⟨zL,sx⟩,?_⟩;have ba:(0+((o.fG m).take k).length:Nat)=k:=by rw[List.length_take];omega
   rw[List.take_of_length_le (l:=m.procs[p].vars) (by omega)] at eR;rw[List.take_succ_eq_append_getElem aO,vg,o.wZ,ba,←List.append_assoc];exact eR
 ·rw[List.take_of_length_le (by simp[o.fG];omega)] at ko;refine aa ?_;exact⟨bg.low aC.size ko,ba⟩
end Go.Proofs.R
end
section
namespace bt
open Go Go.RowKit
theorem K.yY{P:Program}{di:Value→World→Prop}{α:Type}{enc:α→List Value}{e:TypeId}{sz base n:Nat}{w:World}{vs:Nat→Option Addr×Nat×Nat}{xs:Nat→List α}{ty:TypeId}{b:Nat}{a:Addr}{c:Nat}{y:α}{t}(i:Nat)(af:i<n)(h:hx enc e sz base w n vs xs)(dn:∀x,(enc x).length=sz)(aw:eB w a (enc y))(h1:∀y,∀u∈enc y,u.oneCell'=true)
  (aB:((xs i).length+1)*b≤140737488355328)(mA:(xs i).length+1≤maxLen)(lD:base≤w.heap.size)
  (hk:∀ck w',hx enc e sz base w' n (dy vs i ck) (dy xs i (xs i++[y]))→w.grownBy w' (cg (vs i)).ownBlock→di (cg ck) w'):mg P ty e sz b (cg (vs i)) (.slice (some a) 1 c) w di t:=by
 unfold mg;exact hx.app i af h dn aw h1 aB mA lD fun ck w' a b _=>hk ck w' a b
end bt
namespace o
theorem JR{s:Int}{l:List Cell}{k:Nat}(h:k<l.length):h5 s (l.take (k+1)) 0=h5 s (l.take k) 0++(if l[k].place=0∧l[k].sort=s then [(k:Int)] else []):=by
 rw[List.take_succ_eq_append_getElem h,Cq];simp only[h5,List.append_nil,List.length_take,Nat.zero_add];rw[show min k l.length=k from by omega]
theorem Sp(s:Int):∀(l:List Cell) (i:Nat),(h5 s l i).length≤l.length
 | [],_=>by simp[h5]
 | x :: r,i=>by
  have:=Sp s r (i+1)
  simp only[h5,List.length_append,List.length_cons];split<;>simp<;>omega
def eV(l:List Cell)(k:Nat):Nat→List Int:=fun i=>if i=0 then h5 1 (l.take k) 0 else if i=1 then h5 2 (l.take k) 0 else if i=2 then h5 3 (l.take k) 0 else if i=3 then (l.take k).map (·.bA) else (l.take k).map (·.af)
end o
namespace Go.Proofs.R
open Go Go.RowKit bt
def AS:List TypeId:=[T.a,T.h]
def kY(vs:Nat→gf)(n:Int):Array Value:=#[cg (vs 0),cg (vs 1),cg (vs 2),.int .i64 n,cg (vs 3),cg (vs 4)]
structure nC(aq:World)(b:Nat)(xs:Nat→List Int)(n:Int)(W:World):Prop where
 mod:Mod (fun k=>k=b) aq W
 ex:∃vs:Nat→gf,W.heap[b]? = some (.cells (kY vs n) T.h)∧hx c4 T.a 1 aq.heap.size W 5 vs xs
theorem nC.congr{aq:World}{b:Nat}{xs E4:Nat→List Int}{n:Int}{W:World}(h:nC aq b xs n W)(av:∀i,i<5→xs i=E4 i):nC aq b E4 n W :=
 let ⟨vs,g1,g2⟩:=h.ex; ⟨h.mod,vs,g1,g2.congr (fun _ _=>rfl) av⟩
theorem Ei{aq:World}{b:Nat}{xs:Nat→List Int}{n y:Int}{W qG lx pT:World}{vs:Nat→gf}{ck:gf}{i:Nat}(af:i<5)(hm:Mod (fun k=>k=b) aq W)(g1:W.heap[b]? = some (.cells (kY vs n) T.h))(g2:hx c4 T.a 1 aq.heap.size W 5 vs xs)
  (he:Ext W qG)(aV:qG.grownBy lx (cg (vs i)).ownBlock)(aZ:hx c4 T.a 1 aq.heap.size lx 5 (dy vs i ck) (dy xs i (xs i++[y])))(hw:dz b lx pT)(aw:pT.heap[b]? = some (.cells (kY (dy vs i ck) n) T.h)) :
  nC aq b (dy xs i (xs i++[y])) n pT∧ey AS W pT:=by
 have vP:Mod (fun k=>(cg (vs i)).ownBlock=some k) qG lx:=Mod.grown aV fun k hk=>hk;have g5:=he.obj g1;have g6:lx.heap[b]? = some (.cells (kY vs n) T.h):=vP.obj ((g2.ext he).not g5 (by decide) i af) g5;refine⟨⟨?_,_,aw,aZ.mod (hw.mod (A:=fun k=>k=b) rfl) fun j k aI hk e=>?_⟩,?_⟩
 ·have h1:Mod (fun k=>k=b) aq qG:=hm.comp (A':=fun _=>False) he.mod (fun _ _ a=>a) fun _ _ a=>a.elim;have U:Mod (fun k=>k=b) aq lx:=h1.comp vP (fun _ _ a=>a) fun j aI a=>by have:=(g2.lt i j af a).1;omega
  exact U.trans (hw.mod rfl)
 ·subst e;exact aZ.not g6 (by decide) j aI hk
 ·refine((ey.ext he).trans (ey.mod vP fun k c t aw a=>?_)).trans (ey.wr hw g6 (by decide));obtain⟨cur,h⟩:=((g2.ext he).own i af).aQ k a;rw[aw] at h;injection h with h;injection h with _ h;rw[h];decide
theorem Wk(cs:List Value)(m:o.Model)(w:World)(h:o.dM w cs m)(aV:m.cG)(bq:o.ff m) :
  bw Tryz.prog F.Ar #[.agg cs.toArray] w fun v w'=>(∃xs,v = .agg xs.toArray∧e7 w (fun w=>o.kf w xs (o.layout m)) w')∧Ext w w':=by
 have dk:=h;obtain⟨cz,bV,cj,c1,cq,c2,cr,bJ,cC,bW,rfl,_⟩:=h.form;have zx:=o.sA bq;refine bP E.Ar ?_;refine bM ?_;refine aa ?_;intro NF bE c8 q6 ar;have dQ:=cy ar;refine aa ?_;intro Io cp dT oI aK;have ef:=cy aK;replace ar:=oI.obj ar;refine aa ?_;intro aq ch fE l0 bB;replace ar:=l0.obj ar;replace aK:=l0.obj aK;have ev:=cy bB;have mf:=q6.size;have lL:=oI.size;have yv:=l0.size;have n13:bE≠ch:=by omega
 have b2:=(q6.trans oI).trans l0;refine aa ?_;refine K.call (ahR _ m aq (dk.ext b2) aV bq) ?_;rintro eg wh ⟨gh,oJ⟩;obtain⟨agx,Zo,rfl,_⟩:=gh.form;have iB:nC aq ch (o.eV (o.cZ m) 0) 0 wh:=⟨oJ.mod,fun _=>(none,0,0),oJ.obj bB,⟨fun i af=>by
   have e:o.eV (o.cZ m) 0 i=[]:=by unfold o.eV; (repeat' split)<;>simp[o.h5]
   rw[e];exact bg.nil _ _ _ _ _,fun i j k _ _ _ e=>by cases e⟩⟩
 have kI:∀{xs n W},nC aq ch xs n W→W.heap[bE]? = aq.heap[bE]? := fun h=>h.mod.block _ (by omega) n13;have kq:∀{xs n W},nC aq ch xs n W→W.heap[cp]? = aq.heap[cp]? := fun h=>h.mod.block _ (by omega) (by omega);have ga:∀{xs n W},nC aq ch xs n W→Ext w W:=fun h=>h.mod.ext b2 fun i af e=>by omega
 have h7:∀{W:World},ey AS wh W→bG 6 (Flat o.Cell.enc) W (.slice agx (o.cZ m).length Zo) (o.cZ m):=fun k=>bg.fB (enc:=o.Cell.enc) (fun _=>rfl) (gh.hA k (by decide));rw[aK] at kq;clear ar aK bB gh;refine aa ?_;refine K.cR 5 (o.cZ m).length [1,2,3,4] (fun _:Unit=>[]) () (fun k _ W=>nC aq ch (o.eV (o.cZ m) k) 0 W∧ey AS wh W) bp bp ⟨iB,ey.refl⟩ ?_;clear iB;rintro k _ S aU hk ⟨aG,mL⟩;have gh:=h7 mL;obtain⟨ajP,g1,g2⟩:=aG.ex;refine aa ?_;apply K.cond<;>intro g0
 ·have br:k<(o.cZ m).length:=by omega
  obtain⟨a,rfl⟩:=gh.addr (by omega);clear g1 g2;obtain⟨x,av⟩:∃x,x=(o.cZ m)[k]:=⟨_,rfl⟩;have j6:∀i,(o.eV (o.cZ m) k i).length≤100:=fun i=>by
   unfold o.eV;have q:=fun s=>o.Sp s ((o.cZ m).take k) 0;have dQ:=q 1;have ef:=q 2;have ev:=q 3
   (repeat' split)<;>simp only[List.length_map,List.length_take] at * <;> omega
  refine eh ?_;simp -dsimp only[cA];refine eh ?_;refine K.gK [1,2,3,4,5] (fun _:Unit=>[]) (fun _ W=>nC aq ch (dy (o.eV (o.cZ m) k) 0 ((o.eV (o.cZ m) k) 0++if x.place=0∧x.sort=1 then [(k:Int)] else [])) 0 W∧ey AS wh W) ?_ ?_
  ·have gh:=h7 mL;obtain⟨vs,g1,g2⟩:=aG.ex;have lU:=g1;unfold kY at g1;dsimp only[cg] at g1;have same:¬(x.place=0∧x.sort=1)→nC aq ch (dy (o.eV (o.cZ m) k) 0 ((o.eV (o.cZ m) k) 0++if x.place=0∧x.sort=1 then [(k:Int)] else [])) 0 aU:=fun e=>aG.congr fun j aI=>by
    unfold dy;by_cases a:j=0
    ·subst a;simp[e]
    ·simp[a]
   refine aa ?_;rw[←av];apply K.cond<;>intro g3
   ·refine aa ?_;rw[←av];apply K.cond<;>intro g4
    ·refine aa ?_;intro bD dX jf aM b3;have fC:=aG.mod.size;have z2:=aM.size;have hlen:((o.eV (o.cZ m) k) 0).length≤100:=j6 0;have nj:=g2.ext aM;have g15:=aM.obj lU;refine K.yY (y:=(k:Int)) 0 (by decide) nj (fun _=>rfl) (h4 b3) j1 (by omega) (by unfold maxLen;omega) (by omega) fun ck bQ et jP=>?_;have eK:bQ.heap[ch]? = some (.cells (kY vs 0) T.h):=(Mod.grown (A:=fun k=>(cg (vs 0)).ownBlock=some k) jP fun k hk=>hk).obj (nj.not g15 (by decide) 0 (by decide)) g15;have tz:=eK;unfold kY at eK;refine aa ?_;intro cd dC dq;obtain⟨mH,sx⟩:=Ei (by decide) aG.mod lU g2 aM jP et dC dq;refine aa ?_;refine⟨(),trivial,mH.congr fun j aI=>?_,mL.trans sx⟩;have e:(if x.place=0∧x.sort=1 then [(k:Int)] else [])=[(k:Int)]:=if_pos ⟨g3,g4⟩;rw[e]
    ·refine aa ?_;exact⟨(),trivial,same fun e=>g4 e.2,mL⟩
   ·refine aa ?_;exact⟨(),trivial,same fun e=>g3 e.1,mL⟩
  rintro _ S fe ⟨Hg,Hu⟩;refine eh ?_;refine K.gK [1,2,3,4,5] (fun _:Unit=>[]) (fun _ W=>nC aq ch (dy (dy (o.eV (o.cZ m) k) 0 ((o.eV (o.cZ m) k) 0++if x.place=0∧x.sort=1 then [(k:Int)] else [])) 1 ((dy (o.eV (o.cZ m) k) 0 ((o.eV (o.cZ m) k) 0++if x.place=0∧x.sort=1 then [(k:Int)] else [])) 1++if x.place=0∧x.sort=2 then [(k:Int)] else [])) 0 W∧ey AS wh W) ?_ ?_
  ·have gh:=h7 Hu;obtain⟨vs,g1,g2⟩:=Hg.ex;have lU:=g1;unfold kY at g1;dsimp only[cg] at g1;have same:¬(x.place=0∧x.sort=2)→nC aq ch (dy (dy (o.eV (o.cZ m) k) 0 ((o.eV (o.cZ m) k) 0++if x.place=0∧x.sort=1 then [(k:Int)] else [])) 1 ((dy (o.eV (o.cZ m) k) 0 ((o.eV (o.cZ m) k) 0++if x.place=0∧x.sort=1 then [(k:Int)] else [])) 1++if x.place=0∧x.sort=2 then [(k:Int)] else [])) 0 fe:=fun e=>Hg.congr fun j aI=>by
    unfold dy;by_cases a:j=1
    ·subst a;simp[e]
    ·simp[a]
   refine aa ?_;rw[←av];apply K.cond<;>intro g3
   ·refine aa ?_;rw[←av];apply K.cond<;>intro g4
    ·refine aa ?_;intro bD dX jf aM b3;have fC:=Hg.mod.size;have z2:=aM.size;have hlen:((dy (o.eV (o.cZ m) k) 0 ((o.eV (o.cZ m) k) 0++if x.place=0∧x.sort=1 then [(k:Int)] else [])) 1).length≤100:=j6 1;have nj:=g2.ext aM;have g15:=aM.obj lU;refine K.yY (y:=(k:Int)) 1 (by decide) nj (fun _=>rfl) (h4 b3) j1 (by omega) (by unfold maxLen;omega) (by omega) fun ck bQ et jP=>?_;have eK:bQ.heap[ch]? = some (.cells (kY vs 0) T.h):=(Mod.grown (A:=fun k=>(cg (vs 1)).ownBlock=some k) jP fun k hk=>hk).obj (nj.not g15 (by decide) 1 (by decide)) g15;have tz:=eK;unfold kY at eK;refine aa ?_;intro cd dC dq;obtain⟨mH,sx⟩:=Ei (by decide) Hg.mod lU g2 aM jP et dC dq;refine aa ?_;refine⟨(),trivial,mH.congr fun j aI=>?_,Hu.trans sx⟩;have e:(if x.place=0∧x.sort=2 then [(k:Int)] else [])=[(k:Int)]:=if_pos ⟨g3,g4⟩;rw[e]
    ·refine aa ?_;exact⟨(),trivial,same fun e=>g4 e.2,Hu⟩
   ·refine aa ?_;exact⟨(),trivial,same fun e=>g3 e.1,Hu⟩
  rintro _ S fQ ⟨Hh,Hv⟩;refine eh ?_;refine K.gK [1,2,3,4,5] (fun _:Unit=>[]) (fun _ W=>nC aq ch (dy (dy (dy (o.eV (o.cZ m) k) 0 ((o.eV (o.cZ m) k) 0++if x.place=0∧x.sort=1 then [(k:Int)] else [])) 1 ((dy (o.eV (o.cZ m) k) 0 ((o.eV (o.cZ m) k) 0++if x.place=0∧x.sort=1 then [(k:Int)] else [])) 1++if x.place=0∧x.sort=2 then [(k:Int)] else [])) 2 ((dy (dy (o.eV (o.cZ m) k) 0 ((o.eV (o.cZ m) k) 0++if x.place=0∧x.sort=1 then [(k:Int)] else [])) 1 ((dy (o.eV (o.cZ m) k) 0 ((o.eV (o.cZ m) k) 0++if x.place=0∧x.sort=1 then [(k:Int)] else [])) 1++if x.place=0∧x.sort=2 then [(k:Int)] else [])) 2++if x.place=0∧x.sort=3 then [(k:Int)] else [])) 0 W∧ey AS wh W) ?_ ?_
  ·have gh:=h7 Hv;obtain⟨vs,g1,g2⟩:=Hh.ex;have lU:=g1;unfold kY at g1;dsimp only[cg] at g1;have same:¬(x.place=0∧x.sort=3)→nC aq ch (dy (dy (dy (o.eV (o.cZ m) k) 0 ((o.eV (o.cZ m) k) 0++if x.place=0∧x.sort=1 then [(k:Int)] else [])) 1 ((dy (o.eV (o.cZ m) k) 0 ((o.eV (o.cZ m) k) 0++if x.place=0∧x.sort=1 then [(k:Int)] else [])) 1++if x.place=0∧x.sort=2 then [(k:Int)] else [])) 2 ((dy (dy (o.eV (o.cZ m) k) 0 ((o.eV (o.cZ m) k) 0++if x.place=0∧x.sort=1 then [(k:Int)] else [])) 1 ((dy (o.eV (o.cZ m) k) 0 ((o.eV (o.cZ m) k) 0++if x.place=0∧x.sort=1 then [(k:Int)] else [])) 1++if x.place=0∧x.sort=2 then [(k:Int)] else [])) 2++if x.place=0∧x.sort=3 then [(k:Int)] else [])) 0 fQ:=fun e=>Hh.congr fun j aI=>by
    unfold dy;by_cases a:j=2
    ·subst a;simp[e]
    ·simp[a]
   refine aa ?_;rw[←av];apply K.cond<;>intro g3
   ·refine aa ?_;rw[←av];apply K.cond<;>intro g4
    ·refine aa ?_;intro bD dX jf aM b3;have fC:=Hh.mod.size;have z2:=aM.size;have hlen:((dy (dy (o.eV (o.cZ m) k) 0 ((o.eV (o.cZ m) k) 0++if x.place=0∧x.sort=1 then [(k:Int)] else [])) 1 ((dy (o.eV (o.cZ m) k) 0 ((o.eV (o.cZ m) k) 0++if x.place=0∧x.sort=1 then [(k:Int)] else [])) 1++if x.place=0∧x.sort=2 then [(k:Int)] else [])) 2).length≤100:=j6 2;have nj:=g2.ext aM;have g15:=aM.obj lU;refine K.yY (y:=(k:Int)) 2 (by decide) nj (fun _=>rfl) (h4 b3) j1 (by omega) (by unfold maxLen;omega) (by omega) fun ck bQ et jP=>?_;have eK:bQ.heap[ch]? = some (.cells (kY vs 0) T.h):=(Mod.grown (A:=fun k=>(cg (vs 2)).ownBlock=some k) jP fun k hk=>hk).obj (nj.not g15 (by decide) 2 (by decide)) g15;have tz:=eK;unfold kY at eK;refine aa ?_;intro cd dC dq;obtain⟨mH,sx⟩:=Ei (by decide) Hh.mod lU g2 aM jP et dC dq;refine aa ?_;refine⟨(),trivial,mH.congr fun j aI=>?_,Hv.trans sx⟩;have e:(if x.place=0∧x.sort=3 then [(k:Int)] else [])=[(k:Int)]:=if_pos ⟨g3,g4⟩;rw[e]
    ·refine aa ?_;exact⟨(),trivial,same fun e=>g4 e.2,Hv⟩
   ·refine aa ?_;exact⟨(),trivial,same fun e=>g3 e.1,Hv⟩
  rintro _ S kO ⟨Lz,Va⟩;have gh:=h7 Va;obtain⟨vs,g1,g2⟩:=Lz.ex;have lU:=g1;unfold kY at g1;dsimp only[cg] at g1;refine aa ?_;intro bD aM;replace gh:=gh.ext Flat.ext aM;replace g1:=aM.obj g1;refine aa ?_;intro bQ dY eK aN b5;refine⟨aN,?_⟩;have tF:=aM.trans aN;have fC:=Lz.mod.size;have z2:=tF.size;have hlen:(o.eV (o.cZ m) k 3).length≤100:=j6 3;have nj:=g2.ext tF;have g15:=tF.obj lU;refine K.yY (y:=(o.cZ m)[k].bA) 3 (by decide) nj (fun _=>rfl) (h4 b5) j1 (by rw[show(dy _ 2 _ 3:List Int)=o.eV (o.cZ m) k 3 from rfl];omega) (by rw[show(dy _ 2 _ 3:List Int)=o.eV (o.cZ m) k 3 from rfl];unfold maxLen;omega) (by omega) fun ck cd eR ix=>?_;have iM:cd.heap[ch]? = some (.cells (kY vs 0) T.h):=(Mod.grown (A:=fun k=>(cg (vs 3)).ownBlock=some k) ix fun k hk=>hk).obj (nj.not g15 (by decide) 3 (by decide)) g15;have CI:=iM;unfold kY at iM;refine aa ?_;intro amY iz c5;obtain⟨Lt,afl⟩:=Ei (by decide) Lz.mod lU g2 tF ix eR iz c5;clear g1 g2 lU nj g15 eR iM CI c5 b5 gh;have U8:=Va.trans afl;have gh:=h7 U8;obtain⟨vs,g1,g2⟩:=Lt.ex;have lU:=g1;unfold kY at g1;dsimp only[cg] at g1;refine aa ?_;intro bD aM;replace gh:=gh.ext Flat.ext aM;replace g1:=aM.obj g1;refine aa ?_;intro bQ dY eK aN b5;refine⟨aN,?_⟩;have tF:=aM.trans aN;have fC:=Lt.mod.size;have z2:=tF.size;have hlen:(o.eV (o.cZ m) k 4).length≤100:=j6 4;have nj:=g2.ext tF;have g15:=tF.obj lU;refine K.yY (y:=(o.cZ m)[k].af) 4 (by decide) nj (fun _=>rfl) (h4 b5) j1 (by rw[show(dy _ 3 _ 4:List Int)=o.eV (o.cZ m) k 4 from rfl];omega) (by rw[show(dy _ 3 _ 4:List Int)=o.eV (o.cZ m) k 4 from rfl];unfold maxLen;omega) (by omega) fun ck cd eR ix=>?_;have iM:cd.heap[ch]? = some (.cells (kY vs 0) T.h):=(Mod.grown (A:=fun k=>(cg (vs 4)).ownBlock=some k) ix fun k hk=>hk).obj (nj.not g15 (by decide) 4 (by decide)) g15;have CI:=iM;unfold kY at iM;refine aa ?_;intro amZ iz c5;obtain⟨aew,afm⟩:=Ei (by decide) Lt.mod lU g2 tF ix eR iz c5;clear g1 g2 lU nj g15 eR iM CI c5 b5 gh;have afn:=U8.trans afm;refine aa ?_;refine⟨br,bf,(),trivial,aew.congr fun j aI=>?_,afn⟩;subst av;have a:j=0∨j=1∨j=2∨j=3∨j=4:=by omega
  rcases a with rfl | rfl | rfl | rfl | rfl
  ·exact(o.JR (s:=1) br).symm
  ·exact(o.JR (s:=2) br).symm
  ·exact(o.JR (s:=3) br).symm
  ·show(_:List Int)=((o.cZ m).take (k+1)).map (·.bA);rw[List.take_succ_eq_append_getElem br,List.map_append];rfl
  ·show(_:List Int)=((o.cZ m).take (k+1)).map (·.af);rw[List.take_succ_eq_append_getElem br,List.map_append];rfl
 have sh:k=(o.cZ m).length:=by omega
 subst sh;have c0:=ga aG;have aK:=kq aG;clear g1 g2;obtain⟨vs,g1,g2⟩:=aG.ex;have lU:=g1;unfold kY at g1;dsimp only[cg] at g1;refine aa ?_;intro aY fk bB;have g23:=g2.mod (fk.mod (A:=fun k=>k=ch) rfl) fun i k af hk e=>by subst e;exact g2.not lU (by decide) i af hk
 replace aK:=fk.obj aK (by omega);replace bB:aY.heap[ch]? = some (.cells #[cg (vs 0),cg (vs 1),cg (vs 2),.int .i64 (o.cZ m).length,cg (vs 3),cg (vs 4)] T.h):=bB;dsimp only[cg] at bB;refine aa ?_;intro bo eu bH;have g24:=g23.mod (eu.mod (A:=fun k=>k=cp) rfl) fun i k af hk e=>by subst e;exact g23.not aK (by decide) i af hk
 have bL:w.heap.size≤aq.heap.size:=by omega
 have ry:=fun(i:Nat) (af:i<5)=>bg.new (e:=T.a) (enc:=c4) (fun _=>rfl) (bg.low bL (g24.own i af));obtain⟨f1,f2,f3⟩:=o.abl bq;have gG:o.eV (o.cZ m) (o.cZ m).length 0=(o.layout m).vars:=by show o.h5 1 ((o.cZ m).take _) 0=_;rw[List.take_length,f1];rfl
 have eO:o.eV (o.cZ m) (o.cZ m).length 1=(o.layout m).a7:=by show o.h5 2 ((o.cZ m).take _) 0=_;rw[List.take_length,f2];rfl
 have fc:o.eV (o.cZ m) (o.cZ m).length 2=(o.layout m).insts:=by show o.h5 3 ((o.cZ m).take _) 0=_;rw[List.take_length,f3];rfl
 have mb:o.eV (o.cZ m) (o.cZ m).length 3=(o.layout m).bA:=by show((o.cZ m).take _).map _=_;rw[List.take_length];rfl
 have sJ:o.eV (o.cZ m) (o.cZ m).length 4=(o.layout m).af:=by show((o.cZ m).take _).map _=_;rw[List.take_length];rfl
 refine aa ?_;refine⟨⟨[_,_,_,_,_,_],rfl,fun eE rq=>⟨⟨_,_,_,_,_,rfl,?_,?_,?_,?_,?_⟩⟩⟩,eu.ext (fk.ext c0 (by omega)) (by omega)⟩
 ·rw[←gG];exact ry 0 (by decide) eE rq
 ·rw[←eO];exact ry 1 (by decide) eE rq
 ·rw[←fc];exact ry 2 (by decide) eE rq
 ·rw[←mb];exact ry 3 (by decide) eE rq
 ·rw[←sJ];exact ry 4 (by decide) eE rq
theorem ahS(cs:List Value)(m:o.Model)(w:World)(h:o.dM w cs m)(aV:m.cG) :
  bw Tryz.prog F.D9 #[.agg cs.toArray] w fun v w'=>(∃xs,v = .agg xs.toArray∧e7 w (fun w=>o.kf w xs (o.lay m)) w')∧Ext w w':=by
 have bq:=h;obtain⟨cz,bV,cj,c1,cq,c2,cr,bJ,cC,bW,rfl,_⟩:=h.form;refine bP E.D9 ?_;refine bM ?_;refine aa ?_;intro aq bE c8 aC ar;refine aa ?_;intro aU cp dT aA aK;have fC:=cy ar;replace ar:=aA.obj ar;have z2:=cy aK;have z3:=aC.size;have ba:=aC.trans aA;refine aa ?_;refine K.call (abJ _ m aU (bq.ext ba) aV) ?_;rintro _ aY ⟨rfl,ax⟩;replace ar:=ax.obj ar;replace aK:=ax.obj aK;have bz:=ba.trans ax;by_cases hk:(o.check m).cM=0
 ·rw[decide_eq_true hk];refine aa ?_;refine K.call (Wk _ m aY (bq.ext bz) aV (o.mP hk)) ?_;rintro _ bo ⟨⟨xs,rfl,dg⟩,aF⟩;obtain⟨me,d0,jB,d1,jC,d2,pK,d3,oX,d4,rfl,_⟩:=dg.here.form;replace aK:=aF.obj aK;have bX:=bz.trans aF;have z4:=ax.size;refine aa ?_;intro bQ fy b5;have aH:=dg.wr fy (by omega);refine aa ?_;exact⟨⟨_,rfl,by rw[o.L8 hk];exact aH.low bz.size⟩,fy.ext bX (by omega)⟩
 ·rw[decide_eq_false hk];refine aa ?_;intro bo eu bH;refine aa ?_;exact⟨⟨[_,_,_,_,_,_],rfl,by rw[o.Vh hk];exact gI.of fun _=>o.kf.zero _⟩,eu.ext bz (by omega)⟩
end Go.Proofs.R
end
section
namespace o
open Go
def iD(m:Model)(i:Nat):Nat:=total ((dp m).take i)
def h3(m:Model)(i:Nat):Nat:=total (dp m)+total ((ej m).take i)
def fl(m:Model)(i:Nat):Nat:=total (dp m)+total (ej m)+total ((fG m).take i)
theorem H6(n:Nat):∀(ls:List (List dJ)) (i:Nat) (h:i<(ha n ls).length),(ha n ls)[i]=((n+total (ls.take i):Nat):Int)
 | [],i,h=>by simp[ha] at h
 | l :: r,0,h=>by simp[ha,total]
 | l :: r,i+1,h=>by
  simp only[ha,List.getElem_cons_succ,List.take_succ_cons,Ib];rw[H6 (n+l.length) r i (by simpa[ha] using h)];congr 1;omega
def fx(m:Model):Nat:=(cZ m).length
theorem tc(m:Model):fx m=total (dp m)+total (ej m)+total (fG m):=DL m
theorem wg{m:Model}{i:Nat}(h:i<m.vars.length):∃bK:i<(layout m).vars.length,(layout m).vars[i]=(iD m i:Int):=by
 have bK:i<(ha 0 (dp m)).length:=by rw[sP];simpa[dp] using h
 exact⟨bK,by have:=H6 0 (dp m) i bK;rw[Nat.zero_add] at this;exact this⟩
theorem u3{m:Model}{i:Nat}(h:i<m.a7.length):∃bK:i<(layout m).a7.length,(layout m).a7[i]=(h3 m i:Int):=by
 have bK:i<(ha (total (dp m)) (ej m)).length:=by rw[sP];simpa[ej] using h
 exact⟨bK,H6 _ _ i bK⟩
theorem xT{m:Model}{i:Nat}(h:i<(insts m).length):∃bK:i<(layout m).insts.length,(layout m).insts[i]=(fl m i:Int):=by
 have bK:i<(ha (total (dp m)+total (ej m)) (fG m)).length:=by rw[sP];simpa[fG] using h
 exact⟨bK,H6 _ _ i bK⟩
theorem EY{m:Model}{i:Nat}(h:i<m.vars.length):iD m i+(cells m.vars[i] m.scalars).toNat≤total (dp m):=by
 have bK:i<(dp m).length:=by simpa[dp] using h
 have:=Nu bK
 have e:(dp m)[i].length=(cells m.vars[i] m.scalars).toNat:=by simp[dp,E0]
 rw[e] at this;exact this
theorem Ja{m:Model}{i:Nat}(h:i<m.a7.length):h3 m i+(1+m.a7[i].cap.toNat)≤total (dp m)+total (ej m):=by
 have bK:i<(ej m).length:=by simpa[ej] using h
 have:=Nu bK
 have e:(ej m)[i].length=1+m.a7[i].cap.toNat:=by simp[ej,FX]
 rw[e] at this;unfold h3;omega
theorem aeT{m:Model}{i:Nat}(h:i<(insts m).length):fl m i+(nZ m (insts m)[i]).length≤fx m:=by
 have bK:i<(fG m).length:=by simpa[fG] using h
 have:=Nu bK
 have e:(fG m)[i].length=(nZ m (insts m)[i]).length:=by simp[fG]
 rw[e] at this;rw[tc];unfold fl;omega
def Yb(s:List Scalar)(c:dK)(l:List Int):Prop :=
 ∃n,l[0]? = some n∧0≤n∧n≤c.cap∧∀k:Nat,(k:Int)<c.cap→∃x,l[k+1]? = some x∧((k:Int)<n→(h2 c.scalar c.bA c.af s).bA≤x∧x≤(h2 c.scalar c.bA c.af s).af)∧(n≤k→x=0)
def ZI(m:Model)(i:Nat)(c:dK)(s:List Int):List Int:=(s.drop (h3 m i)).take (1+c.cap.toNat)
structure Fits(m:Model)(s:List Int):Prop where
 len:s.length=fx m
 queue:∀i (h:i<m.a7.length),Yb m.scalars m.a7[i] (ZI m i m.a7[i] s)
 cell:∀i (h:i<s.length) (bK:i<(cZ m).length),(cZ m)[i].bA≤s[i]∧s[i]≤(cZ m)[i].af
def yP(m:Model)(s:List Int):Prop:=(check m).cM=0∧Fits m s
def YL(m:Model)(s:List Int)(p:Int)(l:Int)(k:Nat):Nat:=((List.range k).filter fun i=>decide (((insts m)[i]?.map (·.proc))=some p∧s[fl m i]? = some l)).length
def YM(m:Model)(s:List Int)(p:Nat)(n:Int)(k:Nat):List Int:=(List.range n.toNat).map fun(l:Nat)=>((YL m s (p:Int) (l:Int) k:Nat):Int)
def W8(m:Model)(s:List Int)(inst:Int):List Int×Int :=
 match nth (insts m) inst with
 | some x=>((s.drop (fl m inst.toNat+1)).take ((nZ m x).length - 1),x.elem)
 | none=>([],0)
def wc(m:Model)(s:List Int)(inst:Int):Env :=
 ⟨(List.range m.vars.length).map fun i=>(s.drop (iD m i)).take (dp m)[i]!.length,
  (List.range m.a7.length).map fun i=>s[h3 m i]!,
  (W8 m s inst).1,
  (List.range m.procs.length).map fun i=>YM m s i (m.procs[i]?.map (·.cW) |>.getD 0) (insts m).length,
  (W8 m s inst).2⟩
def val:List Nat→Nat
 | []=>0
 | d :: r=>d+256*val r
def Gc(n:Nat):List Nat:=if h:n=0 then [] else n % 256 :: Gc (n / 256)
termination_by n
decreasing_by omega
def VK:List Cell→List Int→Nat→Nat
 | x :: r,v :: s,n=>VK r s (n*(x.af - x.bA+1).toNat+(v - x.bA).toNat)
 | _,_,n=>n
def num(m:Model)(s:List Int):Nat:=VK (cZ m) s 0
def fb(m:Model):Nat:=num m ((cZ m).map (·.af))
def Zd(m:Model):Nat:=(Gc (fb m)).length
def fixed(k n:Nat):List Nat:=Gc n++List.replicate (k - (Gc n).length) 0
def bytes(m:Model)(s:List Int):List Nat:=(fixed (Zd m) (num m s)).reverse
end o
end
section
namespace Go.Proofs.R
open Go Go.RowKit bt
abbrev h0(w:World)(v:Value)(l:List Int):Prop:=bG 1 (Flat c4) w v l
end Go.Proofs.R
end
section
namespace o
theorem Ai(m:Model):(layout m).vars.length=m.vars.length∧(layout m).a7.length=m.a7.length∧(layout m).insts.length=(insts m).length:=by
 refine⟨?_,?_,?_⟩<;>simp[layout,Ve,sP,dp,ej,fG]
end o
end
section
namespace bt
open Go Go.RowKit
structure Fw(es:Array MapEntry)(c:Nat)(L:List Int):Prop where
 xX:∃l:List (Int×Value),hF (Value.int .i64) es.toList l∧(l.map (·.1)).Nodup∧(∀x,x∈l.map (·.1)↔x∈L)∧l.length≤L.length∧∀p∈l,∃z,p.2 = .int .i64 z
 born:∀e∈es.toList,e.born<c
 nodup:(es.toList.map (·.born)).Nodup
structure eW(w:World)(b:Nat)(L:List Int):Prop where
 ok:∀x∈L,-9223372036854775808≤x∧x≤9223372036854775807
 ex:∃es c,w.heap[b]? = some (.map es c)∧Fw es c L
theorem eW.of{w w':World}{b:Nat}{L:List Int}(h:eW w b L)(e:w'.heap[b]? = w.heap[b]?):eW w' b L:=let ⟨es,c,h1,U⟩:=h.ex; ⟨h.ok,es,c,e.trans h1,U⟩
theorem eW.lt{w:World}{b:Nat}{L:List Int}(h:eW w b L):b<w.heap.size:=let ⟨_,_,h1,_⟩:=h.ex;cy h1
theorem eW.ext{w w':World}{b:Nat}{L:List Int}(h:eW w b L)(e:Ext w w'):eW w' b L:=h.of (e.heap h.lt)
theorem eW.mod{A:Nat→Prop}{w w':World}{b:Nat}{L:List Int}(h:eW w b L)(e:Mod A w w')(hk:¬A b):eW w' b L:=h.of (e.block b h.lt hk)
theorem Fw.empty:Fw #[] 0 []:=⟨⟨[],rfl,by simp,fun _=>Iff.rfl,Nat.le_refl _,fun p h=>by simp at h⟩,fun e he=>by simp at he,by simp⟩
theorem eW.empty{w:World}{b:Nat}(h:w.heap[b]? = some (.map #[] 0)):eW w b []:=⟨fun _ h=>by simp at h,_,_,h,Fw.empty⟩
theorem hF.len{mW:Type}{enc:mW→Value}{es:List MapEntry}{l:List (mW×Value)}(h:hF enc es l):es.length=l.length:=by
 have:=congrArg List.length h
 simpa using this
theorem hF.at{mW:Type}{enc:mW→Value}{es:List MapEntry}{l:List (mW×Value)}(h:hF enc es l)(i:Nat):es[i]?.map (fun e=>(e.key,e.val))=l[i]?.map (fun p=>(enc p.1,p.2)):=by
 have:=congrArg (fun q=>q[i]?) h
 simpa using this
theorem eW.look{w:World}{b:Nat}{L:List Int}(h:eW w b L)(x:Int):∃es r z,pN w (.map (some b)) es∧Instr.findNow (.int .i64) (.int .i64 x) es.toList 0=some r∧lG (.int .i64 0) false r = .int .i64 z:=by
 obtain⟨es,c,h1,hm⟩:=h.ex;obtain⟨l,U,ah,aJ,bk,bY⟩:=hm.xX;obtain⟨r,hN,ho⟩:=xb (HV .i64 .i64) x es.toList _ 0 U;cases r with
 | none=>exact⟨es,none,0,.inr ⟨b,c,rfl,h1⟩,hN,rfl⟩
 | some q =>
  cases aT:l.find? (fun p=>decide (x=p.1)) with
  | none=>rw[aT] at ho;cases ho
  | some p =>
   rw[aT] at ho;obtain⟨z,bL⟩:=bY p (List.mem_of_find?_eq_some aT);simp only[Option.map_some,Option.some.injEq] at ho;exact⟨es,some q,z,.inr ⟨b,c,rfl,h1⟩,hN,by simp[lG,ho,bL]⟩
theorem afq{x z:Int}{l:List (Int×Value)}{es:List MapEntry}{j:Nat}(h:hF (Value.int .i64) es l)(hk:∀p,l[j]? = some p→p.1=x):hF (Value.int .i64) (es.modify j fun e=>{ e with key:=.int .i64 x,val:=.int .i64 z }) (l.modify j fun p=>(p.1,.int .i64 z)):=by
 unfold hF;apply List.ext_getElem?;intro i;have af:=h.at i;simp only[List.getElem?_map,List.getElem?_modify] at *;by_cases e:j=i
 ·subst e;simp only[if_true] at *;cases he:es[j]? with
  | none=>rw[he] at af;cases aW:l[j]? with
   | none=>simp
   | some p=>rw[aW] at af;cases af
  | some q =>
   rw[he] at af;cases aW:l[j]? with
   | none=>rw[aW] at af;cases af
   | some p=>simp[hk p aW]
 ·simp only[if_neg e];cases he:es[i]? with
  | none=>rw[he] at af;cases aW:l[i]? with
   | none=>simp
   | some p=>rw[aW] at af;cases af
  | some q =>
   rw[he] at af;cases aW:l[i]? with
   | none=>rw[aW] at af;cases af
   | some p=>rw[aW] at af;simpa using af
theorem Sy{z:Value}(l:List (Int×Value))(j:Nat):(l.modify j fun p=>(p.1,z)).map (·.1)=l.map (·.1):=by
 apply List.ext_getElem?;intro i;simp only[List.getElem?_map,List.getElem?_modify];by_cases e:j=i
 ·subst e;cases l[j]? <;> simp
 ·simp[e]
theorem Q6{k v:Value}(es:List MapEntry)(j:Nat):(es.modify j fun e=>{ e with key:=k,val:=v }).map (·.born)=es.map (·.born):=by
 apply List.ext_getElem?;intro i;simp only[List.getElem?_map,List.getElem?_modify];by_cases e:j=i
 ·subst e;cases es[j]? <;> simp
 ·simp[e]
theorem eW.put{w:World}{b:Nat}{L:List Int}(h:eW w b L)(x z:Int)(av : -9223372036854775808≤x∧x≤9223372036854775807):∃es c q,w.heap[b]? = some (.map es c)∧Instr.findNow (.int .i64) (.int .i64 x) es.toList 0=some q ∧
  ∀w':World,w'.heap[b]? = some (qf es c (.int .i64 x) (.int .i64 z) q)→eW w' b (L++[x]):=by
 obtain⟨es,c,h1,hm⟩:=h.ex;obtain⟨l,U,ah,aJ,bk,bY⟩:=hm.xX;obtain⟨r,hN,ho⟩:=xb (HV .i64 .i64) x es.toList _ 0 U;have dA:∀y∈L++[x],-9223372036854775808≤y∧y≤9223372036854775807:=fun y bS=>by
  rcases List.mem_append.1 bS with bS | bS
  ·exact h.ok y bS
  ·simp only[List.mem_singleton] at bS;subst bS;exact av
 refine⟨es,c,r,h1,hN,fun w' hw=>?_⟩;cases r with
 | none =>
  have aH:∀p∈l,p.1≠x:=by
   cases aT:l.find? (fun p=>decide (x=p.1)) with
   | none =>
    intro p aW e
    have:=List.find?_eq_none.1 aT p aW
    simp[e] at this
   | some p=>rw[aT] at ho;cases ho
  refine⟨dA,_,_,hw,⟨⟨l++[(x,.int .i64 z)],hF.push U x (.int .i64 z) c,?_,fun y=>?_,?_,fun p aW=>?_⟩,?_,?_⟩⟩
  ·rw[List.map_append,List.map_cons,List.map_nil,List.nodup_append];refine⟨ah,by simp,fun a bu b aB=>?_⟩;obtain⟨p,aW,rfl⟩:=List.mem_map.1 bu;simp only[List.mem_singleton] at aB;rw[aB];exact aH p aW
  ·rw[List.map_append,List.mem_append,List.mem_append,aJ y];simp
  ·rw[List.length_append,List.length_append];simp;exact bk
  ·rcases List.mem_append.1 aW with aW | aW
   ·exact bY p aW
   ·simp only[List.mem_singleton] at aW;subst aW;exact⟨z,rfl⟩
  ·intro e he;simp only[Array.toList_push,List.mem_append,List.mem_singleton] at he;rcases he with he | rfl
   ·have:=hm.born e he;omega
   ·show c<c+1;omega
  ·simp only[Array.toList_push,List.map_append,List.map_cons,List.map_nil];rw[List.nodup_append];refine⟨hm.nodup,by simp,fun a bu gk CF=>?_⟩;obtain⟨e,he,rfl⟩:=List.mem_map.1 bu;simp only[List.mem_singleton] at CF
   have:=hm.born e he
   omega
 | some L1 =>
  obtain⟨j,v⟩:=L1;obtain⟨_,e,he,aG⟩:=JP hN;rw[Nat.sub_zero] at he;have TP:∀p,l[j]? = some p→p.1=x:=fun p aW=>by
   have:=U.at j
   rw[he,aW] at this;simp only[Option.map_some,Option.some.injEq,Prod.mk.injEq] at this;rw[this.1,HV] at aG;have aG:=Option.some.inj aG;simp only[decide_eq_true_eq] at aG;exact aG.symm
  have Aa:x∈L:=by
   have aI:=U.at j;rw[he] at aI;cases aW:l[j]? with
   | none=>rw[aW] at aI;cases aI
   | some p =>
    rw[←aJ x,←TP p aW];exact List.mem_map.2 ⟨p,List.mem_of_getElem? aW,rfl⟩
  have sq:w'.heap[b]? = some (.map (es.modify j fun e=>{ e with key:=.int .i64 x,val:=.int .i64 z }) c):=hw;refine⟨dA,_,_,sq,⟨⟨l.modify j fun p=>(p.1,.int .i64 z),?_,by rw[Sy];exact ah,fun y=>?_,?_,fun p aW=>?_⟩,?_,?_⟩⟩
  ·rw[Array.toList_modify];exact afq U TP
  ·rw[Sy,aJ y,List.mem_append,List.mem_singleton];exact⟨.inl,fun q=>q.elim id fun q=>q ▸ Aa⟩
  ·rw[List.length_modify,List.length_append];omega
  ·obtain⟨i,af,rfl⟩:=List.mem_iff_getElem.1 aW;rw[List.getElem_modify];split
   ·exact⟨z,rfl⟩
   ·exact bY _ (List.getElem_mem _)
  ·rw[Array.toList_modify];intro e' gx
   have:e'.born∈es.toList.map (·.born):=by rw[←Q6 (k:=.int .i64 x) (v:=.int .i64 z) es.toList j];exact List.mem_map.2 ⟨e',gx,rfl⟩
   obtain⟨ek,ao,gv⟩:=List.mem_map.1 this
   have:=hm.born ek ao
   omega
  ·rw[Array.toList_modify,Q6];exact hm.nodup
section
variable{P:Program}{gq:World→Prop}{aE:Value→Prop}{w:World}
theorem K.afM{b:Nat}{L:List Int}{x:Int}{t}(h:eW w b L)(hk:∀z,aE (.int .i64 z)):yH (.int .i64) (.int .i64 0) false (.map (some b)) (.int .i64 x) w aE t:=by
 obtain⟨es,r,z,h1,U,ah⟩:=h.look x;exact K.l6 h1 U (by rw[ah];exact hk z)
theorem K.af9{b:Nat}{L:List Int}{x z:Int}{t}(h:eW w b L)(av : -9223372036854775808≤x∧x≤9223372036854775807)(hk:∀aq,dz b w aq→eW aq b (L++[x])→gq aq):wA (.int .i64) (.map (some b)) (.int .i64 x) (.int .i64 z) w gq t:=by
 obtain⟨es,c,q,h1,U,ah⟩:=h.put x z av;exact K.iQ h1 U (hk _ (dz.e2 w b _) (ah _ (AV (cy h1))))
end
theorem wf_i64{x:Int}(h : -9223372036854775808≤x∧x≤9223372036854775807):(Lit.int .i64 x).wf=true:=by
 have h1:IntKind.i64.min = -9223372036854775808:=by decide
 have U:IntKind.i64.max=9223372036854775807:=by decide
 simp only[Lit.wf,h1,U,Bool.and_eq_true,decide_eq_true_eq];exact h
theorem eW.own{P:Program}{k:TypeId}{w:World}{b:Nat}{L:List Int}(hk:P.underlying k=some (.int .i64))(h:eW w b L)(dg:L.length≤maxLen) :
  ∃rI:DataW Unit,w.ownsMap P k (fun _=>some (.lit (.bool true),[])) b L.length rI∧Maps.size rI≤L.length∧∀b7:List Int,b7.Perm (intKeys rI)→b7.Nodup∧∀x,x∈b7↔x∈L:=by
 obtain⟨es,c,h1,hm⟩:=h.ex;obtain⟨l,U,ah,aJ,bk,bY⟩:=hm.xX;have hlen:es.toList.length=l.length:=U.len;have py:∀e∈es.toList,∃x,e.key = .int .i64 x∧WideElems.rd P k (fun _=>some ((.lit (.bool true):DataW Unit),[])) e=some (.int .i64 x,.lit (.bool true)):=fun e he=>by
  obtain⟨i,af,rfl⟩:=List.mem_iff_getElem.1 he;have je:=U.at i;rw[List.getElem?_eq_getElem af,List.getElem?_eq_getElem (by omega)] at je;simp only[Option.map_some,Option.some.injEq,Prod.mk.injEq] at je;refine⟨_,je.1,?_⟩;have hw:=wf_i64 (h.ok l[i].1 ((aJ _).1 (List.mem_map.2 ⟨l[i],List.getElem_mem _,rfl⟩)));unfold WideElems.rd;rw[je.1,Maps.keyOf_int_mk hk hw];rfl
 have vm:WideElems.Fit P k (fun _=>some ((.lit (.bool true):DataW Unit),[])) es c:=⟨by simp at hlen;omega,⟨hm.born,hm.nodup,by
  have:es.toList.map (·.key)=(l.map (·.1)).map (Value.int .i64):=by
   apply List.ext_getElem?;intro i;rw[List.getElem?_map,List.getElem?_map,List.getElem?_map]
   have:=U.at i
   cases he:es.toList[i]? with
   | none=>rw[he] at this;cases aW:l[i]? with
    | none=>rfl
    | some p=>rw[aW] at this;cases this
   | some q =>
    rw[he] at this;cases aW:l[i]? with
    | none=>rw[aW] at this;cases this
    | some p =>
     rw[aW] at this;simp only[Option.map_some,Option.some.injEq,Prod.mk.injEq] at this;simp only[Option.map_some,this.1]
  rw[this];exact List.pairwise_map.2 (ah.imp fun {a b} cH e=>cH (by injection e))⟩,fun x av=>let ⟨y,_,bS⟩:=py x av; ⟨_,bS⟩⟩
 refine⟨_,World.ownsMap.mono (World.ownsMap_of_fit h1 vm (fun _ _ _ q=>q)) (by simp at hlen;omega),?_,fun b7 aW=>?_⟩
 ·rw[Maps.size_eq,length_sorted];simp at hlen ⊢;omega
 ·have adS:(intKeys (.map ((es.toList.map (WideElems.rg P k (fun _=>some ((.lit (.bool true):DataW Unit),[])))).foldr DataW.insert []))).Perm (l.map (·.1)):=by
   refine((WideShapes.sorted_perm _).map _).trans ?_;rw[List.map_map]
   have:es.toList.map ((fun p:Lit×DataW Unit=>intOf p.1)∘WideElems.rg P k (fun _=>some ((.lit (.bool true):DataW Unit),[])))=l.map (·.1):=by
    apply List.ext_getElem?;intro i;rw[List.getElem?_map,List.getElem?_map];cases he:es.toList[i]? with
    | none =>
     have:=U.at i
     rw[he] at this;cases aW:l[i]? with
     | none=>rfl
     | some p=>rw[aW] at this;cases this
    | some e =>
     obtain⟨x,av,bS⟩:=py e (List.mem_of_getElem? he)
     have:=U.at i
     rw[he] at this;cases aW:l[i]? with
     | none=>rw[aW] at this;cases this
     | some p =>
      rw[aW] at this;simp only[Option.map_some,Option.some.injEq,Prod.mk.injEq] at this;rw[av] at this;have b2:x=p.1:=by have:=this.1;injection this
      simp only[Option.map_some,Function.comp,WideElems.rg_of bS,b2];rfl
   rw[this]
  have zX:=aW.trans adS;exact⟨zX.nodup_iff.2 ah,fun x=>by rw[zX.mem_iff];exact aJ x⟩
theorem aiU{b7:List Int}(h:b7.Nodup):(b7.mergeSort fun x y=>decide (x≤y)).Pairwise (· < ·):=by
 have ajp:∀a b c:Int,decide (a≤b)=true→decide (b≤c)=true→decide (a≤c)=true:=fun a b c h1 U=>by simp only[decide_eq_true_eq] at *;omega
 have to:∀a b:Int,(decide (a≤b)||decide (b≤a))=true:=fun a b=>by simp only[Bool.or_eq_true,decide_eq_true_eq];omega
 have h1:=List.pairwise_mergeSort ajp to b7;have U:(b7.mergeSort fun x y=>decide (x≤y)).Nodup:=(List.mergeSort_perm b7 _).nodup_iff.2 h;refine(h1.and U).imp fun {a b} q=>?_;simp only[decide_eq_true_eq] at q;omega
end bt
end
section
namespace o
open Go
theorem VZ{p:dt}{s:Scope}(h:(gY p s).2.2=0):whole p s=0∧(kt p s).2=0∧(kC (inner p s) p.cW p.cE p.cE 0).2.2=0:=by
 unfold gY at h;by_cases h1:whole p s≠0
 ·rw[if_pos h1] at h;exact absurd h h1
 rw[if_neg h1] at h;by_cases U:(kt p s).2≠0
 ·rw[if_pos U] at h;exact absurd h U
 rw[if_neg U] at h;exact⟨by simpa using h1,by simpa using U,h⟩
theorem Jn{own:Scope}{cW:Int}{all:List dL}:∀(l:List dL) (i:Nat),(kC own cW all l i).2.2=0→∀k (h:k<l.length),(iJ l[k] cW own).2=0∧(all.take (i+k)).any (fun x=>decide (x.name=l[k].name))=false
 | [],_,_,k,h=>by simp at h
 | c :: r,i,ga,k,h=>by
  simp only[kC] at ga;by_cases h1:(iJ c cW own).2≠0
  ·rw[if_pos h1] at ga;exact absurd ga h1
  rw[if_neg h1] at ga;by_cases U:(all.take i).any (fun x=>decide (x.name=c.name))=true
  ·rw[if_pos U] at ga;cases ga
  rw[if_neg U] at ga;cases k with
  | zero=>exact⟨by simpa using h1,by simpa using U⟩
  | succ k =>
   have:=Jn r (i+1) ga k (by simpa using h)
   simpa[Nat.add_assoc,Nat.add_comm 1 k] using this
end o
end