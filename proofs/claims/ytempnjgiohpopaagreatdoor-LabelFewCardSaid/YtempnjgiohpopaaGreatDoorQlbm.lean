/- Texts joined: LayD LayE LayF LayG ReaQ LiteO LayH LayI LayJ StaA StaB LayK LayL LayM StaC. -/
import Derived.Test.YtempnjgiohpopaaGreatDoorQlbd
import Derived.Test.YtempnjgiohpopaaGreatDoorQlbe
import Derived.Test.YtempnjgiohpopaaGreatDoorQlbi
import Derived.Test.YtempnjgiohpopaaGreatDoorQlbk
import Derived.Test.YtempnjgiohpopaaGreatDoorQlbl
import Derived.Laws.Pointers
set_option linter.all false
set_option maxRecDepth 8000
set_option maxHeartbeats 16000000
section
namespace Go.Proofs.R
open Go Go.RowKit bn
section
variable{ar:World}{b9 bs:Nat}{s:o.fR}{W dV:World}
theorem adM{vs:Nat→gv}{u:gv}{pA lk pB:World}{y:o.Cell}{b7:Value}(de:b9≠bs)(hm:Mod (fun k=>k=b9∨k=bs) ar W)(g1:W.heap[b9]? = some (.cells #[ck (vs 0),ck (vs 1),ck (vs 2),.int .i64 s.n,ck (vs 3),ck (vs 4)] T.g))(g2:hn eb T.a 1 ar.heap.size W 5 vs s.rows)
  (g3:W.heap[bs]? = some (.cells #[ck u] T.ac))(g4:br o.Cell.slot T.u 4 ar.heap.size W (ck u) s.Z)(he:Ext W pA)(aX:pA.grownBy lk (ck u).ownBlock)(a1:br o.Cell.slot T.u 4 ar.heap.size lk b7 (s.Z++[y]))
  (hw:dT bs lk pB)(ay:pB.heap[bs]? = some (.cells #[b7] T.ac)):iX ar b9 bs ⟨s.V,s.C,s.ey,s.n,s.L,s.H,s.Z++[y]⟩ pB∧dZ p5 W pB∧iW b9 W pB:=by
 obtain⟨bf,cap,rfl,_⟩:=a1.form;have tQ:Mod (fun k=>(ck u).ownBlock=some k) pA lk:=Mod.grown aX fun k hk=>hk;have jS:∀{k:Nat} {c:Array Value} {t:TypeId},W.heap[k]? = some (.cells c t)→t≠T.u→¬(ck u).ownBlock=some k:=fun {k c t} hk aG e=>by
  obtain⟨cur,h⟩:=g4.aR k e;rw[hk] at h;injection h with h;injection h with _ h;exact aG h
 have m6:∀{k:Nat} {c:Array Value} {t:TypeId},W.heap[k]? = some (.cells c t)→t≠T.u→lk.heap[k]? = some (.cells c t):=fun hk aG=>tQ.obj (jS hk aG) (he.obj hk);have p9:Mod (fun k=>k=bs) lk pB:=hw.mod rfl;refine⟨⟨?_,vs,(bf,_,cap),p9.obj de (m6 g1 (by decide)),?_,ay,a1.mod p9 fun k hk e=>?_⟩,?_,iW.of g1 (p9.obj de (m6 g1 (by decide)))⟩
 ·have h1:Mod (fun k=>k=b9∨k=bs) ar pA:=hm.comp (A':=fun _=>False) he.mod (fun _ _ a=>a) fun _ _ a=>a.elim;have U:Mod (fun k=>k=b9∨k=bs) ar lk:=h1.comp tQ (fun _ _ a=>a) fun i ad a=>by have:=(g4.lt i a).1;omega
  exact U.trans (hw.mod (.inr rfl))
 ·refine((g2.ext he).mod tQ fun i k ad hk e=>?_).mod p9 fun i k ad hk e=>?_
  ·obtain⟨cur,h⟩:=(g2.own i ad).aR k hk;exact jS h (by decide) e
  ·subst e;obtain⟨cur,h⟩:=(g2.own i ad).aR k hk;rw[g3] at h;injection h with h;injection h with _ h;exact absurd h (by decide)
 ·subst e;obtain⟨cur,h⟩:=a1.aR k hk;rw[m6 g3 (by decide)] at h;injection h with h;injection h with _ h;exact absurd h (by decide)
 ·refine((dZ.ext he).trans (dZ.mod tQ fun k c t ay a=>?_)).trans (dZ.wr hw (m6 g3 (by decide)) (by decide));obtain⟨cur,h⟩:=(g4.ext he).aR k a;rw[ay] at h;injection h with h;injection h with _ h;rw[h];decide
theorem Vn{vs:Nat→gv}{u:gv}{n:Int}(de:b9≠bs)(hm:Mod (fun k=>k=b9∨k=bs) ar W)(g1:W.heap[b9]? = some (.cells #[ck (vs 0),ck (vs 1),ck (vs 2),.int .i64 s.n,ck (vs 3),ck (vs 4)] T.g))(g2:hn eb T.a 1 ar.heap.size W 5 vs s.rows)
  (g3:W.heap[bs]? = some (.cells #[ck u] T.ac))(g4:br o.Cell.slot T.u 4 ar.heap.size W (ck u) s.Z)(hw:dT b9 W dV)(aM:n=((s.n+1:Nat):Int))
  (ay:dV.heap[b9]? = some (.cells #[ck (vs 0),ck (vs 1),ck (vs 2),.int .i64 n,ck (vs 3),ck (vs 4)] T.g)):iX ar b9 bs ⟨s.V,s.C,s.ey,s.n+1,s.L,s.H,s.Z⟩ dV∧dZ p5 W dV∧iW b9 W dV:=by
 subst aM;have p9:Mod (fun k=>k=b9) W dV:=hw.mod rfl;refine⟨⟨hm.trans (hw.mod (.inl rfl)),vs,u,ay,g2.mod p9 fun i k ad hk e=>?_,p9.obj (Ne.symm de) g3,g4.mod p9 fun k hk e=>?_⟩,dZ.wr hw g1 (by decide),iW.of g1 ay⟩
 ·subst e;exact g2.not g1 (by decide) i ad hk
 ·subst e;obtain⟨cur,h⟩:=g4.aR k hk;rw[g1] at h;injection h with h;injection h with _ h;exact absurd h (by decide)
end
theorem aak(so hi:Int)(v:Value)(l:List o.dg)(nd mY nb:List Int)(cs:List o.Cell)(base:Nat)(ar:World)(b9 bs:Nat)(w:World)(de:b9≠bs)(ky:b9<ar.heap.size∧bs<ar.heap.size)(aw:iX ar b9 bs (o.fR.of nd mY nb cs) w)(aS:br o.dg.enc T.k 3 base w v l)
  (hm:cs.length+l.length≤100000) :
  bw Tryz.prog F.lT #[.int .i64 so,.int .i64 hi,v,.pointer (some ⟨b9,0,none⟩),.pointer (some ⟨bs,0,none⟩)] w fun v w'=>v = .int .i64 cs.length∧iX ar b9 bs (o.fR.of nd mY nb (cs++o.eP so hi l 0)) w'∧dZ p5 w w'∧iW b9 w w':=by
 obtain⟨bf,cap,rfl,_⟩:=aS.form;obtain⟨aeP,JT,g1,g2,g3,g4⟩:=aw.ex;refine bO E.lT ?_;refine bH ?_;refine aa ?_;refine K.cV 16 l.length [0,1,2,3,4,9,14,15] (fun _:Unit=>[]) () (fun k _ w'=>iX ar b9 bs (o.fR.of nd mY nb (cs++o.eP so hi (l.take k) 0)) w'∧dZ p5 w w'∧iW b9 w w') bp bp ⟨by simpa[o.eP] using aw,dZ.refl,iW.refl⟩ ?_;clear g1 g2 g3 g4 aw;rintro k _ S aW hk ⟨aw,lD,kQ⟩;have kc:bE 3 (Flat o.dg.enc) aW (.slice bf l.length cap) l:=br.lI (enc:=o.dg.enc) (fun _=>rfl) (aS.ij lD (by decide));refine aa ?_;apply K.cond<;>intro g1
 ·have bd:k<l.length:=by omega
  obtain⟨a,rfl⟩:=kc.addr (by omega);have G1:(o.eP so hi (l.take k) 0).length=k:=by rw[o.qU,List.length_take];omega
  have rY:=o.sX l[k];refine eD ?_;simp -dsimp only[bQ];refine eD ?_;simp -dsimp only[bQ];refine eD ?_;intro wn cE gh hX hs;refine eD ?_;intro bh gP bA;have av:=gP.ext hX gh;have p0:=aw.ext av;clear gP hX hs;refine eD ?_;refine K.hU [0,1,2,3,4,9,10,11,14,15,16] (fun _:Unit=>[]) (fun _ w'=>iX ar b9 bs ⟨nd,mY,nb,(cs++o.eP so hi (l.take k) 0).length,(cs++o.eP so hi (l.take k) 0).map (·.bk)++[l[k].bk],(cs++o.eP so hi (l.take k) 0).map (·.ad)++[l[k].ad],cs++o.eP so hi (l.take k) 0⟩ w'∧dZ p5 bh w'∧iW b9 bh w') ?_ ?_
  ·refine aa ?_;intro bj aH;refine K.wide (TS de ky (p0.ext aH) (by simp[ca]) (by simp[ca]) (aH.obj bA) (by simp[o.fR.of,G1];omega) (by simp[o.fR.of,G1];omega) fun a6 w' h k bx=>?_);refine aa ?_;exact⟨(),trivial,h,(dZ.ext aH).trans k,(iW.ext aH (by have:=p0.mod.size;omega)).trans bx⟩
  have X7:iW b9 aW bh:=iW.ext av (by have:=aw.mod.size;omega);clear p0;rintro _ S bj ⟨mM,QD,Hh⟩;obtain⟨vs,⟨JT,SY,B4⟩,g1,g2,g3,g4⟩:=mM.ex;have b0:=QD.aR _ _ _ bA (by decide);refine aa ?_;intro bF jl nj a8 cK;replace cK:bF.heap[jl]? = some (.cells (o.Cell.slot ⟨so,hi,k,l[k].bk,l[k].ad,l[k].kind⟩).toArray T.u):=cK;have ee:=g4.ext a8;have fx:=mM.mod.size;have z2:=a8.size;have aN:(cs++o.eP so hi (l.take k) 0).length=cs.length+k:=by rw[List.length_append,G1]
  refine K.kq (y:=⟨so,hi,k,l[k].bk,l[k].ad,l[k].kind⟩) ee cK rfl (fun _=>rfl) o.adN (by simp only[aN];omega) (by unfold maxLen;simp only[aN];omega) (by omega) fun bf n c bV dH j8=>?_;have gi:=ee.box j8 (a8.obj g3) (by decide);refine aa ?_;intro cc ec er;obtain⟨ih,qT,X8⟩:=adM de mM.mod g1 g2 g3 g4 a8 j8 dH ec er;dsimp only at ih;obtain⟨qg,iU,dS,dP,dD,gT⟩:=ih.ex;clear g1 g2 g3 g4 mM ee dH j8 gi er cK;have aci:=dS;dsimp only[ck] at dS;refine aa ?_;intro dq kd fp;obtain⟨vp,aaa,X9⟩:=Vn de ih.mod aci dP dD gT kd (by dsimp only;omega) fp;refine aa ?_;refine⟨bd,bq,(),trivial,?_,((((lD.trans (dZ.ext av)).trans QD).trans qT).trans aaa),((((kQ.trans X7).trans Hh).trans X8).trans X9)⟩;rw[o.aal bd,←List.append_assoc];have e:o.fR.of nd mY nb ((cs++o.eP so hi (l.take k) 0)++[⟨so,hi,k,l[k].bk,l[k].ad,l[k].kind⟩])=⟨nd,mY,nb,(cs++o.eP so hi (l.take k) 0).length+1,(cs++o.eP so hi (l.take k) 0).map (·.bk)++[l[k].bk],(cs++o.eP so hi (l.take k) 0).map (·.ad)++[l[k].ad],cs++o.eP so hi (l.take k) 0++[⟨so,hi,k,l[k].bk,l[k].ad,l[k].kind⟩]⟩:=by
   simp[o.fR.of,List.map_append,Nat.add_assoc]
  rw[e];exact vp
 ·refine aa ?_;rw[List.take_of_length_le (by omega)] at aw;exact⟨bq,aw,lD,kQ⟩
end Go.Proofs.R
end
section
namespace bn
open Go Go.RowKit
section
variable{P:Program}{C:World→Prop}{S:Fr}{w:World}{K:Fr→World→Prop}
theorem dI.ox{d m:Nat}{r:eC}{v:Value}(aD:S m=v)(h:dI P C r (b8 S d v) w K):dI P C (.take ⟨some d,none,.p (.ox (.tmp m))⟩ r) S w K:=by subst aD;exact h
theorem j2.c{i:nG}{d:Nat}{k:Fr→World→Prop}(h:pn P i S w fun v w'=>C w'∧k (put S (some d) v) w'):j2 P C ⟨some d,none,.c i⟩ S w k:=h
end
end bn
namespace o
def fR.add(s:fR)(off:Nat)(y:Int):fR:=if off=0 then { s with V:=s.V++[y] } else if off=1 then { s with C:=s.C++[y] } else { s with ey:=s.ey++[y] }
end o
namespace Go.Proofs.R
open Go Go.RowKit bn
def Np(n x y off:Nat)(so:Int):eC :=
 (.take (ah n off 4) (.take (ae (n+1) n) (.take (I (n+2) 6) (.take (I (n+3) x) (.take (I (n+4) y)
 (.alt (dL (n+5) (.val (ab (n+2)) [(af so),(ab (n+3)),(ab (n+4))]))
 (.alt (aB (n+6) (.cU T.a 1 1 [(.int .i64 0)] [(0,(ab (n+5)))]))
 (.cg (aB (n+7) (.app T.b T.a 1 8 (ab (n+1)) (ab (n+6))))
 (.take (ah (n+8) off 4) (.cg (ys (n+8) (n+7)) .done .nil)) .nil) .nil) .nil))))))
theorem F9{ar w:World}{b9 bs n x y off base:Nat}{so hi:Int}{mU:Value}{l:List o.dg}{nd mY nb:List Int}{cs:List o.Cell}{S:Fr}{cI:Fr→World→Prop}(HP:off<3)(aM:20≤n)(aD:x<20)(cS:y<20)
  (de:b9≠bs)(ky:b9<ar.heap.size∧bs<ar.heap.size)(aL:S 4 = .pointer (some ⟨b9,0,none⟩))(bM:S 6 = .func (.func F.lT) #[] #[.pointer (some ⟨b9,0,none⟩),.pointer (some ⟨bs,0,none⟩)])(tD:S x = .int .i64 hi)(ZK:S y=mU)
  (aw:iX ar b9 bs (o.fR.of nd mY nb cs) w)(aS:br o.dg.enc T.k 3 base w mU l)(hm:cs.length+l.length≤100000)(ba:nd.length≤100000∧mY.length≤100000∧nb.length≤100000)
  (hk:∀a6 w',(∀t,t<n∨n+8<t→a6 t=S t)→iX ar b9 bs ((o.fR.of nd mY nb (cs++o.eP so hi l 0)).add off cs.length) w'→dZ p5 w w'→cI a6 w'):∃C:World→Prop,C w∧dI Tryz.prog C (Np n x y off so) S w cI:=by
 obtain⟨vs,u,g1,g2,g3,g4⟩:=aw.ex;have bR:w.cell? (Addr.add ⟨b9,0,none⟩ off)=some (ck (vs off)):=by
  have:off=0∨off=1∨off=2:=by omega
  rcases this with rfl | rfl | rfl<;>exact eZ g1 rfl
 refine⟨fun w'=>w'.cell? (Addr.add ⟨b9,0,none⟩ off)=some (ck (vs off)),bR,?_⟩;unfold Np;refine dI.jq aL ?_;refine dI.ld (v:=ck (vs off)) (by simp[ca]) (fun w' m=>m) ?_;refine dI.ox (ki (ki bM (by omega)) (by omega)) ?_;refine dI.ox (ki (ki (ki tD (by omega)) (by omega)) (by omega)) ?_;refine dI.ox (ki (ki (ki (ki ZK (by omega)) (by omega)) (by omega)) (by omega)) ?_;generalize lq:b8 _ (n+4) _=nP;have Wz:∀t,t<n∨n+8<t→nP t=S t:=by
  subst lq;intro t aG;simp only[ca];rw[if_neg (by omega),if_neg (by omega),if_neg (by omega),if_neg (by omega),if_neg (by omega)]
 have b5:nP 4 = .pointer (some ⟨b9,0,none⟩):=by subst lq;exact ki (ki (ki (ki (ki aL (by omega)) (by omega)) (by omega)) (by omega)) (by omega)
 have f1:nP (n+1)=ck (vs off):=by subst lq;simp[ca]
 have f2:nP (n+2) = .func (.func F.lT) #[] #[.pointer (some ⟨b9,0,none⟩),.pointer (some ⟨bs,0,none⟩)]:=by subst lq;simp[ca]
 have f3:nP (n+3) = .int .i64 hi:=by subst lq;simp[ca]
 have f4:nP (n+4)=mU:=by subst lq;simp[ca]
 refine dI.wH (j2.c ?_);show wj _ (nP (n+2)) [.int .i64 so,nP (n+3),nP (n+4)] w _;rw[f2,f3,f4];refine F8 (first:=[]) (cap:=[.pointer (some ⟨b9,0,none⟩),.pointer (some ⟨bs,0,none⟩)]) (by kernel_rfl) (aak so hi mU l nd mY nb cs base ar b9 bs w de ky aw aS hm) ?_;rintro _ aW ⟨rfl,jt,lD,kQ⟩;refine⟨(kQ off HP).trans bR,?_⟩;refine dI.wH (j2.e ?_);have he:Ext aW (aW.alloc (.cells #[.int .i64 cs.length] T.a)):=(Ext.refl aW).alloc _;rw[VL];refine y9 (cs:=[.int .i64 cs.length]) (GM (by simp[hc,ca])) ?_;refine⟨he.cell ((kQ off HP).trans bR),?_⟩;have bA:=heap_alloc_new aW (.cells #[.int .i64 cs.length] T.a);have bN:=he.cell ((kQ off HP).trans bR);have p0:=jt.ext he;have QC:dZ p5 w (aW.alloc (.cells #[.int .i64 cs.length] T.a)):=lD.trans (dZ.ext he);show dI _ _ _ _ (aW.alloc (.cells #[.int .i64 cs.length] T.a)) _;generalize aW.alloc (.cells #[.int .i64 cs.length] T.a)=bh at bA bN p0 QC;clear he g1 g2 g3 g4;obtain⟨qg,iU,g1,g2,g3,g4⟩:=p0.ex;have V4:ck (vs off)=ck (qg off):=by
  have:off=0∨off=1∨off=2:=by omega
  rcases this with rfl | rfl | rfl
  ·rw[eZ g1 (v:=ck (qg 0)) rfl] at bN;exact(Option.some.inj bN).symm
  ·rw[eZ g1 (v:=ck (qg 1)) rfl] at bN;exact(Option.some.inj bN).symm
  ·rw[eZ g1 (v:=ck (qg 2)) rfl] at bN;exact(Option.some.inj bN).symm
 refine dI.uZ (mB.e ?_);rw[VK];unfold ab;rw[eS,eS];rw[show ∀a b,put (put nP (some (n+5)) a) (some (n+6)) b (n+1)=ck (qg off) from fun a b=>by rw[hc,hc,←V4];exact ki (ki f1 (by omega)) (by omega),
  show ∀a b,put (put nP (some (n+5)) a) (some (n+6)) b (n+6)=b from fun a b=>by rw[hc,hc,ca,if_pos rfl]]
 have fx:=p0.mod.size;have hlen:((o.fR.of nd mY nb (cs++o.eP so hi l 0)).rows off).length≤100000:=by
  have:off=0∨off=1∨off=2:=by omega
  rcases this with rfl | rfl | rfl
  ·exact ba.1
  ·exact ba.2.1
  ·exact ba.2.2
 refine hn.app (y:=(cs.length:Int)) off (by omega) g2 (fun _=>rfl) (gM bA) lV (by omega) (by unfold maxLen;omega) (by omega) fun b7 bj gz DK _=>?_;have m4:Mod (fun k=>(ck (qg off)).ownBlock=some k) bh bj:=Mod.grown DK fun k hk=>hk;have jS:∀{k:Nat} {c:Array Value} {t:TypeId},bh.heap[k]? = some (.cells c t)→t≠T.a→bj.heap[k]? = some (.cells c t):=fun hk aG=>m4.obj (g2.not hk aG off (by omega)) hk;refine dI.jq (a:=⟨b9,0,none⟩) (by rw[hc,hc,hc];exact ki (ki (ki b5 (by omega)) (by omega)) (by omega)) ?_;refine dI.uZ ?_;show uD (b8 _ (n+8) _ (n+8)) (b8 (put _ (some (n+7)) _) (n+8) _ (n+7)) bj _;rw[show ∀(S:Fr) v,b8 S (n+8) v (n+8)=v from fun S v=>by rw[ca,if_pos rfl],show ∀(S:Fr) a b,b8 (put S (some (n+7)) a) (n+8) b (n+7)=a from fun S a b=>by rw[hc,ca,if_neg (by omega),ca,if_pos rfl]];have eu:=jS g1 (by decide);refine JC fun iT=>K.st1 eu (by simp;omega) rfl fun bF eU cK=>?_;have p9:Mod (fun k=>k=b9) bj bF:=eU.mod rfl;refine hk _ _ (fun t aG=>?_) ⟨?_,dc qg off b7,iU,?_,(gz.mod p9 fun i k ad aJ e=>?_).congr (fun _ _=>rfl) (fun i ad=>?_),?_,?_⟩ ?_
 ·simp only[hc,RD,ca];rw[if_neg (by omega),if_neg (by omega),if_neg (by omega),if_neg (by omega)];exact Wz t aG
 ·refine(p0.mod.comp m4 (B:=fun k=>k=b9∨k=bs) (fun _ _ a=>a) fun i ad a=>?_).trans (eU.mod (A:=fun k=>k=b9∨k=bs) (.inl rfl))
  have:=(g2.lt off i (by omega) a).1;omega
 ·rw[cK]
  have:off=0∨off=1∨off=2:=by omega
  rcases this with rfl | rfl | rfl<;>rfl
 ·subst e;exact gz.not eu (by decide) i ad aJ
 ·have a:off=0∨off=1∨off=2:=by omega
  have b:i=0∨i=1∨i=2∨i=3∨i=4:=by omega
  rcases a with rfl | rfl | rfl<;>rcases b with rfl | rfl | rfl | rfl | rfl<;>rfl
 ·exact eU.obj (jS g3 (by decide)) (Ne.symm de)
 ·have Wp:((o.fR.of nd mY nb (cs++o.eP so hi l 0)).add off cs.length).Z=(o.fR.of nd mY nb (cs++o.eP so hi l 0)).Z:=by unfold o.fR.add; (repeat' split)<;>rfl
  rw[Wp];refine(g4.mod m4 fun k hk h=>?_).mod p9 fun k hk e=>?_
  ·obtain⟨cur,gj⟩:=g4.aR k hk;exact g2.not gj (by decide) off (by omega) h
  ·obtain⟨cur,gj⟩:=g4.aR k hk;subst e;rw[g1] at gj;injection gj with gj;injection gj with _ e;exact absurd e (by decide)
 ·refine(QC.trans (dZ.mod m4 fun k c im ay a=>?_)).trans (dZ.wr eU eu (by decide));obtain⟨cur,gj⟩:=(g2.own off (by omega)).aR k a;rw[ay] at gj;injection gj with gj;injection gj with _ e;rw[e];decide
end Go.Proofs.R
end
section
namespace bn
open Go Go.RowKit
theorem br.F1{α:Type}{enc:α→List Value}{e:TypeId}{sz base b n:Nat}{w:World}{cs:List Value}(xs:List α)(h:w.heap[b]? = some (.cells cs.toArray e))(aA:base≤b)(fq:cs=xs.flatMap enc)(c5:∀x,(enc x).length=sz)(aM:n=xs.length)(hm:xs.length≤maxLen):br enc e sz base w (.slice (some ⟨b,0,none⟩) n n) xs:=by
 subst aM;have aN:cs.length=xs.length*sz:=by rw[fq,uY c5]
 exact⟨by rw[uY c5],.inr ⟨b,xs.length,cs.toArray,rfl,aA,h,Nat.le_refl _,hm,by simpa using aN,by simp only;rw[←aN,List.take_length,fq]⟩⟩
theorem K.T1{P:Program}{cI:Value→World→Prop}{α:Type}{enc:α→List Value}{e:TypeId}{sz base:Nat}{w:World}{v:Value}{xs:List α}{ty:TypeId}{fI b:Nat}{y:α}{cs:List Value}{t}(aw:br enc e sz base w v xs)(ay:w.heap[b]? = some (.cells cs.toArray e))(fq:cs=enc y)(c5:∀x,(enc x).length=sz)(h1:∀y,∀u∈enc y,u.oneCell'=true)
  (aA:(xs.length+1)*fI≤140737488355328)(ja:xs.length+1≤maxLen)(ix:base≤w.heap.size)
  (hk:∀bf n c w',br enc e sz base w' (.slice bf n c) (xs++[y])→w.grownBy w' v.ownBlock→((Value.slice bf n c).ownBlock=v.ownBlock∨(Value.slice bf n c).ownBlock=some w.heap.size)→cI (.slice bf n c) w'):jZ P ty e sz fI v (.slice (some ⟨b,0,none⟩) 1 1) w cI t:=by
 refine K.uI (ys:=[y]) aw c5 (by subst fq;simpa using gM ay) rfl h1 aA ja ix fun b7 w' a1 aX lu=>?_;obtain⟨bf,cap,rfl,_⟩:=a1.form;exact hk _ _ _ _ a1 aX lu
end bn
namespace o
open Go Go.RowKit bn
structure h6(w:World)(cs:List Value)(x:sL):Prop where
 ex:∃v0 v1 v2 v3 v4,cs=[v0,v1,v2,.int .i64 x.cells,v3,v4]∧bE 1 (Flat eb) w v0 x.vars∧bE 1 (Flat eb) w v1 x.aK∧bE 1 (Flat eb) w v2 x.insts∧bE 1 (Flat eb) w v3 x.bk∧bE 1 (Flat eb) w v4 x.ad
theorem h6.ext{w w':World}{cs:List Value}{x:sL}(he:Ext w w')(h:h6 w cs x):h6 w' cs x :=
 let ⟨v0,v1,v2,v3,v4,e,ak,h1,U,ai,aL⟩:=h.ex
 ⟨v0,v1,v2,v3,v4,e,ak.ext Flat.ext he,h1.ext Flat.ext he,U.ext Flat.ext he,ai.ext Flat.ext he,aL.ext Flat.ext he⟩
theorem h6.form{w:World}{cs:List Value}{x:sL}(h:h6 w cs x):∃cG bR cu c1 cA c2 cw bN cP bX,cs=[.slice cG x.vars.length bR,.slice cu x.aK.length c1,.slice cA x.insts.length c2,.int .i64 x.cells,.slice cw x.bk.length bN,.slice cP x.ad.length bX] ∧
  bE 1 (Flat eb) w (.slice cG x.vars.length bR) x.vars∧bE 1 (Flat eb) w (.slice cu x.aK.length c1) x.aK∧bE 1 (Flat eb) w (.slice cA x.insts.length c2) x.insts∧bE 1 (Flat eb) w (.slice cw x.bk.length bN) x.bk∧bE 1 (Flat eb) w (.slice cP x.ad.length bX) x.ad:=by
 obtain⟨v0,v1,v2,v3,v4,rfl,ak,h1,U,ai,aL⟩:=h.ex;obtain⟨cG,bR,rfl,_⟩:=ak.form;obtain⟨cu,c1,rfl,_⟩:=h1.form;obtain⟨cA,c2,rfl,_⟩:=U.form;obtain⟨cw,bN,rfl,_⟩:=ai.form;obtain⟨cP,bX,rfl,_⟩:=aL.form;exact⟨cG,bR,cu,c1,cA,c2,cw,bN,cP,bX,rfl,ak,h1,U,ai,aL⟩
theorem E7{v:Var}{s:List Scalar}(h:yZ v s)(aw:s.length≤2):0≤v.scalar∧v.scalar≤2:=by
 rcases h.sc with e | e
 ·omega
 ·unfold size at e;split at e
  ·rename_i x aD
   have:=(List.getElem?_eq_some_iff.1 aD).1
   split at e<;>omega
  ·exact absurd rfl e
theorem Nt{v:dh}{s:List Scalar}(h:yG v s)(aw:s.length≤2):0≤v.scalar∧v.scalar≤2:=by
 rcases h.sc with e | e
 ·omega
 ·unfold size at e;split at e
  ·rename_i x aD
   have:=(List.getElem?_eq_some_iff.1 aD).1
   split at e<;>omega
  ·exact absurd rfl e
theorem E3(m:Model)(h:gF m)(k:Nat):total ((cT m).take k)≤64:=by
 have h1:=Eh h;have U:=h.cells;have ai:=AK m;have e:total (cT m)=total ((cT m).take k)+total ((cT m).drop k):=by rw[←B1,List.take_append_drop]
 omega
theorem JR(m:Model)(h:gF m)(k:Nat):total (cT m)+total ((dN m).take k)≤64:=by
 have h1:=Eh h;have U:=h.cells;have ai:=AK m;have e:total (dN m)=total ((dN m).take k)+total ((dN m).drop k):=by rw[←B1,List.take_append_drop]
 omega
theorem SQ(m:Model)(h:gF m)(k:Nat):total (cT m)+total (dN m)+total ((eB m).take k)≤64:=by
 have h1:=Eh h;have U:=h.cells;have ai:=AK m;have e:total (eB m)=total ((eB m).take k)+total ((eB m).drop k):=by rw[←B1,List.take_append_drop]
 omega
end o
namespace Go.Proofs.R
open Go Go.RowKit bn
theorem aau(cs:List Value)(m:o.Model)(w:World)(h:o.eh w cs m)(aX:m.cM)(bP:o.gF m) :
  bw Tryz.prog F.ry #[.agg cs.toArray] w fun v w'=>(∃xs u,v = .tuple #[.agg xs.toArray,u]∧ea w (fun w=>o.h6 w xs (o.layout m)) w'∧ea w (fun w=>bE 4 (Flat o.Cell.slot) w u (o.b4 m)) w')∧Ext w w':=by
 obtain⟨cG,bR,cu,c1,cA,c2,cw,bN,cP,bX,rfl,ak,h1,U,ai,aL,et,dY,eg,dK,ed⟩:=h.form;have hp:=bP.hp;refine bO E.ry ?_;refine bH ?_;refine aa ?_;intro S6 bz cN tp al;have dS:=cL al;refine aa ?_;intro aeS ch en tr aO;have dP:=cL aO;replace al:=tr.obj al;refine aa ?_;intro wc b9 Dv qH mE;have ahf:=cL mE;replace al:=qH.obj al;replace aO:=qH.obj aO;refine aa ?_;intro ar bs xj rS fq;have ahe:=cL fq;replace al:=rS.obj al;replace aO:=rS.obj aO;replace mE:=rS.obj mE;have mW:=tp.size;have mX:=tr.size;have B8:=qH.size;have yA:=rS.size;have bS:=((tp.trans tr).trans qH).trans rS;clear tp tr qH rS;have de:b9≠bs:=by omega
 have ky:b9<ar.heap.size∧bs<ar.heap.size:=⟨by omega,by omega⟩;have gJ:iX ar b9 bs (o.fR.of [] [] [] []) ar:=⟨Mod.refl _ _,fun _=>(none,0,0),(none,0,0),mE,⟨fun i ad=>by
   have e:(o.fR.of [] [] [] []).rows i=[]:=by unfold o.fR.rows; (repeat' split)<;>rfl
   rw[e];exact br.nil _ _ _ _ _,fun i j k _ _ _ e=>by cases e⟩,fq,br.nil _ _ _ _ _⟩
 have o3:∀{s W},iX ar b9 bs s W→W.heap[bz]? = ar.heap[bz]? := fun h=>h.mod.block _ (by omega) (by omega);have hZ:∀{s W},iX ar b9 bs s W→W.heap[ch]? = ar.heap[ch]? := fun h=>h.mod.block _ (by omega) (by omega);have gO:∀{s W},iX ar b9 bs s W→Ext w W:=fun h=>h.mod.ext bS fun i ad e=>by omega
 rw[al] at o3;rw[aO] at hZ;refine aa ?_;refine K.cV 24 m.vars.length [1,2,4,5,6,22,23] (fun _:Unit=>[]) () (fun k _ W=>iX ar b9 bs (o.fR.of (o.gD 0 ((o.cT m).take k)) [] [] (o.cellsOf 1 ((o.cT m).take k) 0)) W) bp bp (by simpa[o.gD,o.cellsOf] using gJ) ?_;clear gJ mE fq al aO;rintro k _ S aW hk aw;have al:=o3 aw;have cQ:=gO aw;refine aa ?_;apply K.cond<;>intro g1
 ·have bd:k<m.vars.length:=by omega
  obtain⟨a,rfl⟩:=h1.addr (by omega);have ev:=((h1.at k bd).cells).ext cQ;have c4:=bP.var _ (List.getElem_mem bd);have kb:=o.E7 c4 hp.1;refine aa ?_;intro wn CO xi hX hs;refine aa ?_;intro bh gP bA;have av:Ext aW bh:=gP.ext hX xi;replace bA:bh.heap[CO]? = some (.cells m.vars[k].enc.toArray T.h):=bA;replace al:=av.obj al;clear gP hX hs ev;have eG:=cQ.trans av;refine aa ?_;refine K.call (CV m.vars[k] _ m.scalars bh (ak.ext eG)) ?_;rintro _ bj ⟨rfl,aH⟩;have fK:=o.s4 m.vars[k] m.scalars;have ej:=eG.trans aH;have oW:=aH.obj al;have XN:=aH.obj bA;refine aa ?_;refine K.cV 33 (o.cells m.vars[k] m.scalars).toNat [1,2,4,5,6,7,8,22,23,24,32] (fun v:gv=>[(9,.slice v.1 v.2.1 v.2.2)]) (none,0,0) (fun j v W=>Ext bj W∧br o.dg.enc T.k 3 bj.heap.size W (.slice v.1 v.2.1 v.2.2) (List.replicate j (o.fy m.vars[k].scalar m.vars[k].bk m.vars[k].ad m.scalars))) bp bp ⟨Ext.refl _,br.nil _ _ _ _ _⟩ ?_;clear al bA;rintro j v S bF aP ⟨a8,ee⟩;have al:=a8.obj oW;have bA:=a8.obj XN;refine aa ?_;apply K.cond<;>intro g2
  ·have eH:j<(o.cells m.vars[k] m.scalars).toNat:=by omega
   refine aa ?_;refine K.call (IJ m.vars[k] _ m.scalars bF (ak.ext (ej.trans a8)) (by unfold o.df;omega)) ?_;rintro _ bV ⟨rfl,bo⟩;have rY:=o.sX (o.fy m.vars[k].scalar m.vars[k].bk m.vars[k].ad m.scalars);refine aa ?_;intro cc Ui afW bY er;replace er:cc.heap[Ui]? = some (.cells (o.fy m.vars[k].scalar m.vars[k].bk m.vars[k].ad m.scalars).enc.toArray T.k):=er;have dk:=ee.ext (bo.trans bY);have DC:=(a8.trans bo).trans bY;have aN:(List.replicate j (o.fy m.vars[k].scalar m.vars[k].bk m.vars[k].ad m.scalars)).length=j:=List.length_replicate;refine K.kq (y:=o.fy m.vars[k].scalar m.vars[k].bk m.vars[k].ad m.scalars) dk er rfl (fun _=>rfl) o.sX (by rw[aN];omega) (by rw[aN];unfold maxLen;omega) DC.size fun bf n c dq gn Hs=>?_;refine aa ?_;exact⟨eH,bq,(bf,n,c),bp,dk.jo DC Hs (Nat.le_refl _),by rw[List.replicate_succ'];exact gn⟩
  ·have ly:j=(o.cells m.vars[k] m.scalars).toNat:=by omega
   have H0:=aw.ext ((av.trans aH).trans a8);replace ee:br o.dg.enc T.k 3 bj.heap.size bF (.slice v.1 v.2.1 v.2.2) (o.wa m.scalars m.vars[k]):=by rw[ly] at ee;exact ee
   have hs:=o.kr 1 ((o.cT m).take k) 0;have l6:=o.E3 m bP k;refine aa ?_;intro bV bo;refine K.wide (F9 (n:=43) (x:=7) (y:=9) (off:=0) (so:=1) (by decide) (by decide) (by decide) (by decide) de ky (by simp[ca]) (by simp[ca]) (by simp[ca];rfl) (by simp[ca]) (H0.ext bo) (ee.ext bo) (by rw[hs,o.yv];omega) ⟨by rw[o.q6,List.length_take];omega,by simp,by simp⟩ fun a6 cc aI b6 xL=>?_);have rH:a6 24 = .int .i64 k:=by rw[aI 24 (by decide)];simp[ca]
   refine aa ?_;rw[rH];refine aa ?_;refine⟨bd,bq,(),trivial,?_⟩;have aS:k<(o.cT m).length:=by simpa[o.cT] using bd
   have e:(o.cT m)[k]=o.wa m.scalars m.vars[k]:=by simp[o.cT]
   rw[List.take_succ_eq_append_getElem aS,e,o.EX,o.uQ];have aZ:(0+((o.cT m).take k).length:Nat)=k:=by rw[List.length_take];omega
   rw[aZ,Nat.zero_add,←hs];exact b6
 have j9:m.vars.length≤k:=by omega
 rw[List.take_of_length_le (by simpa[o.cT] using j9)] at aw;have JS:=o.E3 m bP m.vars.length;rw[List.take_of_length_le (by simp[o.cT])] at JS;refine aa ?_;refine K.cV 56 m.aK.length [1,2,4,5,6,54,55] (fun _:Unit=>[]) () (fun k _ W=>iX ar b9 bs (o.fR.of (o.gD 0 (o.cT m)) (o.gD (o.total (o.cT m)) ((o.dN m).take k)) [] (o.cellsOf 1 (o.cT m) 0++o.cellsOf 2 ((o.dN m).take k) 0)) W) bp bp (by simpa[o.gD,o.cellsOf] using aw) ?_;clear aw al cQ;rintro k _ S aW hk aw;have al:=o3 aw;have cQ:=gO aw;refine aa ?_;apply K.cond<;>intro g2
 ·have bd:k<m.aK.length:=by omega
  obtain⟨a,rfl⟩:=U.addr (by omega);have ev:=((U.at k bd).cells).ext cQ;have c4:=bP.chan _ (List.getElem_mem bd);have kb:=o.Nt c4 hp.1;have oX:=c4.cap;refine aa ?_;intro wn sU zV hX hs;refine aa ?_;intro bh gP bA;have av:Ext aW bh:=gP.ext hX zV;replace bA:bh.heap[sU]? = some (.cells m.aK[k].enc.toArray T.p):=bA;replace al:=av.obj al;clear gP hX hs ev;have G6:=al;have XO:=bA;have eG:=cQ.trans av;refine aa ?_;intro bj CN XB aH z1;replace z1:bj.heap[CN]? = some (.cells ([(⟨0,m.aK[k].cap,0⟩:o.dg)].flatMap o.dg.enc).toArray T.k):=z1;have gz:br o.dg.enc T.k 3 bh.heap.size bj (.slice (some ⟨CN,0,none⟩) 1 1) [(⟨0,m.aK[k].cap,0⟩:o.dg)]:=br.F1 _ z1 XB rfl (fun _=>rfl) rfl (by simp[maxLen]);replace al:=aH.obj al;replace bA:=aH.obj bA;have ej:=eG.trans aH;have OV:=z1;clear z1;refine aa ?_;refine K.call (IJ ⟨⟨#[]⟩,m.aK[k].scalar,0,min m.aK[k].bk 0,max m.aK[k].ad 0,0⟩ _ m.scalars bj (ak.ext ej) (by unfold o.df;simp only;omega)) ?_;rintro _ bF ⟨rfl,a8⟩;have rY:=o.sX (o.fy m.aK[k].scalar (min m.aK[k].bk 0) (max m.aK[k].ad 0) m.scalars);refine aa ?_;intro bV sV OL bo hF;replace hF:bV.heap[sV]? = some (.cells (o.jH m.scalars m.aK[k]).enc.toArray T.k):=hF;replace al:=(a8.trans bo).obj al;replace bA:=(a8.trans bo).obj bA;have dH:=gz.ext (a8.trans bo);have Yf:=(aH.trans a8).trans bo;clear gz;refine aa ?_;have afS:CN<sV:=by have:=cL OV;have:=a8.size;omega
  refine K.cV 79 m.aK[k].cap.toNat [1,2,4,5,6,10,11,13,54,55,56,78] (fun v:gv=>[(12,.slice v.1 v.2.1 v.2.2)]) (some ⟨CN,0,none⟩,1,1) (fun j v W=>Ext bh W∧W.heap[sV]? = bV.heap[sV]? ∧ br o.dg.enc T.k 3 bh.heap.size W (.slice v.1 v.2.1 v.2.2) (⟨0,m.aK[k].cap,0⟩ :: List.replicate j (o.jH m.scalars m.aK[k]))∧(Value.slice v.1 v.2.1 v.2.2).ownBlock≠some sV) bp bp ⟨Yf,rfl,dH,by simp[Value.ownBlock];omega⟩ ?_;rw[hF];have ahF:=cL hF;clear al bA hF dH OV;rintro j v S cc aP ⟨DF,hF,dk,o1⟩;have al:=DF.obj G6;have bA:=DF.obj XO;refine aa ?_;apply K.cond<;>intro g3
  ·have eH:j<m.aK[k].cap.toNat:=by omega
   have rY:=o.sX (o.jH m.scalars m.aK[k]);refine aa ?_;intro dq Uj afX cj Ha;replace Ha:dq.heap[Uj]? = some (.cells (o.jH m.scalars m.aK[k]).enc.toArray T.k):=Ha;have gn:=dk.ext cj;have aN:((⟨0,m.aK[k].cap,0⟩:o.dg) :: List.replicate j (o.jH m.scalars m.aK[k])).length=j+1:=by simp
   have O8:=DF.trans cj;have z138:=cL (cj.obj hF);refine K.T1 (y:=o.jH m.scalars m.aK[k]) gn Ha rfl (fun _=>rfl) o.sX (by rw[aN];omega) (by rw[aN];unfold maxLen;omega) O8.size fun bf n c dE hK Pj lu=>?_;have hJ:dE.heap[sV]? = _:=(Mod.grown (A:=fun i=>(Value.slice v.1 v.2.1 v.2.2).ownBlock=some i) Pj fun k hk=>hk).obj o1 (cj.obj hF);refine aa ?_;refine⟨eH,bq,(bf,n,c),bp,gn.jo O8 Pj (Nat.le_refl _),hJ,by rw[List.replicate_succ'];exact hK,fun e=>?_⟩;rcases lu with a | a
   ·exact o1 (a.symm.trans e)
   ·rw[a] at e;injection e with e;omega
  ·have ly:j=m.aK[k].cap.toNat:=by omega
   have ih:=aw.ext (av.trans DF);replace dk:br o.dg.enc T.k 3 bh.heap.size cc (.slice v.1 v.2.1 v.2.2) (o.s5 m.scalars m.aK[k]):=by rw[ly] at dk;exact dk
   have hs:=o.kr 1 (o.cT m) 0;have He:=o.kr 2 ((o.dN m).take k) 0;have hlen:(o.cellsOf 1 (o.cT m) 0++o.cellsOf 2 ((o.dN m).take k) 0).length=o.total (o.cT m)+o.total ((o.dN m).take k):=by rw[List.length_append,hs,He]
   have l6:=o.JR m bP k;refine aa ?_;intro dq cj;refine K.wide (F9 (n:=86) (x:=10) (y:=12) (off:=1) (so:=2) (by decide) (by decide) (by decide) (by decide) de ky (by simp[ca]) (by simp[ca]) (by simp[ca];rfl) (by simp[ca]) (ih.ext cj) (dk.ext cj) (by rw[hlen,o.CX];omega) ⟨by rw[o.q6];simp[o.cT];omega,by rw[o.q6,List.length_take];omega,by simp⟩ fun a6 cc aI b6 xL=>?_);have rH:a6 56 = .int .i64 k:=by rw[aI 56 (by decide)];simp[ca]
   refine aa ?_;rw[rH];refine aa ?_;refine⟨bd,bq,(),trivial,?_⟩;have aS:k<(o.dN m).length:=by simpa[o.dN] using bd
   have e:(o.dN m)[k]=o.s5 m.scalars m.aK[k]:=by simp[o.dN]
   rw[List.take_succ_eq_append_getElem aS,e,o.EX,o.uQ];have aZ:(0+((o.dN m).take k).length:Nat)=k:=by rw[List.length_take];omega
   rw[aZ,←List.append_assoc,←hlen];exact b6
 have oi:m.aK.length≤k:=by omega
 rw[List.take_of_length_le (by simpa[o.dN] using oi)] at aw;have aec:=o.JR m bP m.aK.length;rw[List.take_of_length_le (by simp[o.dN])] at aec;refine aa ?_;refine K.call (Is _ m aW (h.ext cQ) aX) ?_;rintro cB nD ⟨fv,qI⟩;obtain⟨fw,ci,rfl,_⟩:=fv.form;have H5:=aw.ext qI;have qK:(o.insts m).length≤30:=by have:=o.tF m;have:=bP.procs;omega
 refine aa ?_;refine K.cV 99 (o.insts m).length [1,2,4,5,6,97,98] (fun _:Unit=>[]) () (fun k _ W=>iX ar b9 bs (o.fR.of (o.gD 0 (o.cT m)) (o.gD (o.total (o.cT m)) (o.dN m)) (o.gD (o.total (o.cT m)+o.total (o.dN m)) ((o.eB m).take k)) (o.cellsOf 1 (o.cT m) 0++o.cellsOf 2 (o.dN m) 0++o.cellsOf 3 ((o.eB m).take k) 0)) W∧dZ p5 nD W) bp bp ⟨by simpa[o.gD,o.cellsOf] using H5,dZ.refl⟩ ?_;clear aw H5 al cQ;rintro k _ S aW hk ⟨aw,lD⟩;have al:=o3 aw;have cQ:=gO aw;have fz:pt aW (.slice fw (o.insts m).length ci) (o.insts m):=br.lI (enc:=o.eL.enc) (fun _=>rfl) (fv.ij lD (by decide));refine aa ?_;apply K.cond<;>intro g3
 ·have bd:k<(o.insts m).length:=by omega
  obtain⟨mq,rfl⟩:=fz.addr (by omega);have pY:=o.tG _ (List.getElem_mem bd);obtain⟨p,bg,fi,nk⟩:=o.vu pY;have c4:=bP.proc _ (List.getElem_mem bg);have Py:=c4.cq;have pV:=c4.hp.1;refine aa ?_;intro wn uJ zW hX hs;refine aa ?_;intro bh gP bA;have av:Ext aW bh:=gP.ext hX zW;replace bA:bh.heap[uJ]? = some (.cells #[.int .i64 p,.int .i64 (o.insts m)[k].elem] T.m):=by rw[←fi];exact bA
  replace al:=av.obj al;clear gP hX hs fz;have eG:=cQ.trans av;obtain⟨a,rfl⟩:=ai.addr (by omega);obtain⟨lC,cF,ei,dR,eO,jN⟩:=ai.at p bg;obtain⟨e4,gN,rfl,fA⟩:=eO.form;obtain⟨mQ,mv,rfl,lc⟩:=jN.form;replace dR:=dR.ext eG;refine aa ?_;intro bj FZ OM aH j7;replace j7:bj.heap[FZ]? = some (.cells (m.procs[p].enc (.slice e4 m.procs[p].vars.length gN) (.slice mQ m.procs[p].c7.length mv)).toArray T.i):=j7;unfold o.dx.enc at j7;have ej:=eG.trans aH;replace al:=aH.obj al;clear dR;refine aa ?_;intro bF FY Xz a8 Dx;replace Dx:bF.heap[FY]? = some (.cells ([(⟨0,m.procs[p].cq - 1,0⟩:o.dg)].flatMap o.dg.enc).toArray T.k):=Dx;have ee:br o.dg.enc T.k 3 bj.heap.size bF (.slice (some ⟨FY,0,none⟩) 1 1) [(⟨0,m.procs[p].cq - 1,0⟩:o.dg)]:=br.F1 _ Dx Xz rfl (fun _=>rfl) rfl (by simp[maxLen]);have G6:=al;have XJ:=j7;replace j7:=a8.obj j7;clear Dx al;refine aa ?_;refine K.cV 118 m.procs[p].vars.length [1,2,4,5,6,14,16,97,98,99,116,117] (fun v:gv=>[(17,.slice v.1 v.2.1 v.2.2)]) (some ⟨FY,0,none⟩,1,1) (fun j v W=>Ext bj W∧br o.dg.enc T.k 3 bj.heap.size W (.slice v.1 v.2.1 v.2.2) (⟨0,m.procs[p].cq - 1,0⟩ :: (m.procs[p].vars.take j).map fun v=>o.fy v.scalar v.bk v.ad m.scalars)) bp bp ⟨a8,by simpa using ee⟩ ?_;clear j7 ee;rintro j v S bV aP ⟨xp,dH⟩;have al:=xp.obj G6;have j7:=xp.obj XJ;have iq:=ej.trans xp;refine aa ?_;apply K.cond<;>intro g4
  ·have eH:j<m.procs[p].vars.length:=by omega
   obtain⟨mr,rfl⟩:=eO.addr (by omega);have ev:=((eO.at j eH).cells).ext iq;have Ig:=c4.var _ (List.getElem_mem eH);have kb:=o.E7 Ig hp.1;refine aa ?_;intro cc Uh afT bY zY;replace zY:cc.heap[Uh]? = some (.cells m.procs[p].vars[j].enc.toArray T.h):=zY;replace al:=bY.obj al;have iF:=iq.trans bY;clear ev;refine aa ?_;refine K.call (IJ m.procs[p].vars[j] _ m.scalars cc (ak.ext iF) (by unfold o.df;omega)) ?_;rintro _ dq ⟨rfl,cj⟩;have rY:=o.sX (o.fy m.procs[p].vars[j].scalar m.procs[p].vars[j].bk m.procs[p].vars[j].ad m.scalars);refine aa ?_;intro dE Ug afR cv G7;replace G7:dE.heap[Ug]? = some (.cells (o.fy m.procs[p].vars[j].scalar m.procs[p].vars[j].bk m.procs[p].vars[j].ad m.scalars).enc.toArray T.k):=G7;have hK:=dH.ext ((bY.trans cj).trans cv);have O9:=((xp.trans bY).trans cj).trans cv;have aN:((⟨0,m.procs[p].cq - 1,0⟩:o.dg) :: (m.procs[p].vars.take j).map fun v=>o.fy v.scalar v.bk v.ad m.scalars).length=j+1:=by simp;omega
   refine K.kq (y:=o.fy m.procs[p].vars[j].scalar m.procs[p].vars[j].bk m.procs[p].vars[j].ad m.scalars) hK G7 rfl (fun _=>rfl) o.sX (by rw[aN];omega) (by rw[aN];unfold maxLen;omega) O9.size fun bf n c fl mL l3=>?_;refine aa ?_;exact⟨eH,bq,(bf,n,c),bp,hK.jo O9 l3 (Nat.le_refl _),by rw[List.take_succ_eq_append_getElem eH,List.map_append];exact mL⟩
  ·have xy:=aw.ext ((av.trans aH).trans xp);have Iy:dZ p5 aW bV:=dZ.ext ((av.trans aH).trans xp);replace dH:br o.dg.enc T.k 3 bj.heap.size bV (.slice v.1 v.2.1 v.2.2) (o.jO m (o.insts m)[k]):=by rw[List.take_of_length_le (by omega)] at dH;rw[nk];exact dH
   have hs:=o.kr 1 (o.cT m) 0;have He:=o.kr 2 (o.dN m) 0;have X5:=o.kr 3 ((o.eB m).take k) 0;have hlen:(o.cellsOf 1 (o.cT m) 0++o.cellsOf 2 (o.dN m) 0++o.cellsOf 3 ((o.eB m).take k) 0).length=o.total (o.cT m)+o.total (o.dN m)+o.total ((o.eB m).take k):=by rw[List.length_append,List.length_append,hs,He,X5]
   have l6:=o.SQ m bP k;have G5:(o.jO m (o.insts m)[k]).length≤10:=by rw[nk,o.vQ];omega
   refine aa ?_;intro dq cj;refine K.wide (F9 (n:=130) (x:=14) (y:=17) (off:=2) (so:=3) (by decide) (by decide) (by decide) (by decide) de ky (by simp[ca]) (by simp[ca]) (by simp[ca];rfl) (by simp[ca]) (xy.ext cj) (dH.ext cj) (by rw[hlen];omega) ⟨by rw[o.q6];simp[o.cT];omega,by rw[o.q6];simp[o.dN];omega,by rw[o.q6,List.length_take];omega⟩ fun a6 cc aI b6 xL=>?_);have rH:a6 99 = .int .i64 k:=by rw[aI 99 (by decide)];simp[ca]
   refine aa ?_;rw[rH];refine aa ?_;refine⟨bd,bq,(),trivial,?_,((lD.trans Iy).trans (dZ.ext cj)).trans xL⟩;have aS:k<(o.eB m).length:=by simpa[o.eB] using bd
   have e:(o.eB m)[k]=o.jO m (o.insts m)[k]:=by simp[o.eB]
   rw[List.take_succ_eq_append_getElem aS,e,o.EX,o.uQ];have aZ:(0+((o.eB m).take k).length:Nat)=k:=by rw[List.length_take];omega
   rw[aZ,←List.append_assoc,←hlen];exact b6
 have vj:(o.insts m).length≤k:=by omega
 rw[List.take_of_length_le (by simpa[o.eB] using vj)] at aw;have aO:=hZ aw;obtain⟨vs,u,g1,g2,g3,g4⟩:=aw.ex;have fin:∀{bh W},Ext aW bh→dT ch bh W→(∃xs iU,Value.tuple #[.agg #[ck (vs 0),ck (vs 1),ck (vs 2),.int .i64 (o.b4 m).length,ck (vs 3),ck (vs 4)],ck u] = .tuple #[.agg xs.toArray,iU]∧ea w (fun w=>o.h6 w xs (o.layout m)) W∧ea w (fun w=>bE 4 (Flat o.Cell.slot) w iU (o.b4 m)) W)∧Ext w W:=by
  intro bh W he hw;have en:=he.obj aO;have WN:=(g2.ext he).mod (hw.mod (A:=fun i=>i=ch) rfl) fun i k ad hk e=>by subst e;exact(g2.ext he).not en (by decide) i ad hk
  have WO:=(g4.ext he).mod (hw.mod (A:=fun i=>i=ch) rfl) fun k hk e=>by
   subst e;obtain⟨cur,gj⟩:=(g4.ext he).aR k hk;rw[en] at gj;injection gj with gj;injection gj with _ e;exact absurd e (by decide)
  have bK:w.heap.size≤ar.heap.size:=by omega
  have qa:=fun(i:Nat) (ad:i<5)=>br.new (e:=T.a) (enc:=eb) (fun _=>rfl) (br.low bK (WN.own i ad));refine⟨⟨[_,_,_,_,_,_],_,rfl,fun fU p6=>⟨⟨_,_,_,_,_,rfl,qa 0 (by decide) fU p6,qa 1 (by decide) fU p6,qa 2 (by decide) fU p6,qa 3 (by decide) fU p6,qa 4 (by decide) fU p6⟩⟩,br.new (e:=T.u) (enc:=o.Cell.slot) (fun _=>rfl) (br.low bK WO)⟩,hw.ext (cQ.trans he) (by omega)⟩
 replace g1:aW.heap[b9]? = some (.cells #[ck (vs 0),ck (vs 1),ck (vs 2),.int .i64 (o.b4 m).length,ck (vs 3),ck (vs 4)] T.g):=g1;refine aa ?_;intro bh av;replace g1:=av.obj g1;replace g3:=av.obj g3;replace aO:=av.obj aO;dsimp only[ck] at g1 g3;refine aa ?_;refine⟨?_,?_⟩
 ·refine aa ?_;refine⟨?_,?_⟩
  ·refine aa ?_;intro bj ew b0;refine aa ?_;exact fin av ew
  ·refine aa ?_;intro bj ew b0;replace g3:=ew.obj g3 (by omega);refine aa ?_;exact fin av ew
 ·refine aa ?_;intro bj ew b0;refine aa ?_;exact fin av ew
end Go.Proofs.R
end
section
namespace o
theorem IC{m:Model}(h:(check m).cY=0):lay m=layout m:=by unfold lay;rw[if_pos h]
theorem QP{m:Model}(h:¬(check m).cY=0):lay m=IV:=by unfold lay;rw[if_neg h]
theorem mO{m:Model}(h:gF m):(b4 m).length≤64:=by
 have:=Eh h
 have:=h.cells
 omega
open Go Go.RowKit bn in
theorem h6.zero(w:World):h6 w [.slice none 0 0,.slice none 0 0,.slice none 0 0,.int .i64 0,.slice none 0 0,.slice none 0 0] IV:=⟨_,_,_,_,_,rfl,bE.nil,bE.nil,bE.nil,bE.nil,bE.nil⟩
end o
namespace Go.Proofs.R
open Go Go.RowKit bn
theorem QN(cs:List Value)(m:o.Model)(w:World)(h:o.eh w cs m)(aX:m.cM)(a1:gf w) :
  bw Tryz.prog F.s #[.agg cs.toArray] w fun v w'=>(∃xs,v = .agg xs.toArray∧ea w (fun w=>o.h6 w xs (o.lay m)) w')∧Ext w w':=by
 have bP:=h;obtain⟨cG,bR,cu,c1,cA,c2,cw,bN,cP,bX,rfl,_⟩:=h.form;refine bO E.s ?_;refine bH ?_;refine aa ?_;intro ar bz cN aE al;refine aa ?_;intro aW ch en aF aO;have fx:=cL al;replace al:=aF.obj al;have z2:=cL aO;have z3:=aE.size;have aZ:=aE.trans aF;refine aa ?_;refine K.call (aaU _ m aW (bP.ext aZ) aX (a1.ext aZ)) ?_;rintro _ bh ⟨rfl,av⟩;replace al:=av.obj al;replace aO:=av.obj aO;have bJ:=aZ.trans av;by_cases hk:(o.check m).cY=0
 ·rw[decide_eq_true hk];refine aa ?_;refine K.call (aau _ m bh (bP.ext bJ) aX (o.o6 hk)) ?_;rintro _ bj ⟨⟨xs,u,rfl,dM,aw⟩,aH⟩;obtain⟨km,d0,k4,d1,k5,d2,mV,d3,mc,d4,rfl,_⟩:=dM.here.form;obtain⟨qZ,kt,rfl,_⟩:=aw.here.form;replace aO:=aH.obj aO;have b5:=bJ.trans aH;have z4:=av.size;refine aa ?_;intro bF cE gh a8 bA;replace aO:=a8.obj aO;refine aa ?_;intro bV fY cW;have aM:=(dM.ext a8 aH.size).wr fY (by omega);refine aa ?_;exact⟨⟨_,rfl,by rw[o.IC hk];exact aM.low bJ.size⟩,fY.ext (b5.trans a8) (by omega)⟩
 ·rw[decide_eq_false hk];refine aa ?_;intro bj ew b0;refine aa ?_;exact⟨⟨[_,_,_,_,_,_],rfl,by rw[o.QP hk];exact fu.of fun _=>o.h6.zero _⟩,ew.ext bJ (by omega)⟩
end Go.Proofs.R
end
section
namespace o
open Go
theorem Qd{m:Model}:∀(l:List dx) (i:Nat),l=m.procs.drop i→∀x∈jc m l i,∃(p:Nat) (h:p<m.procs.length),x.proc=p∧(m.procs[p].over≠0→1≤x.elem)
 | [],_,_,x,aD=>by simp[jc] at aD
 | p :: r,i,h,x,aD=>by
  have ad:i<m.procs.length:=by
   apply Classical.byContradiction;intro aM;rw[List.drop_eq_nil_of_le (by omega)] at h;cases h
  rw[List.drop_eq_getElem_cons ad] at h;injection h with h1 U
  simp only[jc,List.mem_append] at aD;rcases aD with (aD | aD) | aD
  ·unfold iQ at aD;split at aD
   ·rename_i ak;rw[List.mem_singleton] at aD;subst aD;exact⟨i,ad,rfl,fun aM=>absurd (h1 ▸ ak) aM⟩
   ·cases aD
  ·unfold jy at aD;obtain⟨k,_,rfl⟩:=List.mem_map.1 aD;exact⟨i,ad,rfl,fun _=>by simp only;omega⟩
  ·exact Qd r (i+1) U x aD
structure um(m:Model)(q p:Nat):Prop where
 aJ:q<(insts m).length
 bg:p<m.procs.length
 eq:(insts m)[q].proc=p
 elem:m.procs[p].over≠0→1≤(insts m)[q].elem
 eV:0≤(insts m)[q].elem∧(insts m)[q].elem≤4
theorem Qa{m:Model}{q:Nat}(h:q<(insts m).length):∃p,um m q p:=by
 obtain⟨p,bg,e,h1⟩:=Qd m.procs 0 (by simp) _ (List.getElem_mem h);exact⟨p,h,bg,e,h1,(tG _ (List.getElem_mem h)).elem⟩
theorem um.nth{m:Model}{q p:Nat}(h:um m q p):o.nth m.procs ((insts m)[q]'(h.aJ)).proc=some (m.procs[p]'(h.bg)):=by
 rw[h.eq,iP (by omega) (by have:=h.bg;omega)];rfl
theorem um.Uk{m:Model}{q p:Nat}(h:um m q p):jO m ((insts m)[q]'(h.aJ))=q0 m.scalars (m.procs[p]'(h.bg)):=by
 unfold jO;rw[h.nth]
theorem um.room{m:Model}{q p:Nat}(h:um m q p):e3 m q+(1+(m.procs[p]'(h.bg)).vars.length)≤eA m:=by
 have:=Ip h.aJ
 rw[h.Uk,vQ] at this;exact this
theorem VO{m:Model}{q:Nat}(h:q<(insts m).length):GB m q=((insts m)[q]'h).elem.toNat:=by
 unfold GB;rw[List.getElem?_eq_getElem h]
theorem xQ{m:Model}{v:Nat}(h:v<m.vars.length):l8 m v=(cells m.vars[v] m.scalars).toNat:=by
 unfold l8;rw[List.getElem?_eq_getElem h]
theorem UI{m:Model}{c:Nat}(h:c<m.aK.length):CS m c=m.aK[c].cap.toNat:=by
 unfold CS;rw[List.getElem?_eq_getElem h]
theorem aeB{m:Model}(bP:gF m){v:Nat}(h:v<m.vars.length):fF m v+l8 m v≤64:=by
 have:=E5 h
 rw[xQ h]
 have:=qu m
 have:eA m≤64:=mO bP
 omega
theorem ZP{m:Model}(bP:gF m){q:Nat}(h:q<(insts m).length):e3 m q+1≤64:=by
 obtain⟨p,bg⟩:=Qa h
 have:=bg.room
 have:eA m≤64:=mO bP
 omega
structure nQ(n:Nat)(l:List Int):Prop where
 bk:∀x∈l,0≤x∧x<80
 len:l.length≤n
theorem nQ.row{a n k:Nat}(h:a+n≤80)(aM:n≤k):nQ k (gb a n):=⟨fun x aD=>by have:=yf.1 aD;omega,by rw[RX];exact aM⟩
theorem nQ.nil(n:Nat):nQ n []:=⟨fun x aD=>(by cases aD),Nat.zero_le _⟩
theorem nQ.app{a b n:Nat}{l r:List Int}(h:nQ a l)(k:nQ b r)(aM:a+b≤n):nQ n (l++r):=⟨fun x aD=>by
 rcases List.mem_append.1 aD with aD | aD
 ·exact h.bk x aD
 ·exact k.bk x aD,by rw[List.length_append];have:=h.len;have:=k.len;omega⟩
theorem M7{m:Model}(bP:gF m)(p:Int):∀n,n≤(insts m).length→nQ n (lU m p n)
 | 0,_=>nQ.nil _
 | n+1,h=>by
  rw[CK (by omega)]
  have:=ZP bP (q:=n) (by omega)
  refine nQ.app (M7 bP p n (by omega)) (b:=1) ?_ (Nat.le_refl _);split
  ·exact nQ.row (by omega) (Nat.le_refl _)
  ·exact nQ.nil _
theorem Ir{m:Model}(bP:gF m):(insts m).length≤30:=by have:=tF m;have:=bP.procs;omega
end o
end
section
namespace bn
open Go Go.RowKit
theorem bE.sub{α:Type}{sz:Nat}{R:World→Addr→α→Prop}{w:World}{bf:Option Addr}{n c:Nat}{xs:List α}(h:bE sz R w (.slice bf n c) xs)(l u:Nat)(aN:l≤u)(hu:u≤xs.length) :
  bE sz R w (.slice (if c=l then bf else bf.map (·.add (l*sz))) (u - l) (c - l)) ((xs.drop l).take (u - l)) :=
 (h.tail l (by omega)).head (u - l) (by rw[List.length_drop];omega)
section
variable{P:Program}{ax:Value→Prop}{S:Fr}{w:World}
theorem K.yk{α:Type}{sz n cap:Nat}{R:World→Addr→α→Prop}{bf:Option Addr}{x y:Operand}{k k':IntKind}{xs:List α}{t}(l u:Nat)(aw:bE sz R w (.slice bf n cap) xs)(aD:a7 S x = .int k (l:Int))(cS:a7 S y = .int k' (u:Int))(aN:l≤u)(hu:u≤xs.length)
  (hk:∀aj c,bE sz R w (.slice aj (u - l) c) ((xs.drop l).take (u - l))→ax (.slice aj (u - l) c)):sS S sz (.slice bf n cap) (some x) (some y) none ax t:=by
 obtain⟨bS,aZ,bJ⟩:=aw.len;refine K.gV l u cap (by simp[e7,aD]) (by simp[e7,cS]) (by simp[e7]) ⟨aN,by omega,Nat.le_refl _⟩ (by simp) ?_;exact hk _ _ (aw.sub l u aN hu)
theorem K.aax{b i j:Nat}{c:List Value}{ty:TypeId}{f:Nat×Nat}{v:Value}{w0:World}{t}(aA:w0.heap[b]? = some (.cells c.toArray ty f))(he:Ext w0 w)(aP:c[i+j]? = some v)(hk:ax v):oL (.pointer (some ((Addr.add ⟨b,0,none⟩ i).add j))) w ax t:=by
 rw[add_add];exact K.dv aA he aP hk
end
theorem ao{A B:Prop}(k:B)(h:sK B→A:=by
 intro q
 (repeat' first
 | assumption
 | exact Ext.refl _
 | refine Ext.trans ?_ (by assumption)
 | simp -dsimp only[bU,bQ,Nat.reduceAdd,Nat.reduceEqDiff,reduceIte,reduceCtorEq,bZ,sx,sw,r8,r7,rM,rL,List.cons_append,List.nil_append]
 | refine K.wrap (by omega) ?_
 | refine K.dv (by assumption) ?_ rfl ?_
 | refine K.dp (by assumption) ?_ rfl ?_
 | refine K.dA (by omega) ?_
 | refine K.dt (by first | assumption | omega) ?_
 | refine K.dy (by first | assumption | omega) ?_
 | refine K.dj (by assumption) ?_
 | refine K.dm (by assumption) ?_
 | refine K.dC (by assumption) ?_ (by omega) rfl ?_
 | refine K.dn (by assumption) ?_ (by omega) rfl ?_
 | refine K.dB (by assumption) ?_ (by omega) rfl ?_
 | refine K.aax (by assumption) ?_ rfl ?_
 | refine K.IG (by assumption) ?_ rfl ?_
 | refine K.IF (by assumption) ?_ rfl ?_
 | refine K.fO (by assumption) ?_ rfl ?_
 | refine K.qX (fun _=>by (simp -dsimp only[bU,Nat.reduceAdd,Nat.reduceEqDiff,reduceIte,reduceCtorEq,bZ]);rfl) rfl rfl (by first | assumption | (simp[Value.oneCell',o.eL.enc,o.Ref.enc,o.Node.enc,o.Scalar.enc,o.Var.enc,o.dh.enc,o.Act.enc,o.ft.enc,o.dx.enc,o.h7.enc];done)) ?_
 | refine K.new ?_
 | refine K.jh (by assumption) rfl rfl (by first | assumption | (simp[Value.oneCell',o.eL.enc,o.Ref.enc,o.Node.enc,o.Scalar.enc,o.Var.enc,o.dh.enc,o.Act.enc,o.ft.enc,o.dx.enc,o.h7.enc];done)) ?_
 | refine K.st1 (by assumption) (Nat.le_of_ble_eq_true rfl) rfl ?_
 | refine K.qf (by assumption) (Nat.le_of_ble_eq_true rfl) rfl ?_
 | refine K.j3 (by (simp only[ep,lay,mA,eS,ca,Value.cells,Nat.reduceAdd,Nat.reduceEqDiff,reduceIte,List.range,List.range.loop,List.map_cons,List.map_nil]);rfl) ?_
 | refine K.cJ (by (simp only[ep,lay,mA,eS,ca,Value.cells,Nat.reduceAdd,Nat.reduceEqDiff,reduceIte]);rfl) ?_)
 exact q.out):A:=h ⟨k⟩
end bn
namespace bn
open Go Go.RowKit
section
variable{P:Program}{ax:Value→Prop}{cz cD:Operand}
theorem K.ptrEq{t:TypeId}{p:Option Addr}{iT}(h:P.underlying t=some (.pointer (P.pointee t)))(hk:ax (.bool p.isNone)):eW P .eql t cz cD (.pointer p) (.pointer none) ax iT :=
 K.bin (v:=.bool p.isNone) (fun w=>by simp[eqGuard_at_pointer,binOp,run_equal_pointer_nil w t p h]) hk
theorem K.RB{t:TypeId}{p:Option Addr}{iT}(h:P.underlying t=some (.pointer (P.pointee t)))(hk:ax (.bool (!p.isNone))):eW P .neq t cz cD (.pointer p) (.pointer none) ax iT :=
 K.bin (v:=.bool (!p.isNone)) (fun w=>by simp[eqGuard_at_pointer,binOp,run_equal_pointer_nil w t p h]) hk
theorem K.ab8{t:TypeId}{iT}(h:P.underlying t=some (.pointer (P.pointee t)))(hk:ax (.bool true)):eW P .eql t cz cD (.pointer none) (.pointer none) ax iT:=K.ptrEq h hk
theorem K.ab9{t:TypeId}{a:Addr}{iT}(h:P.underlying t=some (.pointer (P.pointee t)))(hk:ax (.bool false)):eW P .eql t cz cD (.pointer (some a)) (.pointer none) ax iT:=K.ptrEq h hk
theorem K.aca{t:TypeId}{iT}(h:P.underlying t=some (.pointer (P.pointee t)))(hk:ax (.bool false)):eW P .neq t cz cD (.pointer none) (.pointer none) ax iT:=K.RB h hk
theorem K.acb{t:TypeId}{a:Addr}{iT}(h:P.underlying t=some (.pointer (P.pointee t)))(hk:ax (.bool true)):eW P .neq t cz cD (.pointer (some a)) (.pointer none) ax iT:=K.RB h hk
end
end bn
end
section
namespace o
theorem U5{c:dh}{s:List Scalar}(h:yG c s)(ak:c.scalar≠0):∃i,∃ad:i<s.length,c.scalar=(i:Int)+1∧s[i].size=size c.scalar s:=by
 have e:=h.sc.resolve_left ak;unfold size at e ⊢;split at e
 ·rename_i x aD;obtain⟨cb,tD⟩:=List.getElem?_eq_some_iff.1 aD;split at e
  ·rename_i h1;refine⟨(c.scalar - 1).toNat,cb,by omega,?_⟩;rw[tD,if_pos h1]
  ·exact absurd rfl e
 ·exact absurd rfl e
theorem IB(so hi:Int)(l:List dg)(b:dg):eP so hi (l++[b]) 0=eP so hi l 0++[⟨so,hi,(l.length:Nat),b.bk,b.ad,b.kind⟩]:=by
 rw[IA,Nat.zero_add]
end o
namespace Go.Proofs.R
open Go Go.RowKit bn
theorem QF{α:Type}{enc:α→List Value}{e:TypeId}{sz base:Nat}{w w':World}{v:Value}{xs:List α}(a1:br enc e sz base w v xs)(aX:w.grownBy w' v.ownBlock):dZ [e] w w':=dZ.mod (A:=fun k=>v.ownBlock=some k) (Mod.grown aX fun k hk=>hk) fun k c t ay a=>by
 obtain⟨cur,h⟩:=a1.aR k a;rw[ay] at h;injection h with h;injection h with _ h;rw[h];simp
theorem acQ(cs:List Value)(m:o.Model)(w:World)(h:o.eh w cs m)(aX:m.cM)(bP:o.gF m) :
  bw Tryz.prog F.Bb #[.agg cs.toArray] w fun v w'=>br o.Cell.enc T.jP 6 w.heap.size w' v (o.b4 m)∧Ext w w':=by
 obtain⟨cG,bR,cu,c1,cA,c2,cw,bN,cP,bX,rfl,ak,h1,U,ai,aL,et,dY,eg,dK,ed⟩:=h.form;have hp:=bP.hp;refine bO E.Bb ?_;refine bH ?_;refine aa ?_;intro ar bz cN aE al;refine aa ?_;refine K.cV 4 m.vars.length [1] (fun v:gv=>[(3,.slice v.1 v.2.1 v.2.2)]) (none,0,0) (fun k v W=>Ext ar W∧br o.Cell.enc T.jP 6 ar.heap.size W (.slice v.1 v.2.1 v.2.2) (o.cellsOf 1 ((o.cT m).take k) 0)) bp bp ⟨Ext.refl _,br.nil _ _ _ _ _⟩ ?_;have oW:=al;clear al;rintro k v S aW hk ⟨aF,js⟩;have al:=aF.obj oW;have aZ:=aE.trans aF;refine aa ?_;apply K.cond<;>intro g1
 ·have bd:k<m.vars.length:=by omega
  obtain⟨a,rfl⟩:=h1.addr (by omega);have ev:=((h1.at k bd).cells).ext aZ;have c4:=bP.var _ (List.getElem_mem bd);have kb:=o.E7 c4 hp.1;have aS:k<(o.cT m).length:=by simpa[o.cT] using bd
  have l6:=o.E3 m bP (k+1);rw[o.E2 aS] at l6;have tf:(o.cT m)[k]=o.wa m.scalars m.vars[k]:=by simp[o.cT]
  rw[tf,o.yv] at l6;have fK:=o.s4 m.vars[k] m.scalars;refine aa ?_;refine K.fj (.tuple #[.int .i64 (o.bounds m.vars[k] m.scalars).1,.int .i64 (o.bounds m.vars[k] m.scalars).2]) (fun w' e=>Ji m.vars[k] _ m.scalars w' (ak.ext (aZ.trans e))) ?_;refine aa ?_;intro bh av;have gm:=js.ext av;have bA:=av.obj al;have kR:=aF.trans av;clear al ev;refine aa ?_;refine K.cV 7 (o.cells m.vars[k] m.scalars).toNat [1,4,5,6] (fun v:gv=>[(3,.slice v.1 v.2.1 v.2.2)]) v (fun j v W=>Ext ar W∧br o.Cell.enc T.jP 6 ar.heap.size W (.slice v.1 v.2.1 v.2.2) (o.cellsOf 1 ((o.cT m).take k) 0++o.eP 1 k (List.replicate j (o.fy m.vars[k].scalar m.vars[k].bk m.vars[k].ad m.scalars)) 0)) bp bp ⟨kR,by simpa[o.eP] using gm⟩ ?_;clear bA gm js aF av kR;rintro j v S bj aP ⟨aH,gz⟩;have al:=aH.obj oW;have b5:=aE.trans aH;have ev:=((h1.at k bd).cells).ext b5;refine aa ?_;refine K.fj _ (fun w' e=>EF m.vars[k] _ m.scalars w' (ak.ext (b5.trans e))) ?_;refine aa ?_;intro bF a8;replace al:=a8.obj al;replace ev:=ev.ext a8;have ee:=gz.ext a8;have mF:=aH.trans a8;refine aa ?_;apply K.cond<;>intro g2
  ·have eH:j<(o.cells m.vars[k] m.scalars).toNat:=by omega
   refine aa ?_;refine K.call (Jj m.vars[k].scalar bF (by unfold o.df;omega)) ?_;rintro _ lL ⟨rfl,rfl⟩;refine aa ?_;intro bV ia gi bo cW;have dH:=ee.ext bo;have xn:=mF.trans bo;have aN:(o.cellsOf 1 ((o.cT m).take k) 0++o.eP 1 k (List.replicate j (o.fy m.vars[k].scalar m.vars[k].bk m.vars[k].ad m.scalars)) 0).length=o.total ((o.cT m).take k)+j:=by
    rw[List.length_append,o.kr,o.qU,List.length_replicate]
   refine K.kq (y:=⟨1,k,j,(o.bounds m.vars[k] m.scalars).1,(o.bounds m.vars[k] m.scalars).2,o.kindOf m.vars[k].scalar⟩) dH cW rfl (fun _=>rfl) o.zh (by rw[aN];omega) (by rw[aN];unfold maxLen;omega) xn.size fun bf n c cc dk iM=>?_;refine aa ?_;refine⟨eH,bq,(bf,n,c),bp,dH.jo xn iM (Nat.le_refl _),?_⟩;rw[List.replicate_succ',o.IB,←List.append_assoc,List.length_replicate,o.wQ];rw[o.wQ] at dk;exact dk
  ·have ly:j=(o.cells m.vars[k] m.scalars).toNat:=by omega
   refine aa ?_;refine⟨bd,bq,v,bp,mF,?_⟩;have aZ:(0+((o.cT m).take k).length:Nat)=k:=by rw[List.length_take];omega
   rw[List.take_succ_eq_append_getElem aS,tf,o.uQ,aZ];rw[ly] at ee;exact ee
 have j9:m.vars.length≤k:=by omega
 rw[List.take_of_length_le (by simpa[o.cT] using j9)] at js;have JS:=o.E3 m bP m.vars.length;rw[List.take_of_length_le (by simp[o.cT])] at JS;refine aa ?_;refine K.cV 8 m.aK.length [1] (fun v:gv=>[(3,.slice v.1 v.2.1 v.2.2)]) v (fun k v W=>Ext ar W∧br o.Cell.enc T.jP 6 ar.heap.size W (.slice v.1 v.2.1 v.2.2) (o.cellsOf 1 (o.cT m) 0++o.cellsOf 2 ((o.dN m).take k) 0)) bp bp ⟨aF,by simpa[o.cellsOf] using js⟩ ?_;clear al js aF aZ;rintro k v S aW hk ⟨aF,js⟩;have al:=aF.obj oW;have aZ:=aE.trans aF;refine aa ?_;apply K.cond<;>intro g2
 ·have bd:k<m.aK.length:=by omega
  obtain⟨a,rfl⟩:=U.addr (by omega);have ev:=((U.at k bd).cells).ext aZ;have c4:=bP.chan _ (List.getElem_mem bd);have kb:=o.Nt c4 hp.1;have oX:=c4.cap;have aS:k<(o.dN m).length:=by simpa[o.dN] using bd
  have l6:=o.JR m bP (k+1);rw[o.E2 aS] at l6;have tf:(o.dN m)[k]=o.s5 m.scalars m.aK[k]:=by simp[o.dN]
  rw[tf,o.CX] at l6;have vb:(o.cellsOf 1 (o.cT m) 0++o.cellsOf 2 ((o.dN m).take k) 0).length=o.total (o.cT m)+o.total ((o.dN m).take k):=by rw[List.length_append,o.kr,o.kr]
  refine aa ?_;intro bh iY kv av eY;replace eY:bh.heap[iY]? = some (.cells m.aK[k].enc.toArray T.p):=eY;replace al:=av.obj al;have gm:=js.ext av;clear ev;have kR:=aF.trans av;refine aa ?_;intro bj eu fo aH b0;have gz:=gm.ext aH;have l2:=kR.trans aH;refine K.kq (y:=⟨2,k,0,0,m.aK[k].cap,0⟩) gz b0 rfl (fun _=>rfl) o.zh (by rw[vb];omega) (by rw[vb];unfold maxLen;omega) l2.size fun bf n c bF ee hG=>?_;have al:=gz.box hG (aH.obj al) (by decide);have eY:=gz.box hG (aH.obj eY) (by decide);have mF:=gz.jo l2 hG (Nat.le_refl _);have cf:=aE.trans mF;have ahT:=cL eY;clear js gm b0 fo aH av kv;refine eD ?_;simp -dsimp only[bQ];refine eD ?_;intro bV bo;replace al:=bo.obj al;replace eY:=bo.obj eY;have dH:=ee.ext bo;have ez:=cf.trans bo;have xn:=mF.trans bo;refine K.hU [1,3,8,9] (fun _:Unit=>[(10,.int .i64 (o.jH m.scalars m.aK[k]).bk),(11,.int .i64 (o.jH m.scalars m.aK[k]).ad)]) (fun _ W=>Ext bV W) ?_ ?_
  ·refine aa ?_;apply K.cond<;>intro g3
   ·obtain⟨i,ad,H5,Zu⟩:=o.U5 c4 (by omega);obtain⟨a0,rfl⟩:=ak.addr (by omega);have fq:=((ak.at i ad).cells).ext ez;refine aa ?_;refine K.du i (by omega) ad ?_;refine aa ?_;intro cc bY;refine aa ?_;have e:o.jH m.scalars m.aK[k]=⟨0,m.scalars[i].size,m.aK[k].scalar+1⟩:=by unfold o.jH o.fy;rw[if_neg (by omega),Zu]
    rw[e];exact⟨(),bp,bY⟩
   ·have fW:m.aK[k].scalar=0:=by omega
    refine aa ?_;have e:o.jH m.scalars m.aK[k]=⟨min 0 m.aK[k].bk,max 0 m.aK[k].ad,0⟩:=by unfold o.jH o.fy;rw[if_pos fW,Int.min_comm,Int.max_comm]
    rw[e];exact⟨(),bp,Ext.refl _⟩
  rintro _ S cc bY;replace al:=bY.obj al;replace eY:=bY.obj eY;have dk:=dH.ext bY;have xo:=xn.trans bY;have HF:o.jH m.scalars m.aK[k]=⟨(o.jH m.scalars m.aK[k]).bk,(o.jH m.scalars m.aK[k]).ad,o.kindOf m.aK[k].scalar⟩:=by
   unfold o.jH o.fy o.kindOf;split<;>rfl
  have D7:∀{W:World},W.heap[iY]? = cc.heap[iY]? → _:=fun e=>e.trans eY;refine aa ?_;refine K.yz [1,8,9,10,11] (fun x:gv×Nat=>[(3,.slice x.1.1 x.1.2.1 x.1.2.2),(12,.int .i64 ((x.2:Int)+1))]) ((bf,n,c),0) (fun x W=>(Ext ar W∧W.heap[iY]? = cc.heap[iY]? ∧ (x.2:Int)≤m.aK[k].cap)∧br o.Cell.enc T.jP 6 ar.heap.size W (.slice x.1.1 x.1.2.1 x.1.2.2) (o.cellsOf 1 (o.cT m) 0++o.cellsOf 2 ((o.dN m).take k) 0++o.eP 2 k (⟨0,m.aK[k].cap,0⟩ :: List.replicate x.2 (o.jH m.scalars m.aK[k])) 0)) (fun x=>(m.aK[k].cap - x.2).toNat) bp ⟨⟨xo,rfl,by simp only;omega⟩,by simpa[o.eP] using dk⟩ ?_;clear al eY dk dH ee;rintro⟨v,j⟩ S dq ⟨⟨z7,kv,aP⟩,gn⟩;have al:=z7.obj oW;have eY:=D7 kv;simp only at aP;refine aa ?_;apply K.cond<;>intro g4
  ·refine aa ?_;refine K.call (Jj m.aK[k].scalar dq (by unfold o.df;omega)) ?_;rintro _ lL ⟨rfl,rfl⟩;refine aa ?_;intro dE y7 Ds cv rN;have hK:=gn.ext cv;have z8:=z7.trans cv;have aN:(o.cellsOf 1 (o.cT m) 0++o.cellsOf 2 ((o.dN m).take k) 0++o.eP 2 k (⟨0,m.aK[k].cap,0⟩ :: List.replicate j (o.jH m.scalars m.aK[k])) 0).length=o.total (o.cT m)+o.total ((o.dN m).take k)+(j+1):=by
    rw[List.length_append,vb,o.qU,List.length_cons,List.length_replicate]
   refine K.kq (y:=⟨2,k,(j:Int)+1,(o.jH m.scalars m.aK[k]).bk,(o.jH m.scalars m.aK[k]).ad,o.kindOf m.aK[k].scalar⟩) hK rN rfl (fun _=>rfl) o.zh (by rw[aN];omega) (by rw[aN];unfold maxLen;omega) z8.size fun bf n c fl mL l3=>?_;have XV:=hK.box l3 (cv.obj eY) (by decide);refine aa ?_;refine⟨((bf,n,c),j+1),bp,⟨⟨hK.jo z8 l3 (Nat.le_refl _),XV.trans (D7 rfl).symm,by simp only;omega⟩,?_⟩,by simp only;omega⟩;rw[List.replicate_succ',←List.cons_append,o.IB,←List.append_assoc,List.length_cons,List.length_replicate];rw[HF] at mL ⊢;exact mL
  ·refine aa ?_;refine⟨bd,bq,v,bp,z7,?_⟩;have aZ:(0+((o.dN m).take k).length:Nat)=k:=by rw[List.length_take];omega
   have n3:j=m.aK[k].cap.toNat:=by omega
   rw[List.take_succ_eq_append_getElem aS,tf,o.uQ,aZ,←List.append_assoc];rw[n3] at gn;exact gn
 have oi:m.aK.length≤k:=by omega
 rw[List.take_of_length_le (by simpa[o.dN] using oi)] at js;refine aa ?_;refine K.call (EG _ m aW (h.ext aZ) aX) ?_;rintro cB nD ⟨fv,qI⟩;obtain⟨fw,ci,rfl,_⟩:=fv.form;have Hy:∀{W:World},dZ [T.jP] nD W→pt W (.slice fw (o.insts m).length ci) (o.insts m):=fun k=>br.lI (enc:=o.eL.enc) (fun _=>rfl) (fv.ij k (by decide));have qK:(o.insts m).length≤30:=by have:=o.tF m;have:=bP.procs;omega
 have xv:=js.ext qI;have O7:=aF.trans qI;have ahI:=qI.size;refine aa ?_;refine K.cV 14 (o.insts m).length [1,13] (fun v:gv=>[(3,.slice v.1 v.2.1 v.2.2)]) v (fun k v W=>(Ext ar W∧dZ [T.jP] nD W)∧br o.Cell.enc T.jP 6 ar.heap.size W (.slice v.1 v.2.1 v.2.2) (o.cellsOf 1 (o.cT m) 0++o.cellsOf 2 (o.dN m) 0++o.cellsOf 3 ((o.eB m).take k) 0)) bp bp ⟨⟨O7,dZ.refl⟩,by simpa[o.cellsOf] using xv⟩ ?_;clear al js aF aZ xv qI O7;rintro k v S aW hk ⟨⟨aF,lD⟩,js⟩;have fz:=Hy lD;have al:=aF.obj oW;have aZ:=aE.trans aF;refine aa ?_;apply K.cond<;>intro g3
 ·have bd:k<(o.insts m).length:=by omega
  obtain⟨mq,rfl⟩:=fz.addr (by omega);have pY:=o.tG _ (List.getElem_mem bd);obtain⟨p,bg,fi,nk⟩:=o.vu pY;have c4:=bP.proc _ (List.getElem_mem bg);have Py:=c4.cq;have pV:=c4.hp.1;obtain⟨a,rfl⟩:=ai.addr (by omega);obtain⟨lC,cF,ei,dR,eO,jN⟩:=ai.at p bg;obtain⟨e4,gN,rfl,fA⟩:=eO.form;obtain⟨mQ,mv,rfl,lc⟩:=jN.form;replace dR:=dR.ext aZ;have aS:k<(o.eB m).length:=by simpa[o.eB] using bd
  have l6:=o.SQ m bP (k+1);rw[o.E2 aS] at l6;have tf:(o.eB m)[k]=o.q0 m.scalars m.procs[p]:=by simp[o.eB,nk]
  rw[tf,o.vQ] at l6;have vb:(o.cellsOf 1 (o.cT m) 0++o.cellsOf 2 (o.dN m) 0++o.cellsOf 3 ((o.eB m).take k) 0).length=o.total (o.cT m)+o.total (o.dN m)+o.total ((o.eB m).take k):=by rw[List.length_append,List.length_append,o.kr,o.kr,o.kr]
  refine aa ?_;intro bh av;replace dR:=dR.ext av;replace al:=av.obj al;replace fz:=fz.ext Flat.ext av;have gm:=js.ext av;have kR:=aF.trans av;refine aa ?_;refine K.du p fi bg ?_;refine aa ?_;intro wn uJ zW hX hs;refine⟨hX,?_⟩;refine aa ?_;intro bj ew b0;have DE:Ext bh bj:=ew.ext hX zW;replace b0:bj.heap[uJ]? = some (.cells (m.procs[p].enc (.slice e4 m.procs[p].vars.length gN) (.slice mQ m.procs[p].c7.length mv)).toArray T.i):=b0;unfold o.dx.enc at b0;replace al:=DE.obj al;have gz:=gm.ext DE;have l2:=kR.trans DE;clear ew hX hs dR gm js fz;refine aa ?_;intro bF jl nj a8 cK;have ee:=gz.ext a8;have mF:=l2.trans a8;refine K.kq (y:=⟨3,k,0,0,m.procs[p].cq - 1,0⟩) ee cK rfl (fun _=>rfl) o.zh (by rw[vb];omega) (by rw[vb];unfold maxLen;omega) mF.size fun bf n c bV dH j8=>?_;have al:=ee.box j8 (a8.obj al) (by decide);have qE:=ee.box j8 (a8.obj b0) (by decide);have xn:=ee.jo mF j8 (Nat.le_refl _);have Iy:dZ [T.jP] nD bV:=((lD.trans (dZ.ext (av.trans DE))).trans (dZ.ext a8)).trans (QF ee j8);clear b0 gz;have PY:∀{W:World},W.heap[uJ]? = bV.heap[uJ]? → _:=fun e=>e.trans qE;refine aa ?_;refine K.cV 16 m.procs[p].vars.length [1,13,14,15] (fun v:gv=>[(3,.slice v.1 v.2.1 v.2.2)]) (bf,n,c) (fun j v W=>((Ext ar W∧dZ [T.jP] nD W)∧W.heap[uJ]? = bV.heap[uJ]?)∧br o.Cell.enc T.jP 6 ar.heap.size W (.slice v.1 v.2.1 v.2.2) (o.cellsOf 1 (o.cT m) 0++o.cellsOf 2 (o.dN m) 0++o.cellsOf 3 ((o.eB m).take k) 0++o.eP 3 k (⟨0,m.procs[p].cq - 1,0⟩ :: (m.procs[p].vars.take j).map fun v=>o.fy v.scalar v.bk v.ad m.scalars) 0)) bp bp ⟨⟨⟨xn,Iy⟩,rfl⟩,by simpa[o.eP] using dH⟩ ?_;clear al qE dH;rintro j v S cc aP ⟨⟨⟨xo,qT⟩,zW⟩,dk⟩;have al:=xo.obj oW;have qE:=PY zW;have eM:=aE.trans xo;refine aa ?_;apply K.cond<;>intro g4
  ·have eH:j<m.procs[p].vars.length:=by omega
   obtain⟨mr,rfl⟩:=eO.addr (by omega);have ev:=((eO.at j eH).cells).ext eM;have Ig:=c4.var _ (List.getElem_mem eH);have kb:=o.E7 Ig hp.1;refine aa ?_;refine K.fj (.tuple #[.int .i64 (o.bounds m.procs[p].vars[j] m.scalars).1,.int .i64 (o.bounds m.procs[p].vars[j] m.scalars).2]) (fun w' e=>Ji m.procs[p].vars[j] _ m.scalars w' (ak.ext (eM.trans e))) ?_;refine aa ?_;intro dq cj;replace al:=cj.obj al;replace qE:=cj.obj qE;replace ev:=ev.ext cj;have gn:=dk.ext cj;have z7:=xo.trans cj;refine aa ?_;refine K.call (Jj m.procs[p].vars[j].scalar dq (by unfold o.df;omega)) ?_;rintro _ lL ⟨rfl,rfl⟩;refine aa ?_;intro dE iY kv cv eY;have hK:=gn.ext cv;have z8:=z7.trans cv;have aN:(o.cellsOf 1 (o.cT m) 0++o.cellsOf 2 (o.dN m) 0++o.cellsOf 3 ((o.eB m).take k) 0++o.eP 3 k (⟨0,m.procs[p].cq - 1,0⟩ :: (m.procs[p].vars.take j).map fun v=>o.fy v.scalar v.bk v.ad m.scalars) 0).length=o.total (o.cT m)+o.total (o.dN m)+o.total ((o.eB m).take k)+(j+1):=by
    rw[List.length_append,vb,o.qU,List.length_cons,List.length_map,List.length_take];omega
   have cb:((m.procs[p].vars.take j).map fun v=>o.fy v.scalar v.bk v.ad m.scalars).length=j:=by simp;omega
   refine K.kq (y:=⟨3,k,1+(j:Int),(o.bounds m.procs[p].vars[j] m.scalars).1,(o.bounds m.procs[p].vars[j] m.scalars).2,o.kindOf m.procs[p].vars[j].scalar⟩) hK eY rfl (fun _=>rfl) o.zh (by rw[aN];omega) (by rw[aN];unfold maxLen;omega) z8.size fun bf n c fl mL l3=>?_;have XI:=hK.box l3 (cv.obj qE) (by decide);refine aa ?_;refine⟨eH,bq,(bf,n,c),bp,⟨⟨hK.jo z8 l3 (Nat.le_refl _),(qT.trans (dZ.ext (cj.trans cv))).trans (QF hK l3)⟩,XI.trans (PY rfl).symm⟩,?_⟩;rw[List.take_succ_eq_append_getElem eH,List.map_append,←List.cons_append,List.map_cons,List.map_nil,o.IB,←List.append_assoc,List.length_cons,cb,o.wQ m.procs[p].vars[j],show((j+1:Nat):Int)=1+(j:Int) from by omega];exact mL
  ·refine aa ?_;refine⟨bd,bq,v,bp,⟨xo,qT⟩,?_⟩;have aZ:(0+((o.eB m).take k).length:Nat)=k:=by rw[List.length_take];omega
   rw[List.take_of_length_le (l:=m.procs[p].vars) (by omega)] at dk;rw[List.take_succ_eq_append_getElem aS,tf,o.uQ,aZ,←List.append_assoc];exact dk
 ·rw[List.take_of_length_le (by simp[o.eB];omega)] at js;refine aa ?_;exact⟨br.low aE.size js,aZ⟩
end Go.Proofs.R
end
section
namespace bn
open Go Go.RowKit
theorem K.y2{P:Program}{cI:Value→World→Prop}{α:Type}{enc:α→List Value}{e:TypeId}{sz base n:Nat}{w:World}{vs:Nat→Option Addr×Nat×Nat}{xs:Nat→List α}{ty:TypeId}{b:Nat}{a:Addr}{c:Nat}{y:α}{t}(i:Nat)(ad:i<n)(h:hn enc e sz base w n vs xs)(c5:∀x,(enc x).length=sz)(ay:e2 w a (enc y))(h1:∀y,∀u∈enc y,u.oneCell'=true)
  (aA:((xs i).length+1)*b≤140737488355328)(ja:(xs i).length+1≤maxLen)(ix:base≤w.heap.size)
  (hk:∀b7 w',hn enc e sz base w' n (dc vs i b7) (dc xs i (xs i++[y]))→w.grownBy w' (ck (vs i)).ownBlock→cI (ck b7) w'):jZ P ty e sz b (ck (vs i)) (.slice (some a) 1 c) w cI t:=by
 unfold jZ;exact hn.app i ad h c5 ay h1 aA ja ix fun b7 w' a b _=>hk b7 w' a b
end bn
namespace o
theorem GO{s:Int}{l:List Cell}{k:Nat}(h:k<l.length):hr s (l.take (k+1)) 0=hr s (l.take k) 0++(if l[k].place=0∧l[k].sort=s then [(k:Int)] else []):=by
 rw[List.take_succ_eq_append_getElem h,zH];simp only[hr,List.append_nil,List.length_take,Nat.zero_add];rw[show min k l.length=k from by omega]
theorem Om(s:Int):∀(l:List Cell) (i:Nat),(hr s l i).length≤l.length
 | [],_=>by simp[hr]
 | x :: r,i=>by
  have:=Om s r (i+1)
  simp only[hr,List.length_append,List.length_cons];split<;>simp<;>omega
def eF(l:List Cell)(k:Nat):Nat→List Int:=fun i=>if i=0 then hr 1 (l.take k) 0 else if i=1 then hr 2 (l.take k) 0 else if i=2 then hr 3 (l.take k) 0 else if i=3 then (l.take k).map (·.bk) else (l.take k).map (·.ad)
end o
namespace Go.Proofs.R
open Go Go.RowKit bn
def yh:List TypeId:=[T.a,T.g]
def j4(vs:Nat→gv)(n:Int):Array Value:=#[ck (vs 0),ck (vs 1),ck (vs 2),.int .i64 n,ck (vs 3),ck (vs 4)]
structure mh(ar:World)(b:Nat)(xs:Nat→List Int)(n:Int)(W:World):Prop where
 mod:Mod (fun k=>k=b) ar W
 ex:∃vs:Nat→gv,W.heap[b]? = some (.cells (j4 vs n) T.g)∧hn eb T.a 1 ar.heap.size W 5 vs xs
theorem mh.congr{ar:World}{b:Nat}{xs B6:Nat→List Int}{n:Int}{W:World}(h:mh ar b xs n W)(aD:∀i,i<5→xs i=B6 i):mh ar b B6 n W :=
 let ⟨vs,g1,g2⟩:=h.ex; ⟨h.mod,vs,g1,g2.congr (fun _ _=>rfl) aD⟩
theorem Bn{ar:World}{b:Nat}{xs:Nat→List Int}{n y:Int}{W pA lk pB:World}{vs:Nat→gv}{b7:gv}{i:Nat}(ad:i<5)(hm:Mod (fun k=>k=b) ar W)(g1:W.heap[b]? = some (.cells (j4 vs n) T.g))(g2:hn eb T.a 1 ar.heap.size W 5 vs xs)
  (he:Ext W pA)(aX:pA.grownBy lk (ck (vs i)).ownBlock)(a1:hn eb T.a 1 ar.heap.size lk 5 (dc vs i b7) (dc xs i (xs i++[y])))(hw:dT b lk pB)(ay:pB.heap[b]? = some (.cells (j4 (dc vs i b7) n) T.g)) :
  mh ar b (dc xs i (xs i++[y])) n pB∧dZ yh W pB:=by
 have tQ:Mod (fun k=>(ck (vs i)).ownBlock=some k) pA lk:=Mod.grown aX fun k hk=>hk;have g5:=he.obj g1;have g6:lk.heap[b]? = some (.cells (j4 vs n) T.g):=tQ.obj ((g2.ext he).not g5 (by decide) i ad) g5;refine⟨⟨?_,_,ay,a1.mod (hw.mod (A:=fun k=>k=b) rfl) fun j k aP hk e=>?_⟩,?_⟩
 ·have h1:Mod (fun k=>k=b) ar pA:=hm.comp (A':=fun _=>False) he.mod (fun _ _ a=>a) fun _ _ a=>a.elim;have U:Mod (fun k=>k=b) ar lk:=h1.comp tQ (fun _ _ a=>a) fun j aP a=>by have:=(g2.lt i j ad a).1;omega
  exact U.trans (hw.mod rfl)
 ·subst e;exact a1.not g6 (by decide) j aP hk
 ·refine((dZ.ext he).trans (dZ.mod tQ fun k c t ay a=>?_)).trans (dZ.wr hw g6 (by decide));obtain⟨cur,h⟩:=((g2.ext he).own i ad).aR k a;rw[ay] at h;injection h with h;injection h with _ h;rw[h];decide
theorem acR(cs:List Value)(m:o.Model)(w:World)(h:o.eh w cs m)(aX:m.cM)(bP:o.gF m) :
  bw Tryz.prog F.Bc #[.agg cs.toArray] w fun v w'=>(∃xs,v = .agg xs.toArray∧ea w (fun w=>o.h6 w xs (o.layout m)) w')∧Ext w w':=by
 have gg:=h;obtain⟨cG,bR,cu,c1,cA,c2,cw,bN,cP,bX,rfl,_⟩:=h.form;have u2:=o.mO bP;refine bO E.Bc ?_;refine bH ?_;refine aa ?_;intro S6 bz cN tp al;have dS:=cL al;refine aa ?_;intro aeS ch en tr aO;have dP:=cL aO;replace al:=tr.obj al;refine aa ?_;intro ar cE gh qH bA;replace al:=qH.obj al;replace aO:=qH.obj aO;have dD:=cL bA;have mW:=tp.size;have mX:=tr.size;have B8:=qH.size;have n13:bz≠cE:=by omega
 have bS:=(tp.trans tr).trans qH;refine aa ?_;refine K.call (acQ _ m ar (gg.ext bS) aX bP) ?_;rintro ei wc ⟨fK,rS⟩;obtain⟨abo,UK,rfl,_⟩:=fK.form;have gJ:mh ar cE (o.eF (o.b4 m) 0) 0 wc:=⟨rS.mod,fun _=>(none,0,0),rS.obj bA,⟨fun i ad=>by
   have e:o.eF (o.b4 m) 0 i=[]:=by unfold o.eF; (repeat' split)<;>simp[o.hr]
   rw[e];exact br.nil _ _ _ _ _,fun i j k _ _ _ e=>by cases e⟩⟩
 have o3:∀{xs n W},mh ar cE xs n W→W.heap[bz]? = ar.heap[bz]? := fun h=>h.mod.block _ (by omega) n13;have hZ:∀{xs n W},mh ar cE xs n W→W.heap[ch]? = ar.heap[ch]? := fun h=>h.mod.block _ (by omega) (by omega);have gO:∀{xs n W},mh ar cE xs n W→Ext w W:=fun h=>h.mod.ext bS fun i ad e=>by omega
 have mE:∀{W:World},dZ yh wc W→bE 6 (Flat o.Cell.enc) W (.slice abo (o.b4 m).length UK) (o.b4 m):=fun k=>br.lI (enc:=o.Cell.enc) (fun _=>rfl) (fK.ij k (by decide));rw[aO] at hZ;clear al aO bA fK;refine aa ?_;refine K.cV 5 (o.b4 m).length [1,2,3,4] (fun _:Unit=>[]) () (fun k _ W=>mh ar cE (o.eF (o.b4 m) k) 0 W∧dZ yh wc W) bp bp ⟨gJ,dZ.refl⟩ ?_;clear gJ;rintro k _ S aW hk ⟨aw,lD⟩;have fK:=mE lD;obtain⟨aeP,g1,g2⟩:=aw.ex;refine aa ?_;apply K.cond<;>intro g0
 ·have bd:k<(o.b4 m).length:=by omega
  obtain⟨a,rfl⟩:=fK.addr (by omega);clear g1 g2;obtain⟨x,aD⟩:∃x,x=(o.b4 m)[k]:=⟨_,rfl⟩;have ov:∀i,(o.eF (o.b4 m) k i).length≤100:=fun i=>by
   unfold o.eF;have q:=fun s=>o.Om s ((o.b4 m).take k) 0;have dS:=q 1;have dP:=q 2;have dD:=q 3
   (repeat' split)<;>simp only[List.length_map,List.length_take] at * <;> omega
  refine eD ?_;simp -dsimp only[bQ];refine eD ?_;refine K.hU [1,2,3,4,5] (fun _:Unit=>[]) (fun _ W=>mh ar cE (dc (o.eF (o.b4 m) k) 0 ((o.eF (o.b4 m) k) 0++if x.place=0∧x.sort=1 then [(k:Int)] else [])) 0 W∧dZ yh wc W) ?_ ?_
  ·have fK:=mE lD;obtain⟨vs,g1,g2⟩:=aw.ex;have kK:=g1;unfold j4 at g1;dsimp only[ck] at g1;have same:¬(x.place=0∧x.sort=1)→mh ar cE (dc (o.eF (o.b4 m) k) 0 ((o.eF (o.b4 m) k) 0++if x.place=0∧x.sort=1 then [(k:Int)] else [])) 0 aW:=fun e=>aw.congr fun j aP=>by
    unfold dc;by_cases a:j=0
    ·subst a;simp[e]
    ·simp[a]
   refine aa ?_;rw[←aD];apply K.cond<;>intro g3
   ·refine aa ?_;rw[←aD];apply K.cond<;>intro g4
    ·refine aa ?_;intro bF jl nj a8 cK;have fx:=aw.mod.size;have z2:=a8.size;have hlen:((o.eF (o.b4 m) k) 0).length≤100:=ov 0;have lY:=g2.ext a8;have g15:=a8.obj kK;refine K.y2 (y:=(k:Int)) 0 (by decide) lY (fun _=>rfl) (gM cK) lV (by omega) (by unfold maxLen;omega) (by omega) fun b7 bV dH j8=>?_;have gi:bV.heap[cE]? = some (.cells (j4 vs 0) T.g):=(Mod.grown (A:=fun k=>(ck (vs 0)).ownBlock=some k) j8 fun k hk=>hk).obj (lY.not g15 (by decide) 0 (by decide)) g15;have OO:=gi;unfold j4 at gi;refine aa ?_;intro cc ec er;obtain⟨ih,qT⟩:=Bn (by decide) aw.mod kK g2 a8 j8 dH ec er;refine aa ?_;refine⟨(),trivial,ih.congr fun j aP=>?_,lD.trans qT⟩;have e:(if x.place=0∧x.sort=1 then [(k:Int)] else [])=[(k:Int)]:=if_pos ⟨g3,g4⟩;rw[e]
    ·refine aa ?_;exact⟨(),trivial,same fun e=>g4 e.2,lD⟩
   ·refine aa ?_;exact⟨(),trivial,same fun e=>g3 e.1,lD⟩
  rintro _ S fl ⟨DY,Ef⟩;refine eD ?_;refine K.hU [1,2,3,4,5] (fun _:Unit=>[]) (fun _ W=>mh ar cE (dc (dc (o.eF (o.b4 m) k) 0 ((o.eF (o.b4 m) k) 0++if x.place=0∧x.sort=1 then [(k:Int)] else [])) 1 ((dc (o.eF (o.b4 m) k) 0 ((o.eF (o.b4 m) k) 0++if x.place=0∧x.sort=1 then [(k:Int)] else [])) 1++if x.place=0∧x.sort=2 then [(k:Int)] else [])) 0 W∧dZ yh wc W) ?_ ?_
  ·have fK:=mE Ef;obtain⟨vs,g1,g2⟩:=DY.ex;have kK:=g1;unfold j4 at g1;dsimp only[ck] at g1;have same:¬(x.place=0∧x.sort=2)→mh ar cE (dc (dc (o.eF (o.b4 m) k) 0 ((o.eF (o.b4 m) k) 0++if x.place=0∧x.sort=1 then [(k:Int)] else [])) 1 ((dc (o.eF (o.b4 m) k) 0 ((o.eF (o.b4 m) k) 0++if x.place=0∧x.sort=1 then [(k:Int)] else [])) 1++if x.place=0∧x.sort=2 then [(k:Int)] else [])) 0 fl:=fun e=>DY.congr fun j aP=>by
    unfold dc;by_cases a:j=1
    ·subst a;simp[e]
    ·simp[a]
   refine aa ?_;rw[←aD];apply K.cond<;>intro g3
   ·refine aa ?_;rw[←aD];apply K.cond<;>intro g4
    ·refine aa ?_;intro bF jl nj a8 cK;have fx:=DY.mod.size;have z2:=a8.size;have hlen:((dc (o.eF (o.b4 m) k) 0 ((o.eF (o.b4 m) k) 0++if x.place=0∧x.sort=1 then [(k:Int)] else [])) 1).length≤100:=ov 1;have lY:=g2.ext a8;have g15:=a8.obj kK;refine K.y2 (y:=(k:Int)) 1 (by decide) lY (fun _=>rfl) (gM cK) lV (by omega) (by unfold maxLen;omega) (by omega) fun b7 bV dH j8=>?_;have gi:bV.heap[cE]? = some (.cells (j4 vs 0) T.g):=(Mod.grown (A:=fun k=>(ck (vs 1)).ownBlock=some k) j8 fun k hk=>hk).obj (lY.not g15 (by decide) 1 (by decide)) g15;have OO:=gi;unfold j4 at gi;refine aa ?_;intro cc ec er;obtain⟨ih,qT⟩:=Bn (by decide) DY.mod kK g2 a8 j8 dH ec er;refine aa ?_;refine⟨(),trivial,ih.congr fun j aP=>?_,Ef.trans qT⟩;have e:(if x.place=0∧x.sort=2 then [(k:Int)] else [])=[(k:Int)]:=if_pos ⟨g3,g4⟩;rw[e]
    ·refine aa ?_;exact⟨(),trivial,same fun e=>g4 e.2,Ef⟩
   ·refine aa ?_;exact⟨(),trivial,same fun e=>g3 e.1,Ef⟩
  rintro _ S gd ⟨DZ,Eg⟩;refine eD ?_;refine K.hU [1,2,3,4,5] (fun _:Unit=>[]) (fun _ W=>mh ar cE (dc (dc (dc (o.eF (o.b4 m) k) 0 ((o.eF (o.b4 m) k) 0++if x.place=0∧x.sort=1 then [(k:Int)] else [])) 1 ((dc (o.eF (o.b4 m) k) 0 ((o.eF (o.b4 m) k) 0++if x.place=0∧x.sort=1 then [(k:Int)] else [])) 1++if x.place=0∧x.sort=2 then [(k:Int)] else [])) 2 ((dc (dc (o.eF (o.b4 m) k) 0 ((o.eF (o.b4 m) k) 0++if x.place=0∧x.sort=1 then [(k:Int)] else [])) 1 ((dc (o.eF (o.b4 m) k) 0 ((o.eF (o.b4 m) k) 0++if x.place=0∧x.sort=1 then [(k:Int)] else [])) 1++if x.place=0∧x.sort=2 then [(k:Int)] else [])) 2++if x.place=0∧x.sort=3 then [(k:Int)] else [])) 0 W∧dZ yh wc W) ?_ ?_
  ·have fK:=mE Eg;obtain⟨vs,g1,g2⟩:=DZ.ex;have kK:=g1;unfold j4 at g1;dsimp only[ck] at g1;have same:¬(x.place=0∧x.sort=3)→mh ar cE (dc (dc (dc (o.eF (o.b4 m) k) 0 ((o.eF (o.b4 m) k) 0++if x.place=0∧x.sort=1 then [(k:Int)] else [])) 1 ((dc (o.eF (o.b4 m) k) 0 ((o.eF (o.b4 m) k) 0++if x.place=0∧x.sort=1 then [(k:Int)] else [])) 1++if x.place=0∧x.sort=2 then [(k:Int)] else [])) 2 ((dc (dc (o.eF (o.b4 m) k) 0 ((o.eF (o.b4 m) k) 0++if x.place=0∧x.sort=1 then [(k:Int)] else [])) 1 ((dc (o.eF (o.b4 m) k) 0 ((o.eF (o.b4 m) k) 0++if x.place=0∧x.sort=1 then [(k:Int)] else [])) 1++if x.place=0∧x.sort=2 then [(k:Int)] else [])) 2++if x.place=0∧x.sort=3 then [(k:Int)] else [])) 0 gd:=fun e=>DZ.congr fun j aP=>by
    unfold dc;by_cases a:j=2
    ·subst a;simp[e]
    ·simp[a]
   refine aa ?_;rw[←aD];apply K.cond<;>intro g3
   ·refine aa ?_;rw[←aD];apply K.cond<;>intro g4
    ·refine aa ?_;intro bF jl nj a8 cK;have fx:=DZ.mod.size;have z2:=a8.size;have hlen:((dc (dc (o.eF (o.b4 m) k) 0 ((o.eF (o.b4 m) k) 0++if x.place=0∧x.sort=1 then [(k:Int)] else [])) 1 ((dc (o.eF (o.b4 m) k) 0 ((o.eF (o.b4 m) k) 0++if x.place=0∧x.sort=1 then [(k:Int)] else [])) 1++if x.place=0∧x.sort=2 then [(k:Int)] else [])) 2).length≤100:=ov 2;have lY:=g2.ext a8;have g15:=a8.obj kK;refine K.y2 (y:=(k:Int)) 2 (by decide) lY (fun _=>rfl) (gM cK) lV (by omega) (by unfold maxLen;omega) (by omega) fun b7 bV dH j8=>?_;have gi:bV.heap[cE]? = some (.cells (j4 vs 0) T.g):=(Mod.grown (A:=fun k=>(ck (vs 2)).ownBlock=some k) j8 fun k hk=>hk).obj (lY.not g15 (by decide) 2 (by decide)) g15;have OO:=gi;unfold j4 at gi;refine aa ?_;intro cc ec er;obtain⟨ih,qT⟩:=Bn (by decide) DZ.mod kK g2 a8 j8 dH ec er;refine aa ?_;refine⟨(),trivial,ih.congr fun j aP=>?_,Eg.trans qT⟩;have e:(if x.place=0∧x.sort=3 then [(k:Int)] else [])=[(k:Int)]:=if_pos ⟨g3,g4⟩;rw[e]
    ·refine aa ?_;exact⟨(),trivial,same fun e=>g4 e.2,Eg⟩
   ·refine aa ?_;exact⟨(),trivial,same fun e=>g3 e.1,Eg⟩
  rintro _ S k3 ⟨H9,QG⟩;have fK:=mE QG;obtain⟨vs,g1,g2⟩:=H9.ex;have kK:=g1;unfold j4 at g1;dsimp only[ck] at g1;refine aa ?_;intro bF a8;replace fK:=fK.ext Flat.ext a8;replace g1:=a8.obj g1;refine aa ?_;intro bV ia gi bo cW;refine⟨bo,?_⟩;have rQ:=a8.trans bo;have fx:=H9.mod.size;have z2:=rQ.size;have hlen:(o.eF (o.b4 m) k 3).length≤100:=ov 3;have lY:=g2.ext rQ;have g15:=rQ.obj kK;refine K.y2 (y:=(o.b4 m)[k].bk) 3 (by decide) lY (fun _=>rfl) (gM cW) lV (by rw[show(dc _ 2 _ 3:List Int)=o.eF (o.b4 m) k 3 from rfl];omega) (by rw[show(dc _ 2 _ 3:List Int)=o.eF (o.b4 m) k 3 from rfl];unfold maxLen;omega) (by omega) fun b7 cc dk iM=>?_;have kO:cc.heap[cE]? = some (.cells (j4 vs 0) T.g):=(Mod.grown (A:=fun k=>(ck (vs 3)).ownBlock=some k) iM fun k hk=>hk).obj (lY.not g15 (by decide) 3 (by decide)) g15;have G4:=kO;unfold j4 at kO;refine aa ?_;intro ahp kd fp;obtain⟨H2,aab⟩:=Bn (by decide) H9.mod kK g2 rQ iM dk kd fp;clear g1 g2 kK lY g15 dk kO G4 fp cW fK;have QE:=QG.trans aab;have fK:=mE QE;obtain⟨vs,g1,g2⟩:=H2.ex;have kK:=g1;unfold j4 at g1;dsimp only[ck] at g1;refine aa ?_;intro bF a8;replace fK:=fK.ext Flat.ext a8;replace g1:=a8.obj g1;refine aa ?_;intro bV ia gi bo cW;refine⟨bo,?_⟩;have rQ:=a8.trans bo;have fx:=H2.mod.size;have z2:=rQ.size;have hlen:(o.eF (o.b4 m) k 4).length≤100:=ov 4;have lY:=g2.ext rQ;have g15:=rQ.obj kK;refine K.y2 (y:=(o.b4 m)[k].ad) 4 (by decide) lY (fun _=>rfl) (gM cW) lV (by rw[show(dc _ 3 _ 4:List Int)=o.eF (o.b4 m) k 4 from rfl];omega) (by rw[show(dc _ 3 _ 4:List Int)=o.eF (o.b4 m) k 4 from rfl];unfold maxLen;omega) (by omega) fun b7 cc dk iM=>?_;have kO:cc.heap[cE]? = some (.cells (j4 vs 0) T.g):=(Mod.grown (A:=fun k=>(ck (vs 4)).ownBlock=some k) iM fun k hk=>hk).obj (lY.not g15 (by decide) 4 (by decide)) g15;have G4:=kO;unfold j4 at kO;refine aa ?_;intro ahq kd fp;obtain⟨Zq,aac⟩:=Bn (by decide) H2.mod kK g2 rQ iM dk kd fp;clear g1 g2 kK lY g15 dk kO G4 fp cW fK;have aad:=QE.trans aac;refine aa ?_;refine⟨bd,bq,(),trivial,Zq.congr fun j aP=>?_,aad⟩;subst aD;have a:j=0∨j=1∨j=2∨j=3∨j=4:=by omega
  rcases a with rfl | rfl | rfl | rfl | rfl
  ·exact(o.GO (s:=1) bd).symm
  ·exact(o.GO (s:=2) bd).symm
  ·exact(o.GO (s:=3) bd).symm
  ·show(_:List Int)=((o.b4 m).take (k+1)).map (·.bk);rw[List.take_succ_eq_append_getElem bd,List.map_append];rfl
  ·show(_:List Int)=((o.b4 m).take (k+1)).map (·.ad);rw[List.take_succ_eq_append_getElem bd,List.map_append];rfl
 have HG:k=(o.b4 m).length:=by omega
 subst HG;have cQ:=gO aw;have aO:=hZ aw;clear g1 g2;obtain⟨vs,g1,g2⟩:=aw.ex;have kK:=g1;unfold j4 at g1;dsimp only[ck] at g1;refine aa ?_;intro bh gP bA;have g23:=g2.mod (gP.mod (A:=fun k=>k=cE) rfl) fun i k ad hk e=>by subst e;exact g2.not kK (by decide) i ad hk
 replace aO:=gP.obj aO (by omega);replace bA:bh.heap[cE]? = some (.cells #[ck (vs 0),ck (vs 1),ck (vs 2),.int .i64 (o.b4 m).length,ck (vs 3),ck (vs 4)] T.g):=bA;dsimp only[ck] at bA;refine aa ?_;intro bj ew b0;have g24:=g23.mod (ew.mod (A:=fun k=>k=ch) rfl) fun i k ad hk e=>by subst e;exact g23.not aO (by decide) i ad hk
 have bK:w.heap.size≤ar.heap.size:=by omega
 have qa:=fun(i:Nat) (ad:i<5)=>br.new (e:=T.a) (enc:=eb) (fun _=>rfl) (br.low bK (g24.own i ad));obtain⟨f1,f2,f3⟩:=o.WG bP;have hd:o.eF (o.b4 m) (o.b4 m).length 0=(o.layout m).vars:=by show o.hr 1 ((o.b4 m).take _) 0=_;rw[List.take_length,f1];rfl
 have fP:o.eF (o.b4 m) (o.b4 m).length 1=(o.layout m).aK:=by show o.hr 2 ((o.b4 m).take _) 0=_;rw[List.take_length,f2];rfl
 have gI:o.eF (o.b4 m) (o.b4 m).length 2=(o.layout m).insts:=by show o.hr 3 ((o.b4 m).take _) 0=_;rw[List.take_length,f3];rfl
 have hQ:o.eF (o.b4 m) (o.b4 m).length 3=(o.layout m).bk:=by show((o.b4 m).take _).map _=_;rw[List.take_length];rfl
 have kh:o.eF (o.b4 m) (o.b4 m).length 4=(o.layout m).ad:=by show((o.b4 m).take _).map _=_;rw[List.take_length];rfl
 refine aa ?_;refine⟨⟨[_,_,_,_,_,_],rfl,fun fU p6=>⟨⟨_,_,_,_,_,rfl,?_,?_,?_,?_,?_⟩⟩⟩,ew.ext (gP.ext cQ (by omega)) (by omega)⟩
 ·rw[←hd];exact qa 0 (by decide) fU p6
 ·rw[←fP];exact qa 1 (by decide) fU p6
 ·rw[←gI];exact qa 2 (by decide) fU p6
 ·rw[←hQ];exact qa 3 (by decide) fU p6
 ·rw[←kh];exact qa 4 (by decide) fU p6
theorem RO(cs:List Value)(m:o.Model)(w:World)(h:o.eh w cs m)(aX:m.cM) :
  bw Tryz.prog F.x0 #[.agg cs.toArray] w fun v w'=>(∃xs,v = .agg xs.toArray∧ea w (fun w=>o.h6 w xs (o.lay m)) w')∧Ext w w':=by
 have bP:=h;obtain⟨cG,bR,cu,c1,cA,c2,cw,bN,cP,bX,rfl,_⟩:=h.form;refine bO E.x0 ?_;refine bH ?_;refine aa ?_;intro ar bz cN aE al;refine aa ?_;intro aW ch en aF aO;have fx:=cL al;replace al:=aF.obj al;have z2:=cL aO;have z3:=aE.size;have aZ:=aE.trans aF;refine aa ?_;refine K.call (W3 _ m aW (bP.ext aZ) aX) ?_;rintro _ bh ⟨rfl,av⟩;replace al:=av.obj al;replace aO:=av.obj aO;have bJ:=aZ.trans av;by_cases hk:(o.check m).cY=0
 ·rw[decide_eq_true hk];refine aa ?_;refine K.call (acR _ m bh (bP.ext bJ) aX (o.o6 hk)) ?_;rintro _ bj ⟨⟨xs,rfl,dM⟩,aH⟩;obtain⟨km,d0,k4,d1,k5,d2,mV,d3,mc,d4,rfl,_⟩:=dM.here.form;replace aO:=aH.obj aO;have b5:=bJ.trans aH;have z4:=av.size;refine aa ?_;intro bV fY cW;have aM:=dM.wr fY (by omega);refine aa ?_;exact⟨⟨_,rfl,by rw[o.IC hk];exact aM.low bJ.size⟩,fY.ext b5 (by omega)⟩
 ·rw[decide_eq_false hk];refine aa ?_;intro bj ew b0;refine aa ?_;exact⟨⟨[_,_,_,_,_,_],rfl,by rw[o.QP hk];exact fu.of fun _=>o.h6.zero _⟩,ew.ext bJ (by omega)⟩
abbrev gu(w:World)(v:Value)(l:List Int):Prop:=bE 1 (Flat eb) w v l
structure sQ(w:World)(b:Nat)(m:o.Model):Prop where
 ex:∃xs cs cB,w.heap[b]? = some (.cells (xs++cs++[cB]).toArray T.pJ)∧o.h6 w xs (o.layout m)∧o.eh w cs m∧pt w cB (o.insts m)
theorem sQ.ext{w w':World}{b:Nat}{m:o.Model}(he:Ext w w')(h:sQ w b m):sQ w' b m :=
 let ⟨xs,cs,cB,ak,h1,U,ai⟩:=h.ex; ⟨xs,cs,cB,he.obj ak,h1.ext he,U.ext he,ai.ext Flat.ext he⟩
theorem RL(cs:List Value)(m:o.Model)(w:World)(h:o.eh w cs m)(aX:m.cM)(a1:gf w) :
  bw Tryz.prog F.a3 #[.agg cs.toArray] w fun v w'=>((v = .pointer none∧¬(o.check m).cY=0)∨(∃b,v = .pointer (some ⟨b,0,none⟩)∧(o.check m).cY=0∧sQ w' b m))∧Ext w w':=by
 have bP:=h;obtain⟨cG,bR,cu,c1,cA,c2,cw,bN,cP,bX,rfl,_⟩:=h.form;refine bO E.a3 ?_;refine bH ?_;refine aa ?_;intro ar bz cN aE al;refine aa ?_;refine K.call (El _ m ar (bP.ext aE) aX (a1.ext aE)) ?_;rintro _ aW ⟨rfl,aF⟩;replace al:=aF.obj al;have aZ:=aE.trans aF;refine aa ?_;refine K.kI (v:=.int .i64 (o.check m).cY) rfl ?_;refine aa ?_;refine K.cond (fun hk=>?_) (fun hk=>?_);rotate_left
 ·refine aa ?_;exact⟨.inl ⟨bq,hk⟩,aZ⟩
 refine aa ?_;intro bh av;replace al:=av.obj al;have bJ:=aZ.trans av;refine aa ?_;refine K.call (QN _ m bh (bP.ext bJ) aX (a1.ext bJ)) ?_;rintro _ bj ⟨⟨xs,rfl,dM⟩,aH⟩;replace dM:=dM.here;rw[o.IC hk] at dM;obtain⟨km,d0,k4,d1,k5,d2,mV,d3,mc,d4,rfl,_⟩:=dM.form;have b5:=bJ.trans aH;refine⟨aH,?_⟩;refine aa ?_;refine K.call (Is _ m bj (bP.ext b5) aX) ?_;rintro cB bF ⟨fv,a8⟩;obtain⟨fw,ci,rfl,_⟩:=fv.form;have cf:=b5.trans a8;refine⟨aH.trans a8,?_⟩;refine aa ?_;intro bV ia gi bo cW;refine aa ?_;exact⟨.inr ⟨ia,rfl,hk,⟨_,_,_,cW,dM.ext (a8.trans bo),bP.ext (cf.trans bo),br.lI (enc:=o.eL.enc) (fun _=>rfl) (fv.ext bo)⟩⟩,cf.trans bo⟩
end Go.Proofs.R
end
section
namespace o
theorem RF{s:List Scalar}{c:dh}{l:List Int}(aN:l.length=1+c.cap.toNat)(ak:1≤c.cap):nM s c l↔(0≤l[0]'(by omega)∧l[0]'(by omega)≤c.cap∧∀k (h:k+1<l.length),((k:Int)<l[0]'(by omega)→(fy c.scalar c.bk c.ad s).bk≤l[k+1]∧l[k+1]≤(fy c.scalar c.bk c.ad s).ad)∧(l[0]'(by omega)≤k→l[k+1]=0)):=by
 unfold nM;constructor
 ·rintro⟨n,h1,U,ai,aL⟩;obtain⟨_,rfl⟩:=List.getElem?_eq_some_iff.1 h1;refine⟨U,ai,fun k h=>?_⟩;obtain⟨x,bt,bM⟩:=aL k (by omega);obtain⟨_,rfl⟩:=List.getElem?_eq_some_iff.1 bt;exact bM
 ·rintro⟨U,ai,aL⟩;exact⟨l[0]'(by omega),List.getElem?_eq_getElem _,U,ai,fun k h=>⟨l[k+1]'(by omega),List.getElem?_eq_getElem _,aL k (by omega)⟩⟩
end o
namespace Go.Proofs.R
open Go Go.RowKit bn
theorem sQ.form{w:World}{b:Nat}{m:o.Model}(h:sQ w b m):∃cG bR cu c1 cA c2 cw bN cP bX hP d0 fM d1 gR d2 iR d3 jT d4 fw ci,
  w.heap[b]? = some (.cells #[.slice cG (o.layout m).vars.length bR,.slice cu (o.layout m).aK.length c1,.slice cA (o.layout m).insts.length c2,.int .i64 (o.layout m).cells,.slice cw (o.layout m).bk.length bN,.slice cP (o.layout m).ad.length bX,
   .slice hP m.scalars.length d0,.slice fM m.vars.length d1,.slice gR m.aK.length d2,.slice iR m.procs.length d3,.slice jT m.props.length d4,.slice fw (o.insts m).length ci] T.pJ) ∧
  bE 1 (Flat eb) w (.slice cG (o.layout m).vars.length bR) (o.layout m).vars∧bE 1 (Flat eb) w (.slice cu (o.layout m).aK.length c1) (o.layout m).aK∧bE 1 (Flat eb) w (.slice cA (o.layout m).insts.length c2) (o.layout m).insts ∧
  bE 1 (Flat eb) w (.slice cw (o.layout m).bk.length bN) (o.layout m).bk∧bE 1 (Flat eb) w (.slice cP (o.layout m).ad.length bX) (o.layout m).ad ∧
  o.gW w (.slice hP m.scalars.length d0) m.scalars∧o.gL w (.slice fM m.vars.length d1) m.vars∧o.mf w (.slice gR m.aK.length d2) m.aK∧o.pw w (.slice iR m.procs.length d3) m.procs ∧
  pt w (.slice fw (o.insts m).length ci) (o.insts m):=by
 obtain⟨xs,cs,cB,aA,dM,bP,ct⟩:=h.ex;obtain⟨cG,bR,cu,c1,cA,c2,cw,bN,cP,bX,rfl,hd,fP,gI,hQ,kh⟩:=dM.form;obtain⟨hP,d0,fM,d1,gR,d2,iR,d3,jT,d4,rfl,ak,h1,U,ai,aL,_⟩:=bP.form;obtain⟨fw,ci,rfl,_⟩:=ct.form;exact⟨cG,bR,cu,c1,cA,c2,cw,bN,cP,bX,hP,d0,fM,d1,gR,d2,iR,d3,jT,d4,fw,ci,aA,hd,fP,gI,hQ,kh,ak,h1,U,ai,ct⟩
theorem aco(b i:Nat)(v:Value)(s:List Int)(m:o.Model)(w:World)(ba:sQ w b m)(bP:o.gF m)(ad:i<m.aK.length)(aw:gu w v s)(aN:s.length=o.eA m) :
  bw Tryz.prog F.dl #[.pointer (some ⟨b,0,none⟩),.int .i64 i,v] w fun u w'=>(∃t:Bool,u = .bool t∧(t=true↔o.nM m.scalars m.aK[i] (o.s6 m i m.aK[i] s)))∧Ext w w':=by
 obtain⟨cG,bR,cu,c1,cA,c2,cw,bN,cP,bX,hP,d0,fM,d1,gR,d2,iR,d3,jT,d4,fw,ci,aA,hd,fP,gI,hQ,kh,ak,h1,U,ai,ct⟩:=ba.form;obtain⟨e4,gN,rfl,fA⟩:=aw.form;have c4:=bP.chan _ (List.getElem_mem ad);have oX:=c4.cap;have hp:=bP.hp;obtain⟨jK,jJ⟩:=o.w4 ad;have vg:=o.zb ad;have hs:=o.qu m;have u2:o.eA m≤64:=o.mO bP;obtain⟨ac,rfl⟩:=U.addr (by omega);obtain⟨dF,rfl⟩:=fP.addr (by omega);have ev:=(U.at i ad).cells;refine bO E.dl ?_;refine bH ?_;refine ao ?_;intro ar wM kO aE er;replace aA:=aE.obj aA;replace ak:=ak.ext aE;replace fP:=fP.ext Flat.ext aE;replace aw:=aw.ext Flat.ext aE;clear ev h1 U ai ct hd gI hQ kh ba;refine ao ?_;refine K.fj (.tuple #[.int .i64 (o.fy m.aK[i].scalar m.aK[i].bk m.aK[i].ad m.scalars).bk,.int .i64 (o.fy m.aK[i].scalar m.aK[i].bk m.aK[i].ad m.scalars).ad]) (fun w' e=>by
  rw[show o.fy m.aK[i].scalar m.aK[i].bk m.aK[i].ad m.scalars=_ from o.wQ ⟨⟨#[]⟩,m.aK[i].scalar,0,m.aK[i].bk,m.aK[i].ad,0⟩ m.scalars];exact F3 ⟨⟨#[]⟩,m.aK[i].scalar,0,m.aK[i].bk,m.aK[i].ad,0⟩ _ m.scalars w' (ak.ext e)) ?_
 refine ao ?_;intro aW aF;replace aA:=aF.obj aA;replace fP:=fP.ext Flat.ext aF;replace aw:=aw.ext Flat.ext aF;replace er:=aF.obj er;have aZ:=aE.trans aF;obtain⟨bk,ky⟩:∃bk,bk=(o.fy m.aK[i].scalar m.aK[i].bk m.aK[i].ad m.scalars).bk:=⟨_,rfl⟩;obtain⟨cr,Ag⟩:∃ad,ad=(o.fy m.aK[i].scalar m.aK[i].bk m.aK[i].ad m.scalars).ad:=⟨_,rfl⟩;rw[←ky,←Ag];refine ao ?_;refine K.yk (k:=.i64) (k':=.i64) (o.gx m i) (o.gx m i+(1+m.aK[i].cap.toNat)) aw (by simp[eS,ca,jJ]) (by simp[eS,ca,jJ];omega) (by omega) (by omega) fun aj c bg=>?_;rw[show o.gx m i+(1+m.aK[i].cap.toNat) - o.gx m i=1+m.aK[i].cap.toNat from by omega] at bg ⊢;obtain⟨l,dM⟩:∃l,l=o.s6 m i m.aK[i] s:=⟨_,rfl⟩;have bg:bE 1 (Flat eb) aW (.slice aj (1+m.aK[i].cap.toNat) c) l:=by rw[dM];exact bg
 have tx:l.length=1+m.aK[i].cap.toNat:=bg.len.1.symm;rw[←dM];obtain⟨ap,rfl⟩:=bg.addr (by omega);refine ao ?_;intro bh av;replace bg:=bg.ext Flat.ext av;replace er:=av.obj er;have bJ:=aZ.trans av;have aJ:=o.RF (s:=m.scalars) (c:=m.aK[i]) (l:=l) tx oX.1;rw[←ky,←Ag] at aJ;refine ao ?_;refine K.du 0 rfl (by omega) ?_;refine ao ?_;apply K.cond<;>intro g1
 ·refine ao ?_;intro bj aH;exact⟨⟨false,rfl,by simp only[Bool.false_eq_true,false_iff];intro h;exact absurd (aJ.1 h).1 (by omega)⟩,bJ.trans aH⟩
 refine ao ?_;refine K.du 0 rfl (by omega) ?_;refine ao ?_;intro bj aH;replace bg:=bg.ext Flat.ext aH;replace er:=aH.obj er;replace bJ:=bJ.trans aH;apply K.cond<;>intro g2
 ·refine ao ?_;exact⟨⟨false,rfl,by simp only[Bool.false_eq_true,false_iff];intro h;exact absurd (aJ.1 h).2.1 (by omega)⟩,bJ⟩
 have aG:=bg.tail 1 (by omega);refine ao ?_;refine K.Sn (k:=.i64) 1 (by simp[mA]) ⟨by omega,bg.len.2.1⟩ ?_;obtain⟨I2,het⟩:∃I2,I2=(if c=1 then some ap else (some ap).map (·.add (1*1))):=⟨_,rfl⟩;rw[←het] at aG ⊢;have PT:(l.drop 1).length=m.aK[i].cap.toNat:=by rw[List.length_drop];omega
 rw[show 1+m.aK[i].cap.toNat - 1=m.aK[i].cap.toNat from by omega] at aG ⊢;refine ao ?_;refine K.cV 74 m.aK[i].cap.toNat [7,8,9,10,72,73] (fun _:Unit=>[]) () (fun k _ W=>Ext bj W∧∀j (h:j+1<l.length),j<k→((j:Int)<l[0]→bk≤l[j+1]∧l[j+1]≤cr)∧(l[0]≤j→l[j+1]=0)) bp bp ⟨Ext.refl _,fun j _ h=>absurd h (Nat.not_lt_zero _)⟩ ?_;have G9:=er;clear er;rintro k _ S bF hk ⟨a8,c6⟩;have er:=a8.obj G9;have b5:=bJ.trans a8;refine ao ?_;apply K.cond<;>intro g3
 ·have bd:k<(l.drop 1).length:=by omega
  have cp:k+1<l.length:=by omega
  obtain⟨at_,rfl⟩:=aG.addr (by omega);have aS:(l.drop 1)[k]=l[k+1]:=by simp[Nat.add_comm]
  have bad:¬(((k:Int)<l[0]→bk≤l[k+1]∧l[k+1]≤cr)∧(l[0]≤k→l[k+1]=0))→(false=true↔o.nM m.scalars m.aK[i] l):=fun h=>by
   simp only[Bool.false_eq_true,false_iff];exact fun cR=>h ((aJ.1 cR).2.2 k cp)
  refine ao ?_;refine K.du 0 rfl (by omega) ?_;refine ao ?_;apply K.cond<;>intro g4
  ·refine ao ?_;apply K.cond<;>intro g5
   ·refine ao ?_;exact⟨⟨false,rfl,bad fun h=>by have:=h.1 g4;omega⟩,b5⟩
   refine ao ?_;apply K.cond<;>intro g6
   ·refine ao ?_;exact⟨⟨false,rfl,bad fun h=>by have:=h.1 g4;omega⟩,b5⟩
   refine ao ?_;refine K.du 0 rfl (by omega) ?_;refine ao ?_;refine⟨by omega,bq,(),trivial,a8,fun j h aP=>?_⟩;by_cases fL:j=k
   ·subst fL;exact⟨fun _=>by omega,fun _=>by omega⟩
   ·exact c6 j h (by omega)
  ·refine ao ?_;refine K.du 0 rfl (by omega) ?_;refine ao ?_;apply K.cond<;>intro g5
   ·refine ao ?_;refine⟨by omega,bq,(),trivial,a8,fun j h aP=>?_⟩;by_cases fL:j=k
    ·subst fL;exact⟨fun _=>by omega,fun _=>by omega⟩
    ·exact c6 j h (by omega)
   ·refine ao ?_;exact⟨⟨false,rfl,bad fun h=>by have:=h.2 (by omega);omega⟩,b5⟩
 ·refine ao ?_;exact⟨⟨true,rfl,by simp only[true_iff];exact aJ.2 ⟨by omega,by omega,fun j h=>c6 j h (by omega)⟩⟩,b5⟩
end Go.Proofs.R
end
section
namespace o
theorem QT(m:Model):(layout m).bk.length=(b4 m).length:=by simp[layout,xO]
theorem QR(m:Model):(layout m).ad.length=(b4 m).length:=by simp[layout,xO]
theorem QS{m:Model}{c:Nat}(h:c<(layout m).bk.length)(bB:c<(b4 m).length):(layout m).bk[c]=(b4 m)[c].bk:=by simp[layout,xO]
theorem QQ{m:Model}{c:Nat}(h:c<(layout m).ad.length)(bB:c<(b4 m).length):(layout m).ad[c]=(b4 m)[c].ad:=by simp[layout,xO]
theorem IE(m:Model):(layout m).vars.length=m.vars.length∧(layout m).aK.length=m.aK.length∧(layout m).insts.length=(insts m).length:=by
 refine⟨?_,?_,?_⟩<;>simp[layout,xO,q6,cT,dN,eB]
end o
namespace Go.Proofs.R
open Go Go.RowKit bn
theorem RR(b:Nat)(v:Value)(s:List Int)(m:o.Model)(w:World)(ba:sQ w b m)(bP:o.gF m)(aw:gu w v s) :
  bw Tryz.prog F.a4 #[.pointer (some ⟨b,0,none⟩),v] w fun u w'=>(∃t:Bool,u = .bool t∧(t=true↔o.Fits m s))∧Ext w w':=by
 obtain⟨cG,bR,cu,c1,cA,c2,cw,bN,cP,bX,hP,d0,fM,d1,gR,d2,iR,d3,jT,d4,fw,ci,aA,hd,fP,gI,hQ,kh,ak,h1,U,ai,ct⟩:=ba.form;obtain⟨e4,gN,rfl,fA⟩:=aw.form;have Od:(o.layout m).cells=(o.eA m:Int):=rfl;have f2:=o.QT m;have f3:=o.QR m;have u2:o.eA m≤64:=o.mO bP;have hp:=bP.hp;refine bO E.a4 ?_;refine bH ?_;refine ao ?_;apply K.cond<;>intro g1;rotate_left
 ·refine ao ?_;exact⟨⟨false,rfl,by simp only[Bool.false_eq_true,false_iff];intro h;have:=h.len;omega⟩,Ext.refl _⟩
 have aN:s.length=o.eA m:=by omega
 clear ak h1 ai ct hd fP gI;refine ao ?_;refine K.cV 22 m.aK.length [0,1,20,21] (fun _:Unit=>[]) () (fun k _ W=>Ext w W∧∀j (h:j<m.aK.length),j<k→o.nM m.scalars m.aK[j] (o.s6 m j m.aK[j] s)) bp bp ⟨Ext.refl _,fun j _ h=>absurd h (Nat.not_lt_zero _)⟩ ?_;rintro k _ S ar hk ⟨aE,c6⟩;refine ao ?_;apply K.cond<;>intro g2
 ·have bd:k<m.aK.length:=by omega
  refine ao ?_;refine K.call (aco b k _ s m ar (ba.ext aE) bP bd (aw.ext Flat.ext aE) aN) ?_;rintro _ aW ⟨⟨t,rfl,aG⟩,aF⟩;cases t with
  | false =>
   refine ao ?_;exact⟨⟨false,rfl,by simp only[Bool.false_eq_true,false_iff];intro h;exact absurd (aG.2 (h.queue k bd)) (by simp)⟩,aE.trans aF⟩
  | true =>
   refine ao ?_;refine⟨bd,bq,(),trivial,aE.trans aF,fun j h aP=>?_⟩;by_cases fL:j=k
   ·subst fL;exact aG.1 rfl
   ·exact c6 j h (by omega)
 have Zk:∀j (h:j<m.aK.length),o.nM m.scalars m.aK[j] (o.s6 m j m.aK[j] s):=fun j h=>c6 j h (by omega);have Dr:=aE.obj aA;refine ao ?_;refine K.cV 33 s.length [0,1,31,32] (fun _:Unit=>[]) () (fun k _ W=>W=ar∧∀j (h:j<s.length) (bB:j<(o.b4 m).length),j<k→(o.b4 m)[j].bk≤s[j]∧s[j]≤(o.b4 m)[j].ad) bp bp ⟨rfl,fun j _ _ h=>absurd h (Nat.not_lt_zero _)⟩ ?_;clear aA;rintro k' _ a6 aW cp ⟨rfl,xh⟩;refine ao ?_;apply K.cond<;>intro g3
 ·have bd:k'<s.length:=by omega
  have kT:k'<(o.b4 m).length:=by unfold o.eA at aN;omega
  have dK:(o.layout m).bk[k']'(by omega)=(o.b4 m)[k'].bk:=o.QS _ kT;have ed:(o.layout m).ad[k']'(by omega)=(o.b4 m)[k'].ad:=o.QQ _ kT;obtain⟨wL,rfl⟩:=aw.addr (by omega);obtain⟨a3,rfl⟩:=hQ.addr (by omega);obtain⟨a4,rfl⟩:=kh.addr (by omega);have bad:¬((o.b4 m)[k'].bk≤s[k']∧s[k']≤(o.b4 m)[k'].ad)→(false=true↔o.Fits m s):=fun h=>by
   simp only[Bool.false_eq_true,false_iff];exact fun cR=>h (cR.cell k' bd kT)
  refine ao ?_;apply K.cond<;>intro g4
  ·refine ao ?_;exact⟨⟨false,rfl,bad (by omega)⟩,aE⟩
  refine ao ?_;apply K.cond<;>intro g5
  ·refine ao ?_;exact⟨⟨false,rfl,bad (by omega)⟩,aE⟩
  refine ao ?_;refine⟨bd,bq,(),trivial,bq,fun j h bB aP=>?_⟩;by_cases fL:j=k'
  ·subst fL;omega
  ·exact xh j h bB (by omega)
 ·refine ao ?_;exact⟨⟨true,rfl,by simp only[true_iff];exact⟨aN,Zk,fun j h bB=>xh j h bB (by omega)⟩⟩,aE⟩
end Go.Proofs.R
end