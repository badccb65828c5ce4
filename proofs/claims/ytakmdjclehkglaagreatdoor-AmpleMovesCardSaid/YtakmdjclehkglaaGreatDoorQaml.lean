/- Parts. -/
import Derived.Test.YtakmdjclehkglaaGreatDoorQamk
import Derived.Lib.SlKeysI
import Derived.Maps.OwnSet
set_option linter.all false
set_option maxRecDepth 8000
set_option maxHeartbeats 16000000
namespace ba
open Go Go.RowKit
def _q{P:D_}{cO:B_->A_->Prop}{α:Type}{enc:α->C_ B_}{e:F_}{sz base n:Nat}{w:A_}{vs:Nat->H_ Addr×Nat×Nat}{xs:Nat->C_ α}{ty:F_}{b:Nat}{a:Addr}{c:Nat}{y:α}{t}(i:Nat)(U:i<n)(h:iW enc e sz base w n vs xs)(dt:∀x,(enc x).length=sz)(an:ff w a (enc y))(h1:∀y,∀u∈enc y,u.oneCell'=true)
  (ak:((xs i).length+1)*b<=140737488355328)(lC:(xs i).length+1<=maxLen)(kR:base<=w.heap.size)
  (hk:∀bU w',iW enc e sz base w' n (fH vs i bU) (fH xs i (xs i++[y]))->w.grownBy w' (cm (vs i)).ownBlock->cO (cm bU) w'):mH P ty e sz b (cm (vs i)) (.slice (some a) 1 c) w cO t:=by
 unfold mH;exact iW.app i U h dt an h1 ak lC kR λbU w' a b _=>hk bU w' a b
end ba
namespace o
def P8{s:Int}{l:C_ Cell}{k:Nat}(h:k<l.length):jv s (l.take (k+1)) 0=jv s (l.take k) 0++(if l[k].place=0/\l[k].sort=s then [(k:Int)] else []):=by
 rw[MR h,FI];simp only[jv,List.append_nil,List.length_take,Nat.zero_add];rw[show min k l.length=k from Aw]
theorem ZG(s:Int):∀(l:C_ Cell) (i:Nat),(jv s l i).length<=l.length
 | [],_=>by simp[jv]
 | x :: r,i=>by
  have:=ZG s r (i+1)
  simp only[jv,List.length_append,List.length_cons];split<;>simp<;>omega
def kG(l:C_ Cell)(k:Nat):Nat->C_ Int:=λi=>if i=0 then jv 1 (l.take k) 0 else if i=1 then jv 2 (l.take k) 0 else if i=2 then jv 3 (l.take k) 0 else if i=3 then (l.take k).map (·.aV) else (l.take k).map (·.U)
end o
namespace Go.Proofs.R
open Go Go.RowKit ba o
abbrev lL(R:Nat->C_ Int)(j:Nat)(s:Int)(x:o.Cell)(k:Nat):Nat->C_ Int:=fH R j (R j++if x.place=0/\x.sort=s then [(k:Int)] else [])
def Eb:C_ F_:=[T.a,T.h]
def mR(vs:Nat->fk)(n:Int):Array B_:=#[cm (vs 0),cm (vs 1),cm (vs 2),.int .i64 n,cm (vs 3),cm (vs 4)]
structure p5(w1:World)(b:Nat)(xs:Nat->List Int)(n:Int)(W:World):Prop where
 mod:Mod (λk=>k=b) w1 W
 ex:∃vs:Nat->fk,W.heap[b]? = some (.cells (mR vs n) T.h)/\iW bX T.a 1 w1.heap.size W 5 vs xs
def p5.congr{w1:A_}{b:Nat}{xs H8:Nat->C_ Int}{n:Int}{W:A_}(h:p5 w1 b xs n W)(ah:∀i,i<5->xs i=H8 i):p5 w1 b H8 n W :=
 let ⟨vs,g1,g2⟩:=h.ex; ⟨h.mod,vs,g1,g2.congr (λ_ _=>rfl) ah⟩
def Hl{w1:A_}{b:Nat}{xs:Nat->C_ Int}{n y:Int}{W qO lU sA:A_}{vs:Nat->fk}{bU:fk}{i:Nat}(U:i<5)(hm:Mod (λk=>k=b) w1 W)(g1:W.heap[b]? = some (.cells (mR vs n) T.h))(g2:iW bX T.a 1 w1.heap.size W 5 vs xs)
  (he:Ext W qO)(aG:qO.grownBy lU (cm (vs i)).ownBlock)(aS:iW bX T.a 1 w1.heap.size lU 5 (fH vs i bU) (fH xs i (xs i++[y])))(hw:dw b lU sA)(an:sA.heap[b]? = some (.cells (mR (fH vs i bU) n) T.h)) :
  p5 w1 b (fH xs i (xs i++[y])) n sA/\eV Eb W sA:=by
 have zy:Mod (λk=>(cm (vs i)).ownBlock=some k) qO lU:=Mod.grown aG λk hk=>hk;have g5:=he.obj g1;have g6:lU.heap[b]? = some (.cells (mR vs n) T.h):=zy.obj ((g2.ext he).not g5 BS i U) g5;refine⟨⟨?_,_,an,aS.mod (hw.mod (A:=λk=>k=b) rfl) λj k ay hk e=>?_⟩,?_⟩
 .have h1:Mod (λk=>k=b) w1 qO:=hm.comp (A':=λ_=>False) he.mod (λ_ _ a=>a) λ_ _ a=>a.elim;have J:Mod (λk=>k=b) w1 lU:=h1.comp zy (λ_ _ a=>a) λj ay a=>by have:=(g2.lt i j U a).1;omega
  exact J.trans (hw.mod rfl)
 .subst e;exact aS.not g6 BS j ay hk
 .refine((eV.ext he).trans (eV.mod zy λk c t an a=>?_)).trans (eV.wr hw g6 BS);obtain⟨cur,h⟩:=((g2.ext he).own i U).cy k a;rw[an] at h;injection h with h;injection h with _ h;rw[h];decide
def T1(cs:C_ B_)(m:o.Model)(w:A_)(h:dh w cs m)(aG:m.cr)(aL:eE m) :
  Ei F.L5 #[.agg cs.toArray] w λv w'=>(∃xs,v = .agg xs.toArray/\er w (λw=>jq w xs (o.layout m)) w')/\Ext w w':=by
 have b2:=h;obtain⟨bZ,bz,bN,c1,bT,c2,bW,bw,b1,bD,rfl,_⟩:=h.form;have jN:=iH aL;refine bk E.L5 ?_;refine aa ?_;intro NW bx cN r2 al;have c7:=cq al;refine aa ?_;intro NX bP c8 q8 ao;have dE:=cq ao;replace al:=q8.obj al;refine aa ?_;intro w1 bV eX om a8;replace al:=om.obj al;replace ao:=om.obj ao;have ed:=cq a8;have jY:=r2.size;have jK:=q8.size;have sn:=om.size;have n13:bx≠bV:=Aw
 have bG:=(r2.trans q8).trans om;refine aa ?_;refine J_ (asF _ m w1 (b2.ext bG) aG aL) ?_;rintro dQ zS ⟨dN,q9⟩;obtain⟨aqE,ahX,rfl,_⟩:=dN.form;have kH:p5 w1 bV (kG (cp m) 0) 0 zS:=⟨q9.mod,λ_=>(none,0,0),q9.obj a8,⟨λi U=>by
   have e:kG (cp m) 0 i=[]:=by unfold kG; (repeat' split)<;>simp[jv]
   rw[e];exact aK.nil _ _ _ _ _,λi j k _ _ _ e=>by cases e⟩⟩
 have pa:∀{xs n W},p5 w1 bV xs n W->W.heap[bx]? = w1.heap[bx]? := λh=>h.mod.block _ Aw n13;have hb:∀{xs n W},p5 w1 bV xs n W->W.heap[bP]? = w1.heap[bP]? := λh=>h.mod.block _ Aw Aw;have de:∀{xs n W},p5 w1 bV xs n W->Ext w W:=λh=>h.mod.ext bG λi U e=>Aw
 have jQ:∀{W:A_},eV Eb zS W->bm 6 (Flat o.Cell.enc) W (.slice aqE (cp m).length ahX) (cp m):=λk=>aK.e4 (enc:=o.Cell.enc) (λ_=>rfl) (dN.iG k BS);rw[ao] at hb;clear al ao a8 dN;refine aa ?_;refine L_ 5 (cp m).length [1,2,3,4] (λ_:Unit=>[]) () (λk _ W=>p5 w1 bV (kG (cp m) k) 0 W/\eV Eb zS W) a6 a6 ⟨kH,eV.refl⟩ ?_;clear kH;rintro k _ S az hk ⟨aj,pc⟩;have dN:=jQ pc;obtain⟨auW,g1,g2⟩:=aj.ex;refine aa ?_;apply I_<;>intro g0
 .have a1:k<(cp m).length:=Aw
  obtain⟨a,rfl⟩:=dN.addr;clear g1 g2;obtain⟨x,ah⟩:∃x,x=(cp m)[k]:=⟨_,rfl⟩;have hM:∀i,(kG (cp m) k i).length<=100:=λi=>by
   unfold kG;have q:=λs=>ZG s ((cp m).take k) 0;have c7:=q 1;have dE:=q 2;have ed:=q 3
   (repeat' split)<;>simp only[List.length_map,List.length_take] at * <;> omega
  refine dV ?_;simp -dsimp only[cK];refine dV ?_;refine R_ [1,2,3,4,5] (λ_:Unit=>[]) (λ_ W=>p5 w1 bV (lL (kG (cp m) k) 0 1 x k) 0 W/\eV Eb zS W) ?_ ?_
  .have dN:=jQ pc;obtain⟨vs,g1,g2⟩:=aj.ex;have og:=g1;unfold mR at g1;dsimp only[cm] at g1;have same:¬(x.place=0/\x.sort=1)->p5 w1 bV (lL (kG (cp m) k) 0 1 x k) 0 az:=λe=>aj.congr λj ay=>by
    unfold lL fH;by_cases a:j=0
    .subst a;simp[e]
    .simp[a]
   refine aa ?_;rw[<-ah];apply I_<;>intro g3
   .refine aa ?_;rw[<-ah];apply I_<;>intro g4
    .refine aa ?_;intro bg dJ jc ar bI;have fT:=aj.mod.size;have z2:=ar.size;have hlen:((kG (cp m) k) 0).length<=100:=hM 0;have pG:=g2.ext ar;have g15:=ar.obj og;refine _q (y:=(k:Int)) 0 BS pG (λ_=>rfl) (hK bI) ht Aw (by unfold maxLen;omega) Aw λbU bp dk ie=>?_;have e8:bp.heap[bV]? = some (.cells (mR vs 0) T.h):=(Mod.grown (A:=λk=>(cm (vs 0)).ownBlock=some k) ie λk hk=>hk).obj (pG.not g15 BS 0 BS) g15;have xb:=e8;unfold mR at e8;refine aa ?_;intro bH dz b3;obtain⟨kB,vN⟩:=Hl BS aj.mod og g2 ar ie dk dz b3;refine aa ?_;refine⟨(),trivial,kB.congr λj ay=>?_,pc.trans vN⟩;have e:(if x.place=0/\x.sort=1 then [(k:Int)] else [])=[(k:Int)]:=if_pos ⟨g3,g4⟩;unfold lL;rw[e]
    .refine aa ?_;exact⟨(),trivial,same λe=>g4 e.2,pc⟩
   .refine aa ?_;exact⟨(),trivial,same λe=>g3 e.1,pc⟩
  rintro _ S et ⟨KP,K7⟩;refine dV ?_;refine R_ [1,2,3,4,5] (λ_:Unit=>[]) (λ_ W=>p5 w1 bV (lL (lL (kG (cp m) k) 0 1 x k) 1 2 x k) 0 W/\eV Eb zS W) ?_ ?_
  .have dN:=jQ K7;obtain⟨vs,g1,g2⟩:=KP.ex;have og:=g1;unfold mR at g1;dsimp only[cm] at g1;have same:¬(x.place=0/\x.sort=2)->p5 w1 bV (lL (lL (kG (cp m) k) 0 1 x k) 1 2 x k) 0 et:=λe=>KP.congr λj ay=>by
    unfold lL fH;by_cases a:j=1
    .subst a;simp[e]
    .simp[a]
   refine aa ?_;rw[<-ah];apply I_<;>intro g3
   .refine aa ?_;rw[<-ah];apply I_<;>intro g4
    .refine aa ?_;intro bg dJ jc ar bI;have fT:=KP.mod.size;have z2:=ar.size;have hlen:((lL (kG (cp m) k) 0 1 x k) 1).length<=100:=hM 1;have pG:=g2.ext ar;have g15:=ar.obj og;refine _q (y:=(k:Int)) 1 BS pG (λ_=>rfl) (hK bI) ht Aw (by unfold maxLen;omega) Aw λbU bp dk ie=>?_;have e8:bp.heap[bV]? = some (.cells (mR vs 0) T.h):=(Mod.grown (A:=λk=>(cm (vs 1)).ownBlock=some k) ie λk hk=>hk).obj (pG.not g15 BS 1 BS) g15;have xb:=e8;unfold mR at e8;refine aa ?_;intro bH dz b3;obtain⟨kB,vN⟩:=Hl BS KP.mod og g2 ar ie dk dz b3;refine aa ?_;refine⟨(),trivial,kB.congr λj ay=>?_,K7.trans vN⟩;have e:(if x.place=0/\x.sort=2 then [(k:Int)] else [])=[(k:Int)]:=if_pos ⟨g3,g4⟩;unfold lL;rw[e]
    .refine aa ?_;exact⟨(),trivial,same λe=>g4 e.2,K7⟩
   .refine aa ?_;exact⟨(),trivial,same λe=>g3 e.1,K7⟩
  rintro _ S ft ⟨KQ,K8⟩;refine dV ?_;refine R_ [1,2,3,4,5] (λ_:Unit=>[]) (λ_ W=>p5 w1 bV (lL (lL (lL (kG (cp m) k) 0 1 x k) 1 2 x k) 2 3 x k) 0 W/\eV Eb zS W) ?_ ?_
  .have dN:=jQ K8;obtain⟨vs,g1,g2⟩:=KQ.ex;have og:=g1;unfold mR at g1;dsimp only[cm] at g1;have same:¬(x.place=0/\x.sort=3)->p5 w1 bV (lL (lL (lL (kG (cp m) k) 0 1 x k) 1 2 x k) 2 3 x k) 0 ft:=λe=>KQ.congr λj ay=>by
    unfold lL fH;by_cases a:j=2
    .subst a;simp[e]
    .simp[a]
   refine aa ?_;rw[<-ah];apply I_<;>intro g3
   .refine aa ?_;rw[<-ah];apply I_<;>intro g4
    .refine aa ?_;intro bg dJ jc ar bI;have fT:=KQ.mod.size;have z2:=ar.size;have hlen:((lL (lL (kG (cp m) k) 0 1 x k) 1 2 x k) 2).length<=100:=hM 2;have pG:=g2.ext ar;have g15:=ar.obj og;refine _q (y:=(k:Int)) 2 BS pG (λ_=>rfl) (hK bI) ht Aw (by unfold maxLen;omega) Aw λbU bp dk ie=>?_;have e8:bp.heap[bV]? = some (.cells (mR vs 0) T.h):=(Mod.grown (A:=λk=>(cm (vs 2)).ownBlock=some k) ie λk hk=>hk).obj (pG.not g15 BS 2 BS) g15;have xb:=e8;unfold mR at e8;refine aa ?_;intro bH dz b3;obtain⟨kB,vN⟩:=Hl BS KQ.mod og g2 ar ie dk dz b3;refine aa ?_;refine⟨(),trivial,kB.congr λj ay=>?_,K8.trans vN⟩;have e:(if x.place=0/\x.sort=3 then [(k:Int)] else [])=[(k:Int)]:=if_pos ⟨g3,g4⟩;unfold lL;rw[e]
    .refine aa ?_;exact⟨(),trivial,same λe=>g4 e.2,K8⟩
   .refine aa ?_;exact⟨(),trivial,same λe=>g3 e.1,K8⟩
  rintro _ S hf ⟨Sg,acY⟩;have dN:=jQ acY;obtain⟨vs,g1,g2⟩:=Sg.ex;have og:=g1;unfold mR at g1;dsimp only[cm] at g1;refine aa ?_;intro bg ar;replace dN:=dN.ext Flat.ext ar;replace g1:=ar.obj g1;refine aa ?_;intro bp dm e8 aC bS;refine⟨aC,?_⟩;have xg:=ar.trans aC;have fT:=Sg.mod.size;have z2:=xg.size;have hlen:(kG (cp m) k 3).length<=100:=hM 3;have pG:=g2.ext xg;have g15:=xg.obj og;refine _q (y:=(cp m)[k].aV) 3 BS pG (λ_=>rfl) (hK bS) ht (by unfold lL;rw[show(fH _ 2 _ 3:C_ Int)=kG (cp m) k 3 from rfl];omega) (by unfold lL;rw[show(fH _ 2 _ 3:C_ Int)=kG (cp m) k 3 from rfl];unfold maxLen;omega) Aw λbU bH dY jR=>?_;have hi:bH.heap[bV]? = some (.cells (mR vs 0) T.h):=(Mod.grown (A:=λk=>(cm (vs 3)).ownBlock=some k) jR λk hk=>hk).obj (pG.not g15 BS 3 BS) g15;have F7:=hi;unfold mR at hi;refine aa ?_;intro ayt ji cF;obtain⟨R8,apc⟩:=Hl BS Sg.mod og g2 xg jR dY ji cF;clear g1 g2 og pG g15 dY hi F7 cF bS dN;have acW:=acY.trans apc;have dN:=jQ acW;obtain⟨vs,g1,g2⟩:=R8.ex;have og:=g1;unfold mR at g1;dsimp only[cm] at g1;refine aa ?_;intro bg ar;replace dN:=dN.ext Flat.ext ar;replace g1:=ar.obj g1;refine aa ?_;intro bp dm e8 aC bS;refine⟨aC,?_⟩;have xg:=ar.trans aC;have fT:=R8.mod.size;have z2:=xg.size;have hlen:(kG (cp m) k 4).length<=100:=hM 4;have pG:=g2.ext xg;have g15:=xg.obj og;refine _q (y:=(cp m)[k].U) 4 BS pG (λ_=>rfl) (hK bS) ht (by rw[show(fH _ 3 _ 4:C_ Int)=kG (cp m) k 4 from rfl];omega) (by rw[show(fH _ 3 _ 4:C_ Int)=kG (cp m) k 4 from rfl];unfold maxLen;omega) Aw λbU bH dY jR=>?_;have hi:bH.heap[bV]? = some (.cells (mR vs 0) T.h):=(Mod.grown (A:=λk=>(cm (vs 4)).ownBlock=some k) jR λk hk=>hk).obj (pG.not g15 BS 4 BS) g15;have F7:=hi;unfold mR at hi;refine aa ?_;intro ayu ji cF;obtain⟨aoi,apd⟩:=Hl BS R8.mod og g2 xg jR dY ji cF;clear g1 g2 og pG g15 dY hi F7 cF bS dN;have ape:=acW.trans apd;refine aa ?_;refine⟨a1,aJ,(),trivial,aoi.congr λj ay=>?_,ape⟩;subst ah;have a:j=0\/j=1\/j=2\/j=3\/j=4:=Aw
  rcases a with rfl | rfl | rfl | rfl | rfl
  .exact(P8 (s:=1) a1).symm
  .exact(P8 (s:=2) a1).symm
  .exact(P8 (s:=3) a1).symm
  .show(_:C_ Int)=((cp m).take (k+1)).map (·.aV);rw[MR a1,AF1];rfl
  .show(_:C_ Int)=((cp m).take (k+1)).map (·.U);rw[MR a1,AF1];rfl
 have o7:k=(cp m).length:=Aw
 subst o7;have df:=de aj;have ao:=hb aj;clear g1 g2;obtain⟨vs,g1,g2⟩:=aj.ex;have og:=g1;unfold mR at g1;dsimp only[cm] at g1;refine aa ?_;intro aM fF a8;have g23:=g2.mod (fF.mod (A:=λk=>k=bV) rfl) λi k U hk e=>by subst e;exact g2.not og BS i U hk
 replace ao:=fF.obj ao Aw;replace a8:aM.heap[bV]? = some (.cells #[cm (vs 0),cm (vs 1),cm (vs 2),.I (cp m).length,cm (vs 3),cm (vs 4)] T.h):=a8;dsimp only[cm] at a8;refine aa ?_;intro aR dT bn;have g24:=g23.mod (dT.mod (A:=λk=>k=bP) rfl) λi k U hk e=>by subst e;exact g23.not ao BS i U hk
 have bB:w.heap.size<=w1.heap.size:=Aw
 have uA:=λ(i:Nat) (U:i<5)=>aK.new (e:=T.a) (enc:=bX) (λ_=>rfl) (aK.low bB (g24.own i U));obtain⟨f1,f2,f3⟩:=akq aL;have dF:kG (cp m) (cp m).length 0=(o.layout m).vars:=by show jv 1 ((cp m).take _) 0=_;rw[AE8,f1];rfl
 have cR:kG (cp m) (cp m).length 1=(o.layout m).aA:=by show jv 2 ((cp m).take _) 0=_;rw[AE8,f2];rfl
 have cA:kG (cp m) (cp m).length 2=(o.layout m).insts:=by show jv 3 ((cp m).take _) 0=_;rw[AE8,f3];rfl
 have eN:kG (cp m) (cp m).length 3=(o.layout m).aV:=by show((cp m).take _).map _=_;rw[AE8];rfl
 have fs:kG (cp m) (cp m).length 4=(o.layout m).U:=by show((cp m).take _).map _=_;rw[AE8];rfl
 refine aa ?_;refine⟨⟨[_,_,_,_,_,_],rfl,λe9 uw=>⟨⟨_,_,_,_,_,rfl,?_,?_,?_,?_,?_⟩⟩⟩,dT.ext (fF.ext df Aw) Aw⟩
 .rw[<-dF];exact uA 0 BS e9 uw
 .rw[<-cR];exact uA 1 BS e9 uw
 .rw[<-cA];exact uA 2 BS e9 uw
 .rw[<-eN];exact uA 3 BS e9 uw
 .rw[<-fs];exact uA 4 BS e9 uw
def T0(cs:C_ B_)(m:o.Model)(w:A_)(h:dh w cs m)(aG:m.cr) :
  Ei F.L6 #[.agg cs.toArray] w λv w'=>(∃xs,v = .agg xs.toArray/\er w (λw=>jq w xs (lyz m)) w')/\Ext w w':=by
 have aL:=h;obtain⟨bZ,bz,bN,c1,bT,c2,bW,bw,b1,bD,rfl,_⟩:=h.form;refine bk E.L6 ?_;refine aa ?_;intro w1 bx cN af al;refine aa ?_;intro az bP c8 ai ao;have fT:=cq al;replace al:=ai.obj al;have z2:=cq ao;have z3:=af.size;have aD:=af.trans ai;refine aa ?_;refine J_ (akY _ m az (aL.ext aD) aG) ?_;rintro _ aM ⟨rfl,ag⟩;replace al:=ag.obj al;replace ao:=ag.obj ao;have aO:=aD.trans ag;by_cases hk:(o.check m).cJ=0
 .rw[decide_eq_true hk];refine aa ?_;refine J_ (T1 _ m aM (aL.ext aO) aG (gU hk)) ?_;rintro _ aR ⟨⟨xs,rfl,ck⟩,aq⟩;obtain⟨k1,d0,ir,d1,jn,d2,nt,d3,mG,d4,rfl,_⟩:=ck.here.form;replace ao:=aq.obj ao;have bo:=aO.trans aq;have z4:=ag.size;refine aa ?_;intro bp gJ bS;have aw:=ck.wr gJ Aw;refine aa ?_;exact⟨⟨_,rfl,by rw[zw hk];exact aw.low aO.size⟩,gJ.ext bo Aw⟩
 .rw[decide_eq_false hk];refine aa ?_;intro aR dT bn;refine aa ?_;exact⟨⟨[_,_,_,_,_,_],rfl,by rw[ac5 hk];exact gY.of λ_=>jq.zero _⟩,dT.ext aO Aw⟩
end Go.Proofs.R
namespace o
open Go
def gb(m:Model)(i:Nat):Nat:=total ((c6 m).take i)
def b6(m:Model)(i:Nat):Nat:=total (c6 m)+total ((dM m).take i)
def cV(m:Model)(i:Nat):Nat:=total (c6 m)+total (dM m)+total ((fG m).take i)
theorem ND(n:Nat):∀(ls:C_ (C_ eb)) (i:Nat) (h:i<(il n ls).length),(il n ls)[i]=((n+total (ls.take i):Nat):Int)
 | [],i,h=>by simp[il] at h
 | l :: r,0,h=>by simp[il,total]
 | l :: r,i+1,h=>by
  simp only[il,List.getElem_cons_succ,List.take_succ_cons,HZ];rw[ND (n+l.length) r i (by simpa[il] using h)];congr 1;omega
def di(m:Model):Nat:=(cp m).length
def nC(m:Model):di m=total (c6 m)+total (dM m)+total (fG m):=Hd m
def rB{m:Model}{i:Nat}(h:i<m.vars.length):∃bq:i<(layout m).vars.length,(layout m).vars[i]=(gb m i:Int):=by
 have bq:i<(il 0 (c6 m)).length:=by rw[uM];simpa[c6] using h
 exact⟨bq,by have:=ND 0 (c6 m) i bq;rw[S6] at this;exact this⟩
def qc{m:Model}{i:Nat}(h:i<m.aA.length):∃bq:i<(layout m).aA.length,(layout m).aA[i]=(b6 m i:Int):=by
 have bq:i<(il (total (c6 m)) (dM m)).length:=by rw[uM];simpa[dM] using h
 exact⟨bq,ND _ _ i bq⟩
def ow{m:Model}{i:Nat}(h:i<(insts m).length):∃bq:i<(layout m).insts.length,(layout m).insts[i]=(cV m i:Int):=by
 have bq:i<(il (total (c6 m)+total (dM m)) (fG m)).length:=by rw[uM];simpa[fG] using h
 exact⟨bq,ND _ _ i bq⟩
def sl{m:Model}{i:Nat}(h:i<m.vars.length):gb m i+(cells m.vars[i] m.scalars).toNat<=total (c6 m):=by
 have bq:i<(c6 m).length:=by simpa[c6] using h
 have:=Uy bq
 have e:(c6 m)[i].length=(cells m.vars[i] m.scalars).toNat:=by simp[c6,Ev]
 rw[e] at this;exact this
def wL{m:Model}{i:Nat}(h:i<m.aA.length):b6 m i+(1+m.aA[i].cap.toNat)<=total (c6 m)+total (dM m):=by
 have bq:i<(dM m).length:=by simpa[dM] using h
 have:=Uy bq
 have e:(dM m)[i].length=1+m.aA[i].cap.toNat:=by simp[dM,wN]
 rw[e] at this;unfold b6;omega
def SK{m:Model}{i:Nat}(h:i<(insts m).length):cV m i+(mB m (insts m)[i]).length<=di m:=by
 have bq:i<(fG m).length:=by simpa[fG] using h
 have:=Uy bq
 have e:(fG m)[i].length=(mB m (insts m)[i]).length:=by simp[fG]
 rw[e] at this;rw[nC];unfold cV;omega
def mh(s:C_ Scalar)(c:ea)(l:C_ Int):Prop :=
 ∃n,l[0]? = some n/\0<=n/\n<=c.cap/\∀k:Nat,(k:Int)<c.cap->∃x,l[k+1]? = some x/\((k:Int)<n->(e7 c.scalar c.aV c.U s).aV<=x/\x<=(e7 c.scalar c.aV c.U s).U)/\(n<=k->x=0)
def n4(m:Model)(i:Nat)(c:ea)(s:C_ Int):C_ Int:=(s.drop (b6 m i)).take (1+c.cap.toNat)
structure Fits(m:Model)(s:List Int):Prop where
 len:s.length=di m
 queue:∀i (h:i<m.aA.length),mh m.scalars m.aA[i] (n4 m i m.aA[i] s)
 cell:∀i (h:i<s.length) (bq:i<(cp m).length),(cp m)[i].aV<=s[i]/\s[i]<=(cp m)[i].U
def gE(m:Model)(s:C_ Int):Prop:=(check m).cJ=0/\Fits m s
def wG(m:Model)(s:C_ Int)(p:Int)(l:Int)(k:Nat):Nat:=((List.range k).filter λi=>decide (((insts m)[i]?.map (·.proc))=some p/\s[cV m i]? = some l)).length
def kP(m:Model)(s:C_ Int)(p:Nat)(n:Int)(k:Nat):C_ Int:=(List.range n.toNat).map λ(l:Nat)=>((wG m s (p:Int) (l:Int) k:Nat):Int)
def Nw(m:Model)(s:C_ Int)(inst:Int):C_ Int×Int :=
 match nth (insts m) inst with
 | some x=>((s.drop (cV m inst.toNat+1)).take ((mB m x).length - 1),x.elem)
 | none=>([],0)
def cX(m:Model)(s:C_ Int)(inst:Int):Env :=
 ⟨(List.range m.vars.length).map λi=>(s.drop (gb m i)).take (c6 m)[i]!.length,
  (List.range m.aA.length).map λi=>s[b6 m i]!,
  (Nw m s inst).1,
  (List.range m.procs.length).map λi=>kP m s i (m.procs[i]?.map (·.cn) |>.getD 0) (insts m).length,
  (Nw m s inst).2⟩
def val:C_ Nat->Nat
 | []=>0
 | d :: r=>d+256*val r
def Jj(n:Nat):C_ Nat:=if h:n=0 then [] else n % 256 :: Jj (n / 256)
termination_by n
decreasing_by omega
def adG:C_ Cell->C_ Int->Nat->Nat
 | x :: r,v :: s,n=>adG r s (n*(x.U - x.aV+1).toNat+(v - x.aV).toNat)
 | _,_,n=>n
def num(m:Model)(s:C_ Int):Nat:=adG (cp m) s 0
def fY(m:Model):Nat:=num m ((cp m).map (·.U))
def ahG(m:Model):Nat:=(Jj (fY m)).length
def fixed(k n:Nat):C_ Nat:=Jj n++List.replicate (k - (Jj n).length) 0
def bytes(m:Model)(s:C_ Int):C_ Nat:=(fixed (ahG m) (num m s)).reverse
end o
namespace Go.Proofs.R
open Go Go.RowKit ba o
abbrev c3(w:A_)(v:B_)(l:C_ Int):Prop:=bm 1 (Flat bX) w v l
structure yu(w:World)(b:Nat)(m:o.Model):Prop where
 ex:∃xs cs bK,w.heap[b]? = some (.cells (xs++cs++[bK]).toArray T.iN)/\jq w xs (o.layout m)/\dh w cs m/\ix w bK (o.insts m)
theorem yu.ext{w w':A_}{b:Nat}{m:o.Model}(he:Ext w w')(h:yu w b m):yu w' b m :=
 let ⟨xs,cs,bK,ad,h1,J,ab⟩:=h.ex; ⟨xs,cs,bK,he.obj ad,h1.ext he,J.ext he,ab.ext Flat.ext he⟩
def asx(cs:C_ B_)(m:o.Model)(w:A_)(h:dh w cs m)(aG:m.cr)(aS:gQ w) :
  Ei F.co #[.agg cs.toArray] w λv w'=>((v = .pointer none/\¬(o.check m).cJ=0)\/(∃b,v = .pointer (some ⟨b,0,none⟩)/\(o.check m).cJ=0/\yu w' b m))/\Ext w w':=by
 have aL:=h;obtain⟨bZ,bz,bN,c1,bT,c2,bW,bw,b1,bD,rfl,_⟩:=h.form;refine bk E.co ?_;refine aa ?_;intro w1 bx cN af al;refine aa ?_;refine J_ (zx _ m w1 (aL.ext af) aG (aS.ext af)) ?_;rintro _ az ⟨rfl,ai⟩;replace al:=ai.obj al;have aD:=af.trans ai;refine aa ?_;refine Y_ (v:=.I (o.check m).cJ) rfl ?_;refine aa ?_;refine I_ (λhk=>?_) (λhk=>?_);rotate_left
 .refine aa ?_;exact⟨.inl ⟨aJ,hk⟩,aD⟩
 refine aa ?_;intro aM ag;replace al:=ag.obj al;have aO:=aD.trans ag;refine aa ?_;refine J_ (He _ m aM (aL.ext aO) aG (aS.ext aO)) ?_;rintro _ aR ⟨⟨xs,rfl,ck⟩,aq⟩;replace ck:=ck.here;rw[zw hk] at ck;obtain⟨k1,d0,ir,d1,jn,d2,nt,d3,mG,d4,rfl,_⟩:=ck.form;have bo:=aO.trans aq;refine⟨aq,?_⟩;refine aa ?_;refine J_ (xA _ m aR (aL.ext bo) aG) ?_;rintro bK bg ⟨dP,ar⟩;obtain⟨ca,ci,rfl,_⟩:=dP.form;have bC:=bo.trans ar;refine⟨aq.trans ar,?_⟩;refine aa ?_;intro bp dm e8 aC bS;refine aa ?_;exact⟨.inr ⟨dm,rfl,hk,⟨_,_,_,bS,ck.ext (ar.trans aC),aL.ext (bC.trans aC),aK.e4 (enc:=cP.enc) (λ_=>rfl) (dP.ext aC)⟩⟩,bC.trans aC⟩
end Go.Proofs.R
namespace o
def Ld(m:Model):(layout m).aV.length=(cp m).length:=by simp[layout,Bz]
def Lb(m:Model):(layout m).U.length=(cp m).length:=by simp[layout,Bz]
def Lc{m:Model}{c:Nat}(h:c<(layout m).aV.length)(bq:c<(cp m).length):(layout m).aV[c]=(cp m)[c].aV:=by simp[layout,Bz]
def La{m:Model}{c:Nat}(h:c<(layout m).U.length)(bq:c<(cp m).length):(layout m).U[c]=(cp m)[c].U:=by simp[layout,Bz]
def pT(m:Model):(layout m).vars.length=m.vars.length/\(layout m).aA.length=m.aA.length/\(layout m).insts.length=(insts m).length:=by
 refine⟨?_,?_,?_⟩<;>simp[layout,Bz,uM,c6,dM,fG]
end o
namespace ba
open Go Go.RowKit
structure ID(es:Array MapEntry)(c:Nat)(L:List Int):Prop where
 Bx:∃l:List (Int×Value),iV (Value.int .i64) es.toList l/\(l.map (·.1)).Nodup/\(∀x,x∈l.map (·.1)↔x∈L)/\l.length<=L.length/\∀p∈l,∃z,p.2 = .int .i64 z
 born:∀e∈es.toList,e.born<c
 nodup:(es.toList.map (·.born)).Nodup
structure fB(w:World)(b:Nat)(L:List Int):Prop where
 ok:∀x∈L,-9223372036854775808<=x/\x<=9223372036854775807
 ex:∃es c,w.heap[b]? = some (.map es c)/\ID es c L
theorem fB.of{w w':A_}{b:Nat}{L:C_ Int}(h:fB w b L)(e:w'.heap[b]? = w.heap[b]?):fB w' b L:=let ⟨es,c,h1,J⟩:=h.ex; ⟨h.ok,es,c,e.trans h1,J⟩
def fB.lt{w:A_}{b:Nat}{L:C_ Int}(h:fB w b L):b<w.heap.size:=let ⟨_,_,h1,_⟩:=h.ex;cq h1
theorem fB.ext{w w':A_}{b:Nat}{L:C_ Int}(h:fB w b L)(e:Ext w w'):fB w' b L:=h.of (e.heap h.lt)
def fB.mod{A:Nat->Prop}{w w':A_}{b:Nat}{L:C_ Int}(h:fB w b L)(e:Mod A w w')(hk:¬A b):fB w' b L:=h.of (e.block b h.lt hk)
def ID.empty:ID #[] 0 []:=⟨⟨[],rfl,CC,λ_=>Iff.rfl,E1 _,λp h=>by simp at h⟩,λe he=>by simp at he,CC⟩
def fB.empty{w:A_}{b:Nat}(h:w.heap[b]? = some (.map #[] 0)):fB w b []:=⟨λ_ h=>by simp at h,_,_,h,ID.empty⟩
def iV.len{pw:Type}{enc:pw->B_}{es:C_ MapEntry}{l:C_ (pw×B_)}(h:iV enc es l):es.length=l.length:=by
 have:=congrArg List.length h
 simpa using this
def iV.at{pw:Type}{enc:pw->B_}{es:C_ MapEntry}{l:C_ (pw×B_)}(h:iV enc es l)(i:Nat):es[i]?.map (λe=>(e.key,e.val))=l[i]?.map (λp=>(enc p.1,p.2)):=by
 have:=congrArg (λq=>q[i]?) h
 simpa using this
theorem fB.look{w:A_}{b:Nat}{L:C_ Int}(h:fB w b L)(x:Int):∃es r z,sv w (.map (some b)) es/\Instr.findNow (.int .i64) (.I x) es.toList 0=some r/\nL (.I 0) false r = .I z:=by
 obtain⟨es,c,h1,hm⟩:=h.ex;obtain⟨l,J,ab,aF,a7,bJ⟩:=hm.Bx;obtain⟨r,lg,jS⟩:=AF (Nn .i64 .i64) x es.toList _ 0 J;cases r with
 | none=>exact⟨es,none,0,.inr ⟨b,c,rfl,h1⟩,lg,rfl⟩
 | some q =>
  cases ax:l.find? (λp=>decide (x=p.1)) with
  | none=>rw[ax] at jS;cases jS
  | some p =>
   rw[ax] at jS;obtain⟨z,bB⟩:=bJ p (List.mem_of_find?_eq_some ax);simp only[Option.map_some,Option.some.injEq] at jS;exact⟨es,some q,z,.inr ⟨b,c,rfl,h1⟩,lg,by simp[nL,jS,bB]⟩
def aph{x z:Int}{l:C_ (Int×B_)}{es:C_ MapEntry}{j:Nat}(h:iV (Value.int .i64) es l)(hk:∀p,l[j]? = some p->p.1=x):iV (Value.int .i64) (es.modify j λe=>{ e with key:=.I x,val:=.I z }) (l.modify j λp=>(p.1,.I z)):=by
 unfold iV;apply List.ext_getElem?;intro i;have U:=h.at i;simp only[List.getElem?_map,List.getElem?_modify] at *;by_cases e:j=i
 .subst e;simp only[if_true] at *;cases he:es[j]? with
  | none=>rw[he] at U;cases au:l[j]? with
   | none=>simp
   | some p=>rw[au] at U;cases U
  | some q =>
   rw[he] at U;cases au:l[j]? with
   | none=>rw[au] at U;cases U
   | some p=>simp[hk p au]
 .simp only[if_neg e];cases he:es[i]? with
  | none=>rw[he] at U;cases au:l[i]? with
   | none=>simp
   | some p=>rw[au] at U;cases U
  | some q =>
   rw[he] at U;cases au:l[i]? with
   | none=>rw[au] at U;cases U
   | some p=>rw[au] at U;simpa using U
def ZQ{z:B_}(l:C_ (Int×B_))(j:Nat):(l.modify j λp=>(p.1,z)).map (·.1)=l.map (·.1):=by
 apply List.ext_getElem?;intro i;simp only[List.getElem?_map,List.getElem?_modify];by_cases e:j=i
 .subst e;cases l[j]? <;> simp
 .simp[e]
def Yj{k v:B_}(es:C_ MapEntry)(j:Nat):(es.modify j λe=>{ e with key:=k,val:=v }).map (·.born)=es.map (·.born):=by
 apply List.ext_getElem?;intro i;simp only[List.getElem?_map,List.getElem?_modify];by_cases e:j=i
 .subst e;cases es[j]? <;> simp
 .simp[e]
theorem fB.put{w:A_}{b:Nat}{L:C_ Int}(h:fB w b L)(x z:Int)(ah : -9223372036854775808<=x/\x<=9223372036854775807):∃es c q,w.heap[b]? = some (.map es c)/\Instr.findNow (.int .i64) (.I x) es.toList 0=some q /\
  ∀w':A_,w'.heap[b]? = some (s8 es c (.I x) (.I z) q)->fB w' b (L++[x]):=by
 obtain⟨es,c,h1,hm⟩:=h.ex;obtain⟨l,J,ab,aF,a7,bJ⟩:=hm.Bx;obtain⟨r,lg,jS⟩:=AF (Nn .i64 .i64) x es.toList _ 0 J;have c9:∀y∈L++[x],-9223372036854775808<=y/\y<=9223372036854775807:=λy bF=>by
  rcases List.mem_append.1 bF with bF | bF
  .exact h.ok y bF
  .simp only[List.mem_singleton] at bF;subst bF;exact ah
 refine⟨es,c,r,h1,lg,λw' hw=>?_⟩;cases r with
 | none =>
  have aw:∀p∈l,p.1≠x:=by
   cases ax:l.find? (λp=>decide (x=p.1)) with
   | none =>
    intro p au e
    have:=List.find?_eq_none.1 ax p au
    simp[e] at this
   | some p=>rw[ax] at jS;cases jS
  refine⟨c9,_,_,hw,⟨⟨l++[(x,.I z)],iV.push J x (.I z) c,?_,λy=>?_,?_,λp au=>?_⟩,?_,?_⟩⟩
  .rw[AF1,AG1,AJ9,AK4];refine⟨ab,CC,λa aY b ak=>?_⟩;obtain⟨p,au,rfl⟩:=List.mem_map.1 aY;simp only[List.mem_singleton] at ak;rw[ak];exact aw p au
  .rw[AF1,AG0,AG0,aF y];simp
  .rw[HO,HO];simp;exact a7
  .rcases List.mem_append.1 au with au | au
   .exact bJ p au
   .simp only[List.mem_singleton] at au;subst au;exact⟨z,rfl⟩
  .intro e he;simp only[Array.toList_push,List.mem_append,List.mem_singleton] at he;rcases he with he | rfl
   .have:=hm.born e he;omega
   .show c<c+1;omega
  .simp only[Array.toList_push,List.map_append,List.map_cons,List.map_nil];rw[AK4];refine⟨hm.nodup,CC,λa aY fV Dg=>?_⟩;obtain⟨e,he,rfl⟩:=List.mem_map.1 aY;simp only[List.mem_singleton] at Dg
   have:=hm.born e he
   omega
 | some SU =>
  obtain⟨j,v⟩:=SU;obtain⟨_,e,he,aj⟩:=P6 lg;rw[Nat.sub_zero] at he;have abp:∀p,l[j]? = some p->p.1=x:=λp au=>by
   have:=J.at j
   rw[he,au] at this;simp only[Option.map_some,Option.some.injEq,Prod.mk.injEq] at this;rw[this.1,Nn] at aj;have aj:=Option.some.inj aj;simp only[decide_eq_true_eq] at aj;exact aj.symm
  have xx:x∈L:=by
   have ay:=J.at j;rw[he] at ay;cases au:l[j]? with
   | none=>rw[au] at ay;cases ay
   | some p =>
    rw[<-aF x,<-abp p au];exact List.mem_map.2 ⟨p,List.mem_of_getElem? au,rfl⟩
  have ov:w'.heap[b]? = some (.map (es.modify j λe=>{ e with key:=.I x,val:=.I z }) c):=hw;refine⟨c9,_,_,ov,⟨⟨l.modify j λp=>(p.1,.I z),?_,by rw[ZQ];exact ab,λy=>?_,?_,λp au=>?_⟩,?_,?_⟩⟩
  .rw[AK7];exact aph J abp
  .rw[ZQ,aF y,AG0,AF2];exact⟨.inl,λq=>q.elim id λq=>q ▸ xx⟩
  .rw[List.length_modify,HO];omega
  .obtain⟨i,U,rfl⟩:=List.mem_iff_getElem.1 au;rw[List.getElem_modify];split
   .exact⟨z,rfl⟩
   .exact bJ _ (E2 _)
  .rw[AK7];intro e' hx
   have:e'.born∈es.toList.map (·.born):=by rw[<-Yj (k:=.I x) (v:=.I z) es.toList j];exact List.mem_map.2 ⟨e',hx,rfl⟩
   obtain⟨ej,ad,hv⟩:=List.mem_map.1 this
   have:=hm.born ej ad
   omega
  .rw[AK7,Yj];exact hm.nodup
section
variable{P:Program}{KW:World->Prop}{bl:Value->Prop}{w:World}
def AD2{b:Nat}{L:C_ Int}{x:Int}{t}(h:fB w b L)(hk:∀z,bl (.I z)):EM (.int .i64) (.I 0) false (.map (some b)) (.I x) w bl t:=by
 obtain⟨es,r,z,h1,J,ab⟩:=h.look x;exact _m h1 J (by rw[ab];exact hk z)
def AD3{b:Nat}{L:C_ Int}{x z:Int}{t}(h:fB w b L)(ah : -9223372036854775808<=x/\x<=9223372036854775807)(hk:∀w1,dw b w w1->fB w1 b (L++[x])->KW w1):Ch (.int .i64) (.map (some b)) (.I x) (.I z) w KW t:=by
 obtain⟨es,c,q,h1,J,ab⟩:=h.put x z ah;exact _u h1 J (hk _ (dw.fJ w b _) (ab _ (Eh (cq h1))))
end
def wf_i64{x:Int}(h : -9223372036854775808<=x/\x<=9223372036854775807):(Lit.int .i64 x).wf=true:=by
 have h1:IntKind.i64.min = -9223372036854775808:=BS
 have J:IntKind.i64.max=9223372036854775807:=BS
 simp only[Lit.wf,h1,J,Bool.and_eq_true,decide_eq_true_eq];exact h
def fB.own{P:D_}{k:F_}{w:A_}{b:Nat}{L:C_ Int}(hk:P.underlying k=some (.int .i64))(h:fB w b L)(ck:L.length<=maxLen) :
  ∃uP:DataW Unit,w.ownsMap P k (λ_=>some (.lit (.bool true),[])) b L.length uP/\Maps.size uP<=L.length/\∀cj:C_ Int,cj.Perm (intKeys uP)->cj.Nodup/\∀x,x∈cj↔x∈L:=by
 obtain⟨es,c,h1,hm⟩:=h.ex;obtain⟨l,J,ab,aF,a7,bJ⟩:=hm.Bx;have hlen:es.toList.length=l.length:=J.len;have sa:∀e∈es.toList,∃x,e.key = .I x/\WideElems.rd P k (λ_=>some ((.lit (.bool true):DataW Unit),[])) e=some (.I x,.lit (.bool true)):=λe he=>by
  obtain⟨i,U,rfl⟩:=List.mem_iff_getElem.1 he;have jP:=J.at i;rw[List.getElem?_eq_getElem U,List.getElem?_eq_getElem Aw] at jP;simp only[Option.map_some,Option.some.injEq,Prod.mk.injEq] at jP;refine⟨_,jP.1,?_⟩;have hw:=wf_i64 (h.ok l[i].1 ((aF _).1 (List.mem_map.2 ⟨l[i],E2 _,rfl⟩)));unfold WideElems.rd;rw[jP.1,Maps.keyOf_int_mk hk hw];rfl
 have yV:WideElems.Fit P k (λ_=>some ((.lit (.bool true):DataW Unit),[])) es c:=⟨by simp at hlen;omega,⟨hm.born,hm.nodup,by
  have:es.toList.map (·.key)=(l.map (·.1)).map (Value.int .i64):=by
   apply List.ext_getElem?;intro i;rw[List.getElem?_map,List.getElem?_map,List.getElem?_map]
   have:=J.at i
   cases he:es.toList[i]? with
   | none=>rw[he] at this;cases au:l[i]? with
    | none=>rfl
    | some p=>rw[au] at this;cases this
   | some q =>
    rw[he] at this;cases au:l[i]? with
    | none=>rw[au] at this;cases this
    | some p =>
     rw[au] at this;simp only[Option.map_some,Option.some.injEq,Prod.mk.injEq] at this;simp only[Option.map_some,this.1]
  rw[this];exact List.pairwise_map.2 (ab.imp λ{a b} cv e=>cv (by injection e))⟩,λx ah=>let ⟨y,_,bF⟩:=sa x ah; ⟨_,bF⟩⟩
 refine⟨_,World.ownsMap.mono (World.ownsMap_of_fit h1 yV (λ_ _ _ q=>q)) (by simp at hlen;omega),?_,λcj au=>?_⟩
 .rw[Maps.size_eq,length_sorted];simp at hlen ⊢;omega
 .have ann:(intKeys (.map ((es.toList.map (WideElems.rg P k (λ_=>some ((.lit (.bool true):DataW Unit),[])))).foldr DataW.insert []))).Perm (l.map (·.1)):=by
   refine((WideShapes.sorted_perm _).map _).trans ?_;rw[List.map_map]
   have:es.toList.map ((λp:Lit×DataW Unit=>intOf p.1)∘WideElems.rg P k (λ_=>some ((.lit (.bool true):DataW Unit),[])))=l.map (·.1):=by
    apply List.ext_getElem?;intro i;rw[List.getElem?_map,List.getElem?_map];cases he:es.toList[i]? with
    | none =>
     have:=J.at i
     rw[he] at this;cases au:l[i]? with
     | none=>rfl
     | some p=>rw[au] at this;cases this
    | some e =>
     obtain⟨x,ah,bF⟩:=sa e (List.mem_of_getElem? he)
     have:=J.at i
     rw[he] at this;cases au:l[i]? with
     | none=>rw[au] at this;cases this
     | some p =>
      rw[au] at this;simp only[Option.map_some,Option.some.injEq,Prod.mk.injEq] at this;rw[ah] at this;have bG:x=p.1:=by have:=this.1;injection this
      simp only[Option.map_some,Function.comp,WideElems.rg_of bF,bG];rfl
   rw[this]
  have xo:=au.trans ann;exact⟨xo.nodup_iff.2 ab,λx=>by rw[xo.mem_iff];exact aF x⟩
def atS{cj:C_ Int}(h:cj.Nodup):(cj.mergeSort λx y=>decide (x<=y)).Pairwise (· < ·):=by
 have aus:∀a b c:Int,decide (a<=b)=true->decide (b<=c)=true->decide (a<=c)=true:=λa b c h1 J=>by simp only[decide_eq_true_eq] at *;omega
 have to:∀a b:Int,(decide (a<=b)||decide (b<=a))=true:=λa b=>by simp only[Bool.or_eq_true,decide_eq_true_eq];omega
 have h1:=List.pairwise_mergeSort aus to cj;have J:(cj.mergeSort λx y=>decide (x<=y)).Nodup:=(List.mergeSort_perm cj _).nodup_iff.2 h;refine(h1.and J).imp λ{a b} q=>?_;simp only[decide_eq_true_eq] at q;omega
end ba
namespace o
open Go
def ad2{p:dv}{s:Scope}(h:(ij p s).2.2=0):whole p s=0/\(l9 p s).2=0/\(mq (inner p s) p.cn p.c4 p.c4 0).2.2=0:=by
 unfold ij at h;by_cases h1:whole p s≠0
 .rw[if_pos h1] at h;exact absurd h h1
 rw[if_neg h1] at h;by_cases J:(l9 p s).2≠0
 .rw[if_pos J] at h;exact absurd h J
 rw[if_neg J] at h;exact⟨by simpa using h1,by simpa using J,h⟩
theorem Pz{own:Scope}{cn:Int}{all:C_ dG}:∀(l:C_ dG) (i:Nat),(mq own cn all l i).2.2=0->∀k (h:k<l.length),(j7 l[k] cn own).2=0/\(all.take (i+k)).any (λx=>decide (x.name=l[k].name))=false
 | [],_,_,k,h=>by simp at h
 | c :: r,i,de,k,h=>by
  simp only[mq] at de;by_cases h1:(j7 c cn own).2≠0
  .rw[if_pos h1] at de;exact absurd de h1
  rw[if_neg h1] at de;by_cases J:(all.take i).any (λx=>decide (x.name=c.name))=true
  .rw[if_pos J] at de;cases de
  rw[if_neg J] at de;cases k with
  | zero=>exact⟨by simpa using h1,by simpa using J⟩
  | succ k =>
   have:=Pz r (i+1) de k (by simpa using h)
   simpa[Nat.add_assoc,Nat.add_comm 1 k] using this
def xP{α:Type}{l:C_ α}{n:Int}{x:α}(h:nth l n=some x):0<=n/\l[n.toNat]? = some x/\n.toNat<l.length:=by
 unfold nth at h;by_cases ad:0<=n
 .rw[if_pos ad] at h;exact⟨ad,h,(List.getElem?_eq_some_iff.1 h).1⟩
 .rw[if_neg ad] at h;cases h
def acS{n:Int}{s:Scope}(h:(hP n s).2=true):0<=n/\n<=s.scalars.length/\(hP n s).1=if n=0 then 0 else 1+n:=by
 unfold hP at h ⊢;by_cases h1:n=0
 .subst h1;simp
 .rw[if_neg h1] at h ⊢;by_cases J:n<0\/(s.scalars.length:Int)<n
  .rw[if_pos J] at h;cases h
  .rw[if_neg J,if_neg h1];exact⟨Aw,Aw,rfl⟩
theorem ac0{l:C_ Var}{n:Int}{s:Scope}(h:(gB l n s).2.2=true):∃v,nth l n=some v/\l[n.toNat]? = some v/\0<=n/\gB l n s=((hP v.scalar s).1,(hP v.over s).1,true)/\(hP v.scalar s).2=true/\(hP v.over s).2=true:=by
 unfold gB at h ⊢;cases aw:nth l n with
 | none=>rw[aw] at h;cases h
 | some v =>
  rw[aw] at h;simp only[Bool.and_eq_true] at h;obtain⟨ad,h1,_⟩:=xP aw;exact⟨v,rfl,h1,ad,by simp only[h.1,h.2,Bool.and_self],h.1,h.2⟩
theorem D9:∀(a b:C_ Int),a.Pairwise (· < ·)->b.Pairwise (· < ·)->(∀x,x∈a↔x∈b)->a=b
 | [],[],_,_,_=>rfl
 | [],y :: b,_,_,h=>by have:=(h y).2 (AG5 ..);cases this
 | x :: a,[],_,_,h=>by have:=(h x).1 (AG5 ..);cases this
 | x :: a,y :: b,aY,ak,h=>by
  rw[AI3] at aY ak;have e:x=y:=by
   rcases List.mem_cons.1 ((h x).1 (AG5 ..)) with e | e
   .exact e
   .rcases List.mem_cons.1 ((h y).2 (AG5 ..)) with aD | aD
    .exact aD.symm
    .have:=ak.1 x e;have:=aY.1 y aD;omega
  subst e;congr 1;refine D9 a b aY.2 ak.2 λz=>⟨λbB=>?_,λbB=>?_⟩
  .rcases List.mem_cons.1 ((h z).1 (AH7 _ bB)) with e | e
   .subst e;have:=aY.1 z bB;omega
   .exact e
  .rcases List.mem_cons.1 ((h z).2 (AH7 _ bB)) with e | e
   .subst e;have:=ak.1 z bB;omega
   .exact e
theorem aeC:∀(l:C_ Int) (a b:Int),l.Pairwise (· < ·)->(∀x∈l,a<=x/\x<b)->(l.length:Int)<=max (b - a) 0
 | [],a,b,_,_=>by simp;omega
 | x :: l,a,b,h,ak=>by
  rw[AI3] at h;have h1:=ak x (AG5 ..)
  have:=aeC l (x+1) b h.2 λy bF=>⟨by have:=h.1 y bF;omega,(ak y (AH7 _ bF)).2⟩
  simp only[List.length_cons];omega
def gD(a n:Nat):C_ Int:=(List.range n).map λ(k:Nat)=>((a+k:Nat):Int)
def Nk(a n:Nat):(gD a n).length=n:=by simp[gD]
theorem aeK(a:Nat):gD a 0=[]:=rfl
def mb(a:Nat):gD a 1=[(a:Int)]:=by simp[gD]
def T6(a n:Nat):gD a (n+1)=gD a n++[((a+n:Nat):Int)]:=by simp[gD,List.range_succ]
def qz{a n:Nat}{x:Int}:x∈gD a n↔(a:Int)<=x/\x<((a+n:Nat):Int):=by
 constructor
 .intro h;obtain⟨k,hk,rfl⟩:=List.mem_map.1 h
  have:=List.mem_range.1 hk
  omega
 .intro h;refine List.mem_map.2 ⟨(x - a).toNat,List.mem_range.2 Aw,Aw⟩
def sw(l:C_ Int)(last next:Int):Prop:=(next = -1/\∀x∈l,x<=last)\/(next∈l/\last<next/\0<=next/\∀x∈l,last<x->next<=x)
def sw.nil(last:Int):sw [] last (-1):=.inl ⟨rfl,λx h=>by cases h⟩
def sw.skip{l:C_ Int}{last next x:Int}(h:sw l last next)(ah:¬(last<x/\(next<0\/x<next))):sw (l++[x]) last next:=by
 rcases h with ⟨rfl,h⟩ | ⟨h1,J,ab,aF⟩
 .refine .inl ⟨rfl,λy bF=>?_⟩;rcases List.mem_append.1 bF with bF | bF
  .exact h y bF
  .simp only[List.mem_singleton] at bF;subst bF;omega
 .refine .inr ⟨AH2 _ h1,J,ab,λy bF aE=>?_⟩;rcases List.mem_append.1 bF with bF | bF
  .exact aF y bF aE
  .simp only[List.mem_singleton] at bF;subst bF;omega
def sw.take{l:C_ Int}{last next x:Int}(h:sw l last next)(ad:0<=x)(ah:last<x/\(next<0\/x<next)):sw (l++[x]) last x:=by
 refine .inr ⟨CC,ah.1,ad,λy bF aE=>?_⟩;rcases List.mem_append.1 bF with bF | bF
 .rcases h with ⟨rfl,h⟩ | ⟨h1,J,ab,aF⟩
  .have:=h y bF;omega
  .have:=aF y bF aE;omega
 .simp only[List.mem_singleton] at bF;omega
structure uZ(l:List Int)(last:Int)(out:List Int):Prop where
 lM:out.Pairwise (· < ·)
 mem:∀x,x∈out↔x∈l/\x<=last
 last : -1<=last
def uZ.start{l:C_ Int}(h:∀x∈l,0<=x):uZ l (-1) []:=⟨List.Pairwise.nil,λx=>⟨λh=>(by cases h),λ⟨h1,J⟩=>by have:=h x h1;omega⟩,Int.le_refl _⟩
def uZ.step{l out:C_ Int}{last next:Int}(h:uZ l last out)(hm:sw l last next)(ad:0<=next):uZ l next (out++[next])/\last<next/\next∈l:=by
 rcases hm with ⟨rfl,_⟩ | ⟨h1,J,ab,aF⟩
 .omega
 .refine⟨⟨?_,λx=>?_,Aw⟩,J,h1⟩
  .rw[List.pairwise_append];refine⟨h.lM,CC,λx ah y bF=>?_⟩
   have:=((h.mem x).1 ah).2
   simp only[List.mem_singleton] at bF;omega
  .rw[AG0,h.mem x,AF2];constructor
   .rintro(⟨a,b⟩ | rfl)
    .exact⟨a,Aw⟩
    .exact⟨h1,Int.le_refl _⟩
   .rintro⟨a,b⟩;by_cases ah:x<=last
    .exact .inl ⟨a,ah⟩
    .exact .inr (by have:=aF x a Aw;omega)
structure pB(l r:List Int):Prop where
 lM:r.Pairwise (· < ·)
 mem:∀x,x∈r↔x∈l
def uZ.done{l out:C_ Int}{last next:Int}(h:uZ l last out)(hm:sw l last next)(ad:next<0):pB l out:=by
 rcases hm with ⟨rfl,h1⟩ | ⟨h1,J,ab,aF⟩
 .exact⟨h.lM,λx=>by rw[h.mem x];exact⟨λa=>a.1,λa=>⟨a,h1 x a⟩⟩⟩
 .omega
def pB.eq{l s6 r kl:C_ Int}(h:pB l r)(k:pB s6 kl)(e:∀x,x∈l↔x∈s6):r=kl :=
 D9 r kl h.lM k.lM λx=>by rw[h.mem,k.mem,e]
def lI(m:Model)(v:Nat):Nat:=match m.vars[v]? with | some x=>(cells x m.scalars).toNat | none=>0
def Jy(m:Model)(q:Nat):Nat:=match (insts m)[q]? with | some x=>x.elem.toNat | none=>0
def gF(m:Model)(c:Nat):Nat:=match m.aA[c]? with | some x=>x.cap.toNat | none=>0
def mC(m:Model)(q v:Nat)(own:Bool):C_ Int:=if own then gD (gb m v+Jy m q - 1) 1 else gD (gb m v) (lI m v)
def nX(m:Model)(p:Int)(n:Nat):C_ Int:=(List.range n).flatMap λj=>if (insts m)[j]?.map (·.proc)=some p then gD (cV m j) 1 else []
def ek(m:Model)(q:Nat)(own:Bool)(x:Node):C_ Int :=
 if x.op=2 then gD (gb m x.n.toNat) 1
 else if x.op=3 then mC m q x.n.toNat own
 else if x.op=4 then gD (cV m q+1+x.n.toNat) 1
 else if x.op=6 then gD (b6 m x.n.toNat) 1
 else if x.op=7 then nX m (x.n.tdiv 16) (insts m).length
 else []
def ru(e:C_ Node):Nat->Bool
 | 0=>false
 | k+1=>match e[k]? with | some x=>decide (x.op=5) | none=>false
def kb(m:Model)(q:Nat)(e:C_ Node)(n:Nat):C_ Int:=(List.range n).flatMap λk=>match e[k]? with | some x=>ek m q (ru e k) x | none=>[]
def lX(m:Model)(c:Nat):C_ Int:=gD (b6 m c) (1+gF m c)
def pX(a:Act):Bool:=match a.index with | [x]=>decide (x.op=5) | _=>false
def tA(m:Model)(q:Nat)(a:Act):C_ Int :=
 if a.kind=5 then lX m a.to.toNat
 else (if a.kind=2 then kb m q a.index a.index.length else if a.kind=4 then gD (b6 m a.to.toNat) 1 else [])++kb m q a.value a.value.length
def j5(m:Model)(q:Nat)(a:Act):C_ Int :=
 if a.kind=1 then gD (gb m a.to.toNat) 1
 else if a.kind=2 then mC m q a.to.toNat (pX a)
 else if a.kind=3 then gD (cV m q+1+a.to.toNat) 1
 else if a.kind=4 then lX m a.to.toNat
 else if a.kind=5 then lX m a.to.toNat++gD (cV m q+1+a.loc.toNat) 1
 else []
def pD(m:Model)(q:Nat)(a:Act):C_ Int :=
 (if a.kind=5 then [] else kb m q a.value a.value.length) ++
 (if a.kind=2 then kb m q a.index a.index.length else if a.kind=4 then gD (b6 m a.to.toNat) 1 else if a.kind=5 then lX m a.to.toNat else [])
theorem agQ(m:Model)(q:Nat)(a:Act)(x:Int):x∈tA m q a↔x∈pD m q a:=by
 unfold tA pD;by_cases h:a.kind=5
 .rw[if_pos h,if_pos h,if_neg Aw,if_neg Aw,if_pos h,AF8]
 .rw[if_neg h,if_neg h,if_neg h,AG0,AG0];exact Or.comm
def vj(m:Model)(q:Nat)(c:dG):C_ Int:=gD (cV m q) 1++kb m q c.guard c.guard.length
def qv(m:Model)(q:Nat)(c:dG)(n:Nat):C_ Int:=vj m q c++(c.bL.take n).flatMap (tA m q)
def ry(m:Model)(q:Nat)(c:dG)(n:Nat):C_ Int:=vj m q c++(c.bL.take n).flatMap (pD m q)
def kq(m:Model)(q:Nat)(c:dG)(n:Nat):C_ Int:=gD (cV m q) 1++(c.bL.take n).flatMap (j5 m q)
def asw(m:Model)(q:Nat)(c:dG)(n:Nat)(x:Int):x∈qv m q c n↔x∈ry m q c n:=by
 unfold qv ry;simp only[List.mem_append,List.mem_flatMap,agQ]
def aes{m:Model}{q:Nat}{c:dG}{n:Nat}(h:n<c.bL.length):qv m q c (n+1)=qv m q c n++tA m q c.bL[n]:=by
 unfold qv;rw[MR h,AF9,AJ1,NC]
def aer{m:Model}{q:Nat}{c:dG}{n:Nat}(h:n<c.bL.length):ry m q c (n+1)=ry m q c n++pD m q c.bL[n]:=by
 unfold ry;rw[MR h,AF9,AJ1,NC]
def UP{m:Model}{q:Nat}{c:dG}{n:Nat}(h:n<c.bL.length):kq m q c (n+1)=kq m q c n++j5 m q c.bL[n]:=by
 unfold kq;rw[MR h,AF9,AJ1,NC]
def P3{m:Model}{q:Nat}{e:C_ Node}{n:Nat}(h:n<e.length):kb m q e (n+1)=kb m q e n++ek m q (ru e n) e[n]:=by
 unfold kb;rw[AH1,AF9,AJ1,List.getElem?_eq_getElem h]
def Tu{e:C_ Node}{n:Nat}(h:n<e.length):ru e (n+1)=decide (e[n].op=5):=by
 simp only[ru,List.getElem?_eq_getElem h]
def Ak{m:Model}{p:Int}{n:Nat}(h:n<(insts m).length):nX m p (n+1)=nX m p n++if (insts m)[n].proc=p then gD (cV m n) 1 else []:=by
 unfold nX;rw[AH1,AF9,AJ1,List.getElem?_eq_getElem h];simp only[Option.map_some,Option.some.injEq]
structure Ci(s:Scope)(x:Node):Prop where
 var:x.op=2->0<=x.n/\∃v,s.vars[x.n.toNat]? = some v/\v.over=0
 item:x.op=3->0<=x.n/\x.n.toNat<s.vars.length
 loc:x.op=4->0<=x.n/\x.n.toNat<s.locals.length
 self:x.op=5->1<=s.self/\s.self<=s.scalars.length
 len:x.op=6->0<=x.n/\x.n.toNat<s.aA.length
 at_:x.op=7->0<=x.n/\(x.n.tdiv 16).toNat<s.procs.length
structure tp(s:Scope)(e:List Node):Prop where
 node:∀k (h:k<e.length),Ci s e[k]/\(e[k].op=3->0<k)
 len:e.length<=24
def apz{s:Scope}{x:Node}{top:Int}(h:(jC x s top).2=0):Ci s x:=by
 unfold jC at h;by_cases h1:x.op=1
 .exact⟨Aw,Aw,Aw,Aw,Aw,Aw⟩
 rw[if_neg h1] at h;by_cases J:x.op=2\/x.op=3\/x.op=4
 .rw[if_pos J] at h;simp only at h;by_cases av:(gB (if x.op=4 then s.locals else s.vars) x.n s).2.2=false
  .rw[if_pos av] at h;cases h
  rw[if_neg av] at h;obtain⟨v,cM,cW,fr,hN,vL,DL⟩:=ac0 (by simpa using av);obtain⟨bN,bT,bW⟩:=acS DL;rw[hN] at h;simp only at h;have cu:=(List.getElem?_eq_some_iff.1 cW).1;by_cases ab:(x.op=3/\((hP v.over s).1=0\/top≠(hP v.over s).1))\/(x.op≠3/\(hP v.over s).1≠0)
  .rw[if_pos ab] at h;cases h
  .refine⟨λe=>⟨fr,v,?_,?_⟩,λe=>⟨fr,?_⟩,λe=>⟨fr,?_⟩,Aw,Aw,Aw⟩
   .rw[if_neg Aw] at cW;exact cW
   .have:(hP v.over s).1=0:=Classical.byContradiction λaw=>ab (.inr ⟨Aw,aw⟩)
    rw[bW] at this;split at this
    .assumption
    .omega
   .rw[if_neg Aw] at cu;exact cu
   .rw[if_pos e] at cu;exact cu
 .rw[if_neg J] at h;unfold nf at h;refine⟨Aw,Aw,Aw,λe=>?_,λe=>?_,λe=>?_⟩
  .rw[if_pos e] at h;by_cases q:1<=s.self/\s.self<=s.scalars.length
   .exact q
   .rw[if_neg q] at h;cases h
  .rw[if_neg Aw,if_pos e] at h;unfold kX at h;cases aw:nth s.aA x.n with
   | none=>rw[aw] at h;cases h
   | some c=>exact⟨(xP aw).1,(xP aw).2.2⟩
  .rw[if_neg Aw,if_neg Aw,if_pos e] at h;unfold DM at h;by_cases q:0<=x.n
   .rw[if_pos q] at h;cases aw:nth s.procs (x.n.tdiv 16) with
    | none=>rw[aw] at h;cases h
    | some c=>exact⟨q,(xP aw).2.2⟩
   .rw[if_neg q] at h;cases h
def acQ{e:C_ Node}{s:Scope}(h:(kind e s).2=0):tp s e:=by
 unfold kind nm at h;by_cases h1:e.length > 24
 .rw[if_pos h1] at h;cases h
 rw[if_neg h1] at h;by_cases J:e.length=0
 .exact⟨λk hk=>Aw,Aw⟩
 rw[if_neg J] at h;by_cases ab:(gq (fZ s) e []).1≠0
 .rw[if_pos ab] at h;exact absurd h ab
 have ab:(gq (fZ s) e []).1=0:=by simpa using ab
 refine⟨λk hk=>?_,Aw⟩;have s0:∀j,(gq (fZ s) (e.take j) []).1=0:=λj=>Classical.byContradiction λaw=>by
  have:=Ud (f:=fZ s) (e:=e) (k:=j) rfl aw
  rw[this] at ab;exact aw ab
 have hY:gq (fZ s) (e.take k) []=(0,(gq (fZ s) (e.take k) []).2):=Prod.ext (s0 k) rfl;have aF:=Ec hk hY;have a7:=s0 (k+1);rw[aF] at a7;unfold stepG at a7;by_cases c7:fR e[k].op<0
 .rw[if_pos c7] at a7;cases a7
 rw[if_neg c7] at a7;by_cases dE:((gq (fZ s) (e.take k) []).2.length:Int)<fR e[k].op
 .rw[if_pos dE] at a7;cases a7
 rw[if_neg dE] at a7;by_cases ed:(fZ s e[k] (gq (fZ s) (e.take k) []).2).2≠0
 .rw[if_pos ed] at a7;exact absurd a7 ed
 have ed:(fZ s e[k] (gq (fZ s) (e.take k) []).2).2=0:=by simpa using ed
 constructor
 .by_cases aS:zt e[k].op=false
  .unfold fZ at ed;rw[Tr aS] at ed;exact apz ed
  .have:9<=e[k].op:=by
    simp only[zt,decide_eq_false_iff_not] at aS;omega
   exact⟨Aw,Aw,Aw,Aw,Aw,Aw⟩
 .intro aO;apply Classical.byContradiction;intro aw;have fx:k=0:=Aw
  subst fx;rw[aO] at dE;simp[gq,fR] at dE
def IT{e:C_ Node}{k:Int}{s:Scope}(h:asked e k s=0):tp s e:=by
 unfold asked at h;by_cases h1:(kind e s).2≠0
 .rw[if_pos h1] at h;exact absurd h h1
 .exact acQ (by simpa using h1)
structure nR(s:Scope)(a:Act):Prop where
 set:a.kind=1->0<=a.to/\∃v,s.vars[a.to.toNat]? = some v/\v.over=0
 item:a.kind=2->0<=a.to/\a.to.toNat<s.vars.length/\tp s a.index
 loc:a.kind=3->0<=a.to/\a.to.toNat<s.locals.length
 chan:a.kind=4\/a.kind=5->0<=a.to/\a.to.toNat<s.aA.length
 recv:a.kind=5->0<=a.loc/\a.loc.toNat<s.locals.length
 val:a.kind≠5->tp s a.value
 kind:1<=a.kind/\a.kind<=5
theorem PK{l:C_ Var}{n:Int}{s:Scope}{q:Var×Int}(h:declared l n s=some q):0<=n/\l[n.toNat]? = some q.1/\n.toNat<l.length:=by
 unfold declared at h;cases aw:nth l n with
 | none=>rw[aw] at h;cases h
 | some v =>
  rw[aw] at h;simp only at h;split at h
  .injection h with h
   subst h;exact xP aw
  .cases h
def OZ{a:Act}{s:Scope}(h:k5 a s=0):nR s a:=by
 unfold k5 at h;by_cases h1:a.kind=1\/a.kind=2\/a.kind=3
 .rw[if_pos h1] at h;cases bb:declared (if a.kind=3 then s.locals else s.vars) a.to s with
  | none=>rw[bb] at h;cases h
  | some q =>
   rw[bb] at h;obtain⟨v,k⟩:=q;obtain⟨d1,d2,d3⟩:=PK bb;simp only at h;by_cases J:(v.over≠0)≠(a.kind=2)
   .rw[if_pos J] at h;cases h
   rw[if_neg J] at h;have J:(v.over≠0)=(a.kind=2):=Classical.byContradiction λq=>J q;by_cases ab:a.kind=2/\asked a.index (1+v.over) s≠0
   .rw[if_pos ab] at h;exact absurd h ab.2
   rw[if_neg ab] at h;refine⟨λe=>⟨d1,v,?_,?_⟩,λe=>⟨d1,?_,?_⟩,λe=>⟨d1,?_⟩,Aw,Aw,λ_=>IT h,Aw⟩
   .rw[if_neg Aw] at d2;exact d2
   .apply Classical.byContradiction;intro aw
    have:a.kind=2:=J ▸ aw
    omega
   .rw[if_neg Aw] at d3;exact d3
   .exact IT (Classical.byContradiction λaw=>ab ⟨e,aw⟩)
   .rw[if_pos e] at d3;exact d3
 .rw[if_neg h1] at h;by_cases J:a.kind=4\/a.kind=5
  .rw[if_pos J] at h;cases an:channel a.to s with
   | none=>rw[an] at h;cases h
   | some k =>
    rw[an] at h;simp only at h;have xd:0<=a.to/\a.to.toNat<s.aA.length:=by
     unfold channel at an;cases aw:nth s.aA a.to with
     | none=>rw[aw] at an;cases an
     | some c=>exact⟨(xP aw).1,(xP aw).2.2⟩
    refine⟨Aw,Aw,Aw,λ_=>xd,λe=>?_,λe=>?_,Aw⟩
    .rw[if_pos e] at h;unfold HH at h;cases bb:declared s.locals a.loc s with
     | none=>rw[bb] at h;cases h
     | some q =>
      obtain⟨d1,d2,d3⟩:=PK bb;exact⟨d1,d3⟩
    .rw[if_neg e] at h;exact IT h
  .rw[if_neg J] at h;cases h
structure wi(s:Scope)(c:dG):Prop where
 guard:tp s c.guard
 act:∀k (h:k<c.bL.length),nR s c.bL[k]
 gj:c.bL.length<=6
theorem XV{s:Scope}:∀(l:C_ Act) (i:Nat) (t:Bool),(lv s l i t).2=0->∀k (h:k<l.length),nR s l[k]
 | [],_,_,_,k,h=>by simp at h
 | a :: r,i,t,h,k,hk=>by
  unfold lv at h;by_cases h1:(hF a&&t)=true
  .rw[if_pos h1] at h;cases h
  rw[if_neg h1] at h;by_cases J:k5 a s≠0
  .rw[if_pos J] at h;exact absurd h J
  rw[if_neg J] at h;cases k with
  | zero=>exact OZ (by simpa using J)
  | succ k=>exact XV r _ _ h k (by simpa using hk)
def aiG{c:dG}{cn:Int}{s:Scope}(h:(j7 c cn s).2=0):wi s c:=by
 unfold j7 at h;by_cases h1:head c cn≠0
 .rw[if_pos h1] at h;exact absurd h h1
 rw[if_neg h1] at h;by_cases J:c.guard.length > 0/\asked c.guard 1 s≠0
 .rw[if_pos J] at h;exact absurd h J.2
 rw[if_neg J] at h;refine⟨?_,XV _ _ _ h,?_⟩
 .by_cases aG:c.guard.length > 0
  .exact IT (Classical.byContradiction λaw=>J ⟨aG,aw⟩)
  .exact⟨λk hk=>Aw,Aw⟩
 .apply Classical.byContradiction;intro aw;apply h1;unfold head;by_cases c7:isName c.name=false
  .rw[if_pos c7];decide
  rw[if_neg c7];by_cases dE:c.from_<0\/cn<=c.from_\/c.to<0\/cn<=c.to
  .rw[if_pos dE];decide
  rw[if_neg dE,if_pos Aw];decide
def YB{m:Model}(h:(check m).cJ=0):(nh m).cJ=0:=by
 unfold check at h;by_cases bb:(data m).cJ≠0
 .rw[if_pos bb] at h;exact absurd h bb
 rw[if_neg bb] at h;apply Classical.byContradiction;intro au;rw[if_pos au] at h;exact au h
def aiJ{m:Model}(h:(check m).cJ=0){p k:Nat}(au:p<m.procs.length)(hk:k<m.procs[p].c4.length):wi (inner m.procs[p] (eC m)) m.procs[p].c4[k]:=by
 obtain⟨dI,_,_⟩:=TE (YB h);obtain⟨_,cM,_,_⟩:=FD au (dI p au);obtain⟨_,_,hN⟩:=ad2 cM;have e:hE m (p:Int)=inner m.procs[p] (eC m):=by
  unfold hE;rw[iP Aw Aw];rfl
 have a7:=(Pz _ _ hN k hk).1;rw[e] at a7;exact aiG a7
def yR{L:C_ (C_ Int)}{B:C_ (C_ eb)}(h:L.map List.length=B.map List.length):L.flatten.length=total B:=by
 rw[List.length_flatten,h];rfl
def pre(Cu:C_ Int)(d:Nat):C_ Int:=Cu.take d++List.replicate (Cu.length - d) 0
def En{Cu:C_ Int}{d:Nat}{x:Int}(h:Cu[d]? = some x):Cu.take (d+1)=Cu.take d++[x]:=by
 obtain⟨bb,rfl⟩:=List.getElem?_eq_some_iff.1 h;exact MR bb
def ahM{m:Model}{i:Nat}(h:i<m.aA.length):b6 m (i+1)=b6 m i+(1+m.aA[i].cap.toNat):=by
 have bq:i<(dM m).length:=by simpa[dM] using h
 unfold b6;rw[H0 bq];simp[dM,wN];omega
def ahN(m:Model):b6 m 0=total (c6 m):=by simp[b6,total]
theorem ac1(s w:Int):∀(l:C_ eb) (k j:Nat) (h:j<l.length),(fQ s w l k)[j]? = some ⟨s,w,(k+j:Nat),l[j].aV,l[j].U,l[j].kind⟩
 | [],_,_,h=>by simp at h
 | b :: l,k,0,_=>by simp[fQ]
 | b :: l,k,j+1,h=>by
  simp only[fQ,List.getElem?_cons_succ,List.getElem_cons_succ];rw[ac1 s w l (k+1) j (by simpa using h),show k+1+j=k+(j+1) from Aw]
theorem Ps(s:Int):∀(ls:C_ (C_ eb)) (i w k:Nat) (hw:w<ls.length) (hk:k<ls[w].length),(cellsOf s ls i)[total (ls.take w)+k]? = some ⟨s,(i+w:Nat),k,ls[w][k].aV,ls[w][k].U,ls[w][k].kind⟩
 | [],_,_,_,hw,_=>by simp at hw
 | l :: r,i,0,k,_,hk=>by
  simp only[List.take_zero,total,List.map_nil,List.sum_nil,Nat.zero_add,List.getElem_cons_zero,cellsOf] at hk ⊢;rw[List.getElem?_append_left (by rw[vO];exact hk),ac1 s i l 0 k hk];simp
 | l :: r,i,w+1,k,hw,hk=>by
  simp only[List.take_succ_cons,HZ,List.getElem_cons_succ,cellsOf] at hk ⊢;rw[List.getElem?_append_right (by rw[vO];omega),vO,show l.length+total (r.take w)+k - l.length=total (r.take w)+k from Aw,Ps s r (i+1) w k (by simpa using hw) hk,show i+1+w=i+(w+1) from Aw]
def apt{m:Model}{k p:Nat}(hk:k<(insts m).length)(au:p<m.procs.length)(ak:mB m (insts m)[k]=vW m.scalars m.procs[p]):∃h:cV m k<(cp m).length,(cp m)[cV m k].aV=0/\(cp m)[cV m k].U=m.procs[p].cn - 1:=by
 have hw:k<(fG m).length:=by simpa[fG] using hk
 have e:(fG m)[k]=vW m.scalars m.procs[p]:=by simp[fG,ak]
 have ad:0<(fG m)[k].length:=by rw[e,BI];omega
 have h1:=Ps 3 (fG m) 0 k 0 hw ad;have J:=aps (m:=m) (c:=cV m k) (by unfold cV;omega);rw[show cV m k - (total (c6 m)+total (dM m))=total ((fG m).take k)+0 from by unfold cV;omega,h1] at J;obtain⟨ab,aF⟩:=List.getElem?_eq_some_iff.1 J;refine⟨ab,?_,?_⟩
 .rw[aF];simp only[e];rfl
 .rw[aF];simp only[e];rfl
def Fits.loc{m:Model}{s:C_ Int}(h:Fits m s){k p:Nat}(hk:k<(insts m).length)(au:p<m.procs.length)(ak:mB m (insts m)[k]=vW m.scalars m.procs[p]):∃d:Nat,s[cV m k]? = some (d:Int)/\(d:Int)<m.procs[p].cn:=by
 obtain⟨h1,J,ab⟩:=apt hk au ak;have aj:cV m k<s.length:=by rw[h.len];exact h1
 have aF:=h.cell _ aj h1;rw[J,ab] at aF;refine⟨s[cV m k].toNat,?_,Aw⟩;rw[List.getElem?_eq_getElem aj,Int.toNat_of_nonneg aF.1]
def X7(m:Model)(s:C_ Int)(p l:Int)(k:Nat):wG m s p l (k+1)=wG m s p l k+if ((insts m)[k]?.map (·.proc))=some p/\s[cV m k]? = some l then 1 else 0:=by
 unfold wG;rw[AH1,AJ2,HO,List.filter_cons,List.filter_nil];by_cases h:((insts m)[k]?.map (·.proc))=some p/\s[cV m k]? = some l
 .rw[decide_eq_true h,if_pos rfl,if_pos h];rfl
 .rw[decide_eq_false h,if_neg CC,if_neg h];rfl
def wH(m:Model)(s:C_ Int)(p:Nat)(n:Int)(k:Nat):(kP m s p n k).length=n.toNat:=by simp[kP]
def E6{m:Model}{s:C_ Int}{p:Nat}{n:Int}{k d:Nat}(h:d<n.toNat):(kP m s p n k)[d]? = some ((wG m s p d k:Nat):Int):=by
 simp[kP,h]
def Ya(m:Model)(s:C_ Int)(p:Nat)(n:Int):kP m s p n 0=List.replicate n.toNat 0:=by
 apply List.ext_getElem?;intro i;by_cases h:i<n.toNat
 .rw[E6 h];simp[wG,h]
 .rw[List.getElem?_eq_none (by rw[wH];omega),List.getElem?_eq_none (by simp;omega)]
def X8{m:Model}{s:C_ Int}{p:Nat}{n:Int}{k:Nat}(h:(insts m)[k]?.map (·.proc)≠some (p:Int)):kP m s p n (k+1)=kP m s p n k:=by
 unfold kP;apply List.map_congr_left;intro l _;rw[X7,if_neg (λe=>h e.1),AJ3]
def X9{m:Model}{s:C_ Int}{p:Nat}{n:Int}{k d:Nat}(h:(insts m)[k]?.map (·.proc)=some (p:Int))(aj:s[cV m k]? = some (d:Int))(bb:d<n.toNat):kP m s p n (k+1)=(kP m s p n k).set d ((wG m s p d k:Nat)+1:Int):=by
 apply List.ext_getElem?;intro i;rw[List.getElem?_set];by_cases U:i<n.toNat
 .rw[E6 U,X7];by_cases Rw:d=i
  .subst Rw;rw[if_pos ⟨h,aj⟩,if_pos rfl,if_pos (by rw[wH];exact bb)];rfl
  .rw[if_neg (λe=>Rw (by have aD:=e.2;rw[aj] at aD;have aO:=Option.some.inj aD;omega)),if_neg Rw,E6 U,AJ3]
 .rw[List.getElem?_eq_none (by rw[wH];omega),if_neg Aw,List.getElem?_eq_none (by rw[wH];omega)]
def O9(m:Model)(s:C_ Int)(p l:Int)(k:Nat):wG m s p l k<=k:=by
 unfold wG;refine Ns (AJ4 _ _) ?_;simp
theorem acp{m:Model}:∀(l:C_ dv) (i:Nat),l=m.procs.drop i->∀x∈kg m l i,∃(p:Nat) (h:p<m.procs.length),x.proc=p/\(m.procs[p].over≠0->1<=x.elem)
 | [],_,_,x,ah=>by simp[kg] at ah
 | p :: r,i,h,x,ah=>by
  have U:i<m.procs.length:=by
   apply Classical.byContradiction;intro aw;rw[AE9 Aw] at h;cases h
  rw[AF0 U] at h;injection h with h1 J
  simp only[kg,List.mem_append] at ah;rcases ah with (ah | ah) | ah
  .unfold jF at ah;split at ah
   .rename_i ad;rw[AF2] at ah;subst ah;exact⟨i,U,rfl,λaw=>absurd (h1 ▸ ad) aw⟩
   .cases ah
  .unfold kk at ah;obtain⟨k,_,rfl⟩:=List.mem_map.1 ah;exact⟨i,U,rfl,λ_=>by simp only;omega⟩
  .exact acp r (i+1) J x ah
structure fL(m:Model)(q p:Nat):Prop where
 av:q<(insts m).length
 au:p<m.procs.length
 eq:(insts m)[q].proc=p
 elem:m.procs[p].over≠0->1<=(insts m)[q].elem
 fY:0<=(insts m)[q].elem/\(insts m)[q].elem<=4
def Bs{m:Model}{q:Nat}(h:q<(insts m).length):∃p,fL m q p:=by
 obtain⟨p,au,e,h1⟩:=acp m.procs 0 CC _ (E2 h);exact⟨p,h,au,e,h1,(rl _ (E2 h)).elem⟩
def fL.nth{m:Model}{q p:Nat}(h:fL m q p):o.nth m.procs ((insts m)[q]'(h.av)).proc=some (m.procs[p]'(h.au)):=by
 rw[h.eq,iP Aw (by have:=h.au;omega)];rfl
def fL.ahn{m:Model}{q p:Nat}(h:fL m q p):mB m ((insts m)[q]'(h.av))=vW m.scalars (m.procs[p]'(h.au)):=by
 unfold mB;rw[h.nth]
def fL.room{m:Model}{q p:Nat}(h:fL m q p):cV m q+(1+(m.procs[p]'(h.au)).vars.length)<=di m:=by
 have:=SK h.av
 rw[h.ahn,BI] at this;exact this
def Fx{m:Model}{q:Nat}(h:q<(insts m).length):Jy m q=((insts m)[q]'h).elem.toNat:=by
 unfold Jy;rw[List.getElem?_eq_getElem h]
def rp{m:Model}{v:Nat}(h:v<m.vars.length):lI m v=(cells m.vars[v] m.scalars).toNat:=by
 unfold lI;rw[List.getElem?_eq_getElem h]
def oT{m:Model}{c:Nat}(h:c<m.aA.length):gF m c=m.aA[c].cap.toNat:=by
 unfold gF;rw[List.getElem?_eq_getElem h]
def Et{m:Model}(aL:eE m){v:Nat}(h:v<m.vars.length):gb m v+lI m v<=64:=by
 have:=sl h
 rw[rp h]
 have:=nC m
 have:di m<=64:=iH aL
 omega
def tJ{m:Model}(aL:eE m){c:Nat}(h:c<m.aA.length):b6 m c+(1+gF m c)<=64:=by
 have:=wL h
 rw[oT h]
 have:=nC m
 have:di m<=64:=iH aL
 omega
def G4{m:Model}(aL:eE m){q:Nat}(h:q<(insts m).length):cV m q+1<=64:=by
 obtain⟨p,au⟩:=Bs h
 have:=au.room
 have:di m<=64:=iH aL
 omega
def fL.zL{m:Model}(aL:eE m){q p:Nat}(h:fL m q p):cV m q+(1+(m.procs[p]'(h.au)).vars.length)<=64:=by
 have:=h.room
 have:di m<=64:=iH aL
 omega
structure fg(n:Nat)(l:List Int):Prop where
 aV:∀x∈l,0<=x/\x<80
 len:l.length<=n
def fg.row{a n k:Nat}(h:a+n<=80)(aw:n<=k):fg k (gD a n):=⟨λx ah=>by have:=qz.1 ah;omega,by rw[Nk];exact aw⟩
def fg.nil(n:Nat):fg n []:=⟨λx ah=>(by cases ah),AF4 _⟩
def fg.app{a b n:Nat}{l r:C_ Int}(h:fg a l)(k:fg b r)(aw:a+b<=n):fg n (l++r):=⟨λx ah=>by
 rcases List.mem_append.1 ah with ah | ah
 .exact h.aV x ah
 .exact k.aV x ah,by rw[HO];have:=h.len;have:=k.len;omega⟩
def fg.mono{a n:Nat}{l:C_ Int}(h:fg a l)(aw:a<=n):fg n l:=⟨h.aV,Ns h.len aw⟩
def SR{m:Model}(aL:eE m){q v:Nat}(av:q<(insts m).length)(aH:v<m.vars.length)(own:Bool):fg 64 (mC m q v own):=by
 have:=Et aL aH
 have aF:=(rl _ (E2 av)).elem
 have:=Fx av
 unfold mC;cases own
 .exact fg.row Aw Aw
 .exact fg.row Aw Aw
theorem IU{m:Model}(aL:eE m)(p:Int):∀n,n<=(insts m).length->fg n (nX m p n)
 | 0,_=>fg.nil _
 | n+1,h=>by
  rw[Ak Aw]
  have:=G4 aL (q:=n) Aw
  refine fg.app (IU aL p n Aw) (b:=1) ?_ (E1 _);split
  .exact fg.row Aw (E1 _)
  .exact fg.nil _
def xz{m:Model}(aL:eE m):(insts m).length<=30:=by have:=vI m;have:=aL.procs;omega
def adE{m:Model}(aL:eE m){q p:Nat}(h:fL m q p){x:Node}(ah:Ci (inner (m.procs[p]'(h.au)) (eC m)) x)(own:Bool):fg 64 (ek m q own x):=by
 unfold ek;by_cases J:x.op=2
 .rw[if_pos J];obtain⟨_,v,aH,_⟩:=ah.var J;have dS:x.n.toNat<m.vars.length:=(List.getElem?_eq_some_iff.1 aH).1
  have:=sl dS
  have:=nC m
  have:di m<=64:=iH aL
  exact fg.row Aw Aw
 rw[if_neg J];by_cases ab:x.op=3
 .rw[if_pos ab];exact SR aL h.av (ah.item ab).2 own
 rw[if_neg ab];by_cases aF:x.op=4
 .rw[if_pos aF];have a7:x.n.toNat<(m.procs[p]'(h.au)).vars.length:=(ah.loc aF).2
  have:=h.zL aL
  exact fg.row Aw Aw
 rw[if_neg aF];by_cases bJ:x.op=6
 .rw[if_pos bJ]
  have:=tJ aL (ah.len bJ).2
  exact fg.row Aw Aw
 rw[if_neg bJ];by_cases ct:x.op=7
 .rw[if_pos ct];exact(IU aL _ _ (E1 _)).mono (by have:=xz aL;omega)
 .rw[if_neg ct];exact fg.nil _
theorem Zu{m:Model}(aL:eE m){q p:Nat}(h:fL m q p){e:C_ Node}(he:tp (inner (m.procs[p]'(h.au)) (eC m)) e):∀n,n<=e.length->fg (64*n) (kb m q e n)
 | 0,_=>fg.nil _
 | n+1,aw=>by
  rw[P3 Aw];exact fg.app (Zu aL h he n Aw) (adE aL h (he.node n Aw).1 _) Aw
def wX{m:Model}(aL:eE m){q p:Nat}(h:fL m q p){e:C_ Node}(he:tp (inner (m.procs[p]'(h.au)) (eC m)) e){n:Nat}(aw:n<=e.length):fg 1536 (kb m q e n) :=
 (Zu aL h he n aw).mono (by have:=he.len;omega)
def CF{m:Model}(aL:eE m){c:Nat}(h:c<m.aA.length):fg 64 (lX m c):=by
 have:=tJ aL h
 exact fg.row Aw Aw
def agR{m:Model}(aL:eE m){q p:Nat}(h:fL m q p){a:Act}(aY:nR (inner (m.procs[p]'(h.au)) (eC m)) a):fg 3072 (tA m q a):=by
 unfold tA;by_cases a7:a.kind=5
 .rw[if_pos a7];exact(CF aL (aY.chan (.inr a7)).2).mono Aw
 .rw[if_neg a7];refine fg.app (a:=1536) ?_ (wX aL h (aY.val a7) (E1 _)) Aw;by_cases J:a.kind=2
  .rw[if_pos J];exact wX aL h (aY.item J).2.2 (E1 _)
  rw[if_neg J];by_cases aF:a.kind=4
  .rw[if_pos aF]
   have:=tJ aL (aY.chan (.inl aF)).2
   exact fg.row Aw Aw
  .rw[if_neg aF];exact fg.nil _
def agS{m:Model}(aL:eE m){q p:Nat}(h:fL m q p){a:Act}(aY:nR (inner (m.procs[p]'(h.au)) (eC m)) a):fg 80 (j5 m q a):=by
 have jN:=h.zL aL;unfold j5;by_cases h1:a.kind=1
 .rw[if_pos h1];obtain⟨_,v,aH,_⟩:=aY.set h1;have dS:a.to.toNat<m.vars.length:=(List.getElem?_eq_some_iff.1 aH).1
  have:=Et aL dS
  exact fg.row Aw Aw
 rw[if_neg h1];by_cases J:a.kind=2
 .rw[if_pos J];exact(SR aL h.av (aY.item J).2.1 _).mono Aw
 rw[if_neg J];by_cases ab:a.kind=3
 .rw[if_pos ab];have a7:a.to.toNat<(m.procs[p]'(h.au)).vars.length:=(aY.loc ab).2;exact fg.row Aw Aw
 rw[if_neg ab];by_cases aF:a.kind=4
 .rw[if_pos aF];exact(CF aL (aY.chan (.inl aF)).2).mono Aw
 rw[if_neg aF];by_cases a7:a.kind=5
 .rw[if_pos a7];have bJ:a.loc.toNat<(m.procs[p]'(h.au)).vars.length:=(aY.recv a7).2;exact fg.app (CF aL (aY.chan (.inr a7)).2) (fg.row (k:=1) Aw Aw) Aw
 .rw[if_neg a7];exact fg.nil _
def Qh{m:Model}(aL:eE m){q p:Nat}(h:fL m q p){c:dG}(an:wi (inner (m.procs[p]'(h.au)) (eC m)) c):fg 1537 (vj m q c):=by
 have:=G4 aL h.av
 exact fg.app (fg.row (k:=1) Aw Aw) (wX aL h an.guard (E1 _)) Aw
theorem aet{m:Model}(aL:eE m){q p:Nat}(h:fL m q p){c:dG}(an:wi (inner (m.procs[p]'(h.au)) (eC m)) c):∀n,n<=c.bL.length->fg (1537+3072*n) (qv m q c n)
 | 0,_=>by
  unfold qv;simpa using Qh aL h an
 | n+1,aw=>by
  rw[aes Aw];exact fg.app (aet aL h an n Aw) (agR aL h (an.act n Aw)) Aw
theorem H6{m:Model}(aL:eE m){q p:Nat}(h:fL m q p){c:dG}(an:wi (inner (m.procs[p]'(h.au)) (eC m)) c):∀n,n<=c.bL.length->fg (1+80*n) (kq m q c n)
 | 0,_=>by
  have:=G4 aL h.av
  unfold kq;simpa using fg.row (a:=cV m q) (n:=1) (k:=1) Aw Aw
 | n+1,aw=>by
  rw[UP Aw];exact fg.app (H6 aL h an n Aw) (agS aL h (an.act n Aw)) Aw
def ae9{a:Act}(h:a.index.length=1):pX a=decide ((a.index[0]' Aw).op=5):=by
 obtain⟨x,ah⟩:=List.length_eq_one_iff.1 h;unfold pX;simp[ah]
def ae8{a:Act}(h:¬a.index.length=1):pX a=false:=by
 unfold pX;split
 .rename_i x ah;rw[ah] at h;exact absurd rfl h
 .rfl
def ad9(L:C_ Int)(a n:Nat):L++gD a (n+1)=L++gD a n++[((a+n:Nat):Int)]:=by rw[T6,NC]
end o
namespace Go.Proofs.R
open Go Go.RowKit ba o
structure p9(w:World)(b:Nat)(m:o.Model)(q:Nat):Prop where
 ex:∃cs ys bK,w.heap[b]? = some (.cells (cs++ys++[bK,.int .i64 q]).toArray T.tF)/\dh w cs m/\jq w ys (o.layout m)/\ix w bK (o.insts m)
theorem p9.ext{w w':A_}{b q:Nat}{m:o.Model}(he:Ext w w')(h:p9 w b m q):p9 w' b m q :=
 let ⟨xs,cs,bK,ad,h1,J,ab⟩:=h.ex; ⟨xs,cs,bK,he.obj ad,h1.ext he,J.ext he,ab.ext Flat.ext he⟩
def p9.form{w:A_}{b q:Nat}{m:o.Model}(h:p9 w b m q):∃bZ bz bN c1 bT c2 bW bw b1 bD eD d0 dI d1 ec d2 ep d3 eM d4 ca ci,
  w.heap[b]? = some (.cells #[.slice eD m.scalars.length d0,.slice dI m.vars.length d1,.slice ec m.aA.length d2,.slice ep m.procs.length d3,.slice eM m.props.length d4,
   .slice bZ (o.layout m).vars.length bz,.slice bN (o.layout m).aA.length c1,.slice bT (o.layout m).insts.length c2,.I (o.layout m).cells,.slice bW (o.layout m).aV.length bw,.slice b1 (o.layout m).U.length bD,.slice ca (o.insts m).length ci,.I q] T.tF) /\
  bm 1 (Flat bX) w (.slice bZ (o.layout m).vars.length bz) (o.layout m).vars/\bm 1 (Flat bX) w (.slice bN (o.layout m).aA.length c1) (o.layout m).aA/\bm 1 (Flat bX) w (.slice bT (o.layout m).insts.length c2) (o.layout m).insts /\
  iz w (.slice eD m.scalars.length d0) m.scalars/\h8 w (.slice dI m.vars.length d1) m.vars/\nv w (.slice ec m.aA.length d2) m.aA/\rJ w (.slice ep m.procs.length d3) m.procs /\
  ix w (.slice ca (o.insts m).length ci) (o.insts m):=by
 obtain⟨cs,xs,bK,ak,aL,ck,aP⟩:=h.ex;obtain⟨bZ,bz,bN,c1,bT,c2,bW,bw,b1,bD,rfl,dF,cR,cA,eN,fs⟩:=ck.form;obtain⟨eD,d0,dI,d1,ec,d2,ep,d3,eM,d4,rfl,ad,h1,J,ab,aF,_⟩:=aL.form;obtain⟨ca,ci,rfl,_⟩:=aP.form;exact⟨bZ,bz,bN,c1,bT,c2,bW,bw,b1,bD,eD,d0,dI,d1,ec,d2,ep,d3,eM,d4,ca,ci,ak,dF,cR,cA,ad,h1,J,ab,aP⟩
def uF(b:Nat)(L:C_ Int)(a n:Nat)(x y:Int)(w:A_)(h:fB w b L)(ah:x=a)(bF:y=n)(hm:a+n<=1000000000) :
  Ei F.d1 #[.map (some b),.I x,.I y] w λ_ w'=>fB w' b (L++gD a n)/\Mod (λi=>i=b) w w':=by
 subst ah bF;refine bk E.d1 ?_;refine I ?_;refine L_ 8 n [0,1,7] (λ_:Unit=>[]) () (λk _ W=>Mod (λi=>i=b) w W/\fB W b (L++gD a k)) a6 a6 ⟨Mod.refl _ _,by simpa[aeK] using h⟩ ?_;rintro k _ S w1 hk ⟨pM,fo⟩;refine I ?_;apply I_<;>intro g1
 .refine I ?_;refine AD2 fo λz=>?_;refine I ?_;refine _l ?_;refine I ?_;refine AD3 fo Aw λaz ov eo=>?_;refine I ?_;refine⟨Aw,aJ,(),trivial,pM.trans (ov.mod rfl),?_⟩;rw[ad9];exact eo
 .have gO:k=n:=Aw
  subst gO;refine I ?_;exact⟨fo,pM⟩
def Gr(b q:Nat)(m:o.Model)(w:A_)(h:p9 w b m q)(av:q<(o.insts m).length) :
  Ei F.d2 #[.pointer (some ⟨b,0,none⟩)] w λv w'=>v = .I (cV m q)/\Ext w w':=by
 obtain⟨bZ,bz,bN,c1,bT,c2,bW,bw,b1,bD,eD,d0,dI,d1,ec,d2,ep,d3,eM,d4,ca,ci,ak,dF,cR,cA,ad,h1,J,ab,aP⟩:=h.form;obtain⟨U,he⟩:=ow av;obtain⟨a2,rfl⟩:=cA.addr;refine bk E.d2 ?_;refine I ?_;intro w1 af;refine I ?_;exact⟨by rw[he],af⟩
def UK(b cU q i:Nat)(L:C_ Int)(m:o.Model)(w0 w:A_)(h:p9 w0 b m q)(he:Ext w0 w)(mV:w0.heap.size<=cU)(aj:fB w cU L)(aL:eE m)(U:i<m.aA.length) :
  Ei F.fd #[.pointer (some ⟨b,0,none⟩),.map (some cU),.I i] w λ_ w'=>fB w' cU (L++lX m i)/\Mod (λk=>k=cU) w w':=by
 obtain⟨bZ,bz,bN,c1,bT,c2,bW,bw,b1,bD,eD,d0,dI,d1,ec,d2,ep,d3,eM,d4,ca,ci,ak,dF,cR,cA,ad,h1,J,ab,aP⟩:=(h.ext he).form;obtain⟨je,eH⟩:=qc U;have s3:=tJ aL U;have eI:=oT U;have hT:=(aL.chan _ (E2 U)).cap;have gj:=aL.gj;obtain⟨db,rfl⟩:=cR.addr;obtain⟨a2,rfl⟩:=J.addr;have dK:=(J.at i U).cells;refine bk E.fd ?_;refine I ?_;intro w1 af;refine I ?_;refine J_ (uF cU L (b6 m i) (1+gF m i) _ _ w1 (aj.ext af) (by rw[eH]) Aw Aw) ?_;rintro _ az ⟨eo,fX⟩;refine I ?_;exact⟨eo,af.mod.trans fX⟩
def H4(b cU q i:Nat)(item own:Bool)(L:C_ Int)(m:o.Model)(w0 w:A_)(h:p9 w0 b m q)(he:Ext w0 w)(mV:w0.heap.size<=cU)(aj:fB w cU L)(aL:eE m)(av:q<(o.insts m).length)(U:i<m.vars.length)
  (aS:item=true->own=true->1<=(o.insts m)[q].elem) :
  Ei F.oS #[.pointer (some ⟨b,0,none⟩),.map (some cU),.I i,.bool item,.bool own] w λ_ w'=>fB w' cU (L++mC m q i (item&&own))/\Mod (λk=>k=cU) w w':=by
 obtain⟨bZ,bz,bN,c1,bT,c2,bW,bw,b1,bD,eD,d0,dI,d1,ec,d2,ep,d3,eM,d4,ca,ci,ak,dF,cR,cA,ad,h1,J,ab,aP⟩:=(h.ext he).form;obtain⟨dP,gn⟩:=rB U;have s3:=Et aL U;have vz:=rp U;have tY:=(rl _ (E2 av)).elem;have fc:=Fx av;have dN:=sH m.vars[i] m.scalars;obtain⟨a0,rfl⟩:=dF.addr;obtain⟨db,rfl⟩:=h1.addr;obtain⟨gu,rfl⟩:=aP.addr;have dK:=(h1.at i U).cells;cases item<;>cases own;rotate_left 3
 .have nc:=aS rfl rfl;refine bk E.oS ?_;refine I ?_;intro w1 af;refine I ?_;refine J_ (uF cU L (gb m i+Jy m q - 1) 1 _ _ w1 (aj.ext af) (by rw[gn];omega) rfl Aw) ?_;rintro _ az ⟨eo,fX⟩;refine I ?_;exact⟨eo,af.mod.trans fX⟩
 all_goals
  clear aS;refine bk E.oS ?_;refine I ?_;intro w1 af;refine I ?_;refine J_ (CE m.vars[i] _ m.scalars w1 (ad.ext af)) ?_;rintro _ az ⟨rfl,ai⟩;refine I ?_;refine J_ (uF cU L (gb m i) (lI m i) _ _ az ((aj.ext af).ext ai) (by rw[gn]) Aw Aw) ?_;rintro _ aM ⟨gT,jz⟩;refine I ?_;exact⟨gT,(af.mod.trans ai.mod).trans jz⟩
end Go.Proofs.R
namespace o
open Go
def adC{m:Model}{q:Nat}{own:Bool}{x:Node}(h:x.op=2){v:Var}(aH:m.vars[x.n.toNat]? = some v)(ad:v.over=0):mC m q x.n.toNat false=ek m q own x:=by
 obtain⟨h1,J⟩:=List.getElem?_eq_some_iff.1 aH;unfold ek mC;rw[if_pos h,if_neg CC,rp h1,J]
 have:cells v m.scalars=1:=by unfold cells;rw[if_pos ad]
 rw[this];rfl
end o
namespace Go.Proofs.R
open Go Go.RowKit ba o
structure ye(w:World)(bQ n0 b cU:Nat):Prop where
 x:w.heap[bQ]? = some (.cells #[.pointer (some ⟨b,0,none⟩)] T.a9)
 z:w.heap[n0]? = some (.cells #[.map (some cU)] T.s)
def ye.mod{w w':A_}{bQ n0 b cU:Nat}{L:C_ Int}(h:ye w bQ n0 b cU)(aj:fB w cU L)(hm:Mod (λk=>k=cU) w w'):ye w' bQ n0 b cU:=by
 obtain⟨es,c,an,_⟩:=aj.ex;have aw:∀{k:Nat} {cs t},w.heap[k]? = some (.cells cs t)->¬k=cU:=λhk e=>by subst e;rw[hk] at an;cases an
 exact⟨hm.obj (aw h.x) h.x,hm.obj (aw h.z) h.z⟩
theorem ye.ext{w w':A_}{bQ n0 b cU:Nat}(h:ye w bQ n0 b cU)(he:Ext w w'):ye w' bQ n0 b cU:=⟨he.obj h.x,he.obj h.z⟩
def aj0(x:o.Node)(own:Bool)(b cU bQ n0 q p:Nat)(L:C_ Int)(m:o.Model)(w0 w:A_)(h:p9 w0 b m q)(he:Ext w0 w)(mV:w0.heap.size<=cU)(aj:fB w cU L)(gP:ye w bQ n0 b cU)(aL:eE m)(aP:fL m q p)
  (ah:Ci (o.inner (m.procs[p]'(aP.au)) (eC m)) x)(c9:x.ok)(aS:own=true->1<=((o.insts m)[q]'(aP.av)).elem) :
  Ei F.be #[.agg x.enc.toArray,.bool own,.pointer (some ⟨bQ,0,none⟩),.pointer (some ⟨n0,0,none⟩)] w λ_ w'=>fB w' cU (L++ek m q own x)/\Mod (λk=>k=cU) w w':=by
 have av:=aP.av;have jN:=aP.zL aL;have Bq:=c9.op;have Bp:=c9.n;unfold dZ at Bq Bp;have o1:=gP.x;have xc:=gP.z;obtain⟨bZ,bz,bN,c1,bT,c2,bW,bw,b1,bD,eD,d0,dI,d1,ec,d2,ep,d3,eM,d4,ca,ci,rZ,dF,cR,cA,_,_,_,_,Qs⟩:=h.form;refine bk E.be ?_;refine I ?_;intro w1 cQ fD af bn;replace o1:=af.obj o1;replace xc:=af.obj xc;have fo:=aj.ext af;have j0:=he.trans af;obtain⟨es,ce,eH,_⟩:=fo.ex;have uz:¬cQ=cU:=λe=>by subst e;rw[bn] at eH;cases eH
 have D0:¬bQ=cU:=λe=>by subst e;rw[o1] at eH;cases eH
 have aqw:¬n0=cU:=λe=>by subst e;rw[xc] at eH;cases eH
 clear eH;unfold o.Node.enc at bn;refine I ?_;apply I_<;>intro g2
 .obtain⟨fj,v,aH,iE⟩:=ah.var g2;have dS:x.n.toNat<m.vars.length:=(List.getElem?_eq_some_iff.1 aH).1;have gK:x.n=(x.n.toNat:Nat):=Aw
  refine I ?_;rw[gK];refine J_ (H4 b cU q x.n.toNat false false L m w0 w1 h j0 mV fo aL av dS (λa=>by cases a)) ?_;rintro _ az ⟨eo,fX⟩;rw[Bool.false_and,adC g2 aH iE (own:=own)] at eo;refine I ?_;exact⟨eo,af.mod.trans fX⟩
 refine I ?_;apply I_<;>intro g3
 .obtain⟨fj,dS⟩:=ah.item g3;have gK:x.n=(x.n.toNat:Nat):=Aw
  refine I ?_;rw[gK];refine J_ (H4 b cU q x.n.toNat true own L m w0 w1 h j0 mV fo aL av dS (λ_ a=>aS a)) ?_;rintro _ az ⟨eo,fX⟩;have aO:ek m q own x=mC m q x.n.toNat (true&&own):=by unfold ek;rw[if_neg g2,if_pos g3,AJ5]
  rw[<-aO] at eo;refine I ?_;exact⟨eo,af.mod.trans fX⟩
 refine I ?_;apply I_<;>intro g4
 .obtain⟨fj,dS⟩:=ah.loc g4;have dL:x.n.toNat<(m.procs[p]'(aP.au)).vars.length:=dS;have bo:ek m q own x=gD (cV m q+1+x.n.toNat) 1:=by unfold ek;rw[if_neg g2,if_neg g3,if_pos g4]
  rw[bo];refine I ?_;intro az ai;refine I ?_;refine J_ (Gr b q m az (h.ext (j0.trans ai)) av) ?_;rintro _ aM ⟨rfl,ag⟩;refine⟨ag,?_⟩;refine I ?_;refine J_ (uF cU L (cV m q+1+x.n.toNat) 1 _ _ aM ((fo.ext ai).ext ag) Aw rfl Aw) ?_;rintro _ aR ⟨kW,kd⟩;refine I ?_;exact⟨kW,((af.mod.trans ai.mod).trans ag.mod).trans kd⟩
 refine I ?_;apply I_<;>intro g6
 .obtain⟨fj,dS⟩:=ah.len g6;have dL:x.n.toNat<m.aA.length:=dS;have Gj:=tJ aL dL;have gK:x.n=(x.n.toNat:Nat):=Aw
  have b5:ek m q own x=gD (b6 m x.n.toNat) 1:=by unfold ek;rw[if_neg g2,if_neg g3,if_neg g4,if_pos g6]
  rw[b5];obtain⟨je,eH⟩:=qc dL;obtain⟨db,rfl⟩:=cR.addr;have ak:=j0.obj rZ;have TL:=cR.ext Flat.ext j0;rw[gK] at bn;refine I ?_;intro az ai;refine I ?_;refine J_ (uF cU L (b6 m x.n.toNat) 1 _ _ az (fo.ext ai) (by rw[eH]) rfl Aw) ?_;rintro _ aR ⟨kW,kd⟩;refine I ?_;exact⟨kW,(af.mod.trans ai.mod).trans kd⟩
 refine I ?_;apply I_<;>intro g7;rotate_left
 .have eK:ek m q own x=[]:=by unfold ek;rw[if_neg g2,if_neg g3,if_neg g4,if_neg g6,if_neg g7]
  rw[eK,S5];refine I ?_;exact⟨fo,af.mod⟩
 have cL:ek m q own x=nX m (x.n.tdiv 16) (o.insts m).length:=by unfold ek;rw[if_neg g2,if_neg g3,if_neg g4,if_neg g6,if_pos g7]
 rw[cL];obtain⟨f6,f7,f8⟩:=pT m;obtain⟨fj,vE⟩:=ah.at_ g7;have RU:(x.n.tdiv 16).toNat<m.procs.length:=vE;have RY:=AK5 fj (show(0:Int)<=16 by omega);have RW:=aL.procs;have abT : -9223372036854775808<=x.n.tdiv 16/\x.n.tdiv 16<=9223372036854775807:=Aw
 have qg:∀{W},Mod (λk=>k=cU) w1 W->Ext w0 W:=λhm=>hm.ext j0 λk hk e=>Aw
 have gj:=xz aL;have cN:=j0.obj rZ;clear dF cR;refine I ?_;refine L_ 55 (o.insts m).length [2,3,4,53,54] (λ_:Unit=>[]) () (λk _ W=>Mod (λi=>i=cU) w1 W/\fB W cU (L++nX m (x.n.tdiv 16) k)) a6 a6 ⟨Mod.refl _ _,by simpa[nX] using fo⟩ ?_;have Rb:=xc;have jQ:=o1;have e0:=bn;clear o1 xc bn cN;rintro k _ S az hk ⟨fX,eo⟩;have o1:=fX.obj D0 jQ;have xc:=fX.obj aqw Rb;have bn:=fX.obj uz e0;have ak:=(qg fX).obj rZ;have AN:=Qs.ext Flat.ext (qg fX);refine I ?_;apply I_<;>intro g1
 .have b8:k<(o.insts m).length:=Aw
  obtain⟨gu,rfl⟩:=Qs.addr;obtain⟨sU,iD⟩:=ow b8;have vv:=G4 aL b8;obtain⟨a2,rfl⟩:=cA.addr;have aei:=cA.ext Flat.ext (qg fX);refine I ?_;intro wn ia hi fc eI;refine I ?_;intro aM fF b3;have ag:Ext az aM:=fF.ext fc hi;replace o1:=ag.obj o1;replace xc:=ag.obj xc;replace bn:=ag.obj bn;replace ak:=ag.obj ak;replace aei:=aei.ext Flat.ext ag;have gT:=eo.ext ag;have jz:=fX.trans ag.mod;clear eo AN;refine I ?_;refine _C Aw ?_;refine I ?_;apply I_<;>intro g2
  .refine I ?_;intro aR aq;refine I ?_;refine J_ (uF cU _ (cV m k) 1 _ _ aR (gT.ext aq) (by rw[iD]) rfl Aw) ?_;rintro _ bg ⟨rf,l2⟩;refine I ?_;refine⟨b8,aJ,(),trivial,(jz.trans aq.mod).trans l2,?_⟩;rw[Ak b8,if_pos g2,<-NC];exact rf
  .refine I ?_;refine⟨b8,aJ,(),trivial,jz,?_⟩;rw[Ak b8,if_neg g2,S5];exact gT
 .have gO:(o.insts m).length=k:=Aw
  rw[gO];refine I ?_;exact⟨eo,af.mod.trans fX⟩
def aji(e:C_ o.Node)(v:B_)(b cU bQ n0 q p:Nat)(L:C_ Int)(m:o.Model)(w0 w:A_)(h:p9 w0 b m q)(he:Ext w0 w)(mV:w0.heap.size<=cU)(aj:fB w cU L)(gP:ye w bQ n0 b cU)(aL:eE m)(aP:fL m q p)
  (aw:eW w0 v e)(ah:tp (o.inner (m.procs[p]'(aP.au)) (eC m)) e) :
  Ei F.AE #[v,.func (.func F.be) #[] #[.pointer (some ⟨bQ,0,none⟩),.pointer (some ⟨n0,0,none⟩)]] w λ_ w'=>fB w' cU (L++kb m q e e.length)/\Mod (λk=>k=cU) w w':=by
 obtain⟨aN,fh,rfl,aE⟩:=aw.form;have qg:∀{W},Mod (λk=>k=cU) w W->Ext w0 W:=λhm=>hm.ext he λk hk e=>Aw
 have hle:=ah.len;refine bk E.AE ?_;refine I ?_;refine L_ 9 e.length [1,7,8] (λae:Bool=>[(4,.bool ae)]) false (λk ae W=>ae=ru e k/\Mod (λi=>i=cU) w W/\fB W cU (L++kb m q e k)) a6 a6 ⟨rfl,Mod.refl _ _,by simpa[kb] using aj⟩ ?_;rintro k ae S w1 hk ⟨rfl,pM,fo⟩;have sY:=aw.ext (qg pM);have Z2:=gP.mod aj pM;refine I ?_;apply I_<;>intro g1
 .have b8:k<e.length:=Aw
  obtain⟨a,rfl⟩:=aw.addr;have ey:=(aw.at k b8).ok;have nJ:=ah.node k b8;refine I ?_;intro az dm e8 ai bS;have eo:=fo.ext ai;have fX:=pM.trans ai.mod;have ald:=Z2.ext ai;have n6:¬dm=cU:=λe=>by subst e;obtain⟨_,_,eH,_⟩:=eo.ex;rw[bS] at eH;cases eH
  clear sY fo Z2;refine I ?_;refine V_ (first:=[]) (cap:=[.pointer (some ⟨bQ,0,none⟩),.pointer (some ⟨n0,0,none⟩)]) Cx (aj0 e[k] (ru e k) b cU bQ n0 q p _ m w0 az h (qg fX) mV eo ald aL aP nJ.1 ey ?_) ?_
  .intro gz;cases k with
   | zero=>cases gz
   | succ j =>
    rw[Tu Aw] at gz;have a7:=(ah.node j Aw).1.self (by simpa using gz);exact aP.elem (by have:(o.inner (m.procs[p]'(aP.au)) (eC m)).self=(m.procs[p]'(aP.au)).over:=rfl;omega)
  rintro _ aM ⟨gT,jz⟩;have amq:=jz.obj n6 bS;clear bS;refine I ?_;refine⟨b8,aJ,_,⟨rfl,trivial⟩,?_,fX.trans jz,?_⟩
  .rw[Tu b8]
  .rw[P3 b8,<-NC];exact gT
 .have gO:e.length=k:=Aw
  rw[gO];refine I ?_;exact⟨fo,pM⟩
def FG(e:C_ o.Node)(v:B_)(b cU q p:Nat)(L:C_ Int)(m:o.Model)(w0 w:A_)(h:p9 w0 b m q)(he:Ext w0 w)(mV:w0.heap.size<=cU)(aj:fB w cU L)(aL:eE m)(aP:fL m q p)
  (aw:eW w0 v e)(ah:tp (o.inner (m.procs[p]'(aP.au)) (eC m)) e) :
  Ei F.d3 #[.pointer (some ⟨b,0,none⟩),.map (some cU),v] w λ_ w'=>fB w' cU (L++kb m q e e.length)/\Mod (λk=>k=cU) w w':=by
 refine bk E.d3 ?_;refine I ?_;intro w1 bQ o1 af jQ;refine I ?_;intro az n0 xc ai Rb;refine I ?_;refine J_ (aji e v b cU bQ n0 q p L m w0 az h ((he.trans af).trans ai) mV ((aj.ext af).ext ai) ⟨ai.obj jQ,Rb⟩ aL aP aw ah) ?_;rintro _ aM ⟨gT,jz⟩;refine I ?_;exact⟨gT,(af.mod.trans ai.mod).trans jz⟩
def asv(a:o.Act)(bK bY:B_)(b cU q p:Nat)(L:C_ Int)(m:o.Model)(w0 w:A_)(h:p9 w0 b m q)(he:Ext w0 w)(mV:w0.heap.size<=cU)(aj:fB w cU L)(aL:eE m)(aP:fL m q p)
  (U:eW w0 bK a.index)(aH:eW w0 bY a.value)(aY:nR (o.inner (m.procs[p]'(aP.au)) (eC m)) a) :
  Ei F.d4 #[.pointer (some ⟨b,0,none⟩),.map (some cU),.agg (a.enc bK bY).toArray] w λ_ w'=>fB w' cU (L++tA m q a)/\Mod (λk=>k=cU) w w':=by
 obtain⟨bZ,bz,bN,c1,bT,c2,bW,bw,b1,bD,eD,d0,dI,d1,ec,d2,ep,d3,eM,d4,ca,ci,rZ,dF,cR,cA,_,_,_,_,Qs⟩:=h.form;have zc:=aY.kind;refine bk E.d4 ?_;refine I ?_;intro w1 dJ jc af bI;have fo:=aj.ext af;have j0:=he.trans af;have ak:=j0.obj rZ;obtain⟨es,ce,eH,_⟩:=fo.ex;have n5:¬dJ=cU:=λe=>by subst e;rw[bI] at eH;cases eH
 clear eH;unfold o.Act.enc at bI;refine I ?_;apply I_<;>intro g2
 .refine I ?_;refine J_ (FG a.index bK b cU q p L m w0 w1 h j0 mV fo aL aP U (aY.item g2).2.2) ?_;rintro _ az ⟨eo,fX⟩;have vl:=fX.obj n5 bI;clear bI ak;refine I ?_;refine J_ (FG a.value bY b cU q p _ m w0 az h (fX.ext j0 λk hk e=>Aw) mV eo aL aP aH (aY.val Aw)) ?_;rintro _ aM ⟨gT,jz⟩;refine I ?_;refine⟨?_,(af.mod.trans fX).trans jz⟩;unfold tA;rw[if_neg Aw,if_pos g2,<-NC];exact gT
 refine I ?_;apply I_<;>intro g4
 .obtain⟨fj,dS⟩:=aY.chan (.inl g4);have dL:a.to.toNat<m.aA.length:=dS;have Gj:=tJ aL dL;have gK:a.to=(a.to.toNat:Nat):=Aw
  obtain⟨je,eH⟩:=qc dL;obtain⟨db,rfl⟩:=cR.addr;have TL:=cR.ext Flat.ext j0;rw[gK] at bI;refine I ?_;intro az ai;have vl:=ai.obj bI;refine I ?_;refine J_ (uF cU L (b6 m a.to.toNat) 1 _ _ az (fo.ext ai) (by rw[eH]) rfl Aw) ?_;rintro _ aM ⟨gT,jz⟩;have Gb:=jz.obj n5 vl;clear bI vl ak;refine I ?_;refine J_ (FG a.value bY b cU q p _ m w0 aM h (jz.ext (j0.trans ai) λk hk e=>Aw) mV gT aL aP aH (aY.val Aw)) ?_;rintro _ aR ⟨kW,kd⟩;refine I ?_;refine⟨?_,((af.mod.trans ai.mod).trans jz).trans kd⟩;unfold tA;rw[if_neg Aw,if_neg g2,if_pos g4,<-NC];exact kW
 refine I ?_;apply I_<;>intro g5
 .obtain⟨fj,dS⟩:=aY.chan (.inr g5);have dL:a.to.toNat<m.aA.length:=dS;have gK:a.to=(a.to.toNat:Nat):=Aw
  rw[gK] at bI;refine I ?_;refine J_ (UK b cU q a.to.toNat L m w0 w1 h j0 mV fo aL dL) ?_;rintro _ az ⟨eo,fX⟩;refine I ?_;refine⟨?_,af.mod.trans fX⟩;unfold tA;rw[if_pos g5];exact eo
 .refine I ?_;refine J_ (FG a.value bY b cU q p _ m w0 w1 h j0 mV fo aL aP aH (aY.val g5)) ?_;rintro _ az ⟨eo,fX⟩;refine I ?_;refine⟨?_,af.mod.trans fX⟩;unfold tA;rw[if_neg g5,if_neg g2,if_neg g4,AF8];exact eo
def avf(a:o.Act)(bK bY:B_)(b cU q p:Nat)(L:C_ Int)(m:o.Model)(w0 w:A_)(h:p9 w0 b m q)(he:Ext w0 w)(mV:w0.heap.size<=cU)(aj:fB w cU L)(aL:eE m)(aP:fL m q p)
  (U:eW w0 bK a.index)(aY:nR (o.inner (m.procs[p]'(aP.au)) (eC m)) a) :
  Ei F.d5 #[.pointer (some ⟨b,0,none⟩),.map (some cU),.agg (a.enc bK bY).toArray] w λ_ w'=>fB w' cU (L++j5 m q a)/\Mod (λk=>k=cU) w w':=by
 have zc:=aY.kind;have av:=aP.av;have jN:=aP.zL aL;refine bk E.d5 ?_;refine I ?_;intro w1 dJ jc af bI;have fo:=aj.ext af;have j0:=he.trans af;obtain⟨es,ce,eH,_⟩:=fo.ex;have n5:¬dJ=cU:=λe=>by subst e;rw[bI] at eH;cases eH
 clear eH;obtain⟨ca,ci,rfl,apT⟩:=U.form;unfold o.Act.enc at bI;refine I ?_;apply I_<;>intro g1
 .obtain⟨fj,v,aH,iE⟩:=aY.set g1;have dS:a.to.toNat<m.vars.length:=(List.getElem?_eq_some_iff.1 aH).1;have gK:a.to=(a.to.toNat:Nat):=Aw
  rw[gK] at bI;refine I ?_;refine J_ (H4 b cU q a.to.toNat false false L m w0 w1 h j0 mV fo aL av dS (λa=>by cases a)) ?_;rintro _ az ⟨eo,fX⟩;refine I ?_;refine⟨?_,af.mod.trans fX⟩;unfold j5;rw[if_pos g1];have e:=adC (m:=m) (q:=q) (own:=false) (x:=⟨2,a.to⟩) rfl aH iE;unfold ek at e;rw[if_pos rfl] at e;rw[Bool.false_and,e] at eo;exact eo
 refine I ?_;apply I_<;>intro g2
 .obtain⟨fj,dS,A5⟩:=aY.item g2;have dL:a.to.toNat<m.vars.length:=dS;have gK:a.to=(a.to.toNat:Nat):=Aw
  rw[gK] at bI;have qW:j5 m q a=mC m q a.to.toNat (pX a):=by unfold j5;rw[if_neg g1,if_pos g2]
  rw[qW];have Ky:=U.ext j0;refine I ?_;intro az ai;replace bI:=ai.obj bI;replace Ky:=Ky.ext ai;refine I ?_;apply I_<;>intro g3
  .obtain⟨gu,rfl⟩:=U.addr;have nJ:=(A5.node 0 Aw).1;have uj:=ae9 (a:=a) Aw;refine I ?_;refine K_ 0 rfl Aw ?_;refine I ?_;refine J_ (H4 b cU q a.to.toNat true (decide ((a.index[0]' Aw).op=5)) L m w0 az h (j0.trans ai) mV (fo.ext ai) aL av dL (λ_ a7=>?_)) ?_
   .have a7:=nJ.self (by simpa using a7);exact aP.elem (by have:(o.inner (m.procs[p]'(aP.au)) (eC m)).self=(m.procs[p]'(aP.au)).over:=rfl;omega)
   rintro _ aM ⟨gT,jz⟩;rw[AJ5,<-uj] at gT;refine I ?_;exact⟨gT,(af.mod.trans ai.mod).trans jz⟩
  .have uj:=ae8 (a:=a) Aw;refine I ?_;refine J_ (H4 b cU q a.to.toNat true false L m w0 az h (j0.trans ai) mV (fo.ext ai) aL av dL (λ_ a7=>by cases a7)) ?_;rintro _ aM ⟨gT,jz⟩;rw[Bool.and_false,<-uj] at gT;refine I ?_;exact⟨gT,(af.mod.trans ai.mod).trans jz⟩
 refine I ?_;apply I_<;>intro g3
 .obtain⟨fj,dS⟩:=aY.loc g3;have dL:a.to.toNat<(m.procs[p]'(aP.au)).vars.length:=dS;have qW:j5 m q a=gD (cV m q+1+a.to.toNat) 1:=by unfold j5;rw[if_neg g1,if_neg g2,if_pos g3]
  rw[qW];refine I ?_;intro az ai;refine I ?_;refine J_ (Gr b q m az (h.ext (j0.trans ai)) av) ?_;rintro _ aM ⟨rfl,ag⟩;refine⟨ag,?_⟩;refine I ?_;refine J_ (uF cU L (cV m q+1+a.to.toNat) 1 _ _ aM ((fo.ext ai).ext ag) Aw rfl Aw) ?_;rintro _ aR ⟨kW,kd⟩;refine I ?_;exact⟨kW,((af.mod.trans ai.mod).trans ag.mod).trans kd⟩
 refine I ?_;apply I_<;>intro g4
 .obtain⟨fj,dS⟩:=aY.chan (.inl g4);have dL:a.to.toNat<m.aA.length:=dS;have gK:a.to=(a.to.toNat:Nat):=Aw
  rw[gK] at bI;refine I ?_;refine J_ (UK b cU q a.to.toNat L m w0 w1 h j0 mV fo aL dL) ?_;rintro _ az ⟨eo,fX⟩;refine I ?_;refine⟨?_,af.mod.trans fX⟩;unfold j5;rw[if_neg g1,if_neg g2,if_neg g3,if_pos g4];exact eo
 have g5:a.kind=5:=Aw
 .obtain⟨fj,dS⟩:=aY.chan (.inr g5);obtain⟨cM,ig⟩:=aY.recv g5;have r6:a.loc.toNat<(m.procs[p]'(aP.au)).vars.length:=ig;have dL:a.to.toNat<m.aA.length:=dS;have gK:a.to=(a.to.toNat:Nat):=Aw
  rw[gK] at bI;refine I ?_;refine J_ (UK b cU q a.to.toNat L m w0 w1 h j0 mV fo aL dL) ?_;rintro _ az ⟨eo,fX⟩;have awA:=fX.obj n5 bI;have df:=fX.ext j0 λk hk e=>Aw
  clear bI;refine I ?_;intro aM ag;refine I ?_;refine J_ (Gr b q m aM (h.ext (df.trans ag)) av) ?_;rintro _ aR ⟨rfl,aq⟩;refine⟨aq,?_⟩;refine I ?_;refine J_ (uF cU _ (cV m q+1+a.loc.toNat) 1 _ _ aR ((eo.ext ag).ext aq) Aw rfl Aw) ?_;rintro _ bg ⟨rf,l2⟩;refine I ?_;refine⟨?_,(((af.mod.trans fX).trans ag.mod).trans aq.mod).trans l2⟩;unfold j5;rw[if_neg g1,if_neg g2,if_neg g3,if_neg g4,if_pos g5,<-NC];exact rf
end Go.Proofs.R