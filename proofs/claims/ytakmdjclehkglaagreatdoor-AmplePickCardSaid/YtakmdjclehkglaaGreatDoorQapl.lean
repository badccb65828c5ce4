/- Parts. -/
import Derived.Test.YtakmdjclehkglaaGreatDoorQapk
import Derived.Lib.SlKeysI
import Derived.Maps.OwnSet
set_option linter.all false
set_option maxRecDepth 8000
set_option maxHeartbeats 16000000
namespace a8
open Go Go.RowKit
def _q{P:D_}{cL:B_->A_->Prop}{α:Type}{enc:α->C_ B_}{e:F_}{sz base n:Nat}{w:A_}{vs:Nat->H_ Addr×Nat×Nat}{xs:Nat->C_ α}{ty:F_}{b:Nat}{a:Addr}{c:Nat}{y:α}{t}(i:Nat)(U:i<n)(h:iO enc e sz base w n vs xs)(dq:∀x,(enc x).length=sz)(an:fc w a (enc y))(h1:∀y,∀u∈enc y,u.oneCell'=true)
  (ak:((xs i).length+1)*b<=140737488355328)(lo:(xs i).length+1<=maxLen)(kI:base<=w.heap.size)
  (hk:∀bU w',iO enc e sz base w' n (fG vs i bU) (fG xs i (xs i++[y]))->w.grownBy w' (ck (vs i)).ownBlock->cL (ck bU) w'):mw P ty e sz b (ck (vs i)) (.slice (some a) 1 c) w cL t:=by
 unfold mw;exact iO.app i U h dq an h1 ak lo kI λbU w' a b _=>hk bU w' a b
end a8
namespace o
def PS{s:Int}{l:C_ Cell}{k:Nat}(h:k<l.length):jo s (l.take (k+1)) 0=jo s (l.take k) 0++(if l[k].place=0/\l[k].sort=s then [(k:Int)] else []):=by
 rw[Iu h,Fi];simp only[jo,List.append_nil,List.length_take,Nat.zero_add];rw[show min k l.length=k from Ad]
theorem Zk(s:Int):∀(l:C_ Cell) (i:Nat),(jo s l i).length<=l.length
 | [],_=>by simp[jo]
 | x :: r,i=>by
  have:=Zk s r (i+1)
  simp only[jo,List.length_append,List.length_cons];split<;>simp<;>omega
def ku(l:C_ Cell)(k:Nat):Nat->C_ Int:=λi=>if i=0 then jo 1 (l.take k) 0 else if i=1 then jo 2 (l.take k) 0 else if i=2 then jo 3 (l.take k) 0 else if i=3 then (l.take k).map (·.aV) else (l.take k).map (·.U)
end o
namespace Go.Proofs.R
open Go Go.RowKit a8
abbrev ly(R:Nat->C_ Int)(j:Nat)(s:Int)(x:o.Cell)(k:Nat):Nat->C_ Int:=fG R j (R j++if x.place=0/\x.sort=s then [(k:Int)] else [])
def DP:C_ F_:=[T.a,T.h]
def mH(vs:Nat->fy)(n:Int):Array B_:=#[ck (vs 0),ck (vs 1),ck (vs 2),.int .i64 n,ck (vs 3),ck (vs 4)]
structure pT(w1:World)(b:Nat)(xs:Nat->List Int)(n:Int)(W:World):Prop where
 mod:Mod (λk=>k=b) w1 W
 ex:∃vs:Nat->fy,W.heap[b]? = some (.cells (mH vs n) T.h)/\iO bX T.a 1 w1.heap.size W 5 vs xs
def pT.congr{w1:A_}{b:Nat}{xs HL:Nat->C_ Int}{n:Int}{W:A_}(h:pT w1 b xs n W)(af:∀i,i<5->xs i=HL i):pT w1 b HL n W :=
 let ⟨vs,g1,g2⟩:=h.ex; ⟨h.mod,vs,g1,g2.congr (λ_ _=>rfl) af⟩
def GZ{w1:A_}{b:Nat}{xs:Nat->C_ Int}{n y:Int}{W qG lG sm:A_}{vs:Nat->fy}{bU:fy}{i:Nat}(U:i<5)(hm:Mod (λk=>k=b) w1 W)(g1:W.heap[b]? = some (.cells (mH vs n) T.h))(g2:iO bX T.a 1 w1.heap.size W 5 vs xs)
  (he:Ext W qG)(aG:qG.grownBy lG (ck (vs i)).ownBlock)(aQ:iO bX T.a 1 w1.heap.size lG 5 (fG vs i bU) (fG xs i (xs i++[y])))(hw:du b lG sm)(an:sm.heap[b]? = some (.cells (mH (fG vs i bU) n) T.h)) :
  pT w1 b (fG xs i (xs i++[y])) n sm/\eR DP W sm:=by
 have zi:Mod (λk=>(ck (vs i)).ownBlock=some k) qG lG:=Mod.grown aG λk hk=>hk;have g5:=he.obj g1;have g6:lG.heap[b]? = some (.cells (mH vs n) T.h):=zi.obj ((g2.ext he).not g5 By i U) g5;refine⟨⟨?_,_,an,aQ.mod (hw.mod (A:=λk=>k=b) rfl) λj k az hk e=>?_⟩,?_⟩
 .have h1:Mod (λk=>k=b) w1 qG:=hm.comp (A':=λ_=>False) he.mod (λ_ _ a=>a) λ_ _ a=>a.elim;have I:Mod (λk=>k=b) w1 lG:=h1.comp zi (λ_ _ a=>a) λj az a=>by have:=(g2.lt i j U a).1;omega
  exact I.trans (hw.mod rfl)
 .subst e;exact aQ.not g6 By j az hk
 .refine((eR.ext he).trans (eR.mod zi λk c t an a=>?_)).trans (eR.wr hw g6 By);obtain⟨cur,h⟩:=((g2.ext he).own i U).cy k a;rw[an] at h;injection h with h;injection h with _ h;rw[h];decide
def TG(cs:C_ B_)(m:o.Model)(w:A_)(h:o.dj w cs m)(aG:m.cv)(aL:o.ey m) :
  Du F.LS #[.agg cs.toArray] w λv w'=>(∃xs,v = .agg xs.toArray/\eL w (λw=>o.jk w xs (o.layout m)) w')/\Ext w w':=by
 have b4:=h;obtain⟨b0,bz,bO,c1,bT,c2,bV,bu,b1,bB,rfl,_⟩:=h.form;have j4:=o.iG aL;refine bl E.LS ?_;refine aa ?_;intro NG bx cN rR al;have c5:=cq al;refine aa ?_;intro NH bQ c7 qW ao;have dA:=cq ao;replace al:=qW.obj al;refine aa ?_;intro w1 bW eX n2 ba;replace al:=n2.obj al;replace ao:=n2.obj ao;have ea:=cq ba;have jR:=rR.size;have jF:=qW.size;have sc:=n2.size;have n13:bx≠bW:=Ad
 have bF:=(rR.trans qW).trans n2;refine aa ?_;refine J_ (ar9 _ m w1 (b4.ext bF) aG aL) ?_;rintro dV zB ⟨dL,qX⟩;obtain⟨ap8,ahw,rfl,_⟩:=dL.form;have kv:pT w1 bW (o.ku (o.cp m) 0) 0 zB:=⟨qX.mod,λ_=>(none,0,0),qX.obj ba,⟨λi U=>by
   have e:o.ku (o.cp m) 0 i=[]:=by unfold o.ku; (repeat' split)<;>simp[o.jo]
   rw[e];exact aJ.nil _ _ _ _ _,λi j k _ _ _ e=>by cases e⟩⟩
 have oY:∀{xs n W},pT w1 bW xs n W->W.heap[bx]? = w1.heap[bx]? := λh=>h.mod.block _ Ad n13;have gT:∀{xs n W},pT w1 bW xs n W->W.heap[bQ]? = w1.heap[bQ]? := λh=>h.mod.block _ Ad Ad;have de:∀{xs n W},pT w1 bW xs n W->Ext w W:=λh=>h.mod.ext bF λi U e=>Ad
 have kJ:∀{W:A_},eR DP zB W->bm 6 (Flat o.Cell.enc) W (.slice ap8 (o.cp m).length ahw) (o.cp m):=λk=>aJ.e3 (enc:=o.Cell.enc) (λ_=>rfl) (dL.iy k By);rw[ao] at gT;clear al ao ba dL;refine aa ?_;refine L_ 5 (o.cp m).length [1,2,3,4] (λ_:Unit=>[]) () (λk _ W=>pT w1 bW (o.ku (o.cp m) k) 0 W/\eR DP zB W) a6 a6 ⟨kv,eR.refl⟩ ?_;clear kv;rintro k _ S aA hk ⟨aj,o0⟩;have dL:=kJ o0;obtain⟨aup,g1,g2⟩:=aj.ex;refine aa ?_;apply I_<;>intro g0
 .have a7:k<(o.cp m).length:=Ad
  obtain⟨a,rfl⟩:=dL.addr;clear g1 g2;obtain⟨x,af⟩:∃x,x=(o.cp m)[k]:=⟨_,rfl⟩;have hR:∀i,(o.ku (o.cp m) k i).length<=100:=λi=>by
   unfold o.ku;have q:=λs=>o.Zk s ((o.cp m).take k) 0;have c5:=q 1;have dA:=q 2;have ea:=q 3
   (repeat' split)<;>simp only[List.length_map,List.length_take] at * <;> omega
  refine dS ?_;simp -dsimp only[cH];refine dS ?_;refine R_ [1,2,3,4,5] (λ_:Unit=>[]) (λ_ W=>pT w1 bW (ly (o.ku (o.cp m) k) 0 1 x k) 0 W/\eR DP zB W) ?_ ?_
  .have dL:=kJ o0;obtain⟨vs,g1,g2⟩:=aj.ex;have nX:=g1;unfold mH at g1;dsimp only[ck] at g1;have same:¬(x.place=0/\x.sort=1)->pT w1 bW (ly (o.ku (o.cp m) k) 0 1 x k) 0 aA:=λe=>aj.congr λj az=>by
    unfold ly fG;by_cases a:j=0
    .subst a;simp[e]
    .simp[a]
   refine aa ?_;rw[<-af];apply I_<;>intro g3
   .refine aa ?_;rw[<-af];apply I_<;>intro g4
    .refine aa ?_;intro bh dF jt av bI;have fQ:=aj.mod.size;have z2:=av.size;have hlen:((o.ku (o.cp m) k) 0).length<=100:=hR 0;have pv:=g2.ext av;have g15:=av.obj nX;refine _q (y:=(k:Int)) 0 By pv (λ_=>rfl) (im bI) hA Ad (by unfold maxLen;omega) Ad λbU bq dn iF=>?_;have e5:bq.heap[bW]? = some (.cells (mH vs 0) T.h):=(Mod.grown (A:=λk=>(ck (vs 0)).ownBlock=some k) iF λk hk=>hk).obj (pv.not g15 By 0 By) g15;have wV:=e5;unfold mH at e5;refine aa ?_;intro bH dw bZ;obtain⟨kq,vv⟩:=GZ By aj.mod nX g2 av iF dn dw bZ;refine aa ?_;refine⟨(),trivial,kq.congr λj az=>?_,o0.trans vv⟩;have e:(if x.place=0/\x.sort=1 then [(k:Int)] else [])=[(k:Int)]:=if_pos ⟨g3,g4⟩;unfold ly;rw[e]
    .refine aa ?_;exact⟨(),trivial,same λe=>g4 e.2,o0⟩
   .refine aa ?_;exact⟨(),trivial,same λe=>g3 e.1,o0⟩
  rintro _ S ew ⟨KG,KY⟩;refine dS ?_;refine R_ [1,2,3,4,5] (λ_:Unit=>[]) (λ_ W=>pT w1 bW (ly (ly (o.ku (o.cp m) k) 0 1 x k) 1 2 x k) 0 W/\eR DP zB W) ?_ ?_
  .have dL:=kJ KY;obtain⟨vs,g1,g2⟩:=KG.ex;have nX:=g1;unfold mH at g1;dsimp only[ck] at g1;have same:¬(x.place=0/\x.sort=2)->pT w1 bW (ly (ly (o.ku (o.cp m) k) 0 1 x k) 1 2 x k) 0 ew:=λe=>KG.congr λj az=>by
    unfold ly fG;by_cases a:j=1
    .subst a;simp[e]
    .simp[a]
   refine aa ?_;rw[<-af];apply I_<;>intro g3
   .refine aa ?_;rw[<-af];apply I_<;>intro g4
    .refine aa ?_;intro bh dF jt av bI;have fQ:=KG.mod.size;have z2:=av.size;have hlen:((ly (o.ku (o.cp m) k) 0 1 x k) 1).length<=100:=hR 1;have pv:=g2.ext av;have g15:=av.obj nX;refine _q (y:=(k:Int)) 1 By pv (λ_=>rfl) (im bI) hA Ad (by unfold maxLen;omega) Ad λbU bq dn iF=>?_;have e5:bq.heap[bW]? = some (.cells (mH vs 0) T.h):=(Mod.grown (A:=λk=>(ck (vs 1)).ownBlock=some k) iF λk hk=>hk).obj (pv.not g15 By 1 By) g15;have wV:=e5;unfold mH at e5;refine aa ?_;intro bH dw bZ;obtain⟨kq,vv⟩:=GZ By KG.mod nX g2 av iF dn dw bZ;refine aa ?_;refine⟨(),trivial,kq.congr λj az=>?_,KY.trans vv⟩;have e:(if x.place=0/\x.sort=2 then [(k:Int)] else [])=[(k:Int)]:=if_pos ⟨g3,g4⟩;unfold ly;rw[e]
    .refine aa ?_;exact⟨(),trivial,same λe=>g4 e.2,KY⟩
   .refine aa ?_;exact⟨(),trivial,same λe=>g3 e.1,KY⟩
  rintro _ S fB ⟨KH,KZ⟩;refine dS ?_;refine R_ [1,2,3,4,5] (λ_:Unit=>[]) (λ_ W=>pT w1 bW (ly (ly (ly (o.ku (o.cp m) k) 0 1 x k) 1 2 x k) 2 3 x k) 0 W/\eR DP zB W) ?_ ?_
  .have dL:=kJ KZ;obtain⟨vs,g1,g2⟩:=KH.ex;have nX:=g1;unfold mH at g1;dsimp only[ck] at g1;have same:¬(x.place=0/\x.sort=3)->pT w1 bW (ly (ly (ly (o.ku (o.cp m) k) 0 1 x k) 1 2 x k) 2 3 x k) 0 fB:=λe=>KH.congr λj az=>by
    unfold ly fG;by_cases a:j=2
    .subst a;simp[e]
    .simp[a]
   refine aa ?_;rw[<-af];apply I_<;>intro g3
   .refine aa ?_;rw[<-af];apply I_<;>intro g4
    .refine aa ?_;intro bh dF jt av bI;have fQ:=KH.mod.size;have z2:=av.size;have hlen:((ly (ly (o.ku (o.cp m) k) 0 1 x k) 1 2 x k) 2).length<=100:=hR 2;have pv:=g2.ext av;have g15:=av.obj nX;refine _q (y:=(k:Int)) 2 By pv (λ_=>rfl) (im bI) hA Ad (by unfold maxLen;omega) Ad λbU bq dn iF=>?_;have e5:bq.heap[bW]? = some (.cells (mH vs 0) T.h):=(Mod.grown (A:=λk=>(ck (vs 2)).ownBlock=some k) iF λk hk=>hk).obj (pv.not g15 By 2 By) g15;have wV:=e5;unfold mH at e5;refine aa ?_;intro bH dw bZ;obtain⟨kq,vv⟩:=GZ By KH.mod nX g2 av iF dn dw bZ;refine aa ?_;refine⟨(),trivial,kq.congr λj az=>?_,KZ.trans vv⟩;have e:(if x.place=0/\x.sort=3 then [(k:Int)] else [])=[(k:Int)]:=if_pos ⟨g3,g4⟩;unfold ly;rw[e]
    .refine aa ?_;exact⟨(),trivial,same λe=>g4 e.2,KZ⟩
   .refine aa ?_;exact⟨(),trivial,same λe=>g3 e.1,KZ⟩
  rintro _ S hx ⟨R0,acy⟩;have dL:=kJ acy;obtain⟨vs,g1,g2⟩:=R0.ex;have nX:=g1;unfold mH at g1;dsimp only[ck] at g1;refine aa ?_;intro bh av;replace dL:=dL.ext Flat.ext av;replace g1:=av.obj g1;refine aa ?_;intro bq dC e5 aD bS;refine⟨aD,?_⟩;have w2:=av.trans aD;have fQ:=R0.mod.size;have z2:=w2.size;have hlen:(o.ku (o.cp m) k 3).length<=100:=hR 3;have pv:=g2.ext w2;have g15:=w2.obj nX;refine _q (y:=(o.cp m)[k].aV) 3 By pv (λ_=>rfl) (im bS) hA (by unfold ly;rw[show(fG _ 2 _ 3:C_ Int)=o.ku (o.cp m) k 3 from rfl];omega) (by unfold ly;rw[show(fG _ 2 _ 3:C_ Int)=o.ku (o.cp m) k 3 from rfl];unfold maxLen;omega) Ad λbU bH dU ko=>?_;have gZ:bH.heap[bW]? = some (.cells (mH vs 0) T.h):=(Mod.grown (A:=λk=>(ck (vs 3)).ownBlock=some k) ko λk hk=>hk).obj (pv.not g15 By 3 By) g15;have FL:=gZ;unfold mH at gZ;refine aa ?_;intro axU ja cD;obtain⟨RS,aoK⟩:=GZ By R0.mod nX g2 w2 ko dU ja cD;clear g1 g2 nX pv g15 dU gZ FL cD bS dL;have acw:=acy.trans aoK;have dL:=kJ acw;obtain⟨vs,g1,g2⟩:=RS.ex;have nX:=g1;unfold mH at g1;dsimp only[ck] at g1;refine aa ?_;intro bh av;replace dL:=dL.ext Flat.ext av;replace g1:=av.obj g1;refine aa ?_;intro bq dC e5 aD bS;refine⟨aD,?_⟩;have w2:=av.trans aD;have fQ:=RS.mod.size;have z2:=w2.size;have hlen:(o.ku (o.cp m) k 4).length<=100:=hR 4;have pv:=g2.ext w2;have g15:=w2.obj nX;refine _q (y:=(o.cp m)[k].U) 4 By pv (λ_=>rfl) (im bS) hA (by rw[show(fG _ 3 _ 4:C_ Int)=o.ku (o.cp m) k 4 from rfl];omega) (by rw[show(fG _ 3 _ 4:C_ Int)=o.ku (o.cp m) k 4 from rfl];unfold maxLen;omega) Ad λbU bH dU ko=>?_;have gZ:bH.heap[bW]? = some (.cells (mH vs 0) T.h):=(Mod.grown (A:=λk=>(ck (vs 4)).ownBlock=some k) ko λk hk=>hk).obj (pv.not g15 By 4 By) g15;have FL:=gZ;unfold mH at gZ;refine aa ?_;intro axV ja cD;obtain⟨anQ,aoL⟩:=GZ By RS.mod nX g2 w2 ko dU ja cD;clear g1 g2 nX pv g15 dU gZ FL cD bS dL;have aoM:=acw.trans aoL;refine aa ?_;refine⟨a7,aK,(),trivial,anQ.congr λj az=>?_,aoM⟩;subst af;have a:j=0\/j=1\/j=2\/j=3\/j=4:=Ad
  rcases a with rfl | rfl | rfl | rfl | rfl
  .exact(o.PS (s:=1) a7).symm
  .exact(o.PS (s:=2) a7).symm
  .exact(o.PS (s:=3) a7).symm
  .show(_:C_ Int)=((o.cp m).take (k+1)).map (·.aV);rw[Iu a7,AF1];rfl
  .show(_:C_ Int)=((o.cp m).take (k+1)).map (·.U);rw[Iu a7,AF1];rfl
 have oW:k=(o.cp m).length:=Ad
 subst oW;have df:=de aj;have ao:=gT aj;clear g1 g2;obtain⟨vs,g1,g2⟩:=aj.ex;have nX:=g1;unfold mH at g1;dsimp only[ck] at g1;refine aa ?_;intro aM fE ba;have g23:=g2.mod (fE.mod (A:=λk=>k=bW) rfl) λi k U hk e=>by subst e;exact g2.not nX By i U hk
 replace ao:=fE.obj ao Ad;replace ba:aM.heap[bW]? = some (.cells #[ck (vs 0),ck (vs 1),ck (vs 2),.I (o.cp m).length,ck (vs 3),ck (vs 4)] T.h):=ba;dsimp only[ck] at ba;refine aa ?_;intro aU dQ bo;have g24:=g23.mod (dQ.mod (A:=λk=>k=bQ) rfl) λi k U hk e=>by subst e;exact g23.not ao By i U hk
 have bA:w.heap.size<=w1.heap.size:=Ad
 have ue:=λ(i:Nat) (U:i<5)=>aJ.new (e:=T.a) (enc:=bX) (λ_=>rfl) (aJ.low bA (g24.own i U));obtain⟨f1,f2,f3⟩:=o.aj0 aL;have dB:o.ku (o.cp m) (o.cp m).length 0=(o.layout m).vars:=by show o.jo 1 ((o.cp m).take _) 0=_;rw[AE8,f1];rfl
 have cP:o.ku (o.cp m) (o.cp m).length 1=(o.layout m).ax:=by show o.jo 2 ((o.cp m).take _) 0=_;rw[AE8,f2];rfl
 have cA:o.ku (o.cp m) (o.cp m).length 2=(o.layout m).insts:=by show o.jo 3 ((o.cp m).take _) 0=_;rw[AE8,f3];rfl
 have eI:o.ku (o.cp m) (o.cp m).length 3=(o.layout m).aV:=by show((o.cp m).take _).map _=_;rw[AE8];rfl
 have fp:o.ku (o.cp m) (o.cp m).length 4=(o.layout m).U:=by show((o.cp m).take _).map _=_;rw[AE8];rfl
 refine aa ?_;refine⟨⟨[_,_,_,_,_,_],rfl,λe4 ua=>⟨⟨_,_,_,_,_,rfl,?_,?_,?_,?_,?_⟩⟩⟩,dQ.ext (fE.ext df Ad) Ad⟩
 .rw[<-dB];exact ue 0 By e4 ua
 .rw[<-cP];exact ue 1 By e4 ua
 .rw[<-cA];exact ue 2 By e4 ua
 .rw[<-eI];exact ue 3 By e4 ua
 .rw[<-fp];exact ue 4 By e4 ua
def TF(cs:C_ B_)(m:o.Model)(w:A_)(h:o.dj w cs m)(aG:m.cv) :
  Du F.LU #[.agg cs.toArray] w λv w'=>(∃xs,v = .agg xs.toArray/\eL w (λw=>o.jk w xs (o.lay m)) w')/\Ext w w':=by
 have aL:=h;obtain⟨b0,bz,bO,c1,bT,c2,bV,bu,b1,bB,rfl,_⟩:=h.form;refine bl E.LU ?_;refine aa ?_;intro w1 bx cN ag al;refine aa ?_;intro aA bQ c7 ai ao;have fQ:=cq al;replace al:=ai.obj al;have z2:=cq ao;have z3:=ag.size;have aH:=ag.trans ai;refine aa ?_;refine J_ (aky _ m aA (aL.ext aH) aG) ?_;rintro _ aM ⟨rfl,ah⟩;replace al:=ah.obj al;replace ao:=ah.obj ao;have aR:=aH.trans ah;by_cases hk:(o.check m).cJ=0
 .rw[decide_eq_true hk];refine aa ?_;refine J_ (TG _ m aM (aL.ext aR) aG (o.hE hk)) ?_;rintro _ aU ⟨⟨xs,rfl,ch⟩,aq⟩;obtain⟨kT,d0,ie,d1,ji,d2,nd,d3,mu,d4,rfl,_⟩:=ch.here.form;replace ao:=aq.obj ao;have bn:=aR.trans aq;have z4:=ah.size;refine aa ?_;intro bq gE bS;have aw:=ch.wr gE Ad;refine aa ?_;exact⟨⟨_,rfl,by rw[o.zg hk];exact aw.low aR.size⟩,gE.ext bn Ad⟩
 .rw[decide_eq_false hk];refine aa ?_;intro aU dQ bo;refine aa ?_;exact⟨⟨[_,_,_,_,_,_],rfl,by rw[o.acF hk];exact gW.of λ_=>o.jk.zero _⟩,dQ.ext aR Ad⟩
end Go.Proofs.R
namespace o
open Go
def fY(m:Model)(i:Nat):Nat:=total ((c4 m).take i)
def b7(m:Model)(i:Nat):Nat:=total (c4 m)+total ((dG m).take i)
def cU(m:Model)(i:Nat):Nat:=total (c4 m)+total (dG m)+total ((fF m).take i)
theorem No(n:Nat):∀(ls:C_ (C_ dY)) (i:Nat) (h:i<(ia n ls).length),(ia n ls)[i]=((n+total (ls.take i):Nat):Int)
 | [],i,h=>by simp[ia] at h
 | l :: r,0,h=>by simp[ia,total]
 | l :: r,i+1,h=>by
  simp only[ia,List.getElem_cons_succ,List.take_succ_cons,HD];rw[No (n+l.length) r i (by simpa[ia] using h)];congr 1;omega
def di(m:Model):Nat:=(cp m).length
def nq(m:Model):di m=total (c4 m)+total (dG m)+total (fF m):=GQ m
def ri{m:Model}{i:Nat}(h:i<m.vars.length):∃br:i<(layout m).vars.length,(layout m).vars[i]=(fY m i:Int):=by
 have br:i<(ia 0 (c4 m)).length:=by rw[ux];simpa[c4] using h
 exact⟨br,by have:=No 0 (c4 m) i br;rw[SO] at this;exact this⟩
def p1{m:Model}{i:Nat}(h:i<m.ax.length):∃br:i<(layout m).ax.length,(layout m).ax[i]=(b7 m i:Int):=by
 have br:i<(ia (total (c4 m)) (dG m)).length:=by rw[ux];simpa[dG] using h
 exact⟨br,No _ _ i br⟩
def oe{m:Model}{i:Nat}(h:i<(insts m).length):∃br:i<(layout m).insts.length,(layout m).insts[i]=(cU m i:Int):=by
 have br:i<(ia (total (c4 m)+total (dG m)) (fF m)).length:=by rw[ux];simpa[fF] using h
 exact⟨br,No _ _ i br⟩
def sb{m:Model}{i:Nat}(h:i<m.vars.length):fY m i+(cells m.vars[i] m.scalars).toNat<=total (c4 m):=by
 have br:i<(c4 m).length:=by simpa[c4] using h
 have:=Uc br
 have e:(c4 m)[i].length=(cells m.vars[i] m.scalars).toNat:=by simp[c4,D6]
 rw[e] at this;exact this
def wv{m:Model}{i:Nat}(h:i<m.ax.length):b7 m i+(1+m.ax[i].cap.toNat)<=total (c4 m)+total (dG m):=by
 have br:i<(dG m).length:=by simpa[dG] using h
 have:=Uc br
 have e:(dG m)[i].length=1+m.ax[i].cap.toNat:=by simp[dG,wy]
 rw[e] at this;unfold b7;omega
def Su{m:Model}{i:Nat}(h:i<(insts m).length):cU m i+(ml m (insts m)[i]).length<=di m:=by
 have br:i<(fF m).length:=by simpa[fF] using h
 have:=Uc br
 have e:(fF m)[i].length=(ml m (insts m)[i]).length:=by simp[fF]
 rw[e] at this;rw[nq];unfold cU;omega
def l3(s:C_ Scalar)(c:dZ)(l:C_ Int):Prop :=
 ∃n,l[0]? = some n/\0<=n/\n<=c.cap/\∀k:Nat,(k:Int)<c.cap->∃x,l[k+1]? = some x/\((k:Int)<n->(e1 c.scalar c.aV c.U s).aV<=x/\x<=(e1 c.scalar c.aV c.U s).U)/\(n<=k->x=0)
def nR(m:Model)(i:Nat)(c:dZ)(s:C_ Int):C_ Int:=(s.drop (b7 m i)).take (1+c.cap.toNat)
structure Fits(m:Model)(s:List Int):Prop where
 len:s.length=di m
 queue:∀i (h:i<m.ax.length),l3 m.scalars m.ax[i] (nR m i m.ax[i] s)
 cell:∀i (h:i<s.length) (br:i<(cp m).length),(cp m)[i].aV<=s[i]/\s[i]<=(cp m)[i].U
def iN(m:Model)(s:C_ Int):Prop:=(check m).cJ=0/\Fits m s
def wj(m:Model)(s:C_ Int)(p:Int)(l:Int)(k:Nat):Nat:=((List.range k).filter λi=>decide (((insts m)[i]?.map (·.proc))=some p/\s[cU m i]? = some l)).length
def kE(m:Model)(s:C_ Int)(p:Nat)(n:Int)(k:Nat):C_ Int:=(List.range n.toNat).map λ(l:Nat)=>((wj m s (p:Int) (l:Int) k:Nat):Int)
def Ng(m:Model)(s:C_ Int)(inst:Int):C_ Int×Int :=
 match nth (insts m) inst with
 | some x=>((s.drop (cU m inst.toNat+1)).take ((ml m x).length - 1),x.elem)
 | none=>([],0)
def cW(m:Model)(s:C_ Int)(inst:Int):Env :=
 ⟨(List.range m.vars.length).map λi=>(s.drop (fY m i)).take (c4 m)[i]!.length,
  (List.range m.ax.length).map λi=>s[b7 m i]!,
  (Ng m s inst).1,
  (List.range m.procs.length).map λi=>kE m s i (m.procs[i]?.map (·.cm) |>.getD 0) (insts m).length,
  (Ng m s inst).2⟩
def val:C_ Nat->Nat
 | []=>0
 | d :: r=>d+256*val r
def I2(n:Nat):C_ Nat:=if h:n=0 then [] else n % 256 :: I2 (n / 256)
termination_by n
decreasing_by omega
def adi:C_ Cell->C_ Int->Nat->Nat
 | x :: r,v :: s,n=>adi r s (n*(x.U - x.aV+1).toNat+(v - x.aV).toNat)
 | _,_,n=>n
def num(m:Model)(s:C_ Int):Nat:=adi (cp m) s 0
def fV(m:Model):Nat:=num m ((cp m).map (·.U))
def ahg(m:Model):Nat:=(I2 (fV m)).length
def fixed(k n:Nat):C_ Nat:=I2 n++List.replicate (k - (I2 n).length) 0
def bytes(m:Model)(s:C_ Int):C_ Nat:=(fixed (ahg m) (num m s)).reverse
end o
namespace Go.Proofs.R
open Go Go.RowKit a8
abbrev c9(w:A_)(v:B_)(l:C_ Int):Prop:=bm 1 (Flat bX) w v l
structure yf(w:World)(b:Nat)(m:o.Model):Prop where
 ex:∃xs cs bK,w.heap[b]? = some (.cells (xs++cs++[bK]).toArray T.l7)/\o.jk w xs (o.layout m)/\o.dj w cs m/\ik w bK (o.insts m)
theorem yf.ext{w w':A_}{b:Nat}{m:o.Model}(he:Ext w w')(h:yf w b m):yf w' b m :=
 let ⟨xs,cs,bK,ad,h1,I,ab⟩:=h.ex; ⟨xs,cs,bK,he.obj ad,h1.ext he,I.ext he,ab.ext Flat.ext he⟩
def ar1(cs:C_ B_)(m:o.Model)(w:A_)(h:o.dj w cs m)(aG:m.cv)(aQ:gJ w) :
  Du F.uR #[.agg cs.toArray] w λv w'=>((v = .pointer none/\¬(o.check m).cJ=0)\/(∃b,v = .pointer (some ⟨b,0,none⟩)/\(o.check m).cJ=0/\yf w' b m))/\Ext w w':=by
 have aL:=h;obtain⟨b0,bz,bO,c1,bT,c2,bV,bu,b1,bB,rfl,_⟩:=h.form;refine bl E.uR ?_;refine aa ?_;intro w1 bx cN ag al;refine aa ?_;refine J_ (zh _ m w1 (aL.ext ag) aG (aQ.ext ag)) ?_;rintro _ aA ⟨rfl,ai⟩;replace al:=ai.obj al;have aH:=ag.trans ai;refine aa ?_;refine Y_ (v:=.I (o.check m).cJ) rfl ?_;refine aa ?_;refine I_ (λhk=>?_) (λhk=>?_);rotate_left
 .refine aa ?_;exact⟨.inl ⟨aK,hk⟩,aH⟩
 refine aa ?_;intro aM ah;replace al:=ah.obj al;have aR:=aH.trans ah;refine aa ?_;refine J_ (GR _ m aM (aL.ext aR) aG (aQ.ext aR)) ?_;rintro _ aU ⟨⟨xs,rfl,ch⟩,aq⟩;replace ch:=ch.here;rw[o.zg hk] at ch;obtain⟨kT,d0,ie,d1,ji,d2,nd,d3,mu,d4,rfl,_⟩:=ch.form;have bn:=aR.trans aq;refine⟨aq,?_⟩;refine aa ?_;refine J_ (xl _ m aU (aL.ext bn) aG) ?_;rintro bK bh ⟨dP,av⟩;obtain⟨b8,ci,rfl,_⟩:=dP.form;have bC:=bn.trans av;refine⟨aq.trans av,?_⟩;refine aa ?_;intro bq dC e5 aD bS;refine aa ?_;exact⟨.inr ⟨dC,rfl,hk,⟨_,_,_,bS,ch.ext (av.trans aD),aL.ext (bC.trans aD),aJ.e3 (enc:=o.cO.enc) (λ_=>rfl) (dP.ext aD)⟩⟩,bC.trans aD⟩
end Go.Proofs.R
namespace o
def K4(m:Model):(layout m).aV.length=(cp m).length:=by simp[layout,Be]
def K2(m:Model):(layout m).U.length=(cp m).length:=by simp[layout,Be]
def K3{m:Model}{c:Nat}(h:c<(layout m).aV.length)(br:c<(cp m).length):(layout m).aV[c]=(cp m)[c].aV:=by simp[layout,Be]
def K1{m:Model}{c:Nat}(h:c<(layout m).U.length)(br:c<(cp m).length):(layout m).U[c]=(cp m)[c].U:=by simp[layout,Be]
def pH(m:Model):(layout m).vars.length=m.vars.length/\(layout m).ax.length=m.ax.length/\(layout m).insts.length=(insts m).length:=by
 refine⟨?_,?_,?_⟩<;>simp[layout,Be,ux,c4,dG,fF]
end o
namespace a8
open Go Go.RowKit
structure Ie(es:Array MapEntry)(c:Nat)(L:List Int):Prop where
 Bc:∃l:List (Int×Value),iM (Value.int .i64) es.toList l/\(l.map (·.1)).Nodup/\(∀x,x∈l.map (·.1)↔x∈L)/\l.length<=L.length/\∀p∈l,∃z,p.2 = .int .i64 z
 born:∀e∈es.toList,e.born<c
 nodup:(es.toList.map (·.born)).Nodup
structure fx(w:World)(b:Nat)(L:List Int):Prop where
 ok:∀x∈L,-9223372036854775808<=x/\x<=9223372036854775807
 ex:∃es c,w.heap[b]? = some (.map es c)/\Ie es c L
theorem fx.of{w w':A_}{b:Nat}{L:C_ Int}(h:fx w b L)(e:w'.heap[b]? = w.heap[b]?):fx w' b L:=let ⟨es,c,h1,I⟩:=h.ex; ⟨h.ok,es,c,e.trans h1,I⟩
def fx.lt{w:A_}{b:Nat}{L:C_ Int}(h:fx w b L):b<w.heap.size:=let ⟨_,_,h1,_⟩:=h.ex;cq h1
theorem fx.ext{w w':A_}{b:Nat}{L:C_ Int}(h:fx w b L)(e:Ext w w'):fx w' b L:=h.of (e.heap h.lt)
def fx.mod{A:Nat->Prop}{w w':A_}{b:Nat}{L:C_ Int}(h:fx w b L)(e:Mod A w w')(hk:¬A b):fx w' b L:=h.of (e.block b h.lt hk)
def Ie.empty:Ie #[] 0 []:=⟨⟨[],rfl,CC,λ_=>Iff.rfl,EC _,λp h=>by simp at h⟩,λe he=>by simp at he,CC⟩
def fx.empty{w:A_}{b:Nat}(h:w.heap[b]? = some (.map #[] 0)):fx w b []:=⟨λ_ h=>by simp at h,_,_,h,Ie.empty⟩
def iM.len{pf:Type}{enc:pf->B_}{es:C_ MapEntry}{l:C_ (pf×B_)}(h:iM enc es l):es.length=l.length:=by
 have:=congrArg List.length h
 simpa using this
def iM.at{pf:Type}{enc:pf->B_}{es:C_ MapEntry}{l:C_ (pf×B_)}(h:iM enc es l)(i:Nat):es[i]?.map (λe=>(e.key,e.val))=l[i]?.map (λp=>(enc p.1,p.2)):=by
 have:=congrArg (λq=>q[i]?) h
 simpa using this
theorem fx.look{w:A_}{b:Nat}{L:C_ Int}(h:fx w b L)(x:Int):∃es r z,sh w (.map (some b)) es/\Instr.findNow (.int .i64) (.I x) es.toList 0=some r/\nA (.I 0) false r = .I z:=by
 obtain⟨es,c,h1,hm⟩:=h.ex;obtain⟨l,I,ab,aC,a1,bJ⟩:=hm.Bc;obtain⟨r,k3,jK⟩:=Al (M6 .i64 .i64) x es.toList _ 0 I;cases r with
 | none=>exact⟨es,none,0,.inr ⟨b,c,rfl,h1⟩,k3,rfl⟩
 | some q =>
  cases ay:l.find? (λp=>decide (x=p.1)) with
  | none=>rw[ay] at jK;cases jK
  | some p =>
   rw[ay] at jK;obtain⟨z,bA⟩:=bJ p (List.mem_of_find?_eq_some ay);simp only[Option.map_some,Option.some.injEq] at jK;exact⟨es,some q,z,.inr ⟨b,c,rfl,h1⟩,k3,by simp[nA,jK,bA]⟩
def aoP{x z:Int}{l:C_ (Int×B_)}{es:C_ MapEntry}{j:Nat}(h:iM (Value.int .i64) es l)(hk:∀p,l[j]? = some p->p.1=x):iM (Value.int .i64) (es.modify j λe=>{ e with key:=.I x,val:=.I z }) (l.modify j λp=>(p.1,.I z)):=by
 unfold iM;apply List.ext_getElem?;intro i;have U:=h.at i;simp only[List.getElem?_map,List.getElem?_modify] at *;by_cases e:j=i
 .subst e;simp only[if_true] at *;cases he:es[j]? with
  | none=>rw[he] at U;cases ar:l[j]? with
   | none=>simp
   | some p=>rw[ar] at U;cases U
  | some q =>
   rw[he] at U;cases ar:l[j]? with
   | none=>rw[ar] at U;cases U
   | some p=>simp[hk p ar]
 .simp only[if_neg e];cases he:es[i]? with
  | none=>rw[he] at U;cases ar:l[i]? with
   | none=>simp
   | some p=>rw[ar] at U;cases U
  | some q =>
   rw[he] at U;cases ar:l[i]? with
   | none=>rw[ar] at U;cases U
   | some p=>rw[ar] at U;simpa using U
def Zu{z:B_}(l:C_ (Int×B_))(j:Nat):(l.modify j λp=>(p.1,z)).map (·.1)=l.map (·.1):=by
 apply List.ext_getElem?;intro i;simp only[List.getElem?_map,List.getElem?_modify];by_cases e:j=i
 .subst e;cases l[j]? <;> simp
 .simp[e]
def XY{k v:B_}(es:C_ MapEntry)(j:Nat):(es.modify j λe=>{ e with key:=k,val:=v }).map (·.born)=es.map (·.born):=by
 apply List.ext_getElem?;intro i;simp only[List.getElem?_map,List.getElem?_modify];by_cases e:j=i
 .subst e;cases es[j]? <;> simp
 .simp[e]
theorem fx.put{w:A_}{b:Nat}{L:C_ Int}(h:fx w b L)(x z:Int)(af : -9223372036854775808<=x/\x<=9223372036854775807):∃es c q,w.heap[b]? = some (.map es c)/\Instr.findNow (.int .i64) (.I x) es.toList 0=some q /\
  ∀w':A_,w'.heap[b]? = some (sT es c (.I x) (.I z) q)->fx w' b (L++[x]):=by
 obtain⟨es,c,h1,hm⟩:=h.ex;obtain⟨l,I,ab,aC,a1,bJ⟩:=hm.Bc;obtain⟨r,k3,jK⟩:=Al (M6 .i64 .i64) x es.toList _ 0 I;have c8:∀y∈L++[x],-9223372036854775808<=y/\y<=9223372036854775807:=λy bE=>by
  rcases List.mem_append.1 bE with bE | bE
  .exact h.ok y bE
  .simp only[List.mem_singleton] at bE;subst bE;exact af
 refine⟨es,c,r,h1,k3,λw' hw=>?_⟩;cases r with
 | none =>
  have aw:∀p∈l,p.1≠x:=by
   cases ay:l.find? (λp=>decide (x=p.1)) with
   | none =>
    intro p ar e
    have:=List.find?_eq_none.1 ay p ar
    simp[e] at this
   | some p=>rw[ay] at jK;cases jK
  refine⟨c8,_,_,hw,⟨⟨l++[(x,.I z)],iM.push I x (.I z) c,?_,λy=>?_,?_,λp ar=>?_⟩,?_,?_⟩⟩
  .rw[AF1,AG1,AJ6,AK1];refine⟨ab,CC,λa aY b ak=>?_⟩;obtain⟨p,ar,rfl⟩:=List.mem_map.1 aY;simp only[List.mem_singleton] at ak;rw[ak];exact aw p ar
  .rw[AF1,AG0,AG0,aC y];simp
  .rw[MD,MD];simp;exact a1
  .rcases List.mem_append.1 ar with ar | ar
   .exact bJ p ar
   .simp only[List.mem_singleton] at ar;subst ar;exact⟨z,rfl⟩
  .intro e he;simp only[Array.toList_push,List.mem_append,List.mem_singleton] at he;rcases he with he | rfl
   .have:=hm.born e he;omega
   .show c<c+1;omega
  .simp only[Array.toList_push,List.map_append,List.map_cons,List.map_nil];rw[AK1];refine⟨hm.nodup,CC,λa aY fS CY=>?_⟩;obtain⟨e,he,rfl⟩:=List.mem_map.1 aY;simp only[List.mem_singleton] at CY
   have:=hm.born e he
   omega
 | some SD =>
  obtain⟨j,v⟩:=SD;obtain⟨_,e,he,aj⟩:=PQ k3;rw[Nat.sub_zero] at he;have aa2:∀p,l[j]? = some p->p.1=x:=λp ar=>by
   have:=I.at j
   rw[he,ar] at this;simp only[Option.map_some,Option.some.injEq,Prod.mk.injEq] at this;rw[this.1,M6] at aj;have aj:=Option.some.inj aj;simp only[decide_eq_true_eq] at aj;exact aj.symm
  have xi:x∈L:=by
   have az:=I.at j;rw[he] at az;cases ar:l[j]? with
   | none=>rw[ar] at az;cases az
   | some p =>
    rw[<-aC x,<-aa2 p ar];exact List.mem_map.2 ⟨p,List.mem_of_getElem? ar,rfl⟩
  have qf:w'.heap[b]? = some (.map (es.modify j λe=>{ e with key:=.I x,val:=.I z }) c):=hw;refine⟨c8,_,_,qf,⟨⟨l.modify j λp=>(p.1,.I z),?_,by rw[Zu];exact ab,λy=>?_,?_,λp ar=>?_⟩,?_,?_⟩⟩
  .rw[AK7];exact aoP I aa2
  .rw[Zu,aC y,AG0,AF2];exact⟨.inl,λq=>q.elim id λq=>q ▸ xi⟩
  .rw[List.length_modify,MD];omega
  .obtain⟨i,U,rfl⟩:=List.mem_iff_getElem.1 ar;rw[List.getElem_modify];split
   .exact⟨z,rfl⟩
   .exact bJ _ (ED _)
  .rw[AK7];intro e' hn
   have:e'.born∈es.toList.map (·.born):=by rw[<-XY (k:=.I x) (v:=.I z) es.toList j];exact List.mem_map.2 ⟨e',hn,rfl⟩
   obtain⟨ej,ad,hl⟩:=List.mem_map.1 this
   have:=hm.born ej ad
   omega
  .rw[AK7,XY];exact hm.nodup
section
variable{P:Program}{KW:World->Prop}{bj:Value->Prop}{w:World}
def AD2{b:Nat}{L:C_ Int}{x:Int}{t}(h:fx w b L)(hk:∀z,bj (.I z)):En (.int .i64) (.I 0) false (.map (some b)) (.I x) w bj t:=by
 obtain⟨es,r,z,h1,I,ab⟩:=h.look x;exact _m h1 I (by rw[ab];exact hk z)
def AD3{b:Nat}{L:C_ Int}{x z:Int}{t}(h:fx w b L)(af : -9223372036854775808<=x/\x<=9223372036854775807)(hk:∀w1,du b w w1->fx w1 b (L++[x])->KW w1):BX (.int .i64) (.map (some b)) (.I x) (.I z) w KW t:=by
 obtain⟨es,c,q,h1,I,ab⟩:=h.put x z af;exact _t h1 I (hk _ (du.fH w b _) (ab _ (DV (cq h1))))
end
def wf_i64{x:Int}(h : -9223372036854775808<=x/\x<=9223372036854775807):(Lit.int .i64 x).wf=true:=by
 have h1:IntKind.i64.min = -9223372036854775808:=By
 have I:IntKind.i64.max=9223372036854775807:=By
 simp only[Lit.wf,h1,I,Bool.and_eq_true,decide_eq_true_eq];exact h
def fx.own{P:D_}{k:F_}{w:A_}{b:Nat}{L:C_ Int}(hk:P.underlying k=some (.int .i64))(h:fx w b L)(ch:L.length<=maxLen) :
  ∃uA:DataW Unit,w.ownsMap P k (λ_=>some (.lit (.bool true),[])) b L.length uA/\Maps.size uA<=L.length/\∀cg:C_ Int,cg.Perm (intKeys uA)->cg.Nodup/\∀x,x∈cg↔x∈L:=by
 obtain⟨es,c,h1,hm⟩:=h.ex;obtain⟨l,I,ab,aC,a1,bJ⟩:=hm.Bc;have hlen:es.toList.length=l.length:=I.len;have rZ:∀e∈es.toList,∃x,e.key = .I x/\WideElems.rd P k (λ_=>some ((.lit (.bool true):DataW Unit),[])) e=some (.I x,.lit (.bool true)):=λe he=>by
  obtain⟨i,U,rfl⟩:=List.mem_iff_getElem.1 he;have jJ:=I.at i;rw[List.getElem?_eq_getElem U,List.getElem?_eq_getElem Ad] at jJ;simp only[Option.map_some,Option.some.injEq,Prod.mk.injEq] at jJ;refine⟨_,jJ.1,?_⟩;have hw:=wf_i64 (h.ok l[i].1 ((aC _).1 (List.mem_map.2 ⟨l[i],ED _,rfl⟩)));unfold WideElems.rd;rw[jJ.1,Maps.keyOf_int_mk hk hw];rfl
 have yH:WideElems.Fit P k (λ_=>some ((.lit (.bool true):DataW Unit),[])) es c:=⟨by simp at hlen;omega,⟨hm.born,hm.nodup,by
  have:es.toList.map (·.key)=(l.map (·.1)).map (Value.int .i64):=by
   apply List.ext_getElem?;intro i;rw[List.getElem?_map,List.getElem?_map,List.getElem?_map]
   have:=I.at i
   cases he:es.toList[i]? with
   | none=>rw[he] at this;cases ar:l[i]? with
    | none=>rfl
    | some p=>rw[ar] at this;cases this
   | some q =>
    rw[he] at this;cases ar:l[i]? with
    | none=>rw[ar] at this;cases this
    | some p =>
     rw[ar] at this;simp only[Option.map_some,Option.some.injEq,Prod.mk.injEq] at this;simp only[Option.map_some,this.1]
  rw[this];exact List.pairwise_map.2 (ab.imp λ{a b} ct e=>ct (by injection e))⟩,λx af=>let ⟨y,_,bE⟩:=rZ x af; ⟨_,bE⟩⟩
 refine⟨_,World.ownsMap.mono (World.ownsMap_of_fit h1 yH (λ_ _ _ q=>q)) (by simp at hlen;omega),?_,λcg ar=>?_⟩
 .rw[Maps.size_eq,length_sorted];simp at hlen ⊢;omega
 .have amT:(intKeys (.map ((es.toList.map (WideElems.rg P k (λ_=>some ((.lit (.bool true):DataW Unit),[])))).foldr DataW.insert []))).Perm (l.map (·.1)):=by
   refine((WideShapes.sorted_perm _).map _).trans ?_;rw[List.map_map]
   have:es.toList.map ((λp:Lit×DataW Unit=>intOf p.1)∘WideElems.rg P k (λ_=>some ((.lit (.bool true):DataW Unit),[])))=l.map (·.1):=by
    apply List.ext_getElem?;intro i;rw[List.getElem?_map,List.getElem?_map];cases he:es.toList[i]? with
    | none =>
     have:=I.at i
     rw[he] at this;cases ar:l[i]? with
     | none=>rfl
     | some p=>rw[ar] at this;cases this
    | some e =>
     obtain⟨x,af,bE⟩:=rZ e (List.mem_of_getElem? he)
     have:=I.at i
     rw[he] at this;cases ar:l[i]? with
     | none=>rw[ar] at this;cases this
     | some p =>
      rw[ar] at this;simp only[Option.map_some,Option.some.injEq,Prod.mk.injEq] at this;rw[af] at this;have bF:x=p.1:=by have:=this.1;injection this
      simp only[Option.map_some,Function.comp,WideElems.rg_of bE,bF];rfl
   rw[this]
  have xa:=ar.trans amT;exact⟨xa.nodup_iff.2 ab,λx=>by rw[xa.mem_iff];exact aC x⟩
def atk{cg:C_ Int}(h:cg.Nodup):(cg.mergeSort λx y=>decide (x<=y)).Pairwise (· < ·):=by
 have atT:∀a b c:Int,decide (a<=b)=true->decide (b<=c)=true->decide (a<=c)=true:=λa b c h1 I=>by simp only[decide_eq_true_eq] at *;omega
 have to:∀a b:Int,(decide (a<=b)||decide (b<=a))=true:=λa b=>by simp only[Bool.or_eq_true,decide_eq_true_eq];omega
 have h1:=List.pairwise_mergeSort atT to cg;have I:(cg.mergeSort λx y=>decide (x<=y)).Nodup:=(List.mergeSort_perm cg _).nodup_iff.2 h;refine(h1.and I).imp λ{a b} q=>?_;simp only[decide_eq_true_eq] at q;omega
end a8
namespace o
open Go
def adC{p:dt}{s:Scope}(h:(h8 p s).2.2=0):whole p s=0/\(lW p s).2=0/\(l9 (inner p s) p.cm p.c0 p.c0 0).2.2=0:=by
 unfold h8 at h;by_cases h1:whole p s≠0
 .rw[if_pos h1] at h;exact absurd h h1
 rw[if_neg h1] at h;by_cases I:(lW p s).2≠0
 .rw[if_pos I] at h;exact absurd h I
 rw[if_neg I] at h;exact⟨by simpa using h1,by simpa using I,h⟩
theorem Pg{own:Scope}{cm:Int}{all:C_ dI}:∀(l:C_ dI) (i:Nat),(l9 own cm all l i).2.2=0->∀k (h:k<l.length),(j0 l[k] cm own).2=0/\(all.take (i+k)).any (λx=>decide (x.name=l[k].name))=false
 | [],_,_,k,h=>by simp at h
 | c :: r,i,de,k,h=>by
  simp only[l9] at de;by_cases h1:(j0 c cm own).2≠0
  .rw[if_pos h1] at de;exact absurd de h1
  rw[if_neg h1] at de;by_cases I:(all.take i).any (λx=>decide (x.name=c.name))=true
  .rw[if_pos I] at de;cases de
  rw[if_neg I] at de;cases k with
  | zero=>exact⟨by simpa using h1,by simpa using I⟩
  | succ k =>
   have:=Pg r (i+1) de k (by simpa using h)
   simpa[Nat.add_assoc,Nat.add_comm 1 k] using this
def xB{α:Type}{l:C_ α}{n:Int}{x:α}(h:nth l n=some x):0<=n/\l[n.toNat]? = some x/\n.toNat<l.length:=by
 unfold nth at h;by_cases ad:0<=n
 .rw[if_pos ad] at h;exact⟨ad,h,(List.getElem?_eq_some_iff.1 h).1⟩
 .rw[if_neg ad] at h;cases h
def acr{n:Int}{s:Scope}(h:(hD n s).2=true):0<=n/\n<=s.scalars.length/\(hD n s).1=if n=0 then 0 else 1+n:=by
 unfold hD at h ⊢;by_cases h1:n=0
 .subst h1;simp
 .rw[if_neg h1] at h ⊢;by_cases I:n<0\/(s.scalars.length:Int)<n
  .rw[if_pos I] at h;cases h
  .rw[if_neg I,if_neg h1];exact⟨Ad,Ad,rfl⟩
theorem acA{l:C_ Var}{n:Int}{s:Scope}(h:(gz l n s).2.2=true):∃v,nth l n=some v/\l[n.toNat]? = some v/\0<=n/\gz l n s=((hD v.scalar s).1,(hD v.over s).1,true)/\(hD v.scalar s).2=true/\(hD v.over s).2=true:=by
 unfold gz at h ⊢;cases aw:nth l n with
 | none=>rw[aw] at h;cases h
 | some v =>
  rw[aw] at h;simp only[Bool.and_eq_true] at h;obtain⟨ad,h1,_⟩:=xB aw;exact⟨v,rfl,h1,ad,by simp only[h.1,h.2,Bool.and_self],h.1,h.2⟩
theorem DN:∀(a b:C_ Int),a.Pairwise (· < ·)->b.Pairwise (· < ·)->(∀x,x∈a↔x∈b)->a=b
 | [],[],_,_,_=>rfl
 | [],y :: b,_,_,h=>by have:=(h y).2 (AG5 ..);cases this
 | x :: a,[],_,_,h=>by have:=(h x).1 (AG5 ..);cases this
 | x :: a,y :: b,aY,ak,h=>by
  rw[AI0] at aY ak;have e:x=y:=by
   rcases List.mem_cons.1 ((h x).1 (AG5 ..)) with e | e
   .exact e
   .rcases List.mem_cons.1 ((h y).2 (AG5 ..)) with aH | aH
    .exact aH.symm
    .have:=ak.1 x e;have:=aY.1 y aH;omega
  subst e;congr 1;refine DN a b aY.2 ak.2 λz=>⟨λbA=>?_,λbA=>?_⟩
  .rcases List.mem_cons.1 ((h z).1 (AH5 _ bA)) with e | e
   .subst e;have:=aY.1 z bA;omega
   .exact e
  .rcases List.mem_cons.1 ((h z).2 (AH5 _ bA)) with e | e
   .subst e;have:=ak.1 z bA;omega
   .exact e
theorem aec:∀(l:C_ Int) (a b:Int),l.Pairwise (· < ·)->(∀x∈l,a<=x/\x<b)->(l.length:Int)<=max (b - a) 0
 | [],a,b,_,_=>by simp;omega
 | x :: l,a,b,h,ak=>by
  rw[AI0] at h;have h1:=ak x (AG5 ..)
  have:=aec l (x+1) b h.2 λy bE=>⟨by have:=h.1 y bE;omega,(ak y (AH5 _ bE)).2⟩
  simp only[List.length_cons];omega
def gB(a n:Nat):C_ Int:=(List.range n).map λ(k:Nat)=>((a+k:Nat):Int)
def M4(a n:Nat):(gB a n).length=n:=by simp[gB]
theorem aek(a:Nat):gB a 0=[]:=rfl
def lY(a:Nat):gB a 1=[(a:Int)]:=by simp[gB]
def TK(a n:Nat):gB a (n+1)=gB a n++[((a+n:Nat):Int)]:=by simp[gB,List.range_succ]
def qq{a n:Nat}{x:Int}:x∈gB a n↔(a:Int)<=x/\x<((a+n:Nat):Int):=by
 constructor
 .intro h;obtain⟨k,hk,rfl⟩:=List.mem_map.1 h
  have:=List.mem_range.1 hk
  omega
 .intro h;refine List.mem_map.2 ⟨(x - a).toNat,List.mem_range.2 Ad,Ad⟩
def si(l:C_ Int)(last next:Int):Prop:=(next = -1/\∀x∈l,x<=last)\/(next∈l/\last<next/\0<=next/\∀x∈l,last<x->next<=x)
def si.nil(last:Int):si [] last (-1):=.inl ⟨rfl,λx h=>by cases h⟩
def si.skip{l:C_ Int}{last next x:Int}(h:si l last next)(af:¬(last<x/\(next<0\/x<next))):si (l++[x]) last next:=by
 rcases h with ⟨rfl,h⟩ | ⟨h1,I,ab,aC⟩
 .refine .inl ⟨rfl,λy bE=>?_⟩;rcases List.mem_append.1 bE with bE | bE
  .exact h y bE
  .simp only[List.mem_singleton] at bE;subst bE;omega
 .refine .inr ⟨AH2 _ h1,I,ab,λy bE aE=>?_⟩;rcases List.mem_append.1 bE with bE | bE
  .exact aC y bE aE
  .simp only[List.mem_singleton] at bE;subst bE;omega
def si.take{l:C_ Int}{last next x:Int}(h:si l last next)(ad:0<=x)(af:last<x/\(next<0\/x<next)):si (l++[x]) last x:=by
 refine .inr ⟨CC,af.1,ad,λy bE aE=>?_⟩;rcases List.mem_append.1 bE with bE | bE
 .rcases h with ⟨rfl,h⟩ | ⟨h1,I,ab,aC⟩
  .have:=h y bE;omega
  .have:=aC y bE aE;omega
 .simp only[List.mem_singleton] at bE;omega
structure uK(l:List Int)(last:Int)(out:List Int):Prop where
 lz:out.Pairwise (· < ·)
 mem:∀x,x∈out↔x∈l/\x<=last
 last : -1<=last
def uK.start{l:C_ Int}(h:∀x∈l,0<=x):uK l (-1) []:=⟨List.Pairwise.nil,λx=>⟨λh=>(by cases h),λ⟨h1,I⟩=>by have:=h x h1;omega⟩,Int.le_refl _⟩
def uK.step{l out:C_ Int}{last next:Int}(h:uK l last out)(hm:si l last next)(ad:0<=next):uK l next (out++[next])/\last<next/\next∈l:=by
 rcases hm with ⟨rfl,_⟩ | ⟨h1,I,ab,aC⟩
 .omega
 .refine⟨⟨?_,λx=>?_,Ad⟩,I,h1⟩
  .rw[List.pairwise_append];refine⟨h.lz,CC,λx af y bE=>?_⟩
   have:=((h.mem x).1 af).2
   simp only[List.mem_singleton] at bE;omega
  .rw[AG0,h.mem x,AF2];constructor
   .rintro(⟨a,b⟩ | rfl)
    .exact⟨a,Ad⟩
    .exact⟨h1,Int.le_refl _⟩
   .rintro⟨a,b⟩;by_cases af:x<=last
    .exact .inl ⟨a,af⟩
    .exact .inr (by have:=aC x a Ad;omega)
structure pk(l r:List Int):Prop where
 lz:r.Pairwise (· < ·)
 mem:∀x,x∈r↔x∈l
def uK.done{l out:C_ Int}{last next:Int}(h:uK l last out)(hm:si l last next)(ad:next<0):pk l out:=by
 rcases hm with ⟨rfl,h1⟩ | ⟨h1,I,ab,aC⟩
 .exact⟨h.lz,λx=>by rw[h.mem x];exact⟨λa=>a.1,λa=>⟨a,h1 x a⟩⟩⟩
 .omega
def pk.eq{l sR r kc:C_ Int}(h:pk l r)(k:pk sR kc)(e:∀x,x∈l↔x∈sR):r=kc :=
 DN r kc h.lz k.lz λx=>by rw[h.mem,k.mem,e]
def lu(m:Model)(v:Nat):Nat:=match m.vars[v]? with | some x=>(cells x m.scalars).toNat | none=>0
def Jj(m:Model)(q:Nat):Nat:=match (insts m)[q]? with | some x=>x.elem.toNat | none=>0
def gF(m:Model)(c:Nat):Nat:=match m.ax[c]? with | some x=>x.cap.toNat | none=>0
def mm(m:Model)(q v:Nat)(own:Bool):C_ Int:=if own then gB (fY m v+Jj m q - 1) 1 else gB (fY m v) (lu m v)
def nN(m:Model)(p:Int)(n:Nat):C_ Int:=(List.range n).flatMap λj=>if (insts m)[j]?.map (·.proc)=some p then gB (cU m j) 1 else []
def ef(m:Model)(q:Nat)(own:Bool)(x:Node):C_ Int :=
 if x.op=2 then gB (fY m x.n.toNat) 1
 else if x.op=3 then mm m q x.n.toNat own
 else if x.op=4 then gB (cU m q+1+x.n.toNat) 1
 else if x.op=6 then gB (b7 m x.n.toNat) 1
 else if x.op=7 then nN m (x.n.tdiv 16) (insts m).length
 else []
def q9(e:C_ Node):Nat->Bool
 | 0=>false
 | k+1=>match e[k]? with | some x=>decide (x.op=5) | none=>false
def j3(m:Model)(q:Nat)(e:C_ Node)(n:Nat):C_ Int:=(List.range n).flatMap λk=>match e[k]? with | some x=>ef m q (q9 e k) x | none=>[]
def lJ(m:Model)(c:Nat):C_ Int:=gB (b7 m c) (1+gF m c)
def pL(a:Act):Bool:=match a.index with | [x]=>decide (x.op=5) | _=>false
def tm(m:Model)(q:Nat)(a:Act):C_ Int :=
 if a.kind=5 then lJ m a.to.toNat
 else (if a.kind=2 then j3 m q a.index a.index.length else if a.kind=4 then gB (b7 m a.to.toNat) 1 else [])++j3 m q a.value a.value.length
def jY(m:Model)(q:Nat)(a:Act):C_ Int :=
 if a.kind=1 then gB (fY m a.to.toNat) 1
 else if a.kind=2 then mm m q a.to.toNat (pL a)
 else if a.kind=3 then gB (cU m q+1+a.to.toNat) 1
 else if a.kind=4 then lJ m a.to.toNat
 else if a.kind=5 then lJ m a.to.toNat++gB (cU m q+1+a.loc.toNat) 1
 else []
def po(m:Model)(q:Nat)(a:Act):C_ Int :=
 (if a.kind=5 then [] else j3 m q a.value a.value.length) ++
 (if a.kind=2 then j3 m q a.index a.index.length else if a.kind=4 then gB (b7 m a.to.toNat) 1 else if a.kind=5 then lJ m a.to.toNat else [])
theorem agq(m:Model)(q:Nat)(a:Act)(x:Int):x∈tm m q a↔x∈po m q a:=by
 unfold tm po;by_cases h:a.kind=5
 .rw[if_pos h,if_pos h,if_neg Ad,if_neg Ad,if_pos h,AF9]
 .rw[if_neg h,if_neg h,if_neg h,AG0,AG0];exact Or.comm
def u2(m:Model)(q:Nat)(c:dI):C_ Int:=gB (cU m q) 1++j3 m q c.guard c.guard.length
def ql(m:Model)(q:Nat)(c:dI)(n:Nat):C_ Int:=u2 m q c++(c.bP.take n).flatMap (tm m q)
def re(m:Model)(q:Nat)(c:dI)(n:Nat):C_ Int:=u2 m q c++(c.bP.take n).flatMap (po m q)
def kg(m:Model)(q:Nat)(c:dI)(n:Nat):C_ Int:=gB (cU m q) 1++(c.bP.take n).flatMap (jY m q)
def ar0(m:Model)(q:Nat)(c:dI)(n:Nat)(x:Int):x∈ql m q c n↔x∈re m q c n:=by
 unfold ql re;simp only[List.mem_append,List.mem_flatMap,agq]
def ad1{m:Model}{q:Nat}{c:dI}{n:Nat}(h:n<c.bP.length):ql m q c (n+1)=ql m q c n++tm m q c.bP[n]:=by
 unfold ql;rw[Iu h,AF8,AJ0,MV]
def ad0{m:Model}{q:Nat}{c:dI}{n:Nat}(h:n<c.bP.length):re m q c (n+1)=re m q c n++po m q c.bP[n]:=by
 unfold re;rw[Iu h,AF8,AJ0,MV]
def Uv{m:Model}{q:Nat}{c:dI}{n:Nat}(h:n<c.bP.length):kg m q c (n+1)=kg m q c n++jY m q c.bP[n]:=by
 unfold kg;rw[Iu h,AF8,AJ0,MV]
def PL{m:Model}{q:Nat}{e:C_ Node}{n:Nat}(h:n<e.length):j3 m q e (n+1)=j3 m q e n++ef m q (q9 e n) e[n]:=by
 unfold j3;rw[AH0,AF8,AJ0,List.getElem?_eq_getElem h]
def Td{e:C_ Node}{n:Nat}(h:n<e.length):q9 e (n+1)=decide (e[n].op=5):=by
 simp only[q9,List.getElem?_eq_getElem h]
def zX{m:Model}{p:Int}{n:Nat}(h:n<(insts m).length):nN m p (n+1)=nN m p n++if (insts m)[n].proc=p then gB (cU m n) 1 else []:=by
 unfold nN;rw[AH0,AF8,AJ0,List.getElem?_eq_getElem h];simp only[Option.map_some,Option.some.injEq]
structure BY(s:Scope)(x:Node):Prop where
 var:x.op=2->0<=x.n/\∃v,s.vars[x.n.toNat]? = some v/\v.over=0
 item:x.op=3->0<=x.n/\x.n.toNat<s.vars.length
 loc:x.op=4->0<=x.n/\x.n.toNat<s.locals.length
 self:x.op=5->1<=s.self/\s.self<=s.scalars.length
 len:x.op=6->0<=x.n/\x.n.toNat<s.ax.length
 at_:x.op=7->0<=x.n/\(x.n.tdiv 16).toNat<s.procs.length
structure ta(s:Scope)(e:List Node):Prop where
 node:∀k (h:k<e.length),BY s e[k]/\(e[k].op=3->0<k)
 len:e.length<=24
def ao5{s:Scope}{x:Node}{top:Int}(h:(jy x s top).2=0):BY s x:=by
 unfold jy at h;by_cases h1:x.op=1
 .exact⟨Ad,Ad,Ad,Ad,Ad,Ad⟩
 rw[if_neg h1] at h;by_cases I:x.op=2\/x.op=3\/x.op=4
 .rw[if_pos I] at h;simp only at h;by_cases au:(gz (if x.op=4 then s.locals else s.vars) x.n s).2.2=false
  .rw[if_pos au] at h;cases h
  rw[if_neg au] at h;obtain⟨v,cK,cV,fo,hC,vt,Ds⟩:=acA (by simpa using au);obtain⟨bO,bT,bV⟩:=acr Ds;rw[hC] at h;simp only at h;have cu:=(List.getElem?_eq_some_iff.1 cV).1;by_cases ab:(x.op=3/\((hD v.over s).1=0\/top≠(hD v.over s).1))\/(x.op≠3/\(hD v.over s).1≠0)
  .rw[if_pos ab] at h;cases h
  .refine⟨λe=>⟨fo,v,?_,?_⟩,λe=>⟨fo,?_⟩,λe=>⟨fo,?_⟩,Ad,Ad,Ad⟩
   .rw[if_neg Ad] at cV;exact cV
   .have:(hD v.over s).1=0:=Classical.byContradiction λaw=>ab (.inr ⟨Ad,aw⟩)
    rw[bV] at this;split at this
    .assumption
    .omega
   .rw[if_neg Ad] at cu;exact cu
   .rw[if_pos e] at cu;exact cu
 .rw[if_neg I] at h;unfold mU at h;refine⟨Ad,Ad,Ad,λe=>?_,λe=>?_,λe=>?_⟩
  .rw[if_pos e] at h;by_cases q:1<=s.self/\s.self<=s.scalars.length
   .exact q
   .rw[if_neg q] at h;cases h
  .rw[if_neg Ad,if_pos e] at h;unfold kP at h;cases aw:nth s.ax x.n with
   | none=>rw[aw] at h;cases h
   | some c=>exact⟨(xB aw).1,(xB aw).2.2⟩
  .rw[if_neg Ad,if_neg Ad,if_pos e] at h;unfold Dt at h;by_cases q:0<=x.n
   .rw[if_pos q] at h;cases aw:nth s.procs (x.n.tdiv 16) with
    | none=>rw[aw] at h;cases h
    | some c=>exact⟨q,(xB aw).2.2⟩
   .rw[if_neg q] at h;cases h
def acp{e:C_ Node}{s:Scope}(h:(kind e s).2=0):ta s e:=by
 unfold kind mY at h;by_cases h1:e.length > 24
 .rw[if_pos h1] at h;cases h
 rw[if_neg h1] at h;by_cases I:e.length=0
 .exact⟨λk hk=>Ad,Ad⟩
 rw[if_neg I] at h;by_cases ab:(gm (fX s) e []).1≠0
 .rw[if_pos ab] at h;exact absurd h ab
 have ab:(gm (fX s) e []).1=0:=by simpa using ab
 refine⟨λk hk=>?_,Ad⟩;have sN:∀j,(gm (fX s) (e.take j) []).1=0:=λj=>Classical.byContradiction λaw=>by
  have:=TR (f:=fX s) (e:=e) (k:=j) rfl aw
  rw[this] at ab;exact aw ab
 have hS:gm (fX s) (e.take k) []=(0,(gm (fX s) (e.take k) []).2):=Prod.ext (sN k) rfl;have aC:=DQ hk hS;have a1:=sN (k+1);rw[aC] at a1;unfold stepG at a1;by_cases c5:fO e[k].op<0
 .rw[if_pos c5] at a1;cases a1
 rw[if_neg c5] at a1;by_cases dA:((gm (fX s) (e.take k) []).2.length:Int)<fO e[k].op
 .rw[if_pos dA] at a1;cases a1
 rw[if_neg dA] at a1;by_cases ea:(fX s e[k] (gm (fX s) (e.take k) []).2).2≠0
 .rw[if_pos ea] at a1;exact absurd a1 ea
 have ea:(fX s e[k] (gm (fX s) (e.take k) []).2).2=0:=by simpa using ea
 constructor
 .by_cases aQ:zd e[k].op=false
  .unfold fX at ea;rw[Ta aQ] at ea;exact ao5 ea
  .have:9<=e[k].op:=by
    simp only[zd,decide_eq_false_iff_not] at aQ;omega
   exact⟨Ad,Ad,Ad,Ad,Ad,Ad⟩
 .intro aR;apply Classical.byContradiction;intro aw;have ft:k=0:=Ad
  subst ft;rw[aR] at dA;simp[gm,fO] at dA
def Iw{e:C_ Node}{k:Int}{s:Scope}(h:asked e k s=0):ta s e:=by
 unfold asked at h;by_cases h1:(kind e s).2≠0
 .rw[if_pos h1] at h;exact absurd h h1
 .exact acp (by simpa using h1)
structure nG(s:Scope)(a:Act):Prop where
 set:a.kind=1->0<=a.to/\∃v,s.vars[a.to.toNat]? = some v/\v.over=0
 item:a.kind=2->0<=a.to/\a.to.toNat<s.vars.length/\ta s a.index
 loc:a.kind=3->0<=a.to/\a.to.toNat<s.locals.length
 chan:a.kind=4\/a.kind=5->0<=a.to/\a.to.toNat<s.ax.length
 recv:a.kind=5->0<=a.loc/\a.loc.toNat<s.locals.length
 val:a.kind≠5->ta s a.value
 kind:1<=a.kind/\a.kind<=5
theorem Pt{l:C_ Var}{n:Int}{s:Scope}{q:Var×Int}(h:declared l n s=some q):0<=n/\l[n.toNat]? = some q.1/\n.toNat<l.length:=by
 unfold declared at h;cases aw:nth l n with
 | none=>rw[aw] at h;cases h
 | some v =>
  rw[aw] at h;simp only at h;split at h
  .injection h with h
   subst h;exact xB aw
  .cases h
def OG{a:Act}{s:Scope}(h:kX a s=0):nG s a:=by
 unfold kX at h;by_cases h1:a.kind=1\/a.kind=2\/a.kind=3
 .rw[if_pos h1] at h;cases bb:declared (if a.kind=3 then s.locals else s.vars) a.to s with
  | none=>rw[bb] at h;cases h
  | some q =>
   rw[bb] at h;obtain⟨v,k⟩:=q;obtain⟨d1,d2,d3⟩:=Pt bb;simp only at h;by_cases I:(v.over≠0)≠(a.kind=2)
   .rw[if_pos I] at h;cases h
   rw[if_neg I] at h;have I:(v.over≠0)=(a.kind=2):=Classical.byContradiction λq=>I q;by_cases ab:a.kind=2/\asked a.index (1+v.over) s≠0
   .rw[if_pos ab] at h;exact absurd h ab.2
   rw[if_neg ab] at h;refine⟨λe=>⟨d1,v,?_,?_⟩,λe=>⟨d1,?_,?_⟩,λe=>⟨d1,?_⟩,Ad,Ad,λ_=>Iw h,Ad⟩
   .rw[if_neg Ad] at d2;exact d2
   .apply Classical.byContradiction;intro aw
    have:a.kind=2:=I ▸ aw
    omega
   .rw[if_neg Ad] at d3;exact d3
   .exact Iw (Classical.byContradiction λaw=>ab ⟨e,aw⟩)
   .rw[if_pos e] at d3;exact d3
 .rw[if_neg h1] at h;by_cases I:a.kind=4\/a.kind=5
  .rw[if_pos I] at h;cases an:channel a.to s with
   | none=>rw[an] at h;cases h
   | some k =>
    rw[an] at h;simp only at h;have wX:0<=a.to/\a.to.toNat<s.ax.length:=by
     unfold channel at an;cases aw:nth s.ax a.to with
     | none=>rw[aw] at an;cases an
     | some c=>exact⟨(xB aw).1,(xB aw).2.2⟩
    refine⟨Ad,Ad,Ad,λ_=>wX,λe=>?_,λe=>?_,Ad⟩
    .rw[if_pos e] at h;unfold Hl at h;cases bb:declared s.locals a.loc s with
     | none=>rw[bb] at h;cases h
     | some q =>
      obtain⟨d1,d2,d3⟩:=Pt bb;exact⟨d1,d3⟩
    .rw[if_neg e] at h;exact Iw h
  .rw[if_neg I] at h;cases h
structure vS(s:Scope)(c:dI):Prop where
 guard:ta s c.guard
 act:∀k (h:k<c.bP.length),nG s c.bP[k]
 gf:c.bP.length<=6
theorem XB{s:Scope}:∀(l:C_ Act) (i:Nat) (t:Bool),(lg s l i t).2=0->∀k (h:k<l.length),nG s l[k]
 | [],_,_,_,k,h=>by simp at h
 | a :: r,i,t,h,k,hk=>by
  unfold lg at h;by_cases h1:(ib a&&t)=true
  .rw[if_pos h1] at h;cases h
  rw[if_neg h1] at h;by_cases I:kX a s≠0
  .rw[if_pos I] at h;exact absurd h I
  rw[if_neg I] at h;cases k with
  | zero=>exact OG (by simpa using I)
  | succ k=>exact XB r _ _ h k (by simpa using hk)
def aie{c:dI}{cm:Int}{s:Scope}(h:(j0 c cm s).2=0):vS s c:=by
 unfold j0 at h;by_cases h1:head c cm≠0
 .rw[if_pos h1] at h;exact absurd h h1
 rw[if_neg h1] at h;by_cases I:c.guard.length > 0/\asked c.guard 1 s≠0
 .rw[if_pos I] at h;exact absurd h I.2
 rw[if_neg I] at h;refine⟨?_,XB _ _ _ h,?_⟩
 .by_cases aG:c.guard.length > 0
  .exact Iw (Classical.byContradiction λaw=>I ⟨aG,aw⟩)
  .exact⟨λk hk=>Ad,Ad⟩
 .apply Classical.byContradiction;intro aw;apply h1;unfold head;by_cases c5:isName c.name=false
  .rw[if_pos c5];decide
  rw[if_neg c5];by_cases dA:c.from_<0\/cm<=c.from_\/c.to<0\/cm<=c.to
  .rw[if_pos dA];decide
  rw[if_neg dA,if_pos Ad];decide
def Yg{m:Model}(h:(check m).cJ=0):(mV m).cJ=0:=by
 unfold check at h;by_cases bb:(data m).cJ≠0
 .rw[if_pos bb] at h;exact absurd h bb
 rw[if_neg bb] at h;apply Classical.byContradiction;intro ar;rw[if_pos ar] at h;exact ar h
def aij{m:Model}(h:(check m).cJ=0){p k:Nat}(ar:p<m.procs.length)(hk:k<m.procs[p].c0.length):vS (inner m.procs[p] (ev m)) m.procs[p].c0[k]:=by
 obtain⟨dK,_,_⟩:=Tn (Yg h);obtain⟨_,cK,_,_⟩:=Fc ar (dK p ar);obtain⟨_,_,hC⟩:=adC cK;have e:hv m (p:Int)=inner m.procs[p] (ev m):=by
  unfold hv;rw[jd Ad Ad];rfl
 have a1:=(Pg _ _ hC k hk).1;rw[e] at a1;exact aie a1
def yD{L:C_ (C_ Int)}{B:C_ (C_ dY)}(h:L.map List.length=B.map List.length):L.flatten.length=total B:=by
 rw[List.length_flatten,h];rfl
def pre(Ca:C_ Int)(d:Nat):C_ Int:=Ca.take d++List.replicate (Ca.length - d) 0
def D1{Ca:C_ Int}{d:Nat}{x:Int}(h:Ca[d]? = some x):Ca.take (d+1)=Ca.take d++[x]:=by
 obtain⟨bb,rfl⟩:=List.getElem?_eq_some_iff.1 h;exact Iu bb
def ahm{m:Model}{i:Nat}(h:i<m.ax.length):b7 m (i+1)=b7 m i+(1+m.ax[i].cap.toNat):=by
 have br:i<(dG m).length:=by simpa[dG] using h
 unfold b7;rw[HE br];simp[dG,wy];omega
def ahn(m:Model):b7 m 0=total (c4 m):=by simp[b7,total]
theorem acB(s w:Int):∀(l:C_ dY) (k j:Nat) (h:j<l.length),(fN s w l k)[j]? = some ⟨s,w,(k+j:Nat),l[j].aV,l[j].U,l[j].kind⟩
 | [],_,_,h=>by simp at h
 | b :: l,k,0,_=>by simp[fN]
 | b :: l,k,j+1,h=>by
  simp only[fN,List.getElem?_cons_succ,List.getElem_cons_succ];rw[acB s w l (k+1) j (by simpa using h),show k+1+j=k+(j+1) from Ad]
theorem O9(s:Int):∀(ls:C_ (C_ dY)) (i w k:Nat) (hw:w<ls.length) (hk:k<ls[w].length),(cellsOf s ls i)[total (ls.take w)+k]? = some ⟨s,(i+w:Nat),k,ls[w][k].aV,ls[w][k].U,ls[w][k].kind⟩
 | [],_,_,_,hw,_=>by simp at hw
 | l :: r,i,0,k,_,hk=>by
  simp only[List.take_zero,total,List.map_nil,List.sum_nil,Nat.zero_add,List.getElem_cons_zero,cellsOf] at hk ⊢;rw[List.getElem?_append_left (by rw[vx];exact hk),acB s i l 0 k hk];simp
 | l :: r,i,w+1,k,hw,hk=>by
  simp only[List.take_succ_cons,HD,List.getElem_cons_succ,cellsOf] at hk ⊢;rw[List.getElem?_append_right (by rw[vx];omega),vx,show l.length+total (r.take w)+k - l.length=total (r.take w)+k from Ad,O9 s r (i+1) w k (by simpa using hw) hk,show i+1+w=i+(w+1) from Ad]
def ao0{m:Model}{k p:Nat}(hk:k<(insts m).length)(ar:p<m.procs.length)(ak:ml m (insts m)[k]=vG m.scalars m.procs[p]):∃h:cU m k<(cp m).length,(cp m)[cU m k].aV=0/\(cp m)[cU m k].U=m.procs[p].cm - 1:=by
 have hw:k<(fF m).length:=by simpa[fF] using hk
 have e:(fF m)[k]=vG m.scalars m.procs[p]:=by simp[fF,ak]
 have ad:0<(fF m)[k].length:=by rw[e,Bn];omega
 have h1:=O9 3 (fF m) 0 k 0 hw ad;have I:=aoZ (m:=m) (c:=cU m k) (by unfold cU;omega);rw[show cU m k - (total (c4 m)+total (dG m))=total ((fF m).take k)+0 from by unfold cU;omega,h1] at I;obtain⟨ab,aC⟩:=List.getElem?_eq_some_iff.1 I;refine⟨ab,?_,?_⟩
 .rw[aC];simp only[e];rfl
 .rw[aC];simp only[e];rfl
def Fits.loc{m:Model}{s:C_ Int}(h:Fits m s){k p:Nat}(hk:k<(insts m).length)(ar:p<m.procs.length)(ak:ml m (insts m)[k]=vG m.scalars m.procs[p]):∃d:Nat,s[cU m k]? = some (d:Int)/\(d:Int)<m.procs[p].cm:=by
 obtain⟨h1,I,ab⟩:=ao0 hk ar ak;have aj:cU m k<s.length:=by rw[h.len];exact h1
 have aC:=h.cell _ aj h1;rw[I,ab] at aC;refine⟨s[cU m k].toNat,?_,Ad⟩;rw[List.getElem?_eq_getElem aj,Int.toNat_of_nonneg aC.1]
def XM(m:Model)(s:C_ Int)(p l:Int)(k:Nat):wj m s p l (k+1)=wj m s p l k+if ((insts m)[k]?.map (·.proc))=some p/\s[cU m k]? = some l then 1 else 0:=by
 unfold wj;rw[AH0,AK2,MD,List.filter_cons,List.filter_nil];by_cases h:((insts m)[k]?.map (·.proc))=some p/\s[cU m k]? = some l
 .rw[decide_eq_true h,if_pos rfl,if_pos h];rfl
 .rw[decide_eq_false h,if_neg CC,if_neg h];rfl
def wk(m:Model)(s:C_ Int)(p:Nat)(n:Int)(k:Nat):(kE m s p n k).length=n.toNat:=by simp[kE]
def EG{m:Model}{s:C_ Int}{p:Nat}{n:Int}{k d:Nat}(h:d<n.toNat):(kE m s p n k)[d]? = some ((wj m s p d k:Nat):Int):=by
 simp[kE,h]
def XP(m:Model)(s:C_ Int)(p:Nat)(n:Int):kE m s p n 0=List.replicate n.toNat 0:=by
 apply List.ext_getElem?;intro i;by_cases h:i<n.toNat
 .rw[EG h];simp[wj,h]
 .rw[List.getElem?_eq_none (by rw[wk];omega),List.getElem?_eq_none (by simp;omega)]
def XN{m:Model}{s:C_ Int}{p:Nat}{n:Int}{k:Nat}(h:(insts m)[k]?.map (·.proc)≠some (p:Int)):kE m s p n (k+1)=kE m s p n k:=by
 unfold kE;apply List.map_congr_left;intro l _;rw[XM,if_neg (λe=>h e.1),AJ1]
def XO{m:Model}{s:C_ Int}{p:Nat}{n:Int}{k d:Nat}(h:(insts m)[k]?.map (·.proc)=some (p:Int))(aj:s[cU m k]? = some (d:Int))(bb:d<n.toNat):kE m s p n (k+1)=(kE m s p n k).set d ((wj m s p d k:Nat)+1:Int):=by
 apply List.ext_getElem?;intro i;rw[List.getElem?_set];by_cases U:i<n.toNat
 .rw[EG U,XM];by_cases Rg:d=i
  .subst Rg;rw[if_pos ⟨h,aj⟩,if_pos rfl,if_pos (by rw[wk];exact bb)];rfl
  .rw[if_neg (λe=>Rg (by have aH:=e.2;rw[aj] at aH;have aR:=Option.some.inj aH;omega)),if_neg Rg,EG U,AJ1]
 .rw[List.getElem?_eq_none (by rw[wk];omega),if_neg Ad,List.getElem?_eq_none (by rw[wk];omega)]
def OR(m:Model)(s:C_ Int)(p l:Int)(k:Nat):wj m s p l k<=k:=by
 unfold wj;refine Nn (AK3 _ _) ?_;simp
theorem abX{m:Model}:∀(l:C_ dt) (i:Nat),l=m.procs.drop i->∀x∈j9 m l i,∃(p:Nat) (h:p<m.procs.length),x.proc=p/\(m.procs[p].over≠0->1<=x.elem)
 | [],_,_,x,af=>by simp[j9] at af
 | p :: r,i,h,x,af=>by
  have U:i<m.procs.length:=by
   apply Classical.byContradiction;intro aw;rw[AE9 Ad] at h;cases h
  rw[AF0 U] at h;injection h with h1 I
  simp only[j9,List.mem_append] at af;rcases af with (af | af) | af
  .unfold jA at af;split at af
   .rename_i ad;rw[AF2] at af;subst af;exact⟨i,U,rfl,λaw=>absurd (h1 ▸ ad) aw⟩
   .cases af
  .unfold kb at af;obtain⟨k,_,rfl⟩:=List.mem_map.1 af;exact⟨i,U,rfl,λ_=>by simp only;omega⟩
  .exact abX r (i+1) I x af
structure fJ(m:Model)(q p:Nat):Prop where
 au:q<(insts m).length
 ar:p<m.procs.length
 eq:(insts m)[q].proc=p
 elem:m.procs[p].over≠0->1<=(insts m)[q].elem
 fV:0<=(insts m)[q].elem/\(insts m)[q].elem<=4
def A7{m:Model}{q:Nat}(h:q<(insts m).length):∃p,fJ m q p:=by
 obtain⟨p,ar,e,h1⟩:=abX m.procs 0 CC _ (ED h);exact⟨p,h,ar,e,h1,(q5 _ (ED h)).elem⟩
def fJ.nth{m:Model}{q p:Nat}(h:fJ m q p):o.nth m.procs ((insts m)[q]'(h.au)).proc=some (m.procs[p]'(h.ar)):=by
 rw[h.eq,jd Ad (by have:=h.ar;omega)];rfl
def fJ.agX{m:Model}{q p:Nat}(h:fJ m q p):ml m ((insts m)[q]'(h.au))=vG m.scalars (m.procs[p]'(h.ar)):=by
 unfold ml;rw[h.nth]
def fJ.room{m:Model}{q p:Nat}(h:fJ m q p):cU m q+(1+(m.procs[p]'(h.ar)).vars.length)<=di m:=by
 have:=Su h.au
 rw[h.agX,Bn] at this;exact this
def E6{m:Model}{q:Nat}(h:q<(insts m).length):Jj m q=((insts m)[q]'h).elem.toNat:=by
 unfold Jj;rw[List.getElem?_eq_getElem h]
def q8{m:Model}{v:Nat}(h:v<m.vars.length):lu m v=(cells m.vars[v] m.scalars).toNat:=by
 unfold lu;rw[List.getElem?_eq_getElem h]
def oL{m:Model}{c:Nat}(h:c<m.ax.length):gF m c=m.ax[c].cap.toNat:=by
 unfold gF;rw[List.getElem?_eq_getElem h]
def D4{m:Model}(aL:ey m){v:Nat}(h:v<m.vars.length):fY m v+lu m v<=64:=by
 have:=sb h
 rw[q8 h]
 have:=nq m
 have:di m<=64:=iG aL
 omega
def tv{m:Model}(aL:ey m){c:Nat}(h:c<m.ax.length):b7 m c+(1+gF m c)<=64:=by
 have:=wv h
 rw[oL h]
 have:=nq m
 have:di m<=64:=iG aL
 omega
def GH{m:Model}(aL:ey m){q:Nat}(h:q<(insts m).length):cU m q+1<=64:=by
 obtain⟨p,ar⟩:=A7 h
 have:=ar.room
 have:di m<=64:=iG aL
 omega
def fJ.zu{m:Model}(aL:ey m){q p:Nat}(h:fJ m q p):cU m q+(1+(m.procs[p]'(h.ar)).vars.length)<=64:=by
 have:=h.room
 have:di m<=64:=iG aL
 omega
structure fe(n:Nat)(l:List Int):Prop where
 aV:∀x∈l,0<=x/\x<80
 len:l.length<=n
def fe.row{a n k:Nat}(h:a+n<=80)(aw:n<=k):fe k (gB a n):=⟨λx af=>by have:=qq.1 af;omega,by rw[M4];exact aw⟩
def fe.nil(n:Nat):fe n []:=⟨λx af=>(by cases af),AF6 _⟩
def fe.app{a b n:Nat}{l r:C_ Int}(h:fe a l)(k:fe b r)(aw:a+b<=n):fe n (l++r):=⟨λx af=>by
 rcases List.mem_append.1 af with af | af
 .exact h.aV x af
 .exact k.aV x af,by rw[MD];have:=h.len;have:=k.len;omega⟩
def fe.mono{a n:Nat}{l:C_ Int}(h:fe a l)(aw:a<=n):fe n l:=⟨h.aV,Nn h.len aw⟩
def SB{m:Model}(aL:ey m){q v:Nat}(au:q<(insts m).length)(aF:v<m.vars.length)(own:Bool):fe 64 (mm m q v own):=by
 have:=D4 aL aF
 have aC:=(q5 _ (ED au)).elem
 have:=E6 au
 unfold mm;cases own
 .exact fe.row Ad Ad
 .exact fe.row Ad Ad
theorem Ix{m:Model}(aL:ey m)(p:Int):∀n,n<=(insts m).length->fe n (nN m p n)
 | 0,_=>fe.nil _
 | n+1,h=>by
  rw[zX Ad]
  have:=GH aL (q:=n) Ad
  refine fe.app (Ix aL p n Ad) (b:=1) ?_ (EC _);split
  .exact fe.row Ad (EC _)
  .exact fe.nil _
def xk{m:Model}(aL:ey m):(insts m).length<=30:=by have:=vo m;have:=aL.procs;omega
def adg{m:Model}(aL:ey m){q p:Nat}(h:fJ m q p){x:Node}(af:BY (inner (m.procs[p]'(h.ar)) (ev m)) x)(own:Bool):fe 64 (ef m q own x):=by
 unfold ef;by_cases I:x.op=2
 .rw[if_pos I];obtain⟨_,v,aF,_⟩:=af.var I;have dO:x.n.toNat<m.vars.length:=(List.getElem?_eq_some_iff.1 aF).1
  have:=sb dO
  have:=nq m
  have:di m<=64:=iG aL
  exact fe.row Ad Ad
 rw[if_neg I];by_cases ab:x.op=3
 .rw[if_pos ab];exact SB aL h.au (af.item ab).2 own
 rw[if_neg ab];by_cases aC:x.op=4
 .rw[if_pos aC];have a1:x.n.toNat<(m.procs[p]'(h.ar)).vars.length:=(af.loc aC).2
  have:=h.zu aL
  exact fe.row Ad Ad
 rw[if_neg aC];by_cases bJ:x.op=6
 .rw[if_pos bJ]
  have:=tv aL (af.len bJ).2
  exact fe.row Ad Ad
 rw[if_neg bJ];by_cases cr:x.op=7
 .rw[if_pos cr];exact(Ix aL _ _ (EC _)).mono (by have:=xk aL;omega)
 .rw[if_neg cr];exact fe.nil _
theorem Y7{m:Model}(aL:ey m){q p:Nat}(h:fJ m q p){e:C_ Node}(he:ta (inner (m.procs[p]'(h.ar)) (ev m)) e):∀n,n<=e.length->fe (64*n) (j3 m q e n)
 | 0,_=>fe.nil _
 | n+1,aw=>by
  rw[PL Ad];exact fe.app (Y7 aL h he n Ad) (adg aL h (he.node n Ad).1 _) Ad
def wJ{m:Model}(aL:ey m){q p:Nat}(h:fJ m q p){e:C_ Node}(he:ta (inner (m.procs[p]'(h.ar)) (ev m)) e){n:Nat}(aw:n<=e.length):fe 1536 (j3 m q e n) :=
 (Y7 aL h he n aw).mono (by have:=he.len;omega)
def Cm{m:Model}(aL:ey m){c:Nat}(h:c<m.ax.length):fe 64 (lJ m c):=by
 have:=tv aL h
 exact fe.row Ad Ad
def agr{m:Model}(aL:ey m){q p:Nat}(h:fJ m q p){a:Act}(aY:nG (inner (m.procs[p]'(h.ar)) (ev m)) a):fe 3072 (tm m q a):=by
 unfold tm;by_cases a1:a.kind=5
 .rw[if_pos a1];exact(Cm aL (aY.chan (.inr a1)).2).mono Ad
 .rw[if_neg a1];refine fe.app (a:=1536) ?_ (wJ aL h (aY.val a1) (EC _)) Ad;by_cases I:a.kind=2
  .rw[if_pos I];exact wJ aL h (aY.item I).2.2 (EC _)
  rw[if_neg I];by_cases aC:a.kind=4
  .rw[if_pos aC]
   have:=tv aL (aY.chan (.inl aC)).2
   exact fe.row Ad Ad
  .rw[if_neg aC];exact fe.nil _
def ags{m:Model}(aL:ey m){q p:Nat}(h:fJ m q p){a:Act}(aY:nG (inner (m.procs[p]'(h.ar)) (ev m)) a):fe 80 (jY m q a):=by
 have j4:=h.zu aL;unfold jY;by_cases h1:a.kind=1
 .rw[if_pos h1];obtain⟨_,v,aF,_⟩:=aY.set h1;have dO:a.to.toNat<m.vars.length:=(List.getElem?_eq_some_iff.1 aF).1
  have:=D4 aL dO
  exact fe.row Ad Ad
 rw[if_neg h1];by_cases I:a.kind=2
 .rw[if_pos I];exact(SB aL h.au (aY.item I).2.1 _).mono Ad
 rw[if_neg I];by_cases ab:a.kind=3
 .rw[if_pos ab];have a1:a.to.toNat<(m.procs[p]'(h.ar)).vars.length:=(aY.loc ab).2;exact fe.row Ad Ad
 rw[if_neg ab];by_cases aC:a.kind=4
 .rw[if_pos aC];exact(Cm aL (aY.chan (.inl aC)).2).mono Ad
 rw[if_neg aC];by_cases a1:a.kind=5
 .rw[if_pos a1];have bJ:a.loc.toNat<(m.procs[p]'(h.ar)).vars.length:=(aY.recv a1).2;exact fe.app (Cm aL (aY.chan (.inr a1)).2) (fe.row (k:=1) Ad Ad) Ad
 .rw[if_neg a1];exact fe.nil _
def P1{m:Model}(aL:ey m){q p:Nat}(h:fJ m q p){c:dI}(an:vS (inner (m.procs[p]'(h.ar)) (ev m)) c):fe 1537 (u2 m q c):=by
 have:=GH aL h.au
 exact fe.app (fe.row (k:=1) Ad Ad) (wJ aL h an.guard (EC _)) Ad
theorem ad2{m:Model}(aL:ey m){q p:Nat}(h:fJ m q p){c:dI}(an:vS (inner (m.procs[p]'(h.ar)) (ev m)) c):∀n,n<=c.bP.length->fe (1537+3072*n) (ql m q c n)
 | 0,_=>by
  unfold ql;simpa using P1 aL h an
 | n+1,aw=>by
  rw[ad1 Ad];exact fe.app (ad2 aL h an n Ad) (agr aL h (an.act n Ad)) Ad
theorem HJ{m:Model}(aL:ey m){q p:Nat}(h:fJ m q p){c:dI}(an:vS (inner (m.procs[p]'(h.ar)) (ev m)) c):∀n,n<=c.bP.length->fe (1+80*n) (kg m q c n)
 | 0,_=>by
  have:=GH aL h.au
  unfold kg;simpa using fe.row (a:=cU m q) (n:=1) (k:=1) Ad Ad
 | n+1,aw=>by
  rw[Uv Ad];exact fe.app (HJ aL h an n Ad) (ags aL h (an.act n Ad)) Ad
def aeJ{a:Act}(h:a.index.length=1):pL a=decide ((a.index[0]' Ad).op=5):=by
 obtain⟨x,af⟩:=List.length_eq_one_iff.1 h;unfold pL;simp[af]
def aeI{a:Act}(h:¬a.index.length=1):pL a=false:=by
 unfold pL;split
 .rename_i x af;rw[af] at h;exact absurd rfl h
 .rfl
def adJ(L:C_ Int)(a n:Nat):L++gB a (n+1)=L++gB a n++[((a+n:Nat):Int)]:=by rw[TK,MV]
end o
namespace Go.Proofs.R
open Go Go.RowKit a8
structure pX(w:World)(b:Nat)(m:o.Model)(q:Nat):Prop where
 ex:∃cs ys bK,w.heap[b]? = some (.cells (cs++ys++[bK,.int .i64 q]).toArray T.yi)/\o.dj w cs m/\o.jk w ys (o.layout m)/\ik w bK (o.insts m)
theorem pX.ext{w w':A_}{b q:Nat}{m:o.Model}(he:Ext w w')(h:pX w b m q):pX w' b m q :=
 let ⟨xs,cs,bK,ad,h1,I,ab⟩:=h.ex; ⟨xs,cs,bK,he.obj ad,h1.ext he,I.ext he,ab.ext Flat.ext he⟩
def pX.form{w:A_}{b q:Nat}{m:o.Model}(h:pX w b m q):∃b0 bz bO c1 bT c2 bV bu b1 bB eH d0 dK d1 eg d2 eD d3 eU d4 b8 ci,
  w.heap[b]? = some (.cells #[.slice eH m.scalars.length d0,.slice dK m.vars.length d1,.slice eg m.ax.length d2,.slice eD m.procs.length d3,.slice eU m.props.length d4,
   .slice b0 (o.layout m).vars.length bz,.slice bO (o.layout m).ax.length c1,.slice bT (o.layout m).insts.length c2,.I (o.layout m).cells,.slice bV (o.layout m).aV.length bu,.slice b1 (o.layout m).U.length bB,.slice b8 (o.insts m).length ci,.I q] T.yi) /\
  bm 1 (Flat bX) w (.slice b0 (o.layout m).vars.length bz) (o.layout m).vars/\bm 1 (Flat bX) w (.slice bO (o.layout m).ax.length c1) (o.layout m).ax/\bm 1 (Flat bX) w (.slice bT (o.layout m).insts.length c2) (o.layout m).insts /\
  o.il w (.slice eH m.scalars.length d0) m.scalars/\o.hZ w (.slice dK m.vars.length d1) m.vars/\o.nH w (.slice eg m.ax.length d2) m.ax/\o.rr w (.slice eD m.procs.length d3) m.procs /\
  ik w (.slice b8 (o.insts m).length ci) (o.insts m):=by
 obtain⟨cs,xs,bK,ak,aL,ch,aP⟩:=h.ex;obtain⟨b0,bz,bO,c1,bT,c2,bV,bu,b1,bB,rfl,dB,cP,cA,eI,fp⟩:=ch.form;obtain⟨eH,d0,dK,d1,eg,d2,eD,d3,eU,d4,rfl,ad,h1,I,ab,aC,_⟩:=aL.form;obtain⟨b8,ci,rfl,_⟩:=aP.form;exact⟨b0,bz,bO,c1,bT,c2,bV,bu,b1,bB,eH,d0,dK,d1,eg,d2,eD,d3,eU,d4,b8,ci,ak,dB,cP,cA,ad,h1,I,ab,aP⟩
def um(b:Nat)(L:C_ Int)(a n:Nat)(x y:Int)(w:A_)(h:fx w b L)(af:x=a)(bE:y=n)(hm:a+n<=1000000000) :
  Du F.Jb #[.map (some b),.I x,.I y] w λ_ w'=>fx w' b (L++o.gB a n)/\Mod (λi=>i=b) w w':=by
 subst af bE;refine bl E.Jb ?_;refine J ?_;refine L_ 8 n [0,1,7] (λ_:Unit=>[]) () (λk _ W=>Mod (λi=>i=b) w W/\fx W b (L++o.gB a k)) a6 a6 ⟨Mod.refl _ _,by simpa[o.aek] using h⟩ ?_;rintro k _ S w1 hk ⟨sK,fl⟩;refine J ?_;apply I_<;>intro g1
 .refine J ?_;refine AD2 fl λz=>?_;refine J ?_;refine _l ?_;refine J ?_;refine AD3 fl Ad λaA qf et=>?_;refine J ?_;refine⟨Ad,aK,(),trivial,sK.trans (qf.mod rfl),?_⟩;rw[o.adJ];exact et
 .have gS:k=n:=Ad
  subst gS;refine J ?_;exact⟨fl,sK⟩
def F6(b q:Nat)(m:o.Model)(w:A_)(h:pX w b m q)(au:q<(o.insts m).length) :
  Du F.Jc #[.pointer (some ⟨b,0,none⟩)] w λv w'=>v = .I (o.cU m q)/\Ext w w':=by
 obtain⟨b0,bz,bO,c1,bT,c2,bV,bu,b1,bB,eH,d0,dK,d1,eg,d2,eD,d3,eU,d4,b8,ci,ak,dB,cP,cA,ad,h1,I,ab,aP⟩:=h.form;obtain⟨U,he⟩:=o.oe au;obtain⟨a2,rfl⟩:=cA.addr;refine bl E.Jc ?_;refine J ?_;intro w1 ag;refine J ?_;exact⟨by rw[he],ag⟩
def Up(b cT q i:Nat)(L:C_ Int)(m:o.Model)(w0 w:A_)(h:pX w0 b m q)(he:Ext w0 w)(mM:w0.heap.size<=cT)(aj:fx w cT L)(aL:o.ey m)(U:i<m.ax.length) :
  Du F.b6 #[.pointer (some ⟨b,0,none⟩),.map (some cT),.I i] w λ_ w'=>fx w' cT (L++o.lJ m i)/\Mod (λk=>k=cT) w w':=by
 obtain⟨b0,bz,bO,c1,bT,c2,bV,bu,b1,bB,eH,d0,dK,d1,eg,d2,eD,d3,eU,d4,b8,ci,ak,dB,cP,cA,ad,h1,I,ab,aP⟩:=(h.ext he).form;obtain⟨iV,eB⟩:=o.p1 U;have sO:=o.tv aL U;have eC:=o.oL U;have hL:=(aL.chan _ (ED U)).cap;have gf:=aL.gf;obtain⟨db,rfl⟩:=cP.addr;obtain⟨a2,rfl⟩:=I.addr;have dH:=(I.at i U).cells;refine bl E.b6 ?_;refine J ?_;intro w1 ag;refine J ?_;refine J_ (um cT L (o.b7 m i) (1+o.gF m i) _ _ w1 (aj.ext ag) (by rw[eB]) Ad Ad) ?_;rintro _ aA ⟨et,fU⟩;refine J ?_;exact⟨et,ag.mod.trans fU⟩
def HH(b cT q i:Nat)(item own:Bool)(L:C_ Int)(m:o.Model)(w0 w:A_)(h:pX w0 b m q)(he:Ext w0 w)(mM:w0.heap.size<=cT)(aj:fx w cT L)(aL:o.ey m)(au:q<(o.insts m).length)(U:i<m.vars.length)
  (aQ:item=true->own=true->1<=(o.insts m)[q].elem) :
  Du F.z #[.pointer (some ⟨b,0,none⟩),.map (some cT),.I i,.bool item,.bool own] w λ_ w'=>fx w' cT (L++o.mm m q i (item&&own))/\Mod (λk=>k=cT) w w':=by
 obtain⟨b0,bz,bO,c1,bT,c2,bV,bu,b1,bB,eH,d0,dK,d1,eg,d2,eD,d3,eU,d4,b8,ci,ak,dB,cP,cA,ad,h1,I,ab,aP⟩:=(h.ext he).form;obtain⟨dP,gk⟩:=o.ri U;have sO:=o.D4 aL U;have vg:=o.q8 U;have tK:=(o.q5 _ (ED au)).elem;have e8:=o.E6 au;have dL:=o.su m.vars[i] m.scalars;obtain⟨a0,rfl⟩:=dB.addr;obtain⟨db,rfl⟩:=h1.addr;obtain⟨gp,rfl⟩:=aP.addr;have dH:=(h1.at i U).cells;cases item<;>cases own;rotate_left 3
 .have mS:=aQ rfl rfl;refine bl E.z ?_;refine J ?_;intro w1 ag;refine J ?_;refine J_ (um cT L (o.fY m i+o.Jj m q - 1) 1 _ _ w1 (aj.ext ag) (by rw[gk];omega) rfl Ad) ?_;rintro _ aA ⟨et,fU⟩;refine J ?_;exact⟨et,ag.mod.trans fU⟩
 all_goals
  clear aQ;refine bl E.z ?_;refine J ?_;intro w1 ag;refine J ?_;refine J_ (Cl m.vars[i] _ m.scalars w1 (ad.ext ag)) ?_;rintro _ aA ⟨rfl,ai⟩;refine J ?_;refine J_ (um cT L (o.fY m i) (o.lu m i) _ _ aA ((aj.ext ag).ext ai) (by rw[gk]) Ad Ad) ?_;rintro _ aM ⟨gN,jv⟩;refine J ?_;exact⟨gN,(ag.mod.trans ai.mod).trans jv⟩
end Go.Proofs.R
namespace o
open Go
def ade{m:Model}{q:Nat}{own:Bool}{x:Node}(h:x.op=2){v:Var}(aF:m.vars[x.n.toNat]? = some v)(ad:v.over=0):mm m q x.n.toNat false=ef m q own x:=by
 obtain⟨h1,I⟩:=List.getElem?_eq_some_iff.1 aF;unfold ef mm;rw[if_pos h,if_neg CC,q8 h1,I]
 have:cells v m.scalars=1:=by unfold cells;rw[if_pos ad]
 rw[this];rfl
end o
namespace Go.Proofs.R
open Go Go.RowKit a8
structure xZ(w:World)(bL lh b cT:Nat):Prop where
 x:w.heap[bL]? = some (.cells #[.pointer (some ⟨b,0,none⟩)] T.a9)
 z:w.heap[lh]? = some (.cells #[.map (some cT)] T.s)
def xZ.mod{w w':A_}{bL lh b cT:Nat}{L:C_ Int}(h:xZ w bL lh b cT)(aj:fx w cT L)(hm:Mod (λk=>k=cT) w w'):xZ w' bL lh b cT:=by
 obtain⟨es,c,an,_⟩:=aj.ex;have aw:∀{k:Nat} {cs t},w.heap[k]? = some (.cells cs t)->¬k=cT:=λhk e=>by subst e;rw[hk] at an;cases an
 exact⟨hm.obj (aw h.x) h.x,hm.obj (aw h.z) h.z⟩
theorem xZ.ext{w w':A_}{bL lh b cT:Nat}(h:xZ w bL lh b cT)(he:Ext w w'):xZ w' bL lh b cT:=⟨he.obj h.x,he.obj h.z⟩
def ajA(x:o.Node)(own:Bool)(b cT bL lh q p:Nat)(L:C_ Int)(m:o.Model)(w0 w:A_)(h:pX w0 b m q)(he:Ext w0 w)(mM:w0.heap.size<=cT)(aj:fx w cT L)(hK:xZ w bL lh b cT)(aL:o.ey m)(aP:o.fJ m q p)
  (af:o.BY (o.inner (m.procs[p]'(aP.ar)) (o.ev m)) x)(c8:x.ok)(aQ:own=true->1<=((o.insts m)[q]'(aP.au)).elem) :
  Du F.EM #[.agg x.enc.toArray,.bool own,.pointer (some ⟨bL,0,none⟩),.pointer (some ⟨lh,0,none⟩)] w λ_ w'=>fx w' cT (L++o.ef m q own x)/\Mod (λk=>k=cT) w w':=by
 have au:=aP.au;have j4:=aP.zu aL;have A5:=c8.op;have A4:=c8.n;unfold o.dX at A5 A4;have oR:=hK.x;have wW:=hK.z;obtain⟨b0,bz,bO,c1,bT,c2,bV,bu,b1,bB,eH,d0,dK,d1,eg,d2,eD,d3,eU,d4,b8,ci,rN,dB,cP,cA,_,_,_,_,Qc⟩:=h.form;refine bl E.EM ?_;refine J ?_;intro w1 c6 fT ag bo;replace oR:=ag.obj oR;replace wW:=ag.obj wW;have fl:=aj.ext ag;have jT:=he.trans ag;obtain⟨es,ce,eB,_⟩:=fl.ex;have ud:¬c6=cT:=λe=>by subst e;rw[bo] at eB;cases eB
 have DF:¬bL=cT:=λe=>by subst e;rw[oR] at eB;cases eB
 have ap2:¬lh=cT:=λe=>by subst e;rw[wW] at eB;cases eB
 clear eB;unfold o.Node.enc at bo;refine J ?_;apply I_<;>intro g2
 .obtain⟨fh,v,aF,iw⟩:=af.var g2;have dO:x.n.toNat<m.vars.length:=(List.getElem?_eq_some_iff.1 aF).1;have gG:x.n=(x.n.toNat:Nat):=Ad
  refine J ?_;rw[gG];refine J_ (HH b cT q x.n.toNat false false L m w0 w1 h jT mM fl aL au dO (λa=>by cases a)) ?_;rintro _ aA ⟨et,fU⟩;rw[Bool.false_and,o.ade g2 aF iw (own:=own)] at et;refine J ?_;exact⟨et,ag.mod.trans fU⟩
 refine J ?_;apply I_<;>intro g3
 .obtain⟨fh,dO⟩:=af.item g3;have gG:x.n=(x.n.toNat:Nat):=Ad
  refine J ?_;rw[gG];refine J_ (HH b cT q x.n.toNat true own L m w0 w1 h jT mM fl aL au dO (λ_ a=>aQ a)) ?_;rintro _ aA ⟨et,fU⟩;have aR:o.ef m q own x=o.mm m q x.n.toNat (true&&own):=by unfold o.ef;rw[if_neg g2,if_pos g3,AJ2]
  rw[<-aR] at et;refine J ?_;exact⟨et,ag.mod.trans fU⟩
 refine J ?_;apply I_<;>intro g4
 .obtain⟨fh,dO⟩:=af.loc g4;have dE:x.n.toNat<(m.procs[p]'(aP.ar)).vars.length:=dO;have bn:o.ef m q own x=o.gB (o.cU m q+1+x.n.toNat) 1:=by unfold o.ef;rw[if_neg g2,if_neg g3,if_pos g4]
  rw[bn];refine J ?_;intro aA ai;refine J ?_;refine J_ (F6 b q m aA (h.ext (jT.trans ai)) au) ?_;rintro _ aM ⟨rfl,ah⟩;refine⟨ah,?_⟩;refine J ?_;refine J_ (um cT L (o.cU m q+1+x.n.toNat) 1 _ _ aM ((fl.ext ai).ext ah) Ad rfl Ad) ?_;rintro _ aU ⟨kN,j6⟩;refine J ?_;exact⟨kN,((ag.mod.trans ai.mod).trans ah.mod).trans j6⟩
 refine J ?_;apply I_<;>intro g6
 .obtain⟨fh,dO⟩:=af.len g6;have dE:x.n.toNat<m.ax.length:=dO;have FZ:=o.tv aL dE;have gG:x.n=(x.n.toNat:Nat):=Ad
  have b6:o.ef m q own x=o.gB (o.b7 m x.n.toNat) 1:=by unfold o.ef;rw[if_neg g2,if_neg g3,if_neg g4,if_pos g6]
  rw[b6];obtain⟨iV,eB⟩:=o.p1 dE;obtain⟨db,rfl⟩:=cP.addr;have ak:=jT.obj rN;have Tu:=cP.ext Flat.ext jT;rw[gG] at bo;refine J ?_;intro aA ai;refine J ?_;refine J_ (um cT L (o.b7 m x.n.toNat) 1 _ _ aA (fl.ext ai) (by rw[eB]) rfl Ad) ?_;rintro _ aU ⟨kN,j6⟩;refine J ?_;exact⟨kN,(ag.mod.trans ai.mod).trans j6⟩
 refine J ?_;apply I_<;>intro g7;rotate_left
 .have eN:o.ef m q own x=[]:=by unfold o.ef;rw[if_neg g2,if_neg g3,if_neg g4,if_neg g6,if_neg g7]
  rw[eN,SN];refine J ?_;exact⟨fl,ag.mod⟩
 have cM:o.ef m q own x=o.nN m (x.n.tdiv 16) (o.insts m).length:=by unfold o.ef;rw[if_neg g2,if_neg g3,if_neg g4,if_neg g6,if_pos g7]
 rw[cM];obtain⟨f6,f7,f8⟩:=o.pH m;obtain⟨fh,vk⟩:=af.at_ g7;have RD:(x.n.tdiv 16).toNat<m.procs.length:=vk;have RH:=AK4 fh (show(0:Int)<=16 by omega);have RF:=aL.procs;have abv : -9223372036854775808<=x.n.tdiv 16/\x.n.tdiv 16<=9223372036854775807:=Ad
 have p4:∀{W},Mod (λk=>k=cT) w1 W->Ext w0 W:=λhm=>hm.ext jT λk hk e=>Ad
 have gf:=o.xk aL;have cN:=jT.obj rN;clear dB cP;refine J ?_;refine L_ 55 (o.insts m).length [2,3,4,53,54] (λ_:Unit=>[]) () (λk _ W=>Mod (λi=>i=cT) w1 W/\fx W cT (L++o.nN m (x.n.tdiv 16) k)) a6 a6 ⟨Mod.refl _ _,by simpa[o.nN] using fl⟩ ?_;have QV:=wW;have kJ:=oR;have e2:=bo;clear oR wW bo cN;rintro k _ S aA hk ⟨fU,et⟩;have oR:=fU.obj DF kJ;have wW:=fU.obj ap2 QV;have bo:=fU.obj ud e2;have ak:=(p4 fU).obj rN;have As:=Qc.ext Flat.ext (p4 fU);refine J ?_;apply I_<;>intro g1
 .have cb:k<(o.insts m).length:=Ad
  obtain⟨gp,rfl⟩:=Qc.addr;obtain⟨sG,iv⟩:=o.oe cb;have ve:=o.GH aL cb;obtain⟨a2,rfl⟩:=cA.addr;have adS:=cA.ext Flat.ext (p4 fU);refine J ?_;intro wn h2 gZ e8 eC;refine J ?_;intro aM fE bZ;have ah:Ext aA aM:=fE.ext e8 gZ;replace oR:=ah.obj oR;replace wW:=ah.obj wW;replace bo:=ah.obj bo;replace ak:=ah.obj ak;replace adS:=adS.ext Flat.ext ah;have gN:=et.ext ah;have jv:=fU.trans ah.mod;clear et As;refine J ?_;refine _C Ad ?_;refine J ?_;apply I_<;>intro g2
  .refine J ?_;intro aU aq;refine J ?_;refine J_ (um cT _ (o.cU m k) 1 _ _ aU (gN.ext aq) (by rw[iv]) rfl Ad) ?_;rintro _ bh ⟨q1,lQ⟩;refine J ?_;refine⟨cb,aK,(),trivial,(jv.trans aq.mod).trans lQ,?_⟩;rw[o.zX cb,if_pos g2,<-MV];exact q1
  .refine J ?_;refine⟨cb,aK,(),trivial,jv,?_⟩;rw[o.zX cb,if_neg g2,SN];exact gN
 .have gS:(o.insts m).length=k:=Ad
  rw[gS];refine J ?_;exact⟨et,ag.mod.trans fU⟩
def aiS(e:C_ o.Node)(v:B_)(b cT bL lh q p:Nat)(L:C_ Int)(m:o.Model)(w0 w:A_)(h:pX w0 b m q)(he:Ext w0 w)(mM:w0.heap.size<=cT)(aj:fx w cT L)(hK:xZ w bL lh b cT)(aL:o.ey m)(aP:o.fJ m q p)
  (aw:o.eS w0 v e)(af:o.ta (o.inner (m.procs[p]'(aP.ar)) (o.ev m)) e) :
  Du F.bC #[v,.func (.func F.EM) #[] #[.pointer (some ⟨bL,0,none⟩),.pointer (some ⟨lh,0,none⟩)]] w λ_ w'=>fx w' cT (L++o.j3 m q e e.length)/\Mod (λk=>k=cT) w w':=by
 obtain⟨aN,fs,rfl,aE⟩:=aw.form;have p4:∀{W},Mod (λk=>k=cT) w W->Ext w0 W:=λhm=>hm.ext he λk hk e=>Ad
 have hle:=af.len;refine bl E.bC ?_;refine J ?_;refine L_ 9 e.length [1,7,8] (λae:Bool=>[(4,.bool ae)]) false (λk ae W=>ae=o.q9 e k/\Mod (λi=>i=cT) w W/\fx W cT (L++o.j3 m q e k)) a6 a6 ⟨rfl,Mod.refl _ _,by simpa[o.j3] using aj⟩ ?_;rintro k ae S w1 hk ⟨rfl,sK,fl⟩;have sL:=aw.ext (p4 sK);have ZG:=hK.mod aj sK;refine J ?_;apply I_<;>intro g1
 .have cb:k<e.length:=Ad
  obtain⟨a,rfl⟩:=aw.addr;have eG:=(aw.at k cb).ok;have ny:=af.node k cb;refine J ?_;intro aA dC e5 ai bS;have et:=fl.ext ai;have fU:=sK.trans ai.mod;have akN:=ZG.ext ai;have n6:¬dC=cT:=λe=>by subst e;obtain⟨_,_,eB,_⟩:=et.ex;rw[bS] at eB;cases eB
  clear sL fl ZG;refine J ?_;refine V_ (first:=[]) (cap:=[.pointer (some ⟨bL,0,none⟩),.pointer (some ⟨lh,0,none⟩)]) Ci (ajA e[k] (o.q9 e k) b cT bL lh q p _ m w0 aA h (p4 fU) mM et akN aL aP ny.1 eG ?_) ?_
  .intro gx;cases k with
   | zero=>cases gx
   | succ j =>
    rw[o.Td Ad] at gx;have a1:=(af.node j Ad).1.self (by simpa using gx);exact aP.elem (by have:(o.inner (m.procs[p]'(aP.ar)) (o.ev m)).self=(m.procs[p]'(aP.ar)).over:=rfl;omega)
  rintro _ aM ⟨gN,jv⟩;have alY:=jv.obj n6 bS;clear bS;refine J ?_;refine⟨cb,aK,_,⟨rfl,trivial⟩,?_,fU.trans jv,?_⟩
  .rw[o.Td cb]
  .rw[o.PL cb,<-MV];exact gN
 .have gS:e.length=k:=Ad
  rw[gS];refine J ?_;exact⟨fl,sK⟩
def Fg(e:C_ o.Node)(v:B_)(b cT q p:Nat)(L:C_ Int)(m:o.Model)(w0 w:A_)(h:pX w0 b m q)(he:Ext w0 w)(mM:w0.heap.size<=cT)(aj:fx w cT L)(aL:o.ey m)(aP:o.fJ m q p)
  (aw:o.eS w0 v e)(af:o.ta (o.inner (m.procs[p]'(aP.ar)) (o.ev m)) e) :
  Du F.Jd #[.pointer (some ⟨b,0,none⟩),.map (some cT),v] w λ_ w'=>fx w' cT (L++o.j3 m q e e.length)/\Mod (λk=>k=cT) w w':=by
 refine bl E.Jd ?_;refine J ?_;intro w1 bL oR ag kJ;refine J ?_;intro aA lh wW ai QV;refine J ?_;refine J_ (aiS e v b cT bL lh q p L m w0 aA h ((he.trans ag).trans ai) mM ((aj.ext ag).ext ai) ⟨ai.obj kJ,QV⟩ aL aP aw af) ?_;rintro _ aM ⟨gN,jv⟩;refine J ?_;exact⟨gN,(ag.mod.trans ai.mod).trans jv⟩
def arZ(a:o.Act)(bK bY:B_)(b cT q p:Nat)(L:C_ Int)(m:o.Model)(w0 w:A_)(h:pX w0 b m q)(he:Ext w0 w)(mM:w0.heap.size<=cT)(aj:fx w cT L)(aL:o.ey m)(aP:o.fJ m q p)
  (U:o.eS w0 bK a.index)(aF:o.eS w0 bY a.value)(aY:o.nG (o.inner (m.procs[p]'(aP.ar)) (o.ev m)) a) :
  Du F.Je #[.pointer (some ⟨b,0,none⟩),.map (some cT),.agg (a.enc bK bY).toArray] w λ_ w'=>fx w' cT (L++o.tm m q a)/\Mod (λk=>k=cT) w w':=by
 obtain⟨b0,bz,bO,c1,bT,c2,bV,bu,b1,bB,eH,d0,dK,d1,eg,d2,eD,d3,eU,d4,b8,ci,rN,dB,cP,cA,_,_,_,_,Qc⟩:=h.form;have yX:=aY.kind;refine bl E.Je ?_;refine J ?_;intro w1 dF jt ag bI;have fl:=aj.ext ag;have jT:=he.trans ag;have ak:=jT.obj rN;obtain⟨es,ce,eB,_⟩:=fl.ex;have n5:¬dF=cT:=λe=>by subst e;rw[bI] at eB;cases eB
 clear eB;unfold o.Act.enc at bI;refine J ?_;apply I_<;>intro g2
 .refine J ?_;refine J_ (Fg a.index bK b cT q p L m w0 w1 h jT mM fl aL aP U (aY.item g2).2.2) ?_;rintro _ aA ⟨et,fU⟩;have u4:=fU.obj n5 bI;clear bI ak;refine J ?_;refine J_ (Fg a.value bY b cT q p _ m w0 aA h (fU.ext jT λk hk e=>Ad) mM et aL aP aF (aY.val Ad)) ?_;rintro _ aM ⟨gN,jv⟩;refine J ?_;refine⟨?_,(ag.mod.trans fU).trans jv⟩;unfold o.tm;rw[if_neg Ad,if_pos g2,<-MV];exact gN
 refine J ?_;apply I_<;>intro g4
 .obtain⟨fh,dO⟩:=aY.chan (.inl g4);have dE:a.to.toNat<m.ax.length:=dO;have FZ:=o.tv aL dE;have gG:a.to=(a.to.toNat:Nat):=Ad
  obtain⟨iV,eB⟩:=o.p1 dE;obtain⟨db,rfl⟩:=cP.addr;have Tu:=cP.ext Flat.ext jT;rw[gG] at bI;refine J ?_;intro aA ai;have u4:=ai.obj bI;refine J ?_;refine J_ (um cT L (o.b7 m a.to.toNat) 1 _ _ aA (fl.ext ai) (by rw[eB]) rfl Ad) ?_;rintro _ aM ⟨gN,jv⟩;have FQ:=jv.obj n5 u4;clear bI u4 ak;refine J ?_;refine J_ (Fg a.value bY b cT q p _ m w0 aM h (jv.ext (jT.trans ai) λk hk e=>Ad) mM gN aL aP aF (aY.val Ad)) ?_;rintro _ aU ⟨kN,j6⟩;refine J ?_;refine⟨?_,((ag.mod.trans ai.mod).trans jv).trans j6⟩;unfold o.tm;rw[if_neg Ad,if_neg g2,if_pos g4,<-MV];exact kN
 refine J ?_;apply I_<;>intro g5
 .obtain⟨fh,dO⟩:=aY.chan (.inr g5);have dE:a.to.toNat<m.ax.length:=dO;have gG:a.to=(a.to.toNat:Nat):=Ad
  rw[gG] at bI;refine J ?_;refine J_ (Up b cT q a.to.toNat L m w0 w1 h jT mM fl aL dE) ?_;rintro _ aA ⟨et,fU⟩;refine J ?_;refine⟨?_,ag.mod.trans fU⟩;unfold o.tm;rw[if_pos g5];exact et
 .refine J ?_;refine J_ (Fg a.value bY b cT q p _ m w0 w1 h jT mM fl aL aP aF (aY.val g5)) ?_;rintro _ aA ⟨et,fU⟩;refine J ?_;refine⟨?_,ag.mod.trans fU⟩;unfold o.tm;rw[if_neg g5,if_neg g2,if_neg g4,AF9];exact et
def auK(a:o.Act)(bK bY:B_)(b cT q p:Nat)(L:C_ Int)(m:o.Model)(w0 w:A_)(h:pX w0 b m q)(he:Ext w0 w)(mM:w0.heap.size<=cT)(aj:fx w cT L)(aL:o.ey m)(aP:o.fJ m q p)
  (U:o.eS w0 bK a.index)(aY:o.nG (o.inner (m.procs[p]'(aP.ar)) (o.ev m)) a) :
  Du F.Jf #[.pointer (some ⟨b,0,none⟩),.map (some cT),.agg (a.enc bK bY).toArray] w λ_ w'=>fx w' cT (L++o.jY m q a)/\Mod (λk=>k=cT) w w':=by
 have yX:=aY.kind;have au:=aP.au;have j4:=aP.zu aL;refine bl E.Jf ?_;refine J ?_;intro w1 dF jt ag bI;have fl:=aj.ext ag;have jT:=he.trans ag;obtain⟨es,ce,eB,_⟩:=fl.ex;have n5:¬dF=cT:=λe=>by subst e;rw[bI] at eB;cases eB
 clear eB;obtain⟨b8,ci,rfl,apq⟩:=U.form;unfold o.Act.enc at bI;refine J ?_;apply I_<;>intro g1
 .obtain⟨fh,v,aF,iw⟩:=aY.set g1;have dO:a.to.toNat<m.vars.length:=(List.getElem?_eq_some_iff.1 aF).1;have gG:a.to=(a.to.toNat:Nat):=Ad
  rw[gG] at bI;refine J ?_;refine J_ (HH b cT q a.to.toNat false false L m w0 w1 h jT mM fl aL au dO (λa=>by cases a)) ?_;rintro _ aA ⟨et,fU⟩;refine J ?_;refine⟨?_,ag.mod.trans fU⟩;unfold o.jY;rw[if_pos g1];have e:=o.ade (m:=m) (q:=q) (own:=false) (x:=⟨2,a.to⟩) rfl aF iw;unfold o.ef at e;rw[if_pos rfl] at e;rw[Bool.false_and,e] at et;exact et
 refine J ?_;apply I_<;>intro g2
 .obtain⟨fh,dO,AL⟩:=aY.item g2;have dE:a.to.toNat<m.vars.length:=dO;have gG:a.to=(a.to.toNat:Nat):=Ad
  rw[gG] at bI;have qL:o.jY m q a=o.mm m q a.to.toNat (o.pL a):=by unfold o.jY;rw[if_neg g1,if_pos g2]
  rw[qL];have Ko:=U.ext jT;refine J ?_;intro aA ai;replace bI:=ai.obj bI;replace Ko:=Ko.ext ai;refine J ?_;apply I_<;>intro g3
  .obtain⟨gp,rfl⟩:=U.addr;have ny:=(AL.node 0 Ad).1;have tS:=o.aeJ (a:=a) Ad;refine J ?_;refine K_ 0 rfl Ad ?_;refine J ?_;refine J_ (HH b cT q a.to.toNat true (decide ((a.index[0]' Ad).op=5)) L m w0 aA h (jT.trans ai) mM (fl.ext ai) aL au dE (λ_ a1=>?_)) ?_
   .have a1:=ny.self (by simpa using a1);exact aP.elem (by have:(o.inner (m.procs[p]'(aP.ar)) (o.ev m)).self=(m.procs[p]'(aP.ar)).over:=rfl;omega)
   rintro _ aM ⟨gN,jv⟩;rw[AJ2,<-tS] at gN;refine J ?_;exact⟨gN,(ag.mod.trans ai.mod).trans jv⟩
  .have tS:=o.aeI (a:=a) Ad;refine J ?_;refine J_ (HH b cT q a.to.toNat true false L m w0 aA h (jT.trans ai) mM (fl.ext ai) aL au dE (λ_ a1=>by cases a1)) ?_;rintro _ aM ⟨gN,jv⟩;rw[Bool.and_false,<-tS] at gN;refine J ?_;exact⟨gN,(ag.mod.trans ai.mod).trans jv⟩
 refine J ?_;apply I_<;>intro g3
 .obtain⟨fh,dO⟩:=aY.loc g3;have dE:a.to.toNat<(m.procs[p]'(aP.ar)).vars.length:=dO;have qL:o.jY m q a=o.gB (o.cU m q+1+a.to.toNat) 1:=by unfold o.jY;rw[if_neg g1,if_neg g2,if_pos g3]
  rw[qL];refine J ?_;intro aA ai;refine J ?_;refine J_ (F6 b q m aA (h.ext (jT.trans ai)) au) ?_;rintro _ aM ⟨rfl,ah⟩;refine⟨ah,?_⟩;refine J ?_;refine J_ (um cT L (o.cU m q+1+a.to.toNat) 1 _ _ aM ((fl.ext ai).ext ah) Ad rfl Ad) ?_;rintro _ aU ⟨kN,j6⟩;refine J ?_;exact⟨kN,((ag.mod.trans ai.mod).trans ah.mod).trans j6⟩
 refine J ?_;apply I_<;>intro g4
 .obtain⟨fh,dO⟩:=aY.chan (.inl g4);have dE:a.to.toNat<m.ax.length:=dO;have gG:a.to=(a.to.toNat:Nat):=Ad
  rw[gG] at bI;refine J ?_;refine J_ (Up b cT q a.to.toNat L m w0 w1 h jT mM fl aL dE) ?_;rintro _ aA ⟨et,fU⟩;refine J ?_;refine⟨?_,ag.mod.trans fU⟩;unfold o.jY;rw[if_neg g1,if_neg g2,if_neg g3,if_pos g4];exact et
 have g5:a.kind=5:=Ad
 .obtain⟨fh,dO⟩:=aY.chan (.inr g5);obtain⟨cK,h6⟩:=aY.recv g5;have rV:a.loc.toNat<(m.procs[p]'(aP.ar)).vars.length:=h6;have dE:a.to.toNat<m.ax.length:=dO;have gG:a.to=(a.to.toNat:Nat):=Ad
  rw[gG] at bI;refine J ?_;refine J_ (Up b cT q a.to.toNat L m w0 w1 h jT mM fl aL dE) ?_;rintro _ aA ⟨et,fU⟩;have av1:=fU.obj n5 bI;have df:=fU.ext jT λk hk e=>Ad
  clear bI;refine J ?_;intro aM ah;refine J ?_;refine J_ (F6 b q m aM (h.ext (df.trans ah)) au) ?_;rintro _ aU ⟨rfl,aq⟩;refine⟨aq,?_⟩;refine J ?_;refine J_ (um cT _ (o.cU m q+1+a.loc.toNat) 1 _ _ aU ((et.ext ah).ext aq) Ad rfl Ad) ?_;rintro _ bh ⟨q1,lQ⟩;refine J ?_;refine⟨?_,(((ag.mod.trans fU).trans ah.mod).trans aq.mod).trans lQ⟩;unfold o.jY;rw[if_neg g1,if_neg g2,if_neg g3,if_neg g4,if_pos g5,<-MV];exact q1
end Go.Proofs.R