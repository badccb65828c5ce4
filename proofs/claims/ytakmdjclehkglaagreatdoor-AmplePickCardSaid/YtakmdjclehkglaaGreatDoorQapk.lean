/- Parts. -/
import Derived.Test.YtakmdjclehkglaaGreatDoorQapj
set_option linter.all false
set_option maxRecDepth 8000
set_option maxHeartbeats 16000000
namespace o
def arb{m:Model}(h:(qj m).cJ=0):qj m=u0:=Tp (MQ h)
end o
namespace Go.Proofs.R
open Go Go.RowKit a8
theorem ah8(b:Nat)(w:A_):CallsD Tryz.prog F.g #[.pointer (some ⟨b,0,none⟩)] .returning w λe kS w'=>kS = .returning/\∃v,e = .returned v/\w'=w:=by
 refine AA3 lR Vr.g (args:=[_]) (Nat.le_of_ble_eq_true rfl) ?_;dsimp only[NW.g];refine oI ?_;dsimp only[qm];refine aa ?_;refine AC8 Ci ?_
 (repeat' first
 | assumption
 | exact Ext.refl _
 | refine Ext.trans ?_ Cd
 | refine Q_ Ad ?_
 | refine _K Cd ?_ rfl ?_
 | refine _E Cd ?_ rfl ?_
 | refine _N Cd ?_ Ad rfl ?_
 | refine _O Cd ?_ Ad rfl ?_
 | refine _P Cd ?_ Ad rfl ?_
 | refine _S Ad ?_
 | refine _Q (by first | assumption | omega) ?_
 | refine _R (by first | assumption | omega) ?_
 | refine _H Cd ?_
 | refine _I Cd ?_
 | simp -dsimp only[dg,cH,Nat.reduceAdd,Nat.reduceEqDiff,reduceIte,reduceCtorEq,dm])
def ah7(f:o.tc)(b:Nat)(w:A_)(ak:w.heap[b]? = some (.cells #[.I 0,.I 0,.I 0,.I 0] T.x)) :
  CallsD Tryz.prog F.g #[.pointer (some ⟨b,0,none⟩)] (.panicking (xS f)) w λe kS w'=>kS=(qm (.panicking (xS f))).2/\∃v,e = .returned v /\
   (w'.heap[b]? = some (.cells #[.I f.cJ,.I f.part,.I f.item,.I f.sub] T.x)/\∀w0,Ext w0 w->w0.heap.size<=b->Ext w0 w'):=by
 refine AA3 lR Vr.g (args:=[_]) (Nat.le_of_ble_eq_true rfl) ?_;dsimp only[NW.g];refine oI ?_;dsimp only[qm,xS];refine aa ?_;refine AC9 Ci ?_;refine aa ?_;refine AD0 rfl Ci ?_;refine aa ?_;intro w1 bx cN ag al;have HR:=cq ak;replace ak:=ag.obj ak;refine aa ?_;intro aA qf ao;refine aa ?_;exact⟨ao,λw0 e aE=>qf.ext (e.trans ag) aE⟩
def zh(cs:C_ B_)(m:o.Model)(w:A_)(h:o.dj w cs m)(aG:m.cv)(aQ:gJ w) :
  Du F.tr #[.agg cs.toArray] w λv w'=>v = .agg #[.I (o.check m).cJ,.I (o.check m).part,.I (o.check m).item,.I (o.check m).sub]/\Ext w w':=by
 obtain⟨b0,bz,bO,c1,bT,c2,bV,bu,b1,bB,rfl,_⟩:=h.form;refine AC4 lR afV.tr (args:=[_]) (Nat.le_of_ble_eq_true rfl) ?_;dsimp only[Vo.tr];refine oI ?_;refine aa ?_;intro w1 bx cN ag al;refine aa ?_;intro aA bQ c7 ai ao;replace al:=ai.obj al;have fQ:=cq al;have z5:=cq ao;refine aa ?_;refine AC5 Ci ?_;refine aa ?_;refine _e λaM cz p6 ah jv=>?_;replace al:=ah.obj al;replace ao:=ah.obj ao;have z2:=cq ao;have z3:=ai.size;have z4:=ag.size;have aR:=(ag.trans ai).trans ah;have O7:∀(f:o.tc) (w':A_) (S:Fr),Ext w w'->w'.heap[bQ]? = some (.cells #[.I 0,.I 0,.I 0,.I 0] T.x)->S 2 = .pointer (some ⟨bQ,0,none⟩)->f=o.check m ->
   Fa Tryz.prog [.iR 4 2] F.g #[.pointer (some ⟨bQ,0,none⟩)] (λv w'=>v = .agg #[.I (o.check m).cJ,.I (o.check m).part,.I (o.check m).item,.I (o.check m).sub]/\Ext w w') (.ht (xS f)) S w':=by
  rintro f w' S e an b5 rfl;refine AC7 (uE.of (ah7 (o.check m) bQ w' an) rfl ?_);rintro aU ⟨ak,he⟩;simp -dsimp only[dg,cH,Nat.reduceAdd,Nat.reduceEqDiff,reduceIte,reduceCtorEq,dm,b5];refine T_ ak (Ext.refl _) rfl ?_;simp -dsimp only[dg,cH,Nat.reduceAdd,Nat.reduceEqDiff,reduceIte,reduceCtorEq,dm];exact⟨aK,he _ e Ad⟩
 refine aa ?_;refine W_ (akx _ m cz aM h aR Ad aQ (gh.empty jv)) ?_ ?_;rotate_left
 .rintro c aU ⟨h1,rfl,bn,m4⟩;refine aa ?_;exact O7 _ aU _ bn (m4.obj Ad ao) rfl (by rw[o.check,if_pos h1])
 rintro _ aU ⟨h1,bn,m4,qt⟩;replace al:=m4.obj Ad al;replace ao:=m4.obj Ad ao;refine aa ?_;refine W_ (aq6 _ m cz aU h aG bn Ad aQ h1 qt) ?_ ?_;rotate_left
 .rintro c bh ⟨I,rfl,bC,m5⟩;refine aa ?_;exact O7 _ bh _ bC (m5.obj Ad ao) rfl (by rw[o.check,if_neg (by simpa using h1),if_pos I])
 rintro _ bh ⟨I,bC,m5,pJ⟩;replace al:=m5.obj Ad al;replace ao:=m5.obj Ad ao;refine aa ?_;refine W_ (ara _ m cz bh h aG bC Ad aQ pJ) ?_ ?_;rotate_left
 .rintro c bq ⟨ab,rfl,b6,m6⟩;refine aa ?_;exact O7 _ bq _ b6 (m6.obj Ad ao) rfl (by rw[o.check,if_neg (by simpa using h1),if_neg (by simpa using I)])
 rintro _ bq ⟨ab,b6,m6⟩;replace al:=m6.obj Ad al;replace ao:=m6.obj Ad ao;have me:o.check m=o.u0:=by rw[o.check,if_neg (by simpa using h1),if_neg (by simpa using I),o.arb ab]
 refine aa ?_;intro bH dw bZ;refine aa ?_;refine AC6 (uE.of (ah8 bQ bH) rfl ?_);rintro _ rfl;refine aa ?_;exact⟨by rw[me];rfl,dw.ext b6 Ad⟩
end Go.Proofs.R
namespace o
open Go
def dY.enc(b:dY):C_ B_:=[.int .i64 b.aV,.int .i64 b.U,.int .i64 b.kind]
def Cell.slot(x:Cell):C_ B_:=[.int .i64 x.sort,.int .i64 x.xW,.int .i64 x.place,.int .i64 x.kind]
def Cell.enc(x:Cell):C_ B_:=[.int .i64 x.sort,.int .i64 x.xW,.int .i64 x.place,.int .i64 x.aV,.int .i64 x.U,.int .i64 x.kind]
def ym:∀(y:dY),∀u∈y.enc,u.oneCell'=true:=by intro y u hu;simp[dY.enc] at hu;rcases hu with rfl | rfl | rfl<;>rfl
def ate:∀(y:Cell),∀u∈y.slot,u.oneCell'=true:=by intro y u hu;simp[Cell.slot] at hu;rcases hu with rfl | rfl | rfl | rfl<;>rfl
def EZ:∀(y:Cell),∀u∈y.enc,u.oneCell'=true:=by intro y u hu;simp[Cell.enc] at hu;rcases hu with rfl | rfl | rfl | rfl | rfl | rfl<;>rfl
end o
namespace Go.Proofs.R
open Go Go.RowKit a8
def apg(k:Int)(w:A_)(h:o.dX (k+1)):Du F.bn #[.I k] w λv w'=>v = .I (o.kindOf k)/\w'=w:=by
 unfold o.dX at h;refine bl E.bn ?_;unfold o.kindOf;refine aa ?_;apply I_<;>intro g1
 .refine aa ?_;exact⟨by rw[if_pos g1],aK⟩
 .refine aa ?_;exact⟨by rw[if_neg g1],aK⟩
def TE(k:Int)(w:A_)(h:o.dX (k+1)):Du F.LW #[.I k] w λv w'=>v = .I (o.kindOf k)/\w'=w:=by
 unfold o.dX at h;refine bl E.LW ?_;unfold o.kindOf;refine aa ?_;apply I_<;>intro g1
 .refine aa ?_;exact⟨by rw[if_pos g1],aK⟩
 .refine aa ?_;exact⟨by rw[if_neg g1,Int.add_comm],aK⟩
def SS(x:o.Var)(v:B_)(l:C_ o.Scalar)(w:A_)(aE:o.il w v l)(h:o.dX (x.scalar+1)) :
  Du F.db #[.agg x.enc.toArray,v] w λv w'=>v = .agg (o.e1 x.scalar x.aV x.U l).enc.toArray/\Ext w w':=by
 obtain⟨ae,c,rfl,_⟩:=aE.form;rw[o.z1];refine bl E.db ?_;refine aa ?_;intro w1 bx cN ag al;refine aa ?_;intro aA bQ c7 ai ao;replace al:=ai.obj al;have fQ:=cq al;have z2:=cq ao;have aH:=ag.trans ai;refine aa ?_;refine J_ (IB x _ l aA (aE.ext aH)) ?_;rintro _ aM ⟨rfl,ah⟩;replace al:=ah.obj al;replace ao:=ah.obj ao;have aR:=aH.trans ah;refine aa ?_;refine J_ (apg x.scalar aM h) ?_;rintro _ pc ⟨rfl,rfl⟩;refine aa ?_;intro aU dQ bo;refine aa ?_;exact⟨aK,dQ.ext aR (by have:=ag.size;omega)⟩
def apv(cs:C_ B_)(m:o.Model)(w:A_)(h:o.dj w cs m)(aG:m.cv)(aQ:gJ w) :
  Du F.IJ #[.agg cs.toArray] w λv w'=>v = .bool (decide ((o.check m).cJ=0))/\Ext w w':=by
 obtain⟨b0,bz,bO,c1,bT,c2,bV,bu,b1,bB,rfl,_⟩:=h.form;refine bl E.IJ ?_;refine aa ?_;intro w1 bx cN ag al;refine aa ?_;refine J_ (zh _ m w1 (h.ext ag) aG (aQ.ext ag)) ?_;rintro _ aA ⟨rfl,ai⟩;refine aa ?_;refine Y_ (v:=.I (o.check m).cJ) rfl ?_;refine aa ?_;exact⟨aK,ag.trans ai⟩
def aky(cs:C_ B_)(m:o.Model)(w:A_)(h:o.dj w cs m)(aG:m.cv) :
  Du F.LV #[.agg cs.toArray] w λv w'=>v = .bool (decide ((o.check m).cJ=0))/\Ext w w':=by
 obtain⟨b0,bz,bO,c1,bT,c2,bV,bu,b1,bB,rfl,_⟩:=h.form;refine bl E.LV ?_;refine aa ?_;intro w1 bx cN ag al;refine aa ?_;refine J_ (Hm _ m w1 (h.ext ag) aG) ?_;rintro _ aA ⟨rfl,ai⟩;unfold uZ;refine aa ?_;refine Y_ (v:=.I (o.check m).cJ) rfl ?_;refine aa ?_;exact⟨aK,ag.trans ai⟩
end Go.Proofs.R
namespace a8
open Go Go.RowKit
def iO.congr{α:Type}{enc:α->C_ B_}{e:F_}{sz base n:Nat}{w:A_}{vs uy:Nat->H_ Addr×Nat×Nat}{xs HL:Nat->C_ α}(h:iO enc e sz base w n vs xs)(aF:∀i,i<n->vs i=uy i)(af:∀i,i<n->xs i=HL i):iO enc e sz base w n uy HL :=
 ⟨λi U=>by rw[<-aF i U,<-af i U];exact h.own i U,λi j k U az ct he=>by rw[<-aF j az];rw[<-aF i U] at he;exact h.apart i j k U az ct he⟩
def Fh{S:Fr}{t:Nat}{n:Int}(h:S t = .I n):gC S ((List.range 1).map λi=>(i*1,1)) [(0,.tmp t)] [.I 0]=some [.I n]:=by
 simp[gC,lay,dc,h,Value.cells,List.range,List.range.loop]
structure eR(cF:List TypeId)(w w':World):Prop where
 size:w.heap.size<=w'.heap.size
 cy:∀(k:Nat) (c:Array Value) (t:TypeId),w.heap[k]? = some (.cells c t)->t∉cF->w'.heap[k]? = some (.cells c t)
section
variable{cF:List TypeId}{a b w w':World}
def eR.refl:eR cF w w:=⟨EC _,λ_ _ _ h _=>h⟩
def eR.trans{c:A_}(h:eR cF a b)(k:eR cF b c):eR cF a c:=⟨Nn h.size k.size,λi c t an aB=>k.cy i c t (h.cy i c t an aB) aB⟩
theorem eR.ext(h:Ext a b):eR cF a b:=⟨h.size,λ_ _ _ an _=>h.obj an⟩
def eR.mod{A:Nat->Prop}(h:Mod A a b)(dd:∀(k:Nat) (c:Array B_) (t:F_),a.heap[k]? = some (.cells c t)->A k->t∈cF):eR cF a b:=⟨h.size,λk c t an aB=>h.obj (λhk=>aB (dd k c t an hk)) an⟩
def eR.wr{k:Nat}{c:Array B_}{t:F_}{f:Nat×Nat}(h:du k a b)(an:a.heap[k]? = some (.cells c t f))(aB:t∈cF):eR cF a b:=eR.mod (h.mod (A:=λi=>i=k) rfl) λi iQ hW qR e=>by
 subst e;rw[an] at qR;injection qR with qR;injection qR with _ e;exact e ▸ aB
def aJ.iy{α:Type}{enc:α->C_ B_}{e:F_}{sz base:Nat}{v:B_}{xs:C_ α}(h:aJ enc e sz base a v xs)(k:eR cF a b)(he:e∉cF):aJ enc e sz base b v xs:=by
 refine⟨h.1,?_⟩;rcases h.2 with aw | ⟨g,cap,cur,rfl,ak,aG,rest⟩
 .exact .inl aw
 .exact .inr ⟨g,cap,cur,rfl,ak,k.cy _ _ _ aG he,rest⟩
end
end a8
namespace o
structure hi where
 V:List Int
 C:List Int
 da:List Int
 n:Nat
 L:List Int
 H:List Int
 Z:List Cell
def hi.of(V C da:C_ Int)(cs:C_ Cell):hi:=⟨V,C,da,cs.length,cs.map (·.aV),cs.map (·.U),cs⟩
def hi.rows(s:hi):Nat->C_ Int:=λi=>if i=0 then s.V else if i=1 then s.C else if i=2 then s.da else if i=3 then s.L else s.H
end o
namespace Go.Proofs.R
open Go Go.RowKit a8
def tY:C_ F_:=[T.a,T.r,T.h,T.tk]
structure lb(w1:World)(bL bs:Nat)(s:o.hi)(W:World):Prop where
 mod:Mod (λk=>k=bL\/k=bs) w1 W
 ex:∃(vs:Nat->fy) (u:fy),W.heap[bL]? = some (.cells #[ck (vs 0),ck (vs 1),ck (vs 2),.int .i64 s.n,ck (vs 3),ck (vs 4)] T.h)/\iO bX T.a 1 w1.heap.size W 5 vs s.rows /\
  W.heap[bs]? = some (.cells #[ck u] T.tk)/\aJ o.Cell.slot T.r 4 w1.heap.size W (ck u) s.Z
def lb.move{w1:A_}{bL bs:Nat}{s:o.hi}{W b3:A_}{A:Nat->Prop}(h:lb w1 bL bs s W)(m:Mod A W b3)(dd:∀(k:Nat) (c:Array B_) (t:F_),W.heap[k]? = some (.cells c t)->t∈tY->¬A k)(hQ:∀k,A k->w1.heap.size<=k):lb w1 bL bs s b3:=by
 obtain⟨vs,u,h1,I,ab,aC⟩:=h.ex;refine⟨h.mod.comp m (λ_ _ a=>a) λk hk a=>absurd (hQ k a) Ad,vs,u,m.obj (dd _ _ _ h1 By) h1,I.mod m λi k U hk=>?_,m.obj (dd _ _ _ ab By) ab,aC.mod m λk hk=>?_⟩
 .obtain⟨cur,an⟩:=(I.own i U).cy k hk;exact dd _ _ _ an By
 .obtain⟨cur,an⟩:=aC.cy k hk;exact dd _ _ _ an By
theorem lb.ext{w1:A_}{bL bs:Nat}{s:o.hi}{W b3:A_}(h:lb w1 bL bs s W)(e:Ext W b3):lb w1 bL bs s b3:=h.move (A:=λ_=>False) e.mod (λ_ _ _ _ _ h=>h) λ_ h=>h.elim
structure oG(w1:World)(s:o.hi)(x:o.dY)(gb:Fr)(w0:World)(vs:Nat->fy)(a33:Addr)(d25 d26 d31 d32 d33:Bool)(S:Fr)(w:World):Prop where
 jq:∀t,t∉[25,26,31,32,33,34]->S t=gb t
 mod:Mod (λk=>(ck (vs 3)).ownBlock=some k\/(ck (vs 4)).ownBlock=some k) w0 w
 rows:∃v3 v4,iO bX T.a 1 w1.heap.size w 5 (fG (fG vs 3 v3) 4 v4) (fG (fG s.rows 3 (if d26 then s.L++[x.aV] else s.L)) 4 (if d32 then s.H++[x.U] else s.H))/\(d26=false->v3=vs 3)/\(d32=false->v4=vs 4) /\
  (d26=true->S 26=ck v3)/\(d32=true->S 32=ck v4)
 ot:d25=true->d26=false->∃b,S 25 = .slice (some ⟨b,0,none⟩) 1 1/\w0.heap.size<=b/\w.heap[b]? = some (.cells #[.int .i64 x.aV] T.a)
 Hh:d31=true->d32=false->∃b,S 31 = .slice (some ⟨b,0,none⟩) 1 1/\w0.heap.size<=b/\w.heap[b]? = some (.cells #[.int .i64 x.U] T.a)
 Hi:d33=true->S 33 = .pointer (some a33)
section
variable{w1 w0 w:World}{s:o.hi}{x:o.dY}{gb S:Fr}{vs:Nat->fy}{a33:Addr}{d25 d26 d31 d32 d33:Bool}{K:Value->World->Prop}
def oG.ac9(h:oG w1 s x gb w0 vs a33 false false d31 d32 d33 S w)(wO:gb 24 = .I x.aV)(hk:∀v w',oG w1 s x gb w0 vs a33 true false d31 d32 d33 (put S (some 25) v) w'->K v w') :
  oz Tryz.prog (.kk T.a 1 1 [.I 0] [(0,.tmp 24)]) S w K:=by
 have he:Ext w (w.alloc (.cells #[.I x.aV] T.a)):=(Ext.refl w).alloc _;refine z6 (Fh (by rw[h.jq 24 By,wO])) (hk _ _ ⟨λt aB=>?_,h.mod.trans he.mod,?_,λ_ _=>⟨_,by simp[gO,bD],h.mod.size,heap_alloc_new w _⟩,λa b=>?_,λa=>by rw[gO,bD,if_neg By];exact h.Hi a⟩)
 .rw[gO,bD,if_neg (by intro e;subst e;simp at aB)];exact h.jq t aB
 .obtain⟨v3,v4,h1,I,ab,aC,a1⟩:=h.rows;exact⟨v3,v4,h1.ext he,I,ab,λe=>(by cases e),λe=>by rw[gO,bD,if_neg By];exact a1 e⟩
 .obtain⟨b,h1,I,ab⟩:=h.Hh a b;exact⟨b,by rw[gO,bD,if_neg By];exact h1,I,he.obj ab⟩
def oG.S3(h:oG w1 s x gb w0 vs a33 d25 d26 false false d33 S w)(akJ:gb 30 = .I x.U)(hk:∀v w',oG w1 s x gb w0 vs a33 d25 d26 true false d33 (put S (some 31) v) w'->K v w') :
  oz Tryz.prog (.kk T.a 1 1 [.I 0] [(0,.tmp 30)]) S w K:=by
 have he:Ext w (w.alloc (.cells #[.I x.U] T.a)):=(Ext.refl w).alloc _;refine z6 (Fh (by rw[h.jq 30 By,akJ])) (hk _ _ ⟨λt aB=>?_,h.mod.trans he.mod,?_,λa b=>?_,λ_ _=>⟨_,by simp[gO,bD],h.mod.size,heap_alloc_new w _⟩,λa=>by rw[gO,bD,if_neg By];exact h.Hi a⟩)
 .rw[gO,bD,if_neg (by intro e;subst e;simp at aB)];exact h.jq t aB
 .obtain⟨v3,v4,h1,I,ab,aC,a1⟩:=h.rows;exact⟨v3,v4,h1.ext he,I,ab,λe=>by rw[gO,bD,if_neg By];exact aC e,λe=>by cases e⟩
 .obtain⟨b,h1,I,ab⟩:=h.ot a b;exact⟨b,by rw[gO,bD,if_neg By];exact h1,I,he.obj ab⟩
def oG.ON(h:oG w1 s x gb w0 vs a33 true false d31 d32 d33 S w)(akI:gb 22=ck (vs 3))(cu:∀i k,i<5->(ck (vs i)).ownBlock=some k->k<w0.heap.size)(ak:w1.heap.size<=w0.heap.size)(hm:s.L.length<=100000)
  (hk:∀v w',oG w1 s x gb w0 vs a33 true true d31 d32 d33 (put S (some 26) v) w'->K v w') :
  oz Tryz.prog (.app T.b T.a 1 8 (.tmp 22) (.tmp 25)) S w K:=by
 obtain⟨b,bF,aH,aR⟩:=h.ot rfl rfl;obtain⟨v3,v4,h1,I,ab,aC,a1⟩:=h.rows;obtain rfl:=I rfl;show zC Tryz.prog T.b T.a 1 8 (S 22) (S 25) w K;rw[h.jq 22 By,akI,bF];have w6:=h.mod.size;refine iO.app (vs:=fG (fG vs 3 (vs 3)) 4 v4) (xs:=fG (fG s.rows 3 (if false=true then s.L++[x.aV] else s.L)) 4 (if d32=true then s.H++[x.U] else s.H)) (y:=x.aV) 3 By h1 (λ_=>rfl) (im aR) hA (by simp[fG];omega) (by simp[fG];unfold maxLen;omega) Ad λbU w' aQ aG _=>?_;have aL:Mod (λk=>(ck (vs 3)).ownBlock=some k) w w':=Mod.grown aG λk hk=>hk;refine hk _ _ ⟨λt aB=>?_,h.mod.trans (aL.BI λk hk=>.inl hk),?_,λ_ e=>(by cases e),λa b=>?_,λa=>by rw[gO,bD,if_neg By];exact h.Hi a⟩
 .rw[gO,bD,if_neg (by intro e;subst e;simp at aB)];exact h.jq t aB
 .refine⟨bU,v4,aQ.congr (λi U=>?_) (λi U=>?_),λe=>(by cases e),ab,λ_=>by simp[gO,bD],λe=>by rw[gO,bD,if_neg By];exact a1 e⟩
  .unfold fG;by_cases a:i=3
   .subst a;simp
   .simp[a]
  .unfold fG;by_cases a:i=3
   .subst a;simp
   .simp[a]
 .obtain⟨fS,h1,I,ab⟩:=h.Hh a b;exact⟨fS,by rw[gO,bD,if_neg By];exact h1,I,aL.obj (λe=>by have:=cu 3 fS By e;omega) ab⟩
def oG.OO(h:oG w1 s x gb w0 vs a33 true true true false d33 S w)(P2:gb 28=ck (vs 4))(ak:w1.heap.size<=w0.heap.size)(hm:s.H.length<=100000)
  (hk:∀v w',oG w1 s x gb w0 vs a33 true true true true d33 (put S (some 32) v) w'->K v w') :
  oz Tryz.prog (.app T.b T.a 1 8 (.tmp 28) (.tmp 31)) S w K:=by
 obtain⟨b,bF,aH,aR⟩:=h.Hh rfl rfl;obtain⟨v3,v4,h1,I,ab,aC,a1⟩:=h.rows;obtain rfl:=ab rfl;show zC Tryz.prog T.b T.a 1 8 (S 28) (S 31) w K;rw[h.jq 28 By,P2,bF];have w6:=h.mod.size;refine iO.app (vs:=fG (fG vs 3 v3) 4 (vs 4)) (xs:=fG (fG s.rows 3 (if true=true then s.L++[x.aV] else s.L)) 4 (if false=true then s.H++[x.U] else s.H)) (y:=x.U) 4 By h1 (λ_=>rfl) (im aR) hA (by simp[fG];omega) (by simp[fG];unfold maxLen;omega) Ad λbU w' aQ aG _=>?_;have aL:Mod (λk=>(ck (vs 4)).ownBlock=some k) w w':=Mod.grown aG λk hk=>hk;refine hk _ _ ⟨λt aB=>?_,h.mod.trans (aL.BI λk hk=>.inr hk),?_,λ_ e=>(by cases e),λ_ e=>(by cases e),λa=>by rw[gO,bD,if_neg By];exact h.Hi a⟩
 .rw[gO,bD,if_neg (by intro e;subst e;simp at aB)];exact h.jq t aB
 .refine⟨v3,bU,aQ.congr (λi U=>?_) (λi U=>?_),λe=>(by cases e),λe=>(by cases e),λe=>by rw[gO,bD,if_neg By];exact aC e,λ_=>by simp[gO,bD]⟩
  .unfold fG;by_cases a:i=4
   .subst a;simp
   .simp[a]
  .unfold fG;by_cases a:i=4
   .subst a;simp
   .simp[a]
def oG.Ub(h:oG w1 s x gb w0 vs a33 d25 d26 d31 d32 d33 S w):oG w1 s x gb w0 vs a33 d25 d26 d31 d32 true (cc S 33 (.pointer (some a33))) w:=by
 have q:∀t,t≠33->cc S 33 (.pointer (some a33)) t=S t:=λt aB=>by rw[bD,if_neg aB]
 refine⟨λt aB=>?_,h.mod,?_,λa b=>?_,λa b=>?_,λ_=>by simp[bD]⟩
 .rw[q t (by intro e;subst e;simp at aB)];exact h.jq t aB
 .obtain⟨v3,v4,h1,I,ab,aC,a1⟩:=h.rows;exact⟨v3,v4,h1,I,ab,λe=>by rw[q _ By];exact aC e,λe=>by rw[q _ By];exact a1 e⟩
 .obtain⟨fS,h1,I⟩:=h.ot a b;exact⟨fS,by rw[q _ By];exact h1,I⟩
 .obtain⟨fS,h1,I⟩:=h.Hh a b;exact⟨fS,by rw[q _ By];exact h1,I⟩
end
end Go.Proofs.R
namespace Go.Proofs.R
open Go Go.RowKit a8
def la(b:Nat)(w w':A_):Prop := ∀j,j<3->w'.cell? (Addr.add ⟨b,0,none⟩ j)=w.cell? (Addr.add ⟨b,0,none⟩ j)
def la.refl{b:Nat}{w:A_}:la b w w:=λ_ _=>rfl
def la.trans{b:Nat}{w w' bM:A_}(h:la b w w')(k:la b w' bM):la b w bM:=λj az=>(k j az).trans (h j az)
theorem la.of{b:Nat}{w w':A_}{bz c1 c2:B_}{l sR:C_ B_}{t hW:F_}{f uY:Nat×Nat}(h:w.heap[b]? = some (.cells (bz :: c1 :: c2 :: l).toArray t f))(br:w'.heap[b]? = some (.cells (bz :: c1 :: c2 :: sR).toArray hW uY)):la b w w':=λj az=>by
 have:j=0\/j=1\/j=2:=Ad
 rcases this with rfl | rfl | rfl
 .rw[fM h (v:=bz) rfl,fM br (v:=bz) rfl]
 .rw[fM h (v:=c1) rfl,fM br (v:=c1) rfl]
 .rw[fM h (v:=c2) rfl,fM br (v:=c2) rfl]
theorem la.ext{b:Nat}{w w':A_}(he:Ext w w')(h:b<w.heap.size):la b w w':=λj _=>by
 rw[add_eq];simp only[World.cell?,he.heap h]
def XG:eo:=(.take (fq 21 4 3) (.take (eE 22 21) (.take (fq 23 0 11) (.take (eE 24 23) (.take (fq 27 5 3) (.take (eE 28 27) (.take (fq 29 1 11) (.take (eE 30 29) (.alt (dr 25 (.kk T.a 1 1 [(.int .i64 0)] [(0,(aO 24))])) (.alt (dr 26 (.app T.b T.a 1 8 (aO 22) (aO 25))) (.take (fq 33 4 3) (.alt (dr 31 (.kk T.a 1 1 [(.int .i64 0)] [(0,(aO 30))])) (.ff (dr 32 (.app T.b T.a 1 8 (aO 28) (aO 31))) (.ff (ys 33 26) (.take (fq 34 5 3) (.ff (ys 34 32) .done .nil)) .nil) .nil) .nil)) (.alt (dr 31 (.kk T.a 1 1 [(.int .i64 0)] [(0,(aO 30))])) (.alt (dr 26 (.app T.b T.a 1 8 (aO 22) (aO 25))) (.take (fq 33 4 3) (.ff (dr 32 (.app T.b T.a 1 8 (aO 28) (aO 31))) (.ff (ys 33 26) (.take (fq 34 5 3) (.ff (ys 34 32) .done .nil)) .nil) .nil)) .nil) .nil)) (.alt (dr 31 (.kk T.a 1 1 [(.int .i64 0)] [(0,(aO 30))])) (.alt (dr 25 (.kk T.a 1 1 [(.int .i64 0)] [(0,(aO 24))])) (.alt (dr 26 (.app T.b T.a 1 8 (aO 22) (aO 25))) (.take (fq 33 4 3) (.ff (dr 32 (.app T.b T.a 1 8 (aO 28) (aO 31))) (.ff (ys 33 26) (.take (fq 34 5 3) (.ff (ys 34 32) .done .nil)) .nil) .nil)) .nil) .nil) .nil))))))))))
def mZ{S:Fr}{n m:Nat}{v u:B_}(h:S m=u)(aw:m≠n):cc S n v m=u:=by rw[bD,if_neg aw];exact h
def agA{w1 w:A_}{bL bs bW:Nat}{s:o.hi}{x:o.dY}{S:Fr}{cL:Fr->A_->Prop}(ct:bL≠bs)(hQ:bL<w1.heap.size/\bs<w1.heap.size)(aj:lb w1 bL bs s w)(ab:S 3 = .pointer (some ⟨bL,0,none⟩))(CJ:S 11 = .pointer (some ⟨bW,0,none⟩))
  (an:w.heap[bW]? = some (.cells x.enc.toArray T.i))(hm:s.L.length<=100000)(Rp:s.H.length<=100000)
  (hk:∀aZ w',lb w1 bL bs ⟨s.V,s.C,s.da,s.n,s.L++[x.aV],s.H++[x.U],s.Z⟩ w'->eR tY w w'->la bL w w'->cL aZ w'):∃C:A_->Prop,C w/\cX Tryz.prog C XG S w cL:=by
 obtain⟨vs,u,g1,g2,g3,g4⟩:=aj.ex;have DF:=g2.not g1 By;have o5:=g2.not an By;refine⟨Mod (λk=>(ck (vs 3)).ownBlock=some k\/(ck (vs 4)).ownBlock=some k) w,Mod.refl _ _,?_⟩;have rx:∀w',Mod (λk=>(ck (vs 3)).ownBlock=some k\/(ck (vs 4)).ownBlock=some k) w w'->w'.heap[bL]? = some (.cells #[ck (vs 0),ck (vs 1),ck (vs 2),.I s.n,ck (vs 3),ck (vs 4)] T.h) :=
  λw' m=>m.obj (λh=>h.elim (DF 3 By) (DF 4 By)) g1
 have eI:∀w',Mod (λk=>(ck (vs 3)).ownBlock=some k\/(ck (vs 4)).ownBlock=some k) w w'->w'.heap[bW]? = some (.cells x.enc.toArray T.i) :=
  λw' m=>m.obj (λh=>h.elim (o5 3 By) (o5 4 By)) an
 have dq:w1.heap.size<=w.heap.size:=aj.mod.size;unfold XG;refine cX.jn ab ?_;refine cX.ld (v:=ck (vs 3)) (by simp[bD];rfl) (λw' m=>fM (rx w' m) rfl) ?_;refine cX.jn (a:=⟨bW,0,none⟩) (by simp[bD,CJ]) ?_;refine cX.ld (v:=.I x.aV) (by simp[bD];rfl) (λw' m=>fM (eI w' m) rfl) ?_;refine cX.jn (a:=⟨bL,0,none⟩) (by simp[bD,ab]) ?_;refine cX.ld (v:=ck (vs 4)) (by simp[bD];rfl) (λw' m=>fM (rx w' m) rfl) ?_;refine cX.jn (a:=⟨bW,0,none⟩) (by simp[bD,CJ]) ?_;refine cX.ld (v:=.I x.U) (by simp[bD];rfl) (λw' m=>fM (eI w' m) rfl) ?_;generalize rM:cc _ 30 _=rz;have aR:rz 3 = .pointer (some ⟨bL,0,none⟩):=by subst rM;simp[bD,ab]
 have Py:rz 22=ck (vs 3):=by subst rM;simp[bD]
 have Jh:rz 24 = .I x.aV:=by subst rM;simp[bD]
 have Pz:rz 28=ck (vs 4):=by subst rM;simp[bD]
 have PA:rz 30 = .I x.U:=by subst rM;simp[bD]
 have dK:∀i,vs i=fG (fG vs 3 (vs 3)) 4 (vs 4) i:=λi=>by
  unfold fG;by_cases a:i=4
  .subst a;simp
  .by_cases b:i=3
   .subst b;simp
   .simp[a,b]
 have eg:∀i,s.rows i=fG (fG s.rows 3 (if false=true then s.L++[x.aV] else s.L)) 4 (if false=true then s.H++[x.U] else s.H) i:=λi=>by
  unfold fG;by_cases a:i=4
  .subst a;simp[o.hi.rows]
  .by_cases b:i=3
   .subst b;simp[o.hi.rows]
   .simp[a,b]
 have t0:oG w1 s x rz w vs (Addr.add ⟨bL,0,none⟩ 4) false false false false false rz w :=
  ⟨λ_ _=>rfl,Mod.refl _ _,⟨vs 3,vs 4,g2.congr (λi U=>dK i) (λi U=>eg i),
   λ_=>rfl,λ_=>rfl,λe=>(by cases e),λe=>(by cases e)⟩,λe=>(by cases e),λe=>(by cases e),λe=>(by cases e)⟩
 have cu:∀i k,i<5->(ck (vs i)).ownBlock=some k->k<w.heap.size:=λi k U he=>(g2.lt i k U he).2;have fin:∀S aA,oG w1 s x rz w vs (Addr.add ⟨bL,0,none⟩ 4) true true true true true S aA->cX Tryz.prog (Mod (λk=>(ck (vs 3)).ownBlock=some k\/(ck (vs 4)).ownBlock=some k) w) (.ff (ys 33 26) (.take (fq 34 5 3) (.ff (ys 34 32) .done .nil)) .nil) S aA cL:=by
  intro S aA t;obtain⟨v3,v4,c5,_,_,hg,r5⟩:=t.rows;have af:=rx aA t.mod;refine cX.u1 ?_;show wa (S 33) (S 26) aA _;rw[t.Hi rfl,hg rfl];refine T7 λnb=>_G af CC rfl λaM fE ba=>?_;show cX _ _ _ S _ _;refine cX.jn (a:=⟨bL,0,none⟩) (by rw[t.jq 3 By,aR]) ?_;refine cX.u1 ?_;show wa (cc S 34 _ 34) (cc S 34 _ 32) aM _;rw[show cc S 34 (.pointer (some (Addr.add ⟨bL,0,none⟩ 5))) 34 = .pointer (some (Addr.add ⟨bL,0,none⟩ 5)) from by simp[bD],mZ (r5 rfl) By];refine T7 λnb=>_G ba CC rfl λaU dQ bo=>?_;have hw:=fE.trans dQ;have ka:=c5.not af By;obtain⟨us,awD⟩:∃us,us=ck u:=⟨_,rfl⟩;refine hk _ _ ⟨?_,fG (fG vs 3 v3) 4 v4,u,?_,(c5.mod (hw.mod (A:=λk=>k=bL) rfl) λi k U hk e=>ka i U (by rw[<-e];exact hk)).congr (λ_ _=>rfl) (λi U=>?_),?_,?_⟩ ?_ ?_
  .refine(aj.mod.comp t.mod (B:=λk=>k=bL\/k=bs) (λ_ _ a=>a) λi U a=>?_).trans (hw.mod (A:=λk=>k=bL\/k=bs) (.inl rfl));rcases a with a | a
   .have:=(g2.lt 3 i By a).1;omega
   .have:=(g2.lt 4 i By a).1;omega
  .exact bo
  .have:i=0\/i=1\/i=2\/i=3\/i=4:=Ad
   rcases this with rfl | rfl | rfl | rfl | rfl<;>simp[fG,o.hi.rows]
  .exact hw.obj (t.mod.obj (λh=>h.elim (g2.not g3 By 3 By) (g2.not g3 By 4 By)) g3) (Ne.symm ct)
  .refine(g4.mod t.mod λk hk h=>?_).mod (hw.mod (A:=λk=>k=bL) rfl) λk hk e=>?_
   .obtain⟨cur,hM⟩:=g4.cy k hk;exact h.elim (g2.not hM By 3 By) (g2.not hM By 4 By)
   .obtain⟨cur,hM⟩:=g4.cy k hk;subst e;rw[g1] at hM;injection hM with hM;injection hM with _ e;exact absurd e By
  .refine(eR.mod t.mod λk c hW an a=>?_).trans (eR.wr hw af By);rcases a with a | a
   .obtain⟨cur,hM⟩:=(g2.own 3 By).cy k a;rw[an] at hM;injection hM with hM;injection hM with _ e;rw[e];decide
   .obtain⟨cur,hM⟩:=(g2.own 4 By).cy k a;rw[an] at hM;injection hM with hM;injection hM with _ e;rw[e];decide
  .exact la.of g1 bo
 clear hk;refine⟨lH.e (t0.ac9 Jh λv2 aA t2=>⟨t2.mod,?_,?_,trivial⟩),lH.e (t0.S3 PA λv2 aA t2=>⟨t2.mod,?_⟩),trivial⟩
 .refine lH.e (t2.ON Py cu dq hm λv3 aM t3=>⟨t3.mod,?_⟩);refine cX.jn (a:=⟨bL,0,none⟩) (by rw[t3.jq 3 By,aR]) ?_;refine cX.zV (lH.e (t3.Ub.S3 PA λv4 aU t4=>⟨t4.mod,?_⟩));exact cX.u1 (ns.e (t4.OO Pz dq Rp λv5 bh t5=>fin _ _ t5))
 .refine lH.e (t2.S3 PA λv3 aM t3=>⟨t3.mod,?_⟩);refine cX.zV (lH.e (t3.ON Py cu dq hm λv4 aU t4=>⟨t4.mod,?_⟩));refine cX.jn (a:=⟨bL,0,none⟩) (by rw[t4.jq 3 By,aR]) ?_;exact cX.u1 (ns.e (t4.Ub.OO Pz dq Rp λv5 bh t5=>fin _ _ t5))
 .refine cX.zV (lH.e (t2.ac9 Jh λv3 aM t3=>⟨t3.mod,?_⟩));refine cX.zV (lH.e (t3.ON Py cu dq hm λv4 aU t4=>⟨t4.mod,?_⟩));refine cX.jn (a:=⟨bL,0,none⟩) (by rw[t4.jq 3 By,aR]) ?_;exact cX.u1 (ns.e (t4.Ub.OO Pz dq Rp λv5 bh t5=>fin _ _ t5))
end Go.Proofs.R
namespace Go.Proofs.R
open Go Go.RowKit a8
section
variable{w1:World}{bL bs:Nat}{s:o.hi}{W b3:World}
def atd{vs:Nat->fy}{u:fy}{qG lG sm:A_}{y:o.Cell}{bU:B_}(ct:bL≠bs)(hm:Mod (λk=>k=bL\/k=bs) w1 W)(g1:W.heap[bL]? = some (.cells #[ck (vs 0),ck (vs 1),ck (vs 2),.I s.n,ck (vs 3),ck (vs 4)] T.h))(g2:iO bX T.a 1 w1.heap.size W 5 vs s.rows)
  (g3:W.heap[bs]? = some (.cells #[ck u] T.tk))(g4:aJ o.Cell.slot T.r 4 w1.heap.size W (ck u) s.Z)(he:Ext W qG)(aG:qG.grownBy lG (ck u).ownBlock)(aQ:aJ o.Cell.slot T.r 4 w1.heap.size lG bU (s.Z++[y]))
  (hw:du bs lG sm)(an:sm.heap[bs]? = some (.cells #[bU] T.tk)):lb w1 bL bs ⟨s.V,s.C,s.da,s.n,s.L,s.H,s.Z++[y]⟩ sm/\eR tY W sm/\la bL W sm:=by
 obtain⟨aN,cap,rfl,_⟩:=aQ.form;have zi:Mod (λk=>(ck u).ownBlock=some k) qG lG:=Mod.grown aG λk hk=>hk;have mn:∀{k:Nat} {c:Array B_} {t:F_},W.heap[k]? = some (.cells c t)->t≠T.r->¬(ck u).ownBlock=some k:=λ{k c t} hk aB e=>by
  obtain⟨cur,h⟩:=g4.cy k e;rw[hk] at h;injection h with h;injection h with _ h;exact aB h
 have m6:∀{k:Nat} {c:Array B_} {t:F_},W.heap[k]? = some (.cells c t)->t≠T.r->lG.heap[k]? = some (.cells c t):=λhk aB=>zi.obj (mn hk aB) (he.obj hk);have uc:Mod (λk=>k=bs) lG sm:=hw.mod rfl;refine⟨⟨?_,vs,(aN,_,cap),uc.obj ct (m6 g1 By),?_,an,aQ.mod uc λk hk e=>?_⟩,?_,la.of g1 (uc.obj ct (m6 g1 By))⟩
 .have h1:Mod (λk=>k=bL\/k=bs) w1 qG:=hm.comp (A':=λ_=>False) he.mod (λ_ _ a=>a) λ_ _ a=>a.elim;have I:Mod (λk=>k=bL\/k=bs) w1 lG:=h1.comp zi (λ_ _ a=>a) λi U a=>by have:=(g4.lt i a).1;omega
  exact I.trans (hw.mod (.inr rfl))
 .refine((g2.ext he).mod zi λi k U hk e=>?_).mod uc λi k U hk e=>?_
  .obtain⟨cur,h⟩:=(g2.own i U).cy k hk;exact mn h By e
  .subst e;obtain⟨cur,h⟩:=(g2.own i U).cy k hk;rw[g3] at h;injection h with h;injection h with _ h;exact absurd h By
 .subst e;obtain⟨cur,h⟩:=aQ.cy k hk;rw[m6 g3 By] at h;injection h with h;injection h with _ h;exact absurd h By
 .refine((eR.ext he).trans (eR.mod zi λk c t an a=>?_)).trans (eR.wr hw (m6 g3 By) By);obtain⟨cur,h⟩:=(g4.ext he).cy k a;rw[an] at h;injection h with h;injection h with _ h;rw[h];decide
def ail{vs:Nat->fy}{u:fy}{n:Int}(ct:bL≠bs)(hm:Mod (λk=>k=bL\/k=bs) w1 W)(g1:W.heap[bL]? = some (.cells #[ck (vs 0),ck (vs 1),ck (vs 2),.I s.n,ck (vs 3),ck (vs 4)] T.h))(g2:iO bX T.a 1 w1.heap.size W 5 vs s.rows)
  (g3:W.heap[bs]? = some (.cells #[ck u] T.tk))(g4:aJ o.Cell.slot T.r 4 w1.heap.size W (ck u) s.Z)(hw:du bL W b3)(aw:n=((s.n+1:Nat):Int))
  (an:b3.heap[bL]? = some (.cells #[ck (vs 0),ck (vs 1),ck (vs 2),.I n,ck (vs 3),ck (vs 4)] T.h)):lb w1 bL bs ⟨s.V,s.C,s.da,s.n+1,s.L,s.H,s.Z⟩ b3/\eR tY W b3/\la bL W b3:=by
 subst aw;have uc:Mod (λk=>k=bL) W b3:=hw.mod rfl;refine⟨⟨hm.trans (hw.mod (.inl rfl)),vs,u,an,g2.mod uc λi k U hk e=>?_,uc.obj (Ne.symm ct) g3,g4.mod uc λk hk e=>?_⟩,eR.wr hw g1 By,la.of g1 an⟩
 .subst e;exact g2.not g1 By i U hk
 .subst e;obtain⟨cur,h⟩:=g4.cy k hk;rw[g1] at h;injection h with h;injection h with _ h;exact absurd h By
end
def aoS(so jh:Int)(v:B_)(l:C_ o.dY)(qF qz qB:C_ Int)(cs:C_ o.Cell)(base:Nat)(w1:A_)(bL bs:Nat)(w:A_)(ct:bL≠bs)(hQ:bL<w1.heap.size/\bs<w1.heap.size)(aj:lb w1 bL bs (o.hi.of qF qz qB cs) w)(aF:aJ o.dY.enc T.i 3 base w v l)
  (hm:cs.length+l.length<=100000) :
  Du F.u #[.I so,.I jh,v,.pointer (some ⟨bL,0,none⟩),.pointer (some ⟨bs,0,none⟩)] w λv w'=>v = .I cs.length/\lb w1 bL bs (o.hi.of qF qz qB (cs++o.fN so jh l 0)) w'/\eR tY w w'/\la bL w w':=by
 obtain⟨aN,cap,rfl,_⟩:=aF.form;obtain⟨aup,Un,g1,g2,g3,g4⟩:=aj.ex;refine bl E.u ?_;refine aa ?_;refine L_ 16 l.length [0,1,2,3,4,9,14,15] (λ_:Unit=>[]) () (λk _ w'=>lb w1 bL bs (o.hi.of qF qz qB (cs++o.fN so jh (l.take k) 0)) w'/\eR tY w w'/\la bL w w') a6 a6 ⟨by simpa[o.fN] using aj,eR.refl,la.refl⟩ ?_;clear g1 g2 g3 g4 aj;rintro k _ S aA hk ⟨aj,o0,hN⟩;have jL:bm 3 (Flat o.dY.enc) aA (.slice aN l.length cap) l:=aJ.e3 (enc:=o.dY.enc) (λ_=>rfl) (aF.iy o0 By);refine aa ?_;apply I_<;>intro g1
 .have a7:k<l.length:=Ad
  obtain⟨a,rfl⟩:=jL.addr;have Qt:(o.fN so jh (l.take k) 0).length=k:=by rw[o.vx,Hs];omega
  have w8:=o.ym l[k];refine dS ?_;simp -dsimp only[cH];refine dS ?_;simp -dsimp only[cH];refine dS ?_;intro wn bW eX e8 eC;refine dS ?_;intro aM fE ba;have ah:=fE.ext e8 eX;have gN:=aj.ext ah;clear fE e8 eC;refine dS ?_;refine R_ [0,1,2,3,4,9,10,11,14,15,16] (λ_:Unit=>[]) (λ_ w'=>lb w1 bL bs ⟨qF,qz,qB,(cs++o.fN so jh (l.take k) 0).length,(cs++o.fN so jh (l.take k) 0).map (·.aV)++[l[k].aV],(cs++o.fN so jh (l.take k) 0).map (·.U)++[l[k].U],cs++o.fN so jh (l.take k) 0⟩ w'/\eR tY aM w'/\la bL aM w') ?_ ?_
  .refine aa ?_;intro aU aq;refine _o (agA ct hQ (gN.ext aq) (by simp[bD]) (by simp[bD]) (aq.obj ba) (by simp[o.hi.of,Qt];omega) (by simp[o.hi.of,Qt];omega) λaZ w' h k bb=>?_);refine aa ?_;exact⟨(),trivial,h,(eR.ext aq).trans k,(la.ext aq (by have:=gN.mod.size;omega)).trans bb⟩
  have amk:la bL aA aM:=la.ext ah (by have:=aj.mod.size;omega);clear gN;rintro _ S aU ⟨kN,acv,QW⟩;obtain⟨vs,⟨Un,afm,BF⟩,g1,g2,g3,g4⟩:=kN.ex;have bo:=acv.cy _ _ _ ba By;refine aa ?_;intro bh dF jt av bI;replace bI:bh.heap[dF]? = some (.cells (o.Cell.slot ⟨so,jh,k,l[k].aV,l[k].U,l[k].kind⟩).toArray T.r):=bI;have dM:=g4.ext av;have fQ:=kN.mod.size;have z2:=av.size;have aE:(cs++o.fN so jh (l.take k) 0).length=cs.length+k:=by rw[MD,Qt]
  refine S_ (y:=⟨so,jh,k,l[k].aV,l[k].U,l[k].kind⟩) dM bI rfl (λ_=>rfl) o.ate (by simp only[aE];omega) (by unfold maxLen;simp only[aE];omega) Ad λaN n c bq dn iF=>?_;have e5:=dM.box iF (av.obj g3) By;refine aa ?_;intro bH dw bZ;obtain⟨kq,vv,amm⟩:=atd ct kN.mod g1 g2 g3 g4 av iF dn dw bZ;dsimp only at kq;obtain⟨uy,kS,c5,dA,ea,hg⟩:=kq.ex;clear g1 g2 g3 g4 kN dM dn iF e5 bZ bI;have arq:=c5;dsimp only[ck] at c5;refine aa ?_;intro cB ja cD;obtain⟨Dp,aoJ,amn⟩:=ail ct kq.mod arq dA ea hg ja (by dsimp only;omega) cD;refine aa ?_;refine⟨a7,aK,(),trivial,?_,((((o0.trans (eR.ext ah)).trans acv).trans vv).trans aoJ),((((hN.trans amk).trans QW).trans amm).trans amn)⟩;rw[o.aoT a7,<-MV];have e:o.hi.of qF qz qB ((cs++o.fN so jh (l.take k) 0)++[⟨so,jh,k,l[k].aV,l[k].U,l[k].kind⟩])=⟨qF,qz,qB,(cs++o.fN so jh (l.take k) 0).length+1,(cs++o.fN so jh (l.take k) 0).map (·.aV)++[l[k].aV],(cs++o.fN so jh (l.take k) 0).map (·.U)++[l[k].U],cs++o.fN so jh (l.take k) 0++[⟨so,jh,k,l[k].aV,l[k].U,l[k].kind⟩]⟩:=by
   simp[o.hi.of,List.map_append,Nat.add_assoc]
  rw[e];exact Dp
 .refine aa ?_;rw[MC Ad] at aj;exact⟨aK,aj,o0,hN⟩
end Go.Proofs.R
namespace a8
open Go Go.RowKit
section
variable{P:Program}{C:World->Prop}{S:Fr}{w:World}{K:Fr->World->Prop}
def cX.lv{d m:Nat}{r:eo}{v:B_}(af:S m=v)(h:cX P C r (cc S d v) w K):cX P C (.take ⟨some d,none,.p (.lv (.tmp m))⟩ r) S w K:=by subst af;exact h
theorem lH.c{i:rl}{d:Nat}{k:Fr->A_->Prop}(h:sf P i S w λv w'=>C w'/\k (put S (some d) v) w'):lH P C ⟨some d,none,.c i⟩ S w k:=h
end
end a8
namespace o
def hi.add(s:hi)(off:Nat)(y:Int):hi:=if off=0 then { s with V:=s.V++[y] } else if off=1 then { s with C:=s.C++[y] } else { s with da:=s.da++[y] }
end o
namespace Go.Proofs.R
open Go Go.RowKit a8
def X9(n x y off:Nat)(so:Int):eo :=
 (.take (fq n off 4) (.take (eE (n+1) n) (.take (aT (n+2) 6) (.take (aT (n+3) x) (.take (aT (n+4) y)
 (.alt (ih (n+5) (.val (aO (n+2)) [(cC so),(aO (n+3)),(aO (n+4))]))
 (.alt (dr (n+6) (.kk T.a 1 1 [(.int .i64 0)] [(0,(aO (n+5)))]))
 (.ff (dr (n+7) (.app T.b T.a 1 8 (aO (n+1)) (aO (n+6))))
 (.take (fq (n+8) off 4) (.ff (ys (n+8) (n+7)) .done .nil)) .nil) .nil) .nil))))))
def O5{w1 w:A_}{bL bs n x y off base:Nat}{so jh:Int}{nF:B_}{l:C_ o.dY}{qF qz qB:C_ Int}{cs:C_ o.Cell}{S:Fr}{cL:Fr->A_->Prop}(RA:off<3)(aw:20<=n)(af:x<20)(bE:y<20)
  (ct:bL≠bs)(hQ:bL<w1.heap.size/\bs<w1.heap.size)(aC:S 4 = .pointer (some ⟨bL,0,none⟩))(bJ:S 6 = .func (.func F.u) #[] #[.pointer (some ⟨bL,0,none⟩),.pointer (some ⟨bs,0,none⟩)])(vm:S x = .I jh)(Sp:S y=nF)
  (aj:lb w1 bL bs (o.hi.of qF qz qB cs) w)(aF:aJ o.dY.enc T.i 3 base w nF l)(hm:cs.length+l.length<=100000)(aS:qF.length<=100000/\qz.length<=100000/\qB.length<=100000)
  (hk:∀aZ w',(∀t,t<n\/n+8<t->aZ t=S t)->lb w1 bL bs ((o.hi.of qF qz qB (cs++o.fN so jh l 0)).add off cs.length) w'->eR tY w w'->cL aZ w'):∃C:A_->Prop,C w/\cX Tryz.prog C (X9 n x y off so) S w cL:=by
 obtain⟨vs,u,g1,g2,g3,g4⟩:=aj.ex;have bz:w.cell? (Addr.add ⟨bL,0,none⟩ off)=some (ck (vs off)):=by
  have:off=0\/off=1\/off=2:=Ad
  rcases this with rfl | rfl | rfl<;>exact fM g1 rfl
 refine⟨λw'=>w'.cell? (Addr.add ⟨bL,0,none⟩ off)=some (ck (vs off)),bz,?_⟩;unfold X9;refine cX.jn aC ?_;refine cX.ld (v:=ck (vs off)) (by simp[bD]) (λw' m=>m) ?_;refine cX.lv (mZ (mZ bJ Ad) Ad) ?_;refine cX.lv (mZ (mZ (mZ vm Ad) Ad) Ad) ?_;refine cX.lv (mZ (mZ (mZ (mZ Sp Ad) Ad) Ad) Ad) ?_;generalize oQ:cc _ (n+4) _=sk;have CB:∀t,t<n\/n+8<t->sk t=S t:=by
  subst oQ;intro t aB;simp only[bD];rw[if_neg Ad,if_neg Ad,if_neg Ad,if_neg Ad,if_neg Ad]
 have bn:sk 4 = .pointer (some ⟨bL,0,none⟩):=by subst oQ;exact mZ (mZ (mZ (mZ (mZ aC Ad) Ad) Ad) Ad) Ad
 have f1:sk (n+1)=ck (vs off):=by subst oQ;simp[bD]
 have f2:sk (n+2) = .func (.func F.u) #[] #[.pointer (some ⟨bL,0,none⟩),.pointer (some ⟨bs,0,none⟩)]:=by subst oQ;simp[bD]
 have f3:sk (n+3) = .I jh:=by subst oQ;simp[bD]
 have f4:sk (n+4)=nF:=by subst oQ;simp[bD]
 refine cX.zV (lH.c ?_);show BO _ (sk (n+2)) [.I so,sk (n+3),sk (n+4)] w _;rw[f2,f3,f4];refine O4 (first:=[]) (cap:=[.pointer (some ⟨bL,0,none⟩),.pointer (some ⟨bs,0,none⟩)]) Ci (aoS so jh nF l qF qz qB cs base w1 bL bs w ct hQ aj aF hm) ?_;rintro _ aA ⟨rfl,et,o0,hN⟩;refine⟨(hN off RA).trans bz,?_⟩;refine cX.zV (lH.e ?_);have he:Ext aA (aA.alloc (.cells #[.I cs.length] T.a)):=(Ext.refl aA).alloc _;rw[PC];refine z6 (cs:=[.I cs.length]) (Fh (by simp[gO,bD])) ?_;refine⟨he.cell ((hN off RA).trans bz),?_⟩;have ba:=heap_alloc_new aA (.cells #[.I cs.length] T.a);have bu:=he.cell ((hN off RA).trans bz);have gN:=et.ext he;have acu:eR tY w (aA.alloc (.cells #[.I cs.length] T.a)):=o0.trans (eR.ext he);show cX _ _ _ _ (aA.alloc (.cells #[.I cs.length] T.a)) _;generalize aA.alloc (.cells #[.I cs.length] T.a)=aM at ba bu gN acu;clear he g1 g2 g3 g4;obtain⟨uy,kS,g1,g2,g3,g4⟩:=gN.ex;have ajd:ck (vs off)=ck (uy off):=by
  have:off=0\/off=1\/off=2:=Ad
  rcases this with rfl | rfl | rfl
  .rw[fM g1 (v:=ck (uy 0)) rfl] at bu;exact(Option.some.inj bu).symm
  .rw[fM g1 (v:=ck (uy 1)) rfl] at bu;exact(Option.some.inj bu).symm
  .rw[fM g1 (v:=ck (uy 2)) rfl] at bu;exact(Option.some.inj bu).symm
 refine cX.u1 (ns.e ?_);rw[E4];unfold aO;rw[dc,dc];rw[show ∀a b,put (put sk (some (n+5)) a) (some (n+6)) b (n+1)=ck (uy off) from λa b=>by rw[gO,gO,<-ajd];exact mZ (mZ f1 Ad) Ad,
  show ∀a b,put (put sk (some (n+5)) a) (some (n+6)) b (n+6)=b from λa b=>by rw[gO,gO,bD,if_pos rfl]]
 have fQ:=gN.mod.size;have hlen:((o.hi.of qF qz qB (cs++o.fN so jh l 0)).rows off).length<=100000:=by
  have:off=0\/off=1\/off=2:=Ad
  rcases this with rfl | rfl | rfl
  .exact aS.1
  .exact aS.2.1
  .exact aS.2.2
 refine iO.app (y:=(cs.length:Int)) off Ad g2 (λ_=>rfl) (im ba) hA Ad (by unfold maxLen;omega) Ad λbU aU dD n4 _=>?_;have m4:Mod (λk=>(ck (uy off)).ownBlock=some k) aM aU:=Mod.grown n4 λk hk=>hk;have mn:∀{k:Nat} {c:Array B_} {t:F_},aM.heap[k]? = some (.cells c t)->t≠T.a->aU.heap[k]? = some (.cells c t):=λhk aB=>m4.obj (g2.not hk aB off Ad) hk;refine cX.jn (a:=⟨bL,0,none⟩) (by rw[gO,gO,gO];exact mZ (mZ (mZ bn Ad) Ad) Ad) ?_;refine cX.u1 ?_;show wa (cc _ (n+8) _ (n+8)) (cc (put _ (some (n+7)) _) (n+8) _ (n+7)) aU _;rw[show ∀(S:Fr) v,cc S (n+8) v (n+8)=v from λS v=>by rw[bD,if_pos rfl],show ∀(S:Fr) a b,cc (put S (some (n+7)) a) (n+8) b (n+7)=a from λS a b=>by rw[gO,bD,if_neg Ad,bD,if_pos rfl]];have c6:=mn g1 By;refine T7 λnb=>_G c6 (by simp;omega) rfl λbh eY bI=>?_;have uc:Mod (λk=>k=bL) aU bh:=eY.mod rfl;refine hk _ _ (λt aB=>?_) ⟨?_,fG uy off bU,kS,?_,(dD.mod uc λi k U au e=>?_).congr (λ_ _=>rfl) (λi U=>?_),?_,?_⟩ ?_
 .simp only[gO,adK,bD];rw[if_neg Ad,if_neg Ad,if_neg Ad,if_neg Ad];exact CB t aB
 .refine(gN.mod.comp m4 (B:=λk=>k=bL\/k=bs) (λ_ _ a=>a) λi U a=>?_).trans (eY.mod (A:=λk=>k=bL\/k=bs) (.inl rfl))
  have:=(g2.lt off i Ad a).1;omega
 .rw[bI]
  have:off=0\/off=1\/off=2:=Ad
  rcases this with rfl | rfl | rfl<;>rfl
 .subst e;exact dD.not c6 By i U au
 .have a:off=0\/off=1\/off=2:=Ad
  have b:i=0\/i=1\/i=2\/i=3\/i=4:=Ad
  rcases a with rfl | rfl | rfl<;>rcases b with rfl | rfl | rfl | rfl | rfl<;>rfl
 .exact eY.obj (mn g3 By) (Ne.symm ct)
 .have wK:((o.hi.of qF qz qB (cs++o.fN so jh l 0)).add off cs.length).Z=(o.hi.of qF qz qB (cs++o.fN so jh l 0)).Z:=by unfold o.hi.add; (repeat' split)<;>rfl
  rw[wK];refine(g4.mod m4 λk hk h=>?_).mod uc λk hk e=>?_
  .obtain⟨cur,hM⟩:=g4.cy k hk;exact g2.not hM By off Ad h
  .obtain⟨cur,hM⟩:=g4.cy k hk;subst e;rw[g1] at hM;injection hM with hM;injection hM with _ e;exact absurd e By
 .refine(acu.trans (eR.mod m4 λk c hW an a=>?_)).trans (eR.wr eY c6 By);obtain⟨cur,hM⟩:=(g2.own off Ad).cy k a;rw[an] at hM;injection hM with hM;injection hM with _ e;rw[e];decide
end Go.Proofs.R
namespace a8
open Go Go.RowKit
def aJ.ss{α:Type}{enc:α->C_ B_}{e:F_}{sz base b n:Nat}{w:A_}{cs:C_ B_}(xs:C_ α)(h:w.heap[b]? = some (.cells cs.toArray e))(ak:base<=b)(gu:cs=xs.flatMap enc)(dq:∀x,(enc x).length=sz)(aw:n=xs.length)(hm:xs.length<=maxLen):aJ enc e sz base w (.slice (some ⟨b,0,none⟩) n n) xs:=by
 subst aw;have aE:cs.length=xs.length*sz:=by rw[gu,yD dq]
 exact⟨by rw[yD dq],.inr ⟨b,xs.length,cs.toArray,rfl,ak,h,EC _,hm,by simpa using aE,by simp only;rw[<-aE,AE8,gu]⟩⟩
def AD1{P:D_}{cL:B_->A_->Prop}{α:Type}{enc:α->C_ B_}{e:F_}{sz base:Nat}{w:A_}{v:B_}{xs:C_ α}{ty:F_}{gX b:Nat}{y:α}{cs:C_ B_}{t}(aj:aJ enc e sz base w v xs)(an:w.heap[b]? = some (.cells cs.toArray e))(gu:cs=enc y)(dq:∀x,(enc x).length=sz)(h1:∀y,∀u∈enc y,u.oneCell'=true)
  (ak:(xs.length+1)*gX<=140737488355328)(lo:xs.length+1<=maxLen)(kI:base<=w.heap.size)
  (hk:∀aN n c w',aJ enc e sz base w' (.slice aN n c) (xs++[y])->w.grownBy w' v.ownBlock->((Value.slice aN n c).ownBlock=v.ownBlock\/(Value.slice aN n c).ownBlock=some w.heap.size)->cL (.slice aN n c) w'):mw P ty e sz gX v (.slice (some ⟨b,0,none⟩) 1 1) w cL t:=by
 refine _T (ys:=[y]) aj dq (by subst gu;simpa using im an) rfl h1 ak lo kI λbU w' aQ aG jJ=>?_;obtain⟨aN,cap,rfl,_⟩:=aQ.form;exact hk _ _ _ _ aQ aG jJ
end a8
namespace o
open Go Go.RowKit a8
structure jk(w:World)(cs:List Value)(x:x7):Prop where
 ex:∃v0 v1 v2 v3 v4,cs=[v0,v1,v2,.int .i64 x.cells,v3,v4]/\bm 1 (Flat bX) w v0 x.vars/\bm 1 (Flat bX) w v1 x.ax/\bm 1 (Flat bX) w v2 x.insts/\bm 1 (Flat bX) w v3 x.aV/\bm 1 (Flat bX) w v4 x.U
theorem jk.ext{w w':A_}{cs:C_ B_}{x:x7}(he:Ext w w')(h:jk w cs x):jk w' cs x :=
 let ⟨v0,v1,v2,v3,v4,e,ad,h1,I,ab,aC⟩:=h.ex
 ⟨v0,v1,v2,v3,v4,e,ad.ext Flat.ext he,h1.ext Flat.ext he,I.ext Flat.ext he,ab.ext Flat.ext he,aC.ext Flat.ext he⟩
def jk.form{w:A_}{cs:C_ B_}{x:x7}(h:jk w cs x):∃b0 bz bO c1 bT c2 bV bu b1 bB,cs=[.slice b0 x.vars.length bz,.slice bO x.ax.length c1,.slice bT x.insts.length c2,.I x.cells,.slice bV x.aV.length bu,.slice b1 x.U.length bB] /\
  bm 1 (Flat bX) w (.slice b0 x.vars.length bz) x.vars/\bm 1 (Flat bX) w (.slice bO x.ax.length c1) x.ax/\bm 1 (Flat bX) w (.slice bT x.insts.length c2) x.insts/\bm 1 (Flat bX) w (.slice bV x.aV.length bu) x.aV/\bm 1 (Flat bX) w (.slice b1 x.U.length bB) x.U:=by
 obtain⟨v0,v1,v2,v3,v4,rfl,ad,h1,I,ab,aC⟩:=h.ex;obtain⟨b0,bz,rfl,_⟩:=ad.form;obtain⟨bO,c1,rfl,_⟩:=h1.form;obtain⟨bT,c2,rfl,_⟩:=I.form;obtain⟨bV,bu,rfl,_⟩:=ab.form;obtain⟨b1,bB,rfl,_⟩:=aC.form;exact⟨b0,bz,bO,c1,bT,c2,bV,bu,b1,bB,rfl,ad,h1,I,ab,aC⟩
def Nz{v:Var}{s:C_ Scalar}(h:B8 v s)(aj:s.length<=2):0<=v.scalar/\v.scalar<=2:=by
 rcases h.k6 with e | e
 .omega
 .unfold size at e;split at e
  .rename_i x af
   have:=(List.getElem?_eq_some_iff.1 af).1
   split at e<;>omega
  .exact absurd rfl e
def Pb{v:dZ}{s:C_ Scalar}(h:Eg v s)(aj:s.length<=2):0<=v.scalar/\v.scalar<=2:=by
 rcases h.k6 with e | e
 .omega
 .unfold size at e;split at e
  .rename_i x af
   have:=(List.getElem?_eq_some_iff.1 af).1
   split at e<;>omega
  .exact absurd rfl e
def Nv(m:Model)(h:ey m)(k:Nat):total ((c4 m).take k)<=64:=by
 have h1:=K0 h;have I:=h.cells;have ab:=GQ m;have e:total (c4 m)=total ((c4 m).take k)+total ((c4 m).drop k):=by rw[<-HC,AH4]
 omega
def Ul(m:Model)(h:ey m)(k:Nat):total (c4 m)+total ((dG m).take k)<=64:=by
 have h1:=K0 h;have I:=h.cells;have ab:=GQ m;have e:total (dG m)=total ((dG m).take k)+total ((dG m).drop k):=by rw[<-HC,AH4]
 omega
def aff(m:Model)(h:ey m)(k:Nat):total (c4 m)+total (dG m)+total ((fF m).take k)<=64:=by
 have h1:=K0 h;have I:=h.cells;have ab:=GQ m;have e:total (fF m)=total ((fF m).take k)+total ((fF m).drop k):=by rw[<-HC,AH4]
 omega
end o
namespace Go.Proofs.R
open Go Go.RowKit a8
def ao1(cs:C_ B_)(m:o.Model)(w:A_)(h:o.dj w cs m)(aG:m.cv)(aL:o.ey m) :
  Du F.cl #[.agg cs.toArray] w λv w'=>(∃xs u,v = .tuple #[.agg xs.toArray,u]/\eL w (λw=>o.jk w xs (o.layout m)) w'/\eL w (λw=>bm 4 (Flat o.Cell.slot) w u (o.cp m)) w')/\Ext w w':=by
 obtain⟨b0,bz,bO,c1,bT,c2,bV,bu,b1,bB,rfl,ad,h1,I,ab,aC,eu,dz,dJ,dR,ee⟩:=h.form;have gf:=aL.gf;refine bl E.cl ?_;refine aa ?_;intro NG bx cN rR al;have c5:=cq al;refine aa ?_;intro NH bQ c7 qW ao;have dA:=cq ao;replace al:=qW.obj al;refine aa ?_;intro zB bL oR n2 kJ;have axC:=cq kJ;replace al:=n2.obj al;replace ao:=n2.obj ao;refine aa ?_;intro w1 bs FM qX gu;have axB:=cq gu;replace al:=qX.obj al;replace ao:=qX.obj ao;replace kJ:=qX.obj kJ;have jR:=rR.size;have jF:=qW.size;have sc:=n2.size;have Ea:=qX.size;have bF:=((rR.trans qW).trans n2).trans qX;clear rR qW n2 qX;have ct:bL≠bs:=Ad
 have hQ:bL<w1.heap.size/\bs<w1.heap.size:=⟨Ad,Ad⟩;have kv:lb w1 bL bs (o.hi.of [] [] [] []) w1:=⟨Mod.refl _ _,λ_=>(none,0,0),(none,0,0),kJ,⟨λi U=>by
   have e:(o.hi.of [] [] [] []).rows i=[]:=by unfold o.hi.rows; (repeat' split)<;>rfl
   rw[e];exact aJ.nil _ _ _ _ _,λi j k _ _ _ e=>by cases e⟩,gu,aJ.nil _ _ _ _ _⟩
 have oY:∀{s W},lb w1 bL bs s W->W.heap[bx]? = w1.heap[bx]? := λh=>h.mod.block _ Ad Ad;have gT:∀{s W},lb w1 bL bs s W->W.heap[bQ]? = w1.heap[bQ]? := λh=>h.mod.block _ Ad Ad;have de:∀{s W},lb w1 bL bs s W->Ext w W:=λh=>h.mod.ext bF λi U e=>Ad
 rw[al] at oY;rw[ao] at gT;refine aa ?_;refine L_ 24 m.vars.length [1,2,4,5,6,22,23] (λ_:Unit=>[]) () (λk _ W=>lb w1 bL bs (o.hi.of (o.ia 0 ((o.c4 m).take k)) [] [] (o.cellsOf 1 ((o.c4 m).take k) 0)) W) a6 a6 (by simpa[o.ia,o.cellsOf] using kv) ?_;clear kv kJ gu al ao;rintro k _ S aA hk aj;have al:=oY aj;have df:=de aj;refine aa ?_;apply I_<;>intro g1
 .have a7:k<m.vars.length:=Ad
  obtain⟨a,rfl⟩:=h1.addr;have dH:=((h1.at k a7).cells).ext df;have c8:=aL.var _ (ED a7);have mj:=o.Nz c8 gf.1;refine aa ?_;intro wn jZ mc e8 eC;refine aa ?_;intro aM fE ba;have ah:Ext aA aM:=fE.ext e8 mc;replace ba:aM.heap[jZ]? = some (.cells m.vars[k].enc.toArray T.l):=ba;replace al:=ah.obj al;clear fE e8 eC dH;have fr:=df.trans ah;refine aa ?_;refine J_ (Cl m.vars[k] _ m.scalars aM (ad.ext fr)) ?_;rintro _ aU ⟨rfl,aq⟩;have dL:=o.su m.vars[k] m.scalars;have ec:=fr.trans aq;have sE:=aq.obj al;have alN:=aq.obj ba;refine aa ?_;refine L_ 33 (o.cells m.vars[k] m.scalars).toNat [1,2,4,5,6,7,8,22,23,24,32] (λv:fy=>[(9,.slice v.1 v.2.1 v.2.2)]) (none,0,0) (λj v W=>Ext aU W/\aJ o.dY.enc T.i 3 aU.heap.size W (.slice v.1 v.2.1 v.2.2) (List.replicate j (o.e1 m.vars[k].scalar m.vars[k].aV m.vars[k].U m.scalars))) a6 a6 ⟨Ext.refl _,aJ.nil _ _ _ _ _⟩ ?_;clear al ba;rintro j v S bh az ⟨av,dM⟩;have al:=av.obj sE;have ba:=av.obj alN;refine aa ?_;apply I_<;>intro g2
  .have eP:j<(o.cells m.vars[k] m.scalars).toNat:=Ad
   refine aa ?_;refine J_ (SS m.vars[k] _ m.scalars bh (ad.ext (ec.trans av)) (by unfold o.dX;omega)) ?_;rintro _ bq ⟨rfl,aD⟩;have w8:=o.ym (o.e1 m.vars[k].scalar m.vars[k].aV m.vars[k].U m.scalars);refine aa ?_;intro bH agT avS bc bZ;replace bZ:bH.heap[agT]? = some (.cells (o.e1 m.vars[k].scalar m.vars[k].aV m.vars[k].U m.scalars).enc.toArray T.i):=bZ;have dU:=dM.ext (aD.trans bc);have Kh:=(av.trans aD).trans bc;have aE:(List.replicate j (o.e1 m.vars[k].scalar m.vars[k].aV m.vars[k].U m.scalars)).length=j:=AF3;refine S_ (y:=o.e1 m.vars[k].scalar m.vars[k].aV m.vars[k].U m.scalars) dU bZ rfl (λ_=>rfl) o.ym (by rw[aE];omega) (by rw[aE];unfold maxLen;omega) Kh.size λaN n c cB gw tM=>?_;refine aa ?_;exact⟨eP,aK,(aN,n,c),a6,dU.kG Kh tM (EC _),by rw[List.replicate_succ'];exact gw⟩
  .have nw:j=(o.cells m.vars[k] m.scalars).toNat:=Ad
   have q1:=aj.ext ((ah.trans aq).trans av);replace dM:aJ o.dY.enc T.i 3 aU.heap.size bh (.slice v.1 v.2.1 v.2.2) (o.BG m.scalars m.vars[k]):=by rw[nw] at dM;exact dM
   have eC:=o.lj 1 ((o.c4 m).take k) 0;have tV:=o.Nv m aL k;refine aa ?_;intro bq aD;refine _o (O5 (n:=43) (x:=7) (y:=9) (off:=0) (so:=1) By By By By ct hQ (by simp[bD]) (by simp[bD]) (by simp[bD];rfl) (by simp[bD]) (q1.ext aD) (dM.ext aD) (by rw[eC,o.D6];omega) ⟨by rw[o.ux,Hs];omega,CC,CC⟩ λaZ bH ay cr xo=>?_);have wO:aZ 24 = .I k:=by rw[ay 24 By];simp[bD]
   refine aa ?_;rw[wO];refine aa ?_;refine⟨a7,aK,(),trivial,?_⟩;have aF:k<(o.c4 m).length:=by simpa[o.c4] using a7
   have e:(o.c4 m)[k]=o.BG m.scalars m.vars[k]:=by simp[o.c4]
   rw[Iu aF,e,o.Np,o.Aa];have aH:(0+((o.c4 m).take k).length:Nat)=k:=by rw[Hs];omega
   rw[aH,SO,<-eC];exact cr
 have mg:m.vars.length<=k:=Ad
 rw[MC (by simpa[o.c4] using mg)] at aj;have Um:=o.Nv m aL m.vars.length;rw[MC (by simp[o.c4])] at Um;refine aa ?_;refine L_ 56 m.ax.length [1,2,4,5,6,54,55] (λ_:Unit=>[]) () (λk _ W=>lb w1 bL bs (o.hi.of (o.ia 0 (o.c4 m)) (o.ia (o.total (o.c4 m)) ((o.dG m).take k)) [] (o.cellsOf 1 (o.c4 m) 0++o.cellsOf 2 ((o.dG m).take k) 0)) W) a6 a6 (by simpa[o.ia,o.cellsOf] using aj) ?_;clear aj al df;rintro k _ S aA hk aj;have al:=oY aj;have df:=de aj;refine aa ?_;apply I_<;>intro g2
 .have a7:k<m.ax.length:=Ad
  obtain⟨a,rfl⟩:=I.addr;have dH:=((I.at k a7).cells).ext df;have c8:=aL.chan _ (ED a7);have mj:=o.Pb c8 gf.1;have hL:=c8.cap;refine aa ?_;intro wn l8 wU e8 eC;refine aa ?_;intro aM fE ba;have ah:Ext aA aM:=fE.ext e8 wU;replace ba:aM.heap[l8]? = some (.cells m.ax[k].enc.toArray T.u):=ba;replace al:=ah.obj al;clear fE e8 eC dH;have Qy:=al;have alO:=ba;have fr:=df.trans ah;refine aa ?_;intro aU Iz alA aq FR;replace FR:aU.heap[Iz]? = some (.cells ([(⟨0,m.ax[k].cap,0⟩:o.dY)].flatMap o.dY.enc).toArray T.i):=FR;have dD:aJ o.dY.enc T.i 3 aM.heap.size aU (.slice (some ⟨Iz,0,none⟩) 1 1) [(⟨0,m.ax[k].cap,0⟩:o.dY)]:=aJ.ss _ FR alA rfl (λ_=>rfl) rfl (by simp[maxLen]);replace al:=aq.obj al;replace ba:=aq.obj ba;have ec:=fr.trans aq;have aaf:=FR;clear FR;refine aa ?_;refine J_ (SS ⟨⟨#[]⟩,m.ax[k].scalar,0,min m.ax[k].aV 0,max m.ax[k].U 0,0⟩ _ m.scalars aU (ad.ext ec) (by unfold o.dX;simp only;omega)) ?_;rintro _ bh ⟨rfl,av⟩;have w8:=o.ym (o.e1 m.ax[k].scalar (min m.ax[k].aV 0) (max m.ax[k].U 0) m.scalars);refine aa ?_;intro bq b13 FI aD gr;replace gr:bq.heap[b13]? = some (.cells (o.lk m.scalars m.ax[k]).enc.toArray T.i):=gr;replace al:=(av.trans aD).obj al;replace ba:=(av.trans aD).obj ba;have dn:=dD.ext (av.trans aD);have ams:=(aq.trans av).trans aD;clear dD;refine aa ?_;have avM:Iz<b13:=by have:=cq aaf;have:=av.size;omega
  refine L_ 79 m.ax[k].cap.toNat [1,2,4,5,6,10,11,13,54,55,56,78] (λv:fy=>[(12,.slice v.1 v.2.1 v.2.2)]) (some ⟨Iz,0,none⟩,1,1) (λj v W=>Ext aM W/\W.heap[b13]? = bq.heap[b13]? /\ aJ o.dY.enc T.i 3 aM.heap.size W (.slice v.1 v.2.1 v.2.2) (⟨0,m.ax[k].cap,0⟩ :: List.replicate j (o.lk m.scalars m.ax[k]))/\(Value.slice v.1 v.2.1 v.2.2).ownBlock≠some b13) a6 a6 ⟨ams,rfl,dn,by simp[Value.ownBlock];omega⟩ ?_;rw[gr];have ax7:=cq gr;clear al ba gr dn aaf;rintro j v S bH az ⟨Kk,gr,dU,eG⟩;have al:=Kk.obj Qy;have ba:=Kk.obj alO;refine aa ?_;apply I_<;>intro g3
  .have eP:j<m.ax[k].cap.toNat:=Ad
   have w8:=o.ym (o.lk m.scalars m.ax[k]);refine aa ?_;intro cB agW avV bt QE;replace QE:cB.heap[agW]? = some (.cells (o.lk m.scalars m.ax[k]).enc.toArray T.i):=QE;have gw:=dU.ext bt;have aE:((⟨0,m.ax[k].cap,0⟩:o.dY) :: List.replicate j (o.lk m.scalars m.ax[k])).length=j+1:=CC
   have aaD:=Kk.trans bt;have z138:=cq (bt.obj gr);refine AD1 (y:=o.lk m.scalars m.ax[k]) gw QE rfl (λ_=>rfl) o.ym (by rw[aE];omega) (by rw[aE];unfold maxLen;omega) aaD.size λaN n c cG fu tN jJ=>?_;have mh:cG.heap[b13]? = _:=(Mod.grown (A:=λi=>(Value.slice v.1 v.2.1 v.2.2).ownBlock=some i) tN λk hk=>hk).obj eG (bt.obj gr);refine aa ?_;refine⟨eP,aK,(aN,n,c),a6,gw.kG aaD tN (EC _),mh,by rw[List.replicate_succ'];exact fu,λe=>?_⟩;rcases jJ with a | a
   .exact eG (a.symm.trans e)
   .rw[a] at e;injection e with e;omega
  .have nw:j=m.ax[k].cap.toNat:=Ad
   have kq:=aj.ext (ah.trans Kk);replace dU:aJ o.dY.enc T.i 3 aM.heap.size bH (.slice v.1 v.2.1 v.2.2) (o.nQ m.scalars m.ax[k]):=by rw[nw] at dU;exact dU
   have eC:=o.lj 1 (o.c4 m) 0;have QP:=o.lj 2 ((o.dG m).take k) 0;have hlen:(o.cellsOf 1 (o.c4 m) 0++o.cellsOf 2 ((o.dG m).take k) 0).length=o.total (o.c4 m)+o.total ((o.dG m).take k):=by rw[MD,eC,QP]
   have tV:=o.Ul m aL k;refine aa ?_;intro cB bt;refine _o (O5 (n:=86) (x:=10) (y:=12) (off:=1) (so:=2) By By By By ct hQ (by simp[bD]) (by simp[bD]) (by simp[bD];rfl) (by simp[bD]) (kq.ext bt) (dU.ext bt) (by rw[hlen,o.wy];omega) ⟨by rw[o.ux];simp[o.c4];omega,by rw[o.ux,Hs];omega,CC⟩ λaZ bH ay cr xo=>?_);have wO:aZ 56 = .I k:=by rw[ay 56 By];simp[bD]
   refine aa ?_;rw[wO];refine aa ?_;refine⟨a7,aK,(),trivial,?_⟩;have aF:k<(o.dG m).length:=by simpa[o.dG] using a7
   have e:(o.dG m)[k]=o.nQ m.scalars m.ax[k]:=by simp[o.dG]
   rw[Iu aF,e,o.Np,o.Aa];have aH:(0+((o.dG m).take k).length:Nat)=k:=by rw[Hs];omega
   rw[aH,<-MV,<-hlen];exact cr
 have rU:m.ax.length<=k:=Ad
 rw[MC (by simpa[o.dG] using rU)] at aj;have atK:=o.Ul m aL m.ax.length;rw[MC (by simp[o.dG])] at atK;refine aa ?_;refine J_ (xl _ m aA (h.ext df) aG) ?_;rintro bK rj ⟨dP,u9⟩;obtain⟨b8,ci,rfl,_⟩:=dP.form;have Gw:=aj.ext u9;have kp:(o.insts m).length<=30:=by have:=o.vo m;have:=aL.procs;omega
 refine aa ?_;refine L_ 99 (o.insts m).length [1,2,4,5,6,97,98] (λ_:Unit=>[]) () (λk _ W=>lb w1 bL bs (o.hi.of (o.ia 0 (o.c4 m)) (o.ia (o.total (o.c4 m)) (o.dG m)) (o.ia (o.total (o.c4 m)+o.total (o.dG m)) ((o.fF m).take k)) (o.cellsOf 1 (o.c4 m) 0++o.cellsOf 2 (o.dG m) 0++o.cellsOf 3 ((o.fF m).take k) 0)) W/\eR tY rj W) a6 a6 ⟨by simpa[o.ia,o.cellsOf] using Gw,eR.refl⟩ ?_;clear aj Gw al df;rintro k _ S aA hk ⟨aj,o0⟩;have al:=oY aj;have df:=de aj;have en:ik aA (.slice b8 (o.insts m).length ci) (o.insts m):=aJ.e3 (enc:=o.cO.enc) (λ_=>rfl) (dP.iy o0 By);refine aa ?_;apply I_<;>intro g3
 .have a7:k<(o.insts m).length:=Ad
  obtain⟨gp,rfl⟩:=en.addr;have qe:=o.q5 _ (ED a7);obtain⟨p,ar,hd,qQ⟩:=o.A6 qe;have c8:=aL.proc _ (ED ar);have aa6:=c8.cm;have p9:=c8.gf.1;refine aa ?_;intro wn zY FK e8 eC;refine aa ?_;intro aM fE ba;have ah:Ext aA aM:=fE.ext e8 FK;replace ba:aM.heap[zY]? = some (.cells #[.I p,.I (o.insts m)[k].elem] T.d):=by rw[<-hd];exact ba
  replace al:=ah.obj al;clear fE e8 eC en;have fr:=df.trans ah;obtain⟨a,rfl⟩:=ab.addr;obtain⟨kr,bY,dV,c3,eQ,er⟩:=ab.at p ar;obtain⟨ei,eW,rfl,e6⟩:=eQ.form;obtain⟨o6,oM,rfl,lc⟩:=er.form;replace c3:=c3.ext fr;refine aa ?_;intro aU OT Z6 aq oS;replace oS:aU.heap[OT]? = some (.cells (m.procs[p].enc (.slice ei m.procs[p].vars.length eW) (.slice o6 m.procs[p].c0.length oM)).toArray T.k):=oS;unfold o.dt.enc at oS;have ec:=fr.trans aq;replace al:=aq.obj al;clear c3;refine aa ?_;intro bh OS aly av J6;replace J6:bh.heap[OS]? = some (.cells ([(⟨0,m.procs[p].cm - 1,0⟩:o.dY)].flatMap o.dY.enc).toArray T.i):=J6;have dM:aJ o.dY.enc T.i 3 aU.heap.size bh (.slice (some ⟨OS,0,none⟩) 1 1) [(⟨0,m.procs[p].cm - 1,0⟩:o.dY)]:=aJ.ss _ J6 aly rfl (λ_=>rfl) rfl (by simp[maxLen]);have Qy:=al;have alJ:=oS;replace oS:=av.obj oS;clear J6 al;refine aa ?_;refine L_ 118 m.procs[p].vars.length [1,2,4,5,6,14,16,97,98,99,116,117] (λv:fy=>[(17,.slice v.1 v.2.1 v.2.2)]) (some ⟨OS,0,none⟩,1,1) (λj v W=>Ext aU W/\aJ o.dY.enc T.i 3 aU.heap.size W (.slice v.1 v.2.1 v.2.2) (⟨0,m.procs[p].cm - 1,0⟩ :: (m.procs[p].vars.take j).map λv=>o.e1 v.scalar v.aV v.U m.scalars)) a6 a6 ⟨av,by simpa using dM⟩ ?_;clear oS dM;rintro j v S bq az ⟨C5,dn⟩;have al:=C5.obj Qy;have oS:=C5.obj alJ;have gV:=ec.trans C5;refine aa ?_;apply I_<;>intro g4
  .have eP:j<m.procs[p].vars.length:=Ad
   obtain⟨rC,rfl⟩:=eQ.addr;have dH:=((eQ.at j eP).cells).ext gV;have R9:=c8.var _ (ED eP);have mj:=o.Nz R9 gf.1;refine aa ?_;intro bH agS avO bc FN;replace FN:bH.heap[agS]? = some (.cells m.procs[p].vars[j].enc.toArray T.l):=FN;replace al:=bc.obj al;have fZ:=gV.trans bc;clear dH;refine aa ?_;refine J_ (SS m.procs[p].vars[j] _ m.scalars bH (ad.ext fZ) (by unfold o.dX;omega)) ?_;rintro _ cB ⟨rfl,bt⟩;have w8:=o.ym (o.e1 m.procs[p].vars[j].scalar m.procs[p].vars[j].aV m.procs[p].vars[j].U m.scalars);refine aa ?_;intro cG agR avL b2 Qz;replace Qz:cG.heap[agR]? = some (.cells (o.e1 m.procs[p].vars[j].scalar m.procs[p].vars[j].aV m.procs[p].vars[j].U m.scalars).enc.toArray T.i):=Qz;have fu:=dn.ext ((bc.trans bt).trans b2);have aaE:=((C5.trans bc).trans bt).trans b2;have aE:((⟨0,m.procs[p].cm - 1,0⟩:o.dY) :: (m.procs[p].vars.take j).map λv=>o.e1 v.scalar v.aV v.U m.scalars).length=j+1:=by simp;omega
   refine S_ (y:=o.e1 m.procs[p].vars[j].scalar m.procs[p].vars[j].aV m.procs[p].vars[j].U m.scalars) fu Qz rfl (λ_=>rfl) o.ym (by rw[aE];omega) (by rw[aE];unfold maxLen;omega) aaE.size λaN n c ew oc mO=>?_;refine aa ?_;exact⟨eP,aK,(aN,n,c),a6,fu.kG aaE mO (EC _),by rw[Iu eP,AF1];exact oc⟩
  .have Dn:=aj.ext ((ah.trans aq).trans C5);have SH:eR tY aA bq:=eR.ext ((ah.trans aq).trans C5);replace dn:aJ o.dY.enc T.i 3 aU.heap.size bq (.slice v.1 v.2.1 v.2.2) (o.ml m (o.insts m)[k]):=by rw[MC Ad] at dn;rw[qQ];exact dn
   have eC:=o.lj 1 (o.c4 m) 0;have QP:=o.lj 2 (o.dG m) 0;have amf:=o.lj 3 ((o.fF m).take k) 0;have hlen:(o.cellsOf 1 (o.c4 m) 0++o.cellsOf 2 (o.dG m) 0++o.cellsOf 3 ((o.fF m).take k) 0).length=o.total (o.c4 m)+o.total (o.dG m)+o.total ((o.fF m).take k):=by rw[MD,MD,eC,QP,amf]
   have tV:=o.aff m aL k;have J5:(o.ml m (o.insts m)[k]).length<=10:=by rw[qQ,o.Bn];omega
   refine aa ?_;intro cB bt;refine _o (O5 (n:=130) (x:=14) (y:=17) (off:=2) (so:=3) By By By By ct hQ (by simp[bD]) (by simp[bD]) (by simp[bD];rfl) (by simp[bD]) (Dn.ext bt) (dn.ext bt) (by rw[hlen];omega) ⟨by rw[o.ux];simp[o.c4];omega,by rw[o.ux];simp[o.dG];omega,by rw[o.ux,Hs];omega⟩ λaZ bH ay cr xo=>?_);have wO:aZ 99 = .I k:=by rw[ay 99 By];simp[bD]
   refine aa ?_;rw[wO];refine aa ?_;refine⟨a7,aK,(),trivial,?_,((o0.trans SH).trans (eR.ext bt)).trans xo⟩;have aF:k<(o.fF m).length:=by simpa[o.fF] using a7
   have e:(o.fF m)[k]=o.ml m (o.insts m)[k]:=by simp[o.fF]
   rw[Iu aF,e,o.Np,o.Aa];have aH:(0+((o.fF m).take k).length:Nat)=k:=by rw[Hs];omega
   rw[aH,<-MV,<-hlen];exact cr
 have lP:(o.insts m).length<=k:=Ad
 rw[MC (by simpa[o.fF] using lP)] at aj;have ao:=gT aj;obtain⟨vs,u,g1,g2,g3,g4⟩:=aj.ex;have fin:∀{aM W},Ext aA aM->du bQ aM W->(∃xs kS,Value.tuple #[.agg #[ck (vs 0),ck (vs 1),ck (vs 2),.I (o.cp m).length,ck (vs 3),ck (vs 4)],ck u] = .tuple #[.agg xs.toArray,kS]/\eL w (λw=>o.jk w xs (o.layout m)) W/\eL w (λw=>bm 4 (Flat o.Cell.slot) w kS (o.cp m)) W)/\Ext w W:=by
  intro aM W he hw;have c7:=he.obj ao;have akj:=(g2.ext he).mod (hw.mod (A:=λi=>i=bQ) rfl) λi k U hk e=>by subst e;exact(g2.ext he).not c7 By i U hk
  have akk:=(g4.ext he).mod (hw.mod (A:=λi=>i=bQ) rfl) λk hk e=>by
   subst e;obtain⟨cur,hM⟩:=(g4.ext he).cy k hk;rw[c7] at hM;injection hM with hM;injection hM with _ e;exact absurd e By
  have bA:w.heap.size<=w1.heap.size:=Ad
  have ue:=λ(i:Nat) (U:i<5)=>aJ.new (e:=T.a) (enc:=bX) (λ_=>rfl) (aJ.low bA (akj.own i U));refine⟨⟨[_,_,_,_,_,_],_,rfl,λe4 ua=>⟨⟨_,_,_,_,_,rfl,ue 0 By e4 ua,ue 1 By e4 ua,ue 2 By e4 ua,ue 3 By e4 ua,ue 4 By e4 ua⟩⟩,aJ.new (e:=T.r) (enc:=o.Cell.slot) (λ_=>rfl) (aJ.low bA akk)⟩,hw.ext (df.trans he) Ad⟩
 replace g1:aA.heap[bL]? = some (.cells #[ck (vs 0),ck (vs 1),ck (vs 2),.I (o.cp m).length,ck (vs 3),ck (vs 4)] T.h):=g1;refine aa ?_;intro aM ah;replace g1:=ah.obj g1;replace g3:=ah.obj g3;replace ao:=ah.obj ao;dsimp only[ck] at g1 g3;refine aa ?_;refine⟨?_,?_⟩
 .refine aa ?_;refine⟨?_,?_⟩
  .refine aa ?_;intro aU dQ bo;refine aa ?_;exact fin ah dQ
  .refine aa ?_;intro aU dQ bo;replace g3:=dQ.obj g3 Ad;refine aa ?_;exact fin ah dQ
 .refine aa ?_;intro aU dQ bo;refine aa ?_;exact fin ah dQ
end Go.Proofs.R
namespace o
def zg{m:Model}(h:(check m).cJ=0):lay m=layout m:=by unfold lay;rw[if_pos h]
def acF{m:Model}(h:¬(check m).cJ=0):lay m=S4:=by unfold lay;rw[if_neg h]
def iG{m:Model}(h:ey m):(cp m).length<=64:=by
 have:=K0 h
 have:=h.cells
 omega
open Go Go.RowKit a8 in
def jk.zero(w:A_):jk w [.slice none 0 0,.slice none 0 0,.slice none 0 0,.I 0,.slice none 0 0,.slice none 0 0] S4:=⟨_,_,_,_,_,rfl,bm.nil,bm.nil,bm.nil,bm.nil,bm.nil⟩
end o
namespace Go.Proofs.R
open Go Go.RowKit a8
def GR(cs:C_ B_)(m:o.Model)(w:A_)(h:o.dj w cs m)(aG:m.cv)(aQ:gJ w) :
  Du F.l #[.agg cs.toArray] w λv w'=>(∃xs,v = .agg xs.toArray/\eL w (λw=>o.jk w xs (o.lay m)) w')/\Ext w w':=by
 have aL:=h;obtain⟨b0,bz,bO,c1,bT,c2,bV,bu,b1,bB,rfl,_⟩:=h.form;refine bl E.l ?_;refine aa ?_;intro w1 bx cN ag al;refine aa ?_;intro aA bQ c7 ai ao;have fQ:=cq al;replace al:=ai.obj al;have z2:=cq ao;have z3:=ag.size;have aH:=ag.trans ai;refine aa ?_;refine J_ (apv _ m aA (aL.ext aH) aG (aQ.ext aH)) ?_;rintro _ aM ⟨rfl,ah⟩;replace al:=ah.obj al;replace ao:=ah.obj ao;have aR:=aH.trans ah;by_cases hk:(o.check m).cJ=0
 .rw[decide_eq_true hk];refine aa ?_;refine J_ (ao1 _ m aM (aL.ext aR) aG (o.hE hk)) ?_;rintro _ aU ⟨⟨xs,u,rfl,ch,aj⟩,aq⟩;obtain⟨kT,d0,ie,d1,ji,d2,nd,d3,mu,d4,rfl,_⟩:=ch.here.form;obtain⟨sY,nU,rfl,_⟩:=aj.here.form;replace ao:=aq.obj ao;have bn:=aR.trans aq;have z4:=ah.size;refine aa ?_;intro bh bW eX av ba;replace ao:=av.obj ao;refine aa ?_;intro bq gE bS;have aw:=(ch.ext av aq.size).wr gE Ad;refine aa ?_;exact⟨⟨_,rfl,by rw[o.zg hk];exact aw.low aR.size⟩,gE.ext (bn.trans av) Ad⟩
 .rw[decide_eq_false hk];refine aa ?_;intro aU dQ bo;refine aa ?_;exact⟨⟨[_,_,_,_,_,_],rfl,by rw[o.acF hk];exact gW.of λ_=>o.jk.zero _⟩,dQ.ext aR Ad⟩
end Go.Proofs.R
namespace o
def ahX{c:dZ}{s:C_ Scalar}(h:Eg c s)(ad:c.scalar≠0):∃i,∃U:i<s.length,c.scalar=(i:Int)+1/\s[i].size=size c.scalar s:=by
 have e:=h.k6.resolve_left ad;unfold size at e ⊢;split at e
 .rename_i x af;obtain⟨cu,vm⟩:=List.getElem?_eq_some_iff.1 af;split at e
  .rename_i h1;refine⟨(c.scalar - 1).toNat,cu,Ad,?_⟩;rw[vm,if_pos h1]
  .exact absurd rfl e
 .exact absurd rfl e
theorem SL(so jh:Int)(l:C_ dY)(b:dY):fN so jh (l++[b]) 0=fN so jh l 0++[⟨so,jh,(l.length:Nat),b.aV,b.U,b.kind⟩]:=by
 rw[SK,SO]
end o
namespace Go.Proofs.R
open Go Go.RowKit a8
def acx{α:Type}{enc:α->C_ B_}{e:F_}{sz base:Nat}{w w':A_}{v:B_}{xs:C_ α}(aQ:aJ enc e sz base w v xs)(aG:w.grownBy w' v.ownBlock):eR [e] w w':=eR.mod (A:=λk=>v.ownBlock=some k) (Mod.grown aG λk hk=>hk) λk c t an a=>by
 obtain⟨cur,h⟩:=aQ.cy k a;rw[an] at h;injection h with h;injection h with _ h;rw[h];simp
def ar9(cs:C_ B_)(m:o.Model)(w:A_)(h:o.dj w cs m)(aG:m.cv)(aL:o.ey m) :
  Du F.LR #[.agg cs.toArray] w λv w'=>aJ o.Cell.enc T.tX 6 w.heap.size w' v (o.cp m)/\Ext w w':=by
 obtain⟨b0,bz,bO,c1,bT,c2,bV,bu,b1,bB,rfl,ad,h1,I,ab,aC,eu,dz,dJ,dR,ee⟩:=h.form;have gf:=aL.gf;refine bl E.LR ?_;refine aa ?_;intro w1 bx cN ag al;refine aa ?_;refine L_ 4 m.vars.length [1] (λv:fy=>[(3,.slice v.1 v.2.1 v.2.2)]) (none,0,0) (λk v W=>Ext w1 W/\aJ o.Cell.enc T.tX 6 w1.heap.size W (.slice v.1 v.2.1 v.2.2) (o.cellsOf 1 ((o.c4 m).take k) 0)) a6 a6 ⟨Ext.refl _,aJ.nil _ _ _ _ _⟩ ?_;have sE:=al;clear al;rintro k v S aA hk ⟨ai,ed⟩;have al:=ai.obj sE;have aH:=ag.trans ai;refine aa ?_;apply I_<;>intro g1
 .have a7:k<m.vars.length:=Ad
  obtain⟨a,rfl⟩:=h1.addr;have dH:=((h1.at k a7).cells).ext aH;have c8:=aL.var _ (ED a7);have mj:=o.Nz c8 gf.1;have aF:k<(o.c4 m).length:=by simpa[o.c4] using a7
  have tV:=o.Nv m aL (k+1);rw[o.HE aF] at tV;have yB:(o.c4 m)[k]=o.BG m.scalars m.vars[k]:=by simp[o.c4]
  rw[yB,o.D6] at tV;have dL:=o.su m.vars[k] m.scalars;refine aa ?_;refine P_ (.tuple #[.I (o.bounds m.vars[k] m.scalars).1,.I (o.bounds m.vars[k] m.scalars).2]) (λw' e=>TC m.vars[k] _ m.scalars w' (ad.ext (aH.trans e))) ?_;refine aa ?_;intro aM ah;have eT:=ed.ext ah;have ba:=ah.obj al;have gv:=ai.trans ah;clear al dH;refine aa ?_;refine L_ 7 (o.cells m.vars[k] m.scalars).toNat [1,4,5,6] (λv:fy=>[(3,.slice v.1 v.2.1 v.2.2)]) v (λj v W=>Ext w1 W/\aJ o.Cell.enc T.tX 6 w1.heap.size W (.slice v.1 v.2.1 v.2.2) (o.cellsOf 1 ((o.c4 m).take k) 0++o.fN 1 k (List.replicate j (o.e1 m.vars[k].scalar m.vars[k].aV m.vars[k].U m.scalars)) 0)) a6 a6 ⟨gv,by simpa[o.fN] using eT⟩ ?_;clear ba eT ed ai ah gv;rintro j v S aU az ⟨aq,dD⟩;have al:=aq.obj sE;have bn:=ag.trans aq;have dH:=((h1.at k a7).cells).ext bn;refine aa ?_;refine P_ _ (λw' e=>M1 m.vars[k] _ m.scalars w' (ad.ext (bn.trans e))) ?_;refine aa ?_;intro bh av;replace al:=av.obj al;replace dH:=dH.ext av;have dM:=dD.ext av;have qU:=aq.trans av;refine aa ?_;apply I_<;>intro g2
  .have eP:j<(o.cells m.vars[k] m.scalars).toNat:=Ad
   refine aa ?_;refine J_ (TE m.vars[k].scalar bh (by unfold o.dX;omega)) ?_;rintro _ pc ⟨rfl,rfl⟩;refine aa ?_;intro bq dC e5 aD bS;have dn:=dM.ext aD;have C3:=qU.trans aD;have aE:(o.cellsOf 1 ((o.c4 m).take k) 0++o.fN 1 k (List.replicate j (o.e1 m.vars[k].scalar m.vars[k].aV m.vars[k].U m.scalars)) 0).length=o.total ((o.c4 m).take k)+j:=by
    rw[MD,o.lj,o.vx,AF3]
   refine S_ (y:=⟨1,k,j,(o.bounds m.vars[k] m.scalars).1,(o.bounds m.vars[k] m.scalars).2,o.kindOf m.vars[k].scalar⟩) dn bS rfl (λ_=>rfl) o.EZ (by rw[aE];omega) (by rw[aE];unfold maxLen;omega) C3.size λaN n c bH dU ko=>?_;refine aa ?_;refine⟨eP,aK,(aN,n,c),a6,dn.kG C3 ko (EC _),?_⟩;rw[List.replicate_succ',o.SL,<-MV,AF3,o.z1];rw[o.z1] at dU;exact dU
  .have nw:j=(o.cells m.vars[k] m.scalars).toNat:=Ad
   refine aa ?_;refine⟨a7,aK,v,a6,qU,?_⟩;have aH:(0+((o.c4 m).take k).length:Nat)=k:=by rw[Hs];omega
   rw[Iu aF,yB,o.Aa,aH];rw[nw] at dM;exact dM
 have mg:m.vars.length<=k:=Ad
 rw[MC (by simpa[o.c4] using mg)] at ed;have Um:=o.Nv m aL m.vars.length;rw[MC (by simp[o.c4])] at Um;refine aa ?_;refine L_ 8 m.ax.length [1] (λv:fy=>[(3,.slice v.1 v.2.1 v.2.2)]) v (λk v W=>Ext w1 W/\aJ o.Cell.enc T.tX 6 w1.heap.size W (.slice v.1 v.2.1 v.2.2) (o.cellsOf 1 (o.c4 m) 0++o.cellsOf 2 ((o.dG m).take k) 0)) a6 a6 ⟨ai,by simpa[o.cellsOf] using ed⟩ ?_;clear al ed ai aH;rintro k v S aA hk ⟨ai,ed⟩;have al:=ai.obj sE;have aH:=ag.trans ai;refine aa ?_;apply I_<;>intro g2
 .have a7:k<m.ax.length:=Ad
  obtain⟨a,rfl⟩:=I.addr;have dH:=((I.at k a7).cells).ext aH;have c8:=aL.chan _ (ED a7);have mj:=o.Pb c8 gf.1;have hL:=c8.cap;have aF:k<(o.dG m).length:=by simpa[o.dG] using a7
  have tV:=o.Ul m aL (k+1);rw[o.HE aF] at tV;have yB:(o.dG m)[k]=o.nQ m.scalars m.ax[k]:=by simp[o.dG]
  rw[yB,o.wy] at tV;have AE:(o.cellsOf 1 (o.c4 m) 0++o.cellsOf 2 ((o.dG m).take k) 0).length=o.total (o.c4 m)+o.total ((o.dG m).take k):=by rw[MD,o.lj,o.lj]
  refine aa ?_;intro aM b9 lN ah cE;replace cE:aM.heap[b9]? = some (.cells m.ax[k].enc.toArray T.u):=cE;replace al:=ah.obj al;have eT:=ed.ext ah;clear dH;have gv:=ai.trans ah;refine aa ?_;intro aU c6 fT aq bo;have dD:=eT.ext aq;have n0:=gv.trans aq;refine S_ (y:=⟨2,k,0,0,m.ax[k].cap,0⟩) dD bo rfl (λ_=>rfl) o.EZ (by rw[AE];omega) (by rw[AE];unfold maxLen;omega) n0.size λaN n c bh dM mP=>?_;have al:=dD.box mP (aq.obj al) By;have cE:=dD.box mP (aq.obj cE) By;have qU:=dD.kG n0 mP (EC _);have bC:=ag.trans qU;have ayh:=cq cE;clear ed eT bo fT aq ah lN;refine dS ?_;simp -dsimp only[cH];refine dS ?_;intro bq aD;replace al:=aD.obj al;replace cE:=aD.obj cE;have dn:=dM.ext aD;have b6:=bC.trans aD;have C3:=qU.trans aD;refine R_ [1,3,8,9] (λ_:Unit=>[(10,.I (o.lk m.scalars m.ax[k]).aV),(11,.I (o.lk m.scalars m.ax[k]).U)]) (λ_ W=>Ext bq W) ?_ ?_
  .refine aa ?_;apply I_<;>intro g3
   .obtain⟨i,U,Gw,RX⟩:=o.ahX c8 Ad;obtain⟨a0,rfl⟩:=ad.addr;have gu:=((ad.at i U).cells).ext b6;refine aa ?_;refine K_ i Ad U ?_;refine aa ?_;intro bH bc;refine aa ?_;have e:o.lk m.scalars m.ax[k]=⟨0,m.scalars[i].size,m.ax[k].scalar+1⟩:=by unfold o.lk o.e1;rw[if_neg Ad,RX]
    rw[e];exact⟨(),a6,bc⟩
   .have hl:m.ax[k].scalar=0:=Ad
    refine aa ?_;have e:o.lk m.scalars m.ax[k]=⟨min 0 m.ax[k].aV,max 0 m.ax[k].U,0⟩:=by unfold o.lk o.e1;rw[if_pos hl,Int.min_comm,Int.max_comm]
    rw[e];exact⟨(),a6,Ext.refl _⟩
  rintro _ S bH bc;replace al:=bc.obj al;replace cE:=bc.obj cE;have dU:=dn.ext bc;have C4:=C3.trans bc;have yX:o.lk m.scalars m.ax[k]=⟨(o.lk m.scalars m.ax[k]).aV,(o.lk m.scalars m.ax[k]).U,o.kindOf m.ax[k].scalar⟩:=by
   unfold o.lk o.e1 o.kindOf;split<;>rfl
  have KO:∀{W:A_},W.heap[b9]? = bH.heap[b9]? -> _:=λe=>e.trans cE;refine aa ?_;refine _M [1,8,9,10,11] (λx:fy×Nat=>[(3,.slice x.1.1 x.1.2.1 x.1.2.2),(12,.I ((x.2:Int)+1))]) ((aN,n,c),0) (λx W=>(Ext w1 W/\W.heap[b9]? = bH.heap[b9]? /\ (x.2:Int)<=m.ax[k].cap)/\aJ o.Cell.enc T.tX 6 w1.heap.size W (.slice x.1.1 x.1.2.1 x.1.2.2) (o.cellsOf 1 (o.c4 m) 0++o.cellsOf 2 ((o.dG m).take k) 0++o.fN 2 k (⟨0,m.ax[k].cap,0⟩ :: List.replicate x.2 (o.lk m.scalars m.ax[k])) 0)) (λx=>(m.ax[k].cap - x.2).toNat) a6 ⟨⟨C4,rfl,by simp only;omega⟩,by simpa[o.fN] using dU⟩ ?_;clear al cE dU dn dM;rintro⟨v,j⟩ S cB ⟨⟨F1,lN,az⟩,gw⟩;have al:=F1.obj sE;have cE:=KO lN;simp only at az;refine aa ?_;apply I_<;>intro g4
  .refine aa ?_;refine J_ (TE m.ax[k].scalar cB (by unfold o.dX;omega)) ?_;rintro _ pc ⟨rfl,rfl⟩;refine aa ?_;intro cG rD wT b2 h4;have fu:=gw.ext b2;have F2:=F1.trans b2;have aE:(o.cellsOf 1 (o.c4 m) 0++o.cellsOf 2 ((o.dG m).take k) 0++o.fN 2 k (⟨0,m.ax[k].cap,0⟩ :: List.replicate j (o.lk m.scalars m.ax[k])) 0).length=o.total (o.c4 m)+o.total ((o.dG m).take k)+(j+1):=by
    rw[MD,AE,o.vx,AG7,AF3]
   refine S_ (y:=⟨2,k,(j:Int)+1,(o.lk m.scalars m.ax[k]).aV,(o.lk m.scalars m.ax[k]).U,o.kindOf m.ax[k].scalar⟩) fu h4 rfl (λ_=>rfl) o.EZ (by rw[aE];omega) (by rw[aE];unfold maxLen;omega) F2.size λaN n c ew oc mO=>?_;have al3:=fu.box mO (b2.obj cE) By;refine aa ?_;refine⟨((aN,n,c),j+1),a6,⟨⟨fu.kG F2 mO (EC _),al3.trans (KO rfl).symm,by simp only;omega⟩,?_⟩,by simp only;omega⟩;rw[List.replicate_succ',<-List.cons_append,o.SL,<-MV,AG7,AF3];rw[yX] at oc ⊢;exact oc
  .refine aa ?_;refine⟨a7,aK,v,a6,F1,?_⟩;have aH:(0+((o.dG m).take k).length:Nat)=k:=by rw[Hs];omega
   have Ah:j=m.ax[k].cap.toNat:=Ad
   rw[Iu aF,yB,o.Aa,aH,<-MV];rw[Ah] at gw;exact gw
 have rU:m.ax.length<=k:=Ad
 rw[MC (by simpa[o.dG] using rU)] at ed;refine aa ?_;refine J_ (s0 _ m aA (h.ext aH) aG) ?_;rintro bK rj ⟨dP,u9⟩;obtain⟨b8,ci,rfl,_⟩:=dP.form;have Ri:∀{W:A_},eR [T.tX] rj W->ik W (.slice b8 (o.insts m).length ci) (o.insts m):=λk=>aJ.e3 (enc:=o.cO.enc) (λ_=>rfl) (dP.iy k By);have kp:(o.insts m).length<=30:=by have:=o.vo m;have:=aL.procs;omega
 have abl:=ed.ext u9;have aaC:=ai.trans u9;have ax8:=u9.size;refine aa ?_;refine L_ 14 (o.insts m).length [1,13] (λv:fy=>[(3,.slice v.1 v.2.1 v.2.2)]) v (λk v W=>(Ext w1 W/\eR [T.tX] rj W)/\aJ o.Cell.enc T.tX 6 w1.heap.size W (.slice v.1 v.2.1 v.2.2) (o.cellsOf 1 (o.c4 m) 0++o.cellsOf 2 (o.dG m) 0++o.cellsOf 3 ((o.fF m).take k) 0)) a6 a6 ⟨⟨aaC,eR.refl⟩,by simpa[o.cellsOf] using abl⟩ ?_;clear al ed ai aH abl u9 aaC;rintro k v S aA hk ⟨⟨ai,o0⟩,ed⟩;have en:=Ri o0;have al:=ai.obj sE;have aH:=ag.trans ai;refine aa ?_;apply I_<;>intro g3
 .have a7:k<(o.insts m).length:=Ad
  obtain⟨gp,rfl⟩:=en.addr;have qe:=o.q5 _ (ED a7);obtain⟨p,ar,hd,qQ⟩:=o.A6 qe;have c8:=aL.proc _ (ED ar);have aa6:=c8.cm;have p9:=c8.gf.1;obtain⟨a,rfl⟩:=ab.addr;obtain⟨kr,bY,dV,c3,eQ,er⟩:=ab.at p ar;obtain⟨ei,eW,rfl,e6⟩:=eQ.form;obtain⟨o6,oM,rfl,lc⟩:=er.form;replace c3:=c3.ext aH;have aF:k<(o.fF m).length:=by simpa[o.fF] using a7
  have tV:=o.aff m aL (k+1);rw[o.HE aF] at tV;have yB:(o.fF m)[k]=o.vG m.scalars m.procs[p]:=by simp[o.fF,qQ]
  rw[yB,o.Bn] at tV;have AE:(o.cellsOf 1 (o.c4 m) 0++o.cellsOf 2 (o.dG m) 0++o.cellsOf 3 ((o.fF m).take k) 0).length=o.total (o.c4 m)+o.total (o.dG m)+o.total ((o.fF m).take k):=by rw[MD,MD,o.lj,o.lj,o.lj]
  refine aa ?_;intro aM ah;replace c3:=c3.ext ah;replace al:=ah.obj al;replace en:=en.ext Flat.ext ah;have eT:=ed.ext ah;have gv:=ai.trans ah;refine aa ?_;refine K_ p hd ar ?_;refine aa ?_;intro wn zY FK e8 eC;refine⟨e8,?_⟩;refine aa ?_;intro aU dQ bo;have Kj:Ext aM aU:=dQ.ext e8 FK;replace bo:aU.heap[zY]? = some (.cells (m.procs[p].enc (.slice ei m.procs[p].vars.length eW) (.slice o6 m.procs[p].c0.length oM)).toArray T.k):=bo;unfold o.dt.enc at bo;replace al:=Kj.obj al;have dD:=eT.ext Kj;have n0:=gv.trans Kj;clear dQ e8 eC c3 eT ed en;refine aa ?_;intro bh dF jt av bI;have dM:=dD.ext av;have qU:=n0.trans av;refine S_ (y:=⟨3,k,0,0,m.procs[p].cm - 1,0⟩) dM bI rfl (λ_=>rfl) o.EZ (by rw[AE];omega) (by rw[AE];unfold maxLen;omega) qU.size λaN n c bq dn iF=>?_;have al:=dM.box iF (av.obj al) By;have AA:=dM.box iF (av.obj bo) By;have C3:=dM.kG qU iF (EC _);have SH:eR [T.tX] rj bq:=((o0.trans (eR.ext (ah.trans Kj))).trans (eR.ext av)).trans (acx dM iF);clear bo dD;have abI:∀{W:A_},W.heap[zY]? = bq.heap[zY]? -> _:=λe=>e.trans AA;refine aa ?_;refine L_ 16 m.procs[p].vars.length [1,13,14,15] (λv:fy=>[(3,.slice v.1 v.2.1 v.2.2)]) (aN,n,c) (λj v W=>((Ext w1 W/\eR [T.tX] rj W)/\W.heap[zY]? = bq.heap[zY]?)/\aJ o.Cell.enc T.tX 6 w1.heap.size W (.slice v.1 v.2.1 v.2.2) (o.cellsOf 1 (o.c4 m) 0++o.cellsOf 2 (o.dG m) 0++o.cellsOf 3 ((o.fF m).take k) 0++o.fN 3 k (⟨0,m.procs[p].cm - 1,0⟩ :: (m.procs[p].vars.take j).map λv=>o.e1 v.scalar v.aV v.U m.scalars) 0)) a6 a6 ⟨⟨⟨C3,SH⟩,rfl⟩,by simpa[o.fN] using dn⟩ ?_;clear al AA dn;rintro j v S bH az ⟨⟨⟨C4,vv⟩,FK⟩,dU⟩;have al:=C4.obj sE;have AA:=abI FK;have cM:=ag.trans C4;refine aa ?_;apply I_<;>intro g4
  .have eP:j<m.procs[p].vars.length:=Ad
   obtain⟨rC,rfl⟩:=eQ.addr;have dH:=((eQ.at j eP).cells).ext cM;have R9:=c8.var _ (ED eP);have mj:=o.Nz R9 gf.1;refine aa ?_;refine P_ (.tuple #[.I (o.bounds m.procs[p].vars[j] m.scalars).1,.I (o.bounds m.procs[p].vars[j] m.scalars).2]) (λw' e=>TC m.procs[p].vars[j] _ m.scalars w' (ad.ext (cM.trans e))) ?_;refine aa ?_;intro cB bt;replace al:=bt.obj al;replace AA:=bt.obj AA;replace dH:=dH.ext bt;have gw:=dU.ext bt;have F1:=C4.trans bt;refine aa ?_;refine J_ (TE m.procs[p].vars[j].scalar cB (by unfold o.dX;omega)) ?_;rintro _ pc ⟨rfl,rfl⟩;refine aa ?_;intro cG b9 lN b2 cE;have fu:=gw.ext b2;have F2:=F1.trans b2;have aE:(o.cellsOf 1 (o.c4 m) 0++o.cellsOf 2 (o.dG m) 0++o.cellsOf 3 ((o.fF m).take k) 0++o.fN 3 k (⟨0,m.procs[p].cm - 1,0⟩ :: (m.procs[p].vars.take j).map λv=>o.e1 v.scalar v.aV v.U m.scalars) 0).length=o.total (o.c4 m)+o.total (o.dG m)+o.total ((o.fF m).take k)+(j+1):=by
    rw[MD,AE,o.vx,AG7,AK0,Hs];omega
   have cu:((m.procs[p].vars.take j).map λv=>o.e1 v.scalar v.aV v.U m.scalars).length=j:=by simp;omega
   refine S_ (y:=⟨3,k,1+(j:Int),(o.bounds m.procs[p].vars[j] m.scalars).1,(o.bounds m.procs[p].vars[j] m.scalars).2,o.kindOf m.procs[p].vars[j].scalar⟩) fu cE rfl (λ_=>rfl) o.EZ (by rw[aE];omega) (by rw[aE];unfold maxLen;omega) F2.size λaN n c ew oc mO=>?_;have alI:=fu.box mO (b2.obj AA) By;refine aa ?_;refine⟨eP,aK,(aN,n,c),a6,⟨⟨fu.kG F2 mO (EC _),(vv.trans (eR.ext (bt.trans b2))).trans (acx fu mO)⟩,alI.trans (abI rfl).symm⟩,?_⟩;rw[Iu eP,AF1,<-List.cons_append,AG1,AJ6,o.SL,<-MV,AG7,cu,o.z1 m.procs[p].vars[j],show((j+1:Nat):Int)=1+(j:Int) from Ad];exact oc
  .refine aa ?_;refine⟨a7,aK,v,a6,⟨C4,vv⟩,?_⟩;have aH:(0+((o.fF m).take k).length:Nat)=k:=by rw[Hs];omega
   rw[MC (l:=m.procs[p].vars) Ad] at dU;rw[Iu aF,yB,o.Aa,aH,<-MV];exact dU
 .rw[MC (by simp[o.fF];omega)] at ed;refine aa ?_;exact⟨aJ.low ag.size ed,aH⟩
end Go.Proofs.R