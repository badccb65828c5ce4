/- Parts. -/
import Derived.Test.YtakmdjclehkglaaGreatDoorQawj
set_option linter.all false
set_option maxRecDepth 8000
set_option maxHeartbeats 16000000
section
namespace o
theorem apJ{m:Model}(h:(pL m).cC=0):pL m=uA:=R4 (Lw h)
end o
namespace Go.Proofs.R
open Go Go.RowKit a7
theorem agF(b:Nat)(w:A_):CallsD Tryz.prog F.g #[.pointer (some ⟨b,0,none⟩)] .returning w fun e kg w'=>kg = .returning/\∃v,e = .returned v/\w'=w:=by
 refine AA3 lz T0.g (args:=[_]) (Nat.le_of_ble_eq_true rfl) ?_;dsimp only[MC.g];refine nV ?_;dsimp only[pN];refine aa ?_;refine AC6 Cq ?_
 (repeat' first
 | assumption
 | exact Ext.refl _
 | refine Ext.trans ?_ Br
 | refine Q_ Aw ?_
 | refine _L Br ?_ rfl ?_
 | refine _C Br ?_ rfl ?_
 | refine _Q Br ?_ Aw rfl ?_
 | refine _R Br ?_ Aw rfl ?_
 | refine _S Br ?_ Aw rfl ?_
 | refine _V Aw ?_
 | refine _T (by first | assumption | omega) ?_
 | refine _U (by first | assumption | omega) ?_
 | refine _F Br ?_
 | refine _G Br ?_
 | simp -dsimp only[cV,cu,Nat.reduceAdd,Nat.reduceEqDiff,reduceIte,reduceCtorEq,c3])
theorem agE(f:o.sL)(b:Nat)(w:A_)(an:w.heap[b]? = some (.cells #[.I 0,.I 0,.I 0,.I 0] T.x)) :
  CallsD Tryz.prog F.g #[.pointer (some ⟨b,0,none⟩)] (.panicking (xd f)) w fun e kg w'=>kg=(pN (.panicking (xd f))).2/\∃v,e = .returned v /\
   (w'.heap[b]? = some (.cells #[.I f.cC,.I f.part,.I f.item,.I f.sub] T.x)/\∀w0,Ext w0 w->w0.heap.size<=b->Ext w0 w'):=by
 refine AA3 lz T0.g (args:=[_]) (Nat.le_of_ble_eq_true rfl) ?_;dsimp only[MC.g];refine nV ?_;dsimp only[pN,xd];refine aa ?_;refine AC7 Cq ?_;refine aa ?_;refine AC8 rfl Cq ?_;refine aa ?_;intro w1 br cF ah al;have GF:=cr an;replace an:=ah.obj an;refine aa ?_;intro aB nD au;refine aa ?_;exact⟨au,fun w0 e az=>nD.ext (e.trans ah) az⟩
theorem yy(cs:C_ B_)(m:o.Model)(w:A_)(h:o.dU w cs m)(aH:m.cA)(aJ:gF w) :
  Dz F.sZ #[.agg cs.toArray] w fun v w'=>v = .agg #[.I (o.check m).cC,.I (o.check m).part,.I (o.check m).item,.I (o.check m).sub]/\Ext w w':=by
 obtain⟨bW,bu,bI,c1,bO,c2,bQ,bp,bZ,bB,rfl,_⟩:=h.form;refine AC2 lz aeA.sZ (args:=[_]) (Nat.le_of_ble_eq_true rfl) ?_;dsimp only[TY.sZ];refine nV ?_;refine aa ?_;intro w1 br cF ah al;refine aa ?_;intro aB bP db aj au;replace al:=aj.obj al;have gq:=cr al;have z5:=cr au;refine aa ?_;refine AC3 Cq ?_;refine aa ?_;refine _g fun aK ck pC ag iY=>?_;replace al:=ag.obj al;replace au:=ag.obj au;have z2:=cr au;have z3:=aj.size;have z4:=ah.size;have a1:=(ah.trans aj).trans ag;have NQ:∀(f:o.sL) (w':A_) (S:Fr),Ext w w'->w'.heap[bP]? = some (.cells #[.I 0,.I 0,.I 0,.I 0] T.x)->S 2 = .pointer (some ⟨bP,0,none⟩)->f=o.check m ->
   DZ Tryz.prog [.jm 4 2] F.g #[.pointer (some ⟨bP,0,none⟩)] (fun v w'=>v = .agg #[.I (o.check m).cC,.I (o.check m).part,.I (o.check m).item,.I (o.check m).sub]/\Ext w w') (.hj (xd f)) S w':=by
  rintro f w' S e ai b3 rfl;refine AC5 (uf.of (agE (o.check m) bP w' ai) rfl ?_);rintro aR ⟨an,he⟩;simp -dsimp only[cV,cu,Nat.reduceAdd,Nat.reduceEqDiff,reduceIte,reduceCtorEq,c3,b3];refine R_ an (Ext.refl _) rfl ?_;simp -dsimp only[cV,cu,Nat.reduceAdd,Nat.reduceEqDiff,reduceIte,reduceCtorEq,c3];exact⟨aL,he _ e Aw⟩
 refine aa ?_;refine X_ (ai5 _ m ck aK h a1 Aw aJ (fV.empty iY)) ?_ ?_;rotate_left
 .rintro c aR ⟨h1,rfl,bC,m4⟩;refine aa ?_;exact NQ _ aR _ bC (m4.obj Aw au) rfl (by rw[o.check,if_pos h1])
 rintro _ aR ⟨h1,bC,m4,pR⟩;replace al:=m4.obj Aw al;replace au:=m4.obj Aw au;refine aa ?_;refine X_ (apE _ m ck aR h aH bC Aw aJ h1 pR) ?_ ?_;rotate_left
 .rintro c bo ⟨I,rfl,bF,m5⟩;refine aa ?_;exact NQ _ bo _ bF (m5.obj Aw au) rfl (by rw[o.check,if_neg (by simpa using h1),if_pos I])
 rintro _ bo ⟨I,bF,m5,o7⟩;replace al:=m5.obj Aw al;replace au:=m5.obj Aw au;refine aa ?_;refine X_ (apI _ m ck bo h aH bF Aw aJ o7) ?_ ?_;rotate_left
 .rintro c bt ⟨ab,rfl,cg,m6⟩;refine aa ?_;exact NQ _ bt _ cg (m6.obj Aw au) rfl (by rw[o.check,if_neg (by simpa using h1),if_neg (by simpa using I)])
 rintro _ bt ⟨ab,cg,m6⟩;replace al:=m6.obj Aw al;replace au:=m6.obj Aw au;have lU:o.check m=o.uA:=by rw[o.check,if_neg (by simpa using h1),if_neg (by simpa using I),o.apJ ab]
 refine aa ?_;intro bG dy cf;refine aa ?_;refine AC4 (uf.of (agF bP bG) rfl ?_);rintro _ rfl;refine aa ?_;exact⟨by rw[lU];rfl,dy.ext cg Aw⟩
end Go.Proofs.R
end
section
namespace o
open Go
def dN.enc(b:dN):C_ B_:=[.int .i64 b.aQ,.int .i64 b.U,.int .i64 b.kind]
def Cell.slot(x:Cell):C_ B_:=[.int .i64 x.sort,.int .i64 x.xi,.int .i64 x.place,.int .i64 x.kind]
def Cell.enc(x:Cell):C_ B_:=[.int .i64 x.sort,.int .i64 x.xi,.int .i64 x.place,.int .i64 x.aQ,.int .i64 x.U,.int .i64 x.kind]
theorem xQ:∀(y:dN),∀u∈y.enc,u.oneCell'=true:=by intro y u hu;simp[dN.enc] at hu;rcases hu with rfl | rfl | rfl<;>rfl
theorem arG:∀(y:Cell),∀u∈y.slot,u.oneCell'=true:=by intro y u hu;simp[Cell.slot] at hu;rcases hu with rfl | rfl | rfl | rfl<;>rfl
theorem DO:∀(y:Cell),∀u∈y.enc,u.oneCell'=true:=by intro y u hu;simp[Cell.enc] at hu;rcases hu with rfl | rfl | rfl | rfl | rfl | rfl<;>rfl
end o
namespace Go.Proofs.R
open Go Go.RowKit a7
theorem anN(k:Int)(w:A_)(h:o.dP (k+1)):Dz F.bn #[.I k] w fun v w'=>v = .I (o.kindOf k)/\w'=w:=by
 unfold o.dP at h;refine bl E.bn ?_;unfold o.kindOf;refine aa ?_;apply I_<;>intro g1
 .refine aa ?_;exact⟨by rw[if_pos g1],aL⟩
 .refine aa ?_;exact⟨by rw[if_neg g1],aL⟩
theorem Sl(k:Int)(w:A_)(h:o.dP (k+1)):Dz F.KU #[.I k] w fun v w'=>v = .I (o.kindOf k)/\w'=w:=by
 unfold o.dP at h;refine bl E.KU ?_;unfold o.kindOf;refine aa ?_;apply I_<;>intro g1
 .refine aa ?_;exact⟨by rw[if_pos g1],aL⟩
 .refine aa ?_;exact⟨by rw[if_neg g1,Int.add_comm],aL⟩
theorem Rz(x:o.Var)(v:B_)(l:C_ o.Scalar)(w:A_)(az:o.h5 w v l)(h:o.dP (x.scalar+1)) :
  Dz F.a0 #[.agg x.enc.toArray,v] w fun v w'=>v = .agg (o.eS x.scalar x.aQ x.U l).enc.toArray/\Ext w w':=by
 obtain⟨ae,c,rfl,_⟩:=az.form;rw[o.zc];refine bl E.a0 ?_;refine aa ?_;intro w1 br cF ah al;refine aa ?_;intro aB bP db aj au;replace al:=aj.obj al;have gq:=cr al;have z2:=cr au;have e2:=ah.trans aj;refine aa ?_;refine J_ (Hl x _ l aB (az.ext e2)) ?_;rintro _ aK ⟨rfl,ag⟩;replace al:=ag.obj al;replace au:=ag.obj au;have a1:=e2.trans ag;refine aa ?_;refine J_ (anN x.scalar aK h) ?_;rintro _ oC ⟨rfl,rfl⟩;refine aa ?_;intro aR dq bf;refine aa ?_;exact⟨aL,dq.ext a1 (by have:=ah.size;omega)⟩
theorem an0(cs:C_ B_)(m:o.Model)(w:A_)(h:o.dU w cs m)(aH:m.cA)(aJ:gF w) :
  Dz F.Hu #[.agg cs.toArray] w fun v w'=>v = .bool (decide ((o.check m).cC=0))/\Ext w w':=by
 obtain⟨bW,bu,bI,c1,bO,c2,bQ,bp,bZ,bB,rfl,_⟩:=h.form;refine bl E.Hu ?_;refine aa ?_;intro w1 br cF ah al;refine aa ?_;refine J_ (yy _ m w1 (h.ext ah) aH (aJ.ext ah)) ?_;rintro _ aB ⟨rfl,aj⟩;refine aa ?_;refine _K (v:=.I (o.check m).cC) rfl ?_;refine aa ?_;exact⟨aL,ah.trans aj⟩
end Go.Proofs.R
end
section
namespace a7
open Go Go.RowKit
theorem iA.congr{α:Type}{enc:α->C_ B_}{e:F_}{sz base n:Nat}{w:A_}{vs ub:Nat->H_ Addr×Nat×Nat}{xs GA:Nat->C_ α}(h:iA enc e sz base w n vs xs)(aD:∀i,i<n->vs i=ub i)(af:∀i,i<n->xs i=GA i):iA enc e sz base w n ub GA :=
 ⟨fun i U=>by rw[<-aD i U,<-af i U];exact h.own i U,fun i j k U aC b8 he=>by rw[<-aD j aC];rw[<-aD i U] at he;exact h.apart i j k U aC b8 he⟩
theorem OE{S:Fr}{t:Nat}{n:Int}(h:S t = .I n):eZ S ((List.range 1).map fun i=>(i*1,1)) [(0,.tmp t)] [.I 0]=some [.I n]:=by
 simp[eZ,lay,c0,h,Value.cells,List.range,List.range.loop]
structure eC(cv:List TypeId)(w w':World):Prop where
 size:w.heap.size<=w'.heap.size
 cm:∀(k:Nat) (c:Array Value) (t:TypeId),w.heap[k]? = some (.cells c t)->t∉cv->w'.heap[k]? = some (.cells c t)
section
variable{cv:List TypeId}{a b w w':World}
theorem eC.refl:eC cv w w:=⟨Gf _,fun _ _ _ h _=>h⟩
theorem eC.trans{c:A_}(h:eC cv a b)(k:eC cv b c):eC cv a c:=⟨Ru h.size k.size,fun i c t ai aA=>k.cm i c t (h.cm i c t ai aA) aA⟩
theorem eC.ext(h:Ext a b):eC cv a b:=⟨h.size,fun _ _ _ ai _=>h.obj ai⟩
theorem eC.mod{A:Nat->Prop}(h:Mod A a b)(c4:∀(k:Nat) (c:Array B_) (t:F_),a.heap[k]? = some (.cells c t)->A k->t∈cv):eC cv a b:=⟨h.size,fun k c t ai aA=>h.obj (fun hk=>aA (c4 k c t ai hk)) ai⟩
theorem eC.wr{k:Nat}{c:Array B_}{t:F_}{f:Nat×Nat}(h:di k a b)(ai:a.heap[k]? = some (.cells c t f))(aA:t∈cv):eC cv a b:=eC.mod (h.mod (A:=fun i=>i=k) rfl) fun i kC hP nv e=>by
 subst e;rw[ai] at nv;injection nv with nv;injection nv with _ e;exact e ▸ aA
theorem aP.ig{α:Type}{enc:α->C_ B_}{e:F_}{sz base:Nat}{v:B_}{xs:C_ α}(h:aP enc e sz base a v xs)(k:eC cv a b)(he:e∉cv):aP enc e sz base b v xs:=by
 refine⟨h.1,?_⟩;rcases h.2 with ax | ⟨g,cap,cur,rfl,an,aH,rest⟩
 .exact .inl ax
 .exact .inr ⟨g,cap,cur,rfl,an,k.cm _ _ _ aH he,rest⟩
end
end a7
namespace o
structure gW where
 V:List Int
 C:List Int
 cW:List Int
 n:Nat
 L:List Int
 H:List Int
 Z:List Cell
def gW.of(V C cW:C_ Int)(cs:C_ Cell):gW:=⟨V,C,cW,cs.length,cs.map (·.aQ),cs.map (·.U),cs⟩
def gW.rows(s:gW):Nat->C_ Int:=fun i=>if i=0 then s.V else if i=1 then s.C else if i=2 then s.cW else if i=3 then s.L else s.H
end o
namespace Go.Proofs.R
open Go Go.RowKit a7
def tE:C_ F_:=[T.a,T.q,T.h,T.vy]
structure kT(w1:World)(bJ bs:Nat)(s:o.gW)(W:World):Prop where
 mod:Mod (fun k=>k=bJ\/k=bs) w1 W
 ex:∃(vs:Nat->gr) (u:gr),W.heap[bJ]? = some (.cells #[cj (vs 0),cj (vs 1),cj (vs 2),.int .i64 s.n,cj (vs 3),cj (vs 4)] T.h)/\iA cE T.a 1 w1.heap.size W 5 vs s.rows /\
  W.heap[bs]? = some (.cells #[cj u] T.vy)/\aP o.Cell.slot T.q 4 w1.heap.size W (cj u) s.Z
theorem kT.move{w1:A_}{bJ bs:Nat}{s:o.gW}{W bX:A_}{A:Nat->Prop}(h:kT w1 bJ bs s W)(m:Mod A W bX)(c4:∀(k:Nat) (c:Array B_) (t:F_),W.heap[k]? = some (.cells c t)->t∈tE->¬A k)(hf:∀k,A k->w1.heap.size<=k):kT w1 bJ bs s bX:=by
 obtain⟨vs,u,h1,I,ab,aE⟩:=h.ex;refine⟨h.mod.comp m (fun _ _ a=>a) fun k hk a=>absurd (hf k a) Aw,vs,u,m.obj (c4 _ _ _ h1 BJ) h1,I.mod m fun i k U hk=>?_,m.obj (c4 _ _ _ ab BJ) ab,aE.mod m fun k hk=>?_⟩
 .obtain⟨cur,ai⟩:=(I.own i U).cm k hk;exact c4 _ _ _ ai BJ
 .obtain⟨cur,ai⟩:=aE.cm k hk;exact c4 _ _ _ ai BJ
theorem kT.ext{w1:A_}{bJ bs:Nat}{s:o.gW}{W bX:A_}(h:kT w1 bJ bs s W)(e:Ext W bX):kT w1 bJ bs s bX:=h.move (A:=fun _=>False) e.mod (fun _ _ _ _ _ h=>h) fun _ h=>h.elim
structure nT(w1:World)(s:o.gW)(x:o.dN)(fP:Fr)(w0:World)(vs:Nat->gr)(a33:Addr)(d25 d26 d31 d32 d33:Bool)(S:Fr)(w:World):Prop where
 hC:∀t,t∉[25,26,31,32,33,34]->S t=fP t
 mod:Mod (fun k=>(cj (vs 3)).ownBlock=some k\/(cj (vs 4)).ownBlock=some k) w0 w
 rows:∃v3 v4,iA cE T.a 1 w1.heap.size w 5 (dK (dK vs 3 v3) 4 v4) (dK (dK s.rows 3 (if d26 then s.L++[x.aQ] else s.L)) 4 (if d32 then s.H++[x.U] else s.H))/\(d26=false->v3=vs 3)/\(d32=false->v4=vs 4) /\
  (d26=true->S 26=cj v3)/\(d32=true->S 32=cj v4)
 yK:d25=true->d26=false->∃b,S 25 = .slice (some ⟨b,0,none⟩) 1 1/\w0.heap.size<=b/\w.heap[b]? = some (.cells #[.int .i64 x.aQ] T.a)
 F2:d31=true->d32=false->∃b,S 31 = .slice (some ⟨b,0,none⟩) 1 1/\w0.heap.size<=b/\w.heap[b]? = some (.cells #[.int .i64 x.U] T.a)
 F3:d33=true->S 33 = .pointer (some a33)
section
variable{w1 w0 w:World}{s:o.gW}{x:o.dN}{fP S:Fr}{vs:Nat->gr}{a33:Addr}{d25 d26 d31 d32 d33:Bool}{K:Value->World->Prop}
theorem nT.abI(h:nT w1 s x fP w0 vs a33 false false d31 d32 d33 S w)(vX:fP 24 = .I x.aQ)(hk:∀v w',nT w1 s x fP w0 vs a33 true false d31 d32 d33 (put S (some 25) v) w'->K v w') :
  nN Tryz.prog (.kB T.a 1 1 [.I 0] [(0,.tmp 24)]) S w K:=by
 have he:Ext w (w.alloc (.cells #[.I x.aQ] T.a)):=(Ext.refl w).alloc _;refine DJ (OE (by rw[h.hC 24 BJ,vX])) (hk _ _ ⟨fun t aA=>?_,h.mod.trans he.mod,?_,fun _ _=>⟨_,by simp[iM,bL],h.mod.size,heap_alloc_new w _⟩,fun a b=>?_,fun a=>by rw[iM,bL,if_neg BJ];exact h.F3 a⟩)
 .rw[iM,bL,if_neg (by intro e;subst e;simp at aA)];exact h.hC t aA
 .obtain⟨v3,v4,h1,I,ab,aE,aY⟩:=h.rows;exact⟨v3,v4,h1.ext he,I,ab,fun e=>(by cases e),fun e=>by rw[iM,bL,if_neg BJ];exact aY e⟩
 .obtain⟨b,h1,I,ab⟩:=h.F2 a b;exact⟨b,by rw[iM,bL,if_neg BJ];exact h1,I,he.obj ab⟩
theorem nT.RI(h:nT w1 s x fP w0 vs a33 d25 d26 false false d33 S w)(ajh:fP 30 = .I x.U)(hk:∀v w',nT w1 s x fP w0 vs a33 d25 d26 true false d33 (put S (some 31) v) w'->K v w') :
  nN Tryz.prog (.kB T.a 1 1 [.I 0] [(0,.tmp 30)]) S w K:=by
 have he:Ext w (w.alloc (.cells #[.I x.U] T.a)):=(Ext.refl w).alloc _;refine DJ (OE (by rw[h.hC 30 BJ,ajh])) (hk _ _ ⟨fun t aA=>?_,h.mod.trans he.mod,?_,fun a b=>?_,fun _ _=>⟨_,by simp[iM,bL],h.mod.size,heap_alloc_new w _⟩,fun a=>by rw[iM,bL,if_neg BJ];exact h.F3 a⟩)
 .rw[iM,bL,if_neg (by intro e;subst e;simp at aA)];exact h.hC t aA
 .obtain⟨v3,v4,h1,I,ab,aE,aY⟩:=h.rows;exact⟨v3,v4,h1.ext he,I,ab,fun e=>by rw[iM,bL,if_neg BJ];exact aE e,fun e=>by cases e⟩
 .obtain⟨b,h1,I,ab⟩:=h.yK a b;exact⟨b,by rw[iM,bL,if_neg BJ];exact h1,I,he.obj ab⟩
theorem nT.Nv(h:nT w1 s x fP w0 vs a33 true false d31 d32 d33 S w)(ajg:fP 22=cj (vs 3))(b4:∀i k,i<5->(cj (vs i)).ownBlock=some k->k<w0.heap.size)(an:w1.heap.size<=w0.heap.size)(hm:s.L.length<=100000)
  (hk:∀v w',nT w1 s x fP w0 vs a33 true true d31 d32 d33 (put S (some 26) v) w'->K v w') :
  nN Tryz.prog (.app T.b T.a 1 8 (.tmp 22) (.tmp 25)) S w K:=by
 obtain⟨b,e1,e2,a1⟩:=h.yK rfl rfl;obtain⟨v3,v4,h1,I,ab,aE,aY⟩:=h.rows;obtain rfl:=I rfl;show yU Tryz.prog T.b T.a 1 8 (S 22) (S 25) w K;rw[h.hC 22 BJ,ajg,e1];have wv:=h.mod.size;refine iA.app (vs:=dK (dK vs 3 (vs 3)) 4 v4) (xs:=dK (dK s.rows 3 (if false=true then s.L++[x.aQ] else s.L)) 4 (if d32=true then s.H++[x.U] else s.H)) (y:=x.aQ) 3 BJ h1 (fun _=>rfl) (gN a1) lQ (by simp[dK];omega) (by simp[dK];unfold maxLen;omega) Aw fun bS w' aJ aH _=>?_;have aS:Mod (fun k=>(cj (vs 3)).ownBlock=some k) w w':=Mod.grown aH fun k hk=>hk;refine hk _ _ ⟨fun t aA=>?_,h.mod.trans (aS.AI fun k hk=>.inl hk),?_,fun _ e=>(by cases e),fun a b=>?_,fun a=>by rw[iM,bL,if_neg BJ];exact h.F3 a⟩
 .rw[iM,bL,if_neg (by intro e;subst e;simp at aA)];exact h.hC t aA
 .refine⟨bS,v4,aJ.congr (fun i U=>?_) (fun i U=>?_),fun e=>(by cases e),ab,fun _=>by simp[iM,bL],fun e=>by rw[iM,bL,if_neg BJ];exact aY e⟩
  .unfold dK;by_cases a:i=3
   .subst a;simp
   .simp[a]
  .unfold dK;by_cases a:i=3
   .subst a;simp
   .simp[a]
 .obtain⟨fG,h1,I,ab⟩:=h.F2 a b;exact⟨fG,by rw[iM,bL,if_neg BJ];exact h1,I,aS.obj (fun e=>by have:=b4 3 fG BJ e;omega) ab⟩
theorem nT.Nw(h:nT w1 s x fP w0 vs a33 true true true false d33 S w)(OT:fP 28=cj (vs 4))(an:w1.heap.size<=w0.heap.size)(hm:s.H.length<=100000)
  (hk:∀v w',nT w1 s x fP w0 vs a33 true true true true d33 (put S (some 32) v) w'->K v w') :
  nN Tryz.prog (.app T.b T.a 1 8 (.tmp 28) (.tmp 31)) S w K:=by
 obtain⟨b,e1,e2,a1⟩:=h.F2 rfl rfl;obtain⟨v3,v4,h1,I,ab,aE,aY⟩:=h.rows;obtain rfl:=ab rfl;show yU Tryz.prog T.b T.a 1 8 (S 28) (S 31) w K;rw[h.hC 28 BJ,OT,e1];have wv:=h.mod.size;refine iA.app (vs:=dK (dK vs 3 v3) 4 (vs 4)) (xs:=dK (dK s.rows 3 (if true=true then s.L++[x.aQ] else s.L)) 4 (if false=true then s.H++[x.U] else s.H)) (y:=x.U) 4 BJ h1 (fun _=>rfl) (gN a1) lQ (by simp[dK];omega) (by simp[dK];unfold maxLen;omega) Aw fun bS w' aJ aH _=>?_;have aS:Mod (fun k=>(cj (vs 4)).ownBlock=some k) w w':=Mod.grown aH fun k hk=>hk;refine hk _ _ ⟨fun t aA=>?_,h.mod.trans (aS.AI fun k hk=>.inr hk),?_,fun _ e=>(by cases e),fun _ e=>(by cases e),fun a=>by rw[iM,bL,if_neg BJ];exact h.F3 a⟩
 .rw[iM,bL,if_neg (by intro e;subst e;simp at aA)];exact h.hC t aA
 .refine⟨v3,bS,aJ.congr (fun i U=>?_) (fun i U=>?_),fun e=>(by cases e),fun e=>(by cases e),fun e=>by rw[iM,bL,if_neg BJ];exact aE e,fun _=>by simp[iM,bL]⟩
  .unfold dK;by_cases a:i=4
   .subst a;simp
   .simp[a]
  .unfold dK;by_cases a:i=4
   .subst a;simp
   .simp[a]
theorem nT.SO(h:nT w1 s x fP w0 vs a33 d25 d26 d31 d32 d33 S w):nT w1 s x fP w0 vs a33 d25 d26 d31 d32 true (cb S 33 (.pointer (some a33))) w:=by
 have q:∀t,t≠33->cb S 33 (.pointer (some a33)) t=S t:=fun t aA=>by rw[bL,if_neg aA]
 refine⟨fun t aA=>?_,h.mod,?_,fun a b=>?_,fun a b=>?_,fun _=>by simp[bL]⟩
 .rw[q t (by intro e;subst e;simp at aA)];exact h.hC t aA
 .obtain⟨v3,v4,h1,I,ab,aE,aY⟩:=h.rows;exact⟨v3,v4,h1,I,ab,fun e=>by rw[q _ BJ];exact aE e,fun e=>by rw[q _ BJ];exact aY e⟩
 .obtain⟨fG,h1,I⟩:=h.yK a b;exact⟨fG,by rw[q _ BJ];exact h1,I⟩
 .obtain⟨fG,h1,I⟩:=h.F2 a b;exact⟨fG,by rw[q _ BJ];exact h1,I⟩
end
end Go.Proofs.R
end
section
namespace Go.Proofs.R
open Go Go.RowKit a7
def kS(b:Nat)(w w':A_):Prop := ∀j,j<3->w'.cell? (Addr.add ⟨b,0,none⟩ j)=w.cell? (Addr.add ⟨b,0,none⟩ j)
theorem kS.refl{b:Nat}{w:A_}:kS b w w:=fun _ _=>rfl
theorem kS.trans{b:Nat}{w w' bM:A_}(h:kS b w w')(k:kS b w' bM):kS b w bM:=fun j aC=>(k j aC).trans (h j aC)
theorem kS.of{b:Nat}{w w':A_}{bu c1 c2:B_}{l wN:C_ B_}{t hP:F_}{f uz:Nat×Nat}(h:w.heap[b]? = some (.cells (bu :: c1 :: c2 :: l).toArray t f))(bk:w'.heap[b]? = some (.cells (bu :: c1 :: c2 :: wN).toArray hP uz)):kS b w w':=fun j aC=>by
 have:j=0\/j=1\/j=2:=Aw
 rcases this with rfl | rfl | rfl
 .rw[fT h (v:=bu) rfl,fT bk (v:=bu) rfl]
 .rw[fT h (v:=c1) rfl,fT bk (v:=c1) rfl]
 .rw[fT h (v:=c2) rfl,fT bk (v:=c2) rfl]
theorem kS.ext{b:Nat}{w w':A_}(he:Ext w w')(h:b<w.heap.size):kS b w w':=fun j _=>by
 rw[add_eq];simp only[World.cell?,he.heap h]
def Wf:eJ:=(.take (fw 21 4 3) (.take (ey 22 21) (.take (fw 23 0 11) (.take (ey 24 23) (.take (fw 27 5 3) (.take (ey 28 27) (.take (fw 29 1 11) (.take (ey 30 29) (.alt (dC 25 (.kB T.a 1 1 [(.int .i64 0)] [(0,(aM 24))])) (.alt (dC 26 (.app T.b T.a 1 8 (aM 22) (aM 25))) (.take (fw 33 4 3) (.alt (dC 31 (.kB T.a 1 1 [(.int .i64 0)] [(0,(aM 30))])) (.fq (dC 32 (.app T.b T.a 1 8 (aM 28) (aM 31))) (.fq (ys 33 26) (.take (fw 34 5 3) (.fq (ys 34 32) .done .nil)) .nil) .nil) .nil)) (.alt (dC 31 (.kB T.a 1 1 [(.int .i64 0)] [(0,(aM 30))])) (.alt (dC 26 (.app T.b T.a 1 8 (aM 22) (aM 25))) (.take (fw 33 4 3) (.fq (dC 32 (.app T.b T.a 1 8 (aM 28) (aM 31))) (.fq (ys 33 26) (.take (fw 34 5 3) (.fq (ys 34 32) .done .nil)) .nil) .nil)) .nil) .nil)) (.alt (dC 31 (.kB T.a 1 1 [(.int .i64 0)] [(0,(aM 30))])) (.alt (dC 25 (.kB T.a 1 1 [(.int .i64 0)] [(0,(aM 24))])) (.alt (dC 26 (.app T.b T.a 1 8 (aM 22) (aM 25))) (.take (fw 33 4 3) (.fq (dC 32 (.app T.b T.a 1 8 (aM 28) (aM 31))) (.fq (ys 33 26) (.take (fw 34 5 3) (.fq (ys 34 32) .done .nil)) .nil) .nil)) .nil) .nil) .nil))))))))))
theorem mw{S:Fr}{n m:Nat}{v u:B_}(h:S m=u)(ax:m≠n):cb S n v m=u:=by rw[bL,if_neg ax];exact h
theorem ae8{w1 w:A_}{bJ bs bR:Nat}{s:o.gW}{x:o.dN}{S:Fr}{cK:Fr->A_->Prop}(b8:bJ≠bs)(hf:bJ<w1.heap.size/\bs<w1.heap.size)(ak:kT w1 bJ bs s w)(ab:S 3 = .pointer (some ⟨bJ,0,none⟩))(II:S 11 = .pointer (some ⟨bR,0,none⟩))
  (ai:w.heap[bR]? = some (.cells x.enc.toArray T.i))(hm:s.L.length<=100000)(Qc:s.H.length<=100000)
  (hk:∀aZ w',kT w1 bJ bs ⟨s.V,s.C,s.cW,s.n,s.L++[x.aQ],s.H++[x.U],s.Z⟩ w'->eC tE w w'->kS bJ w w'->cK aZ w'):∃C:A_->Prop,C w/\dZ Tryz.prog C Wf S w cK:=by
 obtain⟨vs,u,g1,g2,g3,g4⟩:=ak.ex;have tL:=g2.not g1 BJ;have o5:=g2.not ai BJ;refine⟨Mod (fun k=>(cj (vs 3)).ownBlock=some k\/(cj (vs 4)).ownBlock=some k) w,Mod.refl _ _,?_⟩;have rx:∀w',Mod (fun k=>(cj (vs 3)).ownBlock=some k\/(cj (vs 4)).ownBlock=some k) w w'->w'.heap[bJ]? = some (.cells #[cj (vs 0),cj (vs 1),cj (vs 2),.I s.n,cj (vs 3),cj (vs 4)] T.h) :=
  fun w' m=>m.obj (fun h=>h.elim (tL 3 BJ) (tL 4 BJ)) g1
 have eO:∀w',Mod (fun k=>(cj (vs 3)).ownBlock=some k\/(cj (vs 4)).ownBlock=some k) w w'->w'.heap[bR]? = some (.cells x.enc.toArray T.i) :=
  fun w' m=>m.obj (fun h=>h.elim (o5 3 BJ) (o5 4 BJ)) ai
 have dd:w1.heap.size<=w.heap.size:=ak.mod.size;unfold Wf;refine dZ.lr ab ?_;refine dZ.ld (v:=cj (vs 3)) (by simp[bL];rfl) (fun w' m=>fT (rx w' m) rfl) ?_;refine dZ.lr (a:=⟨bR,0,none⟩) (by simp[bL,II]) ?_;refine dZ.ld (v:=.I x.aQ) (by simp[bL];rfl) (fun w' m=>fT (eO w' m) rfl) ?_;refine dZ.lr (a:=⟨bJ,0,none⟩) (by simp[bL,ab]) ?_;refine dZ.ld (v:=cj (vs 4)) (by simp[bL];rfl) (fun w' m=>fT (rx w' m) rfl) ?_;refine dZ.lr (a:=⟨bR,0,none⟩) (by simp[bL,II]) ?_;refine dZ.ld (v:=.I x.U) (by simp[bL];rfl) (fun w' m=>fT (eO w' m) rfl) ?_;generalize zB:cb _ 30 _=xH;have a1:xH 3 = .pointer (some ⟨bJ,0,none⟩):=by subst zB;simp[bL,ab]
 have Oi:xH 22=cj (vs 3):=by subst zB;simp[bL]
 have H0:xH 24 = .I x.aQ:=by subst zB;simp[bL]
 have Oj:xH 28=cj (vs 4):=by subst zB;simp[bL]
 have Ol:xH 30 = .I x.U:=by subst zB;simp[bL]
 have dB:∀i,vs i=dK (dK vs 3 (vs 3)) 4 (vs 4) i:=fun i=>by
  unfold dK;by_cases a:i=4
  .subst a;simp
  .by_cases b:i=3
   .subst b;simp
   .simp[a,b]
 have ec:∀i,s.rows i=dK (dK s.rows 3 (if false=true then s.L++[x.aQ] else s.L)) 4 (if false=true then s.H++[x.U] else s.H) i:=fun i=>by
  unfold dK;by_cases a:i=4
  .subst a;simp[o.gW.rows]
  .by_cases b:i=3
   .subst b;simp[o.gW.rows]
   .simp[a,b]
 have t0:nT w1 s x xH w vs (Addr.add ⟨bJ,0,none⟩ 4) false false false false false xH w :=
  ⟨fun _ _=>rfl,Mod.refl _ _,⟨vs 3,vs 4,g2.congr (fun i U=>dB i) (fun i U=>ec i),
   fun _=>rfl,fun _=>rfl,fun e=>(by cases e),fun e=>(by cases e)⟩,fun e=>(by cases e),fun e=>(by cases e),fun e=>(by cases e)⟩
 have b4:∀i k,i<5->(cj (vs i)).ownBlock=some k->k<w.heap.size:=fun i k U he=>(g2.lt i k U he).2;have fin:∀S aB,nT w1 s x xH w vs (Addr.add ⟨bJ,0,none⟩ 4) true true true true true S aB->dZ Tryz.prog (Mod (fun k=>(cj (vs 3)).ownBlock=some k\/(cj (vs 4)).ownBlock=some k) w) (.fq (ys 33 26) (.take (fw 34 5 3) (.fq (ys 34 32) .done .nil)) .nil) S aB cK:=by
  intro S aB t;obtain⟨v3,v4,cO,_,_,gK,rC⟩:=t.rows;have af:=rx aB t.mod;refine dZ.zu ?_;show vx (S 33) (S 26) aB _;rw[t.F3 rfl,gK rfl];refine SJ fun mz=>_E af Bh rfl fun aK fY bh=>?_;show dZ _ _ _ S _ _;refine dZ.lr (a:=⟨bJ,0,none⟩) (by rw[t.hC 3 BJ,a1]) ?_;refine dZ.zu ?_;show vx (cb S 34 _ 34) (cb S 34 _ 32) aK _;rw[show cb S 34 (.pointer (some (Addr.add ⟨bJ,0,none⟩ 5))) 34 = .pointer (some (Addr.add ⟨bJ,0,none⟩ 5)) from by simp[bL],mw (rC rfl) BJ];refine SJ fun mz=>_E bh Bh rfl fun aR dq bf=>?_;have hw:=fY.trans dq;have ke:=cO.not af BJ;obtain⟨us,au3⟩:∃us,us=cj u:=⟨_,rfl⟩;refine hk _ _ ⟨?_,dK (dK vs 3 v3) 4 v4,u,?_,(cO.mod (hw.mod (A:=fun k=>k=bJ) rfl) fun i k U hk e=>ke i U (by rw[<-e];exact hk)).congr (fun _ _=>rfl) (fun i U=>?_),?_,?_⟩ ?_ ?_
  .refine(ak.mod.comp t.mod (B:=fun k=>k=bJ\/k=bs) (fun _ _ a=>a) fun i U a=>?_).trans (hw.mod (A:=fun k=>k=bJ\/k=bs) (.inl rfl));rcases a with a | a
   .have:=(g2.lt 3 i BJ a).1;omega
   .have:=(g2.lt 4 i BJ a).1;omega
  .exact bf
  .have:i=0\/i=1\/i=2\/i=3\/i=4:=Aw
   rcases this with rfl | rfl | rfl | rfl | rfl<;>simp[dK,o.gW.rows]
  .exact hw.obj (t.mod.obj (fun h=>h.elim (g2.not g3 BJ 3 BJ) (g2.not g3 BJ 4 BJ)) g3) (Ne.symm b8)
  .refine(g4.mod t.mod fun k hk h=>?_).mod (hw.mod (A:=fun k=>k=bJ) rfl) fun k hk e=>?_
   .obtain⟨cur,hD⟩:=g4.cm k hk;exact h.elim (g2.not hD BJ 3 BJ) (g2.not hD BJ 4 BJ)
   .obtain⟨cur,hD⟩:=g4.cm k hk;subst e;rw[g1] at hD;injection hD with hD;injection hD with _ e;exact absurd e BJ
  .refine(eC.mod t.mod fun k c hP ai a=>?_).trans (eC.wr hw af BJ);rcases a with a | a
   .obtain⟨cur,hD⟩:=(g2.own 3 BJ).cm k a;rw[ai] at hD;injection hD with hD;injection hD with _ e;rw[e];decide
   .obtain⟨cur,hD⟩:=(g2.own 4 BJ).cm k a;rw[ai] at hD;injection hD with hD;injection hD with _ e;rw[e];decide
  .exact kS.of g1 bf
 clear hk;refine⟨mg.e (t0.abI H0 fun v2 aB t2=>⟨t2.mod,?_,?_,trivial⟩),mg.e (t0.RI Ol fun v2 aB t2=>⟨t2.mod,?_⟩),trivial⟩
 .refine mg.e (t2.Nv Oi b4 dd hm fun v3 aK t3=>⟨t3.mod,?_⟩);refine dZ.lr (a:=⟨bJ,0,none⟩) (by rw[t3.hC 3 BJ,a1]) ?_;refine dZ.Bf (mg.e (t3.SO.RI Ol fun v4 aR t4=>⟨t4.mod,?_⟩));exact dZ.zu (pz.e (t4.Nw Oj dd Qc fun v5 bo t5=>fin _ _ t5))
 .refine mg.e (t2.RI Ol fun v3 aK t3=>⟨t3.mod,?_⟩);refine dZ.Bf (mg.e (t3.Nv Oi b4 dd hm fun v4 aR t4=>⟨t4.mod,?_⟩));refine dZ.lr (a:=⟨bJ,0,none⟩) (by rw[t4.hC 3 BJ,a1]) ?_;exact dZ.zu (pz.e (t4.SO.Nw Oj dd Qc fun v5 bo t5=>fin _ _ t5))
 .refine dZ.Bf (mg.e (t2.abI H0 fun v3 aK t3=>⟨t3.mod,?_⟩));refine dZ.Bf (mg.e (t3.Nv Oi b4 dd hm fun v4 aR t4=>⟨t4.mod,?_⟩));refine dZ.lr (a:=⟨bJ,0,none⟩) (by rw[t4.hC 3 BJ,a1]) ?_;exact dZ.zu (pz.e (t4.SO.Nw Oj dd Qc fun v5 bo t5=>fin _ _ t5))
end Go.Proofs.R
end
section
namespace Go.Proofs.R
open Go Go.RowKit a7
section
variable{w1:World}{bJ bs:Nat}{s:o.gW}{W bX:World}
theorem arF{vs:Nat->gr}{u:gr}{p6 lo rU:A_}{y:o.Cell}{bS:B_}(b8:bJ≠bs)(hm:Mod (fun k=>k=bJ\/k=bs) w1 W)(g1:W.heap[bJ]? = some (.cells #[cj (vs 0),cj (vs 1),cj (vs 2),.I s.n,cj (vs 3),cj (vs 4)] T.h))(g2:iA cE T.a 1 w1.heap.size W 5 vs s.rows)
  (g3:W.heap[bs]? = some (.cells #[cj u] T.vy))(g4:aP o.Cell.slot T.q 4 w1.heap.size W (cj u) s.Z)(he:Ext W p6)(aH:p6.grownBy lo (cj u).ownBlock)(aJ:aP o.Cell.slot T.q 4 w1.heap.size lo bS (s.Z++[y]))
  (hw:di bs lo rU)(ai:rU.heap[bs]? = some (.cells #[bS] T.vy)):kT w1 bJ bs ⟨s.V,s.C,s.cW,s.n,s.L,s.H,s.Z++[y]⟩ rU/\eC tE W rU/\kS bJ W rU:=by
 obtain⟨aO,cap,rfl,_⟩:=aJ.form;have yz:Mod (fun k=>(cj u).ownBlock=some k) p6 lo:=Mod.grown aH fun k hk=>hk;have l1:∀{k:Nat} {c:Array B_} {t:F_},W.heap[k]? = some (.cells c t)->t≠T.q->¬(cj u).ownBlock=some k:=fun {k c t} hk aA e=>by
  obtain⟨cur,h⟩:=g4.cm k e;rw[hk] at h;injection h with h;injection h with _ h;exact aA h
 have m6:∀{k:Nat} {c:Array B_} {t:F_},W.heap[k]? = some (.cells c t)->t≠T.q->lo.heap[k]? = some (.cells c t):=fun hk aA=>yz.obj (l1 hk aA) (he.obj hk);have tI:Mod (fun k=>k=bs) lo rU:=hw.mod rfl;refine⟨⟨?_,vs,(aO,_,cap),tI.obj b8 (m6 g1 BJ),?_,ai,aJ.mod tI fun k hk e=>?_⟩,?_,kS.of g1 (tI.obj b8 (m6 g1 BJ))⟩
 .have h1:Mod (fun k=>k=bJ\/k=bs) w1 p6:=hm.comp (A':=fun _=>False) he.mod (fun _ _ a=>a) fun _ _ a=>a.elim;have I:Mod (fun k=>k=bJ\/k=bs) w1 lo:=h1.comp yz (fun _ _ a=>a) fun i U a=>by have:=(g4.lt i a).1;omega
  exact I.trans (hw.mod (.inr rfl))
 .refine((g2.ext he).mod yz fun i k U hk e=>?_).mod tI fun i k U hk e=>?_
  .obtain⟨cur,h⟩:=(g2.own i U).cm k hk;exact l1 h BJ e
  .subst e;obtain⟨cur,h⟩:=(g2.own i U).cm k hk;rw[g3] at h;injection h with h;injection h with _ h;exact absurd h BJ
 .subst e;obtain⟨cur,h⟩:=aJ.cm k hk;rw[m6 g3 BJ] at h;injection h with h;injection h with _ h;exact absurd h BJ
 .refine((eC.ext he).trans (eC.mod yz fun k c t ai a=>?_)).trans (eC.wr hw (m6 g3 BJ) BJ);obtain⟨cur,h⟩:=(g4.ext he).cm k a;rw[ai] at h;injection h with h;injection h with _ h;rw[h];decide
theorem agR{vs:Nat->gr}{u:gr}{n:Int}(b8:bJ≠bs)(hm:Mod (fun k=>k=bJ\/k=bs) w1 W)(g1:W.heap[bJ]? = some (.cells #[cj (vs 0),cj (vs 1),cj (vs 2),.I s.n,cj (vs 3),cj (vs 4)] T.h))(g2:iA cE T.a 1 w1.heap.size W 5 vs s.rows)
  (g3:W.heap[bs]? = some (.cells #[cj u] T.vy))(g4:aP o.Cell.slot T.q 4 w1.heap.size W (cj u) s.Z)(hw:di bJ W bX)(ax:n=((s.n+1:Nat):Int))
  (ai:bX.heap[bJ]? = some (.cells #[cj (vs 0),cj (vs 1),cj (vs 2),.I n,cj (vs 3),cj (vs 4)] T.h)):kT w1 bJ bs ⟨s.V,s.C,s.cW,s.n+1,s.L,s.H,s.Z⟩ bX/\eC tE W bX/\kS bJ W bX:=by
 subst ax;have tI:Mod (fun k=>k=bJ) W bX:=hw.mod rfl;refine⟨⟨hm.trans (hw.mod (.inl rfl)),vs,u,ai,g2.mod tI fun i k U hk e=>?_,tI.obj (Ne.symm b8) g3,g4.mod tI fun k hk e=>?_⟩,eC.wr hw g1 BJ,kS.of g1 ai⟩
 .subst e;exact g2.not g1 BJ i U hk
 .subst e;obtain⟨cur,h⟩:=g4.cm k hk;rw[g1] at h;injection h with h;injection h with _ h;exact absurd h BJ
end
theorem ann(so iQ:Int)(v:B_)(l:C_ o.dN)(p5 pW pZ:C_ Int)(cs:C_ o.Cell)(base:Nat)(w1:A_)(bJ bs:Nat)(w:A_)(b8:bJ≠bs)(hf:bJ<w1.heap.size/\bs<w1.heap.size)(ak:kT w1 bJ bs (o.gW.of p5 pW pZ cs) w)(aD:aP o.dN.enc T.i 3 base w v l)
  (hm:cs.length+l.length<=100000) :
  Dz F.u #[.I so,.I iQ,v,.pointer (some ⟨bJ,0,none⟩),.pointer (some ⟨bs,0,none⟩)] w fun v w'=>v = .I cs.length/\kT w1 bJ bs (o.gW.of p5 pW pZ (cs++o.fB so iQ l 0)) w'/\eC tE w w'/\kS bJ w w':=by
 obtain⟨aO,cap,rfl,_⟩:=aD.form;obtain⟨asR,L9,g1,g2,g3,g4⟩:=ak.ex;refine bl E.u ?_;refine aa ?_;refine L_ 16 l.length [0,1,2,3,4,9,14,15] (fun _:Unit=>[]) () (fun k _ w'=>kT w1 bJ bs (o.gW.of p5 pW pZ (cs++o.fB so iQ (l.take k) 0)) w'/\eC tE w w'/\kS bJ w w') a8 a8 ⟨by simpa[o.fB] using ak,eC.refl,kS.refl⟩ ?_;clear g1 g2 g3 g4 ak;rintro k _ S aB hk ⟨ak,oo,hc⟩;have kb:bg 3 (Flat o.dN.enc) aB (.slice aO l.length cap) l:=aP.hA (enc:=o.dN.enc) (fun _=>rfl) (aD.ig oo BJ);refine aa ?_;apply I_<;>intro g1
 .have aV:k<l.length:=Aw
  obtain⟨a,rfl⟩:=kb.addr;have Ph:(o.fB so iQ (l.take k) 0).length=k:=by rw[o.u0,LQ];omega
  have ts:=o.xQ l[k];refine dO ?_;simp -dsimp only[cu];refine dO ?_;simp -dsimp only[cu];refine dO ?_;intro wn bR e9 fr eE;refine dO ?_;intro aK fY bh;have ag:=fY.ext fr e9;have gH:=ak.ext ag;clear fY fr eE;refine dO ?_;refine S_ [0,1,2,3,4,9,10,11,14,15,16] (fun _:Unit=>[]) (fun _ w'=>kT w1 bJ bs ⟨p5,pW,pZ,(cs++o.fB so iQ (l.take k) 0).length,(cs++o.fB so iQ (l.take k) 0).map (·.aQ)++[l[k].aQ],(cs++o.fB so iQ (l.take k) 0).map (·.U)++[l[k].U],cs++o.fB so iQ (l.take k) 0⟩ w'/\eC tE aK w'/\kS bJ aK w') ?_ ?_
  .refine aa ?_;intro aR aw;refine _v (ae8 b8 hf (gH.ext aw) (by simp[bL]) (by simp[bL]) (aw.obj bh) (by simp[o.gW.of,Ph];omega) (by simp[o.gW.of,Ph];omega) fun aZ w' h k a6=>?_);refine aa ?_;exact⟨(),trivial,h,(eC.ext aw).trans k,(kS.ext aw (by have:=gH.mod.size;omega)).trans a6⟩
  have akA:kS bJ aB aK:=kS.ext ag (by have:=ak.mod.size;omega);clear gH;rintro _ S aR ⟨lb,aa7,PK⟩;obtain⟨vs,⟨L9,S1,AE⟩,g1,g2,g3,g4⟩:=lb.ex;have bf:=aa7.cm _ _ _ bh BJ;refine aa ?_;intro bo dE kI aF bY;replace bY:bo.heap[dE]? = some (.cells (o.Cell.slot ⟨so,iQ,k,l[k].aQ,l[k].U,l[k].kind⟩).toArray T.q):=bY;have dt:=g4.ext aF;have gq:=lb.mod.size;have z2:=aF.size;have az:(cs++o.fB so iQ (l.take k) 0).length=cs.length+k:=by rw[Lk,Ph]
  refine U_ (y:=⟨so,iQ,k,l[k].aQ,l[k].U,l[k].kind⟩) dt bY rfl (fun _=>rfl) o.arG (by simp only[az];omega) (by unfold maxLen;simp only[az];omega) Aw fun aO n c bt c9 iq=>?_;have gf:=dt.box iq (aF.obj g3) BJ;refine aa ?_;intro bG dy cf;obtain⟨jx,uZ,akC⟩:=arF b8 lb.mod g1 g2 g3 g4 aF iq c9 dy cf;dsimp only at jx;obtain⟨ub,kg,cO,de,dQ,gK⟩:=jx.ex;clear g1 g2 g3 g4 lb dt c9 iq gf cf bY;have apW:=cO;dsimp only[cj] at cO;refine aa ?_;intro cQ iK cn;obtain⟨Cj,ane,akD⟩:=agR b8 jx.mod apW de dQ gK iK (by dsimp only;omega) cn;refine aa ?_;refine⟨aV,aL,(),trivial,?_,((((oo.trans (eC.ext ag)).trans aa7).trans uZ).trans ane),((((hc.trans akA).trans PK).trans akC).trans akD)⟩;rw[o.ano aV,<-Wi];have e:o.gW.of p5 pW pZ ((cs++o.fB so iQ (l.take k) 0)++[⟨so,iQ,k,l[k].aQ,l[k].U,l[k].kind⟩])=⟨p5,pW,pZ,(cs++o.fB so iQ (l.take k) 0).length+1,(cs++o.fB so iQ (l.take k) 0).map (·.aQ)++[l[k].aQ],(cs++o.fB so iQ (l.take k) 0).map (·.U)++[l[k].U],cs++o.fB so iQ (l.take k) 0++[⟨so,iQ,k,l[k].aQ,l[k].U,l[k].kind⟩]⟩:=by
   simp[o.gW.of,List.map_append,Nat.add_assoc]
  rw[e];exact Cj
 .refine aa ?_;rw[Lj Aw] at ak;exact⟨aL,ak,oo,hc⟩
end Go.Proofs.R
end
section
namespace a7
open Go Go.RowKit
section
variable{P:Program}{C:World->Prop}{S:Fr}{w:World}{K:Fr->World->Prop}
theorem dZ.nF{d m:Nat}{r:eJ}{v:B_}(af:S m=v)(h:dZ P C r (cb S d v) w K):dZ P C (.take ⟨some d,none,.p (.nF (.tmp m))⟩ r) S w K:=by subst af;exact h
theorem mg.c{i:qK}{d:Nat}{k:Fr->A_->Prop}(h:rN P i S w fun v w'=>C w'/\k (put S (some d) v) w'):mg P C ⟨some d,none,.c i⟩ S w k:=h
end
end a7
namespace o
def gW.add(s:gW)(off:Nat)(y:Int):gW:=if off=0 then { s with V:=s.V++[y] } else if off=1 then { s with C:=s.C++[y] } else { s with cW:=s.cW++[y] }
end o
namespace Go.Proofs.R
open Go Go.RowKit a7
def WJ(n x y off:Nat)(so:Int):eJ :=
 (.take (fw n off 4) (.take (ey (n+1) n) (.take (aN (n+2) 6) (.take (aN (n+3) x) (.take (aN (n+4) y)
 (.alt (h4 (n+5) (.val (aM (n+2)) [(ct so),(aM (n+3)),(aM (n+4))]))
 (.alt (dC (n+6) (.kB T.a 1 1 [(.int .i64 0)] [(0,(aM (n+5)))]))
 (.fq (dC (n+7) (.app T.b T.a 1 8 (aM (n+1)) (aM (n+6))))
 (.take (fw (n+8) off 4) (.fq (ys (n+8) (n+7)) .done .nil)) .nil) .nil) .nil))))))
theorem NO{w1 w:A_}{bJ bs n x y off base:Nat}{so iQ:Int}{nc:B_}{l:C_ o.dN}{p5 pW pZ:C_ Int}{cs:C_ o.Cell}{S:Fr}{cK:Fr->A_->Prop}(Qo:off<3)(ax:20<=n)(af:x<20)(bK:y<20)
  (b8:bJ≠bs)(hf:bJ<w1.heap.size/\bs<w1.heap.size)(aE:S 4 = .pointer (some ⟨bJ,0,none⟩))(bz:S 6 = .func (.func F.u) #[] #[.pointer (some ⟨bJ,0,none⟩),.pointer (some ⟨bs,0,none⟩)])(uO:S x = .I iQ)(Q5:S y=nc)
  (ak:kT w1 bJ bs (o.gW.of p5 pW pZ cs) w)(aD:aP o.dN.enc T.i 3 base w nc l)(hm:cs.length+l.length<=100000)(aG:p5.length<=100000/\pW.length<=100000/\pZ.length<=100000)
  (hk:∀aZ w',(∀t,t<n\/n+8<t->aZ t=S t)->kT w1 bJ bs ((o.gW.of p5 pW pZ (cs++o.fB so iQ l 0)).add off cs.length) w'->eC tE w w'->cK aZ w'):∃C:A_->Prop,C w/\dZ Tryz.prog C (WJ n x y off so) S w cK:=by
 obtain⟨vs,u,g1,g2,g3,g4⟩:=ak.ex;have bu:w.cell? (Addr.add ⟨bJ,0,none⟩ off)=some (cj (vs off)):=by
  have:off=0\/off=1\/off=2:=Aw
  rcases this with rfl | rfl | rfl<;>exact fT g1 rfl
 refine⟨fun w'=>w'.cell? (Addr.add ⟨bJ,0,none⟩ off)=some (cj (vs off)),bu,?_⟩;unfold WJ;refine dZ.lr aE ?_;refine dZ.ld (v:=cj (vs off)) (by simp[bL]) (fun w' m=>m) ?_;refine dZ.nF (mw (mw bz Aw) Aw) ?_;refine dZ.nF (mw (mw (mw uO Aw) Aw) Aw) ?_;refine dZ.nF (mw (mw (mw (mw Q5 Aw) Aw) Aw) Aw) ?_;generalize pB:cb _ (n+4) _=rR;have aim:∀t,t<n\/n+8<t->rR t=S t:=by
  subst pB;intro t aA;simp only[bL];rw[if_neg Aw,if_neg Aw,if_neg Aw,if_neg Aw,if_neg Aw]
 have bC:rR 4 = .pointer (some ⟨bJ,0,none⟩):=by subst pB;exact mw (mw (mw (mw (mw aE Aw) Aw) Aw) Aw) Aw
 have f1:rR (n+1)=cj (vs off):=by subst pB;simp[bL]
 have f2:rR (n+2) = .func (.func F.u) #[] #[.pointer (some ⟨bJ,0,none⟩),.pointer (some ⟨bs,0,none⟩)]:=by subst pB;simp[bL]
 have f3:rR (n+3) = .I iQ:=by subst pB;simp[bL]
 have f4:rR (n+4)=nc:=by subst pB;simp[bL]
 refine dZ.Bf (mg.c ?_);show AQ _ (rR (n+2)) [.I so,rR (n+3),rR (n+4)] w _;rw[f2,f3,f4];refine NN (first:=[]) (cap:=[.pointer (some ⟨bJ,0,none⟩),.pointer (some ⟨bs,0,none⟩)]) Cq (ann so iQ nc l p5 pW pZ cs base w1 bJ bs w b8 hf ak aD hm) ?_;rintro _ aB ⟨rfl,dX,oo,hc⟩;refine⟨(hc off Qo).trans bu,?_⟩;refine dZ.Bf (mg.e ?_);have he:Ext aB (aB.alloc (.cells #[.I cs.length] T.a)):=(Ext.refl aB).alloc _;rw[ahm];refine DJ (cs:=[.I cs.length]) (OE (by simp[iM,bL])) ?_;refine⟨he.cell ((hc off Qo).trans bu),?_⟩;have bh:=heap_alloc_new aB (.cells #[.I cs.length] T.a);have bp:=he.cell ((hc off Qo).trans bu);have gH:=dX.ext he;have aa6:eC tE w (aB.alloc (.cells #[.I cs.length] T.a)):=oo.trans (eC.ext he);show dZ _ _ _ _ (aB.alloc (.cells #[.I cs.length] T.a)) _;generalize aB.alloc (.cells #[.I cs.length] T.a)=aK at bh bp gH aa6;clear he g1 g2 g3 g4;obtain⟨ub,kg,g1,g2,g3,g4⟩:=gH.ex;have ahI:cj (vs off)=cj (ub off):=by
  have:off=0\/off=1\/off=2:=Aw
  rcases this with rfl | rfl | rfl
  .rw[fT g1 (v:=cj (ub 0)) rfl] at bp;exact(Option.some.inj bp).symm
  .rw[fT g1 (v:=cj (ub 1)) rfl] at bp;exact(Option.some.inj bp).symm
  .rw[fT g1 (v:=cj (ub 2)) rfl] at bp;exact(Option.some.inj bp).symm
 refine dZ.zu (pz.e ?_);rw[ahl];unfold aM;rw[c0,c0];rw[show ∀a b,put (put rR (some (n+5)) a) (some (n+6)) b (n+1)=cj (ub off) from fun a b=>by rw[iM,iM,<-ahI];exact mw (mw f1 Aw) Aw,
  show ∀a b,put (put rR (some (n+5)) a) (some (n+6)) b (n+6)=b from fun a b=>by rw[iM,iM,bL,if_pos rfl]]
 have gq:=gH.mod.size;have hlen:((o.gW.of p5 pW pZ (cs++o.fB so iQ l 0)).rows off).length<=100000:=by
  have:off=0\/off=1\/off=2:=Aw
  rcases this with rfl | rfl | rfl
  .exact aG.1
  .exact aG.2.1
  .exact aG.2.2
 refine iA.app (y:=(cs.length:Int)) off Aw g2 (fun _=>rfl) (gN bh) lQ Aw (by unfold maxLen;omega) Aw fun bS aR dz nA _=>?_;have m4:Mod (fun k=>(cj (ub off)).ownBlock=some k) aK aR:=Mod.grown nA fun k hk=>hk;have l1:∀{k:Nat} {c:Array B_} {t:F_},aK.heap[k]? = some (.cells c t)->t≠T.a->aR.heap[k]? = some (.cells c t):=fun hk aA=>m4.obj (g2.not hk aA off Aw) hk;refine dZ.lr (a:=⟨bJ,0,none⟩) (by rw[iM,iM,iM];exact mw (mw (mw bC Aw) Aw) Aw) ?_;refine dZ.zu ?_;show vx (cb _ (n+8) _ (n+8)) (cb (put _ (some (n+7)) _) (n+8) _ (n+7)) aR _;rw[show ∀(S:Fr) v,cb S (n+8) v (n+8)=v from fun S v=>by rw[bL,if_pos rfl],show ∀(S:Fr) a b,cb (put S (some (n+7)) a) (n+8) b (n+7)=a from fun S a b=>by rw[iM,bL,if_neg Aw,bL,if_pos rfl]];have cx:=l1 g1 BJ;refine SJ fun mz=>_E cx (by simp;omega) rfl fun bo e4 bY=>?_;have tI:Mod (fun k=>k=bJ) aR bo:=e4.mod rfl;refine hk _ _ (fun t aA=>?_) ⟨?_,dK ub off bS,kg,?_,(dz.mod tI fun i k U ao e=>?_).congr (fun _ _=>rfl) (fun i U=>?_),?_,?_⟩ ?_
 .simp only[iM,acn,bL];rw[if_neg Aw,if_neg Aw,if_neg Aw,if_neg Aw];exact aim t aA
 .refine(gH.mod.comp m4 (B:=fun k=>k=bJ\/k=bs) (fun _ _ a=>a) fun i U a=>?_).trans (e4.mod (A:=fun k=>k=bJ\/k=bs) (.inl rfl))
  have:=(g2.lt off i Aw a).1;omega
 .rw[bY]
  have:off=0\/off=1\/off=2:=Aw
  rcases this with rfl | rfl | rfl<;>rfl
 .subst e;exact dz.not cx BJ i U ao
 .have a:off=0\/off=1\/off=2:=Aw
  have b:i=0\/i=1\/i=2\/i=3\/i=4:=Aw
  rcases a with rfl | rfl | rfl<;>rcases b with rfl | rfl | rfl | rfl | rfl<;>rfl
 .exact e4.obj (l1 g3 BJ) (Ne.symm b8)
 .have vS:((o.gW.of p5 pW pZ (cs++o.fB so iQ l 0)).add off cs.length).Z=(o.gW.of p5 pW pZ (cs++o.fB so iQ l 0)).Z:=by unfold o.gW.add; (repeat' split)<;>rfl
  rw[vS];refine(g4.mod m4 fun k hk h=>?_).mod tI fun k hk e=>?_
  .obtain⟨cur,hD⟩:=g4.cm k hk;exact g2.not hD BJ off Aw h
  .obtain⟨cur,hD⟩:=g4.cm k hk;subst e;rw[g1] at hD;injection hD with hD;injection hD with _ e;exact absurd e BJ
 .refine(aa6.trans (eC.mod m4 fun k c hP ai a=>?_)).trans (eC.wr e4 cx BJ);obtain⟨cur,hD⟩:=(g2.own off Aw).cm k a;rw[ai] at hD;injection hD with hD;injection hD with _ e;rw[e];decide
end Go.Proofs.R
end
section
namespace a7
open Go Go.RowKit
theorem aP.zd{α:Type}{enc:α->C_ B_}{e:F_}{sz base b n:Nat}{w:A_}{cs:C_ B_}(xs:C_ α)(h:w.heap[b]? = some (.cells cs.toArray e))(an:base<=b)(gk:cs=xs.flatMap enc)(dd:∀x,(enc x).length=sz)(ax:n=xs.length)(hm:xs.length<=maxLen):aP enc e sz base w (.slice (some ⟨b,0,none⟩) n n) xs:=by
 subst ax;have az:cs.length=xs.length*sz:=by rw[gk,x6 dd]
 exact⟨by rw[x6 dd],.inr ⟨b,xs.length,cs.toArray,rfl,an,h,Gf _,hm,by simpa using az,by simp only;rw[<-az,AF1,gk]⟩⟩
theorem AC9{P:D_}{cK:B_->A_->Prop}{α:Type}{enc:α->C_ B_}{e:F_}{sz base:Nat}{w:A_}{v:B_}{xs:C_ α}{ty:F_}{gX b:Nat}{y:α}{cs:C_ B_}{t}(ak:aP enc e sz base w v xs)(ai:w.heap[b]? = some (.cells cs.toArray e))(gk:cs=enc y)(dd:∀x,(enc x).length=sz)(h1:∀y,∀u∈enc y,u.oneCell'=true)
  (an:(xs.length+1)*gX<=140737488355328)(k3:xs.length+1<=maxLen)(kp:base<=w.heap.size)
  (hk:∀aO n c w',aP enc e sz base w' (.slice aO n c) (xs++[y])->w.grownBy w' v.ownBlock->((Value.slice aO n c).ownBlock=v.ownBlock\/(Value.slice aO n c).ownBlock=some w.heap.size)->cK (.slice aO n c) w'):mB P ty e sz gX v (.slice (some ⟨b,0,none⟩) 1 1) w cK t:=by
 refine _X (ys:=[y]) ak dd (by subst gk;simpa using gN ai) rfl h1 an k3 kp fun bS w' aJ aH k4=>?_;obtain⟨aO,cap,rfl,_⟩:=aJ.form;exact hk _ _ _ _ aJ aH k4
end a7
namespace o
open Go Go.RowKit a7
structure ky(w:World)(cs:List Value)(x:xz):Prop where
 ex:∃v0 v1 v2 v3 v4,cs=[v0,v1,v2,.int .i64 x.cells,v3,v4]/\bg 1 (Flat cE) w v0 x.vars/\bg 1 (Flat cE) w v1 x.ar/\bg 1 (Flat cE) w v2 x.insts/\bg 1 (Flat cE) w v3 x.aQ/\bg 1 (Flat cE) w v4 x.U
theorem ky.ext{w w':A_}{cs:C_ B_}{x:xz}(he:Ext w w')(h:ky w cs x):ky w' cs x :=
 let ⟨v0,v1,v2,v3,v4,e,ad,h1,I,ab,aE⟩:=h.ex
 ⟨v0,v1,v2,v3,v4,e,ad.ext Flat.ext he,h1.ext Flat.ext he,I.ext Flat.ext he,ab.ext Flat.ext he,aE.ext Flat.ext he⟩
theorem ky.form{w:A_}{cs:C_ B_}{x:xz}(h:ky w cs x):∃bW bu bI c1 bO c2 bQ bp bZ bB,cs=[.slice bW x.vars.length bu,.slice bI x.ar.length c1,.slice bO x.insts.length c2,.I x.cells,.slice bQ x.aQ.length bp,.slice bZ x.U.length bB] /\
  bg 1 (Flat cE) w (.slice bW x.vars.length bu) x.vars/\bg 1 (Flat cE) w (.slice bI x.ar.length c1) x.ar/\bg 1 (Flat cE) w (.slice bO x.insts.length c2) x.insts/\bg 1 (Flat cE) w (.slice bQ x.aQ.length bp) x.aQ/\bg 1 (Flat cE) w (.slice bZ x.U.length bB) x.U:=by
 obtain⟨v0,v1,v2,v3,v4,rfl,ad,h1,I,ab,aE⟩:=h.ex;obtain⟨bW,bu,rfl,_⟩:=ad.form;obtain⟨bI,c1,rfl,_⟩:=h1.form;obtain⟨bO,c2,rfl,_⟩:=I.form;obtain⟨bQ,bp,rfl,_⟩:=ab.form;obtain⟨bZ,bB,rfl,_⟩:=aE.form;exact⟨bW,bu,bI,c1,bO,c2,bQ,bp,bZ,bB,rfl,ad,h1,I,ab,aE⟩
theorem Md{v:Var}{s:C_ Scalar}(h:Du v s)(ak:s.length<=2):0<=v.scalar/\v.scalar<=2:=by
 rcases h.ga with e | e
 .omega
 .unfold size at e;split at e
  .rename_i x af
   have:=(List.getElem?_eq_some_iff.1 af).1
   split at e<;>omega
  .exact absurd rfl e
theorem NU{v:dg}{s:C_ Scalar}(h:Db v s)(ak:s.length<=2):0<=v.scalar/\v.scalar<=2:=by
 rcases h.ga with e | e
 .omega
 .unfold size at e;split at e
  .rename_i x af
   have:=(List.getElem?_eq_some_iff.1 af).1
   split at e<;>omega
  .exact absurd rfl e
theorem L8(m:Model)(h:eD m)(k:Nat):total ((cP m).take k)<=64:=by
 have h1:=JZ h;have I:=h.cells;have ab:=Fz m;have e:total (cP m)=total ((cP m).take k)+total ((cP m).drop k):=by rw[<-Gr,AH8]
 omega
theorem SZ(m:Model)(h:eD m)(k:Nat):total (cP m)+total ((dx m).take k)<=64:=by
 have h1:=JZ h;have I:=h.cells;have ab:=Fz m;have e:total (dx m)=total ((dx m).take k)+total ((dx m).drop k):=by rw[<-Gr,AH8]
 omega
theorem adQ(m:Model)(h:eD m)(k:Nat):total (cP m)+total (dx m)+total ((fu m).take k)<=64:=by
 have h1:=JZ h;have I:=h.cells;have ab:=Fz m;have e:total (fu m)=total ((fu m).take k)+total ((fu m).drop k):=by rw[<-Gr,AH8]
 omega
end o
namespace Go.Proofs.R
open Go Go.RowKit a7
theorem anw(cs:C_ B_)(m:o.Model)(w:A_)(h:o.dU w cs m)(aH:m.cA)(aS:o.eD m) :
  Dz F.cl #[.agg cs.toArray] w fun v w'=>(∃xs u,v = .tuple #[.agg xs.toArray,u]/\ed w (fun w=>o.ky w xs (o.layout m)) w'/\ed w (fun w=>bg 4 (Flat o.Cell.slot) w u (o.bU m)) w')/\Ext w w':=by
 obtain⟨bW,bu,bI,c1,bO,c2,bQ,bp,bZ,bB,rfl,ad,h1,I,ab,aE,eU,eh,eo,dY,ew⟩:=h.form;have gG:=aS.gG;refine bl E.cl ?_;refine aa ?_;intro Mj br cF rb al;have cO:=cr al;refine aa ?_;intro Mn bP db qo au;have de:=cr au;replace al:=qo.obj al;refine aa ?_;intro yT bJ n4 ny k6;have av3:=cr k6;replace al:=ny.obj al;replace au:=ny.obj au;refine aa ?_;intro w1 bs Ev qp gk;have av2:=cr gk;replace al:=qp.obj al;replace au:=qp.obj au;replace k6:=qp.obj k6;have kh:=rb.size;have jX:=qo.size;have rK:=ny.size;have C3:=qp.size;have e1:=((rb.trans qo).trans ny).trans qp;clear rb qo ny qp;have b8:bJ≠bs:=Aw
 have hf:bJ<w1.heap.size/\bs<w1.heap.size:=⟨Aw,Aw⟩;have kf:kT w1 bJ bs (o.gW.of [] [] [] []) w1:=⟨Mod.refl _ _,fun _=>(none,0,0),(none,0,0),k6,⟨fun i U=>by
   have e:(o.gW.of [] [] [] []).rows i=[]:=by unfold o.gW.rows; (repeat' split)<;>rfl
   rw[e];exact aP.nil _ _ _ _ _,fun i j k _ _ _ e=>by cases e⟩,gk,aP.nil _ _ _ _ _⟩
 have oj:∀{s W},kT w1 bJ bs s W->W.heap[br]? = w1.heap[br]? := fun h=>h.mod.block _ Aw Aw;have ft:∀{s W},kT w1 bJ bs s W->W.heap[bP]? = w1.heap[bP]? := fun h=>h.mod.block _ Aw Aw;have dI:∀{s W},kT w1 bJ bs s W->Ext w W:=fun h=>h.mod.ext e1 fun i U e=>Aw
 rw[al] at oj;rw[au] at ft;refine aa ?_;refine L_ 24 m.vars.length [1,2,4,5,6,22,23] (fun _:Unit=>[]) () (fun k _ W=>kT w1 bJ bs (o.gW.of (o.hZ 0 ((o.cP m).take k)) [] [] (o.cellsOf 1 ((o.cP m).take k) 0)) W) a8 a8 (by simpa[o.hZ,o.cellsOf] using kf) ?_;clear kf k6 gk al au;rintro k _ S aB hk ak;have al:=oj ak;have cY:=dI ak;refine aa ?_;apply I_<;>intro g1
 .have aV:k<m.vars.length:=Aw
  obtain⟨a,rfl⟩:=h1.addr;have dT:=((h1.at k aV).cells).ext cY;have c5:=aS.var _ (Gy aV);have lY:=o.Md c5 gG.1;refine aa ?_;intro wn jJ nu fr eE;refine aa ?_;intro aK fY bh;have ag:Ext aB aK:=fY.ext fr nu;replace bh:aK.heap[jJ]? = some (.cells m.vars[k].enc.toArray T.l):=bh;replace al:=ag.obj al;clear fY fr eE dT;have fD:=cY.trans ag;refine aa ?_;refine J_ (Bu m.vars[k] _ m.scalars aK (ad.ext fD)) ?_;rintro _ aR ⟨rfl,aw⟩;have dv:=o.r0 m.vars[k] m.scalars;have dW:=fD.trans aw;have sc:=aw.obj al;have aka:=aw.obj bh;refine aa ?_;refine L_ 33 (o.cells m.vars[k] m.scalars).toNat [1,2,4,5,6,7,8,22,23,24,32] (fun v:gr=>[(9,.slice v.1 v.2.1 v.2.2)]) (none,0,0) (fun j v W=>Ext aR W/\aP o.dN.enc T.i 3 aR.heap.size W (.slice v.1 v.2.1 v.2.2) (List.replicate j (o.eS m.vars[k].scalar m.vars[k].aQ m.vars[k].U m.scalars))) a8 a8 ⟨Ext.refl _,aP.nil _ _ _ _ _⟩ ?_;clear al bh;rintro j v S bo aC ⟨aF,dt⟩;have al:=aF.obj sc;have bh:=aF.obj aka;refine aa ?_;apply I_<;>intro g2
  .have en:j<(o.cells m.vars[k] m.scalars).toNat:=Aw
   refine aa ?_;refine J_ (Rz m.vars[k] _ m.scalars bo (ad.ext (dW.trans aF)) (by unfold o.dP;omega)) ?_;rintro _ bt ⟨rfl,aI⟩;have ts:=o.xQ (o.eS m.vars[k].scalar m.vars[k].aQ m.vars[k].U m.scalars);refine aa ?_;intro bG afv auj bm cf;replace cf:bG.heap[afv]? = some (.cells (o.eS m.vars[k].scalar m.vars[k].aQ m.vars[k].U m.scalars).enc.toArray T.i):=cf;have dM:=dt.ext (aI.trans bm);have Jj:=(aF.trans aI).trans bm;have az:(List.replicate j (o.eS m.vars[k].scalar m.vars[k].aQ m.vars[k].U m.scalars)).length=j:=AF7;refine U_ (y:=o.eS m.vars[k].scalar m.vars[k].aQ m.vars[k].U m.scalars) dM cf rfl (fun _=>rfl) o.xQ (by rw[az];omega) (by rw[az];unfold maxLen;omega) Jj.size fun aO n c cQ hx zM=>?_;refine aa ?_;exact⟨en,aL,(aO,n,c),a8,dM.k2 Jj zM (Gf _),by rw[List.replicate_succ'];exact hx⟩
  .have mO:j=(o.cells m.vars[k] m.scalars).toNat:=Aw
   have rp:=ak.ext ((ag.trans aw).trans aF);replace dt:aP o.dN.enc T.i 3 aR.heap.size bo (.slice v.1 v.2.1 v.2.2) (o.AG m.scalars m.vars[k]):=by rw[mO] at dt;exact dt
   have eE:=o.kY 1 ((o.cP m).take k) 0;have tz:=o.L8 m aS k;refine aa ?_;intro bt aI;refine _v (NO (n:=43) (x:=7) (y:=9) (off:=0) (so:=1) BJ BJ BJ BJ b8 hf (by simp[bL]) (by simp[bL]) (by simp[bL];rfl) (by simp[bL]) (rp.ext aI) (dt.ext aI) (by rw[eE,o.CY];omega) ⟨by rw[o.ua,LQ];omega,Bh,Bh⟩ fun aZ bG av b0 wK=>?_);have vX:aZ 24 = .I k:=by rw[av 24 BJ];simp[bL]
   refine aa ?_;rw[vX];refine aa ?_;refine⟨aV,aL,(),trivial,?_⟩;have aD:k<(o.cP m).length:=by simpa[o.cP] using aV
   have e:(o.cP m)[k]=o.AG m.scalars m.vars[k]:=by simp[o.cP]
   rw[L1 aD,e,o.L3,o.zh];have e2:(0+((o.cP m).take k).length:Nat)=k:=by rw[LQ];omega
   rw[e2,AE9,<-eE];exact b0
 have lV:m.vars.length<=k:=Aw
 rw[Lj (by simpa[o.cP] using lV)] at ak;have S0:=o.L8 m aS m.vars.length;rw[Lj (by simp[o.cP])] at S0;refine aa ?_;refine L_ 56 m.ar.length [1,2,4,5,6,54,55] (fun _:Unit=>[]) () (fun k _ W=>kT w1 bJ bs (o.gW.of (o.hZ 0 (o.cP m)) (o.hZ (o.total (o.cP m)) ((o.dx m).take k)) [] (o.cellsOf 1 (o.cP m) 0++o.cellsOf 2 ((o.dx m).take k) 0)) W) a8 a8 (by simpa[o.hZ,o.cellsOf] using ak) ?_;clear ak al cY;rintro k _ S aB hk ak;have al:=oj ak;have cY:=dI ak;refine aa ?_;apply I_<;>intro g2
 .have aV:k<m.ar.length:=Aw
  obtain⟨a,rfl⟩:=I.addr;have dT:=((I.at k aV).cells).ext cY;have c5:=aS.chan _ (Gy aV);have lY:=o.NU c5 gG.1;have hS:=c5.cap;refine aa ?_;intro wn pt BV fr eE;refine aa ?_;intro aK fY bh;have ag:Ext aB aK:=fY.ext fr BV;replace bh:aK.heap[pt]? = some (.cells m.ar[k].enc.toArray T.u):=bh;replace al:=ag.obj al;clear fY fr eE dT;have Po:=al;have akb:=bh;have fD:=cY.trans ag;refine aa ?_;intro aR Hj ajV aw Ex;replace Ex:aR.heap[Hj]? = some (.cells ([(⟨0,m.ar[k].cap,0⟩:o.dN)].flatMap o.dN.enc).toArray T.i):=Ex;have dz:aP o.dN.enc T.i 3 aK.heap.size aR (.slice (some ⟨Hj,0,none⟩) 1 1) [(⟨0,m.ar[k].cap,0⟩:o.dN)]:=aP.zd _ Ex ajV rfl (fun _=>rfl) rfl (by simp[maxLen]);replace al:=aw.obj al;replace bh:=aw.obj bh;have dW:=fD.trans aw;have YT:=Ex;clear Ex;refine aa ?_;refine J_ (Rz ⟨⟨#[]⟩,m.ar[k].scalar,0,min m.ar[k].aQ 0,max m.ar[k].U 0,0⟩ _ m.scalars aR (ad.ext dW) (by unfold o.dP;simp only;omega)) ?_;rintro _ bo ⟨rfl,aF⟩;have ts:=o.xQ (o.eS m.ar[k].scalar (min m.ar[k].aQ 0) (max m.ar[k].U 0) m.scalars);refine aa ?_;intro bt ur I0 aI jv;replace jv:bt.heap[ur]? = some (.cells (o.kZ m.scalars m.ar[k]).enc.toArray T.i):=jv;replace al:=(aF.trans aI).obj al;replace bh:=(aF.trans aI).obj bh;have c9:=dz.ext (aF.trans aI);have akI:=(aw.trans aF).trans aI;clear dz;refine aa ?_;have auc:Hj<ur:=by have:=cr YT;have:=aF.size;omega
  refine L_ 79 m.ar[k].cap.toNat [1,2,4,5,6,10,11,13,54,55,56,78] (fun v:gr=>[(12,.slice v.1 v.2.1 v.2.2)]) (some ⟨Hj,0,none⟩,1,1) (fun j v W=>Ext aK W/\W.heap[ur]? = bt.heap[ur]? /\ aP o.dN.enc T.i 3 aK.heap.size W (.slice v.1 v.2.1 v.2.2) (⟨0,m.ar[k].cap,0⟩ :: List.replicate j (o.kZ m.scalars m.ar[k]))/\(Value.slice v.1 v.2.1 v.2.2).ownBlock≠some ur) a8 a8 ⟨akI,rfl,c9,by simp[Value.ownBlock];omega⟩ ?_;rw[jv];have as9:=cr jv;clear al bh jv c9 YT;rintro j v S bG aC ⟨Jm,jv,dM,fg⟩;have al:=Jm.obj Po;have bh:=Jm.obj akb;refine aa ?_;apply I_<;>intro g3
  .have en:j<m.ar[k].cap.toNat:=Aw
   have ts:=o.xQ (o.kZ m.scalars m.ar[k]);refine aa ?_;intro cQ afw aul bA Pt;replace Pt:cQ.heap[afw]? = some (.cells (o.kZ m.scalars m.ar[k]).enc.toArray T.i):=Pt;have hx:=dM.ext bA;have az:((⟨0,m.ar[k].cap,0⟩:o.dN) :: List.replicate j (o.kZ m.scalars m.ar[k])).length=j+1:=Bh
   have Zj:=Jm.trans bA;have z138:=cr (bA.obj jv);refine AC9 (y:=o.kZ m.scalars m.ar[k]) hx Pt rfl (fun _=>rfl) o.xQ (by rw[az];omega) (by rw[az];unfold maxLen;omega) Zj.size fun aO n c cS gO Zs k4=>?_;have mQ:cS.heap[ur]? = _:=(Mod.grown (A:=fun i=>(Value.slice v.1 v.2.1 v.2.2).ownBlock=some i) Zs fun k hk=>hk).obj fg (bA.obj jv);refine aa ?_;refine⟨en,aL,(aO,n,c),a8,hx.k2 Zj Zs (Gf _),mQ,by rw[List.replicate_succ'];exact gO,fun e=>?_⟩;rcases k4 with a | a
   .exact fg (a.symm.trans e)
   .rw[a] at e;injection e with e;omega
  .have mO:j=m.ar[k].cap.toNat:=Aw
   have jx:=ak.ext (ag.trans Jm);replace dM:aP o.dN.enc T.i 3 aK.heap.size bG (.slice v.1 v.2.1 v.2.2) (o.nk m.scalars m.ar[k]):=by rw[mO] at dM;exact dM
   have eE:=o.kY 1 (o.cP m) 0;have PE:=o.kY 2 ((o.dx m).take k) 0;have hlen:(o.cellsOf 1 (o.cP m) 0++o.cellsOf 2 ((o.dx m).take k) 0).length=o.total (o.cP m)+o.total ((o.dx m).take k):=by rw[Lk,eE,PE]
   have tz:=o.SZ m aS k;refine aa ?_;intro cQ bA;refine _v (NO (n:=86) (x:=10) (y:=12) (off:=1) (so:=2) BJ BJ BJ BJ b8 hf (by simp[bL]) (by simp[bL]) (by simp[bL];rfl) (by simp[bL]) (jx.ext bA) (dM.ext bA) (by rw[hlen,o.vI];omega) ⟨by rw[o.ua];simp[o.cP];omega,by rw[o.ua,LQ];omega,Bh⟩ fun aZ bG av b0 wK=>?_);have vX:aZ 56 = .I k:=by rw[av 56 BJ];simp[bL]
   refine aa ?_;rw[vX];refine aa ?_;refine⟨aV,aL,(),trivial,?_⟩;have aD:k<(o.dx m).length:=by simpa[o.dx] using aV
   have e:(o.dx m)[k]=o.nk m.scalars m.ar[k]:=by simp[o.dx]
   rw[L1 aD,e,o.L3,o.zh];have e2:(0+((o.dx m).take k).length:Nat)=k:=by rw[LQ];omega
   rw[e2,<-Wi,<-hlen];exact b0
 have rh:m.ar.length<=k:=Aw
 rw[Lj (by simpa[o.dx] using rh)] at ak;have asf:=o.SZ m aS m.ar.length;rw[Lj (by simp[o.dx])] at asf;refine aa ?_;refine J_ (wI _ m aB (h.ext cY) aH) ?_;rintro bH qI ⟨eM,uG⟩;obtain⟨b9,ci,rfl,_⟩:=eM.form;have Fc:=ak.ext uG;have kq:(o.insts m).length<=30:=by have:=o.uS m;have:=aS.procs;omega
 refine aa ?_;refine L_ 99 (o.insts m).length [1,2,4,5,6,97,98] (fun _:Unit=>[]) () (fun k _ W=>kT w1 bJ bs (o.gW.of (o.hZ 0 (o.cP m)) (o.hZ (o.total (o.cP m)) (o.dx m)) (o.hZ (o.total (o.cP m)+o.total (o.dx m)) ((o.fu m).take k)) (o.cellsOf 1 (o.cP m) 0++o.cellsOf 2 (o.dx m) 0++o.cellsOf 3 ((o.fu m).take k) 0)) W/\eC tE qI W) a8 a8 ⟨by simpa[o.hZ,o.cellsOf] using Fc,eC.refl⟩ ?_;clear ak Fc al cY;rintro k _ S aB hk ⟨ak,oo⟩;have al:=oj ak;have cY:=dI ak;have fs:kk aB (.slice b9 (o.insts m).length ci) (o.insts m):=aP.hA (enc:=o.cR.enc) (fun _=>rfl) (eM.ig oo BJ);refine aa ?_;apply I_<;>intro g3
 .have aV:k<(o.insts m).length:=Aw
  obtain⟨h7,rfl⟩:=fs.addr;have mT:=o.rr _ (Gy aV);obtain⟨p,aq,hU,qh⟩:=o.z8 mT;have c5:=aS.proc _ (Gy aq);have ZK:=c5.b2;have sd:=c5.gG.1;refine aa ?_;intro wn za Et fr eE;refine aa ?_;intro aK fY bh;have ag:Ext aB aK:=fY.ext fr Et;replace bh:aK.heap[za]? = some (.cells #[.I p,.I (o.insts m)[k].elem] T.d):=by rw[<-hU];exact bh
  replace al:=ag.obj al;clear fY fr eE fs;have fD:=cY.trans ag;obtain⟨a,rfl⟩:=ab.addr;obtain⟨lZ,bV,dL,dA,eW,fl⟩:=ab.at p aq;obtain⟨ep,fp,rfl,fc⟩:=eW.form;obtain⟨ov,nY,rfl,lc⟩:=fl.form;replace dA:=dA.ext fD;refine aa ?_;intro aR NC YM aw oR;replace oR:aR.heap[NC]? = some (.cells (m.procs[p].enc (.slice ep m.procs[p].vars.length fp) (.slice ov m.procs[p].cy.length nY)).toArray T.k):=oR;unfold o.dw.enc at oR;have dW:=fD.trans aw;replace al:=aw.obj al;clear dA;refine aa ?_;intro bo NB ajT aF I7;replace I7:bo.heap[NB]? = some (.cells ([(⟨0,m.procs[p].b2 - 1,0⟩:o.dN)].flatMap o.dN.enc).toArray T.i):=I7;have dt:aP o.dN.enc T.i 3 aR.heap.size bo (.slice (some ⟨NB,0,none⟩) 1 1) [(⟨0,m.procs[p].b2 - 1,0⟩:o.dN)]:=aP.zd _ I7 ajT rfl (fun _=>rfl) rfl (by simp[maxLen]);have Po:=al;have aj4:=oR;replace oR:=aF.obj oR;clear I7 al;refine aa ?_;refine L_ 118 m.procs[p].vars.length [1,2,4,5,6,14,16,97,98,99,116,117] (fun v:gr=>[(17,.slice v.1 v.2.1 v.2.2)]) (some ⟨NB,0,none⟩,1,1) (fun j v W=>Ext aR W/\aP o.dN.enc T.i 3 aR.heap.size W (.slice v.1 v.2.1 v.2.2) (⟨0,m.procs[p].b2 - 1,0⟩ :: (m.procs[p].vars.take j).map fun v=>o.eS v.scalar v.aQ v.U m.scalars)) a8 a8 ⟨aF,by simpa using dt⟩ ?_;clear oR dt;rintro j v S bt aC ⟨B4,c9⟩;have al:=B4.obj Po;have oR:=B4.obj aj4;have hq:=dW.trans B4;refine aa ?_;apply I_<;>intro g4
  .have en:j<m.procs[p].vars.length:=Aw
   obtain⟨qX,rfl⟩:=eW.addr;have dT:=((eW.at j en).cells).ext hq;have QP:=c5.var _ (Gy en);have lY:=o.Md QP gG.1;refine aa ?_;intro bG afu aue bm Ew;replace Ew:bG.heap[afu]? = some (.cells m.procs[p].vars[j].enc.toArray T.l):=Ew;replace al:=bm.obj al;have gx:=hq.trans bm;clear dT;refine aa ?_;refine J_ (Rz m.procs[p].vars[j] _ m.scalars bG (ad.ext gx) (by unfold o.dP;omega)) ?_;rintro _ cQ ⟨rfl,bA⟩;have ts:=o.xQ (o.eS m.procs[p].vars[j].scalar m.procs[p].vars[j].aQ m.procs[p].vars[j].U m.scalars);refine aa ?_;intro cS aft aub bT Pp;replace Pp:cS.heap[aft]? = some (.cells (o.eS m.procs[p].vars[j].scalar m.procs[p].vars[j].aQ m.procs[p].vars[j].U m.scalars).enc.toArray T.i):=Pp;have gO:=c9.ext ((bm.trans bA).trans bT);have Zk:=((B4.trans bm).trans bA).trans bT;have az:((⟨0,m.procs[p].b2 - 1,0⟩:o.dN) :: (m.procs[p].vars.take j).map fun v=>o.eS v.scalar v.aQ v.U m.scalars).length=j+1:=by simp;omega
   refine U_ (y:=o.eS m.procs[p].vars[j].scalar m.procs[p].vars[j].aQ m.procs[p].vars[j].U m.scalars) gO Pp rfl (fun _=>rfl) o.xQ (by rw[az];omega) (by rw[az];unfold maxLen;omega) Zk.size fun aO n c eG pH oU=>?_;refine aa ?_;exact⟨en,aL,(aO,n,c),a8,gO.k2 Zk oU (Gf _),by rw[L1 en,AF6];exact pH⟩
  .have Ci:=ak.ext ((ag.trans aw).trans B4);have Rm:eC tE aB bt:=eC.ext ((ag.trans aw).trans B4);replace c9:aP o.dN.enc T.i 3 aR.heap.size bt (.slice v.1 v.2.1 v.2.2) (o.l0 m (o.insts m)[k]):=by rw[Lj Aw] at c9;rw[qh];exact c9
   have eE:=o.kY 1 (o.cP m) 0;have PE:=o.kY 2 (o.dx m) 0;have akv:=o.kY 3 ((o.fu m).take k) 0;have hlen:(o.cellsOf 1 (o.cP m) 0++o.cellsOf 2 (o.dx m) 0++o.cellsOf 3 ((o.fu m).take k) 0).length=o.total (o.cP m)+o.total (o.dx m)+o.total ((o.fu m).take k):=by rw[Lk,Lk,eE,PE,akv]
   have tz:=o.adQ m aS k;have I6:(o.l0 m (o.insts m)[k]).length<=10:=by rw[qh,o.Ap];omega
   refine aa ?_;intro cQ bA;refine _v (NO (n:=130) (x:=14) (y:=17) (off:=2) (so:=3) BJ BJ BJ BJ b8 hf (by simp[bL]) (by simp[bL]) (by simp[bL];rfl) (by simp[bL]) (Ci.ext bA) (c9.ext bA) (by rw[hlen];omega) ⟨by rw[o.ua];simp[o.cP];omega,by rw[o.ua];simp[o.dx];omega,by rw[o.ua,LQ];omega⟩ fun aZ bG av b0 wK=>?_);have vX:aZ 99 = .I k:=by rw[av 99 BJ];simp[bL]
   refine aa ?_;rw[vX];refine aa ?_;refine⟨aV,aL,(),trivial,?_,((oo.trans Rm).trans (eC.ext bA)).trans wK⟩;have aD:k<(o.fu m).length:=by simpa[o.fu] using aV
   have e:(o.fu m)[k]=o.l0 m (o.insts m)[k]:=by simp[o.fu]
   rw[L1 aD,e,o.L3,o.zh];have e2:(0+((o.fu m).take k).length:Nat)=k:=by rw[LQ];omega
   rw[e2,<-Wi,<-hlen];exact b0
 have lx:(o.insts m).length<=k:=Aw
 rw[Lj (by simpa[o.fu] using lx)] at ak;have au:=ft ak;obtain⟨vs,u,g1,g2,g3,g4⟩:=ak.ex;have fin:∀{aK W},Ext aB aK->di bP aK W->(∃xs kg,Value.tuple #[.agg #[cj (vs 0),cj (vs 1),cj (vs 2),.I (o.bU m).length,cj (vs 3),cj (vs 4)],cj u] = .tuple #[.agg xs.toArray,kg]/\ed w (fun w=>o.ky w xs (o.layout m)) W/\ed w (fun w=>bg 4 (Flat o.Cell.slot) w kg (o.bU m)) W)/\Ext w W:=by
  intro aK W he hw;have db:=he.obj au;have aiR:=(g2.ext he).mod (hw.mod (A:=fun i=>i=bP) rfl) fun i k U hk e=>by subst e;exact(g2.ext he).not db BJ i U hk
  have aiS:=(g4.ext he).mod (hw.mod (A:=fun i=>i=bP) rfl) fun k hk e=>by
   subst e;obtain⟨cur,hD⟩:=(g4.ext he).cm k hk;rw[db] at hD;injection hD with hD;injection hD with _ e;exact absurd e BJ
  have bw:w.heap.size<=w1.heap.size:=Aw
  have tK:=fun(i:Nat) (U:i<5)=>aP.new (e:=T.a) (enc:=cE) (fun _=>rfl) (aP.low bw (aiR.own i U));refine⟨⟨[_,_,_,_,_,_],_,rfl,fun eV tG=>⟨⟨_,_,_,_,_,rfl,tK 0 BJ eV tG,tK 1 BJ eV tG,tK 2 BJ eV tG,tK 3 BJ eV tG,tK 4 BJ eV tG⟩⟩,aP.new (e:=T.q) (enc:=o.Cell.slot) (fun _=>rfl) (aP.low bw aiS)⟩,hw.ext (cY.trans he) Aw⟩
 replace g1:aB.heap[bJ]? = some (.cells #[cj (vs 0),cj (vs 1),cj (vs 2),.I (o.bU m).length,cj (vs 3),cj (vs 4)] T.h):=g1;refine aa ?_;intro aK ag;replace g1:=ag.obj g1;replace g3:=ag.obj g3;replace au:=ag.obj au;dsimp only[cj] at g1 g3;refine aa ?_;refine⟨?_,?_⟩
 .refine aa ?_;refine⟨?_,?_⟩
  .refine aa ?_;intro aR dq bf;refine aa ?_;exact fin ag dq
  .refine aa ?_;intro aR dq bf;replace g3:=dq.obj g3 Aw;refine aa ?_;exact fin ag dq
 .refine aa ?_;intro aR dq bf;refine aa ?_;exact fin ag dq
end Go.Proofs.R
end
section
namespace o
theorem FB{m:Model}(h:(check m).cC=0):lay m=layout m:=by unfold lay;rw[if_pos h]
theorem anv{m:Model}(h:¬(check m).cC=0):lay m=RJ:=by unfold lay;rw[if_neg h]
theorem iL{m:Model}(h:eD m):(bU m).length<=64:=by
 have:=JZ h
 have:=h.cells
 omega
open Go Go.RowKit a7 in
theorem ky.zero(w:A_):ky w [.slice none 0 0,.slice none 0 0,.slice none 0 0,.I 0,.slice none 0 0,.slice none 0 0] RJ:=⟨_,_,_,_,_,rfl,bg.nil,bg.nil,bg.nil,bg.nil,bg.nil⟩
end o
namespace Go.Proofs.R
open Go Go.RowKit a7
theorem FA(cs:C_ B_)(m:o.Model)(w:A_)(h:o.dU w cs m)(aH:m.cA)(aJ:gF w) :
  Dz F.l #[.agg cs.toArray] w fun v w'=>(∃xs,v = .agg xs.toArray/\ed w (fun w=>o.ky w xs (o.lay m)) w')/\Ext w w':=by
 have aS:=h;obtain⟨bW,bu,bI,c1,bO,c2,bQ,bp,bZ,bB,rfl,_⟩:=h.form;refine bl E.l ?_;refine aa ?_;intro w1 br cF ah al;refine aa ?_;intro aB bP db aj au;have gq:=cr al;replace al:=aj.obj al;have z2:=cr au;have z3:=ah.size;have e2:=ah.trans aj;refine aa ?_;refine J_ (an0 _ m aB (aS.ext e2) aH (aJ.ext e2)) ?_;rintro _ aK ⟨rfl,ag⟩;replace al:=ag.obj al;replace au:=ag.obj au;have a1:=e2.trans ag;by_cases hk:(o.check m).cC=0
 .rw[decide_eq_true hk];refine aa ?_;refine J_ (anw _ m aK (aS.ext a1) aH (o.iu hk)) ?_;rintro _ aR ⟨⟨xs,u,rfl,cM,ak⟩,aw⟩;obtain⟨l7,d0,jW,d1,kQ,d2,pa,d3,oD,d4,rfl,_⟩:=cM.here.form;obtain⟨u6,tc,rfl,_⟩:=ak.here.form;replace au:=aw.obj au;have bC:=a1.trans aw;have z4:=ag.size;refine aa ?_;intro bo bR e9 aF bh;replace au:=aF.obj au;refine aa ?_;intro bt gP b1;have ax:=(cM.ext aF aw.size).wr gP Aw;refine aa ?_;exact⟨⟨_,rfl,by rw[o.FB hk];exact ax.low a1.size⟩,gP.ext (bC.trans aF) Aw⟩
 .rw[decide_eq_false hk];refine aa ?_;intro aR dq bf;refine aa ?_;exact⟨⟨[_,_,_,_,_,_],rfl,by rw[o.anv hk];exact gS.of fun _=>o.ky.zero _⟩,dq.ext a1 Aw⟩
end Go.Proofs.R
end
section
namespace o
theorem agu{c:dg}{s:C_ Scalar}(h:Db c s)(ad:c.scalar≠0):∃i,∃U:i<s.length,c.scalar=(i:Int)+1/\s[i].size=size c.scalar s:=by
 have e:=h.ga.resolve_left ad;unfold size at e ⊢;split at e
 .rename_i x af;obtain⟨b4,uO⟩:=List.getElem?_eq_some_iff.1 af;split at e
  .rename_i h1;refine⟨(c.scalar - 1).toNat,b4,Aw,?_⟩;rw[uO,if_pos h1]
  .exact absurd rfl e
 .exact absurd rfl e
theorem Rr(so iQ:Int)(l:C_ dN)(b:dN):fB so iQ (l++[b]) 0=fB so iQ l 0++[⟨so,iQ,(l.length:Nat),b.aQ,b.U,b.kind⟩]:=by
 rw[Rq,AE9]
end o
namespace Go.Proofs.R
open Go Go.RowKit a7
theorem aa9{α:Type}{enc:α->C_ B_}{e:F_}{sz base:Nat}{w w':A_}{v:B_}{xs:C_ α}(aJ:aP enc e sz base w v xs)(aH:w.grownBy w' v.ownBlock):eC [e] w w':=eC.mod (A:=fun k=>v.ownBlock=some k) (Mod.grown aH fun k hk=>hk) fun k c t ai a=>by
 obtain⟨cur,h⟩:=aJ.cm k a;rw[ai] at h;injection h with h;injection h with _ h;rw[h];simp
theorem aqw(cs:C_ B_)(m:o.Model)(w:A_)(h:o.dU w cs m)(aH:m.cA)(aS:o.eD m) :
  Dz F.KS #[.agg cs.toArray] w fun v w'=>aP o.Cell.enc T.tD 6 w.heap.size w' v (o.bU m)/\Ext w w':=by
 obtain⟨bW,bu,bI,c1,bO,c2,bQ,bp,bZ,bB,rfl,ad,h1,I,ab,aE,eU,eh,eo,dY,ew⟩:=h.form;have gG:=aS.gG;refine bl E.KS ?_;refine aa ?_;intro w1 br cF ah al;refine aa ?_;refine L_ 4 m.vars.length [1] (fun v:gr=>[(3,.slice v.1 v.2.1 v.2.2)]) (none,0,0) (fun k v W=>Ext w1 W/\aP o.Cell.enc T.tD 6 w1.heap.size W (.slice v.1 v.2.1 v.2.2) (o.cellsOf 1 ((o.cP m).take k) 0)) a8 a8 ⟨Ext.refl _,aP.nil _ _ _ _ _⟩ ?_;have sc:=al;clear al;rintro k v S aB hk ⟨aj,dj⟩;have al:=aj.obj sc;have e2:=ah.trans aj;refine aa ?_;apply I_<;>intro g1
 .have aV:k<m.vars.length:=Aw
  obtain⟨a,rfl⟩:=h1.addr;have dT:=((h1.at k aV).cells).ext e2;have c5:=aS.var _ (Gy aV);have lY:=o.Md c5 gG.1;have aD:k<(o.cP m).length:=by simpa[o.cP] using aV
  have tz:=o.L8 m aS (k+1);rw[o.Gt aD] at tz;have x4:(o.cP m)[k]=o.AG m.scalars m.vars[k]:=by simp[o.cP]
  rw[x4,o.CY] at tz;have dv:=o.r0 m.vars[k] m.scalars;refine aa ?_;refine P_ (.tuple #[.I (o.bounds m.vars[k] m.scalars).1,.I (o.bounds m.vars[k] m.scalars).2]) (fun w' e=>Si m.vars[k] _ m.scalars w' (ad.ext (e2.trans e))) ?_;refine aa ?_;intro aK ag;have dG:=dj.ext ag;have bh:=ag.obj al;have hd:=aj.trans ag;clear al dT;refine aa ?_;refine L_ 7 (o.cells m.vars[k] m.scalars).toNat [1,4,5,6] (fun v:gr=>[(3,.slice v.1 v.2.1 v.2.2)]) v (fun j v W=>Ext w1 W/\aP o.Cell.enc T.tD 6 w1.heap.size W (.slice v.1 v.2.1 v.2.2) (o.cellsOf 1 ((o.cP m).take k) 0++o.fB 1 k (List.replicate j (o.eS m.vars[k].scalar m.vars[k].aQ m.vars[k].U m.scalars)) 0)) a8 a8 ⟨hd,by simpa[o.fB] using dG⟩ ?_;clear bh dG dj aj ag hd;rintro j v S aR aC ⟨aw,dz⟩;have al:=aw.obj sc;have bC:=ah.trans aw;have dT:=((h1.at k aV).cells).ext bC;refine aa ?_;refine P_ _ (fun w' e=>Sj m.vars[k] _ m.scalars w' (ad.ext (bC.trans e))) ?_;refine aa ?_;intro bo aF;replace al:=aF.obj al;replace dT:=dT.ext aF;have dt:=dz.ext aF;have qm:=aw.trans aF;refine aa ?_;apply I_<;>intro g2
  .have en:j<(o.cells m.vars[k] m.scalars).toNat:=Aw
   refine aa ?_;refine J_ (Sl m.vars[k].scalar bo (by unfold o.dP;omega)) ?_;rintro _ oC ⟨rfl,rfl⟩;refine aa ?_;intro bt ee gf aI b1;have c9:=dt.ext aI;have B2:=qm.trans aI;have az:(o.cellsOf 1 ((o.cP m).take k) 0++o.fB 1 k (List.replicate j (o.eS m.vars[k].scalar m.vars[k].aQ m.vars[k].U m.scalars)) 0).length=o.total ((o.cP m).take k)+j:=by
    rw[Lk,o.kY,o.u0,AF7]
   refine U_ (y:=⟨1,k,j,(o.bounds m.vars[k] m.scalars).1,(o.bounds m.vars[k] m.scalars).2,o.kindOf m.vars[k].scalar⟩) c9 b1 rfl (fun _=>rfl) o.DO (by rw[az];omega) (by rw[az];unfold maxLen;omega) B2.size fun aO n c bG dM kJ=>?_;refine aa ?_;refine⟨en,aL,(aO,n,c),a8,c9.k2 B2 kJ (Gf _),?_⟩;rw[List.replicate_succ',o.Rr,<-Wi,AF7,o.zc];rw[o.zc] at dM;exact dM
  .have mO:j=(o.cells m.vars[k] m.scalars).toNat:=Aw
   refine aa ?_;refine⟨aV,aL,v,a8,qm,?_⟩;have e2:(0+((o.cP m).take k).length:Nat)=k:=by rw[LQ];omega
   rw[L1 aD,x4,o.zh,e2];rw[mO] at dt;exact dt
 have lV:m.vars.length<=k:=Aw
 rw[Lj (by simpa[o.cP] using lV)] at dj;have S0:=o.L8 m aS m.vars.length;rw[Lj (by simp[o.cP])] at S0;refine aa ?_;refine L_ 8 m.ar.length [1] (fun v:gr=>[(3,.slice v.1 v.2.1 v.2.2)]) v (fun k v W=>Ext w1 W/\aP o.Cell.enc T.tD 6 w1.heap.size W (.slice v.1 v.2.1 v.2.2) (o.cellsOf 1 (o.cP m) 0++o.cellsOf 2 ((o.dx m).take k) 0)) a8 a8 ⟨aj,by simpa[o.cellsOf] using dj⟩ ?_;clear al dj aj e2;rintro k v S aB hk ⟨aj,dj⟩;have al:=aj.obj sc;have e2:=ah.trans aj;refine aa ?_;apply I_<;>intro g2
 .have aV:k<m.ar.length:=Aw
  obtain⟨a,rfl⟩:=I.addr;have dT:=((I.at k aV).cells).ext e2;have c5:=aS.chan _ (Gy aV);have lY:=o.NU c5 gG.1;have hS:=c5.cap;have aD:k<(o.dx m).length:=by simpa[o.dx] using aV
  have tz:=o.SZ m aS (k+1);rw[o.Gt aD] at tz;have x4:(o.dx m)[k]=o.nk m.scalars m.ar[k]:=by simp[o.dx]
  rw[x4,o.vI] at tz;have zI:(o.cellsOf 1 (o.cP m) 0++o.cellsOf 2 ((o.dx m).take k) 0).length=o.total (o.cP m)+o.total ((o.dx m).take k):=by rw[Lk,o.kY,o.kY]
  refine aa ?_;intro aK j0 lT ag dp;replace dp:aK.heap[j0]? = some (.cells m.ar[k].enc.toArray T.u):=dp;replace al:=ag.obj al;have dG:=dj.ext ag;clear dT;have hd:=aj.trans ag;refine aa ?_;intro aR cx e3 aw bf;have dz:=dG.ext aw;have k7:=hd.trans aw;refine U_ (y:=⟨2,k,0,0,m.ar[k].cap,0⟩) dz bf rfl (fun _=>rfl) o.DO (by rw[zI];omega) (by rw[zI];unfold maxLen;omega) k7.size fun aO n c bo dt gT=>?_;have al:=dz.box gT (aw.obj al) BJ;have dp:=dz.box gT (aw.obj dp) BJ;have qm:=dz.k2 k7 gT (Gf _);have bF:=ah.trans qm;have awI:=cr dp;clear dj dG bf e3 aw ag lT;refine dO ?_;simp -dsimp only[cu];refine dO ?_;intro bt aI;replace al:=aI.obj al;replace dp:=aI.obj dp;have c9:=dt.ext aI;have cg:=bF.trans aI;have B2:=qm.trans aI;refine S_ [1,3,8,9] (fun _:Unit=>[(10,.I (o.kZ m.scalars m.ar[k]).aQ),(11,.I (o.kZ m.scalars m.ar[k]).U)]) (fun _ W=>Ext bt W) ?_ ?_
  .refine aa ?_;apply I_<;>intro g3
   .obtain⟨i,U,Fc,QF⟩:=o.agu c5 Aw;obtain⟨a0,rfl⟩:=ad.addr;have gk:=((ad.at i U).cells).ext cg;refine aa ?_;refine K_ i Aw U ?_;refine aa ?_;intro bG bm;refine aa ?_;have e:o.kZ m.scalars m.ar[k]=⟨0,m.scalars[i].size,m.ar[k].scalar+1⟩:=by unfold o.kZ o.eS;rw[if_neg Aw,QF]
    rw[e];exact⟨(),a8,bm⟩
   .have hb:m.ar[k].scalar=0:=Aw
    refine aa ?_;have e:o.kZ m.scalars m.ar[k]=⟨min 0 m.ar[k].aQ,max 0 m.ar[k].U,0⟩:=by unfold o.kZ o.eS;rw[if_pos hb,Int.min_comm,Int.max_comm]
    rw[e];exact⟨(),a8,Ext.refl _⟩
  rintro _ S bG bm;replace al:=bm.obj al;replace dp:=bm.obj dp;have dM:=c9.ext bm;have B3:=B2.trans bm;have zP:o.kZ m.scalars m.ar[k]=⟨(o.kZ m.scalars m.ar[k]).aQ,(o.kZ m.scalars m.ar[k]).U,o.kindOf m.ar[k].scalar⟩:=by
   unfold o.kZ o.eS o.kindOf;split<;>rfl
  have JN:∀{W:A_},W.heap[j0]? = bG.heap[j0]? -> _:=fun e=>e.trans dp;refine aa ?_;refine _P [1,8,9,10,11] (fun x:gr×Nat=>[(3,.slice x.1.1 x.1.2.1 x.1.2.2),(12,.I ((x.2:Int)+1))]) ((aO,n,c),0) (fun x W=>(Ext w1 W/\W.heap[j0]? = bG.heap[j0]? /\ (x.2:Int)<=m.ar[k].cap)/\aP o.Cell.enc T.tD 6 w1.heap.size W (.slice x.1.1 x.1.2.1 x.1.2.2) (o.cellsOf 1 (o.cP m) 0++o.cellsOf 2 ((o.dx m).take k) 0++o.fB 2 k (⟨0,m.ar[k].cap,0⟩ :: List.replicate x.2 (o.kZ m.scalars m.ar[k])) 0)) (fun x=>(m.ar[k].cap - x.2).toNat) a8 ⟨⟨B3,rfl,by simp only;omega⟩,by simpa[o.fB] using dM⟩ ?_;clear al dp dM c9 dt;rintro⟨v,j⟩ S cQ ⟨⟨EF,lT,aC⟩,hx⟩;have al:=EF.obj sc;have dp:=JN lT;simp only at aC;refine aa ?_;apply I_<;>intro g4
  .refine aa ?_;refine J_ (Sl m.ar[k].scalar cQ (by unfold o.dP;omega)) ?_;rintro _ oC ⟨rfl,rfl⟩;refine aa ?_;intro cS qY wb bT gu;have gO:=hx.ext bT;have EG:=EF.trans bT;have az:(o.cellsOf 1 (o.cP m) 0++o.cellsOf 2 ((o.dx m).take k) 0++o.fB 2 k (⟨0,m.ar[k].cap,0⟩ :: List.replicate j (o.kZ m.scalars m.ar[k])) 0).length=o.total (o.cP m)+o.total ((o.dx m).take k)+(j+1):=by
    rw[Lk,zI,o.u0,AH0,AF7]
   refine U_ (y:=⟨2,k,(j:Int)+1,(o.kZ m.scalars m.ar[k]).aQ,(o.kZ m.scalars m.ar[k]).U,o.kindOf m.ar[k].scalar⟩) gO gu rfl (fun _=>rfl) o.DO (by rw[az];omega) (by rw[az];unfold maxLen;omega) EG.size fun aO n c eG pH oU=>?_;have akk:=gO.box oU (bT.obj dp) BJ;refine aa ?_;refine⟨((aO,n,c),j+1),a8,⟨⟨gO.k2 EG oU (Gf _),akk.trans (JN rfl).symm,by simp only;omega⟩,?_⟩,by simp only;omega⟩;rw[List.replicate_succ',<-List.cons_append,o.Rr,<-Wi,AH0,AF7];rw[zP] at pH ⊢;exact pH
  .refine aa ?_;refine⟨aV,aL,v,a8,EF,?_⟩;have e2:(0+((o.dx m).take k).length:Nat)=k:=by rw[LQ];omega
   have r4:j=m.ar[k].cap.toNat:=Aw
   rw[L1 aD,x4,o.zh,e2,<-Wi];rw[r4] at hx;exact hx
 have rh:m.ar.length<=k:=Aw
 rw[Lj (by simpa[o.dx] using rh)] at dj;refine aa ?_;refine J_ (F7 _ m aB (h.ext e2) aH) ?_;rintro bH qI ⟨eM,uG⟩;obtain⟨b9,ci,rfl,_⟩:=eM.form;have P3:∀{W:A_},eC [T.tD] qI W->kk W (.slice b9 (o.insts m).length ci) (o.insts m):=fun k=>aP.hA (enc:=o.cR.enc) (fun _=>rfl) (eM.ig k BJ);have kq:(o.insts m).length<=30:=by have:=o.uS m;have:=aS.procs;omega
 have Z0:=dj.ext uG;have Zi:=aj.trans uG;have awz:=uG.size;refine aa ?_;refine L_ 14 (o.insts m).length [1,13] (fun v:gr=>[(3,.slice v.1 v.2.1 v.2.2)]) v (fun k v W=>(Ext w1 W/\eC [T.tD] qI W)/\aP o.Cell.enc T.tD 6 w1.heap.size W (.slice v.1 v.2.1 v.2.2) (o.cellsOf 1 (o.cP m) 0++o.cellsOf 2 (o.dx m) 0++o.cellsOf 3 ((o.fu m).take k) 0)) a8 a8 ⟨⟨Zi,eC.refl⟩,by simpa[o.cellsOf] using Z0⟩ ?_;clear al dj aj e2 Z0 uG Zi;rintro k v S aB hk ⟨⟨aj,oo⟩,dj⟩;have fs:=P3 oo;have al:=aj.obj sc;have e2:=ah.trans aj;refine aa ?_;apply I_<;>intro g3
 .have aV:k<(o.insts m).length:=Aw
  obtain⟨h7,rfl⟩:=fs.addr;have mT:=o.rr _ (Gy aV);obtain⟨p,aq,hU,qh⟩:=o.z8 mT;have c5:=aS.proc _ (Gy aq);have ZK:=c5.b2;have sd:=c5.gG.1;obtain⟨a,rfl⟩:=ab.addr;obtain⟨lZ,bV,dL,dA,eW,fl⟩:=ab.at p aq;obtain⟨ep,fp,rfl,fc⟩:=eW.form;obtain⟨ov,nY,rfl,lc⟩:=fl.form;replace dA:=dA.ext e2;have aD:k<(o.fu m).length:=by simpa[o.fu] using aV
  have tz:=o.adQ m aS (k+1);rw[o.Gt aD] at tz;have x4:(o.fu m)[k]=o.u9 m.scalars m.procs[p]:=by simp[o.fu,qh]
  rw[x4,o.Ap] at tz;have zI:(o.cellsOf 1 (o.cP m) 0++o.cellsOf 2 (o.dx m) 0++o.cellsOf 3 ((o.fu m).take k) 0).length=o.total (o.cP m)+o.total (o.dx m)+o.total ((o.fu m).take k):=by rw[Lk,Lk,o.kY,o.kY,o.kY]
  refine aa ?_;intro aK ag;replace dA:=dA.ext ag;replace al:=ag.obj al;replace fs:=fs.ext Flat.ext ag;have dG:=dj.ext ag;have hd:=aj.trans ag;refine aa ?_;refine K_ p hU aq ?_;refine aa ?_;intro wn za Et fr eE;refine⟨fr,?_⟩;refine aa ?_;intro aR dq bf;have Jl:Ext aK aR:=dq.ext fr Et;replace bf:aR.heap[za]? = some (.cells (m.procs[p].enc (.slice ep m.procs[p].vars.length fp) (.slice ov m.procs[p].cy.length nY)).toArray T.k):=bf;unfold o.dw.enc at bf;replace al:=Jl.obj al;have dz:=dG.ext Jl;have k7:=hd.trans Jl;clear dq fr eE dA dG dj fs;refine aa ?_;intro bo dE kI aF bY;have dt:=dz.ext aF;have qm:=k7.trans aF;refine U_ (y:=⟨3,k,0,0,m.procs[p].b2 - 1,0⟩) dt bY rfl (fun _=>rfl) o.DO (by rw[zI];omega) (by rw[zI];unfold maxLen;omega) qm.size fun aO n c bt c9 iq=>?_;have al:=dt.box iq (aF.obj al) BJ;have zE:=dt.box iq (aF.obj bf) BJ;have B2:=dt.k2 qm iq (Gf _);have Rm:eC [T.tD] qI bt:=((oo.trans (eC.ext (ag.trans Jl))).trans (eC.ext aF)).trans (aa9 dt iq);clear bf dz;have aao:∀{W:A_},W.heap[za]? = bt.heap[za]? -> _:=fun e=>e.trans zE;refine aa ?_;refine L_ 16 m.procs[p].vars.length [1,13,14,15] (fun v:gr=>[(3,.slice v.1 v.2.1 v.2.2)]) (aO,n,c) (fun j v W=>((Ext w1 W/\eC [T.tD] qI W)/\W.heap[za]? = bt.heap[za]?)/\aP o.Cell.enc T.tD 6 w1.heap.size W (.slice v.1 v.2.1 v.2.2) (o.cellsOf 1 (o.cP m) 0++o.cellsOf 2 (o.dx m) 0++o.cellsOf 3 ((o.fu m).take k) 0++o.fB 3 k (⟨0,m.procs[p].b2 - 1,0⟩ :: (m.procs[p].vars.take j).map fun v=>o.eS v.scalar v.aQ v.U m.scalars) 0)) a8 a8 ⟨⟨⟨B2,Rm⟩,rfl⟩,by simpa[o.fB] using c9⟩ ?_;clear al zE c9;rintro j v S bG aC ⟨⟨⟨B3,uZ⟩,Et⟩,dM⟩;have al:=B3.obj sc;have zE:=aao Et;have c8:=ah.trans B3;refine aa ?_;apply I_<;>intro g4
  .have en:j<m.procs[p].vars.length:=Aw
   obtain⟨qX,rfl⟩:=eW.addr;have dT:=((eW.at j en).cells).ext c8;have QP:=c5.var _ (Gy en);have lY:=o.Md QP gG.1;refine aa ?_;refine P_ (.tuple #[.I (o.bounds m.procs[p].vars[j] m.scalars).1,.I (o.bounds m.procs[p].vars[j] m.scalars).2]) (fun w' e=>Si m.procs[p].vars[j] _ m.scalars w' (ad.ext (c8.trans e))) ?_;refine aa ?_;intro cQ bA;replace al:=bA.obj al;replace zE:=bA.obj zE;replace dT:=dT.ext bA;have hx:=dM.ext bA;have EF:=B3.trans bA;refine aa ?_;refine J_ (Sl m.procs[p].vars[j].scalar cQ (by unfold o.dP;omega)) ?_;rintro _ oC ⟨rfl,rfl⟩;refine aa ?_;intro cS j0 lT bT dp;have gO:=hx.ext bT;have EG:=EF.trans bT;have az:(o.cellsOf 1 (o.cP m) 0++o.cellsOf 2 (o.dx m) 0++o.cellsOf 3 ((o.fu m).take k) 0++o.fB 3 k (⟨0,m.procs[p].b2 - 1,0⟩ :: (m.procs[p].vars.take j).map fun v=>o.eS v.scalar v.aQ v.U m.scalars) 0).length=o.total (o.cP m)+o.total (o.dx m)+o.total ((o.fu m).take k)+(j+1):=by
    rw[Lk,zI,o.u0,AH0,AK3,LQ];omega
   have b4:((m.procs[p].vars.take j).map fun v=>o.eS v.scalar v.aQ v.U m.scalars).length=j:=by simp;omega
   refine U_ (y:=⟨3,k,1+(j:Int),(o.bounds m.procs[p].vars[j] m.scalars).1,(o.bounds m.procs[p].vars[j] m.scalars).2,o.kindOf m.procs[p].vars[j].scalar⟩) gO dp rfl (fun _=>rfl) o.DO (by rw[az];omega) (by rw[az];unfold maxLen;omega) EG.size fun aO n c eG pH oU=>?_;have aj3:=gO.box oU (bT.obj zE) BJ;refine aa ?_;refine⟨en,aL,(aO,n,c),a8,⟨⟨gO.k2 EG oU (Gf _),(uZ.trans (eC.ext (bA.trans bT))).trans (aa9 gO oU)⟩,aj3.trans (aao rfl).symm⟩,?_⟩;rw[L1 en,AF6,<-List.cons_append,AG5,AJ6,o.Rr,<-Wi,AH0,b4,o.zc m.procs[p].vars[j],show((j+1:Nat):Int)=1+(j:Int) from Aw];exact pH
  .refine aa ?_;refine⟨aV,aL,v,a8,⟨B3,uZ⟩,?_⟩;have e2:(0+((o.fu m).take k).length:Nat)=k:=by rw[LQ];omega
   rw[Lj (l:=m.procs[p].vars) Aw] at dM;rw[L1 aD,x4,o.zh,e2,<-Wi];exact dM
 .rw[Lj (by simp[o.fu];omega)] at dj;refine aa ?_;exact⟨aP.low ah.size dj,e2⟩
end Go.Proofs.R
end