/- Texts joined: ModG LayA LayB LayC LayD LayE LayF LayG LayH. -/
import Derived.Test.YtempnjgiohpopaaGreatDoorQwrd
import Derived.Test.YtempnjgiohpopaaGreatDoorQwre
import Derived.Test.YtempnjgiohpopaaGreatDoorQwri
import Derived.Test.YtempnjgiohpopaaGreatDoorQwrj
import Derived.Test.YtempnjgiohpopaaGreatDoorQwrl
set_option linter.all false
set_option maxRecDepth 8000
set_option maxHeartbeats 16000000
section
namespace o
theorem adW{m:Model}(h:(oa m).dh=0):oa m=q8:=Kk (adX h)
end o
namespace Go.Proofs.R
open Go Go.RowKit bt
theorem Xa(b:Nat)(w:World):CallsD Tryz.prog F.n #[.pointer (some ⟨b,0,none⟩)] .returning w fun e iJ w'=>iJ = .returning∧∃v,e = .returned v∧w'=w:=by
 refine K.Up kN L8.n (args:=[_]) (Nat.le_of_ble_eq_true rfl) ?_;dsimp only[GL.n];refine bF ?_;dsimp only[ng];refine aa ?_;refine K.acY (by kernel_rfl) ?_
 (repeat' first
 | assumption
 | exact Ext.refl _
 | refine Ext.trans ?_ (by assumption)
 | refine K.wrap (by omega) ?_
 | refine K.rB (by assumption) ?_ rfl ?_
 | refine K.pC (by assumption) ?_ rfl ?_
 | refine K.sU (by assumption) ?_ (by omega) rfl ?_
 | refine K.sV (by assumption) ?_ (by omega) rfl ?_
 | refine K.sT (by assumption) ?_ (by omega) rfl ?_
 | refine K.sN (by omega) ?_
 | refine K.r9 (by first | assumption | omega) ?_
 | refine K.r8 (by first | assumption | omega) ?_
 | refine K.qe (by assumption) ?_
 | refine K.qd (by assumption) ?_
 | simp -dsimp only[cI,cu,Nat.reduceAdd,Nat.reduceEqDiff,reduceIte,reduceCtorEq,cS])
theorem W9(f:o.pW)(b:Nat)(w:World)(aD:w.heap[b]? = some (.cells #[.int .i64 0,.int .i64 0,.int .i64 0,.int .i64 0] T.t)) :
  CallsD Tryz.prog F.n #[.pointer (some ⟨b,0,none⟩)] (.panicking (tm f)) w fun e iJ w'=>iJ=(ng (.panicking (tm f))).2∧∃v,e = .returned v ∧
   (w'.heap[b]? = some (.cells #[.int .i64 f.dh,.int .i64 f.part,.int .i64 f.item,.int .i64 f.sub] T.t)∧∀w0,Ext w0 w→w0.heap.size≤b→Ext w0 w'):=by
 refine K.Up kN L8.n (args:=[_]) (Nat.le_of_ble_eq_true rfl) ?_;dsimp only[GL.n];refine bF ?_;dsimp only[ng,tm];refine aa ?_;refine K.acZ (by kernel_rfl) ?_;refine aa ?_;refine K.VW rfl (by kernel_rfl) ?_;refine aa ?_;intro w1 bz cK az al;have DB:=cL aD;replace aD:=az.obj aD;refine aa ?_;intro aR oQ aI;refine aa ?_;exact⟨aI,fun w0 e aQ=>oQ.ext (e.trans az) aQ⟩
theorem JZ(cs:List Value)(m:o.Model)(w:World)(h:o.ew w cs m)(a6:m.cT)(a8:h9 w) :
  bq Tryz.prog F.y #[.agg cs.toArray] w fun v w'=>v = .agg #[.int .i64 (o.check m).dh,.int .i64 (o.check m).part,.int .i64 (o.check m).item,.int .i64 (o.check m).sub]∧Ext w w':=by
 obtain⟨cv,bN,b9,c1,cq,c2,cm,bK,cw,bQ,rfl,_⟩:=h.form;refine K.afL kN U6.y (args:=[_]) (Nat.le_of_ble_eq_true rfl) ?_;dsimp only[L3.y];refine bF ?_;refine aa ?_;intro w1 bz cK az al;refine aa ?_;intro aR b4 dw aA aI;replace al:=aA.obj al;have fy:=cL al;have z5:=cL aI;refine aa ?_;refine K.defer (by kernel_rfl) ?_;refine aa ?_;refine K.u1 fun ba dv yt au hW=>?_;replace al:=au.obj al;replace aI:=au.obj aI;have z2:=cL aI;have z3:=aA.size;have z4:=az.size;have bO:=(az.trans aA).trans au;have Hr:∀(f:o.pW) (w':World) (S:Fr),Ext w w'→w'.heap[b4]? = some (.cells #[.int .i64 0,.int .i64 0,.int .i64 0,.int .i64 0] T.t)→S 2 = .pointer (some ⟨b4,0,none⟩)→f=o.check m →
   AU Tryz.prog [.hC 4 2] F.n #[.pointer (some ⟨b4,0,none⟩)] (fun v w'=>v = .agg #[.int .i64 (o.check m).dh,.int .i64 (o.check m).part,.int .i64 (o.check m).item,.int .i64 (o.check m).sub]∧Ext w w') (.fC (tm f)) S w':=by
  rintro f w' S e av ch rfl;refine K.Xz (qT.of (W9 (o.check m) b4 w' av) rfl ?_);rintro bo ⟨aD,he⟩;simp -dsimp only[cI,cu,Nat.reduceAdd,Nat.reduceEqDiff,reduceIte,reduceCtorEq,cS,ch];refine K.gg aD (Ext.refl _) rfl ?_;simp -dsimp only[cI,cu,Nat.reduceAdd,Nat.reduceEqDiff,reduceIte,reduceCtorEq,cS];exact⟨bu,he _ e (by omega)⟩
 refine aa ?_;refine K.eQ (YM _ m dv ba h bO (by omega) a8 (e3.empty hW)) ?_ ?_;rotate_left
 ·rintro c bo ⟨h1,rfl,b8,m4⟩;refine aa ?_;exact Hr _ bo _ b8 (m4.obj (by omega) aI) rfl (by rw[o.check,if_pos h1])
 rintro _ bo ⟨h1,b8,m4,nj⟩;replace al:=m4.obj (by omega) al;replace aI:=m4.obj (by omega) aI;refine aa ?_;refine K.eQ (adU _ m dv bo h a6 b8 (by omega) a8 h1 nj) ?_ ?_;rotate_left
 ·rintro c bR ⟨U,rfl,ca,m5⟩;refine aa ?_;exact Hr _ bR _ ca (m5.obj (by omega) aI) rfl (by rw[o.check,if_neg (by simpa using h1),if_pos U])
 rintro _ bR ⟨U,ca,m5,mC⟩;replace al:=m5.obj (by omega) al;replace aI:=m5.obj (by omega) aI;refine aa ?_;refine K.eQ (adV _ m dv bR h a6 ca (by omega) a8 mC) ?_ ?_;rotate_left
 ·rintro c bW ⟨ai,rfl,c0,m6⟩;refine aa ?_;exact Hr _ bW _ c0 (m6.obj (by omega) aI) rfl (by rw[o.check,if_neg (by simpa using h1),if_neg (by simpa using U)])
 rintro _ bW ⟨ai,c0,m6⟩;replace al:=m6.obj (by omega) al;replace aI:=m6.obj (by omega) aI;have kJ:o.check m=o.q8:=by rw[o.check,if_neg (by simpa using h1),if_neg (by simpa using U),o.adW ai]
 refine aa ?_;intro cj eo c5;refine aa ?_;refine K.XA (qT.of (Xa b4 cj) rfl ?_);rintro _ rfl;refine aa ?_;exact⟨by rw[kJ];rfl,eo.ext c0 (by omega)⟩
end Go.Proofs.R
end
section
namespace o
open Go
def di.enc(b:di):List Value:=[.int .i64 b.aZ,.int .i64 b.ad,.int .i64 b.kind]
def Cell.slot(x:Cell):List Value:=[.int .i64 x.sort,.int .i64 x.tq,.int .i64 x.place,.int .i64 x.kind]
def Cell.enc(x:Cell):List Value:=[.int .i64 x.sort,.int .i64 x.tq,.int .i64 x.place,.int .i64 x.aZ,.int .i64 x.ad,.int .i64 x.kind]
theorem tQ:∀(y:di),∀u∈y.enc,u.oneCell'=true:=by intro y u hu;simp[di.enc] at hu;rcases hu with rfl | rfl | rfl<;>rfl
theorem afw:∀(y:Cell),∀u∈y.slot,u.oneCell'=true:=by intro y u hu;simp[Cell.slot] at hu;rcases hu with rfl | rfl | rfl | rfl<;>rfl
theorem Az:∀(y:Cell),∀u∈y.enc,u.oneCell'=true:=by intro y u hu;simp[Cell.enc] at hu;rcases hu with rfl | rfl | rfl | rfl | rfl | rfl<;>rfl
end o
namespace Go.Proofs.R
open Go Go.RowKit bt
theorem acw(k:Int)(w:World)(h:o.ep (k+1)):bq Tryz.prog F.AQ #[.int .i64 k] w fun v w'=>v = .int .i64 (o.kindOf k)∧w'=w:=by
 unfold o.ep at h;refine bI E.AQ ?_;refine bF ?_;unfold o.kindOf;refine aa ?_;apply K.cond<;>intro g1
 ·refine aa ?_;exact⟨by rw[if_pos g1],bu⟩
 ·refine aa ?_;exact⟨by rw[if_neg g1],bu⟩
theorem Kz(k:Int)(w:World)(h:o.ep (k+1)):bq Tryz.prog F.wX #[.int .i64 k] w fun v w'=>v = .int .i64 (o.kindOf k)∧w'=w:=by
 unfold o.ep at h;refine bI E.wX ?_;refine bF ?_;unfold o.kindOf;refine aa ?_;apply K.cond<;>intro g1
 ·refine aa ?_;exact⟨by rw[if_pos g1],bu⟩
 ·refine aa ?_;exact⟨by rw[if_neg g1,Int.add_comm],bu⟩
theorem JX(x:o.Var)(v:Value)(l:List o.Scalar)(w:World)(aQ:o.fY w v l)(h:o.ep (x.scalar+1)) :
  bq Tryz.prog F.am #[.agg x.enc.toArray,v] w fun v w'=>v = .agg (o.eK x.scalar x.aZ x.ad l).enc.toArray∧Ext w w':=by
 obtain⟨aq,c,rfl,_⟩:=aQ.form;rw[o.Av];refine bI E.am ?_;refine bF ?_;refine aa ?_;intro w1 bz cK az al;refine aa ?_;intro aR b4 dw aA aI;replace al:=aA.obj al;have fy:=cL al;have z2:=cL aI;have bg:=az.trans aA;refine aa ?_;refine K.call (OK x _ l aR (aQ.ext bg)) ?_;rintro _ ba ⟨rfl,au⟩;replace al:=au.obj al;replace aI:=au.obj aI;have bO:=bg.trans au;refine aa ?_;refine K.call (acw x.scalar ba h) ?_;rintro _ l9 ⟨rfl,rfl⟩;refine aa ?_;intro bo ed bJ;refine aa ?_;exact⟨bu,ed.ext bO (by have:=az.size;omega)⟩
theorem acI(cs:List Value)(m:o.Model)(w:World)(h:o.ew w cs m)(a6:m.cT)(a8:h9 w) :
  bq Tryz.prog F.AB #[.agg cs.toArray] w fun v w'=>v = .bool (decide ((o.check m).dh=0))∧Ext w w':=by
 obtain⟨cv,bN,b9,c1,cq,c2,cm,bK,cw,bQ,rfl,_⟩:=h.form;refine bI E.AB ?_;refine bF ?_;refine aa ?_;intro w1 bz cK az al;refine aa ?_;refine K.call (JZ _ m w1 (h.ext az) a6 (a8.ext az)) ?_;rintro _ aR ⟨rfl,aA⟩;refine aa ?_;refine K.ki (v:=.int .i64 (o.check m).dh) rfl ?_;refine aa ?_;exact⟨bu,az.trans aA⟩
theorem YN(cs:List Value)(m:o.Model)(w:World)(h:o.ew w cs m)(a6:m.cT) :
  bq Tryz.prog F.Cu #[.agg cs.toArray] w fun v w'=>v = .bool (decide ((o.check m).dh=0))∧Ext w w':=by
 obtain⟨cv,bN,b9,c1,cq,c2,cm,bK,cw,bQ,rfl,_⟩:=h.form;refine bI E.Cu ?_;refine bF ?_;refine aa ?_;intro w1 bz cK az al;refine aa ?_;refine K.call (Kx _ m w1 (h.ext az) a6) ?_;rintro _ aR ⟨rfl,aA⟩;unfold ui;refine aa ?_;refine K.ki (v:=.int .i64 (o.check m).dh) rfl ?_;refine aa ?_;exact⟨bu,az.trans aA⟩
end Go.Proofs.R
end
section
namespace bt
open Go Go.RowKit
theorem hl.congr{α:Type}{enc:α→List Value}{e:TypeId}{sz base n:Nat}{w:World}{vs qN:Nat→Option Addr×Nat×Nat}{xs Du:Nat→List α}(h:hl enc e sz base w n vs xs)(aU:∀i,i<n→vs i=qN i)(aw:∀i,i<n→xs i=Du i):hl enc e sz base w n qN Du :=
 ⟨fun i ad=>by rw[←aU i ad,←aw i ad];exact h.own i ad,fun i j k ad aT dc he=>by rw[←aU j aT];rw[←aU i ad] at he;exact h.apart i j k ad aT dc he⟩
theorem HY{S:Fr}{t:Nat}{n:Int}(h:S t = .int .i64 n):ey S ((List.range 1).map fun i=>(i*1,1)) [(0,.tmp t)] [.int .i64 0]=some [.int .i64 n]:=by
 simp[ey,lay,fr,h,Value.cells,List.range,List.range.loop]
structure dV(cO:List TypeId)(w w':World):Prop where
 size:w.heap.size≤w'.heap.size
 aV:∀(k:Nat) (c:Array Value) (t:TypeId),w.heap[k]? = some (.cells c t)→t∉cO→w'.heap[k]? = some (.cells c t)
section
variable{cO:List TypeId}{a b w w':World}
theorem dV.refl:dV cO w w:=⟨Nat.le_refl _,fun _ _ _ h _=>h⟩
theorem dV.trans{c:World}(h:dV cO a b)(k:dV cO b c):dV cO a c:=⟨Nat.le_trans h.size k.size,fun i c t av aK=>k.aV i c t (h.aV i c t av aK) aK⟩
theorem dV.ext(h:Ext a b):dV cO a b:=⟨h.size,fun _ _ _ av _=>h.obj av⟩
theorem dV.mod{A:Nat→Prop}(h:Mod A a b)(eC:∀(k:Nat) (c:Array Value) (t:TypeId),a.heap[k]? = some (.cells c t)→A k→t∈cO):dV cO a b:=⟨h.size,fun k c t av aK=>h.obj (fun hk=>aK (eC k c t av hk)) av⟩
theorem dV.wr{k:Nat}{c:Array Value}{t:TypeId}{f:Nat×Nat}(h:dH k a b)(av:a.heap[k]? = some (.cells c t f))(aK:t∈cO):dV cO a b:=dV.mod (h.mod (A:=fun i=>i=k) rfl) fun i lR hf nF e=>by
 subst e;rw[av] at nF;injection nF with nF;injection nF with _ e;exact e ▸ aK
theorem bp.gZ{α:Type}{enc:α→List Value}{e:TypeId}{sz base:Nat}{v:Value}{xs:List α}(h:bp enc e sz base a v xs)(k:dV cO a b)(he:e∉cO):bp enc e sz base b v xs:=by
 refine⟨h.1,?_⟩;rcases h.2 with aN | ⟨g,cap,cur,rfl,aD,a6,rest⟩
 ·exact .inl aN
 ·exact .inr ⟨g,cap,cur,rfl,aD,k.aV _ _ _ a6 he,rest⟩
end
end bt
namespace o
structure fT where
 V:List Int
 C:List Int
 eA:List Int
 n:Nat
 L:List Int
 H:List Int
 Z:List Cell
def fT.of(V C eA:List Int)(cs:List Cell):fT:=⟨V,C,eA,cs.length,cs.map (·.aZ),cs.map (·.ad),cs⟩
def fT.rows(s:fT):Nat→List Int:=fun i=>if i=0 then s.V else if i=1 then s.C else if i=2 then s.eA else if i=3 then s.L else s.H
end o
namespace Go.Proofs.R
open Go Go.RowKit bt
def qA:List TypeId:=[T.a,T.s,T.i,T.ac]
structure jf(w1:World)(cy cR:Nat)(s:o.fT)(W:World):Prop where
 mod:Mod (fun k=>k=cy∨k=cR) w1 W
 ex:∃(vs:Nat→fU) (u:fU),W.heap[cy]? = some (.cells #[cf (vs 0),cf (vs 1),cf (vs 2),.int .i64 s.n,cf (vs 3),cf (vs 4)] T.i)∧hl dk T.a 1 w1.heap.size W 5 vs s.rows ∧
  W.heap[cR]? = some (.cells #[cf u] T.ac)∧bp o.Cell.slot T.s 4 w1.heap.size W (cf u) s.Z
theorem jf.move{w1:World}{cy cR:Nat}{s:o.fT}{W ct:World}{A:Nat→Prop}(h:jf w1 cy cR s W)(m:Mod A W ct)(eC:∀(k:Nat) (c:Array Value) (t:TypeId),W.heap[k]? = some (.cells c t)→t∈qA→¬A k)(iW:∀k,A k→w1.heap.size≤k):jf w1 cy cR s ct:=by
 obtain⟨vs,u,h1,U,ai,aL⟩:=h.ex;refine⟨h.mod.comp m (fun _ _ a=>a) fun k hk a=>absurd (iW k a) (by omega),vs,u,m.obj (eC _ _ _ h1 (by decide)) h1,U.mod m fun i k ad hk=>?_,m.obj (eC _ _ _ ai (by decide)) ai,aL.mod m fun k hk=>?_⟩
 ·obtain⟨cur,av⟩:=(U.own i ad).aV k hk;exact eC _ _ _ av (by decide)
 ·obtain⟨cur,av⟩:=aL.aV k hk;exact eC _ _ _ av (by decide)
theorem jf.ext{w1:World}{cy cR:Nat}{s:o.fT}{W ct:World}(h:jf w1 cy cR s W)(e:Ext W ct):jf w1 cy cR s ct:=h.move (A:=fun _=>False) e.mod (fun _ _ _ _ _ h=>h) fun _ h=>h.elim
structure lO(w1:World)(s:o.fT)(x:o.di)(mg:Fr)(w0:World)(vs:Nat→fU)(a33:Addr)(d25 d26 d31 d32 d33:Bool)(S:Fr)(w:World):Prop where
 ml:∀t,t∉[25,26,31,32,33,34]→S t=mg t
 mod:Mod (fun k=>(cf (vs 3)).ownBlock=some k∨(cf (vs 4)).ownBlock=some k) w0 w
 rows:∃v3 v4,hl dk T.a 1 w1.heap.size w 5 (dg (dg vs 3 v3) 4 v4) (dg (dg s.rows 3 (if d26 then s.L++[x.aZ] else s.L)) 4 (if d32 then s.H++[x.ad] else s.H))∧(d26=false→v3=vs 3)∧(d32=false→v4=vs 4) ∧
  (d26=true→S 26=cf v3)∧(d32=true→S 32=cf v4)
 zr:d25=true→d26=false→∃b,S 25 = .slice (some ⟨b,0,none⟩) 1 1∧w0.heap.size≤b∧w.heap[b]? = some (.cells #[.int .i64 x.aZ] T.a)
 C1:d31=true→d32=false→∃b,S 31 = .slice (some ⟨b,0,none⟩) 1 1∧w0.heap.size≤b∧w.heap[b]? = some (.cells #[.int .i64 x.ad] T.a)
 C2:d33=true→S 33 = .pointer (some a33)
section
variable{w1 w0 w:World}{s:o.fT}{x:o.di}{mg S:Fr}{vs:Nat→fU}{a33:Addr}{d25 d26 d31 d32 d33:Bool}{K:Value→World→Prop}
theorem lO.SR(h:lO w1 s x mg w0 vs a33 false false d31 d32 d33 S w)(sj:mg 24 = .int .i64 x.aZ)(hk:∀v w',lO w1 s x mg w0 vs a33 true false d31 d32 d33 (put S (some 25) v) w'→K v w') :
  lH Tryz.prog (.cQ T.a 1 1 [.int .i64 0] [(0,.tmp 24)]) S w K:=by
 have he:Ext w (w.alloc (.cells #[.int .i64 x.aZ] T.a)):=(Ext.refl w).alloc _;refine Aw (HY (by rw[h.ml 24 (by decide),sj])) (hk _ _ ⟨fun t aK=>?_,h.mod.trans he.mod,?_,fun _ _=>⟨_,by simp[ha,cb],h.mod.size,heap_alloc_new w _⟩,fun a b=>?_,fun a=>by rw[ha,cb,if_neg (by decide)];exact h.C2 a⟩)
 ·rw[ha,cb,if_neg (by intro e;subst e;simp at aK)];exact h.ml t aK
 ·obtain⟨v3,v4,h1,U,ai,aL,bn⟩:=h.rows;exact⟨v3,v4,h1.ext he,U,ai,fun e=>(by cases e),fun e=>by rw[ha,cb,if_neg (by decide)];exact bn e⟩
 ·obtain⟨b,h1,U,ai⟩:=h.C1 a b;exact⟨b,by rw[ha,cb,if_neg (by decide)];exact h1,U,he.obj ai⟩
theorem lO.J5(h:lO w1 s x mg w0 vs a33 d25 d26 false false d33 S w)(Y0:mg 30 = .int .i64 x.ad)(hk:∀v w',lO w1 s x mg w0 vs a33 d25 d26 true false d33 (put S (some 31) v) w'→K v w') :
  lH Tryz.prog (.cQ T.a 1 1 [.int .i64 0] [(0,.tmp 30)]) S w K:=by
 have he:Ext w (w.alloc (.cells #[.int .i64 x.ad] T.a)):=(Ext.refl w).alloc _;refine Aw (HY (by rw[h.ml 30 (by decide),Y0])) (hk _ _ ⟨fun t aK=>?_,h.mod.trans he.mod,?_,fun a b=>?_,fun _ _=>⟨_,by simp[ha,cb],h.mod.size,heap_alloc_new w _⟩,fun a=>by rw[ha,cb,if_neg (by decide)];exact h.C2 a⟩)
 ·rw[ha,cb,if_neg (by intro e;subst e;simp at aK)];exact h.ml t aK
 ·obtain⟨v3,v4,h1,U,ai,aL,bn⟩:=h.rows;exact⟨v3,v4,h1.ext he,U,ai,fun e=>by rw[ha,cb,if_neg (by decide)];exact aL e,fun e=>by cases e⟩
 ·obtain⟨b,h1,U,ai⟩:=h.zr a b;exact⟨b,by rw[ha,cb,if_neg (by decide)];exact h1,U,he.obj ai⟩
theorem lO.G8(h:lO w1 s x mg w0 vs a33 true false d31 d32 d33 S w)(YY:mg 22=cf (vs 3))(ck:∀i k,i<5→(cf (vs i)).ownBlock=some k→k<w0.heap.size)(aD:w1.heap.size≤w0.heap.size)(hm:s.L.length≤100000)
  (hk:∀v w',lO w1 s x mg w0 vs a33 true true d31 d32 d33 (put S (some 26) v) w'→K v w') :
  lH Tryz.prog (.app T.c T.a 1 8 (.tmp 22) (.tmp 25)) S w K:=by
 obtain⟨b,bT,bg,bO⟩:=h.zr rfl rfl;obtain⟨v3,v4,h1,U,ai,aL,bn⟩:=h.rows;obtain rfl:=U rfl;show vd Tryz.prog T.c T.a 1 8 (S 22) (S 25) w K;rw[h.ml 22 (by decide),YY,bT];have sE:=h.mod.size;refine hl.app (vs:=dg (dg vs 3 (vs 3)) 4 v4) (xs:=dg (dg s.rows 3 (if false=true then s.L++[x.aZ] else s.L)) 4 (if d32=true then s.H++[x.ad] else s.H)) (y:=x.aZ) 3 (by decide) h1 (fun _=>rfl) (fZ bO) kG (by simp[dg];omega) (by simp[dg];unfold maxLen;omega) (by omega) fun b3 w' a8 a6 _=>?_;have bd:Mod (fun k=>(cf (vs 3)).ownBlock=some k) w w':=Mod.grown a6 fun k hk=>hk;refine hk _ _ ⟨fun t aK=>?_,h.mod.trans (bd.GA fun k hk=>.inl hk),?_,fun _ e=>(by cases e),fun a b=>?_,fun a=>by rw[ha,cb,if_neg (by decide)];exact h.C2 a⟩
 ·rw[ha,cb,if_neg (by intro e;subst e;simp at aK)];exact h.ml t aK
 ·refine⟨b3,v4,a8.congr (fun i ad=>?_) (fun i ad=>?_),fun e=>(by cases e),ai,fun _=>by simp[ha,cb],fun e=>by rw[ha,cb,if_neg (by decide)];exact bn e⟩
  ·unfold dg;by_cases a:i=3
   ·subst a;simp
   ·simp[a]
  ·unfold dg;by_cases a:i=3
   ·subst a;simp
   ·simp[a]
 ·obtain⟨mS,h1,U,ai⟩:=h.C1 a b;exact⟨mS,by rw[ha,cb,if_neg (by decide)];exact h1,U,bd.obj (fun e=>by have:=ck 3 mS (by decide) e;omega) ai⟩
theorem lO.G9(h:lO w1 s x mg w0 vs a33 true true true false d33 S w)(YZ:mg 28=cf (vs 4))(aD:w1.heap.size≤w0.heap.size)(hm:s.H.length≤100000)
  (hk:∀v w',lO w1 s x mg w0 vs a33 true true true true d33 (put S (some 32) v) w'→K v w') :
  lH Tryz.prog (.app T.c T.a 1 8 (.tmp 28) (.tmp 31)) S w K:=by
 obtain⟨b,bT,bg,bO⟩:=h.C1 rfl rfl;obtain⟨v3,v4,h1,U,ai,aL,bn⟩:=h.rows;obtain rfl:=ai rfl;show vd Tryz.prog T.c T.a 1 8 (S 28) (S 31) w K;rw[h.ml 28 (by decide),YZ,bT];have sE:=h.mod.size;refine hl.app (vs:=dg (dg vs 3 v3) 4 (vs 4)) (xs:=dg (dg s.rows 3 (if true=true then s.L++[x.aZ] else s.L)) 4 (if false=true then s.H++[x.ad] else s.H)) (y:=x.ad) 4 (by decide) h1 (fun _=>rfl) (fZ bO) kG (by simp[dg];omega) (by simp[dg];unfold maxLen;omega) (by omega) fun b3 w' a8 a6 _=>?_;have bd:Mod (fun k=>(cf (vs 4)).ownBlock=some k) w w':=Mod.grown a6 fun k hk=>hk;refine hk _ _ ⟨fun t aK=>?_,h.mod.trans (bd.GA fun k hk=>.inr hk),?_,fun _ e=>(by cases e),fun _ e=>(by cases e),fun a=>by rw[ha,cb,if_neg (by decide)];exact h.C2 a⟩
 ·rw[ha,cb,if_neg (by intro e;subst e;simp at aK)];exact h.ml t aK
 ·refine⟨v3,b3,a8.congr (fun i ad=>?_) (fun i ad=>?_),fun e=>(by cases e),fun e=>(by cases e),fun e=>by rw[ha,cb,if_neg (by decide)];exact aL e,fun _=>by simp[ha,cb]⟩
  ·unfold dg;by_cases a:i=4
   ·subst a;simp
   ·simp[a]
  ·unfold dg;by_cases a:i=4
   ·subst a;simp
   ·simp[a]
theorem lO.KX(h:lO w1 s x mg w0 vs a33 d25 d26 d31 d32 d33 S w):lO w1 s x mg w0 vs a33 d25 d26 d31 d32 true (b5 S 33 (.pointer (some a33))) w:=by
 have q:∀t,t≠33→b5 S 33 (.pointer (some a33)) t=S t:=fun t aK=>by rw[cb,if_neg aK]
 refine⟨fun t aK=>?_,h.mod,?_,fun a b=>?_,fun a b=>?_,fun _=>by simp[cb]⟩
 ·rw[q t (by intro e;subst e;simp at aK)];exact h.ml t aK
 ·obtain⟨v3,v4,h1,U,ai,aL,bn⟩:=h.rows;exact⟨v3,v4,h1,U,ai,fun e=>by rw[q _ (by decide)];exact aL e,fun e=>by rw[q _ (by decide)];exact bn e⟩
 ·obtain⟨mS,h1,U⟩:=h.zr a b;exact⟨mS,by rw[q _ (by decide)];exact h1,U⟩
 ·obtain⟨mS,h1,U⟩:=h.C1 a b;exact⟨mS,by rw[q _ (by decide)];exact h1,U⟩
end
end Go.Proofs.R
end
section
namespace Go.Proofs.R
open Go Go.RowKit bt
def je(b:Nat)(w w':World):Prop := ∀j,j<3→w'.cell? (Addr.add ⟨b,0,none⟩ j)=w.cell? (Addr.add ⟨b,0,none⟩ j)
theorem je.refl{b:Nat}{w:World}:je b w w:=fun _ _=>rfl
theorem je.trans{b:Nat}{w w' bY:World}(h:je b w w')(k:je b w' bY):je b w bY:=fun j aT=>(k j aT).trans (h j aT)
theorem je.of{b:Nat}{w w':World}{bN c1 c2:Value}{l sS:List Value}{t hf:TypeId}{f oD:Nat×Nat}(h:w.heap[b]? = some (.cells (bN :: c1 :: c2 :: l).toArray t f))(bA:w'.heap[b]? = some (.cells (bN :: c1 :: c2 :: sS).toArray hf oD)):je b w w':=fun j aT=>by
 have:j=0∨j=1∨j=2:=by omega
 rcases this with rfl | rfl | rfl
 ·rw[fi h (v:=bN) rfl,fi bA (v:=bN) rfl]
 ·rw[fi h (v:=c1) rfl,fi bA (v:=c1) rfl]
 ·rw[fi h (v:=c2) rfl,fi bA (v:=c2) rfl]
theorem je.ext{b:Nat}{w w':World}(he:Ext w w')(h:b<w.heap.size):je b w w':=fun j _=>by
 rw[add_eq];simp only[World.cell?,he.heap h]
def Ow:eE:=(.take (af 21 4 3) (.take (ae 22 21) (.take (af 23 0 11) (.take (ae 24 23) (.take (af 27 5 3) (.take (ae 28 27) (.take (af 29 1 11) (.take (ae 30 29) (.alt (aC 25 (.cQ T.a 1 1 [(.int .i64 0)] [(0,(ab 24))])) (.alt (aC 26 (.app T.c T.a 1 8 (ab 22) (ab 25))) (.take (af 33 4 3) (.alt (aC 31 (.cQ T.a 1 1 [(.int .i64 0)] [(0,(ab 30))])) (.b0 (aC 32 (.app T.c T.a 1 8 (ab 28) (ab 31))) (.b0 (ys 33 26) (.take (af 34 5 3) (.b0 (ys 34 32) .done .nil)) .nil) .nil) .nil)) (.alt (aC 31 (.cQ T.a 1 1 [(.int .i64 0)] [(0,(ab 30))])) (.alt (aC 26 (.app T.c T.a 1 8 (ab 22) (ab 25))) (.take (af 33 4 3) (.b0 (aC 32 (.app T.c T.a 1 8 (ab 28) (ab 31))) (.b0 (ys 33 26) (.take (af 34 5 3) (.b0 (ys 34 32) .done .nil)) .nil) .nil)) .nil) .nil)) (.alt (aC 31 (.cQ T.a 1 1 [(.int .i64 0)] [(0,(ab 30))])) (.alt (aC 25 (.cQ T.a 1 1 [(.int .i64 0)] [(0,(ab 24))])) (.alt (aC 26 (.app T.c T.a 1 8 (ab 22) (ab 25))) (.take (af 33 4 3) (.b0 (aC 32 (.app T.c T.a 1 8 (ab 28) (ab 31))) (.b0 (ys 33 26) (.take (af 34 5 3) (.b0 (ys 34 32) .done .nil)) .nil) .nil)) .nil) .nil) .nil))))))))))
theorem kv{S:Fr}{n m:Nat}{v u:Value}(h:S m=u)(aN:m≠n):b5 S n v m=u:=by rw[cb,if_neg aN];exact h
theorem VF{w1 w:World}{cy cR bZ:Nat}{s:o.fT}{x:o.di}{S:Fr}{cY:Fr→World→Prop}(dc:cy≠cR)(iW:cy<w1.heap.size∧cR<w1.heap.size)(ay:jf w1 cy cR s w)(ai:S 3 = .pointer (some ⟨cy,0,none⟩))(ES:S 11 = .pointer (some ⟨bZ,0,none⟩))
  (av:w.heap[bZ]? = some (.cells x.enc.toArray T.j))(hm:s.L.length≤100000)(I8:s.H.length≤100000)
  (hk:∀a1 w',jf w1 cy cR ⟨s.V,s.C,s.eA,s.n,s.L++[x.aZ],s.H++[x.ad],s.Z⟩ w'→dV qA w w'→je cy w w'→cY a1 w'):∃C:World→Prop,C w∧dx Tryz.prog C Ow S w cY:=by
 obtain⟨vs,u,g1,g2,g3,g4⟩:=ay.ex;have s4:=g2.not g1 (by decide);have pH:=g2.not av (by decide);refine⟨Mod (fun k=>(cf (vs 3)).ownBlock=some k∨(cf (vs 4)).ownBlock=some k) w,Mod.refl _ _,?_⟩;have rx:∀w',Mod (fun k=>(cf (vs 3)).ownBlock=some k∨(cf (vs 4)).ownBlock=some k) w w'→w'.heap[cy]? = some (.cells #[cf (vs 0),cf (vs 1),cf (vs 2),.int .i64 s.n,cf (vs 3),cf (vs 4)] T.i) :=
  fun w' m=>m.obj (fun h=>h.elim (s4 3 (by decide)) (s4 4 (by decide))) g1
 have hc:∀w',Mod (fun k=>(cf (vs 3)).ownBlock=some k∨(cf (vs 4)).ownBlock=some k) w w'→w'.heap[bZ]? = some (.cells x.enc.toArray T.j) :=
  fun w' m=>m.obj (fun h=>h.elim (pH 3 (by decide)) (pH 4 (by decide))) av
 have c3:w1.heap.size≤w.heap.size:=ay.mod.size;unfold Ow;refine dx.hF ai ?_;refine dx.ld (v:=cf (vs 3)) (by simp[cb];rfl) (fun w' m=>fi (rx w' m) rfl) ?_;refine dx.hF (a:=⟨bZ,0,none⟩) (by simp[cb,ES]) ?_;refine dx.ld (v:=.int .i64 x.aZ) (by simp[cb];rfl) (fun w' m=>fi (hc w' m) rfl) ?_;refine dx.hF (a:=⟨cy,0,none⟩) (by simp[cb,ai]) ?_;refine dx.ld (v:=cf (vs 4)) (by simp[cb];rfl) (fun w' m=>fi (rx w' m) rfl) ?_;refine dx.hF (a:=⟨bZ,0,none⟩) (by simp[cb,ES]) ?_;refine dx.ld (v:=.int .i64 x.ad) (by simp[cb];rfl) (fun w' m=>fi (hc w' m) rfl) ?_;generalize A5:b5 _ 30 _=tJ;have bO:tJ 3 = .pointer (some ⟨cy,0,none⟩):=by subst A5;simp[cb,ai]
 have HJ:tJ 22=cf (vs 3):=by subst A5;simp[cb]
 have ED:tJ 24 = .int .i64 x.aZ:=by subst A5;simp[cb]
 have HK:tJ 28=cf (vs 4):=by subst A5;simp[cb]
 have HL:tJ 30 = .int .i64 x.ad:=by subst A5;simp[cb]
 have fk:∀i,vs i=dg (dg vs 3 (vs 3)) 4 (vs 4) i:=fun i=>by
  unfold dg;by_cases a:i=4
  ·subst a;simp
  ·by_cases b:i=3
   ·subst b;simp
   ·simp[a,b]
 have gp:∀i,s.rows i=dg (dg s.rows 3 (if false=true then s.L++[x.aZ] else s.L)) 4 (if false=true then s.H++[x.ad] else s.H) i:=fun i=>by
  unfold dg;by_cases a:i=4
  ·subst a;simp[o.fT.rows]
  ·by_cases b:i=3
   ·subst b;simp[o.fT.rows]
   ·simp[a,b]
 have t0:lO w1 s x tJ w vs (Addr.add ⟨cy,0,none⟩ 4) false false false false false tJ w :=
  ⟨fun _ _=>rfl,Mod.refl _ _,⟨vs 3,vs 4,g2.congr (fun i ad=>fk i) (fun i ad=>gp i),
   fun _=>rfl,fun _=>rfl,fun e=>(by cases e),fun e=>(by cases e)⟩,fun e=>(by cases e),fun e=>(by cases e),fun e=>(by cases e)⟩
 have ck:∀i k,i<5→(cf (vs i)).ownBlock=some k→k<w.heap.size:=fun i k ad he=>(g2.lt i k ad he).2;have fin:∀S aR,lO w1 s x tJ w vs (Addr.add ⟨cy,0,none⟩ 4) true true true true true S aR→dx Tryz.prog (Mod (fun k=>(cf (vs 3)).ownBlock=some k∨(cf (vs 4)).ownBlock=some k) w) (.b0 (ys 33 26) (.take (af 34 5 3) (.b0 (ys 34 32) .done .nil)) .nil) S aR cY:=by
  intro S aR t;obtain⟨v3,v4,eb,_,_,gr,oY⟩:=t.rows;have aw:=rx aR t.mod;refine dx.vV ?_;show vw (S 33) (S 26) aR _;rw[t.C2 rfl,gr rfl];refine KS fun rN=>K.st1 aw (by simp) rfl fun ba eV bG=>?_;show dx _ _ _ S _ _;refine dx.hF (a:=⟨cy,0,none⟩) (by rw[t.ml 3 (by decide),bO]) ?_;refine dx.vV ?_;show vw (b5 S 34 _ 34) (b5 S 34 _ 32) ba _;rw[show b5 S 34 (.pointer (some (Addr.add ⟨cy,0,none⟩ 5))) 34 = .pointer (some (Addr.add ⟨cy,0,none⟩ 5)) from by simp[cb],kv (oY rfl) (by decide)];refine KS fun rN=>K.st1 bG (by simp) rfl fun bo ed bJ=>?_;have hw:=eV.trans ed;have ks:=eb.not aw (by decide);obtain⟨us,aik⟩:∃us,us=cf u:=⟨_,rfl⟩;refine hk _ _ ⟨?_,dg (dg vs 3 v3) 4 v4,u,?_,(eb.mod (hw.mod (A:=fun k=>k=cy) rfl) fun i k ad hk e=>ks i ad (by rw[←e];exact hk)).congr (fun _ _=>rfl) (fun i ad=>?_),?_,?_⟩ ?_ ?_
  ·refine(ay.mod.comp t.mod (B:=fun k=>k=cy∨k=cR) (fun _ _ a=>a) fun i ad a=>?_).trans (hw.mod (A:=fun k=>k=cy∨k=cR) (.inl rfl));rcases a with a | a
   ·have:=(g2.lt 3 i (by decide) a).1;omega
   ·have:=(g2.lt 4 i (by decide) a).1;omega
  ·exact bJ
  ·have:i=0∨i=1∨i=2∨i=3∨i=4:=by omega
   rcases this with rfl | rfl | rfl | rfl | rfl<;>simp[dg,o.fT.rows]
  ·exact hw.obj (t.mod.obj (fun h=>h.elim (g2.not g3 (by decide) 3 (by decide)) (g2.not g3 (by decide) 4 (by decide))) g3) (Ne.symm dc)
  ·refine(g4.mod t.mod fun k hk h=>?_).mod (hw.mod (A:=fun k=>k=cy) rfl) fun k hk e=>?_
   ·obtain⟨cur,gl⟩:=g4.aV k hk;exact h.elim (g2.not gl (by decide) 3 (by decide)) (g2.not gl (by decide) 4 (by decide))
   ·obtain⟨cur,gl⟩:=g4.aV k hk;subst e;rw[g1] at gl;injection gl with gl;injection gl with _ e;exact absurd e (by decide)
  ·refine(dV.mod t.mod fun k c hf av a=>?_).trans (dV.wr hw aw (by decide));rcases a with a | a
   ·obtain⟨cur,gl⟩:=(g2.own 3 (by decide)).aV k a;rw[av] at gl;injection gl with gl;injection gl with _ e;rw[e];decide
   ·obtain⟨cur,gl⟩:=(g2.own 4 (by decide)).aV k a;rw[av] at gl;injection gl with gl;injection gl with _ e;rw[e];decide
  ·exact je.of g1 bJ
 clear hk;refine⟨ke.e (t0.SR ED fun v2 aR t2=>⟨t2.mod,?_,?_,trivial⟩),ke.e (t0.J5 HL fun v2 aR t2=>⟨t2.mod,?_⟩),trivial⟩
 ·refine ke.e (t2.G8 HJ ck c3 hm fun v3 ba t3=>⟨t3.mod,?_⟩);refine dx.hF (a:=⟨cy,0,none⟩) (by rw[t3.ml 3 (by decide),bO]) ?_;refine dx.xR (ke.e (t3.KX.J5 HL fun v4 bo t4=>⟨t4.mod,?_⟩));exact dx.vV (mW.e (t4.G9 HK c3 I8 fun v5 bR t5=>fin _ _ t5))
 ·refine ke.e (t2.J5 HL fun v3 ba t3=>⟨t3.mod,?_⟩);refine dx.xR (ke.e (t3.G8 HJ ck c3 hm fun v4 bo t4=>⟨t4.mod,?_⟩));refine dx.hF (a:=⟨cy,0,none⟩) (by rw[t4.ml 3 (by decide),bO]) ?_;exact dx.vV (mW.e (t4.KX.G9 HK c3 I8 fun v5 bR t5=>fin _ _ t5))
 ·refine dx.xR (ke.e (t2.SR ED fun v3 ba t3=>⟨t3.mod,?_⟩));refine dx.xR (ke.e (t3.G8 HJ ck c3 hm fun v4 bo t4=>⟨t4.mod,?_⟩));refine dx.hF (a:=⟨cy,0,none⟩) (by rw[t4.ml 3 (by decide),bO]) ?_;exact dx.vV (mW.e (t4.KX.G9 HK c3 I8 fun v5 bR t5=>fin _ _ t5))
end Go.Proofs.R
end
section
namespace Go.Proofs.R
open Go Go.RowKit bt
section
variable{w1:World}{cy cR:Nat}{s:o.fT}{W ct:World}
theorem afv{vs:Nat→fU}{u:fU}{p1 kB pc:World}{y:o.Cell}{b3:Value}(dc:cy≠cR)(hm:Mod (fun k=>k=cy∨k=cR) w1 W)(g1:W.heap[cy]? = some (.cells #[cf (vs 0),cf (vs 1),cf (vs 2),.int .i64 s.n,cf (vs 3),cf (vs 4)] T.i))(g2:hl dk T.a 1 w1.heap.size W 5 vs s.rows)
  (g3:W.heap[cR]? = some (.cells #[cf u] T.ac))(g4:bp o.Cell.slot T.s 4 w1.heap.size W (cf u) s.Z)(he:Ext W p1)(a6:p1.grownBy kB (cf u).ownBlock)(a8:bp o.Cell.slot T.s 4 w1.heap.size kB b3 (s.Z++[y]))
  (hw:dH cR kB pc)(av:pc.heap[cR]? = some (.cells #[b3] T.ac)):jf w1 cy cR ⟨s.V,s.C,s.eA,s.n,s.L,s.H,s.Z++[y]⟩ pc∧dV qA W pc∧je cy W pc:=by
 obtain⟨bh,cap,rfl,_⟩:=a8.form;have uY:Mod (fun k=>(cf u).ownBlock=some k) p1 kB:=Mod.grown a6 fun k hk=>hk;have iG:∀{k:Nat} {c:Array Value} {t:TypeId},W.heap[k]? = some (.cells c t)→t≠T.s→¬(cf u).ownBlock=some k:=fun {k c t} hk aK e=>by
  obtain⟨cur,h⟩:=g4.aV k e;rw[hk] at h;injection h with h;injection h with _ h;exact aK h
 have m6:∀{k:Nat} {c:Array Value} {t:TypeId},W.heap[k]? = some (.cells c t)→t≠T.s→kB.heap[k]? = some (.cells c t):=fun hk aK=>uY.obj (iG hk aK) (he.obj hk);have qD:Mod (fun k=>k=cR) kB pc:=hw.mod rfl;refine⟨⟨?_,vs,(bh,_,cap),qD.obj dc (m6 g1 (by decide)),?_,av,a8.mod qD fun k hk e=>?_⟩,?_,je.of g1 (qD.obj dc (m6 g1 (by decide)))⟩
 ·have h1:Mod (fun k=>k=cy∨k=cR) w1 p1:=hm.comp (A':=fun _=>False) he.mod (fun _ _ a=>a) fun _ _ a=>a.elim;have U:Mod (fun k=>k=cy∨k=cR) w1 kB:=h1.comp uY (fun _ _ a=>a) fun i ad a=>by have:=(g4.lt i a).1;omega
  exact U.trans (hw.mod (.inr rfl))
 ·refine((g2.ext he).mod uY fun i k ad hk e=>?_).mod qD fun i k ad hk e=>?_
  ·obtain⟨cur,h⟩:=(g2.own i ad).aV k hk;exact iG h (by decide) e
  ·subst e;obtain⟨cur,h⟩:=(g2.own i ad).aV k hk;rw[g3] at h;injection h with h;injection h with _ h;exact absurd h (by decide)
 ·subst e;obtain⟨cur,h⟩:=a8.aV k hk;rw[m6 g3 (by decide)] at h;injection h with h;injection h with _ h;exact absurd h (by decide)
 ·refine((dV.ext he).trans (dV.mod uY fun k c t av a=>?_)).trans (dV.wr hw (m6 g3 (by decide)) (by decide));obtain⟨cur,h⟩:=(g4.ext he).aV k a;rw[av] at h;injection h with h;injection h with _ h;rw[h];decide
theorem Xj{vs:Nat→fU}{u:fU}{n:Int}(dc:cy≠cR)(hm:Mod (fun k=>k=cy∨k=cR) w1 W)(g1:W.heap[cy]? = some (.cells #[cf (vs 0),cf (vs 1),cf (vs 2),.int .i64 s.n,cf (vs 3),cf (vs 4)] T.i))(g2:hl dk T.a 1 w1.heap.size W 5 vs s.rows)
  (g3:W.heap[cR]? = some (.cells #[cf u] T.ac))(g4:bp o.Cell.slot T.s 4 w1.heap.size W (cf u) s.Z)(hw:dH cy W ct)(aN:n=((s.n+1:Nat):Int))
  (av:ct.heap[cy]? = some (.cells #[cf (vs 0),cf (vs 1),cf (vs 2),.int .i64 n,cf (vs 3),cf (vs 4)] T.i)):jf w1 cy cR ⟨s.V,s.C,s.eA,s.n+1,s.L,s.H,s.Z⟩ ct∧dV qA W ct∧je cy W ct:=by
 subst aN;have qD:Mod (fun k=>k=cy) W ct:=hw.mod rfl;refine⟨⟨hm.trans (hw.mod (.inl rfl)),vs,u,av,g2.mod qD fun i k ad hk e=>?_,qD.obj (Ne.symm dc) g3,g4.mod qD fun k hk e=>?_⟩,dV.wr hw g1 (by decide),je.of g1 av⟩
 ·subst e;exact g2.not g1 (by decide) i ad hk
 ·subst e;obtain⟨cur,h⟩:=g4.aV k hk;rw[g1] at h;injection h with h;injection h with _ h;exact absurd h (by decide)
end
theorem ab9(so hi:Int)(v:Value)(l:List o.di)(ns nn nq:List Int)(cs:List o.Cell)(base:Nat)(w1:World)(cy cR:Nat)(w:World)(dc:cy≠cR)(iW:cy<w1.heap.size∧cR<w1.heap.size)(ay:jf w1 cy cR (o.fT.of ns nn nq cs) w)(aU:bp o.di.enc T.j 3 base w v l)
  (hm:cs.length+l.length≤100000) :
  bq Tryz.prog F.ox #[.int .i64 so,.int .i64 hi,v,.pointer (some ⟨cy,0,none⟩),.pointer (some ⟨cR,0,none⟩)] w fun v w'=>v = .int .i64 cs.length∧jf w1 cy cR (o.fT.of ns nn nq (cs++o.eR so hi l 0)) w'∧dV qA w w'∧je cy w w':=by
 obtain⟨bh,cap,rfl,_⟩:=aU.form;obtain⟨agp,K8,g1,g2,g3,g4⟩:=ay.ex;refine bI E.ox ?_;refine bF ?_;refine aa ?_;refine K.da 16 l.length [0,1,2,3,4,9,14,15] (fun _:Unit=>[]) () (fun k _ w'=>jf w1 cy cR (o.fT.of ns nn nq (cs++o.eR so hi (l.take k) 0)) w'∧dV qA w w'∧je cy w w') bw bw ⟨by simpa[o.eR] using ay,dV.refl,je.refl⟩ ?_;clear g1 g2 g3 g4 ay;rintro k _ S aR hk ⟨ay,l1,jT⟩;have lk:bB 3 (Flat o.di.enc) aR (.slice bh l.length cap) l:=bp.lz (enc:=o.di.enc) (fun _=>rfl) (aU.gZ l1 (by decide));refine aa ?_;apply K.cond<;>intro g1
 ·have bb:k<l.length:=by omega
  obtain⟨a,rfl⟩:=lk.addr (by omega);have Io:(o.eR so hi (l.take k) 0).length=k:=by rw[o.rA,List.length_take];omega
  have sG:=o.tQ l[k];refine ei ?_;simp -dsimp only[cu];refine ei ?_;simp -dsimp only[cu];refine ei ?_;intro wn bZ fG hJ gy;refine ei ?_;intro ba eV bG;have au:=eV.ext hJ fG;have gY:=ay.ext au;clear eV hJ gy;refine ei ?_;refine K.hE [0,1,2,3,4,9,10,11,14,15,16] (fun _:Unit=>[]) (fun _ w'=>jf w1 cy cR ⟨ns,nn,nq,(cs++o.eR so hi (l.take k) 0).length,(cs++o.eR so hi (l.take k) 0).map (·.aZ)++[l[k].aZ],(cs++o.eR so hi (l.take k) 0).map (·.ad)++[l[k].ad],cs++o.eR so hi (l.take k) 0⟩ w'∧dV qA ba w'∧je cy ba w') ?_ ?_
  ·refine aa ?_;intro bo aP;refine K.wide (VF dc iW (gY.ext aP) (by simp[cb]) (by simp[cb]) (aP.obj bG) (by simp[o.fT.of,Io];omega) (by simp[o.fT.of,Io];omega) fun a1 w' h k bs=>?_);refine aa ?_;exact⟨(),trivial,h,(dV.ext aP).trans k,(je.ext aP (by have:=gY.mod.size;omega)).trans bs⟩
  have ZQ:je cy aR ba:=je.ext au (by have:=ay.mod.size;omega);clear gY;rintro _ S bo ⟨lZ,Sf,II⟩;obtain⟨vs,⟨K8,UE,zJ⟩,g1,g2,g3,g4⟩:=lZ.ex;have bJ:=Sf.aV _ _ _ bG (by decide);refine aa ?_;intro bR dz lV bf cx;replace cx:bR.heap[dz]? = some (.cells (o.Cell.slot ⟨so,hi,k,l[k].aZ,l[k].ad,l[k].kind⟩).toArray T.s):=cx;have ek:=g4.ext bf;have fy:=lZ.mod.size;have z2:=bf.size;have aQ:(cs++o.eR so hi (l.take k) 0).length=cs.length+k:=by rw[List.length_append,Io]
  refine K.mi (y:=⟨so,hi,k,l[k].aZ,l[k].ad,l[k].kind⟩) ek cx rfl (fun _=>rfl) o.afw (by simp only[aQ];omega) (by unfold maxLen;simp only[aQ];omega) (by omega) fun bh n c bW dn iU=>?_;have gG:=ek.box iU (bf.obj g3) (by decide);refine aa ?_;intro cj eo c5;obtain⟨iD,rz,ZR⟩:=afv dc lZ.mod g1 g2 g3 g4 bf iU dn eo c5;dsimp only at iD;obtain⟨qN,iJ,eb,dY,eg,gr⟩:=iD.ex;clear g1 g2 g3 g4 lZ ek dn iU gG c5 cx;have ad2:=eb;dsimp only[cf] at eb;refine aa ?_;intro dC kp eL;obtain⟨BL,ab0,ZS⟩:=Xj dc iD.mod ad2 dY eg gr kp (by dsimp only;omega) eL;refine aa ?_;refine⟨bb,bu,(),trivial,?_,((((l1.trans (dV.ext au)).trans Sf).trans rz).trans ab0),((((jT.trans ZQ).trans II).trans ZR).trans ZS)⟩;rw[o.aca bb,←List.append_assoc];have e:o.fT.of ns nn nq ((cs++o.eR so hi (l.take k) 0)++[⟨so,hi,k,l[k].aZ,l[k].ad,l[k].kind⟩])=⟨ns,nn,nq,(cs++o.eR so hi (l.take k) 0).length+1,(cs++o.eR so hi (l.take k) 0).map (·.aZ)++[l[k].aZ],(cs++o.eR so hi (l.take k) 0).map (·.ad)++[l[k].ad],cs++o.eR so hi (l.take k) 0++[⟨so,hi,k,l[k].aZ,l[k].ad,l[k].kind⟩]⟩:=by
   simp[o.fT.of,List.map_append,Nat.add_assoc]
  rw[e];exact BL
 ·refine aa ?_;rw[List.take_of_length_le (by omega)] at ay;exact⟨bu,ay,l1,jT⟩
end Go.Proofs.R
end
section
namespace bt
open Go Go.RowKit
section
variable{P:Program}{C:World→Prop}{S:Fr}{w:World}{K:Fr→World→Prop}
theorem dx.oS{d m:Nat}{r:eE}{v:Value}(aw:S m=v)(h:dx P C r (b5 S d v) w K):dx P C (.take ⟨some d,none,.p (.oS (.tmp m))⟩ r) S w K:=by subst aw;exact h
theorem ke.c{i:oe}{d:Nat}{k:Fr→World→Prop}(h:pT P i S w fun v w'=>C w'∧k (put S (some d) v) w'):ke P C ⟨some d,none,.c i⟩ S w k:=h
end
end bt
namespace o
def fT.add(s:fT)(off:Nat)(y:Int):fT:=if off=0 then { s with V:=s.V++[y] } else if off=1 then { s with C:=s.C++[y] } else { s with eA:=s.eA++[y] }
end o
namespace Go.Proofs.R
open Go Go.RowKit bt
def OR(n x y off:Nat)(so:Int):eE :=
 (.take (af n off 4) (.take (ae (n+1) n) (.take (I (n+2) 6) (.take (I (n+3) x) (.take (I (n+4) y)
 (.alt (db (n+5) (.val (ab (n+2)) [(ah so),(ab (n+3)),(ab (n+4))]))
 (.alt (aC (n+6) (.cQ T.a 1 1 [(.int .i64 0)] [(0,(ab (n+5)))]))
 (.b0 (aC (n+7) (.app T.c T.a 1 8 (ab (n+1)) (ab (n+6))))
 (.take (af (n+8) off 4) (.b0 (ys (n+8) (n+7)) .done .nil)) .nil) .nil) .nil))))))
theorem Hp{w1 w:World}{cy cR n x y off base:Nat}{so hi:Int}{kX:Value}{l:List o.di}{ns nn nq:List Int}{cs:List o.Cell}{S:Fr}{cY:Fr→World→Prop}(Jg:off<3)(aN:20≤n)(aw:x<20)(cB:y<20)
  (dc:cy≠cR)(iW:cy<w1.heap.size∧cR<w1.heap.size)(aL:S 4 = .pointer (some ⟨cy,0,none⟩))(bL:S 6 = .func (.func F.ox) #[] #[.pointer (some ⟨cy,0,none⟩),.pointer (some ⟨cR,0,none⟩)])(ru:S x = .int .i64 hi)(abq:S y=kX)
  (ay:jf w1 cy cR (o.fT.of ns nn nq cs) w)(aU:bp o.di.enc T.j 3 base w kX l)(hm:cs.length+l.length≤100000)(bk:ns.length≤100000∧nn.length≤100000∧nq.length≤100000)
  (hk:∀a1 w',(∀t,t<n∨n+8<t→a1 t=S t)→jf w1 cy cR ((o.fT.of ns nn nq (cs++o.eR so hi l 0)).add off cs.length) w'→dV qA w w'→cY a1 w'):∃C:World→Prop,C w∧dx Tryz.prog C (OR n x y off so) S w cY:=by
 obtain⟨vs,u,g1,g2,g3,g4⟩:=ay.ex;have bN:w.cell? (Addr.add ⟨cy,0,none⟩ off)=some (cf (vs off)):=by
  have:off=0∨off=1∨off=2:=by omega
  rcases this with rfl | rfl | rfl<;>exact fi g1 rfl
 refine⟨fun w'=>w'.cell? (Addr.add ⟨cy,0,none⟩ off)=some (cf (vs off)),bN,?_⟩;unfold OR;refine dx.hF aL ?_;refine dx.ld (v:=cf (vs off)) (by simp[cb]) (fun w' m=>m) ?_;refine dx.oS (kv (kv bL (by omega)) (by omega)) ?_;refine dx.oS (kv (kv (kv ru (by omega)) (by omega)) (by omega)) ?_;refine dx.oS (kv (kv (kv (kv abq (by omega)) (by omega)) (by omega)) (by omega)) ?_;generalize yr:b5 _ (n+4) _=pb;have Yn:∀t,t<n∨n+8<t→pb t=S t:=by
  subst yr;intro t aK;simp only[cb];rw[if_neg (by omega),if_neg (by omega),if_neg (by omega),if_neg (by omega),if_neg (by omega)]
 have b8:pb 4 = .pointer (some ⟨cy,0,none⟩):=by subst yr;exact kv (kv (kv (kv (kv aL (by omega)) (by omega)) (by omega)) (by omega)) (by omega)
 have f1:pb (n+1)=cf (vs off):=by subst yr;simp[cb]
 have f2:pb (n+2) = .func (.func F.ox) #[] #[.pointer (some ⟨cy,0,none⟩),.pointer (some ⟨cR,0,none⟩)]:=by subst yr;simp[cb]
 have f3:pb (n+3) = .int .i64 hi:=by subst yr;simp[cb]
 have f4:pb (n+4)=kX:=by subst yr;simp[cb]
 refine dx.xR (ke.c ?_);show xx _ (pb (n+2)) [.int .i64 so,pb (n+3),pb (n+4)] w _;rw[f2,f3,f4];refine Ho (first:=[]) (cap:=[.pointer (some ⟨cy,0,none⟩),.pointer (some ⟨cR,0,none⟩)]) (by kernel_rfl) (ab9 so hi kX l ns nn nq cs base w1 cy cR w dc iW ay aU hm) ?_;rintro _ aR ⟨rfl,dS,l1,jT⟩;refine⟨(jT off Jg).trans bN,?_⟩;refine dx.xR (ke.e ?_);have he:Ext aR (aR.alloc (.cells #[.int .i64 cs.length] T.a)):=(Ext.refl aR).alloc _;rw[XJ];refine Aw (cs:=[.int .i64 cs.length]) (HY (by simp[ha,cb])) ?_;refine⟨he.cell ((jT off Jg).trans bN),?_⟩;have bG:=heap_alloc_new aR (.cells #[.int .i64 cs.length] T.a);have bK:=he.cell ((jT off Jg).trans bN);have gY:=dS.ext he;have Se:dV qA w (aR.alloc (.cells #[.int .i64 cs.length] T.a)):=l1.trans (dV.ext he);show dx _ _ _ _ (aR.alloc (.cells #[.int .i64 cs.length] T.a)) _;generalize aR.alloc (.cells #[.int .i64 cs.length] T.a)=ba at bG bK gY Se;clear he g1 g2 g3 g4;obtain⟨qN,iJ,g1,g2,g3,g4⟩:=gY.ex;have XY:cf (vs off)=cf (qN off):=by
  have:off=0∨off=1∨off=2:=by omega
  rcases this with rfl | rfl | rfl
  ·rw[fi g1 (v:=cf (qN 0)) rfl] at bK;exact(Option.some.inj bK).symm
  ·rw[fi g1 (v:=cf (qN 1)) rfl] at bK;exact(Option.some.inj bK).symm
  ·rw[fi g1 (v:=cf (qN 2)) rfl] at bK;exact(Option.some.inj bK).symm
 refine dx.vV (mW.e ?_);rw[XI];unfold ab;rw[fr,fr];rw[show ∀a b,put (put pb (some (n+5)) a) (some (n+6)) b (n+1)=cf (qN off) from fun a b=>by rw[ha,ha,←XY];exact kv (kv f1 (by omega)) (by omega),
  show ∀a b,put (put pb (some (n+5)) a) (some (n+6)) b (n+6)=b from fun a b=>by rw[ha,ha,cb,if_pos rfl]]
 have fy:=gY.mod.size;have hlen:((o.fT.of ns nn nq (cs++o.eR so hi l 0)).rows off).length≤100000:=by
  have:off=0∨off=1∨off=2:=by omega
  rcases this with rfl | rfl | rfl
  ·exact bk.1
  ·exact bk.2.1
  ·exact bk.2.2
 refine hl.app (y:=(cs.length:Int)) off (by omega) g2 (fun _=>rfl) (fZ bG) kG (by omega) (by unfold maxLen;omega) (by omega) fun b3 bo ev mw _=>?_;have m4:Mod (fun k=>(cf (qN off)).ownBlock=some k) ba bo:=Mod.grown mw fun k hk=>hk;have iG:∀{k:Nat} {c:Array Value} {t:TypeId},ba.heap[k]? = some (.cells c t)→t≠T.a→bo.heap[k]? = some (.cells c t):=fun hk aK=>m4.obj (g2.not hk aK off (by omega)) hk;refine dx.hF (a:=⟨cy,0,none⟩) (by rw[ha,ha,ha];exact kv (kv (kv b8 (by omega)) (by omega)) (by omega)) ?_;refine dx.vV ?_;show vw (b5 _ (n+8) _ (n+8)) (b5 (put _ (some (n+7)) _) (n+8) _ (n+7)) bo _;rw[show ∀(S:Fr) v,b5 S (n+8) v (n+8)=v from fun S v=>by rw[cb,if_pos rfl],show ∀(S:Fr) a b,b5 (put S (some (n+7)) a) (n+8) b (n+7)=a from fun S a b=>by rw[ha,cb,if_neg (by omega),cb,if_pos rfl]];have cE:=iG g1 (by decide);refine KS fun rN=>K.st1 cE (by simp;omega) rfl fun bR ft cx=>?_;have qD:Mod (fun k=>k=cy) bo bR:=ft.mod rfl;refine hk _ _ (fun t aK=>?_) ⟨?_,dg qN off b3,iJ,?_,(ev.mod qD fun i k ad aF e=>?_).congr (fun _ _=>rfl) (fun i ad=>?_),?_,?_⟩ ?_
 ·simp only[ha,Ti,cb];rw[if_neg (by omega),if_neg (by omega),if_neg (by omega),if_neg (by omega)];exact Yn t aK
 ·refine(gY.mod.comp m4 (B:=fun k=>k=cy∨k=cR) (fun _ _ a=>a) fun i ad a=>?_).trans (ft.mod (A:=fun k=>k=cy∨k=cR) (.inl rfl))
  have:=(g2.lt off i (by omega) a).1;omega
 ·rw[cx]
  have:off=0∨off=1∨off=2:=by omega
  rcases this with rfl | rfl | rfl<;>rfl
 ·subst e;exact ev.not cE (by decide) i ad aF
 ·have a:off=0∨off=1∨off=2:=by omega
  have b:i=0∨i=1∨i=2∨i=3∨i=4:=by omega
  rcases a with rfl | rfl | rfl<;>rcases b with rfl | rfl | rfl | rfl | rfl<;>rfl
 ·exact ft.obj (iG g3 (by decide)) (Ne.symm dc)
 ·have EM:((o.fT.of ns nn nq (cs++o.eR so hi l 0)).add off cs.length).Z=(o.fT.of ns nn nq (cs++o.eR so hi l 0)).Z:=by unfold o.fT.add; (repeat' split)<;>rfl
  rw[EM];refine(g4.mod m4 fun k hk h=>?_).mod qD fun k hk e=>?_
  ·obtain⟨cur,gl⟩:=g4.aV k hk;exact g2.not gl (by decide) off (by omega) h
  ·obtain⟨cur,gl⟩:=g4.aV k hk;subst e;rw[g1] at gl;injection gl with gl;injection gl with _ e;exact absurd e (by decide)
 ·refine(Se.trans (dV.mod m4 fun k c hf av a=>?_)).trans (dV.wr ft cE (by decide));obtain⟨cur,gl⟩:=(g2.own off (by omega)).aV k a;rw[av] at gl;injection gl with gl;injection gl with _ e;rw[e];decide
end Go.Proofs.R
end
section
namespace bt
open Go Go.RowKit
theorem bp.Ej{α:Type}{enc:α→List Value}{e:TypeId}{sz base b n:Nat}{w:World}{cs:List Value}(xs:List α)(h:w.heap[b]? = some (.cells cs.toArray e))(aD:base≤b)(fR:cs=xs.flatMap enc)(c3:∀x,(enc x).length=sz)(aN:n=xs.length)(hm:xs.length≤maxLen):bp enc e sz base w (.slice (some ⟨b,0,none⟩) n n) xs:=by
 subst aN;have aQ:cs.length=xs.length*sz:=by rw[fR,vU c3]
 exact⟨by rw[vU c3],.inr ⟨b,xs.length,cs.toArray,rfl,aD,h,Nat.le_refl _,hm,by simpa using aQ,by simp only;rw[←aQ,List.take_length,fR]⟩⟩
theorem K.VN{P:Program}{cY:Value→World→Prop}{α:Type}{enc:α→List Value}{e:TypeId}{sz base:Nat}{w:World}{v:Value}{xs:List α}{ty:TypeId}{fN b:Nat}{y:α}{cs:List Value}{t}(ay:bp enc e sz base w v xs)(av:w.heap[b]? = some (.cells cs.toArray e))(fR:cs=enc y)(c3:∀x,(enc x).length=sz)(h1:∀y,∀u∈enc y,u.oneCell'=true)
  (aD:(xs.length+1)*fN≤140737488355328)(jo:xs.length+1≤maxLen)(iB:base≤w.heap.size)
  (hk:∀bh n c w',bp enc e sz base w' (.slice bh n c) (xs++[y])→w.grownBy w' v.ownBlock→((Value.slice bh n c).ownBlock=v.ownBlock∨(Value.slice bh n c).ownBlock=some w.heap.size)→cY (.slice bh n c) w'):j5 P ty e sz fN v (.slice (some ⟨b,0,none⟩) 1 1) w cY t:=by
 refine K.tM (ys:=[y]) ay c3 (by subst fR;simpa using fZ av) rfl h1 aD jo iB fun b3 w' a8 a6 jq=>?_;obtain⟨bh,cap,rfl,_⟩:=a8.form;exact hk _ _ _ _ a8 a6 jq
end bt
namespace o
open Go Go.RowKit bt
structure jg(w:World)(cs:List Value)(x:tA):Prop where
 ex:∃v0 v1 v2 v3 v4,cs=[v0,v1,v2,.int .i64 x.cells,v3,v4]∧bB 1 (Flat dk) w v0 x.vars∧bB 1 (Flat dk) w v1 x.aH∧bB 1 (Flat dk) w v2 x.insts∧bB 1 (Flat dk) w v3 x.aZ∧bB 1 (Flat dk) w v4 x.ad
theorem jg.ext{w w':World}{cs:List Value}{x:tA}(he:Ext w w')(h:jg w cs x):jg w' cs x :=
 let ⟨v0,v1,v2,v3,v4,e,aj,h1,U,ai,aL⟩:=h.ex
 ⟨v0,v1,v2,v3,v4,e,aj.ext Flat.ext he,h1.ext Flat.ext he,U.ext Flat.ext he,ai.ext Flat.ext he,aL.ext Flat.ext he⟩
theorem jg.form{w:World}{cs:List Value}{x:tA}(h:jg w cs x):∃cv bN b9 c1 cq c2 cm bK cw bQ,cs=[.slice cv x.vars.length bN,.slice b9 x.aH.length c1,.slice cq x.insts.length c2,.int .i64 x.cells,.slice cm x.aZ.length bK,.slice cw x.ad.length bQ] ∧
  bB 1 (Flat dk) w (.slice cv x.vars.length bN) x.vars∧bB 1 (Flat dk) w (.slice b9 x.aH.length c1) x.aH∧bB 1 (Flat dk) w (.slice cq x.insts.length c2) x.insts∧bB 1 (Flat dk) w (.slice cm x.aZ.length bK) x.aZ∧bB 1 (Flat dk) w (.slice cw x.ad.length bQ) x.ad:=by
 obtain⟨v0,v1,v2,v3,v4,rfl,aj,h1,U,ai,aL⟩:=h.ex;obtain⟨cv,bN,rfl,_⟩:=aj.form;obtain⟨b9,c1,rfl,_⟩:=h1.form;obtain⟨cq,c2,rfl,_⟩:=U.form;obtain⟨cm,bK,rfl,_⟩:=ai.form;obtain⟨cw,bQ,rfl,_⟩:=aL.form;exact⟨cv,bN,b9,c1,cq,c2,cm,bK,cw,bQ,rfl,aj,h1,U,ai,aL⟩
theorem Gu{v:Var}{s:List Scalar}(h:Al v s)(ay:s.length≤2):0≤v.scalar∧v.scalar≤2:=by
 rcases h.ja with e | e
 ·omega
 ·unfold size at e;split at e
  ·rename_i x aw
   have:=(List.getElem?_eq_some_iff.1 aw).1
   split at e<;>omega
  ·exact absurd rfl e
theorem Hu{v:c4}{s:List Scalar}(h:zT v s)(ay:s.length≤2):0≤v.scalar∧v.scalar≤2:=by
 rcases h.ja with e | e
 ·omega
 ·unfold size at e;split at e
  ·rename_i x aw
   have:=(List.getElem?_eq_some_iff.1 aw).1
   split at e<;>omega
  ·exact absurd rfl e
theorem Gn(m:Model)(h:eI m)(k:Nat):total ((cF m).take k)≤64:=by
 have h1:=FM h;have U:=h.cells;have ai:=BZ m;have e:total (cF m)=total ((cF m).take k)+total ((cF m).drop k):=by rw[←Dn,List.take_append_drop]
 omega
theorem K6(m:Model)(h:eI m)(k:Nat):total (cF m)+total ((c7 m).take k)≤64:=by
 have h1:=FM h;have U:=h.cells;have ai:=BZ m;have e:total (c7 m)=total ((c7 m).take k)+total ((c7 m).drop k):=by rw[←Dn,List.take_append_drop]
 omega
theorem Uy(m:Model)(h:eI m)(k:Nat):total (cF m)+total (c7 m)+total ((eN m).take k)≤64:=by
 have h1:=FM h;have U:=h.cells;have ai:=BZ m;have e:total (eN m)=total ((eN m).take k)+total ((eN m).drop k):=by rw[←Dn,List.take_append_drop]
 omega
end o
namespace Go.Proofs.R
open Go Go.RowKit bt
theorem acj(cs:List Value)(m:o.Model)(w:World)(h:o.ew w cs m)(a6:m.cT)(bd:o.eI m) :
  bq Tryz.prog F.AD #[.agg cs.toArray] w fun v w'=>(∃xs u,v = .tuple #[.agg xs.toArray,u]∧dW w (fun w=>o.jg w xs (o.layout m)) w'∧dW w (fun w=>bB 4 (Flat o.Cell.slot) w u (o.b1 m)) w')∧Ext w w':=by
 obtain⟨cv,bN,b9,c1,cq,c2,cm,bK,cw,bQ,rfl,aj,h1,U,ai,aL,eG,dt,dB,dT,er⟩:=h.form;have gT:=bd.gT;refine bI E.AD ?_;refine bF ?_;refine aa ?_;intro Gy bz cK oI al;have eb:=cL al;refine aa ?_;intro Gz b4 dw nK aI;have dY:=cL aI;replace al:=nK.obj al;refine aa ?_;intro vc cy rf lh kK;have ajj:=cL kK;replace al:=lh.obj al;replace aI:=lh.obj aI;refine aa ?_;intro w1 cR ahz nL fR;have aji:=cL fR;replace al:=nL.obj al;replace aI:=nL.obj aI;replace kK:=nL.obj kK;have nm:=oI.size;have mG:=nK.size;have zO:=lh.size;have xt:=nL.size;have bT:=((oI.trans nK).trans lh).trans nL;clear oI nK lh nL;have dc:cy≠cR:=by omega
 have iW:cy<w1.heap.size∧cR<w1.heap.size:=⟨by omega,by omega⟩;have iu:jf w1 cy cR (o.fT.of [] [] [] []) w1:=⟨Mod.refl _ _,fun _=>(none,0,0),(none,0,0),kK,⟨fun i ad=>by
   have e:(o.fT.of [] [] [] []).rows i=[]:=by unfold o.fT.rows; (repeat' split)<;>rfl
   rw[e];exact bp.nil _ _ _ _ _,fun i j k _ _ _ e=>by cases e⟩,fR,bp.nil _ _ _ _ _⟩
 have pA:∀{s W},jf w1 cy cR s W→W.heap[bz]? = w1.heap[bz]? := fun h=>h.mod.block _ (by omega) (by omega);have hK:∀{s W},jf w1 cy cR s W→W.heap[b4]? = w1.heap[b4]? := fun h=>h.mod.block _ (by omega) (by omega);have e0:∀{s W},jf w1 cy cR s W→Ext w W:=fun h=>h.mod.ext bT fun i ad e=>by omega
 rw[al] at pA;rw[aI] at hK;refine aa ?_;refine K.da 24 m.vars.length [1,2,4,5,6,22,23] (fun _:Unit=>[]) () (fun k _ W=>jf w1 cy cR (o.fT.of (o.gD 0 ((o.cF m).take k)) [] [] (o.cellsOf 1 ((o.cF m).take k) 0)) W) bw bw (by simpa[o.gD,o.cellsOf] using iu) ?_;clear iu kK fR al aI;rintro k _ S aR hk ay;have al:=pA ay;have cP:=e0 ay;refine aa ?_;apply K.cond<;>intro g1
 ·have bb:k<m.vars.length:=by omega
  obtain⟨a,rfl⟩:=h1.addr (by omega);have eu:=((h1.at k bb).cells).ext cP;have dd:=bd.var _ (List.getElem_mem bb);have jU:=o.Gu dd gT.1;refine aa ?_;intro wn mj Bc hJ gy;refine aa ?_;intro ba eV bG;have au:Ext aR ba:=eV.ext hJ Bc;replace bG:ba.heap[mj]? = some (.cells m.vars[k].enc.toArray T.f):=bG;replace al:=au.obj al;clear eV hJ gy eu;have fz:=cP.trans au;refine aa ?_;refine K.call (Eo m.vars[k] _ m.scalars ba (aj.ext fz)) ?_;rintro _ bo ⟨rfl,aP⟩;have eU:=o.r6 m.vars[k] m.scalars;have dN:=fz.trans aP;have oF:=aP.obj al;have Zv:=aP.obj bG;refine aa ?_;refine K.da 33 (o.cells m.vars[k] m.scalars).toNat [1,2,4,5,6,7,8,22,23,24,32] (fun v:fU=>[(9,.slice v.1 v.2.1 v.2.2)]) (none,0,0) (fun j v W=>Ext bo W∧bp o.di.enc T.j 3 bo.heap.size W (.slice v.1 v.2.1 v.2.2) (List.replicate j (o.eK m.vars[k].scalar m.vars[k].aZ m.vars[k].ad m.scalars))) bw bw ⟨Ext.refl _,bp.nil _ _ _ _ _⟩ ?_;clear al bG;rintro j v S bR aT ⟨bf,ek⟩;have al:=bf.obj oF;have bG:=bf.obj Zv;refine aa ?_;apply K.cond<;>intro g2
  ·have ef:j<(o.cells m.vars[k] m.scalars).toNat:=by omega
   refine aa ?_;refine K.call (JX m.vars[k] _ m.scalars bR (aj.ext (dN.trans bf)) (by unfold o.ep;omega)) ?_;rintro _ bW ⟨rfl,bc⟩;have sG:=o.tQ (o.eK m.vars[k].scalar m.vars[k].aZ m.vars[k].ad m.scalars);refine aa ?_;intro cj V4 ahu bP c5;replace c5:cj.heap[V4]? = some (.cells (o.eK m.vars[k].scalar m.vars[k].aZ m.vars[k].ad m.scalars).enc.toArray T.j):=c5;have dX:=ek.ext (bc.trans bP);have E7:=(bf.trans bc).trans bP;have aQ:(List.replicate j (o.eK m.vars[k].scalar m.vars[k].aZ m.vars[k].ad m.scalars)).length=j:=List.length_replicate;refine K.mi (y:=o.eK m.vars[k].scalar m.vars[k].aZ m.vars[k].ad m.scalars) dX c5 rfl (fun _=>rfl) o.tQ (by rw[aQ];omega) (by rw[aQ];unfold maxLen;omega) E7.size fun bh n c dC hX Fg=>?_;refine aa ?_;exact⟨ef,bu,(bh,n,c),bw,dX.kH E7 Fg (Nat.le_refl _),by rw[List.replicate_succ'];exact hX⟩
  ·have kL:j=(o.cells m.vars[k] m.scalars).toNat:=by omega
   have sI:=ay.ext ((au.trans aP).trans bf);replace ek:bp o.di.enc T.j 3 bo.heap.size bR (.slice v.1 v.2.1 v.2.2) (o.xo m.scalars m.vars[k]):=by rw[kL] at ek;exact ek
   have gy:=o.jk 1 ((o.cF m).take k) 0;have qu:=o.Gn m bd k;refine aa ?_;intro bW bc;refine K.wide (Hp (n:=43) (x:=7) (y:=9) (off:=0) (so:=1) (by decide) (by decide) (by decide) (by decide) dc iW (by simp[cb]) (by simp[cb]) (by simp[cb];rfl) (by simp[cb]) (sI.ext bc) (ek.ext bc) (by rw[gy,o.zL];omega) ⟨by rw[o.rM,List.length_take];omega,by simp,by simp⟩ fun a1 cj aJ b7 uR=>?_);have sj:a1 24 = .int .i64 k:=by rw[aJ 24 (by decide)];simp[cb]
   refine aa ?_;rw[sj];refine aa ?_;refine⟨bb,bu,(),trivial,?_⟩;have aU:k<(o.cF m).length:=by simpa[o.cF] using bb
   have e:(o.cF m)[k]=o.xo m.scalars m.vars[k]:=by simp[o.cF]
   rw[List.take_succ_eq_append_getElem aU,e,o.Gk,o.vJ];have bg:(0+((o.cF m).take k).length:Nat)=k:=by rw[List.length_take];omega
   rw[bg,Nat.zero_add,←gy];exact b7
 have kM:m.vars.length≤k:=by omega
 rw[List.take_of_length_le (by simpa[o.cF] using kM)] at ay;have K7:=o.Gn m bd m.vars.length;rw[List.take_of_length_le (by simp[o.cF])] at K7;refine aa ?_;refine K.da 56 m.aH.length [1,2,4,5,6,54,55] (fun _:Unit=>[]) () (fun k _ W=>jf w1 cy cR (o.fT.of (o.gD 0 (o.cF m)) (o.gD (o.total (o.cF m)) ((o.c7 m).take k)) [] (o.cellsOf 1 (o.cF m) 0++o.cellsOf 2 ((o.c7 m).take k) 0)) W) bw bw (by simpa[o.gD,o.cellsOf] using ay) ?_;clear ay al cP;rintro k _ S aR hk ay;have al:=pA ay;have cP:=e0 ay;refine aa ?_;apply K.cond<;>intro g2
 ·have bb:k<m.aH.length:=by omega
  obtain⟨a,rfl⟩:=U.addr (by omega);have eu:=((U.at k bb).cells).ext cP;have dd:=bd.chan _ (List.getElem_mem bb);have jU:=o.Hu dd gT.1;have ho:=dd.cap;refine aa ?_;intro wn Hf Is hJ gy;refine aa ?_;intro ba eV bG;have au:Ext aR ba:=eV.ext hJ Is;replace bG:ba.heap[Hf]? = some (.cells m.aH[k].enc.toArray T.q):=bG;replace al:=au.obj al;clear eV hJ gy eu;have Iw:=al;have Zw:=bG;have fz:=cP.trans au;refine aa ?_;intro bo Eh Zj aP Bg;replace Bg:bo.heap[Eh]? = some (.cells ([(⟨0,m.aH[k].cap,0⟩:o.di)].flatMap o.di.enc).toArray T.j):=Bg;have ev:bp o.di.enc T.j 3 ba.heap.size bo (.slice (some ⟨Eh,0,none⟩) 1 1) [(⟨0,m.aH[k].cap,0⟩:o.di)]:=bp.Ej _ Bg Zj rfl (fun _=>rfl) rfl (by simp[maxLen]);replace al:=aP.obj al;replace bG:=aP.obj bG;have dN:=fz.trans aP;have Qv:=Bg;clear Bg;refine aa ?_;refine K.call (JX ⟨⟨#[]⟩,m.aH[k].scalar,0,min m.aH[k].aZ 0,max m.aH[k].ad 0,0⟩ _ m.scalars bo (aj.ext dN) (by unfold o.ep;simp only;omega)) ?_;rintro _ bR ⟨rfl,bf⟩;have sG:=o.tQ (o.eK m.aH[k].scalar (min m.aH[k].aZ 0) (max m.aH[k].ad 0) m.scalars);refine aa ?_;intro bW r4 It bc iS;replace iS:bW.heap[r4]? = some (.cells (o.jl m.scalars m.aH[k]).enc.toArray T.j):=iS;replace al:=(bf.trans bc).obj al;replace bG:=(bf.trans bc).obj bG;have dn:=ev.ext (bf.trans bc);have ZW:=(aP.trans bf).trans bc;clear ev;refine aa ?_;have ahq:Eh<r4:=by have:=cL Qv;have:=bf.size;omega
  refine K.da 79 m.aH[k].cap.toNat [1,2,4,5,6,10,11,13,54,55,56,78] (fun v:fU=>[(12,.slice v.1 v.2.1 v.2.2)]) (some ⟨Eh,0,none⟩,1,1) (fun j v W=>Ext ba W∧W.heap[r4]? = bW.heap[r4]? ∧ bp o.di.enc T.j 3 ba.heap.size W (.slice v.1 v.2.1 v.2.2) (⟨0,m.aH[k].cap,0⟩ :: List.replicate j (o.jl m.scalars m.aH[k]))∧(Value.slice v.1 v.2.1 v.2.2).ownBlock≠some r4) bw bw ⟨ZW,rfl,dn,by simp[Value.ownBlock];omega⟩ ?_;rw[iS];have agC:=cL iS;clear al bG iS dn Qv;rintro j v S cj aT ⟨Fa,iS,dX,gW⟩;have al:=Fa.obj Iw;have bG:=Fa.obj Zw;refine aa ?_;apply K.cond<;>intro g3
  ·have ef:j<m.aH[k].cap.toNat:=by omega
   have sG:=o.tQ (o.jl m.scalars m.aH[k]);refine aa ?_;intro dC V5 ahv bV IA;replace IA:dC.heap[V5]? = some (.cells (o.jl m.scalars m.aH[k]).enc.toArray T.j):=IA;have hX:=dX.ext bV;have aQ:((⟨0,m.aH[k].cap,0⟩:o.di) :: List.replicate j (o.jl m.scalars m.aH[k])).length=j+1:=by simp
   have QL:=Fa.trans bV;have z138:=cL (bV.obj iS);refine K.VN (y:=o.jl m.scalars m.aH[k]) hX IA rfl (fun _=>rfl) o.tQ (by rw[aQ];omega) (by rw[aQ];unfold maxLen;omega) QL.size fun bh n c ez ik QU jq=>?_;have uE:ez.heap[r4]? = _:=(Mod.grown (A:=fun i=>(Value.slice v.1 v.2.1 v.2.2).ownBlock=some i) QU fun k hk=>hk).obj gW (bV.obj iS);refine aa ?_;refine⟨ef,bu,(bh,n,c),bw,hX.kH QL QU (Nat.le_refl _),uE,by rw[List.replicate_succ'];exact ik,fun e=>?_⟩;rcases jq with a | a
   ·exact gW (a.symm.trans e)
   ·rw[a] at e;injection e with e;omega
  ·have kL:j=m.aH[k].cap.toNat:=by omega
   have iD:=ay.ext (au.trans Fa);replace dX:bp o.di.enc T.j 3 ba.heap.size cj (.slice v.1 v.2.1 v.2.2) (o.k3 m.scalars m.aH[k]):=by rw[kL] at dX;exact dX
   have gy:=o.jk 1 (o.cF m) 0;have IE:=o.jk 2 ((o.c7 m).take k) 0;have hlen:(o.cellsOf 1 (o.cF m) 0++o.cellsOf 2 ((o.c7 m).take k) 0).length=o.total (o.cF m)+o.total ((o.c7 m).take k):=by rw[List.length_append,gy,IE]
   have qu:=o.K6 m bd k;refine aa ?_;intro dC bV;refine K.wide (Hp (n:=86) (x:=10) (y:=12) (off:=1) (so:=2) (by decide) (by decide) (by decide) (by decide) dc iW (by simp[cb]) (by simp[cb]) (by simp[cb];rfl) (by simp[cb]) (iD.ext bV) (dX.ext bV) (by rw[hlen,o.r7];omega) ⟨by rw[o.rM];simp[o.cF];omega,by rw[o.rM,List.length_take];omega,by simp⟩ fun a1 cj aJ b7 uR=>?_);have sj:a1 56 = .int .i64 k:=by rw[aJ 56 (by decide)];simp[cb]
   refine aa ?_;rw[sj];refine aa ?_;refine⟨bb,bu,(),trivial,?_⟩;have aU:k<(o.c7 m).length:=by simpa[o.c7] using bb
   have e:(o.c7 m)[k]=o.k3 m.scalars m.aH[k]:=by simp[o.c7]
   rw[List.take_succ_eq_append_getElem aU,e,o.Gk,o.vJ];have bg:(0+((o.c7 m).take k).length:Nat)=k:=by rw[List.length_take];omega
   rw[bg,←List.append_assoc,←hlen];exact b7
 have yE:m.aH.length≤k:=by omega
 rw[List.take_of_length_le (by simpa[o.c7] using yE)] at ay;have afV:=o.K6 m bd m.aH.length;rw[List.take_of_length_le (by simp[o.c7])] at afV;refine aa ?_;refine K.call (JH _ m aR (h.ext cP) a6) ?_;rintro cn ob ⟨fg,rk⟩;obtain⟨et,ci,rfl,_⟩:=fg.form;have Jo:=ay.ext rk;have pr:(o.insts m).length≤30:=by have:=o.sO m;have:=bd.procs;omega
 refine aa ?_;refine K.da 99 (o.insts m).length [1,2,4,5,6,97,98] (fun _:Unit=>[]) () (fun k _ W=>jf w1 cy cR (o.fT.of (o.gD 0 (o.cF m)) (o.gD (o.total (o.cF m)) (o.c7 m)) (o.gD (o.total (o.cF m)+o.total (o.c7 m)) ((o.eN m).take k)) (o.cellsOf 1 (o.cF m) 0++o.cellsOf 2 (o.c7 m) 0++o.cellsOf 3 ((o.eN m).take k) 0)) W∧dV qA ob W) bw bw ⟨by simpa[o.gD,o.cellsOf] using Jo,dV.refl⟩ ?_;clear ay Jo al cP;rintro k _ S aR hk ⟨ay,l1⟩;have al:=pA ay;have cP:=e0 ay;have fs:oh aR (.slice et (o.insts m).length ci) (o.insts m):=bp.lz (enc:=o.cW.enc) (fun _=>rfl) (fg.gZ l1 (by decide));refine aa ?_;apply K.cond<;>intro g3
 ·have bb:k<(o.insts m).length:=by omega
  obtain⟨ic,rfl⟩:=fs.addr (by omega);have qs:=o.qw _ (List.getElem_mem bb);obtain⟨p,aO,il,re⟩:=o.BU qs;have dd:=bd.proc _ (List.getElem_mem aO);have Rf:=dd.cz;have sx:=dd.gT.1;refine aa ?_;intro wn vD Ba hJ gy;refine aa ?_;intro ba eV bG;have au:Ext aR ba:=eV.ext hJ Ba;replace bG:ba.heap[vD]? = some (.cells #[.int .i64 p,.int .i64 (o.insts m)[k].elem] T.l):=by rw[←il];exact bG
  replace al:=au.obj al;clear eV hJ gy fs;have fz:=cP.trans au;obtain⟨a,rfl⟩:=ai.addr (by omega);obtain⟨nR,cr,dL,en,eJ,gX⟩:=ai.at p aO;obtain⟨eP,ff,rfl,fH⟩:=eJ.form;obtain⟨n2,jO,rfl,lc⟩:=gX.form;replace en:=en.ext fz;refine aa ?_;intro bo V2 ahr aP ur;replace ur:bo.heap[V2]? = some (.cells (m.procs[p].enc (.slice eP m.procs[p].vars.length ff) (.slice n2 m.procs[p].cJ.length jO)).toArray T.g):=ur;unfold o.dj.enc at ur;have dN:=fz.trans aP;replace al:=aP.obj al;clear en;refine aa ?_;intro bR Hg Zi bf E0;replace E0:bR.heap[Hg]? = some (.cells ([(⟨0,m.procs[p].cz - 1,0⟩:o.di)].flatMap o.di.enc).toArray T.j):=E0;have ek:bp o.di.enc T.j 3 bo.heap.size bR (.slice (some ⟨Hg,0,none⟩) 1 1) [(⟨0,m.procs[p].cz - 1,0⟩:o.di)]:=bp.Ej _ E0 Zi rfl (fun _=>rfl) rfl (by simp[maxLen]);have Iw:=al;have Zo:=ur;replace ur:=bf.obj ur;clear E0 al;refine aa ?_;refine K.da 118 m.procs[p].vars.length [1,2,4,5,6,14,16,97,98,99,116,117] (fun v:fU=>[(17,.slice v.1 v.2.1 v.2.2)]) (some ⟨Hg,0,none⟩,1,1) (fun j v W=>Ext bo W∧bp o.di.enc T.j 3 bo.heap.size W (.slice v.1 v.2.1 v.2.2) (⟨0,m.procs[p].cz - 1,0⟩ :: (m.procs[p].vars.take j).map fun v=>o.eK v.scalar v.aZ v.ad m.scalars)) bw bw ⟨bf,by simpa using ek⟩ ?_;clear ur ek;rintro j v S bW aT ⟨yx,dn⟩;have al:=yx.obj Iw;have ur:=yx.obj Zo;have j7:=dN.trans yx;refine aa ?_;apply K.cond<;>intro g4
  ·have ef:j<m.procs[p].vars.length:=by omega
   obtain⟨xQ,rfl⟩:=eJ.addr (by omega);have eu:=((eJ.at j ef).cells).ext j7;have Jy:=dd.var _ (List.getElem_mem ef);have jU:=o.Gu Jy gT.1;refine aa ?_;intro cj V3 aht bP Qs;replace Qs:cj.heap[V3]? = some (.cells m.procs[p].vars[j].enc.toArray T.f):=Qs;replace al:=bP.obj al;have gP:=j7.trans bP;clear eu;refine aa ?_;refine K.call (JX m.procs[p].vars[j] _ m.scalars cj (aj.ext gP) (by unfold o.ep;omega)) ?_;rintro _ dC ⟨rfl,bV⟩;have sG:=o.tQ (o.eK m.procs[p].vars[j].scalar m.procs[p].vars[j].aZ m.procs[p].vars[j].ad m.scalars);refine aa ?_;intro ez V0 ahp cp Ix;replace Ix:ez.heap[V0]? = some (.cells (o.eK m.procs[p].vars[j].scalar m.procs[p].vars[j].aZ m.procs[p].vars[j].ad m.scalars).enc.toArray T.j):=Ix;have ik:=dn.ext ((bP.trans bV).trans cp);have QM:=((yx.trans bP).trans bV).trans cp;have aQ:((⟨0,m.procs[p].cz - 1,0⟩:o.di) :: (m.procs[p].vars.take j).map fun v=>o.eK v.scalar v.aZ v.ad m.scalars).length=j+1:=by simp;omega
   refine K.mi (y:=o.eK m.procs[p].vars[j].scalar m.procs[p].vars[j].aZ m.procs[p].vars[j].ad m.scalars) ik Ix rfl (fun _=>rfl) o.tQ (by rw[aQ];omega) (by rw[aQ];unfold maxLen;omega) QM.size fun bh n c eX pw oJ=>?_;refine aa ?_;exact⟨ef,bu,(bh,n,c),bw,ik.kH QM oJ (Nat.le_refl _),by rw[List.take_succ_eq_append_getElem ef,List.map_append];exact pw⟩
  ·have aaY:=ay.ext ((au.trans aP).trans yx);have JO:dV qA aR bW:=dV.ext ((au.trans aP).trans yx);replace dn:bp o.di.enc T.j 3 bo.heap.size bW (.slice v.1 v.2.1 v.2.2) (o.jY m (o.insts m)[k]):=by rw[List.take_of_length_le (by omega)] at dn;rw[re];exact dn
   have gy:=o.jk 1 (o.cF m) 0;have IE:=o.jk 2 (o.c7 m) 0;have ZM:=o.jk 3 ((o.eN m).take k) 0;have hlen:(o.cellsOf 1 (o.cF m) 0++o.cellsOf 2 (o.c7 m) 0++o.cellsOf 3 ((o.eN m).take k) 0).length=o.total (o.cF m)+o.total (o.c7 m)+o.total ((o.eN m).take k):=by rw[List.length_append,List.length_append,gy,IE,ZM]
   have qu:=o.Uy m bd k;have Iv:(o.jY m (o.insts m)[k]).length≤10:=by rw[re,o.xc];omega
   refine aa ?_;intro dC bV;refine K.wide (Hp (n:=130) (x:=14) (y:=17) (off:=2) (so:=3) (by decide) (by decide) (by decide) (by decide) dc iW (by simp[cb]) (by simp[cb]) (by simp[cb];rfl) (by simp[cb]) (aaY.ext bV) (dn.ext bV) (by rw[hlen];omega) ⟨by rw[o.rM];simp[o.cF];omega,by rw[o.rM];simp[o.c7];omega,by rw[o.rM,List.length_take];omega⟩ fun a1 cj aJ b7 uR=>?_);have sj:a1 99 = .int .i64 k:=by rw[aJ 99 (by decide)];simp[cb]
   refine aa ?_;rw[sj];refine aa ?_;refine⟨bb,bu,(),trivial,?_,((l1.trans JO).trans (dV.ext bV)).trans uR⟩;have aU:k<(o.eN m).length:=by simpa[o.eN] using bb
   have e:(o.eN m)[k]=o.jY m (o.insts m)[k]:=by simp[o.eN]
   rw[List.take_succ_eq_append_getElem aU,e,o.Gk,o.vJ];have bg:(0+((o.eN m).take k).length:Nat)=k:=by rw[List.length_take];omega
   rw[bg,←List.append_assoc,←hlen];exact b7
 have Bu:(o.insts m).length≤k:=by omega
 rw[List.take_of_length_le (by simpa[o.eN] using Bu)] at ay;have aI:=hK ay;obtain⟨vs,u,g1,g2,g3,g4⟩:=ay.ex;have fin:∀{ba W},Ext aR ba→dH b4 ba W→(∃xs iJ,Value.tuple #[.agg #[cf (vs 0),cf (vs 1),cf (vs 2),.int .i64 (o.b1 m).length,cf (vs 3),cf (vs 4)],cf u] = .tuple #[.agg xs.toArray,iJ]∧dW w (fun w=>o.jg w xs (o.layout m)) W∧dW w (fun w=>bB 4 (Flat o.Cell.slot) w iJ (o.b1 m)) W)∧Ext w W:=by
  intro ba W he hw;have dw:=he.obj aI;have Yy:=(g2.ext he).mod (hw.mod (A:=fun i=>i=b4) rfl) fun i k ad hk e=>by subst e;exact(g2.ext he).not dw (by decide) i ad hk
  have Yz:=(g4.ext he).mod (hw.mod (A:=fun i=>i=b4) rfl) fun k hk e=>by
   subst e;obtain⟨cur,gl⟩:=(g4.ext he).aV k hk;rw[dw] at gl;injection gl with gl;injection gl with _ e;exact absurd e (by decide)
  have bU:w.heap.size≤w1.heap.size:=by omega
  have qE:=fun(i:Nat) (ad:i<5)=>bp.new (e:=T.a) (enc:=dk) (fun _=>rfl) (bp.low bU (Yy.own i ad));refine⟨⟨[_,_,_,_,_,_],_,rfl,fun fp qB=>⟨⟨_,_,_,_,_,rfl,qE 0 (by decide) fp qB,qE 1 (by decide) fp qB,qE 2 (by decide) fp qB,qE 3 (by decide) fp qB,qE 4 (by decide) fp qB⟩⟩,bp.new (e:=T.s) (enc:=o.Cell.slot) (fun _=>rfl) (bp.low bU Yz)⟩,hw.ext (cP.trans he) (by omega)⟩
 replace g1:aR.heap[cy]? = some (.cells #[cf (vs 0),cf (vs 1),cf (vs 2),.int .i64 (o.b1 m).length,cf (vs 3),cf (vs 4)] T.i):=g1;refine aa ?_;intro ba au;replace g1:=au.obj g1;replace g3:=au.obj g3;replace aI:=au.obj aI;dsimp only[cf] at g1 g3;refine aa ?_;refine⟨?_,?_⟩
 ·refine aa ?_;refine⟨?_,?_⟩
  ·refine aa ?_;intro bo ed bJ;refine aa ?_;exact fin au ed
  ·refine aa ?_;intro bo ed bJ;replace g3:=ed.obj g3 (by omega);refine aa ?_;exact fin au ed
 ·refine aa ?_;intro bo ed bJ;refine aa ?_;exact fin au ed
end Go.Proofs.R
end
section
namespace o
theorem B0{m:Model}(h:(check m).dh=0):lay m=layout m:=by unfold lay;rw[if_pos h]
theorem Sq{m:Model}(h:¬(check m).dh=0):lay m=J7:=by unfold lay;rw[if_neg h]
theorem l3{m:Model}(h:eI m):(b1 m).length≤64:=by
 have:=FM h
 have:=h.cells
 omega
open Go Go.RowKit bt in
theorem jg.zero(w:World):jg w [.slice none 0 0,.slice none 0 0,.slice none 0 0,.int .i64 0,.slice none 0 0,.slice none 0 0] J7:=⟨_,_,_,_,_,rfl,bB.nil,bB.nil,bB.nil,bB.nil,bB.nil⟩
end o
namespace Go.Proofs.R
open Go Go.RowKit bt
theorem Sn(cs:List Value)(m:o.Model)(w:World)(h:o.ew w cs m)(a6:m.cT)(a8:h9 w) :
  bq Tryz.prog F.p4 #[.agg cs.toArray] w fun v w'=>(∃xs,v = .agg xs.toArray∧dW w (fun w=>o.jg w xs (o.lay m)) w')∧Ext w w':=by
 have bd:=h;obtain⟨cv,bN,b9,c1,cq,c2,cm,bK,cw,bQ,rfl,_⟩:=h.form;refine bI E.p4 ?_;refine bF ?_;refine aa ?_;intro w1 bz cK az al;refine aa ?_;intro aR b4 dw aA aI;have fy:=cL al;replace al:=aA.obj al;have z2:=cL aI;have z3:=az.size;have bg:=az.trans aA;refine aa ?_;refine K.call (acI _ m aR (bd.ext bg) a6 (a8.ext bg)) ?_;rintro _ ba ⟨rfl,au⟩;replace al:=au.obj al;replace aI:=au.obj aI;have bO:=bg.trans au;by_cases hk:(o.check m).dh=0
 ·rw[decide_eq_true hk];refine aa ?_;refine K.call (acj _ m ba (bd.ext bO) a6 (o.pE hk)) ?_;rintro _ bo ⟨⟨xs,u,rfl,dF,ay⟩,aP⟩;obtain⟨jJ,d0,lC,d1,lD,d2,ma,d3,lE,d4,rfl,_⟩:=dF.here.form;obtain⟨Kb,sb,rfl,_⟩:=ay.here.form;replace aI:=aP.obj aI;have b8:=bO.trans aP;have z4:=au.size;refine aa ?_;intro bR bZ fG bf bG;replace aI:=bf.obj aI;refine aa ?_;intro bW gd dm;have aN:=(dF.ext bf aP.size).wr gd (by omega);refine aa ?_;exact⟨⟨_,rfl,by rw[o.B0 hk];exact aN.low bO.size⟩,gd.ext (b8.trans bf) (by omega)⟩
 ·rw[decide_eq_false hk];refine aa ?_;intro bo ed bJ;refine aa ?_;exact⟨⟨[_,_,_,_,_,_],rfl,by rw[o.Sq hk];exact fM.of fun _=>o.jg.zero _⟩,ed.ext bO (by omega)⟩
end Go.Proofs.R
end
section
namespace o
theorem WZ{c:c4}{s:List Scalar}(h:zT c s)(aj:c.scalar≠0):∃i,∃ad:i<s.length,c.scalar=(i:Int)+1∧s[i].size=size c.scalar s:=by
 have e:=h.ja.resolve_left aj;unfold size at e ⊢;split at e
 ·rename_i x aw;obtain⟨ck,ru⟩:=List.getElem?_eq_some_iff.1 aw;split at e
  ·rename_i h1;refine⟨(c.scalar - 1).toNat,ck,by omega,?_⟩;rw[ru,if_pos h1]
  ·exact absurd rfl e
 ·exact absurd rfl e
theorem JR(so hi:Int)(l:List di)(b:di):eR so hi (l++[b]) 0=eR so hi l 0++[⟨so,hi,(l.length:Nat),b.aZ,b.ad,b.kind⟩]:=by
 rw[JQ,Nat.zero_add]
end o
namespace Go.Proofs.R
open Go Go.RowKit bt
theorem Sh{α:Type}{enc:α→List Value}{e:TypeId}{sz base:Nat}{w w':World}{v:Value}{xs:List α}(a8:bp enc e sz base w v xs)(a6:w.grownBy w' v.ownBlock):dV [e] w w':=dV.mod (A:=fun k=>v.ownBlock=some k) (Mod.grown a6 fun k hk=>hk) fun k c t av a=>by
 obtain⟨cur,h⟩:=a8.aV k a;rw[av] at h;injection h with h;injection h with _ h;rw[h];simp
theorem aez(cs:List Value)(m:o.Model)(w:World)(h:o.ew w cs m)(a6:m.cT)(bd:o.eI m) :
  bq Tryz.prog F.Cs #[.agg cs.toArray] w fun v w'=>bp o.Cell.enc T.jZ 6 w.heap.size w' v (o.b1 m)∧Ext w w':=by
 obtain⟨cv,bN,b9,c1,cq,c2,cm,bK,cw,bQ,rfl,aj,h1,U,ai,aL,eG,dt,dB,dT,er⟩:=h.form;have gT:=bd.gT;refine bI E.Cs ?_;refine bF ?_;refine aa ?_;intro w1 bz cK az al;refine aa ?_;refine K.da 4 m.vars.length [1] (fun v:fU=>[(3,.slice v.1 v.2.1 v.2.2)]) (none,0,0) (fun k v W=>Ext w1 W∧bp o.Cell.enc T.jZ 6 w1.heap.size W (.slice v.1 v.2.1 v.2.2) (o.cellsOf 1 ((o.cF m).take k) 0)) bw bw ⟨Ext.refl _,bp.nil _ _ _ _ _⟩ ?_;have oF:=al;clear al;rintro k v S aR hk ⟨aA,ej⟩;have al:=aA.obj oF;have bg:=az.trans aA;refine aa ?_;apply K.cond<;>intro g1
 ·have bb:k<m.vars.length:=by omega
  obtain⟨a,rfl⟩:=h1.addr (by omega);have eu:=((h1.at k bb).cells).ext bg;have dd:=bd.var _ (List.getElem_mem bb);have jU:=o.Gu dd gT.1;have aU:k<(o.cF m).length:=by simpa[o.cF] using bb
  have qu:=o.Gn m bd (k+1);rw[o.Dq aU] at qu;have ug:(o.cF m)[k]=o.xo m.scalars m.vars[k]:=by simp[o.cF]
  rw[ug,o.zL] at qu;have eU:=o.r6 m.vars[k] m.scalars;refine aa ?_;refine K.fX (.tuple #[.int .i64 (o.bounds m.vars[k] m.scalars).1,.int .i64 (o.bounds m.vars[k] m.scalars).2]) (fun w' e=>Kv m.vars[k] _ m.scalars w' (aj.ext (bg.trans e))) ?_;refine aa ?_;intro ba au;have eM:=ej.ext au;have bG:=au.obj al;have iT:=aA.trans au;clear al eu;refine aa ?_;refine K.da 7 (o.cells m.vars[k] m.scalars).toNat [1,4,5,6] (fun v:fU=>[(3,.slice v.1 v.2.1 v.2.2)]) v (fun j v W=>Ext w1 W∧bp o.Cell.enc T.jZ 6 w1.heap.size W (.slice v.1 v.2.1 v.2.2) (o.cellsOf 1 ((o.cF m).take k) 0++o.eR 1 k (List.replicate j (o.eK m.vars[k].scalar m.vars[k].aZ m.vars[k].ad m.scalars)) 0)) bw bw ⟨iT,by simpa[o.eR] using eM⟩ ?_;clear bG eM ej aA au iT;rintro j v S bo aT ⟨aP,ev⟩;have al:=aP.obj oF;have b8:=az.trans aP;have eu:=((h1.at k bb).cells).ext b8;refine aa ?_;refine K.fX _ (fun w' e=>Kw m.vars[k] _ m.scalars w' (aj.ext (b8.trans e))) ?_;refine aa ?_;intro bR bf;replace al:=bf.obj al;replace eu:=eu.ext bf;have ek:=ev.ext bf;have nJ:=aP.trans bf;refine aa ?_;apply K.cond<;>intro g2
  ·have ef:j<(o.cells m.vars[k] m.scalars).toNat:=by omega
   refine aa ?_;refine K.call (Kz m.vars[k].scalar bR (by unfold o.ep;omega)) ?_;rintro _ l9 ⟨rfl,rfl⟩;refine aa ?_;intro bW ie gG bc dm;have dn:=ek.ext bc;have uw:=nJ.trans bc;have aQ:(o.cellsOf 1 ((o.cF m).take k) 0++o.eR 1 k (List.replicate j (o.eK m.vars[k].scalar m.vars[k].aZ m.vars[k].ad m.scalars)) 0).length=o.total ((o.cF m).take k)+j:=by
    rw[List.length_append,o.jk,o.rA,List.length_replicate]
   refine K.mi (y:=⟨1,k,j,(o.bounds m.vars[k] m.scalars).1,(o.bounds m.vars[k] m.scalars).2,o.kindOf m.vars[k].scalar⟩) dn dm rfl (fun _=>rfl) o.Az (by rw[aQ];omega) (by rw[aQ];unfold maxLen;omega) uw.size fun bh n c cj dX iV=>?_;refine aa ?_;refine⟨ef,bu,(bh,n,c),bw,dn.kH uw iV (Nat.le_refl _),?_⟩;rw[List.replicate_succ',o.JR,←List.append_assoc,List.length_replicate,o.Av];rw[o.Av] at dX;exact dX
  ·have kL:j=(o.cells m.vars[k] m.scalars).toNat:=by omega
   refine aa ?_;refine⟨bb,bu,v,bw,nJ,?_⟩;have bg:(0+((o.cF m).take k).length:Nat)=k:=by rw[List.length_take];omega
   rw[List.take_succ_eq_append_getElem aU,ug,o.vJ,bg];rw[kL] at ek;exact ek
 have kM:m.vars.length≤k:=by omega
 rw[List.take_of_length_le (by simpa[o.cF] using kM)] at ej;have K7:=o.Gn m bd m.vars.length;rw[List.take_of_length_le (by simp[o.cF])] at K7;refine aa ?_;refine K.da 8 m.aH.length [1] (fun v:fU=>[(3,.slice v.1 v.2.1 v.2.2)]) v (fun k v W=>Ext w1 W∧bp o.Cell.enc T.jZ 6 w1.heap.size W (.slice v.1 v.2.1 v.2.2) (o.cellsOf 1 (o.cF m) 0++o.cellsOf 2 ((o.c7 m).take k) 0)) bw bw ⟨aA,by simpa[o.cellsOf] using ej⟩ ?_;clear al ej aA bg;rintro k v S aR hk ⟨aA,ej⟩;have al:=aA.obj oF;have bg:=az.trans aA;refine aa ?_;apply K.cond<;>intro g2
 ·have bb:k<m.aH.length:=by omega
  obtain⟨a,rfl⟩:=U.addr (by omega);have eu:=((U.at k bb).cells).ext bg;have dd:=bd.chan _ (List.getElem_mem bb);have jU:=o.Hu dd gT.1;have ho:=dd.cap;have aU:k<(o.c7 m).length:=by simpa[o.c7] using bb
  have qu:=o.K6 m bd (k+1);rw[o.Dq aU] at qu;have ug:(o.c7 m)[k]=o.k3 m.scalars m.aH[k]:=by simp[o.c7]
  rw[ug,o.r7] at qu;have wi:(o.cellsOf 1 (o.cF m) 0++o.cellsOf 2 ((o.c7 m).take k) 0).length=o.total (o.cF m)+o.total ((o.c7 m).take k):=by rw[List.length_append,o.jk,o.jk]
  refine aa ?_;intro ba iM lb au dP;replace dP:ba.heap[iM]? = some (.cells m.aH[k].enc.toArray T.q):=dP;replace al:=au.obj al;have eM:=ej.ext au;clear eu;have iT:=aA.trans au;refine aa ?_;intro bo cE fh aP bJ;have ev:=eM.ext aP;have oG:=iT.trans aP;refine K.mi (y:=⟨2,k,0,0,m.aH[k].cap,0⟩) ev bJ rfl (fun _=>rfl) o.Az (by rw[wi];omega) (by rw[wi];unfold maxLen;omega) oG.size fun bh n c bR ek iC=>?_;have al:=ev.box iC (aP.obj al) (by decide);have dP:=ev.box iC (aP.obj dP) (by decide);have nJ:=ev.kH oG iC (Nat.le_refl _);have ca:=az.trans nJ;have ajQ:=cL dP;clear ej eM bJ fh aP au lb;refine ei ?_;simp -dsimp only[cu];refine ei ?_;intro bW bc;replace al:=bc.obj al;replace dP:=bc.obj dP;have dn:=ek.ext bc;have c0:=ca.trans bc;have uw:=nJ.trans bc;refine K.hE [1,3,8,9] (fun _:Unit=>[(10,.int .i64 (o.jl m.scalars m.aH[k]).aZ),(11,.int .i64 (o.jl m.scalars m.aH[k]).ad)]) (fun _ W=>Ext bW W) ?_ ?_
  ·refine aa ?_;apply K.cond<;>intro g3
   ·obtain⟨i,ad,Jo,Jq⟩:=o.WZ dd (by omega);obtain⟨a0,rfl⟩:=aj.addr (by omega);have fR:=((aj.at i ad).cells).ext c0;refine aa ?_;refine K.dr i (by omega) ad ?_;refine aa ?_;intro cj bP;refine aa ?_;have e:o.jl m.scalars m.aH[k]=⟨0,m.scalars[i].size,m.aH[k].scalar+1⟩:=by unfold o.jl o.eK;rw[if_neg (by omega),Jq]
    rw[e];exact⟨(),bw,bP⟩
   ·have fV:m.aH[k].scalar=0:=by omega
    refine aa ?_;have e:o.jl m.scalars m.aH[k]=⟨min 0 m.aH[k].aZ,max 0 m.aH[k].ad,0⟩:=by unfold o.jl o.eK;rw[if_pos fV,Int.min_comm,Int.max_comm]
    rw[e];exact⟨(),bw,Ext.refl _⟩
  rintro _ S cj bP;replace al:=bP.obj al;replace dP:=bP.obj dP;have dX:=dn.ext bP;have yw:=uw.trans bP;have Bt:o.jl m.scalars m.aH[k]=⟨(o.jl m.scalars m.aH[k]).aZ,(o.jl m.scalars m.aH[k]).ad,o.kindOf m.aH[k].scalar⟩:=by
   unfold o.jl o.eK o.kindOf;split<;>rfl
  have FD:∀{W:World},W.heap[iM]? = cj.heap[iM]? → _:=fun e=>e.trans dP;refine aa ?_;refine K.Dt [1,8,9,10,11] (fun x:fU×Nat=>[(3,.slice x.1.1 x.1.2.1 x.1.2.2),(12,.int .i64 ((x.2:Int)+1))]) ((bh,n,c),0) (fun x W=>(Ext w1 W∧W.heap[iM]? = cj.heap[iM]? ∧ (x.2:Int)≤m.aH[k].cap)∧bp o.Cell.enc T.jZ 6 w1.heap.size W (.slice x.1.1 x.1.2.1 x.1.2.2) (o.cellsOf 1 (o.cF m) 0++o.cellsOf 2 ((o.c7 m).take k) 0++o.eR 2 k (⟨0,m.aH[k].cap,0⟩ :: List.replicate x.2 (o.jl m.scalars m.aH[k])) 0)) (fun x=>(m.aH[k].cap - x.2).toNat) bw ⟨⟨yw,rfl,by simp only;omega⟩,by simpa[o.eR] using dX⟩ ?_;clear al dP dX dn ek;rintro⟨v,j⟩ S dC ⟨⟨Bk,lb,aT⟩,hX⟩;have al:=Bk.obj oF;have dP:=FD lb;simp only at aT;refine aa ?_;apply K.cond<;>intro g4
  ·refine aa ?_;refine K.call (Kz m.aH[k].scalar dC (by unfold o.ep;omega)) ?_;rintro _ l9 ⟨rfl,rfl⟩;refine aa ?_;intro ez He Ir cp sq;have ik:=hX.ext cp;have Bl:=Bk.trans cp;have aQ:(o.cellsOf 1 (o.cF m) 0++o.cellsOf 2 ((o.c7 m).take k) 0++o.eR 2 k (⟨0,m.aH[k].cap,0⟩ :: List.replicate j (o.jl m.scalars m.aH[k])) 0).length=o.total (o.cF m)+o.total ((o.c7 m).take k)+(j+1):=by
    rw[List.length_append,wi,o.rA,List.length_cons,List.length_replicate]
   refine K.mi (y:=⟨2,k,(j:Int)+1,(o.jl m.scalars m.aH[k]).aZ,(o.jl m.scalars m.aH[k]).ad,o.kindOf m.aH[k].scalar⟩) ik sq rfl (fun _=>rfl) o.Az (by rw[aQ];omega) (by rw[aQ];unfold maxLen;omega) Bl.size fun bh n c eX pw oJ=>?_;have ZF:=ik.box oJ (cp.obj dP) (by decide);refine aa ?_;refine⟨((bh,n,c),j+1),bw,⟨⟨ik.kH Bl oJ (Nat.le_refl _),ZF.trans (FD rfl).symm,by simp only;omega⟩,?_⟩,by simp only;omega⟩;rw[List.replicate_succ',←List.cons_append,o.JR,←List.append_assoc,List.length_cons,List.length_replicate];rw[Bt] at pw ⊢;exact pw
  ·refine aa ?_;refine⟨bb,bu,v,bw,Bk,?_⟩;have bg:(0+((o.c7 m).take k).length:Nat)=k:=by rw[List.length_take];omega
   have vO:j=m.aH[k].cap.toNat:=by omega
   rw[List.take_succ_eq_append_getElem aU,ug,o.vJ,bg,←List.append_assoc];rw[vO] at hX;exact hX
 have yE:m.aH.length≤k:=by omega
 rw[List.take_of_length_le (by simpa[o.c7] using yE)] at ej;refine aa ?_;refine K.call (C6 _ m aR (h.ext bg) a6) ?_;rintro cn ob ⟨fg,rk⟩;obtain⟨et,ci,rfl,_⟩:=fg.form;have I0:∀{W:World},dV [T.jZ] ob W→oh W (.slice et (o.insts m).length ci) (o.insts m):=fun k=>bp.lz (enc:=o.cW.enc) (fun _=>rfl) (fg.gZ k (by decide));have pr:(o.insts m).length≤30:=by have:=o.sO m;have:=bd.procs;omega
 have Rs:=ej.ext rk;have QK:=aA.trans rk;have ajN:=rk.size;refine aa ?_;refine K.da 14 (o.insts m).length [1,13] (fun v:fU=>[(3,.slice v.1 v.2.1 v.2.2)]) v (fun k v W=>(Ext w1 W∧dV [T.jZ] ob W)∧bp o.Cell.enc T.jZ 6 w1.heap.size W (.slice v.1 v.2.1 v.2.2) (o.cellsOf 1 (o.cF m) 0++o.cellsOf 2 (o.c7 m) 0++o.cellsOf 3 ((o.eN m).take k) 0)) bw bw ⟨⟨QK,dV.refl⟩,by simpa[o.cellsOf] using Rs⟩ ?_;clear al ej aA bg Rs rk QK;rintro k v S aR hk ⟨⟨aA,l1⟩,ej⟩;have fs:=I0 l1;have al:=aA.obj oF;have bg:=az.trans aA;refine aa ?_;apply K.cond<;>intro g3
 ·have bb:k<(o.insts m).length:=by omega
  obtain⟨ic,rfl⟩:=fs.addr (by omega);have qs:=o.qw _ (List.getElem_mem bb);obtain⟨p,aO,il,re⟩:=o.BU qs;have dd:=bd.proc _ (List.getElem_mem aO);have Rf:=dd.cz;have sx:=dd.gT.1;obtain⟨a,rfl⟩:=ai.addr (by omega);obtain⟨nR,cr,dL,en,eJ,gX⟩:=ai.at p aO;obtain⟨eP,ff,rfl,fH⟩:=eJ.form;obtain⟨n2,jO,rfl,lc⟩:=gX.form;replace en:=en.ext bg;have aU:k<(o.eN m).length:=by simpa[o.eN] using bb
  have qu:=o.Uy m bd (k+1);rw[o.Dq aU] at qu;have ug:(o.eN m)[k]=o.rG m.scalars m.procs[p]:=by simp[o.eN,re]
  rw[ug,o.xc] at qu;have wi:(o.cellsOf 1 (o.cF m) 0++o.cellsOf 2 (o.c7 m) 0++o.cellsOf 3 ((o.eN m).take k) 0).length=o.total (o.cF m)+o.total (o.c7 m)+o.total ((o.eN m).take k):=by rw[List.length_append,List.length_append,o.jk,o.jk,o.jk]
  refine aa ?_;intro ba au;replace en:=en.ext au;replace al:=au.obj al;replace fs:=fs.ext Flat.ext au;have eM:=ej.ext au;have iT:=aA.trans au;refine aa ?_;refine K.dr p il aO ?_;refine aa ?_;intro wn vD Ba hJ gy;refine⟨hJ,?_⟩;refine aa ?_;intro bo ed bJ;have E9:Ext ba bo:=ed.ext hJ Ba;replace bJ:bo.heap[vD]? = some (.cells (m.procs[p].enc (.slice eP m.procs[p].vars.length ff) (.slice n2 m.procs[p].cJ.length jO)).toArray T.g):=bJ;unfold o.dj.enc at bJ;replace al:=E9.obj al;have ev:=eM.ext E9;have oG:=iT.trans E9;clear ed hJ gy en eM ej fs;refine aa ?_;intro bR dz lV bf cx;have ek:=ev.ext bf;have nJ:=oG.trans bf;refine K.mi (y:=⟨3,k,0,0,m.procs[p].cz - 1,0⟩) ek cx rfl (fun _=>rfl) o.Az (by rw[wi];omega) (by rw[wi];unfold maxLen;omega) nJ.size fun bh n c bW dn iU=>?_;have al:=ek.box iU (bf.obj al) (by decide);have rh:=ek.box iU (bf.obj bJ) (by decide);have uw:=ek.kH nJ iU (Nat.le_refl _);have JO:dV [T.jZ] ob bW:=((l1.trans (dV.ext (au.trans E9))).trans (dV.ext bf)).trans (Sh ek iU);clear bJ ev;have RJ:∀{W:World},W.heap[vD]? = bW.heap[vD]? → _:=fun e=>e.trans rh;refine aa ?_;refine K.da 16 m.procs[p].vars.length [1,13,14,15] (fun v:fU=>[(3,.slice v.1 v.2.1 v.2.2)]) (bh,n,c) (fun j v W=>((Ext w1 W∧dV [T.jZ] ob W)∧W.heap[vD]? = bW.heap[vD]?)∧bp o.Cell.enc T.jZ 6 w1.heap.size W (.slice v.1 v.2.1 v.2.2) (o.cellsOf 1 (o.cF m) 0++o.cellsOf 2 (o.c7 m) 0++o.cellsOf 3 ((o.eN m).take k) 0++o.eR 3 k (⟨0,m.procs[p].cz - 1,0⟩ :: (m.procs[p].vars.take j).map fun v=>o.eK v.scalar v.aZ v.ad m.scalars) 0)) bw bw ⟨⟨⟨uw,JO⟩,rfl⟩,by simpa[o.eR] using dn⟩ ?_;clear al rh dn;rintro j v S cj aT ⟨⟨⟨yw,rz⟩,Ba⟩,dX⟩;have al:=yw.obj oF;have rh:=RJ Ba;have ee:=az.trans yw;refine aa ?_;apply K.cond<;>intro g4
  ·have ef:j<m.procs[p].vars.length:=by omega
   obtain⟨xQ,rfl⟩:=eJ.addr (by omega);have eu:=((eJ.at j ef).cells).ext ee;have Jy:=dd.var _ (List.getElem_mem ef);have jU:=o.Gu Jy gT.1;refine aa ?_;refine K.fX (.tuple #[.int .i64 (o.bounds m.procs[p].vars[j] m.scalars).1,.int .i64 (o.bounds m.procs[p].vars[j] m.scalars).2]) (fun w' e=>Kv m.procs[p].vars[j] _ m.scalars w' (aj.ext (ee.trans e))) ?_;refine aa ?_;intro dC bV;replace al:=bV.obj al;replace rh:=bV.obj rh;replace eu:=eu.ext bV;have hX:=dX.ext bV;have Bk:=yw.trans bV;refine aa ?_;refine K.call (Kz m.procs[p].vars[j].scalar dC (by unfold o.ep;omega)) ?_;rintro _ l9 ⟨rfl,rfl⟩;refine aa ?_;intro ez iM lb cp dP;have ik:=hX.ext cp;have Bl:=Bk.trans cp;have aQ:(o.cellsOf 1 (o.cF m) 0++o.cellsOf 2 (o.c7 m) 0++o.cellsOf 3 ((o.eN m).take k) 0++o.eR 3 k (⟨0,m.procs[p].cz - 1,0⟩ :: (m.procs[p].vars.take j).map fun v=>o.eK v.scalar v.aZ v.ad m.scalars) 0).length=o.total (o.cF m)+o.total (o.c7 m)+o.total ((o.eN m).take k)+(j+1):=by
    rw[List.length_append,wi,o.rA,List.length_cons,List.length_map,List.length_take];omega
   have ck:((m.procs[p].vars.take j).map fun v=>o.eK v.scalar v.aZ v.ad m.scalars).length=j:=by simp;omega
   refine K.mi (y:=⟨3,k,1+(j:Int),(o.bounds m.procs[p].vars[j] m.scalars).1,(o.bounds m.procs[p].vars[j] m.scalars).2,o.kindOf m.procs[p].vars[j].scalar⟩) ik dP rfl (fun _=>rfl) o.Az (by rw[aQ];omega) (by rw[aQ];unfold maxLen;omega) Bl.size fun bh n c eX pw oJ=>?_;have Zn:=ik.box oJ (cp.obj rh) (by decide);refine aa ?_;refine⟨ef,bu,(bh,n,c),bw,⟨⟨ik.kH Bl oJ (Nat.le_refl _),(rz.trans (dV.ext (bV.trans cp))).trans (Sh ik oJ)⟩,Zn.trans (RJ rfl).symm⟩,?_⟩;rw[List.take_succ_eq_append_getElem ef,List.map_append,←List.cons_append,List.map_cons,List.map_nil,o.JR,←List.append_assoc,List.length_cons,ck,o.Av m.procs[p].vars[j],show((j+1:Nat):Int)=1+(j:Int) from by omega];exact pw
  ·refine aa ?_;refine⟨bb,bu,v,bw,⟨yw,rz⟩,?_⟩;have bg:(0+((o.eN m).take k).length:Nat)=k:=by rw[List.length_take];omega
   rw[List.take_of_length_le (l:=m.procs[p].vars) (by omega)] at dX;rw[List.take_succ_eq_append_getElem aU,ug,o.vJ,bg,←List.append_assoc];exact dX
 ·rw[List.take_of_length_le (by simp[o.eN];omega)] at ej;refine aa ?_;exact⟨bp.low az.size ej,bg⟩
end Go.Proofs.R
end