/- Texts joined: ModG LayA LayB LayC LayD LayE LayF LayG LayH. -/
import Derived.Test.YtglnobabdcoknaaGreatDoorQrdxd
import Derived.Test.YtglnobabdcoknaaGreatDoorQrdxe
import Derived.Test.YtglnobabdcoknaaGreatDoorQrdxh
import Derived.Test.YtglnobabdcoknaaGreatDoorQrdxi
import Derived.Test.YtglnobabdcoknaaGreatDoorQrdxk
set_option linter.all false
set_option maxRecDepth 8000
set_option maxHeartbeats 16000000
section
namespace Abs
theorem props_fine {m : Model} (h : (propsF m).why = 0) : propsF m = fine := props_0 (props_ok h)
end Abs
namespace Go.Proofs.R
open Go Go.RowKit Lite
theorem check1_idle (b : Nat) (w : World) : CallsD Tryz.prog F.r #[.pointer (some ⟨b, 0, none⟩)] .returning w fun e u' w' => u' = .returning ∧ ∃ v, e = .returned v ∧ w' = w := by
 refine K.startP hmix EP.r (args := [_]) (Nat.le_of_ble_eq_true rfl) ?_; dsimp only [DP.r]; refine Yy ?_
 dsimp only [recV]
 refine Sg ?_
 refine K.neNil0 (by kernel_rfl) ?_
 (repeat' first
 | assumption
 | exact Ext.refl _
 | refine Ext.trans ?_ (by assumption)
 | refine K.wrap (by omega) ?_
 | refine K.ldb (by assumption) ?_ rfl ?_
 | refine K.ldb0 (by assumption) ?_ rfl ?_
 | refine K.ldE (by assumption) ?_ (by omega) rfl ?_
 | refine K.ldE0 (by assumption) ?_ (by omega) rfl ?_
 | refine K.ldAE (by assumption) ?_ (by omega) rfl ?_
 | refine K.iaC (by omega) ?_
 | refine K.condT (by first | assumption | omega) ?_
 | refine K.condF (by first | assumption | omega) ?_
 | refine K.condbT (by assumption) ?_
 | refine K.condbF (by assumption) ?_
 | simp -dsimp only [LL,B9,Nat.reduceAdd,Nat.reduceEqDiff,reduceIte,reduceCtorEq,fE])
theorem check1_caught (f : Abs.Fault) (b : Nat) (w : World) (hb : w.heap[b]? = some (.cells #[.int .i64 0, .int .i64 0, .int .i64 0, .int .i64 0] T.s)) :
  CallsD Tryz.prog F.r #[.pointer (some ⟨b, 0, none⟩)] (.panicking (thrown f)) w fun e u' w' => u' = (recV (.panicking (thrown f))).2 ∧ ∃ v, e = .returned v ∧
   (w'.heap[b]? = some (.cells #[.int .i64 f.why, .int .i64 f.part, .int .i64 f.item, .int .i64 f.sub] T.s) ∧ ∀ w0, Ext w0 w → w0.heap.size ≤ b → Ext w0 w') := by
 refine K.startP hmix EP.r (args := [_]) (Nat.le_of_ble_eq_true rfl) ?_; dsimp only [DP.r]; refine Yy ?_
 dsimp only [recV, thrown]
 refine Sg ?_
 refine K.neNil1 (by kernel_rfl) ?_
 refine Sg ?_
 refine K.asrt rfl (by kernel_rfl) ?_
 refine Sg ?_
 intro w1 b1 hb1 he1 hc1
 have zb := lH hb
 replace hb := he1.obj hb
 refine Sg ?_
 intro w2 hw2 hc2
 refine Sg ?_
 exact ⟨hc2, fun w0 e hl => hw2.ext (e.trans he1) hl⟩
theorem mcheck_r (cs : List Value) (m : Abs.Model) (w : World) (h : Abs.MI w cs m) (hg : m.good) (ho : OwnIs w) :
  Ret Tryz.prog F.ah #[.agg cs.toArray] w fun v w' => v = .agg #[.int .i64 (Abs.check m).why, .int .i64 (Abs.check m).part, .int .i64 (Abs.check m).item, .int .i64 (Abs.check m).sub] ∧ Ext w w' := by
 obtain ⟨o0, c0, o1, c1, o2, c2, o3, c3, o4, c4, rfl, _⟩ := h.form
 refine K.startD hmix ED.ah (args := [_]) (Nat.le_of_ble_eq_true rfl) ?_; dsimp only [DD.ah]; refine Yy ?_
 refine Sg ?_
 intro w1 b1 hb1 he1 hc1
 refine Sg ?_
 intro w2 b2 hb2 he2 hc2
 replace hc1 := he2.obj hc1
 have z1 := lH hc1
 have z5 := lH hc2
 refine Sg ?_
 refine K.defer (by kernel_rfl) ?_
 refine Sg ?_
 refine K.newM fun w3 bt hbt he3 hm3 => ?_
 replace hc1 := he3.obj hc1
 replace hc2 := he3.obj hc2
 have z2 := lH hc2
 have z3 := he2.size
 have z4 := he1.size
 have e3 := (he1.trans he2).trans he3
 have caught : ∀ (f : Abs.Fault) (w' : World) (S : Fr), Ext w w' → w'.heap[b2]? = some (.cells #[.int .i64 0, .int .i64 0, .int .i64 0, .int .i64 0] T.s) → S 2 = .pointer (some ⟨b2, 0, none⟩) → f = Abs.check m →
   endQD Tryz.prog [.cellA 4 2] F.r #[.pointer (some ⟨b2, 0, none⟩)] (fun v w' => v = .agg #[.int .i64 (Abs.check m).why, .int .i64 (Abs.check m).part, .int .i64 (Abs.check m).item, .int .i64 (Abs.check m).sub] ∧ Ext w w') (.pan (thrown f)) S w' := by
  rintro f w' S e hc hS rfl
  refine K.dpan (LeaveD.of (check1_caught (Abs.check m) b2 w' hc) rfl ?_)
  rintro w4 ⟨hb, he⟩
  simp -dsimp only [LL,B9,Nat.reduceAdd,Nat.reduceEqDiff,reduceIte,reduceCtorEq,fE,hS]
  refine K.ldAb hb (Ext.refl _) rfl ?_
  simp -dsimp only [LL,B9,Nat.reduceAdd,Nat.reduceEqDiff,reduceIte,reduceCtorEq,fE]
  exact ⟨Tr, he _ e (by omega)⟩
 refine Sg ?_
 refine K.thr (globals_r _ m bt w3 h e3 (by omega) ho (SetAt.empty hm3)) ?_ ?_
 rotate_left
 ·rintro c w4 ⟨h1, rfl, e4, m4⟩
  refine Sg ?_
  exact caught _ w4 _ e4 (m4.obj (by omega) hc2) rfl (by rw [Abs.check, if_pos h1])
 rintro _ w4 ⟨h1, e4, m4, s4⟩
 replace hc1 := m4.obj (by omega) hc1
 replace hc2 := m4.obj (by omega) hc2
 refine Sg ?_
 refine K.thr (processes_r _ m bt w4 h hg e4 (by omega) ho h1 s4) ?_ ?_
 rotate_left
 ·rintro c w5 ⟨h2, rfl, e5, m5⟩
  refine Sg ?_
  exact caught _ w5 _ e5 (m5.obj (by omega) hc2) rfl (by rw [Abs.check, if_neg (by simpa using h1), if_pos h2])
 rintro _ w5 ⟨h2, e5, m5, s5⟩
 replace hc1 := m5.obj (by omega) hc1
 replace hc2 := m5.obj (by omega) hc2
 refine Sg ?_
 refine K.thr (propositions_r _ m bt w5 h hg e5 (by omega) ho s5) ?_ ?_
 rotate_left
 ·rintro c w6 ⟨h3, rfl, e6, m6⟩
  refine Sg ?_
  exact caught _ w6 _ e6 (m6.obj (by omega) hc2) rfl (by rw [Abs.check, if_neg (by simpa using h1), if_neg (by simpa using h2)])
 rintro _ w6 ⟨h3, e6, m6⟩
 replace hc1 := m6.obj (by omega) hc1
 replace hc2 := m6.obj (by omega) hc2
 have hck : Abs.check m = Abs.fine := by rw [Abs.check, if_neg (by simpa using h1), if_neg (by simpa using h2), Abs.props_fine h3]
 refine Sg ?_
 intro w7 hw7 hc7
 refine Sg ?_
 refine K.dret (LeaveD.of (check1_idle b2 w7) rfl ?_)
 rintro _ rfl
 refine Sg ?_
 exact ⟨by rw [hck]; rfl, hw7.ext e6 (by omega)⟩
end Go.Proofs.R
end
section
namespace Abs
open Go
def Bd.enc (b : Bd) : List Value := [.int .i64 b.lo, .int .i64 b.hi, .int .i64 b.kind]
def Cell.slot (x : Cell) : List Value := [.int .i64 x.sort, .int .i64 x.which, .int .i64 x.place, .int .i64 x.kind]
def Cell.enc (x : Cell) : List Value := [.int .i64 x.sort, .int .i64 x.which, .int .i64 x.place, .int .i64 x.lo, .int .i64 x.hi, .int .i64 x.kind]
theorem bd_one : ∀ (y : Bd), ∀ u ∈ y.enc, u.oneCell' = true := by intro y u hu; simp [Bd.enc] at hu; rcases hu with rfl | rfl | rfl <;> rfl
theorem slot_one : ∀ (y : Cell), ∀ u ∈ y.slot, u.oneCell' = true := by intro y u hu; simp [Cell.slot] at hu; rcases hu with rfl | rfl | rfl | rfl <;> rfl
theorem cell_one : ∀ (y : Cell), ∀ u ∈ y.enc, u.oneCell' = true := by intro y u hu; simp [Cell.enc] at hu; rcases hu with rfl | rfl | rfl | rfl | rfl | rfl <;> rfl
end Abs
namespace Go.Proofs.R
open Go Go.RowKit Lite
theorem lkind_r (k : Int) (w : World) (h : Abs.inI (k + 1)) : Ret Tryz.prog F.dx #[.int .i64 k] w fun v w' => v = .int .i64 (Abs.kindOf k) ∧ w' = w := by
 unfold Abs.inI at h
 refine Ks E.dx ?_; dsimp only [C.dx]; refine Yy ?_
 unfold Abs.kindOf
 refine Sg ?_
 apply K.cond <;> intro g1
 ·refine Sg ?_
  exact ⟨by rw [if_pos g1], Tr⟩
 ·refine Sg ?_
  exact ⟨by rw [if_neg g1], Tr⟩
theorem refKindS_r (k : Int) (w : World) (h : Abs.inI (k + 1)) : Ret Tryz.prog F.lr17_kind #[.int .i64 k] w fun v w' => v = .int .i64 (Abs.kindOf k) ∧ w' = w := by
 unfold Abs.inI at h
 refine Ks E.lr17_kind ?_; dsimp only [C.lr17_kind]; refine Yy ?_
 unfold Abs.kindOf
 refine Sg ?_
 apply K.cond <;> intro g1
 ·refine Sg ?_
  exact ⟨by rw [if_pos g1], Tr⟩
 ·refine Sg ?_
  exact ⟨by rw [if_neg g1, Int.add_comm], Tr⟩
theorem lof_r (x : Abs.Var) (v : Value) (l : List Abs.Scalar) (w : World) (hl : Abs.Scalars w v l) (h : Abs.inI (x.scalar + 1)) :
  Ret Tryz.prog F.ao #[.agg x.enc.toArray, v] w fun v w' => v = .agg (Abs.bdOf x.scalar x.lo x.hi l).enc.toArray ∧ Ext w w' := by
 obtain ⟨o, c, rfl, _⟩ := hl.form
 rw [Abs.bdOf_eq]
 refine Ks E.ao ?_; dsimp only [C.ao]; refine Yy ?_
 refine Sg ?_
 intro w1 b1 hb1 he1 hc1
 refine Sg ?_
 intro w2 b2 hb2 he2 hc2
 replace hc1 := he2.obj hc1
 have z1 := lH hc1
 have z2 := lH hc2
 have e2 := he1.trans he2
 refine Sg ?_
 refine K.call (bounds_r x _ l w2 (hl.ext e2)) ?_
 rintro _ w3 ⟨rfl, he3⟩
 replace hc1 := he3.obj hc1
 replace hc2 := he3.obj hc2
 have e3 := e2.trans he3
 refine Sg ?_
 refine K.call (lkind_r x.scalar w3 h) ?_
 rintro _ wA ⟨rfl, rfl⟩
 refine Sg ?_
 intro w4 hw4 hc4
 refine Sg ?_
 exact ⟨Tr, hw4.ext e3 (by have := he1.size; omega)⟩
theorem may_r (cs : List Value) (m : Abs.Model) (w : World) (h : Abs.MI w cs m) (hg : m.good) (ho : OwnIs w) :
  Ret Tryz.prog F.c5 #[.agg cs.toArray] w fun v w' => v = .bool (decide ((Abs.check m).why = 0)) ∧ Ext w w' := by
 obtain ⟨o0, c0, o1, c1, o2, c2, o3, c3, o4, c4, rfl, _⟩ := h.form
 refine Ks E.c5 ?_; dsimp only [C.c5]; refine Yy ?_
 refine Sg ?_
 intro w1 b1 hb1 he1 hc1
 refine Sg ?_
 refine K.call (mcheck_r _ m w1 (h.ext he1) hg (ho.ext he1)) ?_
 rintro _ w2 ⟨rfl, he2⟩
 refine Sg ?_
 refine K.fld (v := .int .i64 (Abs.check m).why) rfl ?_
 refine Sg ?_
 exact ⟨Tr, he1.trans he2⟩
theorem good_r (cs : List Value) (m : Abs.Model) (w : World) (h : Abs.MI w cs m) (hg : m.good) :
  Ret Tryz.prog F.lr17_good #[.agg cs.toArray] w fun v w' => v = .bool (decide ((Abs.check m).why = 0)) ∧ Ext w w' := by
 obtain ⟨o0, c0, o1, c1, o2, c2, o3, c3, o4, c4, rfl, _⟩ := h.form
 refine Ks E.lr17_good ?_; dsimp only [C.lr17_good]; refine Yy ?_
 refine Sg ?_
 intro w1 b1 hb1 he1 hc1
 refine Sg ?_
 refine K.call (refCheck_r _ m w1 (h.ext he1) hg) ?_
 rintro _ w2 ⟨rfl, he2⟩
 unfold faultV
 refine Sg ?_
 refine K.fld (v := .int .i64 (Abs.check m).why) rfl ?_
 refine Sg ?_
 exact ⟨Tr, he1.trans he2⟩
end Go.Proofs.R
end
section
namespace Lite
open Go Go.RowKit
theorem Rws.congr {α : Type} {enc : α → List Value} {e : TypeId} {sz base n : Nat} {w : World} {vs vs' : Nat → Option Addr × Nat × Nat} {xs xs' : Nat → List α} (h : Rws enc e sz base w n vs xs) (hv : ∀ i, i < n → vs i = vs' i) (hx : ∀ i, i < n → xs i = xs' i) : Rws enc e sz base w n vs' xs' :=
 ⟨fun i hi => by rw [← hv i hi, ← hx i hi]; exact h.own i hi, fun i j k hi hj hne he => by rw [← hv j hj]; rw [← hv i hi] at he; exact h.apart i j k hi hj hne he⟩
theorem fill1 {S : Fr} {t : Nat} {n : Int} (h : S t = .int .i64 n) : fillC S ((List.range 1).map fun i => (i * 1, 1)) [(0, .tmp t)] [.int .i64 0] = some [.int .i64 n] := by
 simp [fillC, lay, ev_tmp, h, Value.cells, List.range, List.range.loop]
structure Kt (ts : List TypeId) (w w' : World) : Prop where
 size : w.heap.size ≤ w'.heap.size
 blk : ∀ (k : Nat) (c : Array Value) (t : TypeId), w.heap[k]? = some (.cells c t) → t ∉ ts → w'.heap[k]? = some (.cells c t)
section
variable {ts : List TypeId} {a b w w' : World}
theorem Kt.refl : Kt ts w w := ⟨Nat.le_refl _, fun _ _ _ h _ => h⟩
theorem Kt.trans {c : World} (h : Kt ts a b) (k : Kt ts b c) : Kt ts a c := ⟨Nat.le_trans h.size k.size, fun i c t hc ht => k.blk i c t (h.blk i c t hc ht) ht⟩
theorem Kt.ext (h : Ext a b) : Kt ts a b := ⟨h.size, fun _ _ _ hc _ => h.obj hc⟩
theorem Kt.mod {A : Nat → Prop} (h : Mod A a b) (hA : ∀ (k : Nat) (c : Array Value) (t : TypeId), a.heap[k]? = some (.cells c t) → A k → t ∈ ts) : Kt ts a b := ⟨h.size, fun k c t hc ht => h.obj (fun hk => ht (hA k c t hc hk)) hc⟩
theorem Kt.wr {k : Nat} {c : Array Value} {t : TypeId} {f : Nat × Nat} (h : Wr k a b) (hc : a.heap[k]? = some (.cells c t f)) (ht : t ∈ ts) : Kt ts a b := Kt.mod (h.mod (A := fun i => i = k) rfl) fun i c' t' hc' e => by
 subst e; rw [hc] at hc'; injection hc' with hc'; injection hc' with _ e; exact e ▸ ht
theorem OwR.kt {α : Type} {enc : α → List Value} {e : TypeId} {sz base : Nat} {v : Value} {xs : List α} (h : OwR enc e sz base a v xs) (k : Kt ts a b) (he : e ∉ ts) : OwR enc e sz base b v xs := by
 refine ⟨h.1, ?_⟩
 rcases h.2 with hn | ⟨g, cap, cur, rfl, hb, hg, rest⟩
 ·exact .inl hn
 ·exact .inr ⟨g, cap, cur, rfl, hb, k.blk _ _ _ hg he, rest⟩
end
end Lite
namespace Abs
structure LS where
 V : List Int
 C : List Int
 I : List Int
 n : Nat
 L : List Int
 H : List Int
 Z : List Cell
def LS.of (V C I : List Int) (cs : List Cell) : LS := ⟨V, C, I, cs.length, cs.map (·.lo), cs.map (·.hi), cs⟩
def LS.rows (s : LS) : Nat → List Int := fun i => if i = 0 then s.V else if i = 1 then s.C else if i = 2 then s.I else if i = 3 then s.L else s.H
end Abs
namespace Go.Proofs.R
open Go Go.RowKit Lite
def ltys : List TypeId := [T.a, T.r, T.i, T.z]
structure LSt (w1 : World) (bx bs : Nat) (s : Abs.LS) (W : World) : Prop where
 mod : Mod (fun k => k = bx ∨ k = bs) w1 W
 ex : ∃ (vs : Nat → SlP) (u : SlP), W.heap[bx]? = some (.cells #[slq (vs 0), slq (vs 1), slq (vs 2), .int .i64 s.n, slq (vs 3), slq (vs 4)] T.i) ∧ Rws encN T.a 1 w1.heap.size W 5 vs s.rows ∧
  W.heap[bs]? = some (.cells #[slq u] T.z) ∧ OwR Abs.Cell.slot T.r 4 w1.heap.size W (slq u) s.Z
theorem LSt.move {w1 : World} {bx bs : Nat} {s : Abs.LS} {W W' : World} {A : Nat → Prop} (h : LSt w1 bx bs s W) (m : Mod A W W') (hA : ∀ (k : Nat) (c : Array Value) (t : TypeId), W.heap[k]? = some (.cells c t) → t ∈ ltys → ¬ A k) (hlo : ∀ k, A k → w1.heap.size ≤ k) : LSt w1 bx bs s W' := by
 obtain ⟨vs, u, h1, h2, h3, h4⟩ := h.ex
 refine ⟨h.mod.comp m (fun _ _ a => a) fun k hk a => absurd (hlo k a) (by omega), vs, u, m.obj (hA _ _ _ h1 (by decide)) h1, h2.mod m fun i k hi hk => ?_, m.obj (hA _ _ _ h3 (by decide)) h3, h4.mod m fun k hk => ?_⟩
 ·obtain ⟨cur, hc⟩ := (h2.own i hi).blk k hk
  exact hA _ _ _ hc (by decide)
 ·obtain ⟨cur, hc⟩ := h4.blk k hk
  exact hA _ _ _ hc (by decide)
theorem LSt.ext {w1 : World} {bx bs : Nat} {s : Abs.LS} {W W' : World} (h : LSt w1 bx bs s W) (e : Ext W W') : LSt w1 bx bs s W' := h.move (A := fun _ => False) e.mod (fun _ _ _ _ _ h => h) fun _ h => h.elim
structure TwoA (w1 : World) (s : Abs.LS) (x : Abs.Bd) (S0 : Fr) (w0 : World) (vs : Nat → SlP) (a33 : Addr) (d25 d26 d31 d32 d33 : Bool) (S : Fr) (w : World) : Prop where
 fr : ∀ t, t ∉ [25, 26, 31, 32, 33, 34] → S t = S0 t
 mod : Mod (fun k => (slq (vs 3)).ownBlock = some k ∨ (slq (vs 4)).ownBlock = some k) w0 w
 rows : ∃ v3 v4, Rws encN T.a 1 w1.heap.size w 5 (putN (putN vs 3 v3) 4 v4) (putN (putN s.rows 3 (if d26 then s.L ++ [x.lo] else s.L)) 4 (if d32 then s.H ++ [x.hi] else s.H)) ∧ (d26 = false → v3 = vs 3) ∧ (d32 = false → v4 = vs 4) ∧
  (d26 = true → S 26 = slq v3) ∧ (d32 = true → S 32 = slq v4)
 r25 : d25 = true → d26 = false → ∃ b, S 25 = .slice (some ⟨b, 0, none⟩) 1 1 ∧ w0.heap.size ≤ b ∧ w.heap[b]? = some (.cells #[.int .i64 x.lo] T.a)
 r31 : d31 = true → d32 = false → ∃ b, S 31 = .slice (some ⟨b, 0, none⟩) 1 1 ∧ w0.heap.size ≤ b ∧ w.heap[b]? = some (.cells #[.int .i64 x.hi] T.a)
 r33 : d33 = true → S 33 = .pointer (some a33)
section
variable {w1 w0 w : World} {s : Abs.LS} {x : Abs.Bd} {S0 S : Fr} {vs : Nat → SlP} {a33 : Addr} {d25 d26 d31 d32 d33 : Bool} {K : Value → World → Prop}
theorem TwoA.new25 (h : TwoA w1 s x S0 w0 vs a33 false false d31 d32 d33 S w) (h24 : S0 24 = .int .i64 x.lo) (hk : ∀ v w', TwoA w1 s x S0 w0 vs a33 true false d31 d32 d33 (put S (some 25) v) w' → K v w') :
  EVC Tryz.prog (.bldS T.a 1 1 [.int .i64 0] [(0, .tmp 24)]) S w K := by
 have he : Ext w (w.alloc (.cells #[.int .i64 x.lo] T.a)) := (Ext.refl w).alloc _
 refine bldS_ok (fill1 (by rw [h.fr 24 (by decide), h24])) (hk _ _ ⟨fun t ht => ?_, h.mod.trans he.mod, ?_, fun _ _ => ⟨_, by simp [pS, uA], h.mod.size, heap_alloc_new w _⟩, fun a b => ?_, fun a => by rw [pS, uA, if_neg (by decide)]; exact h.r33 a⟩)
 ·rw [pS, uA, if_neg (by intro e; subst e; simp at ht)]; exact h.fr t ht
 ·obtain ⟨v3, v4, h1, h2, h3, h4, h5⟩ := h.rows
  exact ⟨v3, v4, h1.ext he, h2, h3, fun e => (by cases e), fun e => by rw [pS, uA, if_neg (by decide)]; exact h5 e⟩
 ·obtain ⟨b, h1, h2, h3⟩ := h.r31 a b
  exact ⟨b, by rw [pS, uA, if_neg (by decide)]; exact h1, h2, he.obj h3⟩
theorem TwoA.new31 (h : TwoA w1 s x S0 w0 vs a33 d25 d26 false false d33 S w) (h30 : S0 30 = .int .i64 x.hi) (hk : ∀ v w', TwoA w1 s x S0 w0 vs a33 d25 d26 true false d33 (put S (some 31) v) w' → K v w') :
  EVC Tryz.prog (.bldS T.a 1 1 [.int .i64 0] [(0, .tmp 30)]) S w K := by
 have he : Ext w (w.alloc (.cells #[.int .i64 x.hi] T.a)) := (Ext.refl w).alloc _
 refine bldS_ok (fill1 (by rw [h.fr 30 (by decide), h30])) (hk _ _ ⟨fun t ht => ?_, h.mod.trans he.mod, ?_, fun a b => ?_, fun _ _ => ⟨_, by simp [pS, uA], h.mod.size, heap_alloc_new w _⟩, fun a => by rw [pS, uA, if_neg (by decide)]; exact h.r33 a⟩)
 ·rw [pS, uA, if_neg (by intro e; subst e; simp at ht)]; exact h.fr t ht
 ·obtain ⟨v3, v4, h1, h2, h3, h4, h5⟩ := h.rows
  exact ⟨v3, v4, h1.ext he, h2, h3, fun e => by rw [pS, uA, if_neg (by decide)]; exact h4 e, fun e => by cases e⟩
 ·obtain ⟨b, h1, h2, h3⟩ := h.r25 a b
  exact ⟨b, by rw [pS, uA, if_neg (by decide)]; exact h1, h2, he.obj h3⟩
theorem TwoA.app26 (h : TwoA w1 s x S0 w0 vs a33 true false d31 d32 d33 S w) (h22 : S0 22 = slq (vs 3)) (hlt : ∀ i k, i < 5 → (slq (vs i)).ownBlock = some k → k < w0.heap.size) (hb : w1.heap.size ≤ w0.heap.size) (hm : s.L.length ≤ 100000)
  (hk : ∀ v w', TwoA w1 s x S0 w0 vs a33 true true d31 d32 d33 (put S (some 26) v) w' → K v w') :
  EVC Tryz.prog (.app T.c T.a 1 8 (.tmp 22) (.tmp 25)) S w K := by
 obtain ⟨b, e1, e2, e3⟩ := h.r25 rfl rfl
 obtain ⟨v3, v4, h1, h2, h3, h4, h5⟩ := h.rows
 obtain rfl := h2 rfl
 show AppVC Tryz.prog T.c T.a 1 8 (S 22) (S 25) w K
 rw [h.fr 22 (by decide), h22, e1]
 have hmod := h.mod.size
 refine Rws.app (vs := putN (putN vs 3 (vs 3)) 4 v4) (xs := putN (putN s.rows 3 (if false = true then s.L ++ [x.lo] else s.L)) 4 (if d32 = true then s.H ++ [x.hi] else s.H)) (y := x.lo) 3 (by decide) h1 (fun _ => rfl) (cB e3) encN_one (by simp [putN]; omega) (by simp [putN]; unfold maxLen; omega) (by omega) fun v' w' ho hg _ => ?_
 have hM : Mod (fun k => (slq (vs 3)).ownBlock = some k) w w' := Mod.grown hg fun k hk => hk
 refine hk _ _ ⟨fun t ht => ?_, h.mod.trans (hM.weak fun k hk => .inl hk), ?_, fun _ e => (by cases e), fun a b => ?_, fun a => by rw [pS, uA, if_neg (by decide)]; exact h.r33 a⟩
 ·rw [pS, uA, if_neg (by intro e; subst e; simp at ht)]; exact h.fr t ht
 ·refine ⟨v', v4, ho.congr (fun i hi => ?_) (fun i hi => ?_), fun e => (by cases e), h3, fun _ => by simp [pS, uA], fun e => by rw [pS, uA, if_neg (by decide)]; exact h5 e⟩
  ·unfold putN
   by_cases a : i = 3
   ·subst a; simp
   ·simp [a]
  ·unfold putN
   by_cases a : i = 3
   ·subst a; simp
   ·simp [a]
 ·obtain ⟨b', h1, h2, h3⟩ := h.r31 a b
  exact ⟨b', by rw [pS, uA, if_neg (by decide)]; exact h1, h2, hM.obj (fun e => by have := hlt 3 b' (by decide) e; omega) h3⟩
theorem TwoA.app32 (h : TwoA w1 s x S0 w0 vs a33 true true true false d33 S w) (h28 : S0 28 = slq (vs 4)) (hb : w1.heap.size ≤ w0.heap.size) (hm : s.H.length ≤ 100000)
  (hk : ∀ v w', TwoA w1 s x S0 w0 vs a33 true true true true d33 (put S (some 32) v) w' → K v w') :
  EVC Tryz.prog (.app T.c T.a 1 8 (.tmp 28) (.tmp 31)) S w K := by
 obtain ⟨b, e1, e2, e3⟩ := h.r31 rfl rfl
 obtain ⟨v3, v4, h1, h2, h3, h4, h5⟩ := h.rows
 obtain rfl := h3 rfl
 show AppVC Tryz.prog T.c T.a 1 8 (S 28) (S 31) w K
 rw [h.fr 28 (by decide), h28, e1]
 have hmod := h.mod.size
 refine Rws.app (vs := putN (putN vs 3 v3) 4 (vs 4)) (xs := putN (putN s.rows 3 (if true = true then s.L ++ [x.lo] else s.L)) 4 (if false = true then s.H ++ [x.hi] else s.H)) (y := x.hi) 4 (by decide) h1 (fun _ => rfl) (cB e3) encN_one (by simp [putN]; omega) (by simp [putN]; unfold maxLen; omega) (by omega) fun v' w' ho hg _ => ?_
 have hM : Mod (fun k => (slq (vs 4)).ownBlock = some k) w w' := Mod.grown hg fun k hk => hk
 refine hk _ _ ⟨fun t ht => ?_, h.mod.trans (hM.weak fun k hk => .inr hk), ?_, fun _ e => (by cases e), fun _ e => (by cases e), fun a => by rw [pS, uA, if_neg (by decide)]; exact h.r33 a⟩
 ·rw [pS, uA, if_neg (by intro e; subst e; simp at ht)]; exact h.fr t ht
 ·refine ⟨v3, v', ho.congr (fun i hi => ?_) (fun i hi => ?_), fun e => (by cases e), fun e => (by cases e), fun e => by rw [pS, uA, if_neg (by decide)]; exact h4 e, fun _ => by simp [pS, uA]⟩
  ·unfold putN
   by_cases a : i = 4
   ·subst a; simp
   ·simp [a]
  ·unfold putN
   by_cases a : i = 4
   ·subst a; simp
   ·simp [a]
theorem TwoA.take33 (h : TwoA w1 s x S0 w0 vs a33 d25 d26 d31 d32 d33 S w) : TwoA w1 s x S0 w0 vs a33 d25 d26 d31 d32 true (upd S 33 (.pointer (some a33))) w := by
 have q : ∀ t, t ≠ 33 → upd S 33 (.pointer (some a33)) t = S t := fun t ht => by rw [uA, if_neg ht]
 refine ⟨fun t ht => ?_, h.mod, ?_, fun a b => ?_, fun a b => ?_, fun _ => by simp [uA]⟩
 ·rw [q t (by intro e; subst e; simp at ht)]; exact h.fr t ht
 ·obtain ⟨v3, v4, h1, h2, h3, h4, h5⟩ := h.rows
  exact ⟨v3, v4, h1, h2, h3, fun e => by rw [q _ (by decide)]; exact h4 e, fun e => by rw [q _ (by decide)]; exact h5 e⟩
 ·obtain ⟨b', h1, h2⟩ := h.r25 a b
  exact ⟨b', by rw [q _ (by decide)]; exact h1, h2⟩
 ·obtain ⟨b', h1, h2⟩ := h.r31 a b
  exact ⟨b', by rw [q _ (by decide)]; exact h1, h2⟩
end
end Go.Proofs.R
end
section
namespace Go.Proofs.R
open Go Go.RowKit Lite
def Hd (b : Nat) (w w' : World) : Prop := ∀ j, j < 3 → w'.cell? (Addr.add ⟨b, 0, none⟩ j) = w.cell? (Addr.add ⟨b, 0, none⟩ j)
theorem Hd.refl {b : Nat} {w : World} : Hd b w w := fun _ _ => rfl
theorem Hd.trans {b : Nat} {w w' w'' : World} (h : Hd b w w') (k : Hd b w' w'') : Hd b w w'' := fun j hj => (k j hj).trans (h j hj)
theorem Hd.of {b : Nat} {w w' : World} {c0 c1 c2 : Value} {l l' : List Value} {t t' : TypeId} {f f' : Nat × Nat} (h : w.heap[b]? = some (.cells (c0 :: c1 :: c2 :: l).toArray t f)) (h' : w'.heap[b]? = some (.cells (c0 :: c1 :: c2 :: l').toArray t' f')) : Hd b w w' := fun j hj => by
 have : j = 0 ∨ j = 1 ∨ j = 2 := by omega
 rcases this with rfl | rfl | rfl
 ·rw [kB h (v := c0) rfl, kB h' (v := c0) rfl]
 ·rw [kB h (v := c1) rfl, kB h' (v := c1) rfl]
 ·rw [kB h (v := c2) rfl, kB h' (v := c2) rfl]
theorem Hd.ext {b : Nat} {w w' : World} (he : Ext w w') (h : b < w.heap.size) : Hd b w w' := fun j _ => by
 rw [add_eq]; simp only [World.cell?, he.heap h]
def addT : Sch := (.take (ya 21 4 3)
 (.take (yl 22 21)
 (.take (ya 23 0 11)
 (.take (yl 24 23)
 (.take (ya 27 5 3)
 (.take (yl 28 27)
 (.take (ya 29 1 11)
 (.take (yl 30 29)
 (.alt (ye 25 (.bldS T.a 1 1 [(.int .i64 0)] [(0, (yt 24))]))
 (.alt (ye 26 (.app T.c T.a 1 8 (yt 22) (yt 25)))
 (.take (ya 33 4 3)
 (.alt (ye 31 (.bldS T.a 1 1 [(.int .i64 0)] [(0, (yt 30))]))
 (.fre (ye 32 (.app T.c T.a 1 8 (yt 28) (yt 31)))
 (.fre (ys 33 26)
 (.take (ya 34 5 3)
 (.fre (ys 34 32)
 .done
 .nil))
 .nil)
 .nil)
 .nil))
 (.alt (ye 31 (.bldS T.a 1 1 [(.int .i64 0)] [(0, (yt 30))]))
 (.alt (ye 26 (.app T.c T.a 1 8 (yt 22) (yt 25)))
 (.take (ya 33 4 3)
 (.fre (ye 32 (.app T.c T.a 1 8 (yt 28) (yt 31)))
 (.fre (ys 33 26)
 (.take (ya 34 5 3)
 (.fre (ys 34 32)
 .done
 .nil))
 .nil)
 .nil))
 .nil)
 .nil))
 (.alt (ye 31 (.bldS T.a 1 1 [(.int .i64 0)] [(0, (yt 30))]))
 (.alt (ye 25 (.bldS T.a 1 1 [(.int .i64 0)] [(0, (yt 24))]))
 (.alt (ye 26 (.app T.c T.a 1 8 (yt 22) (yt 25)))
 (.take (ya 33 4 3)
 (.fre (ye 32 (.app T.c T.a 1 8 (yt 28) (yt 31)))
 (.fre (ys 33 26)
 (.take (ya 34 5 3)
 (.fre (ys 34 32)
 .done
 .nil))
 .nil)
 .nil))
 .nil)
 .nil)
 .nil))))))))))
theorem slot_of {S : Fr} {n m : Nat} {v u : Value} (h : S m = u) (hn : m ≠ n) : upd S n v m = u := by rw [uA, if_neg hn]; exact h
theorem add_reg {w1 w : World} {bx bs b3 : Nat} {s : Abs.LS} {x : Abs.Bd} {S : Fr} {KK : Fr → World → Prop} (hne : bx ≠ bs) (hlo : bx < w1.heap.size ∧ bs < w1.heap.size) (hs : LSt w1 bx bs s w) (h3 : S 3 = .pointer (some ⟨bx, 0, none⟩)) (h11 : S 11 = .pointer (some ⟨b3, 0, none⟩))
  (hc : w.heap[b3]? = some (.cells x.enc.toArray T.j)) (hm : s.L.length ≤ 100000) (hm' : s.H.length ≤ 100000)
  (hk : ∀ S' w', LSt w1 bx bs ⟨s.V, s.C, s.I, s.n, s.L ++ [x.lo], s.H ++ [x.hi], s.Z⟩ w' → Kt ltys w w' → Hd bx w w' → KK S' w') : ∃ C : World → Prop, C w ∧ svcC Tryz.prog C addT S w KK := by
 obtain ⟨vs, u, g1, g2, g3, g4⟩ := hs.ex
 have nx := g2.not g1 (by decide)
 have n3 := g2.not hc (by decide)
 refine ⟨Mod (fun k => (slq (vs 3)).ownBlock = some k ∨ (slq (vs 4)).ownBlock = some k) w, Mod.refl _ _, ?_⟩
 have rx : ∀ w', Mod (fun k => (slq (vs 3)).ownBlock = some k ∨ (slq (vs 4)).ownBlock = some k) w w' → w'.heap[bx]? = some (.cells #[slq (vs 0), slq (vs 1), slq (vs 2), .int .i64 s.n, slq (vs 3), slq (vs 4)] T.i) :=
  fun w' m => m.obj (fun h => h.elim (nx 3 (by decide)) (nx 4 (by decide))) g1
 have r3 : ∀ w', Mod (fun k => (slq (vs 3)).ownBlock = some k ∨ (slq (vs 4)).ownBlock = some k) w w' → w'.heap[b3]? = some (.cells x.enc.toArray T.j) :=
  fun w' m => m.obj (fun h => h.elim (n3 3 (by decide)) (n3 4 (by decide))) hc
 have hsz : w1.heap.size ≤ w.heap.size := hs.mod.size
 unfold addT
 refine svcC.fa h3 ?_
 refine svcC.ld (v := slq (vs 3)) (by simp [uA]; rfl) (fun w' m => kB (rx w' m) rfl) ?_
 refine svcC.fa (a := ⟨b3, 0, none⟩) (by simp [uA, h11]) ?_
 refine svcC.ld (v := .int .i64 x.lo) (by simp [uA]; rfl) (fun w' m => kB (r3 w' m) rfl) ?_
 refine svcC.fa (a := ⟨bx, 0, none⟩) (by simp [uA, h3]) ?_
 refine svcC.ld (v := slq (vs 4)) (by simp [uA]; rfl) (fun w' m => kB (rx w' m) rfl) ?_
 refine svcC.fa (a := ⟨b3, 0, none⟩) (by simp [uA, h11]) ?_
 refine svcC.ld (v := .int .i64 x.hi) (by simp [uA]; rfl) (fun w' m => kB (r3 w' m) rfl) ?_
 generalize hS8 : upd _ 30 _ = S8
 have e3 : S8 3 = .pointer (some ⟨bx, 0, none⟩) := by subst hS8; simp [uA, h3]
 have e22 : S8 22 = slq (vs 3) := by subst hS8; simp [uA]
 have e24 : S8 24 = .int .i64 x.lo := by subst hS8; simp [uA]
 have e28 : S8 28 = slq (vs 4) := by subst hS8; simp [uA]
 have e30 : S8 30 = .int .i64 x.hi := by subst hS8; simp [uA]
 have p1 : ∀ i, vs i = putN (putN vs 3 (vs 3)) 4 (vs 4) i := fun i => by
  unfold putN
  by_cases a : i = 4
  ·subst a; simp
  ·by_cases b : i = 3
   ·subst b; simp
   ·simp [a, b]
 have p2 : ∀ i, s.rows i = putN (putN s.rows 3 (if false = true then s.L ++ [x.lo] else s.L)) 4 (if false = true then s.H ++ [x.hi] else s.H) i := fun i => by
  unfold putN
  by_cases a : i = 4
  ·subst a; simp [Abs.LS.rows]
  ·by_cases b : i = 3
   ·subst b; simp [Abs.LS.rows]
   ·simp [a, b]
 have t0 : TwoA w1 s x S8 w vs (Addr.add ⟨bx, 0, none⟩ 4) false false false false false S8 w :=
  ⟨fun _ _ => rfl, Mod.refl _ _, ⟨vs 3, vs 4, g2.congr (fun i hi => p1 i) (fun i hi => p2 i),
   fun _ => rfl, fun _ => rfl, fun e => (by cases e), fun e => (by cases e)⟩, fun e => (by cases e), fun e => (by cases e), fun e => (by cases e)⟩
 have hlt : ∀ i k, i < 5 → (slq (vs i)).ownBlock = some k → k < w.heap.size := fun i k hi he => (g2.lt i k hi he).2
 have fin : ∀ S w2, TwoA w1 s x S8 w vs (Addr.add ⟨bx, 0, none⟩ 4) true true true true true S w2 → svcC Tryz.prog (Mod (fun k => (slq (vs 3)).ownBlock = some k ∨ (slq (vs 4)).ownBlock = some k) w) (.fre (ys 33 26) (.take (ya 34 5 3) (.fre (ys 34 32) .done .nil)) .nil) S w2 KK := by
  intro S w2 t
  obtain ⟨v3, v4, q1, _, _, q4, q5⟩ := t.rows
  have hx := rx w2 t.mod
  refine svcC.fre1 ?_
  show StVC (S 33) (S 26) w2 _
  rw [t.r33 rfl, q4 rfl]
  refine stVC_of fun tk => K.st1 hx (by simp) rfl fun w3 hw3 hc3 => ?_
  show svcC _ _ _ S _ _
  refine svcC.fa (a := ⟨bx, 0, none⟩) (by rw [t.fr 3 (by decide), e3]) ?_
  refine svcC.fre1 ?_
  show StVC (upd S 34 _ 34) (upd S 34 _ 32) w3 _
  rw [show upd S 34 (.pointer (some (Addr.add ⟨bx, 0, none⟩ 5))) 34 = .pointer (some (Addr.add ⟨bx, 0, none⟩ 5)) from by simp [uA], slot_of (q5 rfl) (by decide)]
  refine stVC_of fun tk => K.st1 hc3 (by simp) rfl fun w4 hw4 hc4 => ?_
  have hw := hw3.trans hw4
  have n2 := q1.not hx (by decide)
  obtain ⟨us, hus⟩ : ∃ us, us = slq u := ⟨_, rfl⟩
  refine hk _ _ ⟨?_, putN (putN vs 3 v3) 4 v4, u, ?_, (q1.mod (hw.mod (A := fun k => k = bx) rfl) fun i k hi hk e => n2 i hi (by rw [← e]; exact hk)).congr (fun _ _ => rfl) (fun i hi => ?_), ?_, ?_⟩ ?_ ?_
  ·refine (hs.mod.comp t.mod (B := fun k => k = bx ∨ k = bs) (fun _ _ a => a) fun i hi a => ?_).trans (hw.mod (A := fun k => k = bx ∨ k = bs) (.inl rfl))
   rcases a with a | a
   ·have := (g2.lt 3 i (by decide) a).1; omega
   ·have := (g2.lt 4 i (by decide) a).1; omega
  ·exact hc4
  ·have : i = 0 ∨ i = 1 ∨ i = 2 ∨ i = 3 ∨ i = 4 := by omega
   rcases this with rfl | rfl | rfl | rfl | rfl <;> simp [putN, Abs.LS.rows]
  ·exact hw.obj (t.mod.obj (fun h => h.elim (g2.not g3 (by decide) 3 (by decide)) (g2.not g3 (by decide) 4 (by decide))) g3) (Ne.symm hne)
  ·refine (g4.mod t.mod fun k hk h => ?_).mod (hw.mod (A := fun k => k = bx) rfl) fun k hk e => ?_
   ·obtain ⟨cur, hcur⟩ := g4.blk k hk
    exact h.elim (g2.not hcur (by decide) 3 (by decide)) (g2.not hcur (by decide) 4 (by decide))
   ·obtain ⟨cur, hcur⟩ := g4.blk k hk
    subst e
    rw [g1] at hcur; injection hcur with hcur; injection hcur with _ e; exact absurd e (by decide)
  ·refine (Kt.mod t.mod fun k c t' hc a => ?_).trans (Kt.wr hw hx (by decide))
   rcases a with a | a
   ·obtain ⟨cur, hcur⟩ := (g2.own 3 (by decide)).blk k a
    rw [hc] at hcur; injection hcur with hcur; injection hcur with _ e; rw [e]; decide
   ·obtain ⟨cur, hcur⟩ := (g2.own 4 (by decide)).blk k a
    rw [hc] at hcur; injection hcur with hcur; injection hcur with _ e; rw [e]; decide
  ·exact Hd.of g1 hc4
 clear hk
 refine ⟨altC.e (t0.new25 e24 fun v2 w2 t2 => ⟨t2.mod, ?_, ?_, trivial⟩), altC.e (t0.new31 e30 fun v2 w2 t2 => ⟨t2.mod, ?_⟩), trivial⟩
 ·refine altC.e (t2.app26 e22 hlt hsz hm fun v3 w3 t3 => ⟨t3.mod, ?_⟩)
  refine svcC.fa (a := ⟨bx, 0, none⟩) (by rw [t3.fr 3 (by decide), e3]) ?_
  refine svcC.alt1 (altC.e (t3.take33.new31 e30 fun v4 w4 t4 => ⟨t4.mod, ?_⟩))
  exact svcC.fre1 (freS.e (t4.app32 e28 hsz hm' fun v5 w5 t5 => fin _ _ t5))
 ·refine altC.e (t2.new31 e30 fun v3 w3 t3 => ⟨t3.mod, ?_⟩)
  refine svcC.alt1 (altC.e (t3.app26 e22 hlt hsz hm fun v4 w4 t4 => ⟨t4.mod, ?_⟩))
  refine svcC.fa (a := ⟨bx, 0, none⟩) (by rw [t4.fr 3 (by decide), e3]) ?_
  exact svcC.fre1 (freS.e (t4.take33.app32 e28 hsz hm' fun v5 w5 t5 => fin _ _ t5))
 ·refine svcC.alt1 (altC.e (t2.new25 e24 fun v3 w3 t3 => ⟨t3.mod, ?_⟩))
  refine svcC.alt1 (altC.e (t3.app26 e22 hlt hsz hm fun v4 w4 t4 => ⟨t4.mod, ?_⟩))
  refine svcC.fa (a := ⟨bx, 0, none⟩) (by rw [t4.fr 3 (by decide), e3]) ?_
  exact svcC.fre1 (freS.e (t4.take33.app32 e28 hsz hm' fun v5 w5 t5 => fin _ _ t5))
end Go.Proofs.R
end
section
namespace Go.Proofs.R
open Go Go.RowKit Lite
section
variable {w1 : World} {bx bs : Nat} {s : Abs.LS} {W W' : World}
theorem slot_app {vs : Nat → SlP} {u : SlP} {W5 W6 W7 : World} {y : Abs.Cell} {v' : Value} (hne : bx ≠ bs) (hm : Mod (fun k => k = bx ∨ k = bs) w1 W) (g1 : W.heap[bx]? = some (.cells #[slq (vs 0), slq (vs 1), slq (vs 2), .int .i64 s.n, slq (vs 3), slq (vs 4)] T.i)) (g2 : Rws encN T.a 1 w1.heap.size W 5 vs s.rows)
  (g3 : W.heap[bs]? = some (.cells #[slq u] T.z)) (g4 : OwR Abs.Cell.slot T.r 4 w1.heap.size W (slq u) s.Z) (he : Ext W W5) (hg : W5.grownBy W6 (slq u).ownBlock) (ho : OwR Abs.Cell.slot T.r 4 w1.heap.size W6 v' (s.Z ++ [y]))
  (hw : Wr bs W6 W7) (hc : W7.heap[bs]? = some (.cells #[v'] T.z)) : LSt w1 bx bs ⟨s.V, s.C, s.I, s.n, s.L, s.H, s.Z ++ [y]⟩ W7 ∧ Kt ltys W W7 ∧ Hd bx W W7 := by
 obtain ⟨oa, cap, rfl, _⟩ := ho.form
 have mg : Mod (fun k => (slq u).ownBlock = some k) W5 W6 := Mod.grown hg fun k hk => hk
 have nb : ∀ {k : Nat} {c : Array Value} {t : TypeId}, W.heap[k]? = some (.cells c t) → t ≠ T.r → ¬ (slq u).ownBlock = some k := fun {k c t} hk ht e => by
  obtain ⟨cur, h⟩ := g4.blk k e
  rw [hk] at h; injection h with h; injection h with _ h; exact ht h
 have m6 : ∀ {k : Nat} {c : Array Value} {t : TypeId}, W.heap[k]? = some (.cells c t) → t ≠ T.r → W6.heap[k]? = some (.cells c t) := fun hk ht => mg.obj (nb hk ht) (he.obj hk)
 have mw : Mod (fun k => k = bs) W6 W7 := hw.mod rfl
 refine ⟨⟨?_, vs, (oa, _, cap), mw.obj hne (m6 g1 (by decide)), ?_, hc, ho.mod mw fun k hk e => ?_⟩, ?_, Hd.of g1 (mw.obj hne (m6 g1 (by decide)))⟩
 ·have h1 : Mod (fun k => k = bx ∨ k = bs) w1 W5 := hm.comp (A' := fun _ => False) he.mod (fun _ _ a => a) fun _ _ a => a.elim
  have h2 : Mod (fun k => k = bx ∨ k = bs) w1 W6 := h1.comp mg (fun _ _ a => a) fun i hi a => by have := (g4.lt i a).1; omega
  exact h2.trans (hw.mod (.inr rfl))
 ·refine ((g2.ext he).mod mg fun i k hi hk e => ?_).mod mw fun i k hi hk e => ?_
  ·obtain ⟨cur, h⟩ := (g2.own i hi).blk k hk
   exact nb h (by decide) e
  ·subst e
   obtain ⟨cur, h⟩ := (g2.own i hi).blk k hk
   rw [g3] at h; injection h with h; injection h with _ h; exact absurd h (by decide)
 ·subst e
  obtain ⟨cur, h⟩ := ho.blk k hk
  rw [m6 g3 (by decide)] at h; injection h with h; injection h with _ h; exact absurd h (by decide)
 ·refine ((Kt.ext he).trans (Kt.mod mg fun k c t hc a => ?_)).trans (Kt.wr hw (m6 g3 (by decide)) (by decide))
  obtain ⟨cur, h⟩ := (g4.ext he).blk k a
  rw [hc] at h; injection h with h; injection h with _ h; rw [h]; decide
theorem cnt_st {vs : Nat → SlP} {u : SlP} {n : Int} (hne : bx ≠ bs) (hm : Mod (fun k => k = bx ∨ k = bs) w1 W) (g1 : W.heap[bx]? = some (.cells #[slq (vs 0), slq (vs 1), slq (vs 2), .int .i64 s.n, slq (vs 3), slq (vs 4)] T.i)) (g2 : Rws encN T.a 1 w1.heap.size W 5 vs s.rows)
  (g3 : W.heap[bs]? = some (.cells #[slq u] T.z)) (g4 : OwR Abs.Cell.slot T.r 4 w1.heap.size W (slq u) s.Z) (hw : Wr bx W W') (hn : n = ((s.n + 1 : Nat) : Int))
  (hc : W'.heap[bx]? = some (.cells #[slq (vs 0), slq (vs 1), slq (vs 2), .int .i64 n, slq (vs 3), slq (vs 4)] T.i)) : LSt w1 bx bs ⟨s.V, s.C, s.I, s.n + 1, s.L, s.H, s.Z⟩ W' ∧ Kt ltys W W' ∧ Hd bx W W' := by
 subst hn
 have mw : Mod (fun k => k = bx) W W' := hw.mod rfl
 refine ⟨⟨hm.trans (hw.mod (.inl rfl)), vs, u, hc, g2.mod mw fun i k hi hk e => ?_, mw.obj (Ne.symm hne) g3, g4.mod mw fun k hk e => ?_⟩, Kt.wr hw g1 (by decide), Hd.of g1 hc⟩
 ·subst e; exact g2.not g1 (by decide) i hi hk
 ·subst e
  obtain ⟨cur, h⟩ := g4.blk k hk
  rw [g1] at h; injection h with h; injection h with _ h; exact absurd h (by decide)
end
theorem ladd_r (so wh : Int) (v : Value) (l : List Abs.Bd) (Vs Ch Is : List Int) (cs : List Abs.Cell) (base : Nat) (w1 : World) (bx bs : Nat) (w : World) (hne : bx ≠ bs) (hlo : bx < w1.heap.size ∧ bs < w1.heap.size) (hs : LSt w1 bx bs (Abs.LS.of Vs Ch Is cs) w) (hv : OwR Abs.Bd.enc T.j 3 base w v l)
  (hm : cs.length + l.length ≤ 100000) :
  Ret Tryz.prog F.an #[.int .i64 so, .int .i64 wh, v, .pointer (some ⟨bx, 0, none⟩), .pointer (some ⟨bs, 0, none⟩)] w fun v w' => v = .int .i64 cs.length ∧ LSt w1 bx bs (Abs.LS.of Vs Ch Is (cs ++ Abs.laidFrom so wh l 0)) w' ∧ Kt ltys w w' ∧ Hd bx w w' := by
 obtain ⟨oa, cap, rfl, _⟩ := hv.form
 obtain ⟨vs0, u0, g1, g2, g3, g4⟩ := hs.ex
 refine Ks E.an ?_; dsimp only [C.an]; refine Yy ?_
 refine Sg ?_
 refine K.forG 16 l.length [0, 1, 2, 3, 4, 9, 14, 15] (fun _ : Unit => []) () (fun k _ w' => LSt w1 bx bs (Abs.LS.of Vs Ch Is (cs ++ Abs.laidFrom so wh (l.take k) 0)) w' ∧ Kt ltys w w' ∧ Hd bx w w') hZq hZq ⟨by simpa [Abs.laidFrom] using hs, Kt.refl, Hd.refl⟩ ?_
 clear g1 g2 g3 g4 hs
 rintro k _ S w2 hk ⟨hs, kt2, hd2⟩
 have hsl : SlR 3 (Flat Abs.Bd.enc) w2 (.slice oa l.length cap) l := OwR.slF (enc := Abs.Bd.enc) (fun _ => rfl) (hv.kt kt2 (by decide))
 refine Sg ?_
 apply K.cond <;> intro g1
 ·have hk' : k < l.length := by omega
  obtain ⟨a, rfl⟩ := hsl.addr (by omega)
  have hZ : (Abs.laidFrom so wh (l.take k) 0).length = k := by rw [Abs.laidFrom_len, List.length_take]; omega
  have hone := Abs.bd_one l[k]
  refine Su ?_
  simp -dsimp only [B9]
  refine Su ?_
  simp -dsimp only [B9]
  refine Su ?_
  intro wn b3 hb3 hen hcn
  refine Su ?_
  intro w3 hw3 hc3
  have he3 := hw3.ext hen hb3
  have hs3 := hs.ext he3
  clear hw3 hen hcn
  refine Su ?_
  refine K.cutG [0, 1, 2, 3, 4, 9, 10, 11, 14, 15, 16] (fun _ : Unit => []) (fun _ w' => LSt w1 bx bs ⟨Vs, Ch, Is, (cs ++ Abs.laidFrom so wh (l.take k) 0).length, (cs ++ Abs.laidFrom so wh (l.take k) 0).map (·.lo) ++ [l[k].lo], (cs ++ Abs.laidFrom so wh (l.take k) 0).map (·.hi) ++ [l[k].hi], cs ++ Abs.laidFrom so wh (l.take k) 0⟩ w' ∧ Kt ltys w3 w' ∧ Hd bx w3 w') ?_ ?_
  ·refine Sg ?_
   intro w4 he4
   refine K.wide (add_reg hne hlo (hs3.ext he4) (by simp [uA]) (by simp [uA]) (he4.obj hc3) (by simp [Abs.LS.of, hZ]; omega) (by simp [Abs.LS.of, hZ]; omega) fun S' w' h k hd => ?_)
   refine Sg ?_
   exact ⟨(), trivial, h, (Kt.ext he4).trans k, (Hd.ext he4 (by have := hs3.mod.size; omega)).trans hd⟩
  have hd3 : Hd bx w2 w3 := Hd.ext he3 (by have := hs.mod.size; omega)
  clear hs3
  rintro _ S w4 ⟨hs4, kt4, hd4⟩
  obtain ⟨vs, ⟨u0, u1, u2⟩, g1, g2, g3, g4⟩ := hs4.ex
  have hc4 := kt4.blk _ _ _ hc3 (by decide)
  refine Sg ?_
  intro w5 b5 hb5 he5 hc5
  replace hc5 : w5.heap[b5]? = some (.cells (Abs.Cell.slot ⟨so, wh, k, l[k].lo, l[k].hi, l[k].kind⟩).toArray T.r) := hc5
  have ho5 := g4.ext he5
  have z1 := hs4.mod.size
  have z2 := he5.size
  have hl : (cs ++ Abs.laidFrom so wh (l.take k) 0).length = cs.length + k := by rw [List.length_append, hZ]
  refine K.app1 (y := ⟨so, wh, k, l[k].lo, l[k].hi, l[k].kind⟩) ho5 hc5 rfl (fun _ => rfl) Abs.slot_one (by simp only [hl]; omega) (by unfold maxLen; simp only [hl]; omega) (by omega) fun oa n c w6 ho6 hg6 => ?_
  have hb6 := ho5.box hg6 (he5.obj g3) (by decide)
  refine Sg ?_
  intro w7 hw7 hc7
  obtain ⟨hs7, kt7, hd7⟩ := slot_app hne hs4.mod g1 g2 g3 g4 he5 hg6 ho6 hw7 hc7
  dsimp only at hs7
  obtain ⟨vs', u', q1, q2, q3, q4⟩ := hs7.ex
  clear g1 g2 g3 g4 hs4 ho5 ho6 hg6 hb6 hc7 hc5
  have q1' := q1
  dsimp only [slq] at q1
  refine Sg ?_
  intro w8 hw8 hc8
  obtain ⟨hs8, kt8, hd8⟩ := cnt_st hne hs7.mod q1' q2 q3 q4 hw8 (by dsimp only; omega) hc8
  refine Sg ?_
  refine ⟨hk', Tr, (), trivial, ?_, ((((kt2.trans (Kt.ext he3)).trans kt4).trans kt7).trans kt8), ((((hd2.trans hd3).trans hd4).trans hd7).trans hd8)⟩
  rw [Abs.laidFrom_take hk', ← List.append_assoc]
  have e : Abs.LS.of Vs Ch Is ((cs ++ Abs.laidFrom so wh (l.take k) 0) ++ [⟨so, wh, k, l[k].lo, l[k].hi, l[k].kind⟩]) = ⟨Vs, Ch, Is, (cs ++ Abs.laidFrom so wh (l.take k) 0).length + 1, (cs ++ Abs.laidFrom so wh (l.take k) 0).map (·.lo) ++ [l[k].lo], (cs ++ Abs.laidFrom so wh (l.take k) 0).map (·.hi) ++ [l[k].hi], cs ++ Abs.laidFrom so wh (l.take k) 0 ++ [⟨so, wh, k, l[k].lo, l[k].hi, l[k].kind⟩]⟩ := by
   simp [Abs.LS.of, List.map_append, Nat.add_assoc]
  rw [e]
  exact hs8
 ·refine Sg ?_
  rw [List.take_of_length_le (by omega)] at hs
  exact ⟨Tr, hs, kt2, hd2⟩
end Go.Proofs.R
end
section
namespace Lite
open Go Go.RowKit
section
variable {P : Program} {C : World → Prop} {S : Fr} {w : World} {K : Fr → World → Prop}
theorem svcC.mv {d m : Nat} {r : Sch} {v : Value} (hx : S m = v) (h : svcC P C r (upd S d v) w K) : svcC P C (.take ⟨some d, none, .p (.mv (.tmp m))⟩ r) S w K := by subst hx; exact h
theorem altC.c {i : CIns} {d : Nat} {k : Fr → World → Prop} (h : CVC P i S w fun v w' => C w' ∧ k (put S (some d) v) w') : altC P C ⟨some d, none, .c i⟩ S w k := h
end
end Lite
namespace Abs
def LS.add (s : LS) (off : Nat) (y : Int) : LS := if off = 0 then { s with V := s.V ++ [y] } else if off = 1 then { s with C := s.C ++ [y] } else { s with I := s.I ++ [y] }
end Abs
namespace Go.Proofs.R
open Go Go.RowKit Lite
def callT (n x y off : Nat) (so : Int) : Sch :=
 (.take (ya n off 4) (.take (yl (n + 1) n) (.take (ym (n + 2) 6) (.take (ym (n + 3) x) (.take (ym (n + 4) y)
 (.alt (yc (n + 5) (.val (yt (n + 2)) [(yi so), (yt (n + 3)), (yt (n + 4))]))
 (.alt (ye (n + 6) (.bldS T.a 1 1 [(.int .i64 0)] [(0, (yt (n + 5)))]))
 (.fre (ye (n + 7) (.app T.c T.a 1 8 (yt (n + 1)) (yt (n + 6))))
 (.take (ya (n + 8) off 4) (.fre (ys (n + 8) (n + 7)) .done .nil)) .nil) .nil) .nil))))))
theorem call_reg {w1 w : World} {bx bs n x y off base : Nat} {so wh : Int} {vl : Value} {l : List Abs.Bd} {Vs Ch Is : List Int} {cs : List Abs.Cell} {S : Fr} {KK : Fr → World → Prop} (hoff : off < 3) (hn : 20 ≤ n) (hx : x < 20) (hy : y < 20)
  (hne : bx ≠ bs) (hlo : bx < w1.heap.size ∧ bs < w1.heap.size) (h4 : S 4 = .pointer (some ⟨bx, 0, none⟩)) (h6 : S 6 = .func (.func F.an) #[] #[.pointer (some ⟨bx, 0, none⟩), .pointer (some ⟨bs, 0, none⟩)]) (hx' : S x = .int .i64 wh) (hy' : S y = vl)
  (hs : LSt w1 bx bs (Abs.LS.of Vs Ch Is cs) w) (hv : OwR Abs.Bd.enc T.j 3 base w vl l) (hm : cs.length + l.length ≤ 100000) (hr : Vs.length ≤ 100000 ∧ Ch.length ≤ 100000 ∧ Is.length ≤ 100000)
  (hk : ∀ S' w', (∀ t, t < n ∨ n + 8 < t → S' t = S t) → LSt w1 bx bs ((Abs.LS.of Vs Ch Is (cs ++ Abs.laidFrom so wh l 0)).add off cs.length) w' → Kt ltys w w' → KK S' w') : ∃ C : World → Prop, C w ∧ svcC Tryz.prog C (callT n x y off so) S w KK := by
 obtain ⟨vs, u, g1, g2, g3, g4⟩ := hs.ex
 have c0 : w.cell? (Addr.add ⟨bx, 0, none⟩ off) = some (slq (vs off)) := by
  have : off = 0 ∨ off = 1 ∨ off = 2 := by omega
  rcases this with rfl | rfl | rfl <;> exact kB g1 rfl
 refine ⟨fun w' => w'.cell? (Addr.add ⟨bx, 0, none⟩ off) = some (slq (vs off)), c0, ?_⟩
 unfold callT
 refine svcC.fa h4 ?_
 refine svcC.ld (v := slq (vs off)) (by simp [uA]) (fun w' m => m) ?_
 refine svcC.mv (slot_of (slot_of h6 (by omega)) (by omega)) ?_
 refine svcC.mv (slot_of (slot_of (slot_of hx' (by omega)) (by omega)) (by omega)) ?_
 refine svcC.mv (slot_of (slot_of (slot_of (slot_of hy' (by omega)) (by omega)) (by omega)) (by omega)) ?_
 generalize hS5 : upd _ (n + 4) _ = S5
 have fS : ∀ t, t < n ∨ n + 8 < t → S5 t = S t := by
  subst hS5
  intro t ht
  simp only [uA]
  rw [if_neg (by omega), if_neg (by omega), if_neg (by omega), if_neg (by omega), if_neg (by omega)]
 have e4 : S5 4 = .pointer (some ⟨bx, 0, none⟩) := by subst hS5; exact slot_of (slot_of (slot_of (slot_of (slot_of h4 (by omega)) (by omega)) (by omega)) (by omega)) (by omega)
 have f1 : S5 (n + 1) = slq (vs off) := by subst hS5; simp [uA]
 have f2 : S5 (n + 2) = .func (.func F.an) #[] #[.pointer (some ⟨bx, 0, none⟩), .pointer (some ⟨bs, 0, none⟩)] := by subst hS5; simp [uA]
 have f3 : S5 (n + 3) = .int .i64 wh := by subst hS5; simp [uA]
 have f4 : S5 (n + 4) = vl := by subst hS5; simp [uA]
 refine svcC.alt1 (altC.c ?_)
 show CallV _ (S5 (n + 2)) [.int .i64 so, S5 (n + 3), S5 (n + 4)] w _
 rw [f2, f3, f4]
 refine callV_ok (first := []) (cap := [.pointer (some ⟨bx, 0, none⟩), .pointer (some ⟨bs, 0, none⟩)]) (by kernel_rfl) (ladd_r so wh vl l Vs Ch Is cs base w1 bx bs w hne hlo hs hv hm) ?_
 rintro _ w2 ⟨rfl, hs2, kt2, hd2⟩
 refine ⟨(hd2 off hoff).trans c0, ?_⟩
 refine svcC.alt1 (altC.e ?_)
 have he : Ext w2 (w2.alloc (.cells #[.int .i64 cs.length] T.a)) := (Ext.refl w2).alloc _
 rw [e_bldS]
 refine bldS_ok (cs := [.int .i64 cs.length]) (fill1 (by simp [pS, uA])) ?_
 refine ⟨he.cell ((hd2 off hoff).trans c0), ?_⟩
 have hc3 := heap_alloc_new w2 (.cells #[.int .i64 cs.length] T.a)
 have c3 := he.cell ((hd2 off hoff).trans c0)
 have hs3 := hs2.ext he
 have kt3 : Kt ltys w (w2.alloc (.cells #[.int .i64 cs.length] T.a)) := kt2.trans (Kt.ext he)
 show svcC _ _ _ _ (w2.alloc (.cells #[.int .i64 cs.length] T.a)) _
 generalize w2.alloc (.cells #[.int .i64 cs.length] T.a) = w3 at hc3 c3 hs3 kt3
 clear he g1 g2 g3 g4
 obtain ⟨vs', u', g1, g2, g3, g4⟩ := hs3.ex
 have ev' : slq (vs off) = slq (vs' off) := by
  have : off = 0 ∨ off = 1 ∨ off = 2 := by omega
  rcases this with rfl | rfl | rfl
  ·rw [kB g1 (v := slq (vs' 0)) rfl] at c3; exact (Option.some.inj c3).symm
  ·rw [kB g1 (v := slq (vs' 1)) rfl] at c3; exact (Option.some.inj c3).symm
  ·rw [kB g1 (v := slq (vs' 2)) rfl] at c3; exact (Option.some.inj c3).symm
 refine svcC.fre1 (freS.e ?_)
 rw [e_app]
 unfold yt
 rw [ev_tmp, ev_tmp]
 rw [show ∀ a b, put (put S5 (some (n + 5)) a) (some (n + 6)) b (n + 1) = slq (vs' off) from fun a b => by rw [pS, pS, ← ev']; exact slot_of (slot_of f1 (by omega)) (by omega),
  show ∀ a b, put (put S5 (some (n + 5)) a) (some (n + 6)) b (n + 6) = b from fun a b => by rw [pS, pS, uA, if_pos rfl]]
 have z1 := hs3.mod.size
 have hlen : ((Abs.LS.of Vs Ch Is (cs ++ Abs.laidFrom so wh l 0)).rows off).length ≤ 100000 := by
  have : off = 0 ∨ off = 1 ∨ off = 2 := by omega
  rcases this with rfl | rfl | rfl
  ·exact hr.1
  ·exact hr.2.1
  ·exact hr.2.2
 refine Rws.app (y := (cs.length : Int)) off (by omega) g2 (fun _ => rfl) (cB hc3) encN_one (by omega) (by unfold maxLen; omega) (by omega) fun v' w4 ho4 hg4 _ => ?_
 have m4 : Mod (fun k => (slq (vs' off)).ownBlock = some k) w3 w4 := Mod.grown hg4 fun k hk => hk
 have nb : ∀ {k : Nat} {c : Array Value} {t : TypeId}, w3.heap[k]? = some (.cells c t) → t ≠ T.a → w4.heap[k]? = some (.cells c t) := fun hk ht => m4.obj (g2.not hk ht off (by omega)) hk
 refine svcC.fa (a := ⟨bx, 0, none⟩) (by rw [pS, pS, pS]; exact slot_of (slot_of (slot_of e4 (by omega)) (by omega)) (by omega)) ?_
 refine svcC.fre1 ?_
 show StVC (upd _ (n + 8) _ (n + 8)) (upd (put _ (some (n + 7)) _) (n + 8) _ (n + 7)) w4 _
 rw [show ∀ (S : Fr) v, upd S (n + 8) v (n + 8) = v from fun S v => by rw [uA, if_pos rfl], show ∀ (S : Fr) a b, upd (put S (some (n + 7)) a) (n + 8) b (n + 7) = a from fun S a b => by rw [pS, uA, if_neg (by omega), uA, if_pos rfl]]
 have b4 := nb g1 (by decide)
 refine stVC_of fun tk => K.st1 b4 (by simp; omega) rfl fun w5 hw5 hc5 => ?_
 have mw : Mod (fun k => k = bx) w4 w5 := hw5.mod rfl
 refine hk _ _ (fun t ht => ?_) ⟨?_, putN vs' off v', u', ?_, (ho4.mod mw fun i k hi hq e => ?_).congr (fun _ _ => rfl) (fun i hi => ?_), ?_, ?_⟩ ?_
 ·simp only [pS, put_none, uA]
  rw [if_neg (by omega), if_neg (by omega), if_neg (by omega), if_neg (by omega)]
  exact fS t ht
 ·refine (hs3.mod.comp m4 (B := fun k => k = bx ∨ k = bs) (fun _ _ a => a) fun i hi a => ?_).trans (hw5.mod (A := fun k => k = bx ∨ k = bs) (.inl rfl))
  have := (g2.lt off i (by omega) a).1; omega
 ·rw [hc5]
  have : off = 0 ∨ off = 1 ∨ off = 2 := by omega
  rcases this with rfl | rfl | rfl <;> rfl
 ·subst e; exact ho4.not b4 (by decide) i hi hq
 ·have a : off = 0 ∨ off = 1 ∨ off = 2 := by omega
  have b : i = 0 ∨ i = 1 ∨ i = 2 ∨ i = 3 ∨ i = 4 := by omega
  rcases a with rfl | rfl | rfl <;> rcases b with rfl | rfl | rfl | rfl | rfl <;> rfl
 ·exact hw5.obj (nb g3 (by decide)) (Ne.symm hne)
 ·have ez : ((Abs.LS.of Vs Ch Is (cs ++ Abs.laidFrom so wh l 0)).add off cs.length).Z = (Abs.LS.of Vs Ch Is (cs ++ Abs.laidFrom so wh l 0)).Z := by unfold Abs.LS.add; (repeat' split) <;> rfl
  rw [ez]
  refine (g4.mod m4 fun k hk h => ?_).mod mw fun k hk e => ?_
  ·obtain ⟨cur, hcur⟩ := g4.blk k hk
   exact g2.not hcur (by decide) off (by omega) h
  ·obtain ⟨cur, hcur⟩ := g4.blk k hk
   subst e
   rw [g1] at hcur; injection hcur with hcur; injection hcur with _ e; exact absurd e (by decide)
 ·refine (kt3.trans (Kt.mod m4 fun k c t' hc a => ?_)).trans (Kt.wr hw5 b4 (by decide))
  obtain ⟨cur, hcur⟩ := (g2.own off (by omega)).blk k a
  rw [hc] at hcur; injection hcur with hcur; injection hcur with _ e; rw [e]; decide
end Go.Proofs.R
end
section
namespace Lite
open Go Go.RowKit
theorem OwR.blkN {α : Type} {enc : α → List Value} {e : TypeId} {sz base b n : Nat} {w : World} {cs : List Value} (xs : List α) (h : w.heap[b]? = some (.cells cs.toArray e)) (hb : base ≤ b) (hcs : cs = xs.flatMap enc) (hsz : ∀ x, (enc x).length = sz) (hn : n = xs.length) (hm : xs.length ≤ maxLen) : OwR enc e sz base w (.slice (some ⟨b, 0, none⟩) n n) xs := by
 subst hn
 have hl : cs.length = xs.length * sz := by rw [hcs, flat_len hsz]
 exact ⟨by rw [flat_len hsz], .inr ⟨b, xs.length, cs.toArray, rfl, hb, h, Nat.le_refl _, hm, by simpa using hl, by simp only; rw [← hl, List.take_length, hcs]⟩⟩
theorem K.app1h {P : Program} {KK : Value → World → Prop} {α : Type} {enc : α → List Value} {e : TypeId} {sz base : Nat} {w : World} {v : Value} {xs : List α} {ty : TypeId} {bb b : Nat} {y : α} {cs : List Value} {t} (hs : OwR enc e sz base w v xs) (hc : w.heap[b]? = some (.cells cs.toArray e)) (hcs : cs = enc y) (hsz : ∀ x, (enc x).length = sz) (h1 : ∀ y, ∀ u ∈ enc y, u.oneCell' = true)
  (hb : (xs.length + 1) * bb ≤ 140737488355328) (h63 : xs.length + 1 ≤ maxLen) (hbase : base ≤ w.heap.size)
  (hk : ∀ oa n c w', OwR enc e sz base w' (.slice oa n c) (xs ++ [y]) → w.grownBy w' v.ownBlock → ((Value.slice oa n c).ownBlock = v.ownBlock ∨ (Value.slice oa n c).ownBlock = some w.heap.size) → KK (.slice oa n c) w') : AppVCh P ty e sz bb v (.slice (some ⟨b, 0, none⟩) 1 1) w KK t := by
 refine K.appAt (ys := [y]) hs hsz (by subst hcs; simpa using cB hc) rfl h1 hb h63 hbase fun v' w' ho hg hat => ?_
 obtain ⟨oa, cap, rfl, _⟩ := ho.form
 exact hk _ _ _ _ ho hg hat
end Lite
namespace Abs
open Go Go.RowKit Lite
structure LayIs (w : World) (cs : List Value) (x : Layout) : Prop where
 ex : ∃ v0 v1 v2 v3 v4, cs = [v0, v1, v2, .int .i64 x.cells, v3, v4] ∧ SlR 1 (Flat encN) w v0 x.vars ∧ SlR 1 (Flat encN) w v1 x.chans ∧ SlR 1 (Flat encN) w v2 x.insts ∧ SlR 1 (Flat encN) w v3 x.lo ∧ SlR 1 (Flat encN) w v4 x.hi
theorem LayIs.ext {w w' : World} {cs : List Value} {x : Layout} (he : Ext w w') (h : LayIs w cs x) : LayIs w' cs x :=
 let ⟨v0, v1, v2, v3, v4, e, h0, h1, h2, h3, h4⟩ := h.ex
 ⟨v0, v1, v2, v3, v4, e, h0.ext Flat.ext he, h1.ext Flat.ext he, h2.ext Flat.ext he, h3.ext Flat.ext he, h4.ext Flat.ext he⟩
theorem LayIs.form {w : World} {cs : List Value} {x : Layout} (h : LayIs w cs x) : ∃ o0 c0 o1 c1 o2 c2 o3 c3 o4 c4, cs = [.slice o0 x.vars.length c0, .slice o1 x.chans.length c1, .slice o2 x.insts.length c2, .int .i64 x.cells, .slice o3 x.lo.length c3, .slice o4 x.hi.length c4] ∧
  SlR 1 (Flat encN) w (.slice o0 x.vars.length c0) x.vars ∧ SlR 1 (Flat encN) w (.slice o1 x.chans.length c1) x.chans ∧ SlR 1 (Flat encN) w (.slice o2 x.insts.length c2) x.insts ∧ SlR 1 (Flat encN) w (.slice o3 x.lo.length c3) x.lo ∧ SlR 1 (Flat encN) w (.slice o4 x.hi.length c4) x.hi := by
 obtain ⟨v0, v1, v2, v3, v4, rfl, h0, h1, h2, h3, h4⟩ := h.ex
 obtain ⟨o0, c0, rfl, _⟩ := h0.form
 obtain ⟨o1, c1, rfl, _⟩ := h1.form
 obtain ⟨o2, c2, rfl, _⟩ := h2.form
 obtain ⟨o3, c3, rfl, _⟩ := h3.form
 obtain ⟨o4, c4, rfl, _⟩ := h4.form
 exact ⟨o0, c0, o1, c1, o2, c2, o3, c3, o4, c4, rfl, h0, h1, h2, h3, h4⟩
theorem var_scalar {v : Var} {s : List Scalar} (h : VarOk v s) (hs : s.length ≤ 2) : 0 ≤ v.scalar ∧ v.scalar ≤ 2 := by
 rcases h.sc with e | e
 ·omega
 ·unfold size at e
  split at e
  ·rename_i x hx
   have := (List.getElem?_eq_some_iff.1 hx).1
   split at e <;> omega
  ·exact absurd rfl e
theorem chan_scalar {v : Chan} {s : List Scalar} (h : ChanOk v s) (hs : s.length ≤ 2) : 0 ≤ v.scalar ∧ v.scalar ≤ 2 := by
 rcases h.sc with e | e
 ·omega
 ·unfold size at e
  split at e
  ·rename_i x hx
   have := (List.getElem?_eq_some_iff.1 hx).1
   split at e <;> omega
  ·exact absurd rfl e
theorem total_vars_le (m : Model) (h : MayBe m) (k : Nat) : total ((vT m).take k) ≤ 64 := by
 have h1 := layCells_pieces h
 have h2 := h.cells
 have h3 := layCells_len m
 have e : total (vT m) = total ((vT m).take k) + total ((vT m).drop k) := by rw [← total_app, List.take_append_drop]
 omega
theorem total_chans_le (m : Model) (h : MayBe m) (k : Nat) : total (vT m) + total ((cT m).take k) ≤ 64 := by
 have h1 := layCells_pieces h
 have h2 := h.cells
 have h3 := layCells_len m
 have e : total (cT m) = total ((cT m).take k) + total ((cT m).drop k) := by rw [← total_app, List.take_append_drop]
 omega
theorem total_insts_le (m : Model) (h : MayBe m) (k : Nat) : total (vT m) + total (cT m) + total ((iT m).take k) ≤ 64 := by
 have h1 := layCells_pieces h
 have h2 := h.cells
 have h3 := layCells_len m
 have e : total (iT m) = total ((iT m).take k) + total ((iT m).drop k) := by rw [← total_app, List.take_append_drop]
 omega
end Abs
namespace Go.Proofs.R
open Go Go.RowKit Lite
theorem layout_all_r (cs : List Value) (m : Abs.Model) (w : World) (h : Abs.MI w cs m) (hg : m.good) (hM : Abs.MayBe m) :
  Ret Tryz.prog F.c6 #[.agg cs.toArray] w fun v w' => (∃ xs u, v = .tuple #[.agg xs.toArray, u] ∧ New w (fun w => Abs.LayIs w xs (Abs.layout m)) w' ∧ New w (fun w => SlR 4 (Flat Abs.Cell.slot) w u (Abs.lC m)) w') ∧ Ext w w' := by
 obtain ⟨o0, c0, o1, c1, o2, c2, o3, c3, o4, c4, rfl, h0, h1, h2, h3, h4, l0, l1, l2, l3, l4⟩ := h.form
 have few := hM.few
 refine Ks E.c6 ?_; dsimp only [C.c6]; refine Yy ?_
 refine Sg ?_
 intro wa b1 hb1 hea hc1
 have q1 := lH hc1
 refine Sg ?_
 intro wb b2 hb2 heb hc2
 have q2 := lH hc2
 replace hc1 := heb.obj hc1
 refine Sg ?_
 intro wc bx hbx hec hcx
 have qx := lH hcx
 replace hc1 := hec.obj hc1
 replace hc2 := hec.obj hc2
 refine Sg ?_
 intro w1 bs hbs hed hcs
 have qs := lH hcs
 replace hc1 := hed.obj hc1
 replace hc2 := hed.obj hc2
 replace hcx := hed.obj hcx
 have y1 := hea.size
 have y2 := heb.size
 have y3 := hec.size
 have y4 := hed.size
 have e1 := ((hea.trans heb).trans hec).trans hed
 clear hea heb hec hed
 have hne : bx ≠ bs := by omega
 have hlo : bx < w1.heap.size ∧ bs < w1.heap.size := ⟨by omega, by omega⟩
 have s0 : LSt w1 bx bs (Abs.LS.of [] [] [] []) w1 := ⟨Mod.refl _ _, fun _ => (none, 0, 0), (none, 0, 0), hcx, ⟨fun i hi => by
   have e : (Abs.LS.of [] [] [] []).rows i = [] := by unfold Abs.LS.rows; (repeat' split) <;> rfl
   rw [e]; exact OwR.nil _ _ _ _ _, fun i j k _ _ _ e => by cases e⟩, hcs, OwR.nil _ _ _ _ _⟩
 have hx1 : ∀ {s W}, LSt w1 bx bs s W → W.heap[b1]? = w1.heap[b1]? := fun h => h.mod.block _ (by omega) (by omega)
 have hx2 : ∀ {s W}, LSt w1 bx bs s W → W.heap[b2]? = w1.heap[b2]? := fun h => h.mod.block _ (by omega) (by omega)
 have hE : ∀ {s W}, LSt w1 bx bs s W → Ext w W := fun h => h.mod.ext e1 fun i hi e => by omega
 rw [hc1] at hx1
 rw [hc2] at hx2
 refine Sg ?_
 refine K.forG 24 m.vars.length [1, 2, 4, 5, 6, 22, 23] (fun _ : Unit => []) () (fun k _ W => LSt w1 bx bs (Abs.LS.of (Abs.starts 0 ((Abs.vT m).take k)) [] [] (Abs.cellsOf 1 ((Abs.vT m).take k) 0)) W) hZq hZq (by simpa [Abs.starts, Abs.cellsOf] using s0) ?_
 clear s0 hcx hcs hc1 hc2
 rintro k _ S w2 hk hs
 have hc1 := hx1 hs
 have E2 := hE hs
 refine Sg ?_
 apply K.cond <;> intro g1
 ·have hk' : k < m.vars.length := by omega
  obtain ⟨a, rfl⟩ := h1.addr (by omega)
  have hcv := ((h1.at k hk').cells).ext E2
  have hok := hM.var _ (List.getElem_mem hk')
  have hsc := Abs.var_scalar hok few.1
  refine Sg ?_
  intro wn b8 hb8 hen hcn
  refine Sg ?_
  intro w3 hw3 hc3
  have he3 : Ext w2 w3 := hw3.ext hen hb8
  replace hc3 : w3.heap[b8]? = some (.cells m.vars[k].enc.toArray T.f) := hc3
  replace hc1 := he3.obj hc1
  clear hw3 hen hcn hcv
  have E3 := E2.trans he3
  refine Sg ?_
  refine K.call (cells_r m.vars[k] _ m.scalars w3 (h0.ext E3)) ?_
  rintro _ w4 ⟨rfl, he4⟩
  have hcl := Abs.cells_le m.vars[k] m.scalars
  have E4 := E3.trans he4
  have hc1' := he4.obj hc1
  have hc3' := he4.obj hc3
  refine Sg ?_
  refine K.forG 33 (Abs.cells m.vars[k] m.scalars).toNat [1, 2, 4, 5, 6, 7, 8, 22, 23, 24, 32] (fun v : SlP => [(9, .slice v.1 v.2.1 v.2.2)]) (none, 0, 0) (fun j v W => Ext w4 W ∧ OwR Abs.Bd.enc T.j 3 w4.heap.size W (.slice v.1 v.2.1 v.2.2) (List.replicate j (Abs.bdOf m.vars[k].scalar m.vars[k].lo m.vars[k].hi m.scalars))) hZq hZq ⟨Ext.refl _, OwR.nil _ _ _ _ _⟩ ?_
  clear hc1 hc3
  rintro j v S w5 hj ⟨he5, ho5⟩
  have hc1 := he5.obj hc1'
  have hc3 := he5.obj hc3'
  refine Sg ?_
  apply K.cond <;> intro g2
  ·have hj' : j < (Abs.cells m.vars[k] m.scalars).toNat := by omega
   refine Sg ?_
   refine K.call (lof_r m.vars[k] _ m.scalars w5 (h0.ext (E4.trans he5)) (by unfold Abs.inI; omega)) ?_
   rintro _ w6 ⟨rfl, he6⟩
   have hone := Abs.bd_one (Abs.bdOf m.vars[k].scalar m.vars[k].lo m.vars[k].hi m.scalars)
   refine Sg ?_
   intro w7 b40 hb40 he7 hc7
   replace hc7 : w7.heap[b40]? = some (.cells (Abs.bdOf m.vars[k].scalar m.vars[k].lo m.vars[k].hi m.scalars).enc.toArray T.j) := hc7
   have ho7 := ho5.ext (he6.trans he7)
   have he07 := (he5.trans he6).trans he7
   have hl : (List.replicate j (Abs.bdOf m.vars[k].scalar m.vars[k].lo m.vars[k].hi m.scalars)).length = j := List.length_replicate
   refine K.app1 (y := Abs.bdOf m.vars[k].scalar m.vars[k].lo m.vars[k].hi m.scalars) ho7 hc7 rfl (fun _ => rfl) Abs.bd_one (by rw [hl]; omega) (by rw [hl]; unfold maxLen; omega) he07.size fun oa n c w8 ho8 hg8 => ?_
   refine Sg ?_
   exact ⟨hj', Tr, (oa, n, c), hZq, ho7.extG he07 hg8 (Nat.le_refl _), by rw [List.replicate_succ']; exact ho8⟩
  ·have hjj : j = (Abs.cells m.vars[k] m.scalars).toNat := by omega
   have hs5 := hs.ext ((he3.trans he4).trans he5)
   replace ho5 : OwR Abs.Bd.enc T.j 3 w4.heap.size w5 (.slice v.1 v.2.1 v.2.2) (Abs.varBds m.scalars m.vars[k]) := by rw [hjj] at ho5; exact ho5
   have hcn := Abs.cellsOf_len 1 ((Abs.vT m).take k) 0
   have htk := Abs.total_vars_le m hM k
   refine Sg ?_
   intro w6 he6
   refine K.wide (call_reg (n := 43) (x := 7) (y := 9) (off := 0) (so := 1) (by decide) (by decide) (by decide) (by decide) hne hlo (by simp [uA]) (by simp [uA]) (by simp [uA]; rfl) (by simp [uA]) (hs5.ext he6) (ho5.ext he6) (by rw [hcn, Abs.varBds_len]; omega) ⟨by rw [Abs.starts_len, List.length_take]; omega, by simp, by simp⟩ fun S' w7 hf h7 k7 => ?_)
   have h24 : S' 24 = .int .i64 k := by rw [hf 24 (by decide)]; simp [uA]
   refine Sg ?_
   rw [h24]
   refine Sg ?_
   refine ⟨hk', Tr, (), trivial, ?_⟩
   have hv : k < (Abs.vT m).length := by simpa [Abs.vT] using hk'
   have e : (Abs.vT m)[k] = Abs.varBds m.scalars m.vars[k] := by simp [Abs.vT]
   rw [List.take_succ_eq_append_getElem hv, e, Abs.starts_snoc, Abs.cellsOf_snoc]
   have e2 : (0 + ((Abs.vT m).take k).length : Nat) = k := by rw [List.length_take]; omega
   rw [e2, Nat.zero_add, ← hcn]
   exact h7
 have hkv : m.vars.length ≤ k := by omega
 rw [List.take_of_length_le (by simpa [Abs.vT] using hkv)] at hs
 have tv := Abs.total_vars_le m hM m.vars.length
 rw [List.take_of_length_le (by simp [Abs.vT])] at tv
 refine Sg ?_
 refine K.forG 56 m.chans.length [1, 2, 4, 5, 6, 54, 55] (fun _ : Unit => []) () (fun k _ W => LSt w1 bx bs (Abs.LS.of (Abs.starts 0 (Abs.vT m)) (Abs.starts (Abs.total (Abs.vT m)) ((Abs.cT m).take k)) [] (Abs.cellsOf 1 (Abs.vT m) 0 ++ Abs.cellsOf 2 ((Abs.cT m).take k) 0)) W) hZq hZq (by simpa [Abs.starts, Abs.cellsOf] using hs) ?_
 clear hs hc1 E2
 rintro k _ S w2 hk hs
 have hc1 := hx1 hs
 have E2 := hE hs
 refine Sg ?_
 apply K.cond <;> intro g2
 ·have hk' : k < m.chans.length := by omega
  obtain ⟨a, rfl⟩ := h2.addr (by omega)
  have hcv := ((h2.at k hk').cells).ext E2
  have hok := hM.chan _ (List.getElem_mem hk')
  have hsc := Abs.chan_scalar hok few.1
  have hcap := hok.cap
  refine Sg ?_
  intro wn b11 hb11 hen hcn
  refine Sg ?_
  intro w3 hw3 hc3
  have he3 : Ext w2 w3 := hw3.ext hen hb11
  replace hc3 : w3.heap[b11]? = some (.cells m.chans[k].enc.toArray T.q) := hc3
  replace hc1 := he3.obj hc1
  clear hw3 hen hcn hcv
  have hc1'' := hc1
  have hc3'' := hc3
  have E3 := E2.trans he3
  refine Sg ?_
  intro w4 b64 hb64 he4 hc64
  replace hc64 : w4.heap[b64]? = some (.cells ([(⟨0, m.chans[k].cap, 0⟩ : Abs.Bd)].flatMap Abs.Bd.enc).toArray T.j) := hc64
  have ho4 : OwR Abs.Bd.enc T.j 3 w3.heap.size w4 (.slice (some ⟨b64, 0, none⟩) 1 1) [(⟨0, m.chans[k].cap, 0⟩ : Abs.Bd)] := OwR.blkN _ hc64 hb64 rfl (fun _ => rfl) rfl (by simp [maxLen])
  replace hc1 := he4.obj hc1
  replace hc3 := he4.obj hc3
  have E4 := E3.trans he4
  have hc64l := hc64
  clear hc64
  refine Sg ?_
  refine K.call (lof_r ⟨⟨#[]⟩, m.chans[k].scalar, 0, min m.chans[k].lo 0, max m.chans[k].hi 0, 0⟩ _ m.scalars w4 (h0.ext E4) (by unfold Abs.inI; simp only; omega)) ?_
  rintro _ w5 ⟨rfl, he5⟩
  have hone := Abs.bd_one (Abs.bdOf m.chans[k].scalar (min m.chans[k].lo 0) (max m.chans[k].hi 0) m.scalars)
  refine Sg ?_
  intro w6 b13 hb13 he6 hc13
  replace hc13 : w6.heap[b13]? = some (.cells (Abs.chanBd m.scalars m.chans[k]).enc.toArray T.j) := hc13
  replace hc1 := (he5.trans he6).obj hc1
  replace hc3 := (he5.trans he6).obj hc3
  have ho6 := ho4.ext (he5.trans he6)
  have he36 := (he4.trans he5).trans he6
  clear ho4
  refine Sg ?_
  have hb1364 : b64 < b13 := by have := lH hc64l; have := he5.size; omega
  refine K.forG 79 m.chans[k].cap.toNat [1, 2, 4, 5, 6, 10, 11, 13, 54, 55, 56, 78] (fun v : SlP => [(12, .slice v.1 v.2.1 v.2.2)]) (some ⟨b64, 0, none⟩, 1, 1) (fun j v W => Ext w3 W ∧ W.heap[b13]? = w6.heap[b13]? ∧ OwR Abs.Bd.enc T.j 3 w3.heap.size W (.slice v.1 v.2.1 v.2.2) (⟨0, m.chans[k].cap, 0⟩ :: List.replicate j (Abs.chanBd m.scalars m.chans[k])) ∧ (Value.slice v.1 v.2.1 v.2.2).ownBlock ≠ some b13) hZq hZq ⟨he36, rfl, ho6, by simp [Value.ownBlock]; omega⟩ ?_
  rw [hc13]
  have z13 := lH hc13
  clear hc1 hc3 hc13 ho6 hc64l
  rintro j v S w7 hj ⟨he37, hc13, ho7, hno⟩
  have hc1 := he37.obj hc1''
  have hc3 := he37.obj hc3''
  refine Sg ?_
  apply K.cond <;> intro g3
  ·have hj' : j < m.chans[k].cap.toNat := by omega
   have hone := Abs.bd_one (Abs.chanBd m.scalars m.chans[k])
   refine Sg ?_
   intro w8 b83 hb83 he8 hc83
   replace hc83 : w8.heap[b83]? = some (.cells (Abs.chanBd m.scalars m.chans[k]).enc.toArray T.j) := hc83
   have ho8 := ho7.ext he8
   have hl : ((⟨0, m.chans[k].cap, 0⟩ : Abs.Bd) :: List.replicate j (Abs.chanBd m.scalars m.chans[k])).length = j + 1 := by simp
   have he38 := he37.trans he8
   have z138 := lH (he8.obj hc13)
   refine K.app1h (y := Abs.chanBd m.scalars m.chans[k]) ho8 hc83 rfl (fun _ => rfl) Abs.bd_one (by rw [hl]; omega) (by rw [hl]; unfold maxLen; omega) he38.size fun oa n c w9 ho9 hg9 hat => ?_
   have hm9 : w9.heap[b13]? = _ := (Mod.grown (A := fun i => (Value.slice v.1 v.2.1 v.2.2).ownBlock = some i) hg9 fun k hk => hk).obj hno (he8.obj hc13)
   refine Sg ?_
   refine ⟨hj', Tr, (oa, n, c), hZq, ho8.extG he38 hg9 (Nat.le_refl _), hm9, by rw [List.replicate_succ']; exact ho9, fun e => ?_⟩
   rcases hat with a | a
   ·exact hno (a.symm.trans e)
   ·rw [a] at e; injection e with e; omega
  ·have hjj : j = m.chans[k].cap.toNat := by omega
   have hs7 := hs.ext (he3.trans he37)
   replace ho7 : OwR Abs.Bd.enc T.j 3 w3.heap.size w7 (.slice v.1 v.2.1 v.2.2) (Abs.chanBds m.scalars m.chans[k]) := by rw [hjj] at ho7; exact ho7
   have hcn := Abs.cellsOf_len 1 (Abs.vT m) 0
   have hcn2 := Abs.cellsOf_len 2 ((Abs.cT m).take k) 0
   have hlen : (Abs.cellsOf 1 (Abs.vT m) 0 ++ Abs.cellsOf 2 ((Abs.cT m).take k) 0).length = Abs.total (Abs.vT m) + Abs.total ((Abs.cT m).take k) := by rw [List.length_append, hcn, hcn2]
   have htk := Abs.total_chans_le m hM k
   refine Sg ?_
   intro w8 he8
   refine K.wide (call_reg (n := 86) (x := 10) (y := 12) (off := 1) (so := 2) (by decide) (by decide) (by decide) (by decide) hne hlo (by simp [uA]) (by simp [uA]) (by simp [uA]; rfl) (by simp [uA]) (hs7.ext he8) (ho7.ext he8) (by rw [hlen, Abs.chanBds_len]; omega) ⟨by rw [Abs.starts_len]; simp [Abs.vT]; omega, by rw [Abs.starts_len, List.length_take]; omega, by simp⟩ fun S' w7 hf h7 k7 => ?_)
   have h24 : S' 56 = .int .i64 k := by rw [hf 56 (by decide)]; simp [uA]
   refine Sg ?_
   rw [h24]
   refine Sg ?_
   refine ⟨hk', Tr, (), trivial, ?_⟩
   have hv : k < (Abs.cT m).length := by simpa [Abs.cT] using hk'
   have e : (Abs.cT m)[k] = Abs.chanBds m.scalars m.chans[k] := by simp [Abs.cT]
   rw [List.take_succ_eq_append_getElem hv, e, Abs.starts_snoc, Abs.cellsOf_snoc]
   have e2 : (0 + ((Abs.cT m).take k).length : Nat) = k := by rw [List.length_take]; omega
   rw [e2, ← List.append_assoc, ← hlen]
   exact h7
 have hkc : m.chans.length ≤ k := by omega
 rw [List.take_of_length_le (by simpa [Abs.cT] using hkc)] at hs
 have tc := Abs.total_chans_le m hM m.chans.length
 rw [List.take_of_length_le (by simp [Abs.cT])] at tc
 refine Sg ?_
 refine K.call (insts_r _ m w2 (h.ext E2) hg) ?_
 rintro vi wi ⟨hvi, hei⟩
 obtain ⟨oi, ci, rfl, _⟩ := hvi.form
 have hsi := hs.ext hei
 have hil : (Abs.insts m).length ≤ 30 := by have := Abs.insts_len m; have := hM.procs; omega
 refine Sg ?_
 refine K.forG 99 (Abs.insts m).length [1, 2, 4, 5, 6, 97, 98] (fun _ : Unit => []) () (fun k _ W => LSt w1 bx bs (Abs.LS.of (Abs.starts 0 (Abs.vT m)) (Abs.starts (Abs.total (Abs.vT m)) (Abs.cT m)) (Abs.starts (Abs.total (Abs.vT m) + Abs.total (Abs.cT m)) ((Abs.iT m).take k)) (Abs.cellsOf 1 (Abs.vT m) 0 ++ Abs.cellsOf 2 (Abs.cT m) 0 ++ Abs.cellsOf 3 ((Abs.iT m).take k) 0)) W ∧ Kt ltys wi W) hZq hZq ⟨by simpa [Abs.starts, Abs.cellsOf] using hsi, Kt.refl⟩ ?_
 clear hs hsi hc1 E2
 rintro k _ S w2 hk ⟨hs, kt2⟩
 have hc1 := hx1 hs
 have E2 := hE hs
 have hin : InstsAt w2 (.slice oi (Abs.insts m).length ci) (Abs.insts m) := OwR.slF (enc := Abs.Inst.enc) (fun _ => rfl) (hvi.kt kt2 (by decide))
 refine Sg ?_
 apply K.cond <;> intro g3
 ·have hk' : k < (Abs.insts m).length := by omega
  obtain ⟨ai, rfl⟩ := hin.addr (by omega)
  have hof := Abs.insts_of _ (List.getElem_mem hk')
  obtain ⟨p, hp, hpe, hbe⟩ := Abs.instBds_at hof
  have hok := hM.proc _ (List.getElem_mem hp)
  have hlocs := hok.locs
  have hfew := hok.few.1
  refine Sg ?_
  intro wn b15 hb15 hen hcn
  refine Sg ?_
  intro w3 hw3 hc3
  have he3 : Ext w2 w3 := hw3.ext hen hb15
  replace hc3 : w3.heap[b15]? = some (.cells #[.int .i64 p, .int .i64 (Abs.insts m)[k].elem] T.k) := by rw [← hpe]; exact hc3
  replace hc1 := he3.obj hc1
  clear hw3 hen hcn hin
  have E3 := E2.trans he3
  obtain ⟨a, rfl⟩ := h3.addr (by omega)
  obtain ⟨hsn, vv, vc, hpc, hpv, hpcm⟩ := h3.at p hp
  obtain ⟨ov, cv, rfl, lv⟩ := hpv.form
  obtain ⟨oc, cc, rfl, lc⟩ := hpcm.form
  replace hpc := hpc.ext E3
  refine Sg ?_
  intro w4 b16 hb16 he4 hc16
  replace hc16 : w4.heap[b16]? = some (.cells (m.procs[p].enc (.slice ov m.procs[p].vars.length cv) (.slice oc m.procs[p].cmds.length cc)).toArray T.g) := hc16
  unfold Abs.Proc.enc at hc16
  have E4 := E3.trans he4
  replace hc1 := he4.obj hc1
  clear hpc
  refine Sg ?_
  intro w5 b114 hb114 he5 hc114
  replace hc114 : w5.heap[b114]? = some (.cells ([(⟨0, m.procs[p].locs - 1, 0⟩ : Abs.Bd)].flatMap Abs.Bd.enc).toArray T.j) := hc114
  have ho5 : OwR Abs.Bd.enc T.j 3 w4.heap.size w5 (.slice (some ⟨b114, 0, none⟩) 1 1) [(⟨0, m.procs[p].locs - 1, 0⟩ : Abs.Bd)] := OwR.blkN _ hc114 hb114 rfl (fun _ => rfl) rfl (by simp [maxLen])
  have hc1'' := hc1
  have hc16'' := hc16
  replace hc16 := he5.obj hc16
  clear hc114 hc1
  refine Sg ?_
  refine K.forG 118 m.procs[p].vars.length [1, 2, 4, 5, 6, 14, 16, 97, 98, 99, 116, 117] (fun v : SlP => [(17, .slice v.1 v.2.1 v.2.2)]) (some ⟨b114, 0, none⟩, 1, 1) (fun j v W => Ext w4 W ∧ OwR Abs.Bd.enc T.j 3 w4.heap.size W (.slice v.1 v.2.1 v.2.2) (⟨0, m.procs[p].locs - 1, 0⟩ :: (m.procs[p].vars.take j).map fun v => Abs.bdOf v.scalar v.lo v.hi m.scalars)) hZq hZq ⟨he5, by simpa using ho5⟩ ?_
  clear hc16 ho5
  rintro j v S w6 hj ⟨he46, ho6⟩
  have hc1 := he46.obj hc1''
  have hc16 := he46.obj hc16''
  have E6 := E4.trans he46
  refine Sg ?_
  apply K.cond <;> intro g4
  ·have hj' : j < m.procs[p].vars.length := by omega
   obtain ⟨aj, rfl⟩ := hpv.addr (by omega)
   have hcv := ((hpv.at j hj').cells).ext E6
   have hvok := hok.var _ (List.getElem_mem hj')
   have hsc := Abs.var_scalar hvok few.1
   refine Sg ?_
   intro w7 b19 hb19 he7 hc19
   replace hc19 : w7.heap[b19]? = some (.cells m.procs[p].vars[j].enc.toArray T.f) := hc19
   replace hc1 := he7.obj hc1
   have E7 := E6.trans he7
   clear hcv
   refine Sg ?_
   refine K.call (lof_r m.procs[p].vars[j] _ m.scalars w7 (h0.ext E7) (by unfold Abs.inI; omega)) ?_
   rintro _ w8 ⟨rfl, he8⟩
   have hone := Abs.bd_one (Abs.bdOf m.procs[p].vars[j].scalar m.procs[p].vars[j].lo m.procs[p].vars[j].hi m.scalars)
   refine Sg ?_
   intro w9 b127 hb127 he9 hc127
   replace hc127 : w9.heap[b127]? = some (.cells (Abs.bdOf m.procs[p].vars[j].scalar m.procs[p].vars[j].lo m.procs[p].vars[j].hi m.scalars).enc.toArray T.j) := hc127
   have ho9 := ho6.ext ((he7.trans he8).trans he9)
   have he49 := ((he46.trans he7).trans he8).trans he9
   have hl : ((⟨0, m.procs[p].locs - 1, 0⟩ : Abs.Bd) :: (m.procs[p].vars.take j).map fun v => Abs.bdOf v.scalar v.lo v.hi m.scalars).length = j + 1 := by simp; omega
   refine K.app1 (y := Abs.bdOf m.procs[p].vars[j].scalar m.procs[p].vars[j].lo m.procs[p].vars[j].hi m.scalars) ho9 hc127 rfl (fun _ => rfl) Abs.bd_one (by rw [hl]; omega) (by rw [hl]; unfold maxLen; omega) he49.size fun oa n c w10 ho10 hg10 => ?_
   refine Sg ?_
   exact ⟨hj', Tr, (oa, n, c), hZq, ho9.extG he49 hg10 (Nat.le_refl _), by rw [List.take_succ_eq_append_getElem hj', List.map_append]; exact ho10⟩
  ·have hs6 := hs.ext ((he3.trans he4).trans he46)
   have kt6 : Kt ltys w2 w6 := Kt.ext ((he3.trans he4).trans he46)
   replace ho6 : OwR Abs.Bd.enc T.j 3 w4.heap.size w6 (.slice v.1 v.2.1 v.2.2) (Abs.instBds m (Abs.insts m)[k]) := by rw [List.take_of_length_le (by omega)] at ho6; rw [hbe]; exact ho6
   have hcn := Abs.cellsOf_len 1 (Abs.vT m) 0
   have hcn2 := Abs.cellsOf_len 2 (Abs.cT m) 0
   have hcn3 := Abs.cellsOf_len 3 ((Abs.iT m).take k) 0
   have hlen : (Abs.cellsOf 1 (Abs.vT m) 0 ++ Abs.cellsOf 2 (Abs.cT m) 0 ++ Abs.cellsOf 3 ((Abs.iT m).take k) 0).length = Abs.total (Abs.vT m) + Abs.total (Abs.cT m) + Abs.total ((Abs.iT m).take k) := by rw [List.length_append, List.length_append, hcn, hcn2, hcn3]
   have htk := Abs.total_insts_le m hM k
   have hbl : (Abs.instBds m (Abs.insts m)[k]).length ≤ 10 := by rw [hbe, Abs.procBds_len]; omega
   refine Sg ?_
   intro w8 he8
   refine K.wide (call_reg (n := 130) (x := 14) (y := 17) (off := 2) (so := 3) (by decide) (by decide) (by decide) (by decide) hne hlo (by simp [uA]) (by simp [uA]) (by simp [uA]; rfl) (by simp [uA]) (hs6.ext he8) (ho6.ext he8) (by rw [hlen]; omega) ⟨by rw [Abs.starts_len]; simp [Abs.vT]; omega, by rw [Abs.starts_len]; simp [Abs.cT]; omega, by rw [Abs.starts_len, List.length_take]; omega⟩ fun S' w7 hf h7 k7 => ?_)
   have h24 : S' 99 = .int .i64 k := by rw [hf 99 (by decide)]; simp [uA]
   refine Sg ?_
   rw [h24]
   refine Sg ?_
   refine ⟨hk', Tr, (), trivial, ?_, ((kt2.trans kt6).trans (Kt.ext he8)).trans k7⟩
   have hv : k < (Abs.iT m).length := by simpa [Abs.iT] using hk'
   have e : (Abs.iT m)[k] = Abs.instBds m (Abs.insts m)[k] := by simp [Abs.iT]
   rw [List.take_succ_eq_append_getElem hv, e, Abs.starts_snoc, Abs.cellsOf_snoc]
   have e2 : (0 + ((Abs.iT m).take k).length : Nat) = k := by rw [List.length_take]; omega
   rw [e2, ← List.append_assoc, ← hlen]
   exact h7
 have hki : (Abs.insts m).length ≤ k := by omega
 rw [List.take_of_length_le (by simpa [Abs.iT] using hki)] at hs
 have hc2 := hx2 hs
 obtain ⟨vs, u, g1, g2, g3, g4⟩ := hs.ex
 have fin : ∀ {w3 W}, Ext w2 w3 → Wr b2 w3 W → (∃ xs u', Value.tuple #[.agg #[slq (vs 0), slq (vs 1), slq (vs 2), .int .i64 (Abs.lC m).length, slq (vs 3), slq (vs 4)], slq u] = .tuple #[.agg xs.toArray, u'] ∧ New w (fun w => Abs.LayIs w xs (Abs.layout m)) W ∧ New w (fun w => SlR 4 (Flat Abs.Cell.slot) w u' (Abs.lC m)) W) ∧ Ext w W := by
  intro w3 W he hw
  have hb2 := he.obj hc2
  have g2' := (g2.ext he).mod (hw.mod (A := fun i => i = b2) rfl) fun i k hi hk e => by subst e; exact (g2.ext he).not hb2 (by decide) i hi hk
  have g4' := (g4.ext he).mod (hw.mod (A := fun i => i = b2) rfl) fun k hk e => by
   subst e
   obtain ⟨cur, hcur⟩ := (g4.ext he).blk k hk
   rw [hb2] at hcur; injection hcur with hcur; injection hcur with _ e; exact absurd e (by decide)
  have hz : w.heap.size ≤ w1.heap.size := by omega
  have nr := fun (i : Nat) (hi : i < 5) => OwR.new (e := T.a) (enc := encN) (fun _ => rfl) (OwR.low hz (g2'.own i hi))
  refine ⟨⟨[_, _, _, _, _, _], _, rfl, fun W2 mm => ⟨⟨_, _, _, _, _, rfl, nr 0 (by decide) W2 mm, nr 1 (by decide) W2 mm, nr 2 (by decide) W2 mm, nr 3 (by decide) W2 mm, nr 4 (by decide) W2 mm⟩⟩, OwR.new (e := T.r) (enc := Abs.Cell.slot) (fun _ => rfl) (OwR.low hz g4')⟩, hw.ext (E2.trans he) (by omega)⟩
 replace g1 : w2.heap[bx]? = some (.cells #[slq (vs 0), slq (vs 1), slq (vs 2), .int .i64 (Abs.lC m).length, slq (vs 3), slq (vs 4)] T.i) := g1
 refine Sg ?_
 intro w3 he3
 replace g1 := he3.obj g1
 replace g3 := he3.obj g3
 replace hc2 := he3.obj hc2
 dsimp only [slq] at g1 g3
 refine Sg ?_
 refine ⟨?_, ?_⟩
 ·refine Sg ?_
  refine ⟨?_, ?_⟩
  ·refine Sg ?_
   intro w4 hw4 hc4
   refine Sg ?_
   exact fin he3 hw4
  ·refine Sg ?_
   intro w4 hw4 hc4
   replace g3 := hw4.obj g3 (by omega)
   refine Sg ?_
   exact fin he3 hw4
 ·refine Sg ?_
  intro w4 hw4 hc4
  refine Sg ?_
  exact fin he3 hw4
end Go.Proofs.R
end
section
namespace Abs
theorem lay_ok {m : Model} (h : (check m).why = 0) : lay m = layout m := by unfold lay; rw [if_pos h]
theorem lay_no {m : Model} (h : ¬ (check m).why = 0) : lay m = noLayout := by unfold lay; rw [if_neg h]
theorem layCells_le64 {m : Model} (h : MayBe m) : (lC m).length ≤ 64 := by
 have := layCells_pieces h
 have := h.cells
 omega
open Go Go.RowKit Lite in
theorem LayIs.zero (w : World) : LayIs w [.slice none 0 0, .slice none 0 0, .slice none 0 0, .int .i64 0, .slice none 0 0, .slice none 0 0] noLayout := ⟨_, _, _, _, _, rfl, SlR.nil, SlR.nil, SlR.nil, SlR.nil, SlR.nil⟩
end Abs
namespace Go.Proofs.R
open Go Go.RowKit Lite
theorem layOf_r (cs : List Value) (m : Abs.Model) (w : World) (h : Abs.MI w cs m) (hg : m.good) (ho : OwnIs w) :
  Ret Tryz.prog F.a7 #[.agg cs.toArray] w fun v w' => (∃ xs, v = .agg xs.toArray ∧ New w (fun w => Abs.LayIs w xs (Abs.lay m)) w') ∧ Ext w w' := by
 have hM := h
 obtain ⟨o0, c0, o1, c1, o2, c2, o3, c3, o4, c4, rfl, _⟩ := h.form
 refine Ks E.a7 ?_; dsimp only [C.a7]; refine Yy ?_
 refine Sg ?_
 intro w1 b1 hb1 he1 hc1
 refine Sg ?_
 intro w2 b2 hb2 he2 hc2
 have z1 := lH hc1
 replace hc1 := he2.obj hc1
 have z2 := lH hc2
 have z3 := he1.size
 have e2 := he1.trans he2
 refine Sg ?_
 refine K.call (may_r _ m w2 (hM.ext e2) hg (ho.ext e2)) ?_
 rintro _ w3 ⟨rfl, he3⟩
 replace hc1 := he3.obj hc1
 replace hc2 := he3.obj hc2
 have e3 := e2.trans he3
 by_cases hk : (Abs.check m).why = 0
 ·rw [decide_eq_true hk]
  refine Sg ?_
  refine K.call (layout_all_r _ m w3 (hM.ext e3) hg (Abs.maybe_of hk)) ?_
  rintro _ w4 ⟨⟨xs, u, rfl, hL, hs⟩, he4⟩
  obtain ⟨x0, d0, x1, d1, x2, d2, x3, d3, x4, d4, rfl, _⟩ := hL.here.form
  obtain ⟨ou, cu, rfl, _⟩ := hs.here.form
  replace hc2 := he4.obj hc2
  have e4 := e3.trans he4
  have z4 := he3.size
  refine Sg ?_
  intro w5 b3 hb3 he5 hc3
  replace hc2 := he5.obj hc2
  refine Sg ?_
  intro w6 hw6 hc6
  have hn := (hL.ext he5 he4.size).wr hw6 (by omega)
  refine Sg ?_
  exact ⟨⟨_, rfl, by rw [Abs.lay_ok hk]; exact hn.low e3.size⟩, hw6.ext (e4.trans he5) (by omega)⟩
 ·rw [decide_eq_false hk]
  refine Sg ?_
  intro w4 hw4 hc4
  refine Sg ?_
  exact ⟨⟨[_, _, _, _, _, _], rfl, by rw [Abs.lay_no hk]; exact Stab.of fun _ => Abs.LayIs.zero _⟩, hw4.ext e3 (by omega)⟩
end Go.Proofs.R
end
section
namespace Abs
theorem chan_size {c : Chan} {s : List Scalar} (h : ChanOk c s) (h0 : c.scalar ≠ 0) : ∃ i, ∃ hi : i < s.length, c.scalar = (i : Int) + 1 ∧ s[i].size = size c.scalar s := by
 have e := h.sc.resolve_left h0
 unfold size at e ⊢
 split at e
 ·rename_i x hx
  obtain ⟨hlt, hx'⟩ := List.getElem?_eq_some_iff.1 hx
  split at e
  ·rename_i h1
   refine ⟨(c.scalar - 1).toNat, hlt, by omega, ?_⟩
   rw [hx', if_pos h1]
  ·exact absurd rfl e
 ·exact absurd rfl e
theorem laid_snoc (so wh : Int) (l : List Bd) (b : Bd) : laidFrom so wh (l ++ [b]) 0 = laidFrom so wh l 0 ++ [⟨so, wh, (l.length : Nat), b.lo, b.hi, b.kind⟩] := by
 rw [laidFrom_snoc, Nat.zero_add]
end Abs
namespace Go.Proofs.R
open Go Go.RowKit Lite
theorem ktG {α : Type} {enc : α → List Value} {e : TypeId} {sz base : Nat} {w w' : World} {v : Value} {xs : List α} (ho : OwR enc e sz base w v xs) (hg : w.grownBy w' v.ownBlock) : Kt [e] w w' := Kt.mod (A := fun k => v.ownBlock = some k) (Mod.grown hg fun k hk => hk) fun k c t hc a => by
 obtain ⟨cur, h⟩ := ho.blk k a
 rw [hc] at h; injection h with h; injection h with _ h; rw [h]; simp
theorem refLayCells_r (cs : List Value) (m : Abs.Model) (w : World) (h : Abs.MI w cs m) (hg : m.good) (hM : Abs.MayBe m) :
  Ret Tryz.prog F.lr17_Cells #[.agg cs.toArray] w fun v w' => OwR Abs.Cell.enc T.lr17_Cell 6 w.heap.size w' v (Abs.lC m) ∧ Ext w w' := by
 obtain ⟨o0, c0, o1, c1, o2, c2, o3, c3, o4, c4, rfl, h0, h1, h2, h3, h4, l0, l1, l2, l3, l4⟩ := h.form
 have few := hM.few
 refine Ks E.lr17_Cells ?_; dsimp only [C.lr17_Cells]; refine Yy ?_
 refine Sg ?_
 intro w1 b1 hb1 he1 hc1
 refine Sg ?_
 refine K.forG 4 m.vars.length [1] (fun v : SlP => [(3, .slice v.1 v.2.1 v.2.2)]) (none, 0, 0) (fun k v W => Ext w1 W ∧ OwR Abs.Cell.enc T.lr17_Cell 6 w1.heap.size W (.slice v.1 v.2.1 v.2.2) (Abs.cellsOf 1 ((Abs.vT m).take k) 0)) hZq hZq ⟨Ext.refl _, OwR.nil _ _ _ _ _⟩ ?_
 have hc1' := hc1
 clear hc1
 rintro k v S w2 hk ⟨he2, ho2⟩
 have hc1 := he2.obj hc1'
 have e2 := he1.trans he2
 refine Sg ?_
 apply K.cond <;> intro g1
 ·have hk' : k < m.vars.length := by omega
  obtain ⟨a, rfl⟩ := h1.addr (by omega)
  have hcv := ((h1.at k hk').cells).ext e2
  have hok := hM.var _ (List.getElem_mem hk')
  have hsc := Abs.var_scalar hok few.1
  have hv : k < (Abs.vT m).length := by simpa [Abs.vT] using hk'
  have htk := Abs.total_vars_le m hM (k + 1)
  rw [Abs.total_take hv] at htk
  have evk : (Abs.vT m)[k] = Abs.varBds m.scalars m.vars[k] := by simp [Abs.vT]
  rw [evk, Abs.varBds_len] at htk
  have hcl := Abs.cells_le m.vars[k] m.scalars
  refine Sg ?_
  refine K.qfn (.tuple #[.int .i64 (Abs.bounds m.vars[k] m.scalars).1, .int .i64 (Abs.bounds m.vars[k] m.scalars).2]) (fun w' e => refBounds_r m.vars[k] _ m.scalars w' (h0.ext (e2.trans e))) ?_
  refine Sg ?_
  intro w3 he3
  have ho3 := ho2.ext he3
  have hc3 := he3.obj hc1
  have he13 := he2.trans he3
  clear hc1 hcv
  refine Sg ?_
  refine K.forG 7 (Abs.cells m.vars[k] m.scalars).toNat [1, 4, 5, 6] (fun v : SlP => [(3, .slice v.1 v.2.1 v.2.2)]) v (fun j v W => Ext w1 W ∧ OwR Abs.Cell.enc T.lr17_Cell 6 w1.heap.size W (.slice v.1 v.2.1 v.2.2) (Abs.cellsOf 1 ((Abs.vT m).take k) 0 ++ Abs.laidFrom 1 k (List.replicate j (Abs.bdOf m.vars[k].scalar m.vars[k].lo m.vars[k].hi m.scalars)) 0)) hZq hZq ⟨he13, by simpa [Abs.laidFrom] using ho3⟩ ?_
  clear hc3 ho3 ho2 he2 he3 he13
  rintro j v S w4 hj ⟨he4, ho4⟩
  have hc1 := he4.obj hc1'
  have e4 := he1.trans he4
  have hcv := ((h1.at k hk').cells).ext e4
  refine Sg ?_
  refine K.qfn _ (fun w' e => refCells_r m.vars[k] _ m.scalars w' (h0.ext (e4.trans e))) ?_
  refine Sg ?_
  intro w5 he5
  replace hc1 := he5.obj hc1
  replace hcv := hcv.ext he5
  have ho5 := ho4.ext he5
  have he15 := he4.trans he5
  refine Sg ?_
  apply K.cond <;> intro g2
  ·have hj' : j < (Abs.cells m.vars[k] m.scalars).toNat := by omega
   refine Sg ?_
   refine K.call (refKindS_r m.vars[k].scalar w5 (by unfold Abs.inI; omega)) ?_
   rintro _ wA ⟨rfl, rfl⟩
   refine Sg ?_
   intro w6 b6 hb6 he6 hc6
   have ho6 := ho5.ext he6
   have he16 := he15.trans he6
   have hl : (Abs.cellsOf 1 ((Abs.vT m).take k) 0 ++ Abs.laidFrom 1 k (List.replicate j (Abs.bdOf m.vars[k].scalar m.vars[k].lo m.vars[k].hi m.scalars)) 0).length = Abs.total ((Abs.vT m).take k) + j := by
    rw [List.length_append, Abs.cellsOf_len, Abs.laidFrom_len, List.length_replicate]
   refine K.app1 (y := ⟨1, k, j, (Abs.bounds m.vars[k] m.scalars).1, (Abs.bounds m.vars[k] m.scalars).2, Abs.kindOf m.vars[k].scalar⟩) ho6 hc6 rfl (fun _ => rfl) Abs.cell_one (by rw [hl]; omega) (by rw [hl]; unfold maxLen; omega) he16.size fun oa n c w7 ho7 hg7 => ?_
   refine Sg ?_
   refine ⟨hj', Tr, (oa, n, c), hZq, ho6.extG he16 hg7 (Nat.le_refl _), ?_⟩
   rw [List.replicate_succ', Abs.laid_snoc, ← List.append_assoc, List.length_replicate, Abs.bdOf_eq]
   rw [Abs.bdOf_eq] at ho7
   exact ho7
  ·have hjj : j = (Abs.cells m.vars[k] m.scalars).toNat := by omega
   refine Sg ?_
   refine ⟨hk', Tr, v, hZq, he15, ?_⟩
   have e2 : (0 + ((Abs.vT m).take k).length : Nat) = k := by rw [List.length_take]; omega
   rw [List.take_succ_eq_append_getElem hv, evk, Abs.cellsOf_snoc, e2]
   rw [hjj] at ho5
   exact ho5
 have hkv : m.vars.length ≤ k := by omega
 rw [List.take_of_length_le (by simpa [Abs.vT] using hkv)] at ho2
 have tv := Abs.total_vars_le m hM m.vars.length
 rw [List.take_of_length_le (by simp [Abs.vT])] at tv
 refine Sg ?_
 refine K.forG 8 m.chans.length [1] (fun v : SlP => [(3, .slice v.1 v.2.1 v.2.2)]) v (fun k v W => Ext w1 W ∧ OwR Abs.Cell.enc T.lr17_Cell 6 w1.heap.size W (.slice v.1 v.2.1 v.2.2) (Abs.cellsOf 1 (Abs.vT m) 0 ++ Abs.cellsOf 2 ((Abs.cT m).take k) 0)) hZq hZq ⟨he2, by simpa [Abs.cellsOf] using ho2⟩ ?_
 clear hc1 ho2 he2 e2
 rintro k v S w2 hk ⟨he2, ho2⟩
 have hc1 := he2.obj hc1'
 have e2 := he1.trans he2
 refine Sg ?_
 apply K.cond <;> intro g2
 ·have hk' : k < m.chans.length := by omega
  obtain ⟨a, rfl⟩ := h2.addr (by omega)
  have hcv := ((h2.at k hk').cells).ext e2
  have hok := hM.chan _ (List.getElem_mem hk')
  have hsc := Abs.chan_scalar hok few.1
  have hcap := hok.cap
  have hv : k < (Abs.cT m).length := by simpa [Abs.cT] using hk'
  have htk := Abs.total_chans_le m hM (k + 1)
  rw [Abs.total_take hv] at htk
  have evk : (Abs.cT m)[k] = Abs.chanBds m.scalars m.chans[k] := by simp [Abs.cT]
  rw [evk, Abs.chanBds_len] at htk
  have hcnl : (Abs.cellsOf 1 (Abs.vT m) 0 ++ Abs.cellsOf 2 ((Abs.cT m).take k) 0).length = Abs.total (Abs.vT m) + Abs.total ((Abs.cT m).take k) := by rw [List.length_append, Abs.cellsOf_len, Abs.cellsOf_len]
  refine Sg ?_
  intro w3 b9 hb9 he3 hc9
  replace hc9 : w3.heap[b9]? = some (.cells m.chans[k].enc.toArray T.q) := hc9
  replace hc1 := he3.obj hc1
  have ho3 := ho2.ext he3
  clear hcv
  have he13 := he2.trans he3
  refine Sg ?_
  intro w4 b4 hb4 he4 hc4
  have ho4 := ho3.ext he4
  have he14 := he13.trans he4
  refine K.app1 (y := ⟨2, k, 0, 0, m.chans[k].cap, 0⟩) ho4 hc4 rfl (fun _ => rfl) Abs.cell_one (by rw [hcnl]; omega) (by rw [hcnl]; unfold maxLen; omega) he14.size fun oa n c w5 ho5 hg5 => ?_
  have hc1 := ho4.box hg5 (he4.obj hc1) (by decide)
  have hc9 := ho4.box hg5 (he4.obj hc9) (by decide)
  have he15 := ho4.extG he14 hg5 (Nat.le_refl _)
  have e5 := he1.trans he15
  have z95 := lH hc9
  clear ho2 ho3 hc4 hb4 he4 he3 hb9
  refine Su ?_
  simp -dsimp only [B9]
  refine Su ?_
  intro w6 he6
  replace hc1 := he6.obj hc1
  replace hc9 := he6.obj hc9
  have ho6 := ho5.ext he6
  have e6 := e5.trans he6
  have he16 := he15.trans he6
  refine K.cutG [1, 3, 8, 9] (fun _ : Unit => [(10, .int .i64 (Abs.chanBd m.scalars m.chans[k]).lo), (11, .int .i64 (Abs.chanBd m.scalars m.chans[k]).hi)]) (fun _ W => Ext w6 W) ?_ ?_
  ·refine Sg ?_
   apply K.cond <;> intro g3
   ·obtain ⟨i, hi, hsi, hss⟩ := Abs.chan_size hok (by omega)
    obtain ⟨a0, rfl⟩ := h0.addr (by omega)
    have hcs := ((h0.at i hi).cells).ext e6
    refine Sg ?_
    refine K.ian i (by omega) hi ?_
    refine Sg ?_
    intro w7 he7
    refine Sg ?_
    have e : Abs.chanBd m.scalars m.chans[k] = ⟨0, m.scalars[i].size, m.chans[k].scalar + 1⟩ := by unfold Abs.chanBd Abs.bdOf; rw [if_neg (by omega), hss]
    rw [e]
    exact ⟨(), hZq, he7⟩
   ·have h00 : m.chans[k].scalar = 0 := by omega
    refine Sg ?_
    have e : Abs.chanBd m.scalars m.chans[k] = ⟨min 0 m.chans[k].lo, max 0 m.chans[k].hi, 0⟩ := by unfold Abs.chanBd Abs.bdOf; rw [if_pos h00, Int.min_comm, Int.max_comm]
    rw [e]
    exact ⟨(), hZq, Ext.refl _⟩
  rintro _ S w7 he7
  replace hc1 := he7.obj hc1
  replace hc9 := he7.obj hc9
  have ho7 := ho6.ext he7
  have he17 := he16.trans he7
  have hkd : Abs.chanBd m.scalars m.chans[k] = ⟨(Abs.chanBd m.scalars m.chans[k]).lo, (Abs.chanBd m.scalars m.chans[k]).hi, Abs.kindOf m.chans[k].scalar⟩ := by
   unfold Abs.chanBd Abs.bdOf Abs.kindOf
   split <;> rfl
  have hx9 : ∀ {W : World}, W.heap[b9]? = w7.heap[b9]? → _ := fun e => e.trans hc9
  refine Sg ?_
  refine K.whG [1, 8, 9, 10, 11] (fun x : SlP × Nat => [(3, .slice x.1.1 x.1.2.1 x.1.2.2), (12, .int .i64 ((x.2 : Int) + 1))]) ((oa, n, c), 0) (fun x W => (Ext w1 W ∧ W.heap[b9]? = w7.heap[b9]? ∧ (x.2 : Int) ≤ m.chans[k].cap) ∧ OwR Abs.Cell.enc T.lr17_Cell 6 w1.heap.size W (.slice x.1.1 x.1.2.1 x.1.2.2) (Abs.cellsOf 1 (Abs.vT m) 0 ++ Abs.cellsOf 2 ((Abs.cT m).take k) 0 ++ Abs.laidFrom 2 k (⟨0, m.chans[k].cap, 0⟩ :: List.replicate x.2 (Abs.chanBd m.scalars m.chans[k])) 0)) (fun x => (m.chans[k].cap - x.2).toNat) hZq ⟨⟨he17, rfl, by simp only; omega⟩, by simpa [Abs.laidFrom] using ho7⟩ ?_
  clear hc1 hc9 ho7 ho6 ho5
  rintro ⟨v, j⟩ S w8 ⟨⟨he18, hb9, hj⟩, ho8⟩
  have hc1 := he18.obj hc1'
  have hc9 := hx9 hb9
  simp only at hj
  refine Sg ?_
  apply K.cond <;> intro g4
  ·refine Sg ?_
   refine K.call (refKindS_r m.chans[k].scalar w8 (by unfold Abs.inI; omega)) ?_
   rintro _ wA ⟨rfl, rfl⟩
   refine Sg ?_
   intro w9 b10 hb10 he9 hc10
   have ho9 := ho8.ext he9
   have he19 := he18.trans he9
   have hl : (Abs.cellsOf 1 (Abs.vT m) 0 ++ Abs.cellsOf 2 ((Abs.cT m).take k) 0 ++ Abs.laidFrom 2 k (⟨0, m.chans[k].cap, 0⟩ :: List.replicate j (Abs.chanBd m.scalars m.chans[k])) 0).length = Abs.total (Abs.vT m) + Abs.total ((Abs.cT m).take k) + (j + 1) := by
    rw [List.length_append, hcnl, Abs.laidFrom_len, List.length_cons, List.length_replicate]
   refine K.app1 (y := ⟨2, k, (j : Int) + 1, (Abs.chanBd m.scalars m.chans[k]).lo, (Abs.chanBd m.scalars m.chans[k]).hi, Abs.kindOf m.chans[k].scalar⟩) ho9 hc10 rfl (fun _ => rfl) Abs.cell_one (by rw [hl]; omega) (by rw [hl]; unfold maxLen; omega) he19.size fun oa n c w10 ho10 hg10 => ?_
   have hc9' := ho9.box hg10 (he9.obj hc9) (by decide)
   refine Sg ?_
   refine ⟨((oa, n, c), j + 1), hZq, ⟨⟨ho9.extG he19 hg10 (Nat.le_refl _), hc9'.trans (hx9 rfl).symm, by simp only; omega⟩, ?_⟩, by simp only; omega⟩
   rw [List.replicate_succ', ← List.cons_append, Abs.laid_snoc, ← List.append_assoc, List.length_cons, List.length_replicate]
   rw [hkd] at ho10 ⊢
   exact ho10
  ·refine Sg ?_
   refine ⟨hk', Tr, v, hZq, he18, ?_⟩
   have e2 : (0 + ((Abs.cT m).take k).length : Nat) = k := by rw [List.length_take]; omega
   have ej : j = m.chans[k].cap.toNat := by omega
   rw [List.take_succ_eq_append_getElem hv, evk, Abs.cellsOf_snoc, e2, ← List.append_assoc]
   rw [ej] at ho8
   exact ho8
 have hkc : m.chans.length ≤ k := by omega
 rw [List.take_of_length_le (by simpa [Abs.cT] using hkc)] at ho2
 refine Sg ?_
 refine K.call (refInsts_r _ m w2 (h.ext e2) hg) ?_
 rintro vi wi ⟨hvi, hei⟩
 obtain ⟨oi, ci, rfl, _⟩ := hvi.form
 have hinx : ∀ {W : World}, Kt [T.lr17_Cell] wi W → InstsAt W (.slice oi (Abs.insts m).length ci) (Abs.insts m) := fun k => OwR.slF (enc := Abs.Inst.enc) (fun _ => rfl) (hvi.kt k (by decide))
 have hil : (Abs.insts m).length ≤ 30 := by have := Abs.insts_len m; have := hM.procs; omega
 have hoi := ho2.ext hei
 have he1i := he2.trans hei
 have z2i := hei.size
 refine Sg ?_
 refine K.forG 14 (Abs.insts m).length [1, 13] (fun v : SlP => [(3, .slice v.1 v.2.1 v.2.2)]) v (fun k v W => (Ext w1 W ∧ Kt [T.lr17_Cell] wi W) ∧ OwR Abs.Cell.enc T.lr17_Cell 6 w1.heap.size W (.slice v.1 v.2.1 v.2.2) (Abs.cellsOf 1 (Abs.vT m) 0 ++ Abs.cellsOf 2 (Abs.cT m) 0 ++ Abs.cellsOf 3 ((Abs.iT m).take k) 0)) hZq hZq ⟨⟨he1i, Kt.refl⟩, by simpa [Abs.cellsOf] using hoi⟩ ?_
 clear hc1 ho2 he2 e2 hoi hei he1i
 rintro k v S w2 hk ⟨⟨he2, kt2⟩, ho2⟩
 have hin := hinx kt2
 have hc1 := he2.obj hc1'
 have e2 := he1.trans he2
 refine Sg ?_
 apply K.cond <;> intro g3
 ·have hk' : k < (Abs.insts m).length := by omega
  obtain ⟨ai, rfl⟩ := hin.addr (by omega)
  have hof := Abs.insts_of _ (List.getElem_mem hk')
  obtain ⟨p, hp, hpe, hbe⟩ := Abs.instBds_at hof
  have hok := hM.proc _ (List.getElem_mem hp)
  have hlocs := hok.locs
  have hfew := hok.few.1
  obtain ⟨a, rfl⟩ := h3.addr (by omega)
  obtain ⟨hsn, vv, vc, hpc, hpv, hpcm⟩ := h3.at p hp
  obtain ⟨ov, cv, rfl, lv⟩ := hpv.form
  obtain ⟨oc, cc, rfl, lc⟩ := hpcm.form
  replace hpc := hpc.ext e2
  have hv : k < (Abs.iT m).length := by simpa [Abs.iT] using hk'
  have htk := Abs.total_insts_le m hM (k + 1)
  rw [Abs.total_take hv] at htk
  have evk : (Abs.iT m)[k] = Abs.procBds m.scalars m.procs[p] := by simp [Abs.iT, hbe]
  rw [evk, Abs.procBds_len] at htk
  have hcnl : (Abs.cellsOf 1 (Abs.vT m) 0 ++ Abs.cellsOf 2 (Abs.cT m) 0 ++ Abs.cellsOf 3 ((Abs.iT m).take k) 0).length = Abs.total (Abs.vT m) + Abs.total (Abs.cT m) + Abs.total ((Abs.iT m).take k) := by rw [List.length_append, List.length_append, Abs.cellsOf_len, Abs.cellsOf_len, Abs.cellsOf_len]
  refine Sg ?_
  intro w3 he3
  replace hpc := hpc.ext he3
  replace hc1 := he3.obj hc1
  replace hin := hin.ext Flat.ext he3
  have ho3 := ho2.ext he3
  have he13 := he2.trans he3
  refine Sg ?_
  refine K.ian p hpe hp ?_
  refine Sg ?_
  intro wn b15 hb15 hen hcn
  refine ⟨hen, ?_⟩
  refine Sg ?_
  intro w4 hw4 hc4
  have he34 : Ext w3 w4 := hw4.ext hen hb15
  replace hc4 : w4.heap[b15]? = some (.cells (m.procs[p].enc (.slice ov m.procs[p].vars.length cv) (.slice oc m.procs[p].cmds.length cc)).toArray T.g) := hc4
  unfold Abs.Proc.enc at hc4
  replace hc1 := he34.obj hc1
  have ho4 := ho3.ext he34
  have he14 := he13.trans he34
  clear hw4 hen hcn hpc ho3 ho2 hin
  refine Sg ?_
  intro w5 b5 hb5 he5 hc5
  have ho5 := ho4.ext he5
  have he15 := he14.trans he5
  refine K.app1 (y := ⟨3, k, 0, 0, m.procs[p].locs - 1, 0⟩) ho5 hc5 rfl (fun _ => rfl) Abs.cell_one (by rw [hcnl]; omega) (by rw [hcnl]; unfold maxLen; omega) he15.size fun oa n c w6 ho6 hg6 => ?_
  have hc1 := ho5.box hg6 (he5.obj hc1) (by decide)
  have hc15 := ho5.box hg6 (he5.obj hc4) (by decide)
  have he16 := ho5.extG he15 hg6 (Nat.le_refl _)
  have kt6 : Kt [T.lr17_Cell] wi w6 := ((kt2.trans (Kt.ext (he3.trans he34))).trans (Kt.ext he5)).trans (ktG ho5 hg6)
  clear hc4 ho4
  have hx15 : ∀ {W : World}, W.heap[b15]? = w6.heap[b15]? → _ := fun e => e.trans hc15
  refine Sg ?_
  refine K.forG 16 m.procs[p].vars.length [1, 13, 14, 15] (fun v : SlP => [(3, .slice v.1 v.2.1 v.2.2)]) (oa, n, c) (fun j v W => ((Ext w1 W ∧ Kt [T.lr17_Cell] wi W) ∧ W.heap[b15]? = w6.heap[b15]?) ∧ OwR Abs.Cell.enc T.lr17_Cell 6 w1.heap.size W (.slice v.1 v.2.1 v.2.2) (Abs.cellsOf 1 (Abs.vT m) 0 ++ Abs.cellsOf 2 (Abs.cT m) 0 ++ Abs.cellsOf 3 ((Abs.iT m).take k) 0 ++ Abs.laidFrom 3 k (⟨0, m.procs[p].locs - 1, 0⟩ :: (m.procs[p].vars.take j).map fun v => Abs.bdOf v.scalar v.lo v.hi m.scalars) 0)) hZq hZq ⟨⟨⟨he16, kt6⟩, rfl⟩, by simpa [Abs.laidFrom] using ho6⟩ ?_
  clear hc1 hc15 ho6
  rintro j v S w7 hj ⟨⟨⟨he17, kt7⟩, hb15⟩, ho7⟩
  have hc1 := he17.obj hc1'
  have hc15 := hx15 hb15
  have e7 := he1.trans he17
  refine Sg ?_
  apply K.cond <;> intro g4
  ·have hj' : j < m.procs[p].vars.length := by omega
   obtain ⟨aj, rfl⟩ := hpv.addr (by omega)
   have hcv := ((hpv.at j hj').cells).ext e7
   have hvok := hok.var _ (List.getElem_mem hj')
   have hsc := Abs.var_scalar hvok few.1
   refine Sg ?_
   refine K.qfn (.tuple #[.int .i64 (Abs.bounds m.procs[p].vars[j] m.scalars).1, .int .i64 (Abs.bounds m.procs[p].vars[j] m.scalars).2]) (fun w' e => refBounds_r m.procs[p].vars[j] _ m.scalars w' (h0.ext (e7.trans e))) ?_
   refine Sg ?_
   intro w8 he8
   replace hc1 := he8.obj hc1
   replace hc15 := he8.obj hc15
   replace hcv := hcv.ext he8
   have ho8 := ho7.ext he8
   have he18 := he17.trans he8
   refine Sg ?_
   refine K.call (refKindS_r m.procs[p].vars[j].scalar w8 (by unfold Abs.inI; omega)) ?_
   rintro _ wA ⟨rfl, rfl⟩
   refine Sg ?_
   intro w9 b9 hb9 he9 hc9
   have ho9 := ho8.ext he9
   have he19 := he18.trans he9
   have hl : (Abs.cellsOf 1 (Abs.vT m) 0 ++ Abs.cellsOf 2 (Abs.cT m) 0 ++ Abs.cellsOf 3 ((Abs.iT m).take k) 0 ++ Abs.laidFrom 3 k (⟨0, m.procs[p].locs - 1, 0⟩ :: (m.procs[p].vars.take j).map fun v => Abs.bdOf v.scalar v.lo v.hi m.scalars) 0).length = Abs.total (Abs.vT m) + Abs.total (Abs.cT m) + Abs.total ((Abs.iT m).take k) + (j + 1) := by
    rw [List.length_append, hcnl, Abs.laidFrom_len, List.length_cons, List.length_map, List.length_take]
    omega
   have hlt : ((m.procs[p].vars.take j).map fun v => Abs.bdOf v.scalar v.lo v.hi m.scalars).length = j := by simp; omega
   refine K.app1 (y := ⟨3, k, 1 + (j : Int), (Abs.bounds m.procs[p].vars[j] m.scalars).1, (Abs.bounds m.procs[p].vars[j] m.scalars).2, Abs.kindOf m.procs[p].vars[j].scalar⟩) ho9 hc9 rfl (fun _ => rfl) Abs.cell_one (by rw [hl]; omega) (by rw [hl]; unfold maxLen; omega) he19.size fun oa n c w10 ho10 hg10 => ?_
   have hc15' := ho9.box hg10 (he9.obj hc15) (by decide)
   refine Sg ?_
   refine ⟨hj', Tr, (oa, n, c), hZq, ⟨⟨ho9.extG he19 hg10 (Nat.le_refl _), (kt7.trans (Kt.ext (he8.trans he9))).trans (ktG ho9 hg10)⟩, hc15'.trans (hx15 rfl).symm⟩, ?_⟩
   rw [List.take_succ_eq_append_getElem hj', List.map_append, ← List.cons_append, List.map_cons, List.map_nil, Abs.laid_snoc, ← List.append_assoc, List.length_cons, hlt, Abs.bdOf_eq m.procs[p].vars[j], show ((j + 1 : Nat) : Int) = 1 + (j : Int) from by omega]
   exact ho10
  ·refine Sg ?_
   refine ⟨hk', Tr, v, hZq, ⟨he17, kt7⟩, ?_⟩
   have e2 : (0 + ((Abs.iT m).take k).length : Nat) = k := by rw [List.length_take]; omega
   rw [List.take_of_length_le (l := m.procs[p].vars) (by omega)] at ho7
   rw [List.take_succ_eq_append_getElem hv, evk, Abs.cellsOf_snoc, e2, ← List.append_assoc]
   exact ho7
 ·rw [List.take_of_length_le (by simp [Abs.iT]; omega)] at ho2
  refine Sg ?_
  exact ⟨OwR.low he1.size ho2, e2⟩
end Go.Proofs.R
end