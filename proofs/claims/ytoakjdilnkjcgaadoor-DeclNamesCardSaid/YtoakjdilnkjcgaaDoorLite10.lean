/- Lite, part 10: rules that find what was known by themselves: cells of one's own blocks, elements of lists, loops that count. -/
import Derived.Test.YtoakjdilnkjcgaaDoorLite9
set_option linter.all false
namespace Lite
open Go Go.RowKit
/-- Elements whose cells are told by a list. -/
class Cel {α : Type} (R : World → Addr → α → Prop) (enc : outParam (α → List Value)) : Prop where
  cel : ∀ w a x, R w a x → CellsAt w a (enc x)
instance instCelFlat {α : Type} (enc : α → List Value) : Cel (Flat enc) enc := ⟨fun _ _ _ h => h⟩
section
variable {P : Program} {Q : LX → Fr → World → Prop} {K3 : Value → Prop} {K : Value → World → Prop} {S : Fr} {w w0 : World}
theorem K.ldb {b j : Nat} {c : List Value} {ty : TypeId} {f : Nat × Nat} {v : Value} {t} (hb : w0.heap[b]? = some (.cells c.toArray ty f)) (he : Ext w0 w) (hj : c[j]? = some v) (hk : K3 v) : LdVCh (.pointer (some (Addr.add ⟨b, 0, none⟩ j))) w K3 t :=
  K.ld (cell_blk (he.obj hb) (by simpa using hj)) hk
theorem K.ldb0 {b : Nat} {c : List Value} {ty : TypeId} {f : Nat × Nat} {v : Value} {t} (hb : w0.heap[b]? = some (.cells c.toArray ty f)) (he : Ext w0 w) (hj : c[0]? = some v) (hk : K3 v) : LdVCh (.pointer (some ⟨b, 0, none⟩)) w K3 t :=
  K.ld (cell_blk0 (he.obj hb) (by simpa using hj)) hk
theorem K.ldAb {b n : Nat} {c : List Value} {ty : TypeId} {f : Nat × Nat} {t} (hb : w0.heap[b]? = some (.cells c.toArray ty f)) (he : Ext w0 w) (hn : c.length = n) (hk : K3 (.agg c.toArray)) : LdAVCh n (.pointer (some ⟨b, 0, none⟩)) w K3 t :=
  K.ldA (cellsAt_blk (he.obj hb)) hn hk
theorem K.ldE {α : Type} {sz i j n c : Nat} {R : World → Addr → α → Prop} {enc : α → List Value} [Cel R enc] {a : Addr} {xs : List α} {v : Value} {t} (hl : SlR sz R w0 (.slice (some a) n c) xs) (he : Ext w0 w) (hi : i < xs.length) (hj : (enc xs[i])[j]? = some v)
    (hk : K3 v) : LdVCh (.pointer (some ((a.add (i * sz)).add j))) w K3 t := K.ld (he.cell (Cel.cel _ _ _ (hl.at i hi) j v hj)) hk
theorem K.ldE0 {α : Type} {i n c : Nat} {R : World → Addr → α → Prop} {enc : α → List Value} [Cel R enc] {a : Addr} {xs : List α} {v : Value} {t} (hl : SlR 1 R w0 (.slice (some a) n c) xs) (he : Ext w0 w) (hi : i < xs.length) (hj : (enc xs[i])[0]? = some v)
    (hk : K3 v) : LdVCh (.pointer (some (a.add (i * 1)))) w K3 t := by
  have h := Cel.cel (R := R) _ _ _ (hl.at i hi) 0 v hj
  rw [add_zero] at h
  exact K.ld (he.cell h) hk
theorem K.ldAE {α : Type} {sz i n c m : Nat} {R : World → Addr → α → Prop} {enc : α → List Value} [Cel R enc] {a : Addr} {xs : List α} {t} (hl : SlR sz R w0 (.slice (some a) n c) xs) (he : Ext w0 w) (hi : i < xs.length) (hn : (enc xs[i]).length = m)
    (hk : K3 (.agg (enc xs[i]).toArray)) : LdAVCh m (.pointer (some (a.add (i * sz)))) w K3 t := K.ldA ((Cel.cel _ _ _ (hl.at i hi)).ext he) hn hk
theorem K.condT {p : Prop} [Decidable p] {A B : Prop} {t} (h : p) (hk : A) : CondVCh (.bool (decide p)) A B t := K.cond (fun _ => hk) fun h' => absurd h h'
theorem K.condF {p : Prop} [Decidable p] {A B : Prop} {t} (h : ¬ p) (hk : B) : CondVCh (.bool (decide p)) A B t := K.cond (fun h' => absurd h' h) fun _ => hk
theorem K.condbT {u : Bool} {A B : Prop} {t} (h : u = true) (hk : A) : CondVCh (.bool u) A B t := K.condb (fun _ => hk) fun h' => by rw [h] at h'; cases h'
theorem K.condbF {u : Bool} {A B : Prop} {t} (h : u = false) (hk : B) : CondVCh (.bool u) A B t := K.condb (fun h' => by rw [h] at h'; cases h') fun _ => hk
/-- An index that is a plain number. -/
theorem K.iaC {sz : Nat} {a : Addr} {len cap : Nat} {k : IntKind} {i : Nat} {t} (h : i < len) (hk : K3 (.pointer (some (a.add (i * sz))))) : IaVCh sz (.slice (some a) len cap) (.int k (i : Int)) K3 t := K.ian i rfl h hk
theorem K.iaE {α : Type} {sz sz' n c : Nat} {R : World → Addr → α → Prop} {oa : Option Addr} {xs : List α} {k : IntKind} {i : Nat} {t} (hl : SlR sz' R w0 (.slice oa n c) xs) (h : i < n) (hk : ∀ a, oa = some a → K3 (.pointer (some (a.add (i * sz))))) :
    IaVCh sz (.slice oa n c) (.int k (i : Int)) K3 t := by
  obtain ⟨oa', cap, e, _⟩ := hl.ex
  injection e with e1 e2 e3
  subst e2
  obtain ⟨a, rfl⟩ := hl.addr (by omega)
  exact K.iaC h (hk a rfl)
/-- A variable of one's own, made of a struct at once. -/
theorem K.newst {d n : Nat} {ty : TypeId} {cs : Array Value} {x : Operand} {r : List Step} {KK : Fr → World → Prop} {vs : List Value} {t1 t} (hx : ∀ v, ev (upd S d v) x = .agg vs.toArray) (hn : vs.length = n) (hc : cs.size = n) (h1 : ∀ u ∈ vs, u.oneCell' = true)
    (hk : ∀ w1 b, w.heap.size ≤ b → Ext w w1 → w1.heap[b]? = some (.cells vs.toArray ty) → stepsh P r (upd S d (.pointer (some ⟨b, 0, none⟩))) w1 KK ⟨⟩) :
    NewVCh ty cs w (fun v w' => stepsh P (⟨none, none, .e (.stA n (.tmp d) x)⟩ :: r) (put S (some d) v) w' KK t1) t := by
  refine K.new fun w1 b hb he hh => ?_
  simp -dsimp only [A0,A1,A2,A3,A4,A5,A6,A7,A8,A9,B0,B1,B2,B3,B4,B5,B6,B7,B8,B9,C0,C1,C2,C3,C4,C5,C6,C7,C8,C9,D0,D1,D2,D3,D4,D5,D6,D7,D8,D9,E0,E1,E2,E3,E4,E5,E6,E7,E8,E9,G0,G1,G2,G3,G4,G5,G6,G7,G8,G9,H0,H1,H2,H3,H4,H5,H6,H7,H8,H9,J0,J1,J2,J3,J4,J5,J6,J7,J8,J9,L0,L1,L2,L3,L4,L5,L6,L7,L8,L9,M0,M1,M2,M3,M4,M5,M6,M7,M8,M9,N0,N1,N2,N3,N4,N5,N6,N7,N8,N9,P0,P1,P2,P3,P4,P5,P6,P7,P8,P9,Q0,Q1,Q2,Q3,Q4,Q5,Q6,Q7,Q8,Q9,R0,R1,R2,R3,R4,R5,R6,R7,R8,R9,T0,T1,T2,T3,T4,T5,T6,T7,T8,T9,U0,U1,U2,U3,U4,U5,U6,U7,U8,U9,V0,V1,V2,V3,V4,V5,Nat.reduceAdd,Nat.reduceEqDiff,reduceIte,reduceCtorEq,Bool.false_eq_true, hx]
  refine K.stAb (cs := vs.toArray) hh hc (by simpa using hn) (by simpa using h1) fun w2 hw hc2 => ?_
  exact hk w2 b hb (hw.ext he hb) hc2
/-- A loop that counts. -/
theorem K.for1 {b : LC} {t} (i N : Nat) (J : Nat → Fr → World → Prop) (hi0 : S i = .int .i64 0) (h0 : J 0 S w)
    (hr : ∀ (k : Nat) S' w', (∀ t, b.dsts.contains t = false → S' t = S t) → k ≤ N → S' i = .int .i64 k → J k S' w' →
      vch P b (thenQh (fun S'' w'' => k < N ∧ S'' i = .int .i64 ((k : Int) + 1) ∧ J (k + 1) S'' w'') Q ⟨⟩) S' w' ⟨⟩) : LoopVCh P b Q S w t := by
  refine K.loop (fun S w => ∃ k : Nat, k ≤ N ∧ S i = .int .i64 k ∧ J k S w) (fun S _ => (N - intOf (S i)).toNat) ⟨0, Nat.zero_le _, by simpa using hi0, h0⟩ ?_
  rintro S' w' hS ⟨k, hk, hi, hj⟩
  have h := hr k S' w' hS hk hi hj
  unfold vch thenQh at *
  refine vc_keep b _ _ S' w' (fun e S'' w'' _ h => ?_) h
  match e, h with
  | .normal, ⟨h1, h2, h3⟩ => exact ⟨⟨k + 1, h1, by simpa using h2, h3⟩, by simp [hi, h2, intOf]; omega⟩
  | .exit _, h => exact h
  | .ret, h => exact h
/-- A map of one's own, written. -/
theorem K.mupb {KW : World → Prop} {d : TypeDesc} {r : Nat} {k v : Value} {es : Array MapEntry} {c : Nat} {t} (h1 : w.heap[r]? = some (.map es c)) (h2 : Instr.findNow d k es.toList 0 = some none)
    (hk : ∀ w1, Wr r w w1 → w1.heap[r]? = some (.map (es.push { key := k, val := v, born := c }) (c + 1)) → KW w1) : MupVCh d (.map (some r)) k v w KW t :=
  K.mup h1 h2 (hk _ (Wr.setO _ _ _) (setO_same (lt_of_heap h1)))
/-- The head of a slice. -/
theorem K.slcT {sz : Nat} {oa : Option Addr} {n cap : Nat} {x : Operand} {k : IntKind} {t} (h : Nat) (hx : ev S x = .int k (h : Int)) (hh : h ≤ cap) (hk : K3 (.slice oa h cap)) : SlcVCh S sz (.slice oa n cap) none (some x) none K3 t := by
  refine K.slc 0 h cap (by simp [bnd]) (by simp [bnd, hx]) (by simp [bnd]) ⟨Nat.zero_le _, hh, Nat.le_refl _⟩ (by simp) ?_
  have e : (if cap = 0 then oa else oa.map (·.add (0 * sz))) = oa := by
    split
    · rfl
    · cases oa with
      | none => rfl
      | some a => simp [add_zero]
  rw [e]; exact hk
/-- The tail of a slice. -/
theorem K.slcD {sz : Nat} {oa : Option Addr} {n cap : Nat} {x : Operand} {k : IntKind} {t} (l : Nat) (hx : ev S x = .int k (l : Int)) (hl : l ≤ n ∧ n ≤ cap) (hk : K3 (.slice (if cap = l then oa else oa.map (·.add (l * sz))) (n - l) (cap - l))) :
    SlcVCh S sz (.slice oa n cap) (some x) none none K3 t :=
  K.slc l n cap (by simp [bnd, hx]) (by simp [bnd]) (by simp [bnd]) ⟨hl.1, hl.2, Nat.le_refl _⟩ (by simp) hk
end
theorem SlR.head {α : Type} {sz : Nat} {R : World → Addr → α → Prop} {w : World} {oa : Option Addr} {n c : Nat} {xs : List α} (h : SlR sz R w (.slice oa n c) xs) (k : Nat) (hk : k ≤ xs.length) : SlR sz R w (.slice oa k c) (xs.take k) := by
  have := h.take k hk
  have e : (if c = 0 then oa else oa.map (·.add (0 * sz))) = oa := by
    split
    · rfl
    · cases oa with
      | none => rfl
      | some a => simp [add_zero]
  rw [e] at this
  exact this
theorem SlR.len {α : Type} {sz : Nat} {R : World → Addr → α → Prop} {w : World} {oa : Option Addr} {n c : Nat} {xs : List α} (h : SlR sz R w (.slice oa n c) xs) : n = xs.length ∧ n ≤ c ∧ c ≤ maxLen := by
  obtain ⟨oa', cap, e, h2, h3, _⟩ := h.ex
  injection e with e1 e2 e3
  subst e2 e3
  exact ⟨rfl, h2, h3⟩
/-- From the l-th on. -/
theorem SlR.tail {α : Type} {sz : Nat} {R : World → Addr → α → Prop} {w : World} {oa : Option Addr} {n c : Nat} {xs : List α} (h : SlR sz R w (.slice oa n c) xs) (l : Nat) (hl : l ≤ xs.length) :
    SlR sz R w (.slice (if c = l then oa else oa.map (·.add (l * sz))) (n - l) (c - l)) (xs.drop l) := by
  obtain ⟨e1, e2, e3⟩ := h.len
  subst e1
  obtain ⟨oa', cap, e, h2, h3, h4, h5⟩ := h.ex
  injection e with e1 e2 e3
  subst e1 e3
  refine ⟨_, _, by rw [List.length_drop], by rw [List.length_drop]; omega, by omega, fun hn => ?_, fun a ha i hi => ?_⟩
  · have : xs ≠ [] := by intro e; subst e; simp at hn
    have := h4 this
    split
    · exact this
    · cases oa with
      | none => cases this
      | some a => rfl
  · have hi' : l + i < xs.length := by rw [List.length_drop] at hi; omega
    rw [if_neg (by omega)] at ha
    cases oa with
    | none => cases ha
    | some b =>
      simp only [Option.map_some, Option.some.injEq] at ha
      subst ha
      rw [add_add, ← Nat.add_mul, List.getElem_drop]
      exact h5 b rfl _ hi'
/-! ### Worlds in which some blocks may have changed -/
structure Mod (A : Nat → Prop) (w w' : World) : Prop where
  os : w'.os = w.os
  tape : w'.tape = w.tape
  output : w'.output = w.output
  size : w.heap.size ≤ w'.heap.size
  block : ∀ k, k < w.heap.size → ¬ A k → w'.heap[k]? = w.heap[k]?
theorem Mod.refl (A : Nat → Prop) (w : World) : Mod A w w := ⟨rfl, rfl, rfl, Nat.le_refl _, fun _ _ _ => rfl⟩
theorem Mod.trans {A : Nat → Prop} {a b c : World} (h : Mod A a b) (k : Mod A b c) : Mod A a c :=
  ⟨k.os.trans h.os, k.tape.trans h.tape, k.output.trans h.output, Nat.le_trans h.size k.size, fun i hi hn => (k.block i (Nat.lt_of_lt_of_le hi h.size) hn).trans (h.block i hi hn)⟩
theorem Mod.then {A B : Nat → Prop} {a b c : World} (h : Mod B a b) (k : Mod A b c) (hs : ∀ i, i < a.heap.size → A i → B i) : Mod B a c :=
  ⟨k.os.trans h.os, k.tape.trans h.tape, k.output.trans h.output, Nat.le_trans h.size k.size, fun i hi hn => (k.block i (Nat.lt_of_lt_of_le hi h.size) fun e => hn (hs i hi e)).trans (h.block i hi hn)⟩
theorem Ext.mod {A : Nat → Prop} {w w' : World} (h : Ext w w') : Mod A w w' := ⟨h.os, h.tape, h.output, h.size, fun _ hk _ => h.heap hk⟩
theorem Wr.mod {A : Nat → Prop} {b : Nat} {w w' : World} (h : Wr b w w') (hb : A b) : Mod A w w' := ⟨h.os, h.tape, h.output, by rw [h.size]; exact Nat.le_refl _, fun k _ hn => h.block k fun e => hn (e ▸ hb)⟩
theorem Mod.grown {A : Nat → Prop} {w w' : World} {row : Option Nat} (h : w.grownBy w' row) (hr : ∀ k, row = some k → A k) : Mod A w w' := ⟨h.os, h.tape, h.output, h.size, fun k hk hn => h.block k hk fun e => hn (hr k e.symm)⟩
theorem Mod.ext {A : Nat → Prop} {w0 w w' : World} (h : Mod A w w') (he : Ext w0 w) (hA : ∀ k, k < w0.heap.size → ¬ A k) : Ext w0 w' :=
  ⟨h.os.trans he.os, h.tape.trans he.tape, h.output.trans he.output, Nat.le_trans he.size h.size, fun k hk => (h.block k (Nat.lt_of_lt_of_le hk he.size) (hA k hk)).trans (he.heap hk)⟩
theorem Mod.obj {A : Nat → Prop} {w w' : World} {k : Nat} {o : Obj} (h : Mod A w w') (hn : ¬ A k) (hk : w.heap[k]? = some o) : w'.heap[k]? = some o := (h.block k (lt_of_heap hk) hn).trans hk
theorem Mod.weak {A B : Nat → Prop} {w w' : World} (h : Mod A w w') (hs : ∀ k, A k → B k) : Mod B w w' := ⟨h.os, h.tape, h.output, h.size, fun k hk hn => h.block k hk fun e => hn (hs k e)⟩
/-! ### Rows of one's own -/
/-- A row of one's own that holds these. -/
def OwR {α : Type} (enc : α → List Value) (e : TypeId) (sz base : Nat) (w : World) (v : Value) (xs : List α) : Prop := w.ownsRow base e sz v xs.length (xs.flatMap enc)
section
variable {α : Type} {enc : α → List Value} {e : TypeId} {sz base : Nat} {w w' : World} {v : Value} {xs : List α}
theorem OwR.nil (enc : α → List Value) (e : TypeId) (sz base : Nat) (w : World) : OwR enc e sz base w (.slice none 0 0) [] := World.ownsRow_nil w base e sz
theorem OwR.ext (he : Ext w w') (h : OwR enc e sz base w v xs) : OwR enc e sz base w' v xs := ownsRow_ext he h
theorem OwR.wr {b : Nat} (hw : Wr b w w') (hb : b < base) (h : OwR enc e sz base w v xs) : OwR enc e sz base w' v xs :=
  World.ownsRow.kept (row := some b) h ⟨hw.os, hw.tape, hw.output, by rw [hw.size]; exact Nat.le_refl _, fun k _ hk => hw.block k (fun e => hk (by rw [e]))⟩ (by
    cases hv : v.ownBlock with
    | none => exact .inl rfl
    | some k => exact .inr (by have := (World.ownsRow.lt h k hv).1; intro e; injection e with e; omega))
theorem OwR.lt (h : OwR enc e sz base w v xs) : ∀ k, v.ownBlock = some k → base ≤ k ∧ k < w.heap.size := World.ownsRow.lt h
theorem OwR.form (h : OwR enc e sz base w v xs) : ∃ oa cap, v = .slice oa xs.length cap ∧ xs.length ≤ cap ∧ cap ≤ maxLen := by
  obtain ⟨oa, cap, h1, h2, h3, _⟩ := ownsRow_form h
  exact ⟨oa, cap, h1, h2, h3⟩
theorem OwR.slr (hsz : ∀ x, (enc x).length = sz) (h : OwR enc e sz base w v xs) : SlR sz (Flat enc) w v xs := ownsRow_slr hsz h
theorem OwR.head {oa : Option Addr} {n cap : Nat} (hsz : ∀ x, (enc x).length = sz) (h : OwR enc e sz base w (.slice oa n cap) xs) (k : Nat) (hk : k ≤ xs.length) : OwR enc e sz base w (.slice oa k cap) (xs.take k) := by
  have hfl : ∀ (xs : List α) (k : Nat), (xs.flatMap enc).take (k * sz) = (xs.take k).flatMap enc := by
    intro xs
    induction xs with
    | nil => intro k; simp
    | cons x xs ih =>
      intro k
      cases k with
      | zero => simp
      | succ k =>
        simp only [List.flatMap_cons, List.take_succ_cons]
        rw [List.take_append, hsz, show (k + 1) * sz - sz = k * sz from by rw [Nat.add_mul]; omega, ih, List.take_of_length_le (by rw [hsz, Nat.add_mul]; omega)]
  have hl : (xs.take k).length = k := by simp [List.length_take]; omega
  refine ⟨by rw [hl, flat_len hsz, hl], ?_⟩
  rcases h.2 with ⟨h1, h2⟩ | ⟨g, cap', cur, h1, h2, h3, h4, h5, h6, h7⟩
  · injection h1 with e1 e2 e3
    subst e1 e3
    have : xs.length = 0 := h2
    exact .inl ⟨by congr 1; omega, by omega⟩
  · injection h1 with e1 e2 e3
    subst e1 e3
    refine .inr ⟨g, cap, cur, by rw [hl], h2, h3, by omega, h5, h6, ?_⟩
    rw [hl, ← hfl, ← h7, List.take_take, Nat.min_eq_left (Nat.mul_le_mul_right _ hk)]
/-- One element is put behind. -/
theorem K.appO {P : Program} {KK : Value → World → Prop} {ty : TypeId} {b : Nat} {s : Value} {a : Addr} {m c : Nat} {ys : List α} {t} (hs : OwR enc e sz base w s xs) (hsz : ∀ x, (enc x).length = sz) (hc : CellsAt w a (ys.flatMap enc)) (hm : m = ys.length)
    (h1 : ∀ y, ∀ u ∈ enc y, u.oneCell' = true) (hb : (xs.length + ys.length) * b ≤ 140737488355328) (h63 : xs.length + ys.length ≤ maxLen) (hbase : base ≤ w.heap.size)
    (hk : ∀ v' w', OwR enc e sz base w' v' (xs ++ ys) → w.grownBy w' s.ownBlock → KK v' w') : AppVCh P ty e sz b s (.slice (some a) m c) w KK t := by
  subst hm
  refine K.appOwn hs hc (flat_len hsz ys) (fun u hu => by obtain ⟨y, _, hy⟩ := List.mem_flatMap.1 hu; exact h1 y u hy) h63 hb hbase fun v' w' hrow hg => hk v' w' ?_ hg
  unfold OwR
  rw [List.length_append, List.flatMap_append]
  exact hrow
end
end Lite
