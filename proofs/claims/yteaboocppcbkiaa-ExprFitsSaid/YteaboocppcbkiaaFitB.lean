/- The environment of the law on fits. -/
import Derived.Test.YteaboocppcbkiaaFitA
set_option linter.all false
set_option maxRecDepth 4000
set_option maxHeartbeats 3200000
namespace Go.Proofs.Yteaboocppcbkiaa
open Go Go.RowKit Lite
/-- A slice's word. -/
abbrev Sl := Option Addr × Nat × Nat
def slv (x : Sl) : Value := .slice x.1 x.2.1 x.2.2
def encV (x : Sl) : List Value := [slv x]
/-- A row of rows at a block. -/
def RowV (w : World) (x : Value) (xs : List Value) : Prop :=
  (x = .slice none 0 0 ∧ xs = []) ∨ ∃ b cap cur, x = .slice (some ⟨b, 0, none⟩) xs.length cap ∧ xs.length ≤ cap ∧ cap ≤ maxLen ∧ w.heap[b]? = some (.cells cur T.sl_int) ∧ ∀ (j : Nat) (z : Value), xs[j]? = some z → cur[j]? = some z
def RowRows (w : World) (x : Value) (ls : List (List Int)) : Prop := ∃ xs, RowV w x xs ∧ xs.length = ls.length ∧ ∀ (i : Nat) (y : Value) (l : List Int), xs[i]? = some y → ls[i]? = some l → RowI w y l
/-- Blocks of these two kinds are as they were. -/
def KeepRows (w w' : World) : Prop := ∀ (k : Nat) (cur : Array Value), (w.heap[k]? = some (.cells cur T.int) ∨ w.heap[k]? = some (.cells cur T.sl_int)) → w'.heap[k]? = w.heap[k]?
theorem RowI.keep {w w' : World} {x : Value} {l : List Int} (hk : KeepRows w w') (h : RowI w x l) : RowI w' x l := by
  obtain ⟨h | ⟨b, cap, cur, e, h1, h2, h3, h4⟩, h5⟩ := h
  · exact ⟨.inl h, h5⟩
  · exact ⟨.inr ⟨b, cap, cur, e, h1, h2, (hk b cur (.inl h3)).trans h3, h4⟩, h5⟩
theorem RowV.keep {w w' : World} {x : Value} {l : List Value} (hk : KeepRows w w') (h : RowV w x l) : RowV w' x l := by
  rcases h with h | ⟨b, cap, cur, e, h1, h2, h3, h4⟩
  · exact .inl h
  · exact .inr ⟨b, cap, cur, e, h1, h2, (hk b cur (.inr h3)).trans h3, h4⟩
theorem RowRows.keep {w w' : World} {x : Value} {l : List (List Int)} (hk : KeepRows w w') (h : RowRows w x l) : RowRows w' x l :=
  let ⟨xs, h1, h2, h3⟩ := h; ⟨xs, h1.keep hk, h2, fun i y l a b => (h3 i y l a b).keep hk⟩
theorem KeepRows.ext {w w' : World} (h : Ext w w') : KeepRows w w' := fun k cur hk => by
  have : k < w.heap.size := by rcases hk with hk | hk <;> exact lt_of_heap hk
  exact h.heap this
theorem KeepRows.trans {a b c : World} (h : KeepRows a b) (k : KeepRows b c) : KeepRows a c := fun i cur hi => by
  have h1 := h i cur hi
  rw [← h1]
  exact k i cur (by rw [h1]; exact hi)
theorem KeepRows.wr {b : Nat} {c : Array Value} {w w' : World} (h : Wr b w w') (hc : w.heap[b]? = some (.cells c T.api_Env)) : KeepRows w w' := fun k cur hk => by
  refine h.block k fun e => ?_
  subst e
  rw [hc] at hk
  rcases hk with hk | hk
  · injection hk with hk; injection hk with _ hk; revert hk; decide
  · injection hk with hk; injection hk with _ hk; revert hk; decide
theorem RowRows.rows {w : World} {x : Value} {ls : List (List Int)} (h : RowRows w x ls) : Rowss w x ls := by
  obtain ⟨xs, h1, h2, h3⟩ := h
  rcases h1 with ⟨rfl, rfl⟩ | ⟨b, cap, cur, rfl, k1, k2, k3, k4⟩
  · have : ls = [] := List.eq_nil_of_length_eq_zero (by simpa using h2.symm)
    subst this
    exact SlR.nil
  · refine ⟨_, _, by rw [h2], by omega, k2, fun _ => rfl, fun a ha i hi => ?_⟩
    injection ha with ha
    subst ha
    have hi' : i < xs.length := by omega
    refine ⟨xs[i], ?_, (h3 i _ _ (List.getElem?_eq_getElem hi') (List.getElem?_eq_getElem hi)).ints⟩
    rw [Nat.mul_one]
    exact cell_blk k3 (k4 i _ (List.getElem?_eq_getElem hi'))
theorem own_rowV {w : World} {base : Nat} {v : Value} {xs : List Sl} (h : OwR encV T.sl_int 1 base w v xs) : RowV w v (xs.map slv) := by
  rcases h.2 with ⟨rfl, h0⟩ | ⟨g, cap, cur, rfl, hb, hg, h1, h2, h3, h4⟩
  · exact .inl ⟨rfl, by rw [List.eq_nil_of_length_eq_zero h0]; rfl⟩
  · refine .inr ⟨g, cap, cur, by rw [List.length_map], by rw [List.length_map]; exact h1, h2, hg, fun j z hj => ?_⟩
    have hfl : xs.flatMap encV = xs.map slv := by
      clear h h1 h2 h3 h4 hj
      induction xs with
      | nil => rfl
      | cons y ys ih => rw [List.flatMap_cons, ih]; rfl
    rw [hfl] at h4
    rw [← h4, List.getElem?_take] at hj
    split at hj
    · simpa using hj
    · cases hj
theorem own_rowI {w : World} {base : Nat} {v : Value} {xs : List Int} (h : OwR encI T.int 1 base w v xs) (ho : ∀ z ∈ xs, Abs.inI z) : RowI w v xs := by
  refine ⟨?_, ho⟩
  rcases h.2 with ⟨rfl, h0⟩ | ⟨g, cap, cur, rfl, hb, hg, h1, h2, h3, h4⟩
  · exact .inl ⟨rfl, List.eq_nil_of_length_eq_zero h0⟩
  · refine .inr ⟨g, cap, cur, rfl, h1, h2, hg, fun j z hj => ?_⟩
    have hfl : xs.flatMap encI = xs.map (Value.int .i64) := by
      clear h h1 h2 h3 h4 hj ho
      induction xs with
      | nil => rfl
      | cons y ys ih => rw [List.flatMap_cons, ih]; rfl
    rw [hfl] at h4
    have hj2 : (xs.map (Value.int .i64))[j]? = some (.int .i64 z) := by simp [hj]
    rw [← h4, List.getElem?_take] at hj2
    split at hj2
    · simpa using hj2
    · cases hj2
/-- A row of rows grows: what was there stays, and what is new stands behind. -/
theorem rows_grow {w w' : World} {base : Nat} {v : Value} {y : Sl} {xs : List Sl} {ls : List (List Int)} {l : List Int} (h : ∀ (i : Nat) (y : Sl) (l : List Int), xs[i]? = some y → ls[i]? = some l → RowI w (slv y) l) (hl : xs.length = ls.length) (hy : RowI w (slv y) l)
    (hg : w.grownBy w' v.ownBlock) (ho : OwR encV T.sl_int 1 base w v xs) : ∀ (i : Nat) (z : Sl) (m : List Int), (xs ++ [y])[i]? = some z → (ls ++ [l])[i]? = some m → RowI w' (slv z) m := by
  have hk : ∀ (k : Nat) (cur : Array Value), w.heap[k]? = some (.cells cur T.int) → w'.heap[k]? = w.heap[k]? := fun k cur hk => by
    refine hg.block k (lt_of_heap hk) fun e => ?_
    rcases ho.2 with ⟨rfl, _⟩ | ⟨g, cap, c2, rfl, _, hgg, _⟩
    · cases e
    · simp only [Value.ownBlock, Option.some.injEq] at e
      subst e
      rw [hgg] at hk
      injection hk with hk
      injection hk with _ hk
      revert hk; decide
  have mv : ∀ {y : Value} {l : List Int}, RowI w y l → RowI w' y l := fun {y l} h => by
    obtain ⟨h | ⟨b, cap, cur, e, h1, h2, h3, h4⟩, h5⟩ := h
    · exact ⟨.inl h, h5⟩
    · exact ⟨.inr ⟨b, cap, cur, e, h1, h2, (hk b cur h3).trans h3, h4⟩, h5⟩
  intro i z m h1 h2
  rw [List.getElem?_append] at h1 h2
  rw [← hl] at h2
  by_cases hi : i < xs.length
  · rw [if_pos hi] at h1 h2
    exact mv (h i z m h1 h2)
  · rw [if_neg hi] at h1 h2
    generalize i - xs.length = j at h1 h2
    cases j with
    | zero => simp at h1 h2; subst h1 h2; exact mv hy
    | succ j => simp at h1
theorem block_type {w : World} {k : Nat} {c c' : Array Value} {t t' : TypeId} (h : w.heap[k]? = some (.cells c t)) (h' : w.heap[k]? = some (.cells c' t')) : t = t' := by
  rw [h] at h'
  injection h' with h'
  injection h'
/-- What an own row's growth leaves: blocks of other types. -/
theorem grown_other {α : Type} {enc : α → List Value} {w w' : World} {base sz : Nat} {e t : TypeId} {v : Value} {xs : List α} {k : Nat} {c : Array Value} (hg : w.grownBy w' v.ownBlock) (ho : OwR enc e sz base w v xs) (hk : w.heap[k]? = some (.cells c t)) (ht : t ≠ e) :
    w'.heap[k]? = some (.cells c t) := by
  rw [hg.block k (lt_of_heap hk) fun e' => ?_]
  · exact hk
  rcases ho.2 with ⟨rfl, _⟩ | ⟨g, cap, c2, rfl, _, hgg, _⟩
  · cases e'
  · simp only [Value.ownBlock, Option.some.injEq] at e'
    subst e'
    exact ht (block_type hk hgg)
end Go.Proofs.Yteaboocppcbkiaa
