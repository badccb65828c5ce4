/- Lite, part 7: slices of memory read as lists. -/
import Derived.Test.YtoakjdilnkjcgaaDoorLite6
set_option linter.all false
namespace Lite
open Go Go.RowKit

/-- Element i lies at a + i * sz. -/
structure SlR {α : Type} (sz : Nat) (R : World → Addr → α → Prop) (w : World) (v : Value) (xs : List α) : Prop where
  ex : ∃ oa cap, v = .slice oa xs.length cap ∧ xs.length ≤ cap ∧ cap ≤ maxLen ∧ (xs ≠ [] → oa.isSome = true) ∧ ∀ a, oa = some a → ∀ i (h : i < xs.length), R w (a.add (i * sz)) xs[i]

theorem SlR.form {α : Type} {sz : Nat} {R : World → Addr → α → Prop} {w : World} {v : Value} {xs : List α} (h : SlR sz R w v xs) : ∃ oa cap, v = .slice oa xs.length cap ∧ xs.length ≤ 9223372036854775807 := by
  obtain ⟨oa, cap, h1, h2, h3, _⟩ := h.ex
  exact ⟨oa, cap, h1, by unfold maxLen at h3; omega⟩
theorem SlR.addr {α : Type} {sz : Nat} {R : World → Addr → α → Prop} {w : World} {oa : Option Addr} {n c : Nat} {xs : List α} (h : SlR sz R w (.slice oa n c) xs) (hn : 0 < xs.length) : ∃ a, oa = some a := by
  obtain ⟨oa', cap, h1, h2, h3, h4, _⟩ := h.ex
  injection h1 with h1 _ _
  subst h1
  exact Option.isSome_iff_exists.1 (h4 (by intro e; subst e; simp at hn))
theorem SlR.at {α : Type} {sz : Nat} {R : World → Addr → α → Prop} {w : World} {a : Addr} {n c : Nat} {xs : List α} (h : SlR sz R w (.slice (some a) n c) xs) (i : Nat) (hi : i < xs.length) : R w (a.add (i * sz)) xs[i] := by
  obtain ⟨oa', cap, h1, h2, h3, h4, h5⟩ := h.ex
  injection h1 with h1 _ _
  subst h1
  exact h5 a rfl i hi
theorem SlR.ext {α : Type} {sz : Nat} {R : World → Addr → α → Prop} (hR : ∀ w w' a x, Ext w w' → R w a x → R w' a x) {w w' : World} {v : Value} {xs : List α} (he : Ext w w') (h : SlR sz R w v xs) : SlR sz R w' v xs := by
  obtain ⟨oa, cap, h1, h2, h3, h4, h5⟩ := h.ex
  exact ⟨oa, cap, h1, h2, h3, h4, fun a ha i hi => hR _ _ _ _ he (h5 a ha i hi)⟩
/-- Elements of cells alone. -/
def Flat {α : Type} (enc : α → List Value) (w : World) (a : Addr) (x : α) : Prop := CellsAt w a (enc x)
theorem Flat.ext {α : Type} {enc : α → List Value} (w w' : World) (a : Addr) (x : α) (he : Ext w w') (h : Flat enc w a x) : Flat enc w' a x := CellsAt.ext he h
theorem toNat_sub1 {k : Int} {sz : Nat} (_h : 1 ≤ k) : (k - 1).toNat * sz = (k.toNat - 1) * sz := by congr 1; omega

/-! ### Maps -/
/-- The entries read as pairs. -/
def KV {κ : Type} (enc : κ → Value) (es : List MapEntry) (m : List (κ × Value)) : Prop := es.map (fun e => (e.key, e.val)) = m.map (fun p => (enc p.1, p.2))
theorem findNow_kv {κ : Type} [DecidableEq κ] {enc : κ → Value} {d : TypeDesc} (hs : ∀ x y, Instr.sameNow d (enc x) (enc y) = some (decide (x = y))) (x : κ) : ∀ (es : List MapEntry) (m : List (κ × Value)) (i : Nat), KV enc es m →
    ∃ r, Instr.findNow d (enc x) es i = some r ∧ r.map (·.2) = (m.find? (fun p => decide (x = p.1))).map (·.2)
  | [], m, i, h => by
    have : m = [] := by cases m with | nil => rfl | cons _ _ => simp [KV] at h
    subst this
    exact ⟨none, rfl, rfl⟩
  | e :: es, m, i, h => by
    cases m with
    | nil => simp [KV] at h
    | cons p m =>
      simp only [KV, List.map_cons, List.cons.injEq, Prod.mk.injEq] at h
      obtain ⟨⟨h1, h2⟩, h3⟩ := h
      unfold Instr.findNow
      rw [h1, hs]
      by_cases hx : x = p.1
      · simp only [hx, decide_true]
        exact ⟨_, rfl, by simp [h2]⟩
      · simp only [hx, decide_false]
        obtain ⟨r, h4, h5⟩ := findNow_kv hs x es m (i + 1) h3
        exact ⟨r, h4, by rw [h5]; simp [hx]⟩
theorem same_str (x y : ByteArray) : Instr.sameNow .string (.string x) (.string y) = some (decide (x = y)) := by simp [Instr.sameNow, ba_beq]
theorem same_int (k q : IntKind) (x y : Int) : Instr.sameNow (.int q) (.int k x) (.int k y) = some (decide (x = y)) := by simp [Instr.sameNow]; rfl
theorem KV.push {κ : Type} {enc : κ → Value} {es : Array MapEntry} {m : List (κ × Value)} (h : KV enc es.toList m) (x : κ) (v : Value) (c : Nat) : KV enc (es.push { key := enc x, val := v, born := c }).toList (m ++ [(x, v)]) := by
  simp only [KV] at *
  simp [h]

/-! ### Slices over a block that is known whole -/
theorem flat_at {α : Type} {enc : α → List Value} {sz : Nat} (hsz : ∀ x, (enc x).length = sz) : ∀ (xs : List α) (i j : Nat) (h : i < xs.length), j < sz → (xs.flatMap enc)[i * sz + j]? = (enc xs[i])[j]?
  | [], i, j, h, _ => by simp at h
  | x :: xs, 0, j, h, hj => by
    simp only [List.flatMap_cons, Nat.zero_mul, Nat.zero_add, List.getElem_cons_zero]
    rw [List.getElem?_append_left (by rw [hsz]; exact hj)]
  | x :: xs, i + 1, j, h, hj => by
    simp only [List.flatMap_cons, List.getElem_cons_succ]
    rw [List.getElem?_append_right (by rw [hsz, Nat.add_mul]; omega), hsz, show (i + 1) * sz + j - sz = i * sz + j from by rw [Nat.add_mul]; omega]
    exact flat_at hsz xs i j (by simpa using h) hj
theorem cells_flat {α : Type} {enc : α → List Value} {sz : Nat} (hsz : ∀ x, (enc x).length = sz) {w : World} {b : Nat} {e : TypeId} {f : Nat × Nat} {xs : List α} (hb : w.heap[b]? = some (.cells (xs.flatMap enc).toArray e f)) (i : Nat) (h : i < xs.length) :
    CellsAt w (Addr.add ⟨b, 0, none⟩ (i * sz)) (enc xs[i]) := fun j v hj => by
  have hjs : j < sz := by rw [← hsz xs[i]]; exact (List.getElem?_eq_some_iff.1 hj).1
  rw [add_add]
  exact cell_blk hb (by rw [List.getElem?_toArray, flat_at hsz xs i j h hjs]; exact hj)
theorem SlR.blk {α : Type} {enc : α → List Value} {sz : Nat} (hsz : ∀ x, (enc x).length = sz) {R : World → Addr → α → Prop} {w : World} {b n : Nat} {e : TypeId} {f : Nat × Nat} {xs : List α} (hb : w.heap[b]? = some (.cells (xs.flatMap enc).toArray e f))
    (hn : n = xs.length) (hm : xs.length ≤ maxLen) (hR : ∀ a x, x ∈ xs → CellsAt w a (enc x) → R w a x) : SlR sz R w (.slice (some ⟨b, 0, none⟩) n n) xs := by
  subst hn
  refine ⟨_, _, rfl, Nat.le_refl _, hm, fun _ => rfl, fun a ha i hi => ?_⟩
  injection ha with ha; subst ha
  exact hR _ _ (List.getElem_mem _) (cells_flat hsz hb i hi)
theorem SlR.nil {α : Type} {sz : Nat} {R : World → Addr → α → Prop} {w : World} : SlR sz R w (.slice none 0 0) ([] : List α) := ⟨none, 0, rfl, Nat.le_refl _, Nat.zero_le _, fun h => absurd rfl h, fun a h => by cases h⟩
end Lite
