/- Plain: parts of expressions that are right. No program in sight. -/
import Derived.Test.YteaboocppcbkiaaSpanP
set_option linter.all false
namespace Abs
open Go
/-- A node's work hangs on the top of the row alone. -/
def Local (f : Node → List Int → Int × Int) : Prop := ∀ x s t, 0 ≤ nparts x.op → nparts x.op ≤ (t.length : Int) → f x (s ++ t) = f x t
theorem getLastD_append (s t : List Int) (h : t ≠ []) : (s ++ t).getLastD 0 = t.getLastD 0 := by
  rw [List.getLastD_eq_getLast?, List.getLastD_eq_getLast?, List.getLast?_append]
  cases h2 : t.getLast? with
  | none => exact absurd (List.getLast?_eq_none_iff.1 h2) h
  | some z => rfl
theorem kleaf_top' {x : Node} {s : Scope} {t t' : Int} (h : x.op ≠ 3) : kleaf x s t = kleaf x s t' := by
  unfold kleaf
  simp only [h, false_and, false_or]
theorem fKind_local (s : Scope) : Local (fKind s) := by
  intro x a b h0 h
  unfold fKind
  cases ho : opOf x.op with
  | none =>
    simp only
    by_cases h3 : x.op = 3
    · have : nparts x.op = 1 := by rw [h3]; rfl
      rw [getLastD_append]
      intro e; subst e; simp at h; omega
    · exact kleaf_top' h3
  | some o =>
    simp only
    have hp := (opOf_parts ho).1
    congr 1
    rw [List.length_append, List.drop_append, List.drop_eq_nil_of_le (by omega), List.nil_append]
    congr 1
    omega
/-- What works on a row works on its top alone. -/
theorem step_local {f : Node → List Int → Int × Int} (hf : Local f) {x : Node} {s t : List Int} (h0 : nparts x.op ≤ (t.length : Int)) (h : (stepG f x (s ++ t)).1 = 0) :
    (stepG f x t).1 = 0 ∧ (stepG f x (s ++ t)).2 = s ++ (stepG f x t).2 := by
  by_cases q1 : nparts x.op < 0
  · unfold stepG at h; rw [if_pos q1] at h; cases h
  have hfx := hf x s t (by omega) h0
  have c1 : ¬ (((s ++ t).length : Int) < nparts x.op) := by rw [List.length_append]; omega
  have c2 : ¬ ((t.length : Int) < nparts x.op) := by omega
  have ht : (s ++ t).take ((s ++ t).length - (nparts x.op).toNat) = s ++ t.take (t.length - (nparts x.op).toNat) := by
    rw [List.length_append, List.take_append, List.take_of_length_le (by omega)]
    congr 2
    omega
  unfold stepG at h ⊢
  simp only [hfx, q1, c1, c2, ht, if_false] at h ⊢
  by_cases q3 : (f x t).2 ≠ 0
  · rw [if_pos q3] at h; exact absurd h q3
  simp only [q3, if_false] at h ⊢
  by_cases q4 : (s ++ t.take (t.length - (nparts x.op).toNat) ++ [(f x t).1]).length > 12
  · rw [if_pos q4] at h; cases h
  have q5 : ¬ (t.take (t.length - (nparts x.op).toNat) ++ [(f x t).1]).length > 12 := by
    rw [List.append_assoc, List.length_append] at q4; omega
  simp only [q4, q5, if_false]
  exact ⟨trivial, by rw [List.append_assoc]⟩
end Abs
