/- Plain: right declarations without the last one, and with one of them twice. No program in sight. -/
import Derived.Test.YtoakjdilnkjcgaaDoorDeclP
namespace Abs
open Go
theorem first_zero {n : Nat} {e : Nat → Int} (h : (first n e).2 = 0) : ∀ j, j < n → e j = 0 := by
  by_cases hx : ∃ i, i < n ∧ e i ≠ 0 ∧ ∀ j, j < i → e j = 0
  · obtain ⟨i, hi, h1, h2⟩ := hx
    rw [first_stop hi h2 h1] at h
    exact absurd h h1
  · intro j
    induction j using Nat.strongRecOn with
    | _ j ih =>
      intro hj
      by_cases h0 : e j = 0
      · exact h0
      · exact absurd ⟨j, hj, h0, fun k hk => ih k hk (by omega)⟩ hx
/-- The errors of a list, by its names and what each is by itself. -/
def errL {α : Type} (most : Int) (f : α → ByteArray) (mo : α → Int) (l : List α) (i : Nat) : Int := err most (nameAt f l) (fun i => ((l[i]?).map mo).getD 0) i
theorem nameAt_app {α : Type} (f : α → ByteArray) (l m : List α) (i : Nat) (h : i < l.length) : nameAt f (l ++ m) i = nameAt f l i := by
  simp [nameAt, List.getElem?_append_left h]
theorem errL_app {α : Type} {most : Int} {f : α → ByteArray} {mo : α → Int} {l m : List α} {i : Nat} (h : i < l.length) : errL most f mo (l ++ m) i = errL most f mo l i := by
  unfold errL err
  rw [nameAt_app f l m i h]
  have e : (∃ j, j < i ∧ nameAt f (l ++ m) j = nameAt f l i) ↔ ∃ j, j < i ∧ nameAt f l j = nameAt f l i :=
    ⟨fun ⟨j, h1, h2⟩ => ⟨j, h1, by rw [← nameAt_app f l m j (by omega)]; exact h2⟩, fun ⟨j, h1, h2⟩ => ⟨j, h1, by rw [nameAt_app f l m j (by omega)]; exact h2⟩⟩
  simp only [e, List.getElem?_append_left h]
theorem errL_many {α : Type} {most most' : Int} {f : α → ByteArray} {mo : α → Int} {l : List α} {i : Nat} (h : most ≤ most') (h0 : errL most f mo l i = 0) : errL most' f mo l i = 0 := by
  unfold errL err at h0 ⊢
  split at h0
  · cases h0
  · rw [if_neg (by omega)]; exact h0
theorem errL_lt {α : Type} {most : Int} {f : α → ByteArray} {mo : α → Int} {l : List α} {i : Nat} (h0 : errL most f mo l i = 0) : (i : Int) < most := by
  unfold errL err at h0
  split at h0
  · cases h0
  · omega
theorem errL_name {α : Type} {most : Int} {f : α → ByteArray} {mo : α → Int} {l : List α} {i : Nat} (h0 : errL most f mo l i = 0) : isName (nameAt f l i) = true := by
  unfold errL err at h0
  split at h0
  · cases h0
  · split at h0
    · cases h0
    · rename_i h; simpa using h
theorem errL_twice {α : Type} {most : Int} {f : α → ByteArray} {mo : α → Int} {l : List α} {k : Nat} (hk : k < l.length) (h0 : ∀ j, j < l.length → errL most f mo l j = 0) (most' : Int) :
    errL most' f mo (l ++ [l[k]]) l.length = if most' ≤ l.length then 11 else 7 := by
  have hn : nameAt f (l ++ [l[k]]) l.length = nameAt f l k := by simp [nameAt, hk]
  have h1 := errL_name (h0 k hk)
  unfold errL err
  rw [hn]
  split
  · rfl
  · rw [if_neg (by simp [h1]), if_pos ⟨k, hk, by rw [nameAt_app f l _ k hk]⟩]
theorem first_last {α : Type} {most most' : Int} {f : α → ByteArray} {mo : α → Int} {l : List α} {k : Nat} (hk : k < l.length) (h0 : ∀ j, j < l.length → errL most f mo l j = 0) (hm : most ≤ most') :
    first (l ++ [l[k]]).length (errL most' f mo (l ++ [l[k]])) = ((l.length : Int), if most' ≤ l.length then 11 else 7) := by
  rw [first_stop (i := l.length) (by simp) (fun j hj => by rw [errL_app hj]; exact errL_many hm (h0 j hj)) (by rw [errL_twice hk h0]; split <;> decide), errL_twice hk h0]
theorem first_short {α : Type} {most : Int} {f : α → ByteArray} {mo : α → Int} {l m : List α} (h0 : ∀ j, j < (l ++ m).length → errL most f mo (l ++ m) j = 0) : first l.length (errL most f mo l) = (0, 0) :=
  first_none fun j hj => by rw [← errL_app (m := m) hj]; exact h0 j (by simp; omega)
def scalarMo (x : Scalar) : Int := if 1 ≤ x.size ∧ x.size ≤ 4 then 0 else 10
def varMo (s : List Scalar) (v : Var) : Int := if there v.scalar s = false ∨ there v.over s = false then 8
    else if (v.scalar = 0 ∧ narrow v.lo v.hi = false) ∨ v.init < (bounds v s).1 ∨ v.init > (bounds v s).2 then 10 else 0
def chanMo (s : List Scalar) (c : Chan) : Int := if there c.scalar s = false then 8
    else if c.cap < 1 ∨ c.cap > 4 ∨ (c.scalar = 0 ∧ narrow c.lo c.hi = false) then 10 else 0
theorem scalars_errL (l : List Scalar) : scalars l = first l.length (errL 2 (·.name) scalarMo l) := by
  have e : scalarErr l = fun i => ((l[i]?).map (scalarMo)).getD 0 := by funext i; unfold scalarErr; cases l[i]? <;> rfl
  rw [scalars, e]; rfl
theorem vars_errL (l : List Var) (s : List Scalar) (most : Int) : vars l s most = first l.length (errL (max most 0) (·.name) (varMo s) l) := by
  have e : varErr l s = fun i => ((l[i]?).map (varMo s)).getD 0 := by funext i; unfold varErr; cases l[i]? <;> rfl
  rw [vars, e]; rfl
theorem chans_errL (l : List Chan) (s : List Scalar) : chans l s = first l.length (errL 4 (·.name) (chanMo s) l) := by
  have e : chanErr l s = fun i => ((l[i]?).map (chanMo s)).getD 0 := by funext i; unfold chanErr; cases l[i]? <;> rfl
  rw [chans, e]; rfl
theorem vars_short {l : List Var} {s : List Scalar} (k : Nat) (h : (vars l s 12).2 = 0) : vars (l.take k) s 12 = (0, 0) := by
  rw [vars_errL] at h ⊢
  exact first_short (m := l.drop k) (by rw [List.take_append_drop]; exact first_zero h)
theorem scalars_short {l : List Scalar} (k : Nat) (h : (scalars l).2 = 0) : scalars (l.take k) = (0, 0) := by
  rw [scalars_errL] at h ⊢
  exact first_short (m := l.drop k) (by rw [List.take_append_drop]; exact first_zero h)
theorem chans_short {l : List Chan} {s : List Scalar} (k : Nat) (h : (chans l s).2 = 0) : chans (l.take k) s = (0, 0) := by
  rw [chans_errL] at h ⊢
  exact first_short (m := l.drop k) (by rw [List.take_append_drop]; exact first_zero h)
theorem vars_twice {l : List Var} {s : List Scalar} {k : Nat} (hk : k < l.length) (h : (vars l s 12).2 = 0) : vars (l ++ [l[k]]) s 13 = ((l.length : Int), 7) := by
  rw [vars_errL] at h ⊢
  have h0 := first_zero h
  have hl := errL_lt (h0 (l.length - 1) (by omega))
  rw [first_last hk h0 (by omega), if_neg (by omega)]
theorem scalars_twice {l : List Scalar} {k : Nat} (hk : k < l.length) (h : (scalars l).2 = 0) : scalars (l ++ [l[k]]) = ((l.length : Int), if (2 : Int) ≤ l.length then 11 else 7) := by
  rw [scalars_errL] at h ⊢
  rw [first_last hk (first_zero h) (by omega)]
theorem chans_twice {l : List Chan} {s : List Scalar} {k : Nat} (hk : k < l.length) (h : (chans l s).2 = 0) : chans (l ++ [l[k]]) s = ((l.length : Int), if (4 : Int) ≤ l.length then 11 else 7) := by
  rw [chans_errL] at h ⊢
  rw [first_last hk (first_zero h) (by omega)]
end Abs
