/- Plain: what is wrong with declarations. No program in sight. -/
import Derived.Test.YtoakjdilnkjcgaaDoorLexP
set_option linter.all false
namespace Abs
open Go
structure Scalar where
  name : ByteArray
  size : Int
structure Var where
  name : ByteArray
  scalar : Int
  over : Int
  lo : Int
  hi : Int
  init : Int
structure Chan where
  name : ByteArray
  scalar : Int
  cap : Int
  lo : Int
  hi : Int
  lossy : Bool
/-- The Size of scalar k; 0: there is none. -/
def size (k : Int) (s : List Scalar) : Int :=
  match s[(k - 1).toNat]? with
  | some x => if 1 ≤ k ∧ 1 ≤ x.size ∧ x.size ≤ 4 then x.size else 0
  | none => 0
def narrow (lo hi : Int) : Bool := decide (-1048576 ≤ lo ∧ lo ≤ hi ∧ hi ≤ 1048576 ∧ hi - lo < 256)
def there (k : Int) (s : List Scalar) : Bool := decide (k = 0 ∨ size k s ≠ 0)
/-- What is wrong with the i-th, its own errors behind those of its name. -/
def err (most : Int) (nm : Nat → ByteArray) (mo : Nat → Int) (i : Nat) : Int :=
  if most ≤ i then 11 else if isName (nm i) = false then 6 else if ∃ j, j < i ∧ nm j = nm i then 7 else mo i
/-- The first that is wrong. -/
def first (n : Nat) (e : Nat → Int) : Int × Int := match (List.range n).find? (fun i => decide (e i ≠ 0)) with | some i => ((i : Int), e i) | none => (0, 0)
theorem first_stop {n : Nat} {e : Nat → Int} {i : Nat} (hi : i < n) (h1 : ∀ j, j < i → e j = 0) (h2 : e i ≠ 0) : first n e = ((i : Int), e i) := by
  have : (List.range n).find? (fun i => decide (e i ≠ 0)) = some i := by
    rw [List.find?_range_eq_some]
    simp only [decide_eq_true_eq]
    exact ⟨h2, by simpa using hi, fun j hj => by simp [h1 j hj]⟩
  rw [first, this]
theorem first_none {n : Nat} {e : Nat → Int} (h : ∀ j, j < n → e j = 0) : first n e = (0, 0) := by
  have : (List.range n).find? (fun i => decide (e i ≠ 0)) = none := by
    rw [List.find?_range_eq_none]
    intro j hj
    simp [h j hj]
  rw [first, this]
theorem first_congr {n : Nat} {e e' : Nat → Int} (h : ∀ j, j < n → e j = e' j) : first n e = first n e' := by
  by_cases hx : ∃ i, i < n ∧ e i ≠ 0 ∧ ∀ j, j < i → e j = 0
  · obtain ⟨i, hi, h1, h2⟩ := hx
    rw [first_stop hi h2 h1, first_stop hi (fun j hj => by rw [← h j (by omega)]; exact h2 j hj) (by rw [← h i hi]; exact h1), h i hi]
  · have hz : ∀ j, j < n → e j = 0 := by
      intro j
      induction j using Nat.strongRecOn with
      | _ j ih =>
        intro hj
        by_cases h0 : e j = 0
        · exact h0
        · exact absurd ⟨j, hj, h0, fun k hk => ih k hk (by omega)⟩ hx
    rw [first_none hz, first_none fun j hj => by rw [← h j hj]; exact hz j hj]
def nameAt {α : Type} (f : α → ByteArray) (l : List α) (i : Nat) : ByteArray := (l[i]?.map f).getD ⟨#[]⟩
def scalarErr (l : List Scalar) (i : Nat) : Int := match l[i]? with | some x => if 1 ≤ x.size ∧ x.size ≤ 4 then 0 else 10 | none => 0
def scalars (l : List Scalar) : Int × Int := first l.length (err 2 (nameAt (·.name) l) (scalarErr l))
def bounds (v : Var) (s : List Scalar) : Int × Int := if v.scalar = 0 then (v.lo, v.hi) else (0, size v.scalar s)
def cells (v : Var) (s : List Scalar) : Int := if v.over = 0 then 1 else size v.over s
def varErr (l : List Var) (s : List Scalar) (i : Nat) : Int :=
  match l[i]? with
  | some v => if there v.scalar s = false ∨ there v.over s = false then 8
    else if (v.scalar = 0 ∧ narrow v.lo v.hi = false) ∨ v.init < (bounds v s).1 ∨ v.init > (bounds v s).2 then 10 else 0
  | none => 0
def vars (l : List Var) (s : List Scalar) (most : Int) : Int × Int := first l.length (err (max most 0) (nameAt (·.name) l) (varErr l s))
def chanErr (l : List Chan) (s : List Scalar) (i : Nat) : Int :=
  match l[i]? with
  | some c => if there c.scalar s = false then 8
    else if c.cap < 1 ∨ c.cap > 4 ∨ (c.scalar = 0 ∧ narrow c.lo c.hi = false) then 10 else 0
  | none => 0
def chans (l : List Chan) (s : List Scalar) : Int × Int := first l.length (err 4 (nameAt (·.name) l) (chanErr l s))
end Abs
