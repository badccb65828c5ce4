/- Plain: where parts begin. No program in sight. -/
import Derived.Test.YteaboocppcbkiaaExprP
set_option linter.all false
namespace Abs
open Go
def spVal (x : Node) (s : List Int × List Int) : Int := if 0 < nparts x.op then (s.1[s.1.length - (nparts x.op).toNat]?).getD 0 else (s.2.length : Int)
/-- One node: the row of what stands open, and where each part began. -/
def spStep (x : Node) (s : List Int × List Int) : Option (List Int × List Int) :=
  if nparts x.op < 0 ∨ (s.1.length : Int) < nparts x.op then none else some (s.1.take (s.1.length - (nparts x.op).toNat) ++ [spVal x s], s.2 ++ [spVal x s])
def spAll : List Node → List Int × List Int → Option (List Int × List Int)
  | [], s => some s
  | x :: r, s => (spStep x s).bind (spAll r)
def spans (e : List Node) : List Int × Bool := match spAll e ([], []) with | some s => if s.1.length = 1 then (s.2, true) else ([], false) | none => ([], false)
theorem spAll_app : ∀ (a b : List Node) (s : List Int × List Int), spAll (a ++ b) s = (spAll a s).bind (spAll b)
  | [], b, s => rfl
  | x :: a, b, s => by
    simp only [List.cons_append, spAll]
    cases spStep x s with
    | none => rfl
    | some t => exact spAll_app a b t
theorem spAll_step {e : List Node} {k : Nat} {s : List Int × List Int} (hk : k < e.length) (h : spAll (e.take k) ([], []) = some s) : spAll (e.take (k + 1)) ([], []) = spStep e[k] s := by
  rw [List.take_succ_eq_append_getElem hk, spAll_app, h]
  simp only [Option.bind_some, spAll]
  cases spStep e[k] s <;> rfl
theorem spAll_stop {e : List Node} {k : Nat} {s : List Int × List Int} (hk : k < e.length) (h : spAll (e.take k) ([], []) = some s) (h2 : spStep e[k] s = none) : spans e = ([], false) := by
  have h3 := spAll_step hk h
  rw [h2] at h3
  have := spAll_app (e.take (k + 1)) (e.drop (k + 1)) ([], [])
  rw [List.take_append_drop, h3] at this
  unfold spans
  rw [this]; rfl
/-- Going back from each part's begin to the part ahead of it. -/
def Ch (out : List Int) : Nat → List Int → Prop
  | i, [] => i = 0
  | i, b :: r => 0 < i ∧ ∃ c : Nat, b = (c : Int) ∧ c < i ∧ out[i - 1]? = some b ∧ Ch out c r
theorem Ch.app {out : List Int} {v : Int} : ∀ {rs : List Int} {i : Nat}, i ≤ out.length → Ch out i rs → Ch (out ++ [v]) i rs
  | [], _, _, h => h
  | b :: r, i, hi, ⟨h1, c, h2, h3, h4, h5⟩ => ⟨h1, c, h2, h3, by rw [List.getElem?_append_left (by omega)]; exact h4, Ch.app (by omega) h5⟩
theorem Ch.zero {out : List Int} {rs : List Int} {i : Nat} (h : Ch out i rs) : i = 0 ↔ rs = [] := by
  cases rs with
  | nil => simp only [Ch] at h; simp [h]
  | cons b r => obtain ⟨h1, _⟩ := h; simp; omega
theorem Ch.push {out : List Int} {rs : List Int} {c : Nat} (h : Ch out c rs) (hc : c ≤ out.length) : Ch (out ++ [(c : Int)]) (out.length + 1) ((c : Int) :: rs) :=
  ⟨by omega, c, rfl, by omega, by simp, h.app hc⟩
theorem rev_take {st : List Int} {n : Nat} (h : n ≤ st.length) : (st.take (st.length - n)).reverse = st.reverse.drop n := by
  rw [List.reverse_take]; congr 1; omega
theorem Ch.step {out st : List Int} {c j : Nat} (h : Ch out c (st.reverse.drop j)) (h0 : c ≠ 0) :
    ∃ c' : Nat, out[c - 1]? = some (c' : Int) ∧ c' < c ∧ Ch out c' (st.reverse.drop (j + 1)) ∧ st.reverse[j]? = some (c' : Int) ∧ j < st.length := by
  cases hd : st.reverse.drop j with
  | nil => rw [hd] at h; exact absurd h h0
  | cons b r =>
    rw [hd] at h
    obtain ⟨_, c', hb, hc', hob, hch2⟩ := h
    have hr : st.reverse.drop (j + 1) = r := by rw [← List.drop_drop, hd]; rfl
    have hbj : st.reverse[j]? = some b := by rw [← List.head?_drop, hd]; rfl
    refine ⟨c', by rw [hob, hb], hc', by rw [hr]; exact hch2, by rw [hbj, hb], ?_⟩
    have := (List.getElem?_eq_some_iff.1 hbj).1
    simpa using this
theorem Ch.last {out st : List Int} {i : Nat} (h : Ch out i st.reverse) (h0 : i ≠ 0) : ∃ c : Nat, out[i - 1]? = some (c : Int) ∧ (c = 0 ↔ st.length = 1) := by
  obtain ⟨c, h1, _, h3, h4, h5⟩ := Ch.step (j := 0) (by simpa using h) h0
  refine ⟨c, h1, ?_⟩
  rw [h3.zero, List.drop_eq_nil_iff, List.length_reverse]
  omega
end Abs
