/- Plain: what has a kind in a scope has a value of that kind, or one that is out of range. No program in sight. -/
import Derived.Test.YteaboocppcbkiaaPartQ
set_option linter.all false
namespace Abs
open Go
/-- A cell's number: 0 to the greatest; without a greatest: within bounds. -/
def good (most x : Int) : Prop := if 0 < most then 0 ≤ x ∧ x ≤ most else -1048576 ≤ x ∧ x ≤ 1048576
def ssize (s : Scope) (k : Int) : Int := match nth s.scalars (k - 1) with | some x => x.size | none => 0
def cellsOf (v : Var) (s : Scope) : Int × Int × Bool :=
  if v.scalar < 0 ∨ (s.scalars.length : Int) < v.scalar ∨ v.over < 0 ∨ (s.scalars.length : Int) < v.over then (0, 0, false)
  else (if 0 < v.over then ssize s v.over else 1, if 0 < v.scalar then ssize s v.scalar else 0, decide (1 ≤ (if 0 < v.over then ssize s v.over else 1) ∧ (if 0 < v.over then ssize s v.over else 1) ≤ 50))
structure Filled (s : Scope) (v : Env) : Prop where
  sizes : ∀ x ∈ s.scalars, 1 ≤ x.size ∧ x.size ≤ 50
  vars : v.vars.length = s.vars.length ∧ ∀ (i : Nat) (x : Var) (l : List Int), s.vars[i]? = some x → v.vars[i]? = some l → (cellsOf x s).2.2 = true ∧ (l.length : Int) = (cellsOf x s).1 ∧ ∀ z ∈ l, good (cellsOf x s).2.1 z
  locals : v.locals.length = s.locals.length ∧ ∀ (i : Nat) (x : Var) (z : Int), s.locals[i]? = some x → v.locals[i]? = some z → (cellsOf x s).2.2 = true ∧ good (cellsOf x s).2.1 z
  lens : v.lens.length = s.chans.length ∧ ∀ z ∈ v.lens, good 4 z
  ats : v.at_.length = s.procs.length ∧ ∀ (i : Nat) (x : Proc) (l : List Int), s.procs[i]? = some x → v.at_[i]? = some l → (l.length : Int) = max x.locs 0 ∧ ∀ z ∈ l, good 6 z
  self : 1 ≤ s.self → s.self ≤ s.scalars.length → 1 ≤ v.self ∧ v.self ≤ ssize s s.self
def fits (s : Scope) (k x : Int) : Prop := (k = 0 ∧ -1048576 ≤ x ∧ x ≤ 1048576) ∨ (k = 1 ∧ (x = 0 ∨ x = 1)) ∨ (2 ≤ k ∧ k - 2 < s.scalars.length ∧ 0 ≤ x ∧ x ≤ ssize s (k - 1))
theorem nth_get {α : Type} {l : List α} {n : Int} {x : α} (h : nth l n = some x) : 0 ≤ n ∧ l[n.toNat]? = some x ∧ n.toNat < l.length := by
  unfold nth at h
  by_cases h0 : 0 ≤ n
  · rw [if_pos h0] at h
    exact ⟨h0, h, (List.getElem?_eq_some_iff.1 h).1⟩
  · rw [if_neg h0] at h; cases h
theorem nth_ex {α : Type} {l : List α} {n : Int} (h : 0 ≤ n) (h2 : n.toNat < l.length) : ∃ x, nth l n = some x ∧ l[n.toNat]? = some x := by
  refine ⟨l[n.toNat], ?_, List.getElem?_eq_getElem h2⟩
  unfold nth
  rw [if_pos h, List.getElem?_eq_getElem h2]
theorem ssize_pos {s : Scope} (hs : ∀ x ∈ s.scalars, 1 ≤ x.size ∧ x.size ≤ 50) {k : Int} (h1 : 1 ≤ k) (h2 : k ≤ s.scalars.length) : 1 ≤ ssize s k ∧ ssize s k ≤ 50 := by
  unfold ssize
  obtain ⟨x, hx, hy⟩ := nth_ex (l := s.scalars) (n := k - 1) (by omega) (by omega)
  rw [hx]
  exact hs x (List.mem_of_getElem? hy)
theorem kscalar_ok {n : Int} {s : Scope} (h : (kscalar n s).2 = true) : 0 ≤ n ∧ n ≤ s.scalars.length ∧ (kscalar n s).1 = if n = 0 then 0 else 1 + n := by
  unfold kscalar at h ⊢
  by_cases h1 : n = 0
  · subst h1; simp
  · rw [if_neg h1] at h ⊢
    by_cases h2 : n < 0 ∨ (s.scalars.length : Int) < n
    · rw [if_pos h2] at h; cases h
    · rw [if_neg h2, if_neg h1]
      exact ⟨by omega, by omega, rfl⟩
/-- What a variable's cell may hold fits its kind. -/
theorem fits_var {s : Scope} (hs : ∀ x ∈ s.scalars, 1 ≤ x.size ∧ x.size ≤ 50) {v : Var} (h : (kscalar v.scalar s).2 = true) (h2 : (kscalar v.over s).2 = true) {z : Int} (hz : good (cellsOf v s).2.1 z) : fits s (kscalar v.scalar s).1 z := by
  obtain ⟨a1, a2, a3⟩ := kscalar_ok h
  obtain ⟨b1, b2, b3⟩ := kscalar_ok h2
  have hc : (cellsOf v s).2.1 = if 0 < v.scalar then ssize s v.scalar else 0 := by
    unfold cellsOf
    rw [if_neg (by omega)]
  rw [hc] at hz
  rw [a3]
  unfold good at hz
  by_cases h0 : v.scalar = 0
  · rw [if_pos h0]
    rw [h0] at hz
    simp at hz
    exact .inl ⟨rfl, hz.1, hz.2⟩
  · rw [if_neg h0]
    have := ssize_pos hs (k := v.scalar) (by omega) a2
    rw [if_pos (show 0 < v.scalar by omega), if_pos (by omega)] at hz
    refine .inr (.inr ⟨by omega, by omega, hz.1, ?_⟩)
    rw [show 1 + v.scalar - 1 = v.scalar from by omega]
    exact hz.2
theorem kvar_some {l : List Var} {n : Int} {s : Scope} (h : (kvar l n s).2.2 = true) : ∃ v, nth l n = some v ∧ l[n.toNat]? = some v ∧ 0 ≤ n ∧ kvar l n s = ((kscalar v.scalar s).1, (kscalar v.over s).1, true) ∧ (kscalar v.scalar s).2 = true ∧ (kscalar v.over s).2 = true := by
  unfold kvar at h ⊢
  cases hn : nth l n with
  | none => rw [hn] at h; cases h
  | some v =>
    rw [hn] at h
    simp only [Bool.and_eq_true] at h
    obtain ⟨h0, h1, _⟩ := nth_get hn
    exact ⟨v, rfl, h1, h0, by simp only [h.1, h.2, Bool.and_self], h.1, h.2⟩
theorem cells_n {s : Scope} {v : Var} (h : (kscalar v.scalar s).2 = true) (h2 : (kscalar v.over s).2 = true) : (cellsOf v s).1 = if 0 < v.over then ssize s v.over else 1 := by
  obtain ⟨a1, a2, a3⟩ := kscalar_ok h
  obtain ⟨b1, b2, b3⟩ := kscalar_ok h2
  unfold cellsOf
  rw [if_neg (by omega)]
theorem good_small {most z : Int} (h : good most z) (h0 : 0 < most) (h1 : most ≤ 1048576) : -1048576 ≤ z ∧ z ≤ 1048576 := by
  unfold good at h
  rw [if_pos h0] at h
  omega
theorem vat_some {l : List Int} {n x : Int} (h : nth l n = some x) : vat l n = (x, 0) := by unfold vat; rw [h]
theorem opOf_some {x : Int} (h : 9 ≤ x ∧ x ≤ 19) : opOf x ≠ none := by
  have : x = 9 ∨ x = 10 ∨ x = 11 ∨ x = 12 ∨ x = 13 ∨ x = 14 ∨ x = 15 ∨ x = 16 ∨ x = 17 ∨ x = 18 ∨ x = 19 := by omega
  rcases this with rfl | rfl | rfl | rfl | rfl | rfl | rfl | rfl | rfl | rfl | rfl <;> simp [opOf]
theorem leaf_fits {s : Scope} {v : Env} (hF : Filled s v) {x : Node} {top tv : Int} (h1 : 0 ≤ nparts x.op) (h2 : opOf x.op = none) (hk : (kleaf x s top).2 = 0) (ht : x.op = 3 → fits s top tv) :
    ((vleaf x v tv).2 = 0 ∧ fits s (kleaf x s top).1 (vleaf x v tv).1) ∨ (vleaf x v tv).2 = 10 := by
  have hop : x.op = 1 ∨ x.op = 2 ∨ x.op = 3 ∨ x.op = 4 ∨ x.op = 5 ∨ x.op = 6 ∨ x.op = 7 ∨ x.op = 8 := by
    by_cases h9 : 9 ≤ x.op ∧ x.op ≤ 19
    · exact absurd h2 (opOf_some h9)
    · unfold nparts at h1
      repeat' split at h1
      all_goals omega
  rcases hop with e | e | e | e | e | e | e | e
  · left
    unfold kleaf at hk ⊢
    unfold vleaf
    rw [if_pos e] at hk ⊢
    rw [if_pos e]
    by_cases hw : within x.n = true
    · rw [if_pos hw, if_pos hw]
      exact ⟨rfl, .inl ⟨rfl, by simpa [within] using hw⟩⟩
    · rw [if_neg hw] at hk; cases hk
  · left
    have n1 : x.op ≠ 1 := by omega
    have n3 : ¬ x.op = 3 := by omega
    have n4 : ¬ x.op = 4 := by omega
    have hv : vleaf x v tv = (match nth v.vars x.n with | some l => vat l 0 | none => (0, 8)) := by unfold vleaf; rw [if_neg n1, if_pos e]; rfl
    rw [hv]
    unfold kleaf at hk ⊢
    rw [if_neg n1, if_pos (show x.op = 2 ∨ x.op = 3 ∨ x.op = 4 by omega)] at hk ⊢
    simp only [n4, if_false] at hk ⊢
    by_cases q1 : (kvar s.vars x.n s).2.2 = false
    · rw [if_pos q1] at hk; cases hk
    rw [if_neg q1] at hk ⊢
    obtain ⟨u, u1, u2, u3, u4, u5, u6⟩ := kvar_some (by simpa using q1)
    rw [u4] at hk ⊢
    simp only [n3, false_and, false_or, ne_eq, not_false_eq_true, true_and] at hk ⊢
    by_cases q2 : ¬ (kscalar u.over s).1 = 0
    · rw [if_pos q2] at hk; cases hk
    rw [if_neg q2]
    have hov : u.over = 0 := by
      obtain ⟨b1, b2, b3⟩ := kscalar_ok u6
      rw [b3] at q2
      by_cases h0 : u.over = 0
      · exact h0
      · rw [if_neg h0] at q2; omega
    have hlt := (List.getElem?_eq_some_iff.1 u2).1
    obtain ⟨l, l1, l2⟩ := nth_ex (l := v.vars) (n := x.n) u3 (by rw [hF.vars.1]; exact hlt)
    rw [l1]
    obtain ⟨c1, c2, c3⟩ := hF.vars.2 _ _ _ u2 l2
    rw [cells_n u5 u6, if_neg (by omega)] at c2
    obtain ⟨z, z1, z2⟩ := nth_ex (l := l) (n := 0) (by omega) (by simp; omega)
    simp only
    rw [vat_some z1]
    exact ⟨rfl, fits_var hF.sizes u5 u6 (c3 z (List.mem_of_getElem? z2))⟩
  · have n1 : x.op ≠ 1 := by omega
    have n2 : ¬ x.op = 2 := by omega
    have n4 : ¬ x.op = 4 := by omega
    have ht' := ht e
    have hv : vleaf x v tv = (match nth v.vars x.n with | some l => (match nth l (tv - 1) with | some y => (y, 0) | none => (0, 10)) | none => (0, 8)) := by unfold vleaf; rw [if_neg n1, if_neg n2, if_pos e]; rfl
    rw [hv]
    unfold kleaf at hk ⊢
    rw [if_neg n1, if_pos (show x.op = 2 ∨ x.op = 3 ∨ x.op = 4 by omega)] at hk ⊢
    simp only [n4, if_false] at hk ⊢
    by_cases q1 : (kvar s.vars x.n s).2.2 = false
    · rw [if_pos q1] at hk; cases hk
    rw [if_neg q1] at hk ⊢
    obtain ⟨u, u1, u2, u3, u4, u5, u6⟩ := kvar_some (by simpa using q1)
    rw [u4] at hk ⊢
    simp only [e, ne_eq, not_true_eq_false, false_and, or_false, true_and] at hk ⊢
    by_cases q2 : (kscalar u.over s).1 = 0 ∨ ¬ top = (kscalar u.over s).1
    · rw [if_pos q2] at hk; cases hk
    rw [if_neg q2]
    obtain ⟨b1, b2, b3⟩ := kscalar_ok u6
    have hov : u.over ≠ 0 := by
      intro h0
      rw [b3, if_pos h0] at q2
      exact q2 (.inl rfl)
    rw [b3, if_neg hov] at q2
    have htop : top = 1 + u.over := by omega
    subst htop
    have hlt := (List.getElem?_eq_some_iff.1 u2).1
    obtain ⟨l, l1, l2⟩ := nth_ex (l := v.vars) (n := x.n) u3 (by rw [hF.vars.1]; exact hlt)
    rw [l1]
    obtain ⟨c1, c2, c3⟩ := hF.vars.2 _ _ _ u2 l2
    rw [cells_n u5 u6, if_pos (by omega)] at c2
    have hr : 0 ≤ tv ∧ tv ≤ ssize s u.over := by
      rcases ht' with h | h | h
      · omega
      · omega
      · have := h.2.2
        rw [show 1 + u.over - 1 = u.over from by omega] at this
        exact this
    simp only
    by_cases h0 : tv = 0
    · right
      rw [nth_none (.inl (by omega))]
    · left
      obtain ⟨z, z1, z2⟩ := nth_ex (l := l) (n := tv - 1) (by omega) (by omega)
      rw [z1]
      exact ⟨rfl, fits_var hF.sizes u5 u6 (c3 z (List.mem_of_getElem? z2))⟩
  · left
    have n1 : x.op ≠ 1 := by omega
    have n2 : ¬ x.op = 2 := by omega
    have n3 : ¬ x.op = 3 := by omega
    have hv : vleaf x v tv = vat v.locals x.n := by unfold vleaf; rw [if_neg n1, if_neg n2, if_neg n3, if_pos e]
    rw [hv]
    unfold kleaf at hk ⊢
    rw [if_neg n1, if_pos (show x.op = 2 ∨ x.op = 3 ∨ x.op = 4 by omega)] at hk ⊢
    simp only [e, if_true] at hk ⊢
    by_cases q1 : (kvar s.locals x.n s).2.2 = false
    · rw [if_pos q1] at hk; cases hk
    rw [if_neg q1] at hk ⊢
    obtain ⟨u, u1, u2, u3, u4, u5, u6⟩ := kvar_some (by simpa using q1)
    rw [u4] at hk ⊢
    have n43 : ¬ ((4 : Int) = 3) := by omega
    simp only [n43, false_and, false_or, ne_eq, not_false_eq_true, true_and] at hk ⊢
    by_cases q2 : ¬ (kscalar u.over s).1 = 0
    · rw [if_pos q2] at hk; cases hk
    rw [if_neg q2]
    have hlt := (List.getElem?_eq_some_iff.1 u2).1
    obtain ⟨z, z1, z2⟩ := nth_ex (l := v.locals) (n := x.n) u3 (by rw [hF.locals.1]; exact hlt)
    rw [vat_some z1]
    exact ⟨rfl, fits_var hF.sizes u5 u6 (hF.locals.2 _ _ _ u2 z2).2⟩
  · left
    have hkk : kleaf x s top = knamed x s := by unfold kleaf; rw [if_neg (by omega), if_neg (by omega)]
    rw [hkk] at hk ⊢
    have hv : vleaf x v tv = (v.self, 0) := by unfold vleaf; rw [if_neg (by omega), if_neg (by omega), if_neg (by omega), if_neg (by omega), if_neg (by omega), if_pos e]
    rw [hv]
    unfold knamed at hk ⊢
    rw [if_pos e] at hk ⊢
    by_cases q : 1 ≤ s.self ∧ s.self ≤ s.scalars.length
    · rw [if_pos q]
      have := hF.self q.1 q.2
      refine ⟨rfl, .inr (.inr ⟨by omega, by omega, by omega, ?_⟩)⟩
      rw [show 1 + s.self - 1 = s.self from by omega]
      exact this.2
    · rw [if_neg q] at hk; cases hk
  · left
    have hkk : kleaf x s top = knamed x s := by unfold kleaf; rw [if_neg (by omega), if_neg (by omega)]
    rw [hkk] at hk ⊢
    have hv : vleaf x v tv = vat v.lens x.n := by unfold vleaf; rw [if_neg (by omega), if_neg (by omega), if_neg (by omega), if_neg (by omega), if_pos e]
    rw [hv]
    unfold knamed at hk ⊢
    rw [if_neg (show ¬ x.op = 5 by omega), if_pos e] at hk ⊢
    unfold kLen at hk ⊢
    cases hn : nth s.chans x.n with
    | none => rw [hn] at hk; cases hk
    | some c =>
      rw [hn] at hk
      simp only at hk ⊢
      by_cases q : (kscalar c.scalar s).2 = true
      · rw [if_pos q]
        obtain ⟨h0, h1', h2'⟩ := nth_get hn
        obtain ⟨z, z1, z2⟩ := nth_ex (l := v.lens) (n := x.n) h0 (by rw [hF.lens.1]; exact h2')
        rw [vat_some z1]
        exact ⟨rfl, .inl ⟨rfl, good_small (hF.lens.2 z (List.mem_of_getElem? z2)) (by decide) (by decide)⟩⟩
      · rw [if_neg q] at hk; cases hk
  · left
    have hkk : kleaf x s top = knamed x s := by unfold kleaf; rw [if_neg (by omega), if_neg (by omega)]
    rw [hkk] at hk ⊢
    have hv : vleaf x v tv = (if 0 ≤ x.n then (match nth v.at_ (x.n.tdiv 16) with | some l => vat l (x.n.tmod 16) | none => (0, 8)) else (0, 8)) := by unfold vleaf; rw [if_neg (by omega), if_neg (by omega), if_neg (by omega), if_neg (by omega), if_neg (by omega), if_neg (by omega), if_pos e]; rfl
    rw [hv]
    unfold knamed at hk ⊢
    rw [if_neg (show ¬ x.op = 5 by omega), if_neg (show ¬ x.op = 6 by omega), if_pos e] at hk ⊢
    unfold kAt at hk ⊢
    by_cases g0 : 0 ≤ x.n
    · rw [if_pos g0] at hk ⊢
      rw [if_pos g0]
      cases hn : nth s.procs (x.n.tdiv 16) with
      | none => rw [hn] at hk; cases hk
      | some p =>
        rw [hn] at hk
        simp only at hk ⊢
        by_cases q : x.n.tmod 16 < p.locs
        · rw [if_pos q]
          obtain ⟨h0, h1', h2'⟩ := nth_get hn
          obtain ⟨l, l1, l2⟩ := nth_ex (l := v.at_) (n := x.n.tdiv 16) h0 (by rw [hF.ats.1]; exact h2')
          rw [l1]
          obtain ⟨c1, c2⟩ := hF.ats.2 _ _ _ h1' l2
          have hm : 0 ≤ x.n.tmod 16 := Int.tmod_nonneg _ g0
          obtain ⟨z, z1, z2⟩ := nth_ex (l := l) (n := x.n.tmod 16) hm (by omega)
          simp only
          rw [vat_some z1]
          exact ⟨rfl, .inl ⟨rfl, good_small (c2 z (List.mem_of_getElem? z2)) (by decide) (by decide)⟩⟩
        · rw [if_neg q] at hk; cases hk
    · rw [if_neg g0] at hk; cases hk
  · left
    have hkk : kleaf x s top = knamed x s := by unfold kleaf; rw [if_neg (by omega), if_neg (by omega)]
    rw [hkk] at hk ⊢
    have hv : vleaf x v tv = (0, 0) := by unfold vleaf; rw [if_neg (by omega), if_neg (by omega), if_neg (by omega), if_neg (by omega), if_neg (by omega), if_neg (by omega), if_neg (by omega)]
    rw [hv]
    unfold knamed at hk ⊢
    rw [if_neg (show ¬ x.op = 5 by omega), if_neg (show ¬ x.op = 6 by omega), if_neg (show ¬ x.op = 7 by omega), if_pos e] at hk ⊢
    by_cases q : 0 ≤ x.n ∧ x.n < s.scalars.length
    · rw [if_pos q]
      have := ssize_pos hF.sizes (k := 2 + x.n - 1) (by omega) (by omega)
      exact ⟨rfl, .inr (.inr ⟨by simp only; omega, by simp only; omega, by simp only; omega, by simp only; omega⟩)⟩
    · rw [if_neg q] at hk; cases hk
theorem bit_01 (b : Bool) : bit b = 0 ∨ bit b = 1 := by cases b <;> simp [bit]
theorem tell_ok {f : Int → Int → Int} {a b : Int} : ((tell f a b).2 = true ∧ -1048576 ≤ (tell f a b).1 ∧ (tell f a b).1 ≤ 1048576) ∨ (tell f a b).2 = false := by
  unfold tell
  by_cases h : (within a && within b && within (f a b)) = true
  · rw [if_pos h]
    left
    simp only [Bool.and_eq_true] at h
    exact ⟨rfl, by simpa [within] using h.2⟩
  · rw [if_neg h]; right; rfl
theorem op_does {x : Int} {o : OpD} (h : opOf x = some o) (a b : Int) : ((o.does a b).2 = true ∧ ((o.makes = 0 ∧ -1048576 ≤ (o.does a b).1 ∧ (o.does a b).1 ≤ 1048576) ∨ (o.makes = 1 ∧ ((o.does a b).1 = 0 ∨ (o.does a b).1 = 1)))) ∨ (o.does a b).2 = false := by
  unfold opOf at h
  repeat' split at h
  all_goals first
    | (cases h; done)
    | (cases h
       first
       | exact .inl ⟨rfl, .inr ⟨rfl, bit_01 _⟩⟩
       | (rcases tell_ok (f := (· - ·)) (a := 0) (b := a) with q | q
          · exact .inl ⟨q.1, .inl ⟨rfl, q.2⟩⟩
          · exact .inr q)
       | (rcases tell_ok (f := (· + ·)) (a := a) (b := b) with q | q
          · exact .inl ⟨q.1, .inl ⟨rfl, q.2⟩⟩
          · exact .inr q)
       | (rcases tell_ok (f := (· - ·)) (a := a) (b := b) with q | q
          · exact .inl ⟨q.1, .inl ⟨rfl, q.2⟩⟩
          · exact .inr q)
       | (rcases tell_ok (f := (· * ·)) (a := a) (b := b) with q | q
          · exact .inl ⟨q.1, .inl ⟨rfl, q.2⟩⟩
          · exact .inr q))
def Match (s : Scope) (st vs : List Int) : Prop := st.length = vs.length ∧ ∀ (i : Nat) (k x : Int), st[i]? = some k → vs[i]? = some x → fits s k x
theorem node_fits {s : Scope} {v : Env} (hF : Filled s v) {x : Node} {st vs : List Int} (hm : Match s st vs) (h1 : 0 ≤ nparts x.op) (h2 : nparts x.op ≤ (st.length : Int)) (hk : (fKind s x st).2 = 0) :
    ((fEval v x vs).2 = 0 ∧ fits s (fKind s x st).1 (fEval v x vs).1) ∨ (fEval v x vs).2 = 10 := by
  unfold fKind at hk ⊢
  unfold fEval
  cases ho : opOf x.op with
  | none =>
    rw [ho] at hk
    simp only at hk ⊢
    refine leaf_fits hF h1 ho hk fun e3 => ?_
    have hn : nparts x.op = 1 := by rw [e3]; rfl
    have hl := hm.1
    rw [List.getLastD_eq_getLast?, List.getLastD_eq_getLast?, List.getLast?_eq_getElem?, List.getLast?_eq_getElem?]
    have a1 : st.length - 1 < st.length := by omega
    have a2 : vs.length - 1 < vs.length := by omega
    rw [List.getElem?_eq_getElem a1, List.getElem?_eq_getElem a2]
    refine hm.2 (st.length - 1) _ _ (List.getElem?_eq_getElem a1) ?_
    rw [hl, List.getElem?_eq_getElem a2]
    rfl
  | some o =>
    rw [ho] at hk
    simp only at hk ⊢
    have hmk : (ktwo o (st.drop (st.length - o.parts.toNat))).1 = o.makes := by
      unfold ktwo at hk ⊢
      split at hk
      · rename_i q; rw [if_pos q]
      · cases hk
    rw [hmk]
    unfold vtwo
    simp only
    rcases op_does ho ((vs.drop (vs.length - o.parts.toNat)).headD 0) ((vs.drop (vs.length - o.parts.toNat)).getLastD 0) with ⟨q1, q2⟩ | q
    · left
      rw [if_pos q1]
      refine ⟨rfl, ?_⟩
      rcases q2 with ⟨e, q2⟩ | ⟨e, q2⟩
      · exact .inl ⟨e, q2⟩
      · exact .inr (.inl ⟨e, q2⟩)
    · right
      rw [if_neg (by rw [q]; simp)]
theorem run_fits {s : Scope} {v : Env} (hF : Filled s v) : ∀ (e : List Node) (st vs st' : List Int), Match s st vs → runL (fKind s) e st = (0, st') → (∃ vs', runL (fEval v) e vs = (0, vs') ∧ Match s st' vs') ∨ (runL (fEval v) e vs).1 = 10
  | [], st, vs, st', hm, h => by
    simp only [runL, Prod.mk.injEq, true_and] at h
    subst h
    exact .inl ⟨vs, rfl, hm⟩
  | x :: e, st, vs, st', hm, h => by
    simp only [runL] at h ⊢
    by_cases q : (stepG (fKind s) x st).1 ≠ 0
    · rw [if_pos q] at h; rw [h] at q; exact absurd rfl q
    rw [if_neg q] at h
    have q' : (stepG (fKind s) x st).1 = 0 := by simpa using q
    obtain ⟨a1, a2, _⟩ := step_ok q'
    have hl := hm.1
    have hk0 : (fKind s x st).2 = 0 := by
      unfold stepG at q'
      rw [if_neg (by omega), if_neg (by omega)] at q'
      by_cases g : (fKind s x st).2 ≠ 0
      · rw [if_pos g] at q'; exact absurd q' g
      · simpa using g
    have hst : stepG (fKind s) x st = (0, st.take (st.length - (nparts x.op).toNat) ++ [(fKind s x st).1]) ∧ (st.take (st.length - (nparts x.op).toNat) ++ [(fKind s x st).1]).length ≤ 12 := by
      unfold stepG at q' ⊢
      rw [if_neg (by omega), if_neg (by omega), if_neg (by simp [hk0])] at q' ⊢
      split at q'
      · cases q'
      · rename_i g; rw [if_neg g]; exact ⟨rfl, by omega⟩
    rcases node_fits hF hm a1 a2 hk0 with ⟨b1, b2⟩ | b
    · have hsv : stepG (fEval v) x vs = (0, vs.take (vs.length - (nparts x.op).toNat) ++ [(fEval v x vs).1]) := by
        unfold stepG
        rw [if_neg (by omega), if_neg (by omega), if_neg (by simp [b1]), if_neg]
        have := hst.2
        simp only [List.length_append, List.length_take] at this ⊢
        simp only [List.length_cons, List.length_nil] at this ⊢
        omega
      rw [hsv]
      rw [hst.1] at h
      simp only [ne_eq, not_true_eq_false, if_false] at h ⊢
      refine run_fits hF e _ _ st' ⟨by simp [hl], fun i k y h3 h4 => ?_⟩ h
      rw [List.getElem?_append] at h3 h4
      have hlen : (st.take (st.length - (nparts x.op).toNat)).length = (vs.take (vs.length - (nparts x.op).toNat)).length := by simp [hl]
      rw [← hlen] at h4
      by_cases hi : i < (st.take (st.length - (nparts x.op).toNat)).length
      · rw [if_pos hi] at h3 h4
        rw [List.getElem?_take] at h3 h4
        split at h3
        · split at h4
          · exact hm.2 i k y h3 h4
          · cases h4
        · cases h3
      · rw [if_neg hi] at h3 h4
        generalize i - (st.take (st.length - (nparts x.op).toNat)).length = j at h3 h4
        cases j with
        | zero =>
          simp at h3 h4
          subst h3 h4
          exact b2
        | succ j => simp at h3
    · right
      have hsv : stepG (fEval v) x vs = (10, vs) := by
        unfold stepG
        rw [if_neg (by omega), if_neg (by omega), if_pos (by rw [b]; decide), b]
      rw [hsv]
      simp
/-- The law. -/
theorem fits_law {s : Scope} {v : Env} (hF : Filled s v) {e : List Node} (h : (kind e s).2 = 0) : ((eval e v).2 = 0 ∧ fits s (kind e s).1 (eval e v).1) ∨ ((eval e v).2 = 10 ∧ (eval e v).1 = 0) := by
  obtain ⟨h1, h2, k, h3⟩ := runE_ok h
  have hk : kind e s = (k, 0) := runE_mk h1 h2 h3
  rw [hk]
  rcases run_fits hF e [] [] [k] ⟨rfl, fun i k y h _ => by simp at h⟩ h3 with ⟨vs, a1, a2, a3⟩ | a
  · left
    match vs, a2 with
    | [x], _ =>
      have hx : eval e v = (x, 0) := runE_mk h1 h2 a1
      rw [hx]
      exact ⟨rfl, a3 0 k x rfl rfl⟩
  · right
    unfold eval runE
    rw [if_neg (by omega), if_neg (by intro e0; exact h2 (List.eq_nil_of_length_eq_zero e0)), if_pos (by rw [a]; decide), a]
    exact ⟨rfl, rfl⟩
end Abs
