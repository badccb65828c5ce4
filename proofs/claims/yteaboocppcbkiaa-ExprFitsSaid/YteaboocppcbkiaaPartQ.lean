/- Plain: each part of what has a kind has a kind; where it begins. No program in sight. -/
import Derived.Test.YteaboocppcbkiaaPartP
set_option linter.all false
namespace Abs
open Go
theorem step_ok {f : Node → List Int → Int × Int} {x : Node} {st : List Int} (h : (stepG f x st).1 = 0) : 0 ≤ nparts x.op ∧ nparts x.op ≤ (st.length : Int) ∧ ∃ v, (stepG f x st).2 = st.take (st.length - (nparts x.op).toNat) ++ [v] := by
  unfold stepG at h ⊢
  by_cases q1 : nparts x.op < 0
  · rw [if_pos q1] at h; cases h
  by_cases q2 : (st.length : Int) < nparts x.op
  · rw [if_neg q1, if_pos q2] at h; cases h
  rw [if_neg q1, if_neg q2] at h ⊢
  by_cases q3 : (f x st).2 ≠ 0
  · rw [if_pos q3] at h; exact absurd h q3
  rw [if_neg q3] at h ⊢
  refine ⟨by omega, by omega, (f x st).1, ?_⟩
  split at h
  · cases h
  · rename_i q4; rw [if_neg q4]
/-- What runs without its lower part, and runs with more below, runs with less below. -/
theorem run_frame {f : Node → List Int → Int × Int} (hf : Local f) : ∀ (l : List Node) (s t t0 r0 r : List Int), runL f l t0 = (0, r0) → runL f l (s ++ (t ++ t0)) = (0, r) → runL f l (t ++ t0) = (0, t ++ r0) ∧ r = s ++ (t ++ r0)
  | [], s, t, t0, r0, r, h1, h2 => by
    simp only [runL, Prod.mk.injEq, true_and] at h1 h2 ⊢
    subst h1 h2
    exact ⟨rfl, rfl⟩
  | x :: l, s, t, t0, r0, r, h1, h2 => by
    simp only [runL] at h1 h2 ⊢
    by_cases q1 : (stepG f x t0).1 ≠ 0
    · rw [if_pos q1] at h1; rw [h1] at q1; exact absurd rfl q1
    by_cases q2 : (stepG f x (s ++ (t ++ t0))).1 ≠ 0
    · rw [if_pos q2] at h2; rw [h2] at q2; exact absurd rfl q2
    rw [if_neg q1] at h1
    rw [if_neg q2] at h2
    have q1' : (stepG f x t0).1 = 0 := by simpa using q1
    have q2' : (stepG f x (s ++ (t ++ t0))).1 = 0 := by simpa using q2
    obtain ⟨a1, a2, _⟩ := step_ok q1'
    have l1 := step_local hf (s := s) (t := t ++ t0) (x := x) (by rw [List.length_append]; omega) q2'
    have l2 := step_local hf (s := t) (t := t0) (x := x) a2 l1.1
    rw [if_neg (by rw [l1.1]; simp), l2.2]
    rw [l1.2, l2.2] at h2
    exact run_frame hf l s t _ r0 r h1 h2
/-- Both rows grow alike. -/
theorem run_take {f : Node → List Int → Int × Int} {e : List Node} {st : List Int} (h : runL f e [] = (0, st)) (k : Nat) : ∃ s, runL f (e.take k) [] = (0, s) := by
  have h1 := runL_app f (e.take k) (e.drop k) []
  rw [List.take_append_drop, h] at h1
  by_cases q : (runL f (e.take k) []).1 ≠ 0
  · rw [if_pos q] at h1; rw [← h1] at q; exact absurd rfl q
  · exact ⟨_, Prod.ext (by simpa using q) rfl⟩
theorem ch_get {out : List Int} : ∀ {rs : List Int} {i : Nat}, Ch out i rs → ∀ j (h : j < rs.length), ∃ c : Nat, rs[j] = (c : Int) ∧ c < i ∧ Ch out c (rs.drop (j + 1))
  | b :: r, i, ⟨_, c, h2, h3, _, h5⟩, 0, _ => ⟨c, h2, h3, by simpa using h5⟩
  | b :: r, i, ⟨_, c, h2, h3, _, h5⟩, j + 1, h => by
    obtain ⟨c', e1, e2, e3⟩ := ch_get h5 j (by simpa using h)
    exact ⟨c', by simpa using e1, by omega, by simpa using e3⟩
/-- The rows of spans, beside those of a run. -/
theorem sp_inv {f : Node → List Int → Int × Int} {e : List Node} {st : List Int} (h : runL f e [] = (0, st)) : ∀ k, k ≤ e.length → ∃ s o sk, spAll (e.take k) ([], []) = some (s, o) ∧ runL f (e.take k) [] = (0, sk) ∧ o.length = k ∧ s.length = sk.length ∧ Ch o k s.reverse
  | 0, _ => ⟨[], [], [], by simp [spAll], by simp [runL], rfl, rfl, rfl⟩
  | k + 1, hk => by
    obtain ⟨s, o, sk, h1, h2, h3, h4, h5⟩ := sp_inv h k (by omega)
    obtain ⟨sk', h6⟩ := run_take h (k + 1)
    have hs := runL_step (by omega : k < e.length) h2
    rw [h6] at hs
    have h0 : (stepG f e[k] sk).1 = 0 := by rw [← hs]
    obtain ⟨a1, a2, v, a3⟩ := step_ok h0
    have hsp := spAll_step (by omega : k < e.length) h1
    have hst : spStep e[k] (s, o) = some (s.take (s.length - (nparts e[k].op).toNat) ++ [spVal e[k] (s, o)], o ++ [spVal e[k] (s, o)]) := by
      unfold spStep
      rw [if_neg]
      simp only
      omega
    rw [hst] at hsp
    have e2 : sk' = sk.take (sk.length - (nparts e[k].op).toNat) ++ [v] := by rw [← a3, ← hs]
    refine ⟨_, _, sk', hsp, h6, by simp [h3], ?_, ?_⟩
    · rw [e2]; simp [h4]
    · rw [List.reverse_append, List.reverse_singleton, List.singleton_append, rev_take (by omega)]
      unfold spVal
      simp only
      by_cases hn : 0 < nparts e[k].op
      · rw [if_pos hn]
        obtain ⟨c, e1, e2, e3⟩ := ch_get h5 ((nparts e[k].op).toNat - 1) (by rw [List.length_reverse]; omega)
        rw [show (nparts e[k].op).toNat - 1 + 1 = (nparts e[k].op).toNat from by omega] at e3
        have e4 : s[s.length - (nparts e[k].op).toNat]? = some (c : Int) := by
          rw [List.getElem_reverse] at e1
          rw [← e1, List.getElem?_eq_getElem (by omega)]
          congr 2
          omega
        rw [e4, Option.getD_some]
        have := Ch.push e3 (by omega)
        rw [h3] at this
        exact this
      · rw [if_neg hn]
        have : (nparts e[k].op).toNat = 0 := by omega
        rw [this, List.drop_zero]
        have := Ch.push h5 (by omega)
        rw [h3]
        rw [h3] at this
        exact this
theorem sp_prefix : ∀ (a : List Node) (s : List Int × List Int) (t : List Int × List Int), spAll a s = some t → ∃ r, t.2 = s.2 ++ r
  | [], s, t, h => by cases h; exact ⟨[], by simp⟩
  | x :: a, s, t, h => by
    simp only [spAll] at h
    cases h1 : spStep x s with
    | none => rw [h1] at h; cases h
    | some u =>
      rw [h1] at h
      obtain ⟨r, hr⟩ := sp_prefix a u t h
      unfold spStep at h1
      split at h1
      · cases h1
      · cases h1
        exact ⟨spVal x s :: r, by rw [hr]; simp⟩
theorem sp_out {e : List Node} {s o s' o' : List Int} {k : Nat} (h1 : spAll (e.take k) ([], []) = some (s, o)) (h2 : spAll e ([], []) = some (s', o')) : ∃ r, o' = o ++ r := by
  have h3 := spAll_app (e.take k) (e.drop k) ([], [])
  rw [List.take_append_drop, h1, h2] at h3
  exact sp_prefix _ _ _ h3.symm
/-- Each part, run by itself. -/
theorem seg {f : Node → List Int → Int × Int} (hf : Local f) {e : List Node} {st s' o' : List Int} (h : runL f e [] = (0, st)) (hsp : spAll e ([], []) = some (s', o')) : ∀ i, i < e.length →
    ∃ (b : Nat) (v : Int) (sb : List Int), o'[i]? = some (b : Int) ∧ b ≤ i ∧ runL f ((e.take (i + 1)).drop b) [] = (0, [v]) ∧ runL f (e.take b) [] = (0, sb) ∧ runL f (e.take (i + 1)) [] = (0, sb ++ [v]) := by
  intro i
  induction i using Nat.strongRecOn with
  | _ i ih =>
    intro hi
    obtain ⟨s, o, sk, h1, h2, h3, h4, h5⟩ := sp_inv h i (by omega)
    obtain ⟨sk', h6⟩ := run_take h (i + 1)
    have hs := runL_step hi h2
    rw [h6] at hs
    have h0 : (stepG f e[i] sk).1 = 0 := by rw [← hs]
    obtain ⟨a1, a2, _⟩ := step_ok h0
    have hsp1 := spAll_step hi h1
    have hst : spStep e[i] (s, o) = some (s.take (s.length - (nparts e[i].op).toNat) ++ [spVal e[i] (s, o)], o ++ [spVal e[i] (s, o)]) := by
      unfold spStep
      rw [if_neg]
      simp only
      omega
    rw [hst] at hsp1
    obtain ⟨r1, hr1⟩ := sp_out hsp1 hsp
    obtain ⟨r0, hr0⟩ := sp_out h1 hsp
    have hoi : o'[i]? = some (spVal e[i] (s, o)) := by
      rw [hr1, List.getElem?_append_left (by simp [h3]), List.getElem?_append_right (by omega), h3]
      simp
    have hold : ∀ j, j < i → o'[j]? = o[j]? := fun j hj => by rw [hr0, List.getElem?_append_left (by omega)]
    have htk : e.take (i + 1) = e.take i ++ [e[i]] := List.take_succ_eq_append_getElem hi
    have hlast : ∀ (t : List Int) (sb : List Int), sk = sb ++ t → nparts e[i].op ≤ (t.length : Int) → (t.length : Int) = nparts e[i].op →
        ∃ v, stepG f e[i] t = (0, [v]) ∧ sk' = sb ++ [v] := by
      intro t sb e1 e2 e3
      rw [e1] at h0 hs
      have l1 := step_local hf e2 h0
      obtain ⟨b1, b2, v, b3⟩ := step_ok l1.1
      rw [show t.length - (nparts e[i].op).toNat = 0 from by omega] at b3
      simp only [List.take_zero, List.nil_append] at b3
      refine ⟨v, Prod.ext l1.1 b3, ?_⟩
      have := congrArg Prod.snd hs
      simp only at this
      rw [this, l1.2, b3]
    have hone : ∀ (l : List Node) (t : List Int) v, runL f l [] = (0, t) → stepG f e[i] t = (0, [v]) → runL f (l ++ [e[i]]) [] = (0, [v]) := by
      intro l t v e1 e2
      rw [runL_app, e1]
      simp only [ne_eq, not_true_eq_false, if_false, runL, e2]
    have hn : nparts e[i].op = 0 ∨ nparts e[i].op = 1 ∨ nparts e[i].op = 2 := by
      unfold nparts at a1 ⊢
      repeat' split
      all_goals omega
    unfold spVal at hoi
    simp only at hoi
    rcases hn with hn | hn | hn
    · rw [if_neg (by omega), h3] at hoi
      obtain ⟨v, e1, e2⟩ := hlast [] sk (by simp) (by simp [hn]) (by simp [hn])
      refine ⟨i, v, sk, hoi, Nat.le_refl _, ?_, h2, by rw [h6, e2]⟩
      rw [htk, List.drop_append, List.drop_of_length_le (by simp; omega), List.length_take, show i - min i e.length = 0 from by omega, List.drop_zero]
      exact hone [] [] v (by simp [runL]) e1
    · rw [if_pos (by omega), hn] at hoi
      have hl : 0 < s.length := by omega
      obtain ⟨c, c1, c2, c3⟩ := ch_get h5 0 (by simpa using hl)
      have hch := h5
      have hi0 : i ≠ 0 := by
        intro e0; subst e0
        omega
      obtain ⟨c', d1, d2, d3, d4, d5⟩ := Ch.step (j := 0) (by simpa using h5) hi0
      obtain ⟨b, v, sb, k1, k2, k3, k4, k5⟩ := ih (i - 1) (by omega) (by omega)
      rw [show i - 1 + 1 = i from by omega] at k3 k5
      have hb : (b : Int) = (c' : Int) := by
        rw [hold (i - 1) (by omega), d1] at k1
        injection k1 with k1
        exact k1.symm
      have e4 : s[s.length - 1]? = some (c' : Int) := by
        rw [← d4, List.getElem?_reverse (by omega)]
        congr 1
      rw [show s.length - (1 : Int).toNat = s.length - 1 from rfl, e4, Option.getD_some, ← hb] at hoi
      have hsk : sk = sb ++ [v] := by rw [h2] at k5; injection k5
      obtain ⟨v', e1, e2⟩ := hlast [v] sb hsk (by simp [hn]) (by simp [hn])
      refine ⟨b, v', sb, hoi, by omega, ?_, k4, by rw [h6, e2]⟩
      rw [htk, List.drop_append, List.length_take, show b - min i e.length = 0 from by omega, List.drop_zero]
      exact hone _ _ v' k3 e1
    · rw [if_pos (by omega), hn] at hoi
      have hi0 : i ≠ 0 := by
        intro e0; subst e0
        have : s = [] := by
          have := h5
          cases hr : s.reverse with
          | nil => simpa using hr
          | cons b r => rw [hr] at this; exact absurd this.1 (by omega)
        subst this
        simp at h4
        omega
      obtain ⟨c, d1, d2, d3, d4, d5⟩ := Ch.step (j := 0) (by simpa using h5) hi0
      have hc0 : c ≠ 0 := by
        intro e0; subst e0
        have h9 : s.reverse.drop 1 = [] := (Ch.zero d3).1 rfl
        have := congrArg List.length h9
        simp at this
        omega
      obtain ⟨c', f1, f2, f3, f4, f5⟩ := Ch.step (j := 1) d3 hc0
      obtain ⟨b, v, sb, k1, k2, k3, k4, k5⟩ := ih (i - 1) (by omega) (by omega)
      rw [show i - 1 + 1 = i from by omega] at k3 k5
      have hb : b = c := by
        rw [hold (i - 1) (by omega), d1] at k1
        injection k1 with k1
        omega
      subst hb
      obtain ⟨b', u, sb', m1, m2, m3, m4, m5⟩ := ih (b - 1) (by omega) (by omega)
      rw [show b - 1 + 1 = b from by omega] at m3 m5
      have hb' : (b' : Int) = (c' : Int) := by
        rw [hold (b - 1) (by omega), f1] at m1
        injection m1 with m1
        exact m1.symm
      have e4 : s[s.length - 2]? = some (c' : Int) := by
        rw [← f4, List.getElem?_reverse (by omega)]
        congr 1
      rw [show s.length - (2 : Int).toNat = s.length - 2 from rfl, e4, Option.getD_some, ← hb'] at hoi
      have hsb : sb = sb' ++ [u] := by rw [k4] at m5; injection m5
      have hsk : sk = sb' ++ [u, v] := by rw [h2] at k5; injection k5 with _ k5; rw [k5, hsb]; simp
      obtain ⟨v', e1, e2⟩ := hlast [u, v] sb' hsk (by simp [hn]) (by simp [hn])
      refine ⟨b', v', sb', hoi, by omega, ?_, m4, by rw [h6, e2]⟩
      have hsplit : (e.take i).drop b' = (e.take b).drop b' ++ (e.take i).drop b := by
        have : e.take i = e.take b ++ (e.take i).drop b := by
          conv => lhs; rw [← List.take_append_drop b (e.take i)]
          rw [List.take_take, Nat.min_eq_left (by omega)]
        conv => lhs; rw [this]
        rw [List.drop_append, List.length_take, show b' - min b e.length = 0 from by omega, List.drop_zero]
      have hfull : runL f ((e.take i).drop b) sb = (0, sk) := by
        have h7 := runL_app f (e.take b) ((e.take i).drop b) []
        have : e.take b ++ (e.take i).drop b = e.take i := by
          conv => rhs; rw [← List.take_append_drop b (e.take i)]
          rw [List.take_take, Nat.min_eq_left (by omega)]
        rw [this, h2, k4] at h7
        simpa using h7.symm
      rw [hsb] at hfull
      have fr := (run_frame hf ((e.take i).drop b) sb' [u] [] [v] sk k3 (by simpa using hfull)).1
      rw [htk, List.drop_append, List.length_take, show b' - min i e.length = 0 from by omega, List.drop_zero]
      refine hone _ [u, v] v' ?_ e1
      rw [hsplit, runL_app, m3]
      simpa using fr
theorem runE_ok {f : Node → List Int → Int × Int} {e : List Node} (h : (runE f e).2 = 0) : e.length ≤ 24 ∧ e ≠ [] ∧ ∃ v, runL f e [] = (0, [v]) := by
  unfold runE at h
  by_cases q1 : e.length > 24
  · rw [if_pos q1] at h; cases h
  rw [if_neg q1] at h
  by_cases q2 : e.length = 0
  · rw [if_pos q2] at h; cases h
  rw [if_neg q2] at h
  by_cases q3 : (runL f e []).1 ≠ 0
  · rw [if_pos q3] at h; exact absurd h q3
  rw [if_neg q3] at h
  by_cases q4 : (runL f e []).2.length > 1
  · rw [if_pos q4] at h; cases h
  have q3' : (runL f e []).1 = 0 := by simpa using q3
  refine ⟨by omega, by intro e0; subst e0; exact q2 rfl, ?_⟩
  obtain ⟨s, o, sk, h1, h2, h3, h4, h5⟩ := sp_inv (f := f) (e := e) (st := (runL f e []).2) (Prod.ext q3' rfl) e.length (Nat.le_refl _)
  rw [List.take_length] at h2
  rw [h2] at q4 ⊢
  simp only at q4
  match sk, q4 with
  | [v], _ => exact ⟨v, rfl⟩
  | [], _ =>
    exfalso
    have : s = [] := List.eq_nil_of_length_eq_zero h4
    subst this
    have := h5
    simp only [List.reverse_nil, Ch] at this
    omega
  | _ :: _ :: _, q => simp at q
theorem runE_mk {f : Node → List Int → Int × Int} {e : List Node} {v : Int} (h1 : e.length ≤ 24) (h2 : e ≠ []) (h : runL f e [] = (0, [v])) : runE f e = (v, 0) := by
  unfold runE
  rw [if_neg (by omega), if_neg (by intro e0; exact h2 (List.eq_nil_of_length_eq_zero e0)), h]
  simp
theorem spans_ok {f : Node → List Int → Int × Int} {e : List Node} {v : Int} (h2 : e ≠ []) (h : runL f e [] = (0, [v])) : ∃ s o, spAll e ([], []) = some (s, o) ∧ spans e = (o, true) ∧ o.length = e.length ∧ o[e.length - 1]? = some 0 := by
  obtain ⟨s, o, sk, h1, h3, h4, h5, h6⟩ := sp_inv h e.length (Nat.le_refl _)
  rw [List.take_length] at h1 h3
  rw [h] at h3
  injection h3 with _ h3
  subst h3
  refine ⟨s, o, h1, ?_, h4, ?_⟩
  · unfold spans; rw [h1]; simp only [h5, List.length_cons, List.length_nil, if_true]
  · obtain ⟨c, c1, c2⟩ := Ch.last h6 (by intro e0; exact h2 (List.eq_nil_of_length_eq_zero e0))
    rw [c1, c2.2 h5]
    rfl
/-- The law. -/
theorem parts_law {e : List Node} {s : Scope} (h : (kind e s).2 = 0) : ∃ l, spans e = (l, true) ∧ l.length = e.length ∧ 0 < e.length ∧ l[e.length - 1]? = some 0 ∧ e.length ≤ 24 ∧
    ∀ i, i < e.length → ∃ b : Nat, l[i]? = some (b : Int) ∧ b ≤ i ∧ (kind ((e.take (i + 1)).drop b) s).2 = 0 ∧ ∃ m, spans ((e.take (i + 1)).drop b) = (m, true) ∧ m[0]? = some 0 := by
  obtain ⟨h1, h2, v, h3⟩ := runE_ok h
  obtain ⟨so, o, k1, k2, k3, k4⟩ := spans_ok h2 h3
  refine ⟨o, k2, k3, ?_, k4, h1, fun i hi => ?_⟩
  · cases e with
    | nil => exact absurd rfl h2
    | cons _ _ => simp
  obtain ⟨b, u, sb, a1, a2, a3, a4, a5⟩ := seg (fKind_local s) h3 k1 i hi
  have hne : (e.take (i + 1)).drop b ≠ [] := by
    intro e0
    have := congrArg List.length e0
    simp at this
    omega
  refine ⟨b, a1, a2, ?_, ?_⟩
  · unfold kind
    rw [runE_mk (v := u) (by simp; omega) hne a3]
  · obtain ⟨so', m, m1, m2, m3, m4⟩ := spans_ok hne a3
    refine ⟨m, m2, ?_⟩
    obtain ⟨b', _, _, c1, c2, _⟩ := seg (fKind_local s) a3 m1 0 (by simp; omega)
    rw [c1]
    have : b' = 0 := by omega
    subst this; rfl
end Abs
