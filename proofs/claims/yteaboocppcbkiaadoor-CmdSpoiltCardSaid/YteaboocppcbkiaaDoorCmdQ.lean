/- Plain: what commands that are right have. No program in sight. -/
import Derived.Test.YteaboocppcbkiaaDoorCmdP
set_option linter.all false
namespace Abs
open Go
theorem actsE_take {s : Scope} : ∀ (l : List Act) (i : Nat) (t : Bool) (k : Nat), (actsE s l i t).2 = 0 → actsE s (l.take k) i t = (0, 0)
  | [], i, t, k, _ => by simp [actsE]
  | a :: r, i, t, 0, _ => by simp [actsE]
  | a :: r, i, t, k + 1, h => by
    simp only [List.take_succ_cons, actsE] at h ⊢
    by_cases h1 : (talks a && t) = true
    · rw [if_pos h1] at h; cases h
    rw [if_neg h1] at h ⊢
    by_cases h2 : actE a s ≠ 0
    · rw [if_pos h2] at h; exact absurd h h2
    rw [if_neg h2] at h ⊢
    exact actsE_take r _ _ k h
theorem actE_kind {a : Act} {s : Scope} (h : actE a s = 0) : 1 ≤ a.kind ∧ a.kind ≤ 5 := by
  unfold actE at h
  by_cases h1 : a.kind = 1 ∨ a.kind = 2 ∨ a.kind = 3
  · omega
  · rw [if_neg h1] at h
    by_cases h2 : a.kind = 4 ∨ a.kind = 5
    · omega
    · rw [if_neg h2] at h; cases h
theorem actsE_each {s : Scope} : ∀ (l : List Act) (i : Nat) (t : Bool), (actsE s l i t).2 = 0 → ∀ a ∈ l, actE a s = 0
  | [], i, t, _ => by simp
  | a :: r, i, t, h => by
    simp only [actsE] at h
    by_cases h1 : (talks a && t) = true
    · rw [if_pos h1] at h; cases h
    rw [if_neg h1] at h
    by_cases h2 : actE a s ≠ 0
    · rw [if_pos h2] at h; exact absurd h h2
    rw [if_neg h2] at h
    intro b hb
    rcases List.mem_cons.1 hb with rfl | hb
    · simpa using h2
    · exact actsE_each r _ _ h b hb
/-- How many send or receive, as the law counts. -/
def nTalk (l : List Act) : Nat := (l.filter fun a => decide (4 ≤ a.kind)).length
theorem actsE_count {s : Scope} : ∀ (l : List Act) (i : Nat) (t : Bool), (actsE s l i t).2 = 0 → nTalk l + (if t then 1 else 0) ≤ 1
  | [], i, t, _ => by cases t <;> simp [nTalk]
  | a :: r, i, t, h => by
    simp only [actsE] at h
    by_cases h1 : (talks a && t) = true
    · rw [if_pos h1] at h; cases h
    rw [if_neg h1] at h
    by_cases h2 : actE a s ≠ 0
    · rw [if_pos h2] at h; exact absurd h h2
    rw [if_neg h2] at h
    have ih := actsE_count r _ _ h
    have hk := actE_kind (show actE a s = 0 by simpa using h2)
    have ht : talks a = decide (4 ≤ a.kind) := by unfold talks; congr 1; apply propext; omega
    rw [ht] at h1 ih
    by_cases h4 : 4 ≤ a.kind
    · have htf : t = false := by simpa [h4] using h1
      subst htf
      simp only [nTalk, List.filter_cons, h4, decide_true, if_true, List.length_cons] at ih ⊢
      simp at ih ⊢
      omega
    · simp only [nTalk, List.filter_cons, h4, decide_false, Bool.or_false] at ih ⊢
      simpa using ih
theorem nTalk_take {l : List Act} {k : Nat} (h : k < l.length) : nTalk (l.take (k + 1)) = nTalk (l.take k) + (if 4 ≤ l[k].kind then 1 else 0) := by
  rw [List.take_succ_eq_append_getElem h]
  unfold nTalk
  rw [List.filter_append, List.length_append]
  by_cases h4 : 4 ≤ l[k].kind <;> simp [h4]
theorem cmdCheck_ok {c : Cmd} {n : Int} {s : Scope} (h : (cmdCheck c n s).2 = 0) : head c n = 0 ∧ (c.guard.length > 0 → asked c.guard 1 s = 0) ∧ (actsE s c.acts 0 false).2 = 0 := by
  unfold cmdCheck at h
  by_cases h1 : head c n ≠ 0
  · rw [if_pos h1] at h; exact absurd h h1
  rw [if_neg h1] at h
  by_cases h2 : c.guard.length > 0 ∧ asked c.guard 1 s ≠ 0
  · rw [if_pos h2] at h; exact absurd h h2.2
  rw [if_neg h2] at h
  exact ⟨by simpa using h1, fun hg => Classical.byContradiction fun hn => h2 ⟨hg, hn⟩, h⟩
theorem head_ok {c : Cmd} {n : Int} (h : head c n = 0) : isName c.name = true ∧ 0 ≤ c.from_ ∧ c.from_ < n ∧ 0 ≤ c.to ∧ c.to < n ∧ c.acts.length ≤ 6 := by
  unfold head at h
  by_cases h1 : isName c.name = false
  · rw [if_pos h1] at h; cases h
  rw [if_neg h1] at h
  by_cases h2 : c.from_ < 0 ∨ n ≤ c.from_ ∨ c.to < 0 ∨ n ≤ c.to
  · rw [if_pos h2] at h; cases h
  rw [if_neg h2] at h
  by_cases h3 : c.acts.length > 6
  · rw [if_pos h3] at h; cases h
  exact ⟨by simpa using h1, by omega, by omega, by omega, by omega, by omega⟩
theorem head_mk {c : Cmd} {n : Int} (h1 : isName c.name = true) (h2 : 0 ≤ c.from_ ∧ c.from_ < n ∧ 0 ≤ c.to ∧ c.to < n) (h3 : c.acts.length ≤ 6) : head c n = 0 := by
  unfold head
  rw [if_neg (by simp [h1]), if_neg (by omega), if_neg (by omega)]
/-- Fewer acts, and no guard: as right. -/
theorem check_take {c : Cmd} {n : Int} {s : Scope} (h : (cmdCheck c n s).2 = 0) (k : Nat) : cmdCheck { c with acts := c.acts.take k } n s = (0, 0) ∧ cmdCheck { c with acts := c.acts.take k, guard := [] } n s = (0, 0) := by
  obtain ⟨h1, h2, h3⟩ := cmdCheck_ok h
  obtain ⟨a1, a2, a3, a4, a5, a6⟩ := head_ok h1
  have hl : (c.acts.take k).length ≤ 6 := by rw [List.length_take]; omega
  have ht := actsE_take c.acts 0 false k h3
  constructor
  · unfold cmdCheck
    rw [if_neg (by rw [head_mk (c := { c with acts := c.acts.take k }) a1 ⟨a2, a3, a4, a5⟩ hl]; simp), if_neg (fun hh => hh.2 (h2 hh.1))]
    exact ht
  · unfold cmdCheck
    rw [if_neg (by rw [head_mk (c := { c with acts := c.acts.take k, guard := [] }) a1 ⟨a2, a3, a4, a5⟩ hl]; simp), if_neg (by simp)]
    exact ht
theorem check_spoilt {c : Cmd} {n : Int} {s : Scope} (h : (cmdCheck c n s).2 = 0) : cmdCheck { c with to := n } n s = (0, 10) ∧ cmdCheck { c with from_ := -1 } n s = (0, 10) ∧ cmdCheck { c with name := ⟨#[]⟩ } n s = (0, 6) := by
  obtain ⟨h1, h2, h3⟩ := cmdCheck_ok h
  obtain ⟨a1, a2, a3, a4, a5, a6⟩ := head_ok h1
  have e1 : head { c with to := n } n = 10 := by
    unfold head
    simp only
    rw [if_neg (by simp [a1]), if_pos (by omega)]
  have e2 : head { c with from_ := -1 } n = 10 := by
    unfold head
    simp only
    rw [if_neg (by simp [a1]), if_pos (by omega)]
  have e3 : head { c with name := ⟨#[]⟩ } n = 6 := by
    unfold head
    simp only
    rw [if_pos (by decide)]
  refine ⟨?_, ?_, ?_⟩
  · unfold cmdCheck; rw [e1]; rfl
  · unfold cmdCheck; rw [e2]; rfl
  · unfold cmdCheck; rw [e3]; rfl
theorem asked_ok {e : List Node} {k : Int} {s : Scope} (h : asked e k s = 0) : kind e s = (k, 0) := by
  unfold asked at h
  by_cases h1 : (kind e s).2 ≠ 0
  · rw [if_pos h1] at h; exact absurd h h1
  rw [if_neg h1] at h
  by_cases h2 : (kind e s).1 ≠ k
  · rw [if_pos h2] at h; cases h
  exact Prod.ext (by simpa using h2) (by simpa using h1)
theorem kind_one {op n : Int} {s : Scope} (h : nparts op = 0) (h2 : opOf op = none) : kind [⟨op, n⟩] s = if (kleaf ⟨op, n⟩ s 0).2 ≠ 0 then (0, (kleaf ⟨op, n⟩ s 0).2) else ((kleaf ⟨op, n⟩ s 0).1, 0) := by
  have hf : fKind s ⟨op, n⟩ [] = kleaf ⟨op, n⟩ s 0 := by unfold fKind; simp only [h2]; rfl
  unfold kind runE
  simp only [List.length_cons, List.length_nil, runL, stepG, h, hf]
  by_cases h3 : (kleaf ⟨op, n⟩ s 0).2 = 0
  · simp [h3]
  · simp [h3]
theorem declared_var {l : List Var} {n : Int} {s : Scope} {v : Var} {k : Int} (h : declared l n s = some (v, k)) : nth l n = some v ∧ kvar l n s = (k, (kscalar v.over s).1, true) ∧ (kscalar v.over s).1 = (if v.over = 0 then 0 else 1 + v.over) := by
  unfold declared at h
  cases hn : nth l n with
  | none => rw [hn] at h; cases h
  | some u =>
    rw [hn] at h
    simp only at h
    by_cases ht : (thing u.scalar u.over s).2 = true
    · rw [if_pos ht] at h
      cases h
      refine ⟨rfl, ?_⟩
      unfold thing at ht
      by_cases q1 : v.scalar < 0 ∨ (s.scalars.length : Int) < v.scalar ∨ v.over < 0 ∨ (s.scalars.length : Int) < v.over
      · rw [if_pos q1] at ht; cases ht
      have e1 : kscalar v.over s = (if v.over = 0 then 0 else 1 + v.over, true) := by
        unfold kscalar
        by_cases q2 : v.over = 0
        · rw [if_pos q2, if_pos q2]
        · rw [if_neg q2, if_neg (by omega), if_neg q2]
      have e2 : kscalar v.scalar s = thing v.scalar v.over s := by
        unfold kscalar thing
        rw [if_neg q1]
        by_cases q2 : v.scalar = 0
        · rw [if_pos q2, if_pos q2]
        · rw [if_neg q2, if_neg (by omega), if_neg q2]
      have e3 : (thing v.scalar v.over s).2 = true := by
        unfold thing; rw [if_neg q1]; split <;> rfl
      rw [e1]
      refine ⟨?_, rfl⟩
      unfold kvar
      rw [hn]
      simp only [e1, e2, e3, Bool.and_self]
    · rw [if_neg ht] at h; cases h
/-- What a plain variable or a local is set to is of its kind. -/
theorem act_values {a : Act} {s : Scope} (h : actE a s = 0) (hk : a.kind = 1 ∨ a.kind = 3) : ∃ k, kind [⟨if a.kind = 1 then 2 else 4, a.to⟩] s = (k, 0) ∧ kind a.value s = (k, 0) := by
  unfold actE at h
  rw [if_pos (by omega)] at h
  have hl : (if a.kind = 3 then s.locals else s.vars) = (if (if a.kind = 1 then (2 : Int) else 4) = 4 then s.locals else s.vars) := by
    rcases hk with e | e <;> simp [e]
  rw [hl] at h
  generalize hop : (if a.kind = 1 then (2 : Int) else 4) = op at *
  have hop' : op = 2 ∨ op = 4 := by split at hop <;> omega
  cases hd : declared (if op = 4 then s.locals else s.vars) a.to s with
  | none => rw [hd] at h; cases h
  | some q =>
    obtain ⟨v, k⟩ := q
    rw [hd] at h
    simp only at h
    by_cases g1 : (v.over ≠ 0) ≠ (a.kind = 2)
    · rw [if_pos g1] at h; cases h
    rw [if_neg g1] at h
    have g2 : v.over = 0 := by
      have : ¬ a.kind = 2 := by omega
      simpa [this] using g1
    rw [if_neg (by omega)] at h
    obtain ⟨_, h1, h2⟩ := declared_var hd
    refine ⟨k, ?_, asked_ok h⟩
    have hle : kleaf ⟨op, a.to⟩ s 0 = (k, 0) := by
      unfold kleaf
      simp only
      rw [if_neg (by omega), if_pos (by omega), h1, h2]
      simp [g2]
      omega
    rw [kind_one (by rcases hop' with e | e <;> subst e <;> rfl) (by rcases hop' with e | e <;> subst e <;> decide), hle]
    rfl
theorem kind_in1 {op n : Int} {s : Scope} {k : Int} (hop : op = 2 ∨ op = 4) (hs : s.vars.length ≤ 1152921504606846976 ∧ s.chans.length ≤ 1152921504606846976 ∧ s.procs.length ≤ 1152921504606846976 ∧ s.locals.length ≤ 1152921504606846976 ∧ inI s.self) (h : kind [⟨op, n⟩] s = (k, 0)) : inI n := by
  rw [kind_one (by rcases hop with e | e <;> subst e <;> rfl) (by rcases hop with e | e <;> subst e <;> decide)] at h
  by_cases h0 : (kleaf ⟨op, n⟩ s 0).2 ≠ 0
  · rw [if_pos h0] at h
    injection h with _ h
    exact absurd h h0
  have h1 : (kleaf ⟨op, n⟩ s 0).2 = 0 := by simpa using h0
  unfold kleaf at h1
  simp only at h1
  rw [if_neg (by omega), if_pos (by omega)] at h1
  by_cases h2 : (kvar (if op = 4 then s.locals else s.vars) n s).2.2 = false
  · rw [if_pos h2] at h1; cases h1
  have h3 : ∃ v, nth (if op = 4 then s.locals else s.vars) n = some v := by
    unfold kvar at h2
    cases hn : nth (if op = 4 then s.locals else s.vars) n with
    | none => rw [hn] at h2; exact absurd rfl h2
    | some v => exact ⟨v, rfl⟩
  obtain ⟨v, hv⟩ := h3
  unfold nth at hv
  by_cases h4 : 0 ≤ n
  · rw [if_pos h4] at hv
    have := (List.getElem?_eq_some_iff.1 hv).1
    have h5 : n.toNat < 1152921504606846976 := by
      split at this <;> omega
    unfold inI
    omega
  · rw [if_neg h4] at hv; cases hv
end Abs
