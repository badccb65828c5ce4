/- Texts joined: ModP LiteM ModA LexC DeclC DeclD ModD DeclA DeclR ModB ExprD. -/
import Derived.Test.YtbbaokmelkiemaaGreatDoorQc
import Derived.Test.YtbbaokmelkiemaaGreatDoorQd
import Derived.Test.YtbbaokmelkiemaaGreatDoorQe
import Derived.Test.YtbbaokmelkiemaaGreatDoorQf
import Derived.Maps.RangeRun
set_option linter.all false
section
/- Plain: whole models. No program in sight. -/
namespace Abs
open Go
structure Fault where
  why : Int
  part : Int
  item : Int
  sub : Int
deriving DecidableEq
def fine : Fault := ⟨0, 0, 0, 0⟩
abbrev nS (m : Model) : List ByteArray := m.scalars.map (·.name)
abbrev nV (m : Model) (i : Nat) : List ByteArray := (m.vars.take i).map (·.name)
abbrev nC (m : Model) (i : Nat) : List ByteArray := (m.chans.take i).map (·.name)
abbrev nP (m : Model) (i : Nat) : List ByteArray := (m.procs.take i).map (·.name)
abbrev nR (m : Model) (i : Nat) : List ByteArray := (m.props.take i).map (·.name)
abbrev nSV (m : Model) (i : Nat) : List ByteArray := nS m ++ nV m i
abbrev nSVC (m : Model) (i : Nat) : List ByteArray := nSV m m.vars.length ++ nC m i
abbrev nSVCP (m : Model) (i : Nat) : List ByteArray := nSVC m m.chans.length ++ nP m i
abbrev nAll (m : Model) (i : Nat) : List ByteArray := nSVCP m m.procs.length ++ nR m i
def verr (m : Model) : Nat → Int := err 12 (nameAt (·.name) m.vars) (varErr m.vars m.scalars)
def cerr (m : Model) : Nat → Int := err 4 (nameAt (·.name) m.chans) (chanErr m.chans m.scalars)
def evar (m : Model) (i : Nat) : Int := if verr m i ≠ 0 then verr m i else if nameAt (·.name) m.vars i ∈ nSV m i then 7 else 0
def echan (m : Model) (i : Nat) : Int := if cerr m i ≠ 0 then cerr m i else if nameAt (·.name) m.chans i ∈ nSVC m i then 7 else 0
def elocs (m : Model) (p : Proc) (k : Nat) : Int := if nameAt (·.name) p.vars k ∈ nSVCP m m.procs.length then 7 else 0
def eproc (m : Model) (i : Nat) : Int × Int :=
  match m.procs[i]? with
  | none => (0, 0)
  | some p => if 6 ≤ i then (11, 0)
    else if (procCheck p (pscope m i)).2.2 ≠ 0 then ((procCheck p (pscope m i)).2.2, 16 * (procCheck p (pscope m i)).1 + (procCheck p (pscope m i)).2.1)
    else if p.name ∈ nSVCP m i then (7, 0)
    else if (first p.vars.length (elocs m p)).2 ≠ 0 then (7, 16 + (first p.vars.length (elocs m p)).1)
    else (0, 0)
def pinsts (m : Model) (p : Proc) : Int := if p.over = 0 then 1 else size p.over m.scalars
def sumI (l : List Int) : Int := l.foldl (· + ·) 0
def ccap (c : Chan) : Int := 1 + min (max c.cap 0) 4
def pieces (m : Model) : Int × Int × Int :=
  (sumI (m.procs.map (pinsts m)), sumI (m.procs.map fun p => pinsts m p * p.cmds.length),
   sumI (m.vars.map (fun v => cells v m.scalars)) + sumI (m.chans.map ccap) + sumI (m.procs.map fun p => pinsts m p * (1 + p.vars.length)))
def eprop (m : Model) (i : Nat) : Int :=
  match m.props[i]? with
  | none => 0
  | some p => if 8 ≤ i then 11 else if isName p.name = false then 6 else if p.name ∈ nAll m i then 7
    else if (kind p.expr (mscope m)).2 ≠ 0 then (kind p.expr (mscope m)).2 else if (kind p.expr (mscope m)).1 ≠ 1 then 9 else 0
def data (m : Model) : Fault :=
  if (scalars m.scalars).2 ≠ 0 then ⟨(scalars m.scalars).2, 1, (scalars m.scalars).1, 0⟩
  else if (first m.vars.length (evar m)).2 ≠ 0 then ⟨(first m.vars.length (evar m)).2, 2, (first m.vars.length (evar m)).1, 0⟩
  else if (first m.chans.length (echan m)).2 ≠ 0 then ⟨(first m.chans.length (echan m)).2, 3, (first m.chans.length (echan m)).1, 0⟩
  else fine
def procsF (m : Model) : Fault :=
  if (first m.procs.length fun i => (eproc m i).1).2 ≠ 0 then ⟨(first m.procs.length fun i => (eproc m i).1).2, 4, (first m.procs.length fun i => (eproc m i).1).1, (eproc m (first m.procs.length fun i => (eproc m i).1).1.toNat).2⟩
  else if 12 < (pieces m).1 ∨ 64 < (pieces m).2.2 then ⟨11, 4, m.procs.length, 0⟩ else fine
def propsF (m : Model) : Fault := if (first m.props.length (eprop m)).2 ≠ 0 then ⟨(first m.props.length (eprop m)).2, 5, (first m.props.length (eprop m)).1, 0⟩ else fine
def check (m : Model) : Fault := if (data m).why ≠ 0 then data m else if (procsF m).why ≠ 0 then procsF m else propsF m

theorem nameAt_get {α : Type} {f : α → ByteArray} {l : List α} {i : Nat} (h : i < l.length) : nameAt f l i = f l[i] := by
  unfold nameAt; rw [List.getElem?_eq_getElem h]; rfl
theorem min_exists {p : Nat → Prop} (h : ∃ j, p j) : ∃ i, p i ∧ ∀ k, p k → i ≤ k := by
  obtain ⟨j, hj⟩ := h
  induction j using Nat.strongRecOn with
  | _ j ih =>
    by_cases hx : ∃ k, k < j ∧ p k
    · obtain ⟨k, hk, hp⟩ := hx; exact ih k hk hp
    · exact ⟨j, hj, fun k hp => Nat.le_of_not_lt fun hlt => hx ⟨k, hlt, hp⟩⟩
theorem first_zero {n : Nat} {e : Nat → Int} (h : (first n e).2 = 0) : ∀ j, j < n → e j = 0 := by
  intro j hj
  apply Classical.byContradiction
  intro hn
  obtain ⟨i, hi, h1⟩ := min_exists (p := fun j => j < n ∧ e j ≠ 0) ⟨j, hj, hn⟩
  rw [first_stop hi.1 (fun k hk => by
    apply Classical.byContradiction
    intro hne
    exact absurd (h1 k ⟨by omega, hne⟩) (by omega)) hi.2] at h
  exact hi.2 h
/-- What is told is told of a place that is there. -/
theorem first_lt {n : Nat} {e : Nat → Int} (h : (first n e).2 ≠ 0) : ∃ i, i < n ∧ (first n e).1 = (i : Int) ∧ (first n e).2 = e i := by
  unfold first at h ⊢
  split at h
  · rename_i i hi
    rw [List.find?_range_eq_some] at hi
    exact ⟨i, by simpa using hi.2.1, rfl, rfl⟩
  · exact absurd rfl h
theorem vars_eq (m : Model) : vars m.vars m.scalars 12 = first m.vars.length (verr m) := rfl
theorem chans_eq (m : Model) : chans m.chans m.scalars = first m.chans.length (cerr m) := rfl
theorem verr_of {m : Model} {i : Nat} (h : evar m i = 0) : verr m i = 0 := by
  apply Classical.byContradiction
  intro hn
  unfold evar at h
  rw [if_pos hn] at h
  exact hn h
theorem cerr_of {m : Model} {i : Nat} (h : echan m i = 0) : cerr m i = 0 := by
  apply Classical.byContradiction
  intro hn
  unfold echan at h
  rw [if_pos hn] at h
  exact hn h
theorem evar_lt {m : Model} {i : Nat} (h : evar m i = 0) : i < 12 := by
  have h := verr_of h
  unfold verr err at h
  split at h
  · cases h
  · omega
theorem echan_lt {m : Model} {i : Nat} (h : echan m i = 0) : i < 4 := by
  have h := cerr_of h
  unfold cerr err at h
  split at h
  · cases h
  · omega
theorem eproc_lt {m : Model} {i : Nat} (hi : i < m.procs.length) (h : (eproc m i).1 = 0) : i < 6 := by
  unfold eproc at h
  rw [List.getElem?_eq_getElem hi] at h
  simp only at h
  split at h
  · cases h
  · omega
theorem scalars_lt {m : Model} (h : (scalars m.scalars).2 = 0) : m.scalars.length ≤ 2 := by
  unfold scalars at h
  have := first_zero h
  apply Classical.byContradiction
  intro hn
  have h2 := this 2 (by omega)
  unfold err at h2
  rw [if_pos (by omega)] at h2
  cases h2
theorem size_le (k : Int) (s : List Scalar) : 0 ≤ size k s ∧ size k s ≤ 4 := by
  unfold size
  split
  · split <;> omega
  · omega
theorem cells_le (v : Var) (s : List Scalar) : 0 ≤ cells v s ∧ cells v s ≤ 4 := by
  have := size_le v.over s
  unfold cells
  split <;> omega
theorem pinsts_le (m : Model) (p : Proc) : 0 ≤ pinsts m p ∧ pinsts m p ≤ 4 := by
  have := size_le p.over m.scalars
  unfold pinsts
  split <;> omega
theorem ccap_le (c : Chan) : 1 ≤ ccap c ∧ ccap c ≤ 5 := by unfold ccap; omega
theorem sumI_snoc (l : List Int) (x : Int) : sumI (l ++ [x]) = sumI l + x := by unfold sumI; simp
theorem sumI_take {α : Type} (f : α → Int) (l : List α) {k : Nat} (h : k < l.length) : sumI ((l.take (k + 1)).map f) = sumI ((l.take k).map f) + f l[k] := by
  rw [List.take_succ_eq_append_getElem h, List.map_append, List.map_cons, List.map_nil, sumI_snoc]
theorem sumI_le {α : Type} (f : α → Int) (B : Int) (hB : 0 ≤ B) : ∀ (l : List α), (∀ x ∈ l, 0 ≤ f x ∧ f x ≤ B) → 0 ≤ sumI (l.map f) ∧ sumI (l.map f) ≤ B * l.length := by
  have key : ∀ (l : List α) (a : Int), (∀ x ∈ l, 0 ≤ f x ∧ f x ≤ B) → a ≤ (l.map f).foldl (· + ·) a ∧ (l.map f).foldl (· + ·) a ≤ a + B * l.length := by
    intro l
    induction l with
    | nil => intro a _; simp
    | cons x r ih =>
      intro a h
      have hx := h x (by simp)
      obtain ⟨h1, h2⟩ := ih (a + f x) fun y hy => h y (by simp [hy])
      simp only [List.map_cons, List.foldl_cons, List.length_cons]
      rw [Int.natCast_succ, Int.mul_add]
      omega
  intro l h
  obtain ⟨h1, h2⟩ := key l 0 h
  unfold sumI
  omega
end Abs
namespace Abs
theorem data_s {m : Model} (h : (scalars m.scalars).2 ≠ 0) : data m = ⟨(scalars m.scalars).2, 1, (scalars m.scalars).1, 0⟩ := by unfold data; rw [if_pos h]
theorem data_v {m : Model} (hs : (scalars m.scalars).2 = 0) {i : Nat} (hi : i < m.vars.length) (hz : ∀ j, j < i → evar m j = 0) (h : evar m i ≠ 0) : data m = ⟨evar m i, 2, i, 0⟩ := by
  unfold data
  rw [if_neg (by simpa using hs), first_stop hi hz h, if_pos h]
theorem data_c {m : Model} (hs : (scalars m.scalars).2 = 0) (hv : ∀ j, j < m.vars.length → evar m j = 0) {i : Nat} (hi : i < m.chans.length) (hz : ∀ j, j < i → echan m j = 0) (h : echan m i ≠ 0) : data m = ⟨echan m i, 3, i, 0⟩ := by
  unfold data
  rw [if_neg (by simpa using hs), first_none hv, if_neg (by simp), first_stop hi hz h, if_pos h]
theorem data_0 {m : Model} (hs : (scalars m.scalars).2 = 0) (hv : ∀ j, j < m.vars.length → evar m j = 0) (hc : ∀ j, j < m.chans.length → echan m j = 0) : data m = fine := by
  unfold data
  rw [if_neg (by simpa using hs), first_none hv, if_neg (by simp), first_none hc, if_neg (by simp)]
theorem data_ok {m : Model} (h : (data m).why = 0) : (scalars m.scalars).2 = 0 ∧ (∀ j, j < m.vars.length → evar m j = 0) ∧ (∀ j, j < m.chans.length → echan m j = 0) := by
  unfold data at h
  by_cases h1 : (scalars m.scalars).2 = 0
  · rw [if_neg (by simpa using h1)] at h
    by_cases h2 : (first m.vars.length (evar m)).2 = 0
    · rw [if_neg (by simpa using h2)] at h
      by_cases h3 : (first m.chans.length (echan m)).2 = 0
      · exact ⟨h1, first_zero h2, first_zero h3⟩
      · rw [if_pos h3] at h; exact absurd h h3
    · rw [if_pos h2] at h; exact absurd h h2
  · rw [if_pos h1] at h; exact absurd h h1
/-- What has no fault is not great. -/
theorem data_few {m : Model} (h : (data m).why = 0) : m.scalars.length ≤ 2 ∧ m.vars.length ≤ 12 ∧ m.chans.length ≤ 4 := by
  obtain ⟨h1, h2, h3⟩ := data_ok h
  refine ⟨scalars_lt h1, ?_, ?_⟩
  · apply Classical.byContradiction
    intro hn
    have := evar_lt (h2 12 (by omega))
    omega
  · apply Classical.byContradiction
    intro hn
    have := echan_lt (h3 4 (by omega))
    omega
theorem procs_i {m : Model} {i : Nat} (hi : i < m.procs.length) (hz : ∀ j, j < i → (eproc m j).1 = 0) (h : (eproc m i).1 ≠ 0) : procsF m = ⟨(eproc m i).1, 4, i, (eproc m i).2⟩ := by
  unfold procsF
  rw [first_stop (e := fun i => (eproc m i).1) hi hz h]
  simp only
  rw [if_pos h]
  simp
theorem procs_all {m : Model} (hz : ∀ j, j < m.procs.length → (eproc m j).1 = 0) : procsF m = if 12 < (pieces m).1 ∨ 64 < (pieces m).2.2 then ⟨11, 4, m.procs.length, 0⟩ else fine := by
  unfold procsF
  rw [first_none (e := fun i => (eproc m i).1) hz, if_neg (by simp)]
theorem props_i {m : Model} {i : Nat} (hi : i < m.props.length) (hz : ∀ j, j < i → eprop m j = 0) (h : eprop m i ≠ 0) : propsF m = ⟨eprop m i, 5, i, 0⟩ := by
  unfold propsF
  rw [first_stop hi hz h, if_pos h]
theorem props_0 {m : Model} (hz : ∀ j, j < m.props.length → eprop m j = 0) : propsF m = fine := by
  unfold propsF
  rw [first_none hz, if_neg (by simp)]
theorem props_ok {m : Model} (h : (propsF m).why = 0) : ∀ j, j < m.props.length → eprop m j = 0 := by
  by_cases h1 : (first m.props.length (eprop m)).2 = 0
  · exact first_zero h1
  · unfold propsF at h
    rw [if_pos h1] at h; exact absurd h h1
theorem take_snocN {α : Type} (f : α → ByteArray) (l : List α) {k : Nat} (h : k < l.length) : (l.take (k + 1)).map f = (l.take k).map f ++ [f l[k]] := by
  rw [List.take_succ_eq_append_getElem h, List.map_append]; rfl
end Abs
namespace Abs
theorem eproc_get {m : Model} {i : Nat} (hi : i < m.procs.length) : eproc m i = if 6 ≤ i then (11, 0)
    else if (procCheck m.procs[i] (pscope m i)).2.2 ≠ 0 then ((procCheck m.procs[i] (pscope m i)).2.2, 16 * (procCheck m.procs[i] (pscope m i)).1 + (procCheck m.procs[i] (pscope m i)).2.1)
    else if m.procs[i].name ∈ nSVCP m i then (7, 0)
    else if (first m.procs[i].vars.length (elocs m m.procs[i])).2 ≠ 0 then (7, 16 + (first m.procs[i].vars.length (elocs m m.procs[i])).1)
    else (0, 0) := by
  unfold eproc
  rw [List.getElem?_eq_getElem hi]
theorem eprop_get {m : Model} {i : Nat} (hi : i < m.props.length) : eprop m i = if 8 ≤ i then 11 else if isName m.props[i].name = false then 6 else if m.props[i].name ∈ nAll m i then 7
    else if (kind m.props[i].expr (mscope m)).2 ≠ 0 then (kind m.props[i].expr (mscope m)).2 else if (kind m.props[i].expr (mscope m)).1 ≠ 1 then 9 else 0 := by
  unfold eprop
  rw [List.getElem?_eq_getElem hi]
theorem first_in (n : Nat) (e : Nat → Int) : 0 ≤ (first n e).1 ∧ (first n e).1 ≤ n := by
  unfold first
  split
  · rename_i i hi
    rw [List.find?_range_eq_some] at hi
    have := hi.2.1
    simp at this
    constructor <;> simp <;> omega
  · simp
theorem localsE_in (s : Scope) : ∀ (l : List Var) (i : Nat), 0 ≤ (localsE s l i).1 ∧ (localsE s l i).1 ≤ i + l.length
  | [], i => by first | (simp [localsE]; done) | (simp [localsE]; omega)
  | v :: r, i => by
    have := localsE_in s r (i + 1)
    unfold localsE
    split
    · simp; omega
    · split
      · simp; omega
      · simp only [List.length_cons]; omega
theorem plocals_in (p : Proc) (s : Scope) : 0 ≤ (plocals p s).1 ∧ (plocals p s).1 ≤ p.vars.length := by
  unfold plocals
  split
  · exact first_in _ _
  · have := localsE_in s p.vars 0; omega
theorem actsE_in (s : Scope) : ∀ (l : List Act) (i : Nat) (t : Bool), 0 ≤ (actsE s l i t).1 ∧ (actsE s l i t).1 ≤ 2 + i + l.length
  | [], i, t => by first | (simp [actsE]; done) | (simp [actsE]; omega)
  | a :: r, i, t => by
    have := actsE_in s r (i + 1) (t || talks a)
    unfold actsE
    split
    · simp; omega
    · split
      · simp; omega
      · simp only [List.length_cons]; omega
theorem cmdCheck_in (c : Cmd) (locs : Int) (s : Scope) : 0 ≤ (cmdCheck c locs s).1 ∧ (cmdCheck c locs s).1 ≤ 2 + c.acts.length := by
  unfold cmdCheck
  split
  · simp; omega
  · split
    · simp; omega
    · have := actsE_in s c.acts 0 false; omega
theorem cmdsE_in (own : Scope) (locs : Int) (all : List Cmd) (B : Nat) : ∀ (l : List Cmd) (i : Nat), (∀ c ∈ l, c.acts.length ≤ B) → 0 ≤ (cmdsE own locs all l i).1 ∧ (cmdsE own locs all l i).1 ≤ 2 + i + l.length ∧ 0 ≤ (cmdsE own locs all l i).2.1 ∧ (cmdsE own locs all l i).2.1 ≤ 2 + B
  | [], i, _ => by first | (simp [cmdsE]; done) | (simp [cmdsE]; omega)
  | c :: r, i, h => by
    have h1 := cmdsE_in own locs all B r (i + 1) fun x hx => h x (by simp [hx])
    have h2 := cmdCheck_in c locs own
    have h3 := h c (by simp)
    unfold cmdsE
    split
    · simp only [List.length_cons]; omega
    · split
      · simp only [List.length_cons]; omega
      · simp only [List.length_cons]; omega
theorem procCheck_in (p : Proc) (s : Scope) (B : Nat) (h : ∀ c ∈ p.cmds, c.acts.length ≤ B) : 0 ≤ (procCheck p s).1 ∧ (procCheck p s).1 ≤ 2 + p.cmds.length ∧ 0 ≤ (procCheck p s).2.1 ∧ (procCheck p s).2.1 ≤ 2 + B + p.vars.length := by
  unfold procCheck
  split
  · simp; omega
  · split
    · have := plocals_in p s
      simp only; omega
    · have := cmdsE_in (inner p s) p.locs p.cmds B p.cmds 0 h
      omega
theorem procCheck_few {p : Proc} {s : Scope} (h : (procCheck p s).2.2 = 0) : p.vars.length ≤ 4 ∧ p.cmds.length ≤ 12 ∧ whole p s = 0 ∧ (plocals p s).2 = 0 ∧ (cmdsE (inner p s) p.locs p.cmds p.cmds 0).2.2 = 0 := by
  unfold procCheck at h
  by_cases h1 : whole p s = 0
  · rw [if_neg (by simpa using h1)] at h
    by_cases h2 : (plocals p s).2 = 0
    · rw [if_neg (by simpa using h2)] at h
      refine ⟨?_, ?_, h1, h2, h⟩
      · have h3 : (vars p.vars s.scalars 4).2 = 0 := by
          apply Classical.byContradiction
          intro hn
          unfold plocals at h2
          rw [if_pos hn] at h2
          exact hn h2
        apply Classical.byContradiction
        intro hn
        have h4 := first_zero h3 4 (by omega)
        unfold err at h4
        rw [if_pos (by decide)] at h4
        cases h4
      · apply Classical.byContradiction
        intro hn
        unfold whole at h1
        split at h1
        · cases h1
        · split at h1
          · cases h1
          · split at h1
            · cases h1
            · rw [if_pos (by omega)] at h1; cases h1
    · rw [if_pos h2] at h; exact absurd h h2
  · rw [if_pos h1] at h; exact absurd h h1
theorem eproc_ok {m : Model} {i : Nat} (hi : i < m.procs.length) (h : (eproc m i).1 = 0) : i < 6 ∧ (procCheck m.procs[i] (pscope m i)).2.2 = 0 ∧ ¬ m.procs[i].name ∈ nSVCP m i ∧ (first m.procs[i].vars.length (elocs m m.procs[i])).2 = 0 := by
  rw [eproc_get hi] at h
  split at h
  · cases h
  · split at h
    · rename_i h1 h2; exact absurd h h2
    · split at h
      · cases h
      · split at h
        · cases h
        · rename_i h1 h2 h3 h4
          exact ⟨by omega, by simpa using h2, h3, by simpa using h4⟩
end Abs
end
section
/- Lite: maps that are sets of names; a range over one. -/
set_option maxRecDepth 4000
namespace Lite
open Go Go.RowKit
def seenS (l : List ByteArray) : List (ByteArray × Value) := l.map fun x => (x, .bool true)
theorem seenS_find (l : List ByteArray) (x : ByteArray) : ((seenS l).find? (fun p => decide (x = p.1))).map (·.2) = if x ∈ l then some (.bool true) else none := by
  induction l with
  | nil => rfl
  | cons y l ih =>
    simp only [seenS, List.map_cons, List.find?_cons, List.mem_cons]
    by_cases h : x = y
    · simp [h]
    · simp only [h, decide_false, false_or]
      exact ih
/-- Entries that are a set of names. -/
structure MapS (es : Array MapEntry) (c : Nat) (L : List ByteArray) : Prop where
  kv : ∃ l, KV Value.string es.toList (seenS l) ∧ ∀ x, x ∈ l ↔ x ∈ L
  born : ∀ e ∈ es.toList, e.born < c
  nodup : (es.toList.map (·.born)).Nodup
theorem KV.mem {l : List ByteArray} : ∀ {es : List MapEntry}, KV Value.string es (seenS l) → ∀ e ∈ es, ∃ x ∈ l, e.key = .string x ∧ e.val = .bool true := by
  induction l with
  | nil => intro es h e he; cases es with | nil => cases he | cons _ _ => simp [KV, seenS] at h
  | cons y l ih =>
    intro es h e he
    cases es with
    | nil => cases he
    | cons f es =>
      simp only [KV, seenS, List.map_cons, List.cons.injEq, Prod.mk.injEq] at h
      rcases List.mem_cons.1 he with rfl | he
      · exact ⟨y, by simp, h.1.1, h.1.2⟩
      · obtain ⟨x, hx, h2⟩ := ih (es := es) h.2 e he
        exact ⟨x, by simp [hx], h2⟩
theorem KV.of_mem {l : List ByteArray} : ∀ {es : List MapEntry}, KV Value.string es (seenS l) → ∀ x ∈ l, ∃ e ∈ es, e.key = .string x := by
  induction l with
  | nil => intro es h x hx; cases hx
  | cons y l ih =>
    intro es h x hx
    cases es with
    | nil => simp [KV, seenS] at h
    | cons f es =>
      simp only [KV, seenS, List.map_cons, List.cons.injEq, Prod.mk.injEq] at h
      rcases List.mem_cons.1 hx with rfl | hx
      · exact ⟨f, by simp, h.1.1⟩
      · obtain ⟨e, he, h2⟩ := ih (es := es) h.2 x hx
        exact ⟨e, by simp [he], h2⟩
theorem MapS.mem {es : Array MapEntry} {c : Nat} {L : List ByteArray} (h : MapS es c L) : ∀ e ∈ es.toList, ∃ x ∈ L, e.key = .string x ∧ e.val = .bool true := fun e he => by
  obtain ⟨l, h1, h2⟩ := h.kv
  obtain ⟨x, hx, h3⟩ := h1.mem e he
  exact ⟨x, (h2 x).1 hx, h3⟩
theorem MapS.of_mem {es : Array MapEntry} {c : Nat} {L : List ByteArray} (h : MapS es c L) : ∀ x ∈ L, ∃ e ∈ es.toList, e.key = .string x := fun x hx => by
  obtain ⟨l, h1, h2⟩ := h.kv
  exact h1.of_mem x ((h2 x).2 hx)
theorem findNow_ix {d : TypeDesc} {k : Value} : ∀ {es : List MapEntry} {i j : Nat} {v : Value}, Instr.findNow d k es i = some (some (j, v)) → i ≤ j ∧ ∃ e, es[j - i]? = some e ∧ Instr.sameNow d k e.key = some true
  | [], i, j, v, h => by simp [Instr.findNow] at h
  | e :: es, i, j, v, h => by
    unfold Instr.findNow at h
    split at h
    · rename_i hs
      injection h with h; injection h with h; injection h with h1 h2
      subst h1
      exact ⟨Nat.le_refl _, e, by simp, hs⟩
    · obtain ⟨h1, e', h2, h3⟩ := findNow_ix h
      refine ⟨by omega, e', ?_, h3⟩
      rw [show j - i = (j - (i + 1)) + 1 from by omega, List.getElem?_cons_succ]
      exact h2
    · cases h
theorem modify_same {es : Array MapEntry} {j : Nat} {e : MapEntry} {f : MapEntry → MapEntry} (hj : es[j]? = some e) (hf : f e = e) : es.modify j f = es := by
  apply Array.ext_getElem?
  intro i
  rw [Array.getElem?_modify]
  by_cases h : j = i
  · subst h; rw [if_pos rfl, hj, Option.map_some, hf]
  · rw [if_neg h]
/-- A block that holds a set of names. -/
def SetAt (w : World) (b : Nat) (L : List ByteArray) : Prop := ∃ es c, w.heap[b]? = some (.map es c) ∧ MapS es c L
theorem SetAt.of {w w' : World} {b : Nat} {L : List ByteArray} (h : SetAt w b L) (e : w'.heap[b]? = w.heap[b]?) : SetAt w' b L := let ⟨es, c, h1, h2⟩ := h; ⟨es, c, e.trans h1, h2⟩
theorem SetAt.lt {w : World} {b : Nat} {L : List ByteArray} (h : SetAt w b L) : b < w.heap.size := let ⟨_, _, h1, _⟩ := h; lt_of_heap h1
theorem SetAt.ext {w w' : World} {b : Nat} {L : List ByteArray} (h : SetAt w b L) (e : Ext w w') : SetAt w' b L := h.of (e.heap h.lt)
theorem SetAt.wr {w w' : World} {b k : Nat} {L : List ByteArray} (h : SetAt w b L) (e : Wr k w w') (hk : b ≠ k) : SetAt w' b L := h.of (e.block b hk)
theorem SetAt.re {w : World} {b : Nat} {L L' : List ByteArray} (h : SetAt w b L) (e : ∀ x, x ∈ L ↔ x ∈ L') : SetAt w b L' := by
  obtain ⟨es, c, h1, ⟨⟨l, h2, h3⟩, h4, h5⟩⟩ := h
  exact ⟨es, c, h1, ⟨⟨l, h2, fun x => (h3 x).trans (e x)⟩, h4, h5⟩⟩
theorem SetAt.empty {w : World} {b : Nat} (h : w.heap[b]? = some (.map #[] 0)) : SetAt w b [] := ⟨_, _, h, ⟨⟨[], rfl, fun _ => Iff.rfl⟩, fun e he => by simp at he, by simp⟩⟩
theorem SetAt.look {w : World} {b : Nat} {L : List ByteArray} (h : SetAt w b L) (x : ByteArray) : ∃ es r, MapOf w (.map (some b)) es ∧ Instr.findNow .string (.string x) es.toList 0 = some r ∧ lkpV (.bool false) false r = .bool (decide (x ∈ L)) := by
  obtain ⟨es, c, h1, ⟨⟨l, h2, h3⟩, _, _⟩⟩ := h
  obtain ⟨r, hr1, hr2⟩ := findNow_kv same_str x es.toList _ 0 h2
  rw [seenS_find] at hr2
  refine ⟨es, r, .inr ⟨b, c, rfl, h1⟩, hr1, ?_⟩
  by_cases hx : x ∈ L
  · rw [if_pos ((h3 x).2 hx)] at hr2
    simp [lkpV, hr2, hx]
  · rw [if_neg (fun h => hx ((h3 x).1 h))] at hr2
    simp [lkpV, hr2, hx]
theorem SetAt.put {w : World} {b : Nat} {L : List ByteArray} (h : SetAt w b L) (x : ByteArray) : ∃ es c q, w.heap[b]? = some (.map es c) ∧ Instr.findNow .string (.string x) es.toList 0 = some q ∧
    ∀ w' : World, w'.heap[b]? = some (mupO es c (.string x) (.bool true) q) → SetAt w' b (L ++ [x]) := by
  obtain ⟨es, c, h1, hm⟩ := h
  obtain ⟨l, h2, h3⟩ := hm.kv
  obtain ⟨r, hr1, hr2⟩ := findNow_kv same_str x es.toList _ 0 h2
  refine ⟨es, c, r, h1, hr1, fun w' hw => ?_⟩
  cases r with
  | none =>
    refine ⟨_, _, hw, ⟨⟨l ++ [x], ?_, fun y => ?_⟩, ?_, ?_⟩⟩
    · have := KV.push h2 x (.bool true) c
      simpa [seenS] using this
    · simp [h3 y]
    · intro e he
      simp only [Array.toList_push, List.mem_append, List.mem_singleton] at he
      rcases he with he | rfl
      · have := hm.born e he; omega
      · show c < c + 1; omega
    · simp only [Array.toList_push, List.map_append, List.map_cons, List.map_nil]
      rw [List.nodup_append]
      refine ⟨hm.nodup, by simp, fun a ha b' hb' => ?_⟩
      obtain ⟨e, he, rfl⟩ := List.mem_map.1 ha
      simp only [List.mem_singleton] at hb'
      have := hm.born e he
      omega
  | some jv =>
    obtain ⟨j, v⟩ := jv
    obtain ⟨_, e, he, hs⟩ := findNow_ix hr1
    have hmem : e ∈ es.toList := List.mem_of_getElem? he
    obtain ⟨y, hy, hk, hv⟩ := hm.mem e hmem
    have hxy : x = y := by rw [hk, same_str] at hs; simpa using hs
    subst hxy
    have hsame : es.modify j (fun e => { e with key := .string x, val := .bool true }) = es := modify_same (e := e) (by simpa using he) (by cases e; simp only at hk hv; subst hk hv; rfl)
    have hw2 : w'.heap[b]? = some (.map es c) := by rw [hw]; show some (Obj.map (es.modify j _) c) = _; rw [hsame]
    exact ⟨es, c, hw2, ⟨⟨l, h2, fun z => by rw [h3 z]; simp; rintro rfl; exact hy⟩, hm.born, hm.nodup⟩⟩
/-- A range over a set of names, under way: D has come, n are left. -/
def IterAt (w : World) (r b : Nat) (L D : List ByteArray) (n : Nat) (cur : Option ByteArray) : Prop :=
  ∃ es c since seen c0, w.heap[b]? = some (.map es c) ∧ MapS es c L ∧ w.heap[r]? = some (.mapIter (some b) since seen c0) ∧ (∀ x ∈ es.toList, x.born < since) ∧ since ≤ c0 ∧ since ≤ c ∧ (leftOf es seen).size = n ∧
    (∀ e ∈ es.toList, seen.contains e.born = true → ∃ x ∈ D, e.key = .string x) ∧ (∀ x ∈ D, x ∈ L) ∧ (∀ x, cur = some x → ∃ (seen0 : Array Nat) (e : MapEntry), c0 = c ∧ seen = seen0.push e.born ∧ e ∈ es.toList ∧ e.key = .string x ∧ e.val = .bool true)
theorem IterAt.of {w w' : World} {r b : Nat} {L D : List ByteArray} {n : Nat} {cur : Option ByteArray} (h : IterAt w r b L D n cur) (e1 : w'.heap[b]? = w.heap[b]?) (e2 : w'.heap[r]? = w.heap[r]?) : IterAt w' r b L D n cur :=
  let ⟨es, c, since, seen, c0, h1, h2, h3, h4⟩ := h; ⟨es, c, since, seen, c0, e1.trans h1, h2, e2.trans h3, h4⟩
theorem IterAt.set {w : World} {r b : Nat} {L D : List ByteArray} {n : Nat} {cur : Option ByteArray} (h : IterAt w r b L D n cur) : SetAt w b L := let ⟨es, c, _, _, _, h1, h2, _⟩ := h; ⟨es, c, h1, h2⟩
theorem IterAt.sub {w : World} {r b : Nat} {L D : List ByteArray} {n : Nat} {cur : Option ByteArray} (h : IterAt w r b L D n cur) : ∀ x ∈ D, x ∈ L := let ⟨_, _, _, _, _, _, _, _, _, _, _, _, _, h2, _⟩ := h; h2
theorem IterAt.ne {w : World} {r b : Nat} {L D : List ByteArray} {n : Nat} {cur : Option ByteArray} (h : IterAt w r b L D n cur) : r ≠ b := by
  obtain ⟨es, c, since, seen, c0, h1, h2, h3, h4⟩ := h
  intro e
  rw [e, h1] at h3
  cases h3
theorem IterAt.lt {w : World} {r b : Nat} {L D : List ByteArray} {n : Nat} {cur : Option ByteArray} (h : IterAt w r b L D n cur) : r < w.heap.size := by
  obtain ⟨es, c, since, seen, c0, h1, h2, h3, h4⟩ := h
  exact lt_of_heap h3
theorem IterAt.ext {w w' : World} {r b : Nat} {L D : List ByteArray} {n : Nat} {cur : Option ByteArray} (h : IterAt w r b L D n cur) (e : Ext w w') : IterAt w' r b L D n cur := h.of (e.heap h.set.lt) (e.heap h.lt)
theorem IterAt.wr {w w' : World} {r b k : Nat} {L D : List ByteArray} {n : Nat} {cur : Option ByteArray} (h : IterAt w r b L D n cur) (e : Wr k w w') (h1 : b ≠ k) (h2 : r ≠ k) : IterAt w' r b L D n cur := h.of (e.block b h1) (e.block r h2)
theorem wr_drew (k : Nat) (w : World) : Wr k w w.drew := ⟨rfl, rfl, rfl, rfl, fun _ _ => rfl⟩
section
variable {P : Program} {KK : Value → World → Prop} {S : Fr} {w : World} {KW : World → Prop} {K3 : Value → Prop}
theorem K.lkpS {b : Nat} {L : List ByteArray} {x : ByteArray} {t} (h : SetAt w b L) (hk : K3 (.bool (decide (x ∈ L)))) : LkpVCh .string (.bool false) false (.map (some b)) (.string x) w K3 t := by
  obtain ⟨es, r, h1, h2, h3⟩ := h.look x
  exact K.lkp h1 h2 (by rw [h3]; exact hk)
theorem K.mupS {b : Nat} {L : List ByteArray} {x : ByteArray} {t} (h : SetAt w b L) (hk : ∀ w1, Wr b w w1 → SetAt w1 b (L ++ [x]) → KW w1) : MupVCh .string (.map (some b)) (.string x) (.bool true) w KW t := by
  obtain ⟨es, c, q, h1, h2, h3⟩ := h.put x
  exact K.mup h1 h2 (hk _ (Wr.setO w b _) (h3 _ (setO_same (lt_of_heap h1))))
theorem K.rngM {b : Nat} {L : List ByteArray} {x : Operand} {t' k e ty : TypeId} {t} (hx : ev S x = .map (some b)) (ht : P.underlying t' = some (.map k e)) (h : SetAt w b L)
    (hk : ∀ w1 r n, w.heap.size ≤ r → Ext w w1 → IterAt w1 r b L [] n none → KK (.pointer (some ⟨r, 0, none⟩)) w1) : RawVCh P (.range t' x) ty S w KK t := by
  obtain ⟨es, c, h1, h2⟩ := h
  have hrun := run_range_map (P := P) w t' k e b es c ht h1
  refine K.raw (v := .pointer (some ⟨w.heap.size, 0, none⟩)) (w' := w.alloc (.mapIter (some b) c #[] c)) (by simp [execOp, hx, hrun, Result.andThen]) ?_
  refine hk _ _ _ (Nat.le_refl _) ((Ext.refl w).alloc _) ⟨es, c, c, #[], c, heap_alloc_old h1, h2, heap_alloc_new w _, h2.born, Nat.le_refl _, Nat.le_refl _, rfl, ?_, ?_, ?_⟩
  · intro e _ h
    simp at h
  · intro x hx
    cases hx
  · intro x hx
    cases hx
theorem K.nxtM {r b n : Nat} {L D : List ByteArray} {cur : Option ByteArray} {x : Operand} {ty : TypeId} {t} (hx : ev S x = .pointer (some ⟨r, 0, none⟩)) (h : IterAt w r b L D n cur)
    (h0 : (∀ y ∈ L, y ∈ D) → KK (.tuple #[.bool false]) w)
    (h1 : ∀ y w1 n', y ∈ L → n' < n → Wr r w w1 → IterAt w1 r b L (D ++ [y]) n' (some y) → KK (.tuple #[.bool true, .string y, .bool true]) w1) : RawVCh P (.next x false) ty S w KK t := by
  have hne := h.ne
  obtain ⟨es, c, since, seen, c0, hb, hm, hr, hold, hsc, hsk, hn, hD, hDL, _⟩ := h
  rcases run_next_at (P := P) w ty r b since c0 seen es c hr hb hold hsc with ⟨hz, hrun⟩ | ⟨e, he, w1, hal, hrun⟩
  · refine K.raw (v := .tuple #[.bool false]) (w' := w) (by simp [execOp, hx, hrun, Result.andThen]) (h0 fun y hy => ?_)
    obtain ⟨e, he, hk⟩ := hm.of_mem y hy
    obtain ⟨z, hz1, hz2⟩ := hD e he (all_seen es seen hz e he)
    rw [hk] at hz2
    injection hz2 with hz2
    rw [hz2]; exact hz1
  · obtain ⟨hem, hes⟩ := mem_left he
    obtain ⟨y, hy, hk, hv⟩ := hm.mem e hem
    have hw1 : Wr r w w1 := by
      rcases hal with rfl | rfl
      · exact Wr.refl _ _
      · exact wr_drew r w
    have hsz : w1.heap.size = w.heap.size := hw1.size
    have hrl : r < w1.heap.size := by rw [hsz]; exact lt_of_heap hr
    have hset : Go.ChangeMaps.setBlock w1 r (.mapIter (some b) since (seen.push e.born) c) = Lite.setO w1 r (.mapIter (some b) since (seen.push e.born) c) := rfl
    rw [hset] at hrun
    refine K.raw (v := .tuple #[.bool true, e.key, e.val]) (w' := setO w1 r (.mapIter (some b) since (seen.push e.born) c)) (by simp [execOp, hx, hrun, Result.andThen]) ?_
    rw [hk, hv]
    refine h1 y _ _ hy (Nat.lt_of_lt_of_eq (left_shrinks es seen e he) hn) (hw1.trans (Wr.setO _ _ _)) ⟨es, c, since, seen.push e.born, c, ?_, hm, setO_same hrl, hold, hsk, hsk, rfl, fun f hf hc => ?_, fun z hz => ?_, fun z hz => ?_⟩
    · rw [setO_ne (Ne.symm hne)]
      rcases hal with rfl | rfl <;> exact hb
    · rw [contains_push] at hc
      rcases Bool.or_eq_true_iff.1 hc with hc | hc
      · obtain ⟨x, hx1, hx2⟩ := hD f hf hc
        exact ⟨x, by simp [hx1], hx2⟩
      · have hbe : f.born = e.born := by simpa using hc
        have h5 := find_born f es.toList hm.nodup hf
        rw [hbe, find_born e es.toList hm.nodup hem] at h5
        injection h5 with h5
        have : f = e := h5.symm
        subst this
        exact ⟨y, by simp, hk⟩
    · rcases List.mem_append.1 hz with hz | hz
      · exact hDL z hz
      · simp only [List.mem_singleton] at hz; subst hz; exact hy
    · injection hz with hz
      subst hz
      exact ⟨seen, e, rfl, rfl, hem, hk, hv⟩
theorem K.entM {r b n : Nat} {L D : List ByteArray} {y : ByteArray} {x : Operand} {ty : TypeId} {t} (hx : ev S x = .pointer (some ⟨r, 0, none⟩)) (h : IterAt w r b L D n (some y))
    (hk : KK (.tuple #[.string y, .bool true]) w) : RawVCh P (.entry x) ty S w KK t := by
  obtain ⟨es, c, since, seen, c0, hb, hm, hr, hold, hsc, hsk, hn, hD, hDL, hc⟩ := h
  obtain ⟨seen0, e, rfl, rfl, he, hk1, hk2⟩ := hc y rfl
  have hrun : (Instr.entry (.pointer (some ⟨r, 0, none⟩))).run P w = .ok (.tuple #[e.key, e.val]) w := run_entry_at w r b since seen0 es c0 e hr hb he hm.nodup
  refine K.raw (v := .tuple #[e.key, e.val]) (w' := w) (by simp [execOp, hx, hrun, Result.andThen]) ?_
  rw [hk1, hk2]
  exact hk
end
end Lite
end
section
/- Whole models: what throws. -/
set_option maxRecDepth 4000
namespace Go.Proofs.YtbbaokmelkiemaaGreatDoor
open Go Go.RowKit Lite
/-- What is thrown of a fault. -/
def thrown (f : Abs.Fault) : List PanicEntry := [{ v := .iface T.model_thrown (.agg #[.int .i64 f.why, .int .i64 f.part, .int .i64 f.item, .int .i64 f.sub]), recovered := false }]
theorem throw_r (e p i s : Int) (w : World) : RetT Tryz.prog F.model_throw #[.int .i64 e, .int .i64 p, .int .i64 i, .int .i64 s] w (fun _ w' => e = 0 ∧ w' = w) (fun c w' => e ≠ 0 ∧ c = thrown ⟨e, p, i, s⟩ ∧ w' = w) := by
  refine K.startT hmix E.model_throw (args := [_, _, _, _]) (Nat.le_of_ble_eq_true rfl) ?_; dsimp only [C.model_throw,yt,yi,yb,yp,yr,ye,yc,yv,yg,ym,yw,ya,yl,yx,ys,yn]
  refine Sg ?_
  refine K.cond (fun g => ?_) (fun g => ?_)
  · refine Sg ?_
    exact ⟨g, by first | trivial | rfl⟩
  · refine Sg ?_
    exact ⟨g, by first | trivial | rfl, by first | trivial | rfl⟩
theorem take_r (b : Nat) (L : List ByteArray) (x : ByteArray) (p i : Int) (w : World) (h : SetAt w b L) : RetT Tryz.prog F.model_take #[.map (some b), .string x, .int .i64 p, .int .i64 i] w
    (fun _ w' => ¬ x ∈ L ∧ Wr b w w' ∧ SetAt w' b (L ++ [x])) (fun c w' => x ∈ L ∧ c = thrown ⟨7, p, i, 0⟩ ∧ w' = w) := by
  refine K.startT hmix E.model_take (args := [_, _, _, _]) (Nat.le_of_ble_eq_true rfl) ?_; dsimp only [C.model_take,yt,yi,yb,yp,yr,ye,yc,yv,yg,ym,yw,ya,yl,yx,ys,yn]
  refine Sg ?_
  refine K.lkpS h ?_
  refine Sg ?_
  refine K.cond (fun g => ?_) (fun g => ?_)
  · refine Sg ?_
    refine K.thr (throw_r 7 p i 0 w) ?_ ?_
    · rintro _ _ ⟨h0, _⟩
      exact absurd h0 (by decide)
    · rintro c _ ⟨_, rfl, rfl⟩
      refine Sg ?_
      exact ⟨g, by first | trivial | rfl, by first | trivial | rfl⟩
  · refine Sg ?_
    refine K.mupS h fun w1 hw h1 => ?_
    refine Sg ?_
    exact ⟨g, hw, h1⟩
end Go.Proofs.YtbbaokmelkiemaaGreatDoor
end
section
/- What the functions of lex (and of its reference) compute. -/
set_option maxRecDepth 4000
set_option linter.unusedSimpArgs false
namespace Go.Proofs.YtbbaokmelkiemaaGreatDoor
open Go Go.RowKit Lite

theorem letter_r (n : Int) (w : World) : Ret Tryz.prog F.lex_letter #[.int .i32 n] w fun v w' => v = .bool (Abs.letter n) ∧ w' = w := by
  refine K.start hmix E.lex_letter (args := [_]) (Nat.le_of_ble_eq_true rfl) ?_
  dsimp only [C.lex_letter,yt,yi,yb,yp,yr,ye,yc,yv,yg,ym,yw,ya,yl,yx,ys,yn]
  (repeat' first
    | (refine K.cond (fun _ => ?_) (fun _ => ?_) <;> try (exfalso; omega))
    | (refine K.condb (fun _ => ?_) (fun _ => ?_))
    | (refine K.wrap (by omega) ?_)
    | (refine K.ld (by assumption) ?_)
    | (refine K.ia (by omega) ?_)
    | simp -dsimp only [LL,B9,Nat.reduceAdd,Nat.reduceEqDiff,reduceIte,reduceCtorEq,Bool.false_eq_true])
  all_goals (refine ⟨?_, by first | rfl | trivial⟩; congr 1; rw [Bool.eq_iff_iff]; simp [Abs.letter]; omega)
theorem digit_r (n : Int) (w : World) : Ret Tryz.prog F.lex_digit #[.int .i32 n] w fun v w' => v = .bool (Abs.digit n) ∧ w' = w := by
  refine K.start hmix E.lex_digit (args := [_]) (Nat.le_of_ble_eq_true rfl) ?_
  dsimp only [C.lex_digit,yt,yi,yb,yp,yr,ye,yc,yv,yg,ym,yw,ya,yl,yx,ys,yn]
  (repeat' first
    | (refine K.cond (fun _ => ?_) (fun _ => ?_) <;> try (exfalso; omega))
    | (refine K.condb (fun _ => ?_) (fun _ => ?_))
    | (refine K.wrap (by omega) ?_)
    | (refine K.ld (by assumption) ?_)
    | (refine K.ia (by omega) ?_)
    | simp -dsimp only [LL,B9,Nat.reduceAdd,Nat.reduceEqDiff,reduceIte,reduceCtorEq,Bool.false_eq_true])
  all_goals (refine ⟨?_, by first | rfl | trivial⟩; congr 1; rw [Bool.eq_iff_iff]; simp [Abs.digit]; omega)
theorem part_r (n : Int) (w : World) : Ret Tryz.prog F.lex_part #[.int .i32 n] w fun v w' => v = .bool (Abs.part n) ∧ w' = w := by
  refine K.start hmix E.lex_part (args := [_]) (Nat.le_of_ble_eq_true rfl) ?_
  dsimp only [C.lex_part,yt,yi,yb,yp,yr,ye,yc,yv,yg,ym,yw,ya,yl,yx,ys,yn]
  refine Go1 ?_
  refine K.call (letter_r n w) ?_
  rintro _ _ ⟨rfl, rfl⟩
  refine Go1 ?_
  refine K.condb (fun h1 => ?_) (fun h1 => ?_)
  · refine Go1 ?_
    refine ⟨?_, by first | rfl | trivial⟩; congr 1; simp [Abs.part, h1]
  · refine Go1 ?_
    refine K.call (digit_r n _) ?_
    rintro _ _ ⟨rfl, rfl⟩
    refine Go1 ?_
    refine K.condb (fun h2 => ?_) (fun h2 => ?_)
    · refine Go1 ?_
      refine ⟨?_, by first | rfl | trivial⟩; congr 1; simp [Abs.part, h2]
    · refine Go1 ?_
      refine ⟨?_, by first | rfl | trivial⟩; congr 1; simp [Abs.part, h1, h2]
def iterLeft (w : World) (b : Nat) : Nat := match w.heap[b]? with | some (.stringIter s pos) => s.size - pos | _ => 0
theorem lrun_r (s : ByteArray) (p : Int → Bool) (hp : ∀ r, 128 ≤ r → p r = false) (f : FuncId) (hf : okF Tryz.prog f = true) (w : World)
    (hc : ∀ (r : Int) (w' : World), Ext w w' → Ret Tryz.prog f #[.int .i32 r] w' fun v w'' => v = .bool (p r) ∧ Ext w' w'') :
    Ret Tryz.prog F.lex_run #[.string s, .func (.func f) #[] #[]] w fun v w' => v = .int .i64 (Abs.run p s) ∧ Ext w w' := by
  refine K.start hmix E.lex_run (args := [_, _]) (Nat.le_of_ble_eq_true rfl) ?_
  dsimp only [C.lex_run,yt,yi,yb,yp,yr,ye,yc,yv,yg,ym,yw,ya,yl,yx,ys,yn]
  refine Go1 ?_
  refine K.rngS fun w1 b hb he1 hit1 => ?_
  refine Go1 ?_
  refine K.loop (fun S w' => ∃ pos, pos ≤ s.size ∧ (∀ j (hj : j < s.size), j < pos → p s[j].toNat = true) ∧ w'.heap[b]? = some (.stringIter s pos) ∧ Ext w w')
    (fun _ w' => iterLeft w' b) ⟨0, Nat.zero_le _, fun _ _ h => absurd h (Nat.not_lt_zero _), hit1, he1⟩ ?_
  rintro S w' hS ⟨pos, hpos, hall, hit, he⟩
  have h0 := hS 0 rfl; have h1 := hS 1 rfl; have h8 := hS 8 rfl; simp only [upd_at, Nat.reduceAdd, Nat.reduceEqDiff, reduceIte, fr0_cons, fr0_nil] at h0 h1 h8; clear hS
  simp -dsimp only [LL,B9,Nat.reduceAdd,Nat.reduceEqDiff,reduceIte,reduceCtorEq,Bool.false_eq_true,h0, h1, h8]
  refine K.nxtS hit (fun hlt => ?_) (fun hge => ?_)
  · have hd := Abs.decode_part hp s pos hlt
    have hs : (setO w' b (.stringIter s (pos + (Utf8.decode s pos).2))).heap[b]? = some (.stringIter s (pos + (Utf8.decode s pos).2)) := setO_same (lt_of_heap hit)
    have he2 : Ext w (setO w' b (.stringIter s (pos + (Utf8.decode s pos).2))) := he.setO hb _
    generalize setO w' b (.stringIter s (pos + (Utf8.decode s pos).2)) = w2 at hs he2
    simp -dsimp only [LL,B9,Nat.reduceAdd,Nat.reduceEqDiff,reduceIte,reduceCtorEq,Bool.false_eq_true,h0, h1, h8]
    refine K.callV (first := []) (cap := []) hf (hc _ _ he2) ?_
    rintro _ w3 ⟨rfl, he3⟩
    simp -dsimp only [LL,B9,Nat.reduceAdd,Nat.reduceEqDiff,reduceIte,reduceCtorEq,Bool.false_eq_true,h0, h1, h8]
    refine K.condb (fun hb => ?_) (fun hb => ?_)
    · refine Go1 ?_
      rw [hd.1] at hb
      have hw := hd.2 hb
      rw [hw] at hs
      refine ⟨⟨pos + 1, by omega, fun j hj hjp => ?_, he3.obj hs, he2.trans he3⟩, ?_⟩
      · by_cases h : j < pos
        · exact hall j hj h
        · have : j = pos := by omega
          subst this; exact hb
      · simp only [iterLeft, he3.obj hs, hit]; omega
    · refine Go1 ?_
      rw [hd.1] at hb
      refine ⟨?_, he2.trans he3⟩
      rw [Abs.run_stop p s pos hlt (fun j hj => hall j (by omega) hj) hb]
  · simp -dsimp only [LL,B9,Nat.reduceAdd,Nat.reduceEqDiff,reduceIte,reduceCtorEq,Bool.false_eq_true,h0, h1, h8]
    refine ⟨?_, he⟩
    rw [Abs.run_all p s (fun j hj => hall j hj (by omega))]
/-- What lex.own holds. -/
def OwnIs (w : World) : Prop := CellsAt w ⟨G.lex_own, 0, none⟩ (Abs.ownL.map Value.string)
theorem OwnIs.ext {w w' : World} (he : Ext w w') (h : OwnIs w) : OwnIs w' := CellsAt.ext he h
theorem name_r (s : ByteArray) (w : World) (ho : OwnIs w) (hs : s.size ≤ 9223372036854775807) :
    Ret Tryz.prog F.lex_Name #[.string s] w fun v w' => v = .bool (Abs.isName s) ∧ Ext w w' := by
  refine K.start hmix E.lex_Name (args := [_]) (Nat.le_of_ble_eq_true rfl) ?_
  dsimp only [C.lex_Name,yt,yi,yb,yp,yr,ye,yc,yv,yg,ym,yw,ya,yl,yx,ys,yn]
  refine Go1 ?_
  refine K.cond (fun h0 => ?_) (fun h0 => ?_)
  · refine Go1 ?_
    refine ⟨?_, Ext.refl w⟩; subst h0; rfl
  have hz : s.size ≠ 0 := fun h => h0 (by
    cases s with | mk d =>
    have : d = #[] := by simpa [ByteArray.size] using h
    rw [this])
  refine Go1 ?_
  refine K.cond (fun h1 => ?_) (fun h1 => ?_)
  · refine Go1 ?_
    refine ⟨?_, Ext.refl w⟩
    have : ¬ s.size ≤ 16 := by omega
    simp [Abs.isName, this]
  have h1' : s.size ≤ 16 := by omega
  refine Go1 ?_
  refine K.ixS (s.get! 0) (by decide) (Abs.get?_eq s 0 (by omega)) ?_
  refine Go1 ?_
  have hb : (s.get! 0).toNat < 256 := UInt8.toNat_lt _
  refine K.wrapk (IntWalk.i32_in _ (by omega)) ?_
  refine Go1 ?_
  refine K.call (letter_r _ w) ?_
  rintro _ _ ⟨rfl, rfl⟩
  refine Go1 ?_
  refine K.condb (fun h2 => ?_) (fun h2 => ?_)
  rotate_left
  · refine Go1 ?_
    refine ⟨?_, Ext.refl _⟩
    have h2' : Abs.letter (Abs.byteAt s 0 : Nat) = false := h2
    simp [Abs.isName, h2']
  refine Go1 ?_
  refine K.call (lrun_r s Abs.part Abs.part_high F.lex_part (by kernel_rfl) _ fun r w' _ => (part_r r w').mono fun v w'' ⟨h3, h4⟩ => ⟨h3, h4 ▸ Ext.refl _⟩) ?_
  rintro _ w2 ⟨rfl, he⟩
  refine Go1 ?_
  refine K.cond (fun h3 => ?_) (fun h3 => ?_)
  · refine Go1 ?_
    refine ⟨?_, he⟩
    have h3' : ¬ Abs.run Abs.part s = s.size := by omega
    simp [Abs.isName, h3']
  have h3' : Abs.run Abs.part s = s.size := by have := Abs.run_le Abs.part s; omega
  have h2' : Abs.letter (Abs.byteAt s 0 : Nat) = true := h2
  have hname : Abs.isName s = !decide (s ∈ Abs.ownL) := by simp [Abs.isName, h3', h2', h1', hz]
  refine Go1 ?_
  refine K.ldA (ho.ext he) rfl ?_
  refine Go1 ?_
  refine K.loop (fun S w' => ∃ i : Nat, i ≤ 4 ∧ S 27 = .int .i64 i ∧ (∀ j (hj : j < Abs.ownL.length), j < i → Abs.ownL[j] ≠ s) ∧ Ext w2 w')
    (fun S _ => (4 - intOf (S 27)).toNat) ⟨0, by omega, by refine Go1 ?_; rfl, fun _ _ h => absurd h (Nat.not_lt_zero _), Ext.refl _⟩ ?_
  rintro S w' hS ⟨i, hi, h27, hall, he2⟩
  have h0 := hS 0 rfl; have h26 := hS 26 rfl; simp only [upd_at, Nat.reduceAdd, Nat.reduceEqDiff, reduceIte, fr0_cons, fr0_nil] at h0 h26; clear hS
  simp -dsimp only [LL,B9,Nat.reduceAdd,Nat.reduceEqDiff,reduceIte,reduceCtorEq,Bool.false_eq_true,h0, h26, h27]
  refine K.cond (fun h4 => ?_) (fun h4 => ?_)
  · simp -dsimp only [LL,B9,Nat.reduceAdd,Nat.reduceEqDiff,reduceIte,reduceCtorEq,Bool.false_eq_true,h0, h26, h27]
    have hi4 : i < Abs.ownL.length := by simp [Abs.ownL]; omega
    refine K.ixA (.string Abs.ownL[i]) (by omega) (by simp [List.getElem?_map, hi4]) ?_
    simp -dsimp only [LL,B9,Nat.reduceAdd,Nat.reduceEqDiff,reduceIte,reduceCtorEq,Bool.false_eq_true,h0, h26, h27]
    refine K.cond (fun h5 => ?_) (fun h5 => ?_)
    · refine Go1 ?_
      refine ⟨?_, he.trans he2⟩
      rw [hname]
      have : s ∈ Abs.ownL := h5 ▸ List.getElem_mem _
      simp [this]
    · simp -dsimp only [LL,B9,Nat.reduceAdd,Nat.reduceEqDiff,reduceIte,reduceCtorEq,Bool.false_eq_true,h0, h26, h27]
      refine K.wrap (by omega) ?_
      simp -dsimp only [LL,B9,Nat.reduceAdd,Nat.reduceEqDiff,reduceIte,reduceCtorEq,Bool.false_eq_true,h0, h26, h27]
      refine ⟨⟨i + 1, by omega, rfl, fun j hj hji => ?_, he2⟩, by simp [intOf]; omega⟩
      by_cases h : j < i
      · exact hall j hj h
      · have : j = i := by omega
        subst this; exact h5
  · simp -dsimp only [LL,B9,Nat.reduceAdd,Nat.reduceEqDiff,reduceIte,reduceCtorEq,Bool.false_eq_true,h0, h26, h27]
    refine ⟨?_, he.trans he2⟩
    rw [hname]
    have : s ∉ Abs.ownL := fun hm => by
      obtain ⟨j, hj, he⟩ := List.mem_iff_getElem.1 hm
      exact hall j hj (by have : Abs.ownL.length = 4 := rfl; omega) he
    simp [this]
end Go.Proofs.YtbbaokmelkiemaaGreatDoor
end
section
/- What the functions of decl compute. -/
set_option maxRecDepth 4000
set_option linter.unusedSimpArgs false
namespace Go.Proofs.YtbbaokmelkiemaaGreatDoor
open Go Go.RowKit Lite

theorem narrow_r (lo hi : Int) (w : World) : Ret Tryz.prog F.decl_narrow #[.int .i64 lo, .int .i64 hi] w fun v w' => v = .bool (Abs.narrow lo hi) ∧ w' = w := by
  refine K.start hmix E.decl_narrow (args := [_, _]) (Nat.le_of_ble_eq_true rfl) ?_
  dsimp only [C.decl_narrow,yt,yi,yb,yp,yr,ye,yc,yv,yg,ym,yw,ya,yl,yx,ys,yn]
  (repeat' first
    | (refine K.cond (fun _ => ?_) (fun _ => ?_) <;> try (exfalso; omega))
    | (refine K.condb (fun _ => ?_) (fun _ => ?_))
    | (refine K.wrap (by omega) ?_)
    | (refine K.ld (by assumption) ?_)
    | (refine K.ia (by omega) ?_)
    | simp -dsimp only [LL,B9,Nat.reduceAdd,Nat.reduceEqDiff,reduceIte,reduceCtorEq,Bool.false_eq_true])
  all_goals (refine ⟨?_, by first | rfl | trivial⟩; congr 1; rw [Bool.eq_iff_iff]; simp [Abs.narrow]; omega)
theorem size_at {k : Int} {l : List Abs.Scalar} (h1 : 1 ≤ k) (h2 : k ≤ l.length) : Abs.size k l = if 1 ≤ (l[k.toNat - 1]'(by omega)).size ∧ (l[k.toNat - 1]'(by omega)).size ≤ 4 then (l[k.toNat - 1]'(by omega)).size else 0 := by
  have e : (k - 1).toNat = k.toNat - 1 := by omega
  have hlt : k.toNat - 1 < l.length := by omega
  simp only [Abs.size, e, List.getElem?_eq_getElem hlt, h1, true_and]
theorem size_no {k : Int} {l : List Abs.Scalar} (h : k < 1 ∨ l.length < k) : Abs.size k l = 0 := by
  unfold Abs.size
  split
  · rename_i x hx
    rw [if_neg]
    rintro ⟨h1, _⟩
    have := (List.getElem?_eq_some_iff.1 hx).1
    omega
  · rfl
theorem size_r (k : Int) (v : Value) (l : List Abs.Scalar) (w : World) (hl : Abs.Scalars w v l) :
    Ret Tryz.prog F.decl_size #[.int .i64 k, v] w fun v w' => v = .tuple #[.int .i64 (Abs.size k l), .bool (decide (Abs.size k l ≠ 0))] ∧ w' = w := by
  obtain ⟨oa, cap, rfl, hlen⟩ := hl.form
  refine K.start hmix E.decl_size (args := [_, _]) (Nat.le_of_ble_eq_true rfl) ?_
  dsimp only [C.decl_size,yt,yi,yb,yp,yr,ye,yc,yv,yg,ym,yw,ya,yl,yx,ys,yn]
  refine Go1 ?_
  refine K.cond (fun h1 => ?_) (fun h1 => ?_)
  · refine Go1 ?_
    rw [size_no (.inl h1)]; exact ⟨rfl, trivial⟩
  refine Go1 ?_
  refine K.cond (fun h2 => ?_) (fun h2 => ?_)
  · refine Go1 ?_
    rw [size_no (.inr h2)]; exact ⟨rfl, trivial⟩
  refine Go1 ?_
  refine K.wrap (by omega) ?_
  refine Go1 ?_
  obtain ⟨a, rfl⟩ := hl.addr (by omega)
  have hc := (hl.at (k.toNat - 1) (by omega)).cells 1 _ rfl
  refine K.ian (k.toNat - 1) (by omega) (by omega) ?_
  refine Go1 ?_
  refine K.ld hc ?_
  rw [size_at (by omega) (by omega)]
  generalize l[k.toNat - 1].size = z at hc
  refine Go1 ?_
  refine K.cond (fun h3 => ?_) (fun h3 => ?_)
  · refine Go1 ?_
    rw [if_neg (by omega)]; exact ⟨rfl, trivial⟩
  refine Go1 ?_
  refine K.wrap (by omega) ?_
  refine Go1 ?_
  refine K.ian (k.toNat - 1) (by omega) (by omega) ?_
  refine Go1 ?_
  refine K.ld hc ?_
  refine Go1 ?_
  refine K.cond (fun h4 => ?_) (fun h4 => ?_)
  · refine Go1 ?_
    rw [if_neg (by omega)]; exact ⟨rfl, trivial⟩
  refine Go1 ?_
  refine K.wrap (by omega) ?_
  refine Go1 ?_
  refine K.ian (k.toNat - 1) (by omega) (by omega) ?_
  refine Go1 ?_
  refine K.ld hc ?_
  refine Go1 ?_
  rw [if_pos (by omega)]
  refine ⟨?_, by trivial⟩
  have : z ≠ 0 := by omega
  simp [this]
theorem there_r (k : Int) (v : Value) (l : List Abs.Scalar) (w : World) (hl : Abs.Scalars w v l) :
    Ret Tryz.prog F.decl_there #[.int .i64 k, v] w fun v w' => v = .bool (Abs.there k l) ∧ w' = w := by
  refine K.start hmix E.decl_there (args := [_, _]) (Nat.le_of_ble_eq_true rfl) ?_
  dsimp only [C.decl_there,yt,yi,yb,yp,yr,ye,yc,yv,yg,ym,yw,ya,yl,yx,ys,yn]
  refine Go1 ?_
  refine K.call (size_r k v l w hl) ?_
  rintro _ _ ⟨rfl, rfl⟩
  refine Go1 ?_
  refine K.cond (fun h1 => ?_) (fun h1 => ?_)
  · refine Go1 ?_
    refine ⟨?_, by trivial⟩; simp [Abs.there, h1]
  · refine Go1 ?_
    refine ⟨?_, by trivial⟩; simp [Abs.there, h1]

def seen (l : List ByteArray) : List (ByteArray × Value) := l.map fun x => (x, .bool true)
theorem seen_find (l : List ByteArray) (x : ByteArray) : ((seen l).find? (fun p => decide (x = p.1))).map (·.2) = if x ∈ l then some (.bool true) else none := by
  induction l with
  | nil => rfl
  | cons y l ih =>
    simp only [seen, List.map_cons, List.find?_cons, List.mem_cons]
    by_cases h : x = y
    · simp [h]
    · simp only [h, decide_false, false_or]
      exact ih
set_option maxHeartbeats 2000000 in
theorem named_r (n most : Int) (hn : 0 ≤ n ∧ n ≤ 9223372036854775807) (nm : Nat → ByteArray) (mo : Nat → Int) (f1 f2 : FuncId) (c1 c2 : List Value) (hf1 : okF Tryz.prog f1 = true) (hf2 : okF Tryz.prog f2 = true) (w : World) (ho : OwnIs w)
    (hnm : ∀ i : Nat, i < n → Abs.strOk (nm i))
    (k1 : ∀ (i : Nat) (w' : World), i < n → Ext w w' → Ret Tryz.prog f1 (.int .i64 i :: c1).toArray w' fun v w'' => v = .string (nm i) ∧ Ext w' w'')
    (k2 : ∀ (i : Nat) (w' : World), i < n → Ext w w' → Ret Tryz.prog f2 (.int .i64 i :: c2).toArray w' fun v w'' => v = .int .i64 (mo i) ∧ Ext w' w'') :
    Ret Tryz.prog F.decl_named #[.int .i64 n, .int .i64 most, .func (.func f1) #[] c1.toArray, .func (.func f2) #[] c2.toArray] w
      fun v w' => v = .tuple #[.int .i64 (Abs.first n.toNat (Abs.err most nm mo)).1, .int .i64 (Abs.first n.toNat (Abs.err most nm mo)).2] ∧ Ext w w' := by
  refine K.start hmix E.decl_named (args := [_, _, _, _]) (Nat.le_of_ble_eq_true rfl) ?_
  dsimp only [C.decl_named,yt,yi,yb,yp,yr,ye,yc,yv,yg,ym,yw,ya,yl,yx,ys,yn]
  refine Go1 ?_
  refine K.newM fun w1 b hb he1 hm1 => ?_
  refine Go1 ?_
  refine K.loop (fun S w' => ∃ i : Nat, i ≤ n ∧ S 16 = .int .i64 i ∧ (∀ j, j < i → Abs.err most nm mo j = 0) ∧ Ext w w' ∧
      ∃ es c, w'.heap[b]? = some (.map es c) ∧ KV Value.string es.toList (seen ((List.range i).map nm)))
    (fun S _ => (n - intOf (S 16)).toNat) ⟨0, by omega, by refine Go1 ?_; rfl, fun _ h => absurd h (Nat.not_lt_zero _), he1, _, _, hm1, rfl⟩ ?_
  rintro S w2 hS ⟨i, hi, h16, hz, he, es, c, hm, hkv⟩
  have h0 := hS 0 rfl; have h1 := hS 1 rfl; have h2 := hS 2 rfl; have h3 := hS 3 rfl; have h10 := hS 10 rfl; have h15 := hS 15 rfl; simp only [upd_at, Nat.reduceAdd, Nat.reduceEqDiff, reduceIte, fr0_cons, fr0_nil] at h0 h1 h2 h3 h10 h15; clear hS
  simp -dsimp only [LL,B9,Nat.reduceAdd,Nat.reduceEqDiff,reduceIte,reduceCtorEq,Bool.false_eq_true,h0, h1, h2, h3, h10, h15, h16]
  refine K.cond (fun hlt => ?_) (fun hge => ?_)
  rotate_left
  · refine Go1 ?_
    refine ⟨?_, he⟩
    rw [Abs.first_none fun j hj => hz j (by omega)]
  have stop : ∀ e : Int, Abs.err most nm mo i = e → e ≠ 0 → Abs.first n.toNat (Abs.err most nm mo) = ((i : Int), e) := fun e h hne => by
    rw [Abs.first_stop (by omega) hz (by rw [h]; exact hne), h]
  simp -dsimp only [LL,B9,Nat.reduceAdd,Nat.reduceEqDiff,reduceIte,reduceCtorEq,Bool.false_eq_true,h0, h1, h2, h3, h10, h15, h16]
  refine K.callV (first := []) hf1 (k1 i w2 hlt he) ?_
  rintro _ w3 ⟨rfl, he3⟩
  simp -dsimp only [LL,B9,Nat.reduceAdd,Nat.reduceEqDiff,reduceIte,reduceCtorEq,Bool.false_eq_true,h0, h1, h2, h3, h10, h15, h16]
  refine K.cond (fun ha => ?_) (fun ha => ?_)
  · simp -dsimp only [LL,B9,Nat.reduceAdd,Nat.reduceEqDiff,reduceIte,reduceCtorEq,Bool.false_eq_true,h0, h1, h2, h3, h10, h15, h16]
    refine K.cond (fun h => absurd h (by decide)) (fun _ => ?_)
    refine Go1 ?_
    rw [stop 11 (by simp [Abs.err, ha]) (by decide)]
    exact ⟨rfl, he.trans he3⟩
  simp -dsimp only [LL,B9,Nat.reduceAdd,Nat.reduceEqDiff,reduceIte,reduceCtorEq,Bool.false_eq_true,h0, h1, h2, h3, h10, h15, h16]
  refine K.call (name_r (nm i) w3 (ho.ext (he.trans he3)) (hnm i hlt)) ?_
  rintro _ w4 ⟨rfl, he4⟩
  simp -dsimp only [LL,B9,Nat.reduceAdd,Nat.reduceEqDiff,reduceIte,reduceCtorEq,Bool.false_eq_true,h0, h1, h2, h3, h10, h15, h16]
  refine K.condb (fun hn1 => ?_) (fun hn1 => ?_)
  rotate_left
  · simp -dsimp only [LL,B9,Nat.reduceAdd,Nat.reduceEqDiff,reduceIte,reduceCtorEq,Bool.false_eq_true,h0, h1, h2, h3, h10, h15, h16]
    refine K.cond (fun h => absurd h (by decide)) (fun _ => ?_)
    refine Go1 ?_
    rw [stop 6 (by simp [Abs.err, ha, hn1]) (by decide)]
    exact ⟨rfl, (he.trans he3).trans he4⟩
  simp -dsimp only [LL,B9,Nat.reduceAdd,Nat.reduceEqDiff,reduceIte,reduceCtorEq,Bool.false_eq_true,h0, h1, h2, h3, h10, h15, h16]
  have hm4 : w4.heap[b]? = some (.map es c) := he4.obj (he3.obj hm)
  obtain ⟨r, hr1, hr2⟩ := findNow_kv same_str (nm i) es.toList _ 0 hkv
  rw [seen_find] at hr2
  refine K.lkp (.inr ⟨b, c, rfl, hm4⟩) hr1 ?_
  have hmem : nm i ∈ (List.range i).map nm ↔ ∃ j, j < i ∧ nm j = nm i := by simp
  by_cases hin : ∃ j, j < i ∧ nm j = nm i
  · rw [if_pos (hmem.2 hin)] at hr2
    have hv : lkpV (.bool false) false r = .bool true := by simp [lkpV, hr2]
    rw [hv]
    simp -dsimp only [LL,B9,Nat.reduceAdd,Nat.reduceEqDiff,reduceIte,reduceCtorEq,Bool.false_eq_true,h0, h1, h2, h3, h10, h15, h16]
    refine K.cond (fun h => absurd h (by decide)) (fun _ => ?_)
    refine Go1 ?_
    rw [stop 7 (by simp [Abs.err, ha, hn1, hin]) (by decide)]
    exact ⟨rfl, (he.trans he3).trans he4⟩
  rw [if_neg (fun h => hin (hmem.1 h))] at hr2
  have hr0 : r = none := by cases r <;> simp at hr2 ⊢
  subst hr0
  have hv : lkpV (.bool false) false none = .bool false := rfl
  rw [hv]
  simp -dsimp only [LL,B9,Nat.reduceAdd,Nat.reduceEqDiff,reduceIte,reduceCtorEq,Bool.false_eq_true,h0, h1, h2, h3, h10, h15, h16]
  refine K.callV (first := []) hf2 (k2 i w4 hlt ((he.trans he3).trans he4)) ?_
  rintro _ w5 ⟨rfl, he5⟩
  have herr : Abs.err most nm mo i = mo i := by simp [Abs.err, ha, hn1, hin]
  simp -dsimp only [LL,B9,Nat.reduceAdd,Nat.reduceEqDiff,reduceIte,reduceCtorEq,Bool.false_eq_true,h0, h1, h2, h3, h10, h15, h16]
  refine K.cond (fun h => ?_) (fun h => ?_)
  rotate_left
  · refine Go1 ?_
    rw [stop (mo i) herr h]
    exact ⟨rfl, ((he.trans he3).trans he4).trans he5⟩
  simp -dsimp only [LL,B9,Nat.reduceAdd,Nat.reduceEqDiff,reduceIte,reduceCtorEq,Bool.false_eq_true,h0, h1, h2, h3, h10, h15, h16]
  have hm5 := he5.obj hm4
  refine K.mup hm5 hr1 ?_
  have hs : (setO w5 b (mupO es c (.string (nm i)) (.bool true) none)).heap[b]? = some (mupO es c (.string (nm i)) (.bool true) none) := setO_same (lt_of_heap hm5)
  have he6 : Ext w (setO w5 b (mupO es c (.string (nm i)) (.bool true) none)) := (((he.trans he3).trans he4).trans he5).setO hb _
  generalize setO w5 b (mupO es c (.string (nm i)) (.bool true) none) = w6 at hs he6
  simp -dsimp only [LL,B9,Nat.reduceAdd,Nat.reduceEqDiff,reduceIte,reduceCtorEq,Bool.false_eq_true,h0, h1, h2, h3, h10, h15, h16]
  refine K.wrap (by omega) ?_
  simp -dsimp only [LL,B9,Nat.reduceAdd,Nat.reduceEqDiff,reduceIte,reduceCtorEq,Bool.false_eq_true,h0, h1, h2, h3, h10, h15, h16]
  refine ⟨⟨i + 1, by omega, rfl, fun j hj => ?_, he6, _, _, hs, ?_⟩, by simp [intOf]; omega⟩
  · by_cases h' : j < i
    · exact hz j h'
    · have : j = i := by omega
      subst this; rw [herr, h]
  · have := KV.push hkv (nm i) (.bool true) c
    simpa [seen, List.range_succ] using this
end Go.Proofs.YtbbaokmelkiemaaGreatDoor
end
section
/- What the functions of decl compute: scalars, variables, channels. -/
set_option maxRecDepth 4000
set_option linter.unusedSimpArgs false
set_option maxHeartbeats 1000000
namespace Go.Proofs.YtbbaokmelkiemaaGreatDoor
open Go Go.RowKit Lite

theorem nameAt_lt {α : Type} (f : α → ByteArray) (l : List α) (i : Nat) (h : i < l.length) : Abs.nameAt f l i = f l[i] := by simp [Abs.nameAt, h]
theorem scalars1_r (i : Nat) (b : Nat) (v : Value) (l : List Abs.Scalar) (w : World) (hl : Abs.Scalars w v l) (hb : w.cell? ⟨b, 0, none⟩ = some v) (hi : i < l.length) :
    Ret Tryz.prog F.decl_Scalars_1 #[.int .i64 i, .pointer (some ⟨b, 0, none⟩)] w fun v w' => v = .string (Abs.nameAt (·.name) l i) ∧ Ext w w' := by
  obtain ⟨oa, cap, rfl, hlen⟩ := hl.form
  refine K.start hmix E.decl_Scalars_1 (args := [_, _]) (Nat.le_of_ble_eq_true rfl) ?_
  dsimp only [C.decl_Scalars_1,yt,yi,yb,yp,yr,ye,yc,yv,yg,ym,yw,ya,yl,yx,ys,yn]
  refine Go1 ?_
  refine K.ld hb ?_
  refine Go1 ?_
  obtain ⟨a, rfl⟩ := hl.addr (by omega)
  have hc := (hl.at i hi).cells 0 _ rfl
  refine K.ian i rfl hi ?_
  refine Go1 ?_
  refine K.ld hc ?_
  refine Go1 ?_
  rw [nameAt_lt _ _ _ hi]
  exact ⟨rfl, Ext.refl w⟩
theorem scalars2_r (i : Nat) (b : Nat) (v : Value) (l : List Abs.Scalar) (w : World) (hl : Abs.Scalars w v l) (hb : w.cell? ⟨b, 0, none⟩ = some v) (hi : i < l.length) :
    Ret Tryz.prog F.decl_Scalars_2 #[.int .i64 i, .pointer (some ⟨b, 0, none⟩)] w fun v w' => v = .int .i64 (Abs.scalarErr l i) ∧ Ext w w' := by
  obtain ⟨oa, cap, rfl, hlen⟩ := hl.form
  refine K.start hmix E.decl_Scalars_2 (args := [_, _]) (Nat.le_of_ble_eq_true rfl) ?_
  dsimp only [C.decl_Scalars_2,yt,yi,yb,yp,yr,ye,yc,yv,yg,ym,yw,ya,yl,yx,ys,yn]
  refine Go1 ?_
  refine K.ld hb ?_
  refine Go1 ?_
  obtain ⟨a, rfl⟩ := hl.addr (by omega)
  have hc := (hl.at i hi).cells 1 _ rfl
  have hr : Abs.scalarErr l i = if 1 ≤ l[i].size ∧ l[i].size ≤ 4 then 0 else 10 := by simp [Abs.scalarErr, hi]
  rw [hr]
  generalize l[i].size = z at hc
  refine K.ian i rfl hi ?_
  refine Go1 ?_
  refine K.ld hc ?_
  refine Go1 ?_
  refine K.cond (fun h1 => ?_) (fun h1 => ?_)
  · refine Go1 ?_
    rw [if_neg (by omega)]; exact ⟨rfl, Ext.refl w⟩
  refine Go1 ?_
  refine K.ld hb ?_
  refine Go1 ?_
  refine K.ian i rfl hi ?_
  refine Go1 ?_
  refine K.ld hc ?_
  refine Go1 ?_
  refine K.cond (fun h1 => ?_) (fun h1 => ?_)
  · refine Go1 ?_
    rw [if_neg (by omega)]; exact ⟨rfl, Ext.refl w⟩
  · refine Go1 ?_
    rw [if_pos (by omega)]; exact ⟨rfl, Ext.refl w⟩
theorem scalars_r (v : Value) (l : List Abs.Scalar) (w : World) (ho : OwnIs w) (hl : Abs.Scalars w v l) :
    Ret Tryz.prog F.decl_Scalars #[v] w fun v w' => v = .tuple #[.int .i64 (Abs.scalars l).1, .int .i64 (Abs.scalars l).2] ∧ Ext w w' := by
  obtain ⟨oa, cap, rfl, hlen⟩ := hl.form
  refine K.start hmix E.decl_Scalars (args := [_]) (Nat.le_of_ble_eq_true rfl) ?_
  dsimp only [C.decl_Scalars,yt,yi,yb,yp,yr,ye,yc,yv,yg,ym,yw,ya,yl,yx,ys,yn]
  refine Go1 ?_
  refine K.new fun w1 b hb he1 hc1 => ?_
  have hl1 := SlR.ext Abs.RScalar.ext he1 hl
  have hb1 : w1.cell? ⟨b, 0, none⟩ = some (.slice oa l.length cap) := cell_blk0 hc1 rfl
  refine Go1 ?_
  refine K.ld hb1 ?_
  refine Go1 ?_
  refine K.call (named_r l.length 2 (by omega) (Abs.nameAt (·.name) l) (Abs.scalarErr l) F.decl_Scalars_1 F.decl_Scalars_2 [_] [_] (by kernel_rfl) (by kernel_rfl) w1 (ho.ext he1)
    (fun i hi => by rw [nameAt_lt _ _ _ (by omega)]; obtain ⟨a, rfl⟩ := hl.addr (by omega); exact (hl.at i (by omega)).ok)
    (fun i w' hi he => scalars1_r i b _ l w' (SlR.ext Abs.RScalar.ext he hl1) (he.cell hb1) (by omega))
    (fun i w' hi he => scalars2_r i b _ l w' (SlR.ext Abs.RScalar.ext he hl1) (he.cell hb1) (by omega))) ?_
  rintro _ w2 ⟨rfl, he2⟩
  refine Go1 ?_
  exact ⟨rfl, he1.trans he2⟩

theorem bounds_r (x : Abs.Var) (v : Value) (l : List Abs.Scalar) (w : World) (hl : Abs.Scalars w v l) :
    Ret Tryz.prog F.decl_Bounds #[.agg x.enc.toArray, v] w fun v w' => v = .tuple #[.int .i64 (Abs.bounds x l).1, .int .i64 (Abs.bounds x l).2] ∧ Ext w w' := by
  obtain ⟨oa, cap, rfl, hlen⟩ := hl.form
  refine K.start hmix E.decl_Bounds (args := [_, _]) (Nat.le_of_ble_eq_true rfl) ?_
  dsimp only [C.decl_Bounds,yt,yi,yb,yp,yr,ye,yc,yv,yg,ym,yw,ya,yl,yx,ys,yn]
  refine Go1 ?_
  refine K.new fun w1 b hb he1 hc1 => ?_
  have c1 : w1.cell? (Addr.add ⟨b, 0, none⟩ 1) = some (.int .i64 x.scalar) := cell_blk hc1 rfl
  have c3 : w1.cell? (Addr.add ⟨b, 0, none⟩ 3) = some (.int .i64 x.lo) := cell_blk hc1 rfl
  have c4 : w1.cell? (Addr.add ⟨b, 0, none⟩ 4) = some (.int .i64 x.hi) := cell_blk hc1 rfl
  refine Go1 ?_
  refine K.ld c1 ?_
  refine Go1 ?_
  refine K.cond (fun h1 => ?_) (fun h1 => ?_)
  · refine Go1 ?_
    refine K.ld c3 ?_
    refine Go1 ?_
    refine K.ld c4 ?_
    refine Go1 ?_
    intro w2 he2
    simp only [Abs.bounds, h1, if_true]
    exact ⟨trivial, he1.trans he2⟩
  · refine Go1 ?_
    refine K.ld c1 ?_
    refine Go1 ?_
    refine K.call (size_r x.scalar _ l w1 (SlR.ext Abs.RScalar.ext he1 hl)) ?_
    rintro _ _ ⟨rfl, rfl⟩
    refine Go1 ?_
    simp only [Abs.bounds, h1, if_false]
    exact ⟨trivial, he1⟩
theorem cells_r (x : Abs.Var) (v : Value) (l : List Abs.Scalar) (w : World) (hl : Abs.Scalars w v l) :
    Ret Tryz.prog F.decl_Cells #[.agg x.enc.toArray, v] w fun v w' => v = .int .i64 (Abs.cells x l) ∧ Ext w w' := by
  obtain ⟨oa, cap, rfl, hlen⟩ := hl.form
  refine K.start hmix E.decl_Cells (args := [_, _]) (Nat.le_of_ble_eq_true rfl) ?_
  dsimp only [C.decl_Cells,yt,yi,yb,yp,yr,ye,yc,yv,yg,ym,yw,ya,yl,yx,ys,yn]
  refine Go1 ?_
  refine K.new fun w1 b hb he1 hc1 => ?_
  have c2 : w1.cell? (Addr.add ⟨b, 0, none⟩ 2) = some (.int .i64 x.over) := cell_blk hc1 rfl
  refine Go1 ?_
  refine K.ld c2 ?_
  refine Go1 ?_
  refine K.cond (fun h1 => ?_) (fun h1 => ?_)
  · refine Go1 ?_
    simp only [Abs.cells, h1, if_true]
    exact ⟨trivial, he1⟩
  · refine Go1 ?_
    refine K.ld c2 ?_
    refine Go1 ?_
    refine K.call (size_r x.over _ l w1 (SlR.ext Abs.RScalar.ext he1 hl)) ?_
    rintro _ _ ⟨rfl, rfl⟩
    refine Go1 ?_
    simp only [Abs.cells, h1, if_false]
    exact ⟨trivial, he1⟩
theorem vars1_r (i : Nat) (b : Nat) (v : Value) (l : List Abs.Var) (w : World) (hl : Abs.Vars w v l) (hb : w.cell? ⟨b, 0, none⟩ = some v) (hi : i < l.length) :
    Ret Tryz.prog F.decl_Vars_1 #[.int .i64 i, .pointer (some ⟨b, 0, none⟩)] w fun v w' => v = .string (Abs.nameAt (·.name) l i) ∧ Ext w w' := by
  obtain ⟨oa, cap, rfl, hlen⟩ := hl.form
  refine K.start hmix E.decl_Vars_1 (args := [_, _]) (Nat.le_of_ble_eq_true rfl) ?_
  dsimp only [C.decl_Vars_1,yt,yi,yb,yp,yr,ye,yc,yv,yg,ym,yw,ya,yl,yx,ys,yn]
  refine Go1 ?_
  refine K.ld hb ?_
  refine Go1 ?_
  obtain ⟨a, rfl⟩ := hl.addr (by omega)
  have hc := (hl.at i hi).cells 0 _ rfl
  refine K.ian i rfl hi ?_
  refine Go1 ?_
  refine K.ld hc ?_
  refine Go1 ?_
  rw [nameAt_lt _ _ _ hi]
  exact ⟨rfl, Ext.refl w⟩
theorem vars2_r (i : Nat) (b b2 : Nat) (v v2 : Value) (l : List Abs.Var) (s : List Abs.Scalar) (w : World) (hl : Abs.Vars w v l) (hs : Abs.Scalars w v2 s) (hb : w.cell? ⟨b, 0, none⟩ = some v) (hb2 : w.cell? ⟨b2, 0, none⟩ = some v2)
    (hi : i < l.length) : Ret Tryz.prog F.decl_Vars_2 #[.int .i64 i, .pointer (some ⟨b, 0, none⟩), .pointer (some ⟨b2, 0, none⟩)] w fun v w' => v = .int .i64 (Abs.varErr l s i) ∧ Ext w w' := by
  obtain ⟨oa, cap, rfl, hlen⟩ := hl.form
  obtain ⟨ob, cap2, rfl, hlen2⟩ := hs.form
  refine K.start hmix E.decl_Vars_2 (args := [_, _, _]) (Nat.le_of_ble_eq_true rfl) ?_
  dsimp only [C.decl_Vars_2,yt,yi,yb,yp,yr,ye,yc,yv,yg,ym,yw,ya,yl,yx,ys,yn]
  refine Go1 ?_
  refine K.ld hb ?_
  refine Go1 ?_
  obtain ⟨a, rfl⟩ := hl.addr (by omega)
  have hc := (hl.at i hi).cells
  have hr : Abs.varErr l s i = if Abs.there l[i].scalar s = false ∨ Abs.there l[i].over s = false then 8
    else if (l[i].scalar = 0 ∧ Abs.narrow l[i].lo l[i].hi = false) ∨ l[i].init < (Abs.bounds l[i] s).1 ∨ l[i].init > (Abs.bounds l[i] s).2 then 10 else 0 := by simp [Abs.varErr, hi]
  rw [hr]
  clear hr
  generalize l[i] = x at hc
  refine K.ian i rfl hi ?_
  refine Go1 ?_
  refine K.ldA hc rfl ?_
  refine Go1 ?_
  refine K.new fun w1 q hq he1 hc1 => ?_
  refine Go1 ?_
  refine K.stAb hc1 rfl rfl (by simp [Abs.Var.enc, Value.oneCell']) fun w2 hw hc2 => ?_
  have he2 : Ext w w2 := hw.ext he1 hq
  clear hw hc1 he1 w1
  have c1 : w2.cell? (Addr.add ⟨q, 0, none⟩ 1) = some (.int .i64 x.scalar) := cell_blk hc2 rfl
  have c2 : w2.cell? (Addr.add ⟨q, 0, none⟩ 2) = some (.int .i64 x.over) := cell_blk hc2 rfl
  have c5 : w2.cell? (Addr.add ⟨q, 0, none⟩ 5) = some (.int .i64 x.init) := cell_blk hc2 rfl
  have d2 := he2.cell hb2
  have hs2 := SlR.ext Abs.RScalar.ext he2 hs
  refine Go1 ?_
  refine K.ld c1 ?_
  refine Go1 ?_
  refine K.ld d2 ?_
  refine Go1 ?_
  refine K.call (there_r x.scalar _ s w2 hs2) ?_
  rintro _ _ ⟨rfl, rfl⟩
  refine Go1 ?_
  refine K.condb (fun h1 => ?_) (fun h1 => ?_)
  rotate_left
  · refine Go1 ?_
    simp only [h1, true_or, if_true]; exact ⟨trivial, he2⟩
  refine Go1 ?_
  refine K.ld c2 ?_
  refine Go1 ?_
  refine K.ld d2 ?_
  refine Go1 ?_
  refine K.call (there_r x.over _ s _ hs2) ?_
  rintro _ _ ⟨rfl, rfl⟩
  refine Go1 ?_
  refine K.condb (fun h2 => ?_) (fun h2 => ?_)
  rotate_left
  · refine Go1 ?_
    simp only [h2, or_true, if_true]; exact ⟨trivial, he2⟩
  refine Go1 ?_
  refine K.ldA (cellsAt_blk hc2) rfl ?_
  refine Go1 ?_
  refine K.ld d2 ?_
  refine Go1 ?_
  refine K.call (bounds_r x _ s _ hs2) ?_
  rintro _ w3 ⟨rfl, he3⟩
  rename_i w2'
  have e1 := he3.cell c1
  have e5 := he3.cell c5
  have he := he2.trans he3
  refine Go1 ?_
  refine K.ld e1 ?_
  have hA : ¬ (Abs.there x.scalar s = false ∨ Abs.there x.over s = false) := by simp [h1, h2]
  refine Go1 ?_
  refine K.cond (fun h3 => ?_) (fun h3 => ?_)
  · refine Go1 ?_
    have hbd : Abs.bounds x s = (x.lo, x.hi) := by simp [Abs.bounds, h3]
    rw [hbd]
    refine K.call (narrow_r x.lo x.hi w3) ?_
    rintro _ _ ⟨rfl, rfl⟩
    refine Go1 ?_
    refine K.condb (fun h4 => ?_) (fun h4 => ?_)
    rotate_left
    · refine Go1 ?_
      rw [if_neg hA, if_pos (.inl ⟨h3, h4⟩)]; exact ⟨rfl, he⟩
    refine Go1 ?_
    refine K.ld e5 ?_
    refine Go1 ?_
    refine K.cond (fun h5 => ?_) (fun h5 => ?_)
    · refine Go1 ?_
      rw [if_neg hA, if_pos (.inr (.inl h5))]; exact ⟨rfl, he⟩
    refine Go1 ?_
    refine K.ld e5 ?_
    refine Go1 ?_
    refine K.cond (fun h6 => ?_) (fun h6 => ?_)
    · refine Go1 ?_
      rw [if_neg hA, if_pos (.inr (.inr h6))]; exact ⟨rfl, he⟩
    · refine Go1 ?_
      rw [if_neg hA, if_neg (by rw [h4]; simp; omega)]; exact ⟨rfl, he⟩
  · refine Go1 ?_
    refine K.ld e5 ?_
    refine Go1 ?_
    refine K.cond (fun h5 => ?_) (fun h5 => ?_)
    · refine Go1 ?_
      rw [if_neg hA, if_pos (.inr (.inl h5))]; exact ⟨rfl, he⟩
    refine Go1 ?_
    refine K.ld e5 ?_
    refine Go1 ?_
    refine K.cond (fun h6 => ?_) (fun h6 => ?_)
    · refine Go1 ?_
      rw [if_neg hA, if_pos (.inr (.inr h6))]; exact ⟨rfl, he⟩
    · refine Go1 ?_
      rw [if_neg hA, if_neg (by simp [h3]; omega)]; exact ⟨rfl, he⟩
theorem vars_r (v v2 : Value) (l : List Abs.Var) (s : List Abs.Scalar) (most : Int) (w : World) (ho : OwnIs w) (hl : Abs.Vars w v l) (hs : Abs.Scalars w v2 s) :
    Ret Tryz.prog F.decl_Vars #[v, v2, .int .i64 most] w fun v w' => v = .tuple #[.int .i64 (Abs.vars l s most).1, .int .i64 (Abs.vars l s most).2] ∧ Ext w w' := by
  obtain ⟨oa, cap, rfl, hlen⟩ := hl.form
  obtain ⟨ob, cap2, rfl, hlen2⟩ := hs.form
  refine K.start hmix E.decl_Vars (args := [_, _, _]) (Nat.le_of_ble_eq_true rfl) ?_
  dsimp only [C.decl_Vars,yt,yi,yb,yp,yr,ye,yc,yv,yg,ym,yw,ya,yl,yx,ys,yn]
  refine Go1 ?_
  refine K.new fun w1 b hb he1 hc1 => ?_
  refine Go1 ?_
  refine K.new fun w2 b2 hb2 he2 hc2 => ?_
  have he := he1.trans he2
  have hl1 := SlR.ext Abs.RVar.ext he hl
  have hs1 := SlR.ext Abs.RScalar.ext he hs
  have d1 : w2.cell? ⟨b, 0, none⟩ = some (.slice oa l.length cap) := cell_blk0 (he2.obj hc1) rfl
  have d2 : w2.cell? ⟨b2, 0, none⟩ = some (.slice ob s.length cap2) := cell_blk0 hc2 rfl
  refine Go1 ?_
  refine K.ld d1 ?_
  refine Go1 ?_
  refine K.call (named_r l.length (max most 0) (by omega) (Abs.nameAt (·.name) l) (Abs.varErr l s) F.decl_Vars_1 F.decl_Vars_2 [_] [_, _] (by kernel_rfl) (by kernel_rfl) w2 (ho.ext he)
    (fun i hi => by rw [nameAt_lt _ _ _ (by omega)]; obtain ⟨a, rfl⟩ := hl.addr (by omega); exact (hl.at i (by omega)).ok)
    (fun i w' hi he => vars1_r i b _ l w' (SlR.ext Abs.RVar.ext he hl1) (he.cell d1) (by omega))
    (fun i w' hi he => vars2_r i b b2 _ _ l s w' (SlR.ext Abs.RVar.ext he hl1) (SlR.ext Abs.RScalar.ext he hs1) (he.cell d1) (he.cell d2) (by omega))) ?_
  rintro _ w3 ⟨rfl, he3⟩
  refine Go1 ?_
  exact ⟨rfl, he.trans he3⟩
theorem chans1_r (i : Nat) (b : Nat) (v : Value) (l : List Abs.Chan) (w : World) (hl : Abs.Chans w v l) (hb : w.cell? ⟨b, 0, none⟩ = some v) (hi : i < l.length) :
    Ret Tryz.prog F.decl_Chans_1 #[.int .i64 i, .pointer (some ⟨b, 0, none⟩)] w fun v w' => v = .string (Abs.nameAt (·.name) l i) ∧ Ext w w' := by
  obtain ⟨oa, cap, rfl, hlen⟩ := hl.form
  refine K.start hmix E.decl_Chans_1 (args := [_, _]) (Nat.le_of_ble_eq_true rfl) ?_
  dsimp only [C.decl_Chans_1,yt,yi,yb,yp,yr,ye,yc,yv,yg,ym,yw,ya,yl,yx,ys,yn]
  refine Go1 ?_
  refine K.ld hb ?_
  refine Go1 ?_
  obtain ⟨a, rfl⟩ := hl.addr (by omega)
  have hc := (hl.at i hi).cells 0 _ rfl
  refine K.ian i rfl hi ?_
  refine Go1 ?_
  refine K.ld hc ?_
  refine Go1 ?_
  rw [nameAt_lt _ _ _ hi]
  exact ⟨rfl, Ext.refl w⟩
theorem chans2_r (i : Nat) (b b2 : Nat) (v v2 : Value) (l : List Abs.Chan) (s : List Abs.Scalar) (w : World) (hl : Abs.Chans w v l) (hs : Abs.Scalars w v2 s) (hb : w.cell? ⟨b, 0, none⟩ = some v) (hb2 : w.cell? ⟨b2, 0, none⟩ = some v2)
    (hi : i < l.length) : Ret Tryz.prog F.decl_Chans_2 #[.int .i64 i, .pointer (some ⟨b, 0, none⟩), .pointer (some ⟨b2, 0, none⟩)] w fun v w' => v = .int .i64 (Abs.chanErr l s i) ∧ Ext w w' := by
  obtain ⟨oa, cap, rfl, hlen⟩ := hl.form
  obtain ⟨ob, cap2, rfl, hlen2⟩ := hs.form
  refine K.start hmix E.decl_Chans_2 (args := [_, _, _]) (Nat.le_of_ble_eq_true rfl) ?_
  dsimp only [C.decl_Chans_2,yt,yi,yb,yp,yr,ye,yc,yv,yg,ym,yw,ya,yl,yx,ys,yn]
  refine Go1 ?_
  refine K.ld hb ?_
  refine Go1 ?_
  obtain ⟨a, rfl⟩ := hl.addr (by omega)
  have hc := (hl.at i hi).cells
  have hr : Abs.chanErr l s i = if Abs.there l[i].scalar s = false then 8
    else if l[i].cap < 1 ∨ l[i].cap > 4 ∨ (l[i].scalar = 0 ∧ Abs.narrow l[i].lo l[i].hi = false) then 10 else 0 := by simp [Abs.chanErr, hi]
  rw [hr]
  clear hr
  generalize l[i] = x at hc
  refine K.ian i rfl hi ?_
  refine Go1 ?_
  refine K.ldA hc rfl ?_
  refine Go1 ?_
  refine K.new fun w1 q hq he1 hc1 => ?_
  refine Go1 ?_
  refine K.stAb hc1 rfl rfl (by simp [Abs.Chan.enc, Value.oneCell']) fun w2 hw hc2 => ?_
  have he2 : Ext w w2 := hw.ext he1 hq
  clear hw hc1 he1 w1
  have c1 : w2.cell? (Addr.add ⟨q, 0, none⟩ 1) = some (.int .i64 x.scalar) := cell_blk hc2 rfl
  have c2 : w2.cell? (Addr.add ⟨q, 0, none⟩ 2) = some (.int .i64 x.cap) := cell_blk hc2 rfl
  have c3 : w2.cell? (Addr.add ⟨q, 0, none⟩ 3) = some (.int .i64 x.lo) := cell_blk hc2 rfl
  have c4 : w2.cell? (Addr.add ⟨q, 0, none⟩ 4) = some (.int .i64 x.hi) := cell_blk hc2 rfl
  have d2 := he2.cell hb2
  have hs2 := SlR.ext Abs.RScalar.ext he2 hs
  refine Go1 ?_
  refine K.ld c1 ?_
  refine Go1 ?_
  refine K.ld d2 ?_
  refine Go1 ?_
  refine K.call (there_r x.scalar _ s w2 hs2) ?_
  rintro _ _ ⟨rfl, rfl⟩
  refine Go1 ?_
  refine K.condb (fun h1 => ?_) (fun h1 => ?_)
  rotate_left
  · refine Go1 ?_
    simp only [h1, if_true]; exact ⟨trivial, he2⟩
  have hA : ¬ (Abs.there x.scalar s = false) := by simp [h1]
  refine Go1 ?_
  refine K.ld c2 ?_
  refine Go1 ?_
  refine K.cond (fun h2 => ?_) (fun h2 => ?_)
  · refine Go1 ?_
    rw [if_neg hA, if_pos (.inl h2)]; exact ⟨rfl, he2⟩
  refine Go1 ?_
  refine K.ld c2 ?_
  refine Go1 ?_
  refine K.cond (fun h3 => ?_) (fun h3 => ?_)
  · refine Go1 ?_
    rw [if_neg hA, if_pos (.inr (.inl h3))]; exact ⟨rfl, he2⟩
  refine Go1 ?_
  refine K.ld c1 ?_
  refine Go1 ?_
  refine K.cond (fun h4 => ?_) (fun h4 => ?_)
  · refine Go1 ?_
    refine K.ld c3 ?_
    refine Go1 ?_
    refine K.ld c4 ?_
    refine Go1 ?_
    refine K.call (narrow_r x.lo x.hi _) ?_
    rintro _ _ ⟨rfl, rfl⟩
    refine Go1 ?_
    refine K.condb (fun h5 => ?_) (fun h5 => ?_)
    · refine Go1 ?_
      rw [if_neg hA, if_neg (by rw [h5]; simp; omega)]; exact ⟨rfl, he2⟩
    · refine Go1 ?_
      rw [if_neg hA, if_pos (.inr (.inr ⟨h4, h5⟩))]; exact ⟨rfl, he2⟩
  · refine Go1 ?_
    rw [if_neg hA, if_neg (by simp [h4]; omega)]; exact ⟨rfl, he2⟩
theorem chans_r (v v2 : Value) (l : List Abs.Chan) (s : List Abs.Scalar) (w : World) (ho : OwnIs w) (hl : Abs.Chans w v l) (hs : Abs.Scalars w v2 s) :
    Ret Tryz.prog F.decl_Chans #[v, v2] w fun v w' => v = .tuple #[.int .i64 (Abs.chans l s).1, .int .i64 (Abs.chans l s).2] ∧ Ext w w' := by
  obtain ⟨oa, cap, rfl, hlen⟩ := hl.form
  obtain ⟨ob, cap2, rfl, hlen2⟩ := hs.form
  refine K.start hmix E.decl_Chans (args := [_, _]) (Nat.le_of_ble_eq_true rfl) ?_
  dsimp only [C.decl_Chans,yt,yi,yb,yp,yr,ye,yc,yv,yg,ym,yw,ya,yl,yx,ys,yn]
  refine Go1 ?_
  refine K.new fun w1 b hb he1 hc1 => ?_
  refine Go1 ?_
  refine K.new fun w2 b2 hb2 he2 hc2 => ?_
  have he := he1.trans he2
  have hl1 := SlR.ext Abs.RChan.ext he hl
  have hs1 := SlR.ext Abs.RScalar.ext he hs
  have d1 : w2.cell? ⟨b, 0, none⟩ = some (.slice oa l.length cap) := cell_blk0 (he2.obj hc1) rfl
  have d2 : w2.cell? ⟨b2, 0, none⟩ = some (.slice ob s.length cap2) := cell_blk0 hc2 rfl
  refine Go1 ?_
  refine K.ld d1 ?_
  refine Go1 ?_
  refine K.call (named_r l.length 4 (by omega) (Abs.nameAt (·.name) l) (Abs.chanErr l s) F.decl_Chans_1 F.decl_Chans_2 [_] [_, _] (by kernel_rfl) (by kernel_rfl) w2 (ho.ext he)
    (fun i hi => by rw [nameAt_lt _ _ _ (by omega)]; obtain ⟨a, rfl⟩ := hl.addr (by omega); exact (hl.at i (by omega)).ok)
    (fun i w' hi he => chans1_r i b _ l w' (SlR.ext Abs.RChan.ext he hl1) (he.cell d1) (by omega))
    (fun i w' hi he => chans2_r i b b2 _ _ l s w' (SlR.ext Abs.RChan.ext he hl1) (SlR.ext Abs.RScalar.ext he hs1) (he.cell d1) (he.cell d2) (by omega))) ?_
  rintro _ w3 ⟨rfl, he3⟩
  refine Go1 ?_
  exact ⟨rfl, he.trans he3⟩
end Go.Proofs.YtbbaokmelkiemaaGreatDoor
end
section
/- Whole models: scalars, variables, channels. -/
set_option maxRecDepth 4000
set_option maxHeartbeats 6400000
namespace Go.Proofs.YtbbaokmelkiemaaGreatDoor
open Go Go.RowKit Lite
/-- The names that are taken lie in block bt; a model in box b1. -/
structure TakSt (w0 w : World) (bt b1 : Nat) (cs : List Value) (w' : World) (L : List ByteArray) : Prop where
  ext : Ext w0 w'
  mod : Mod (fun k => k = bt) w w'
  box : w'.heap[b1]? = some (.cells cs.toArray T.api_Model)
  set : SetAt w' bt L
  low : w0.heap.size ≤ bt
  ne : b1 ≠ bt
section
variable {w0 w w' w'' : World} {bt b1 : Nat} {cs : List Value} {L L' : List ByteArray}
theorem TakSt.then (h : TakSt w0 w bt b1 cs w' L) (he : Ext w' w'') : TakSt w0 w bt b1 cs w'' L := ⟨h.ext.trans he, h.mod.trans he.mod, he.obj h.box, h.set.ext he, h.low, h.ne⟩
theorem TakSt.wr (h : TakSt w0 w bt b1 cs w' L) (hw : Wr bt w' w'') (hs : SetAt w'' bt L') : TakSt w0 w bt b1 cs w'' L' := ⟨hw.ext h.ext h.low, h.mod.trans (hw.mod rfl), hw.obj h.box h.ne, hs, h.low, h.ne⟩
theorem TakSt.re (h : TakSt w0 w bt b1 cs w' L) (e : L = L') : TakSt w0 w bt b1 cs w' L' := e ▸ h
end
theorem globals_r {w0 : World} (cs : List Value) (m : Abs.Model) (bt : Nat) (w : World) (h : Abs.ModelIs w0 cs m) (e0 : Ext w0 w) (hbt : w0.heap.size ≤ bt) (ho : OwnIs w0) (hs : SetAt w bt []) :
    RetT Tryz.prog F.model_globals #[.agg cs.toArray, .map (some bt)] w (fun _ w' => (Abs.data m).why = 0 ∧ Ext w0 w' ∧ Mod (fun k => k = bt) w w' ∧ SetAt w' bt (Abs.nSVC m m.chans.length))
      (fun c w' => (Abs.data m).why ≠ 0 ∧ c = thrown (Abs.data m) ∧ Ext w0 w' ∧ Mod (fun k => k = bt) w w') := by
  obtain ⟨o0, c0, o1, c1, o2, c2, o3, c3, o4, c4, rfl, h0, h1, h2, h3, h4, l0, l1, l2, l3, l4⟩ := h.form
  refine K.startT hmix E.model_globals (args := [_, _]) (Nat.le_of_ble_eq_true rfl) ?_; dsimp only [C.model_globals,yt,yi,yb,yp,yr,ye,yc,yv,yg,ym,yw,ya,yl,yx,ys,yn]
  refine Sg ?_
  intro w1 b1 hb1 he1 hc1
  have st1 : TakSt w0 w bt b1 _ w1 [] := ⟨e0.trans he1, he1.mod, hc1, hs.ext he1, hbt, by have := hs.lt; omega⟩
  clear hs
  refine Sg ?_
  refine K.call (scalars_r _ m.scalars w1 (ho.ext st1.ext) (h0.ext st1.ext)) ?_
  rintro _ w2 ⟨rfl, he2⟩
  replace st1 := st1.then he2
  clear hc1
  refine Sg ?_
  refine K.thr (throw_r (Abs.scalars m.scalars).2 1 (Abs.scalars m.scalars).1 0 w2) ?_ ?_
  rotate_left
  · rintro c _ ⟨g, rfl, rfl⟩
    refine Sg ?_
    rw [Abs.data_s g]
    exact ⟨g, rfl, st1.ext, st1.mod⟩
  rintro _ _ ⟨hS, rfl⟩
  have hc1 := st1.box
  refine Sg ?_
  refine K.forG 24 m.scalars.length [1, 2, 22, 23] (fun _ : Unit => []) () (fun k _ w' => TakSt w0 w bt b1 _ w' ((m.scalars.take k).map (·.name))) (by first | trivial | rfl | exact ⟨rfl, trivial⟩ | (simp -dsimp only [LL,slots_nil,slots_cons,keepV_nil,keepV_cons,has_nil,has_cons,Nat.reduceAdd,Nat.reduceEqDiff,reduceIte,and_self]; done) | (simp -dsimp only [LL,slots_nil,slots_cons,keepV_nil,keepV_cons,has_nil,has_cons,Nat.reduceAdd,Nat.reduceEqDiff,reduceIte,and_self]; exact ⟨rfl, trivial⟩)) (by first | trivial | rfl | exact ⟨rfl, trivial⟩ | (simp -dsimp only [LL,slots_nil,slots_cons,keepV_nil,keepV_cons,has_nil,has_cons,Nat.reduceAdd,Nat.reduceEqDiff,reduceIte,and_self]; done) | (simp -dsimp only [LL,slots_nil,slots_cons,keepV_nil,keepV_cons,has_nil,has_cons,Nat.reduceAdd,Nat.reduceEqDiff,reduceIte,and_self]; exact ⟨rfl, trivial⟩)) (st1.re (by simp)) ?_
  clear hc1 he2 st1
  rintro k _ S w3 hk st3
  have hc1 := st3.box
  have e3 := st3.ext
  refine Sg ?_
  refine K.cond (fun g1 => ?_) (fun g1 => ?_)
  · have hk' : k < m.scalars.length := by omega
    obtain ⟨a, rfl⟩ := h0.addr (by omega)
    refine Sg ?_
    intro w4 b3 hb3 he4 hc3
    have st4 := st3.then he4
    refine Sg ?_
    refine K.mupS st4.set fun w5 hw hs5 => ?_
    refine Sg ?_
    exact ⟨hk', by first | trivial | rfl, (), trivial, (st4.wr hw hs5).re (Abs.take_snocN _ _ hk').symm⟩
  replace st3 := st3.re (show _ = Abs.nSV m 0 by rw [List.take_of_length_le (by omega)]; simp)
  refine Sg ?_
  refine K.call (vars_r _ _ m.vars m.scalars 12 w3 (ho.ext e3) (h1.ext e3) (h0.ext e3)) ?_
  rintro _ w4 ⟨rfl, he4⟩
  replace st3 := st3.then he4
  clear hc1 e3
  have hc1 := st3.box
  rw [Abs.vars_eq]
  refine Sg ?_
  refine K.forG 43 m.vars.length [1, 2, 4, 5, 41, 42] (fun _ : Unit => []) () (fun k _ w' => TakSt w0 w bt b1 _ w' (Abs.nSV m k) ∧ ∀ j, j < k → Abs.evar m j = 0) (by first | trivial | rfl | exact ⟨rfl, trivial⟩ | (simp -dsimp only [LL,slots_nil,slots_cons,keepV_nil,keepV_cons,has_nil,has_cons,Nat.reduceAdd,Nat.reduceEqDiff,reduceIte,and_self]; done) | (simp -dsimp only [LL,slots_nil,slots_cons,keepV_nil,keepV_cons,has_nil,has_cons,Nat.reduceAdd,Nat.reduceEqDiff,reduceIte,and_self]; exact ⟨rfl, trivial⟩)) (by first | trivial | rfl | exact ⟨rfl, trivial⟩ | (simp -dsimp only [LL,slots_nil,slots_cons,keepV_nil,keepV_cons,has_nil,has_cons,Nat.reduceAdd,Nat.reduceEqDiff,reduceIte,and_self]; done) | (simp -dsimp only [LL,slots_nil,slots_cons,keepV_nil,keepV_cons,has_nil,has_cons,Nat.reduceAdd,Nat.reduceEqDiff,reduceIte,and_self]; exact ⟨rfl, trivial⟩)) ⟨st3, fun j h => absurd h (Nat.not_lt_zero _)⟩ ?_
  clear hc1 st3 he4
  rintro k _ S' w5 hk ⟨st5, hz⟩
  have hc1 := st5.box
  have e5 := st5.ext
  refine Sg ?_
  refine K.cond (fun g1 => ?_) (fun g1 => ?_)
  · have hk' : k < m.vars.length := by omega
    obtain ⟨a, rfl⟩ := h1.addr (by omega)
    have hnm := Abs.nameAt_get (f := fun x : Abs.Var => x.name) hk'
    refine Sg ?_
    intro wN b9 hb9 heN hcN
    refine Su ?_
    intro w6 hw6 hc6
    have he6 := hw6.ext heN hb9
    have st6 := st5.then he6
    replace hc1 := st6.box
    clear hcN heN
    refine Su ?_
    refine K.cutG [1, 2, 4, 5, 8, 9, 41, 42, 43] (fun _ : Unit => []) (fun _ w' => w' = w6 ∧ Abs.verr m k = 0) ?_ ?_
    · refine Sg ?_
      refine K.cond (fun g2 => ?_) (fun g2 => ?_)
      · refine Sg ?_
        refine K.thr (throw_r (Abs.first m.vars.length (Abs.verr m)).2 2 k 0 w6) ?_ ?_
        · rintro _ _ ⟨h00, rfl⟩
          refine Sg ?_
          exact ⟨(), trivial, by first | trivial | rfl, Abs.first_zero h00 k hk'⟩
        · rintro c _ ⟨h00, rfl, rfl⟩
          obtain ⟨i, hi, e1, e2⟩ := Abs.first_lt h00
          obtain rfl : k = i := by omega
          rw [e2] at h00
          have hev : Abs.evar m k = Abs.verr m k := by unfold Abs.evar; rw [if_pos h00]
          have hd := Abs.data_v hS hk' hz (by rw [hev]; exact h00)
          rw [hev] at hd
          refine Sg ?_
          rw [hd, e2]
          exact ⟨h00, by first | trivial | rfl, st6.ext, st6.mod⟩
      · refine Sg ?_
        refine ⟨(), trivial, by first | trivial | rfl, ?_⟩
        apply Classical.byContradiction
        intro hne
        apply g2
        rw [Abs.first_stop hk' (fun j hj => Abs.verr_of (hz j hj)) hne]
    rintro _ S2 _ ⟨rfl, hv0⟩
    refine Sg ?_
    refine K.thr (take_r bt (Abs.nSV m k) m.vars[k].name 2 k _ st6.set) ?_ ?_
    · rintro _ w7 ⟨hn, hw7, hs7⟩
      refine Sg ?_
      refine ⟨hk', by first | trivial | rfl, (), trivial, (st6.wr hw7 hs7).re (by simp only [Abs.nSV, Abs.nV]; rw [Abs.take_snocN (fun x : Abs.Var => x.name) _ hk', List.append_assoc]), fun j hj => ?_⟩
      by_cases hjk : j = k
      · subst hjk
        unfold Abs.evar
        rw [if_neg (by simpa using hv0), hnm, if_neg hn]
      · exact hz j (by omega)
    · rintro c _ ⟨hn, rfl, rfl⟩
      have hev : Abs.evar m k = 7 := by unfold Abs.evar; rw [if_neg (by simpa using hv0), hnm, if_pos hn]
      have hd := Abs.data_v hS hk' hz (by rw [hev]; decide)
      rw [hev] at hd
      refine Sg ?_
      rw [hd]
      exact ⟨(show (7 : Int) ≠ 0 by decide), by first | trivial | rfl, st6.ext, st6.mod⟩
  have hkv : m.vars.length ≤ k := by omega
  have hV : ∀ j, j < m.vars.length → Abs.evar m j = 0 := fun j hj => hz j (by omega)
  replace st5 := st5.re (show _ = Abs.nSVC m 0 by simp only [Abs.nSVC, Abs.nSV, Abs.nV, Abs.nC]; rw [List.take_of_length_le hkv]; simp)
  refine Sg ?_
  refine K.call (chans_r _ _ m.chans m.scalars w5 (ho.ext e5) (h2.ext e5) (h0.ext e5)) ?_
  rintro _ w6 ⟨rfl, he6⟩
  replace st5 := st5.then he6
  clear hc1 e5
  have hc1 := st5.box
  rw [Abs.chans_eq]
  refine Sg ?_
  refine K.forG 71 m.chans.length [1, 2, 4, 5, 69, 70] (fun _ : Unit => []) () (fun k _ w' => TakSt w0 w bt b1 _ w' (Abs.nSVC m k) ∧ ∀ j, j < k → Abs.echan m j = 0) (by first | trivial | rfl | exact ⟨rfl, trivial⟩ | (simp -dsimp only [LL,slots_nil,slots_cons,keepV_nil,keepV_cons,has_nil,has_cons,Nat.reduceAdd,Nat.reduceEqDiff,reduceIte,and_self]; done) | (simp -dsimp only [LL,slots_nil,slots_cons,keepV_nil,keepV_cons,has_nil,has_cons,Nat.reduceAdd,Nat.reduceEqDiff,reduceIte,and_self]; exact ⟨rfl, trivial⟩)) (by first | trivial | rfl | exact ⟨rfl, trivial⟩ | (simp -dsimp only [LL,slots_nil,slots_cons,keepV_nil,keepV_cons,has_nil,has_cons,Nat.reduceAdd,Nat.reduceEqDiff,reduceIte,and_self]; done) | (simp -dsimp only [LL,slots_nil,slots_cons,keepV_nil,keepV_cons,has_nil,has_cons,Nat.reduceAdd,Nat.reduceEqDiff,reduceIte,and_self]; exact ⟨rfl, trivial⟩)) ⟨st5, fun j h => absurd h (Nat.not_lt_zero _)⟩ ?_
  clear hc1 st5 he6
  rintro k _ S' w7 hk ⟨st7, hz⟩
  have hc1 := st7.box
  have e7 := st7.ext
  refine Sg ?_
  refine K.cond (fun g1 => ?_) (fun g1 => ?_)
  · have hk' : k < m.chans.length := by omega
    obtain ⟨a, rfl⟩ := h2.addr (by omega)
    have hnm := Abs.nameAt_get (f := fun x : Abs.Chan => x.name) hk'
    refine Sg ?_
    intro wN b9 hb9 heN hcN
    refine Su ?_
    intro w6 hw6 hc6
    have he6 := hw6.ext heN hb9
    have st6 := st7.then he6
    replace hc1 := st6.box
    clear hcN heN
    refine Su ?_
    refine K.cutG [1, 2, 4, 5, 10, 11, 69, 70, 71] (fun _ : Unit => []) (fun _ w' => w' = w6 ∧ Abs.cerr m k = 0) ?_ ?_
    · refine Sg ?_
      refine K.cond (fun g2 => ?_) (fun g2 => ?_)
      · refine Sg ?_
        refine K.thr (throw_r (Abs.first m.chans.length (Abs.cerr m)).2 3 k 0 w6) ?_ ?_
        · rintro _ _ ⟨h00, rfl⟩
          refine Sg ?_
          exact ⟨(), trivial, by first | trivial | rfl, Abs.first_zero h00 k hk'⟩
        · rintro c _ ⟨h00, rfl, rfl⟩
          obtain ⟨i, hi, e1, e2⟩ := Abs.first_lt h00
          obtain rfl : k = i := by omega
          rw [e2] at h00
          have hev : Abs.echan m k = Abs.cerr m k := by unfold Abs.echan; rw [if_pos h00]
          have hd := Abs.data_c hS hV hk' hz (by rw [hev]; exact h00)
          rw [hev] at hd
          refine Sg ?_
          rw [hd, e2]
          exact ⟨h00, by first | trivial | rfl, st6.ext, st6.mod⟩
      · refine Sg ?_
        refine ⟨(), trivial, by first | trivial | rfl, ?_⟩
        apply Classical.byContradiction
        intro hne
        apply g2
        rw [Abs.first_stop hk' (fun j hj => Abs.cerr_of (hz j hj)) hne]
    rintro _ S2 _ ⟨rfl, hv0⟩
    refine Sg ?_
    refine K.thr (take_r bt (Abs.nSVC m k) m.chans[k].name 3 k _ st6.set) ?_ ?_
    · rintro _ w7 ⟨hn, hw7, hs7⟩
      refine Sg ?_
      refine ⟨hk', by first | trivial | rfl, (), trivial, (st6.wr hw7 hs7).re (by simp only [Abs.nSVC, Abs.nC]; rw [Abs.take_snocN (fun x : Abs.Chan => x.name) _ hk', List.append_assoc]), fun j hj => ?_⟩
      by_cases hjk : j = k
      · subst hjk
        unfold Abs.echan
        rw [if_neg (by simpa using hv0), hnm, if_neg hn]
      · exact hz j (by omega)
    · rintro c _ ⟨hn, rfl, rfl⟩
      have hev : Abs.echan m k = 7 := by unfold Abs.echan; rw [if_neg (by simpa using hv0), hnm, if_pos hn]
      have hd := Abs.data_c hS hV hk' hz (by rw [hev]; decide)
      rw [hev] at hd
      refine Sg ?_
      rw [hd]
      exact ⟨(show (7 : Int) ≠ 0 by decide), by first | trivial | rfl, st6.ext, st6.mod⟩
  have hkc : m.chans.length ≤ k := by omega
  refine Sg ?_
  refine ⟨by rw [Abs.data_0 hS hV fun j hj => hz j (by omega)]; rfl, st7.ext, st7.mod, (st7.re ?_).set⟩
  simp only [Abs.nSVC, Abs.nC]
  rw [List.take_of_length_le hkc, List.take_of_length_le (Nat.le_refl _)]
end Go.Proofs.YtbbaokmelkiemaaGreatDoor
end
section
/- What every right program says of some declarations. -/
set_option maxRecDepth 100000
set_option linter.unusedSimpArgs false
set_option maxHeartbeats 1000000
namespace Go.Proofs.YtbbaokmelkiemaaGreatDoor
open Go Go.RowKit Lite
def aw1 : List Abs.Var := [⟨⟨#[120]⟩, 0, 0, 0, 3, 0⟩, ⟨⟨#[120]⟩, 0, 0, 0, 0, 0⟩]
def aw2 : List Abs.Var := [⟨⟨#[120]⟩, 0, 0, 0, 256, 0⟩]
end Go.Proofs.YtbbaokmelkiemaaGreatDoor
end
section
/- What the references of layer 12 compute; the law on cells and bounds. -/
set_option maxRecDepth 4000
set_option linter.unusedSimpArgs false
set_option maxHeartbeats 1000000
namespace Go.Proofs.YtbbaokmelkiemaaGreatDoor
open Go Go.RowKit Lite

end Go.Proofs.YtbbaokmelkiemaaGreatDoor
end
section
/- Whole models: how many pieces. -/
set_option maxRecDepth 4000
set_option maxHeartbeats 6400000
namespace Abs
structure Few (m : Model) : Prop where
  v : m.vars.length ≤ 1000000
  c : m.chans.length ≤ 1000000
  p : m.procs.length ≤ 1000000
  i : ∀ p ∈ m.procs, p.vars.length ≤ 1000000 ∧ p.cmds.length ≤ 1000000
def c1 (m : Model) (k : Nat) : Int := sumI ((m.vars.take k).map fun v => cells v m.scalars)
def c2 (m : Model) (k : Nat) : Int := sumI ((m.chans.take k).map ccap)
def i1 (m : Model) (k : Nat) : Int := sumI ((m.procs.take k).map (pinsts m))
def i2 (m : Model) (k : Nat) : Int := sumI ((m.procs.take k).map fun p => pinsts m p * p.cmds.length)
def i3 (m : Model) (k : Nat) : Int := sumI ((m.procs.take k).map fun p => pinsts m p * (1 + p.vars.length))
theorem mem_of_take {α : Type} {l : List α} {k : Nat} {x : α} (h : x ∈ l.take k) : x ∈ l := List.mem_of_mem_take h
theorem c1_le {m : Model} (h : Few m) (k : Nat) : 0 ≤ c1 m k ∧ c1 m k ≤ 4000000 := by
  have := sumI_le (fun v => cells v m.scalars) 4 (by decide) (m.vars.take k) fun v _ => cells_le v _
  have h1 := h.v
  have h2 : (m.vars.take k).length ≤ m.vars.length := by simp; omega
  unfold c1
  omega
theorem c2_le {m : Model} (h : Few m) (k : Nat) : 0 ≤ c2 m k ∧ c2 m k ≤ 5000000 := by
  have := sumI_le ccap 5 (by decide) (m.chans.take k) fun c _ => by have := ccap_le c; omega
  have h1 := h.c
  have h2 : (m.chans.take k).length ≤ m.chans.length := by simp; omega
  unfold c2
  omega
theorem i1_le {m : Model} (h : Few m) (k : Nat) : 0 ≤ i1 m k ∧ i1 m k ≤ 4000000 := by
  have := sumI_le (pinsts m) 4 (by decide) (m.procs.take k) fun p _ => pinsts_le m p
  have h1 := h.p
  have h2 : (m.procs.take k).length ≤ m.procs.length := by simp; omega
  unfold i1
  omega
theorem mul_le {a b : Int} (ha : 0 ≤ a ∧ a ≤ 4) (hb : 0 ≤ b ∧ b ≤ 1000001) : 0 ≤ a * b ∧ a * b ≤ 4000004 := by
  have : a = 0 ∨ a = 1 ∨ a = 2 ∨ a = 3 ∨ a = 4 := by omega
  rcases this with rfl | rfl | rfl | rfl | rfl <;> omega
theorem i2_le {m : Model} (h : Few m) (k : Nat) : 0 ≤ i2 m k ∧ i2 m k ≤ 4000004000000 := by
  have := sumI_le (fun p => pinsts m p * p.cmds.length) 4000004 (by decide) (m.procs.take k) fun p hp => mul_le (pinsts_le m p) (by have := (h.i p (mem_of_take hp)).2; omega)
  have h1 := h.p
  have h2 : (m.procs.take k).length ≤ m.procs.length := by simp; omega
  unfold i2
  omega
theorem i3_le {m : Model} (h : Few m) (k : Nat) : 0 ≤ i3 m k ∧ i3 m k ≤ 4000004000000 := by
  have := sumI_le (fun p => pinsts m p * (1 + p.vars.length)) 4000004 (by decide) (m.procs.take k) fun p hp => mul_le (pinsts_le m p) (by have := (h.i p (mem_of_take hp)).1; omega)
  have h1 := h.p
  have h2 : (m.procs.take k).length ≤ m.procs.length := by simp; omega
  unfold i3
  omega
theorem c1_succ {m : Model} {k : Nat} (h : k < m.vars.length) : c1 m (k + 1) = c1 m k + cells m.vars[k] m.scalars := sumI_take _ _ h
theorem c2_succ {m : Model} {k : Nat} (h : k < m.chans.length) : c2 m (k + 1) = c2 m k + ccap m.chans[k] := sumI_take _ _ h
theorem i1_succ {m : Model} {k : Nat} (h : k < m.procs.length) : i1 m (k + 1) = i1 m k + pinsts m m.procs[k] := sumI_take _ _ h
theorem i2_succ {m : Model} {k : Nat} (h : k < m.procs.length) : i2 m (k + 1) = i2 m k + pinsts m m.procs[k] * m.procs[k].cmds.length := sumI_take _ _ h
theorem i3_succ {m : Model} {k : Nat} (h : k < m.procs.length) : i3 m (k + 1) = i3 m k + pinsts m m.procs[k] * (1 + m.procs[k].vars.length) := sumI_take _ _ h
theorem pieces_eq (m : Model) {a b c : Nat} (ha : m.vars.length ≤ a) (hb : m.chans.length ≤ b) (hc : m.procs.length ≤ c) : pieces m = (i1 m c, i2 m c, c1 m a + c2 m b + i3 m c) := by
  unfold pieces i1 i2 i3 c1 c2
  rw [List.take_of_length_le ha, List.take_of_length_le hb, List.take_of_length_le hc]
end Abs
namespace Go.Proofs.YtbbaokmelkiemaaGreatDoor
open Go Go.RowKit Lite
theorem pieces_r (cs : List Value) (m : Abs.Model) (w : World) (h : Abs.ModelIs w cs m) (hf : Abs.Few m) :
    Ret Tryz.prog F.model_Pieces #[.agg cs.toArray] w fun v w' => v = .tuple #[.int .i64 (Abs.pieces m).1, .int .i64 (Abs.pieces m).2.1, .int .i64 (Abs.pieces m).2.2] ∧ Ext w w' := by
  obtain ⟨o0, c0, o1, c1, o2, c2, o3, c3, o4, c4, rfl, h0, h1, h2, h3, h4, l0, l1, l2, l3, l4⟩ := h.form
  refine K.start hmix E.model_Pieces (args := [_]) (Nat.le_of_ble_eq_true rfl) ?_; dsimp only [C.model_Pieces,yt,yi,yb,yp,yr,ye,yc,yv,yg,ym,yw,ya,yl,yx,ys,yn]
  refine Sg ?_
  intro w1 b1 hb1 he1 hc1
  have hcw := hc1
  clear hc1
  refine Sg ?_
  refine K.forG 18 m.vars.length [1, 5, 6, 16, 17] (fun s : Int => [(7, .int .i64 s)]) 0 (fun k s w' => Ext w1 w' ∧ s = Abs.c1 m k) (by first | trivial | rfl | exact ⟨rfl, trivial⟩ | (simp -dsimp only [LL,slots_nil,slots_cons,keepV_nil,keepV_cons,has_nil,has_cons,Nat.reduceAdd,Nat.reduceEqDiff,reduceIte,and_self]; done) | (simp -dsimp only [LL,slots_nil,slots_cons,keepV_nil,keepV_cons,has_nil,has_cons,Nat.reduceAdd,Nat.reduceEqDiff,reduceIte,and_self]; exact ⟨rfl, trivial⟩)) (by first | trivial | rfl | exact ⟨rfl, trivial⟩ | (simp -dsimp only [LL,slots_nil,slots_cons,keepV_nil,keepV_cons,has_nil,has_cons,Nat.reduceAdd,Nat.reduceEqDiff,reduceIte,and_self]; done) | (simp -dsimp only [LL,slots_nil,slots_cons,keepV_nil,keepV_cons,has_nil,has_cons,Nat.reduceAdd,Nat.reduceEqDiff,reduceIte,and_self]; exact ⟨rfl, trivial⟩)) ⟨Ext.refl _, by simp [Abs.c1, Abs.sumI]⟩ ?_
  rintro k _ S w2 hk ⟨he2, rfl⟩
  have hc1 := he2.obj hcw
  have E2 : ∀ {w'}, Ext w2 w' → Ext w w' := fun e => (he1.trans he2).trans e
  refine Sg ?_
  refine K.cond (fun g1 => ?_) (fun g1 => ?_)
  · have hk' : k < m.vars.length := by omega
    obtain ⟨a, rfl⟩ := h1.addr (by omega)
    have hcv := ((h1.at k hk').cells).ext (E2 (Ext.refl _))
    refine Sg ?_
    intro w3 b3 hb3 he3 hc3
    replace hc1 := he3.obj hc1
    refine Sg ?_
    refine K.call (cells_r m.vars[k] _ m.scalars w3 (h0.ext (E2 he3))) ?_
    rintro _ w4 ⟨rfl, he4⟩
    have q1 := Abs.c1_le hf k
    have q2 := Abs.cells_le m.vars[k] m.scalars
    refine Sg ?_
    exact ⟨hk', by first | trivial | rfl, _, (by first | trivial | rfl | exact ⟨rfl, trivial⟩ | (simp -dsimp only [LL,slots_nil,slots_cons,keepV_nil,keepV_cons,has_nil,has_cons,Nat.reduceAdd,Nat.reduceEqDiff,reduceIte,and_self]; done) | (simp -dsimp only [LL,slots_nil,slots_cons,keepV_nil,keepV_cons,has_nil,has_cons,Nat.reduceAdd,Nat.reduceEqDiff,reduceIte,and_self]; exact ⟨rfl, trivial⟩)), (he2.trans he3).trans he4, (Abs.c1_succ hk').symm⟩
  have hkv : m.vars.length ≤ k := by omega
  refine Sg ?_
  refine K.forG 32 m.chans.length [1, 5, 6, 30, 31] (fun s : Int => [(7, .int .i64 s)]) (Abs.c1 m k) (fun j s w' => Ext w1 w' ∧ s = Abs.c1 m k + Abs.c2 m j) (by first | trivial | rfl | exact ⟨rfl, trivial⟩ | (simp -dsimp only [LL,slots_nil,slots_cons,keepV_nil,keepV_cons,has_nil,has_cons,Nat.reduceAdd,Nat.reduceEqDiff,reduceIte,and_self]; done) | (simp -dsimp only [LL,slots_nil,slots_cons,keepV_nil,keepV_cons,has_nil,has_cons,Nat.reduceAdd,Nat.reduceEqDiff,reduceIte,and_self]; exact ⟨rfl, trivial⟩)) (by first | trivial | rfl | exact ⟨rfl, trivial⟩ | (simp -dsimp only [LL,slots_nil,slots_cons,keepV_nil,keepV_cons,has_nil,has_cons,Nat.reduceAdd,Nat.reduceEqDiff,reduceIte,and_self]; done) | (simp -dsimp only [LL,slots_nil,slots_cons,keepV_nil,keepV_cons,has_nil,has_cons,Nat.reduceAdd,Nat.reduceEqDiff,reduceIte,and_self]; exact ⟨rfl, trivial⟩)) ⟨he2, by simp [Abs.c2, Abs.sumI]⟩ ?_
  clear hc1 E2
  rintro j _ S' w3 hj ⟨he3, rfl⟩
  have hc1 := he3.obj hcw
  have E3 : ∀ {w'}, Ext w3 w' → Ext w w' := fun e => (he1.trans he3).trans e
  refine Sg ?_
  refine K.cond (fun g2 => ?_) (fun g2 => ?_)
  · have hj' : j < m.chans.length := by omega
    obtain ⟨a, rfl⟩ := h2.addr (by omega)
    have hcv := ((h2.at j hj').cells).ext (E3 (Ext.refl _))
    refine Sg ?_
    intro w4 b3 hb3 he4 hc3
    have q1 := Abs.c1_le hf k
    have q2 := Abs.c2_le hf j
    have q3 := Abs.ccap_le m.chans[j]
    unfold Abs.ccap at q3
    refine Sg ?_
    exact ⟨hj', by first | trivial | rfl, _, (by first | trivial | rfl | exact ⟨rfl, trivial⟩ | (simp -dsimp only [LL,slots_nil,slots_cons,keepV_nil,keepV_cons,has_nil,has_cons,Nat.reduceAdd,Nat.reduceEqDiff,reduceIte,and_self]; done) | (simp -dsimp only [LL,slots_nil,slots_cons,keepV_nil,keepV_cons,has_nil,has_cons,Nat.reduceAdd,Nat.reduceEqDiff,reduceIte,and_self]; exact ⟨rfl, trivial⟩)), he3.trans he4, by rw [Abs.c2_succ hj']; unfold Abs.ccap; omega⟩
  have hjc : m.chans.length ≤ j := by omega
  refine Sg ?_
  refine K.forG 47 m.procs.length [1, 45, 46] (fun s : Int × Int × Int => [(5, .int .i64 s.1), (6, .int .i64 s.2.1), (7, .int .i64 s.2.2)]) (0, 0, Abs.c1 m k + Abs.c2 m j)
    (fun i s w' => Ext w1 w' ∧ s = (Abs.i1 m i, Abs.i2 m i, Abs.c1 m k + Abs.c2 m j + Abs.i3 m i)) (by first | trivial | rfl | exact ⟨rfl, trivial⟩ | (simp -dsimp only [LL,slots_nil,slots_cons,keepV_nil,keepV_cons,has_nil,has_cons,Nat.reduceAdd,Nat.reduceEqDiff,reduceIte,and_self]; done) | (simp -dsimp only [LL,slots_nil,slots_cons,keepV_nil,keepV_cons,has_nil,has_cons,Nat.reduceAdd,Nat.reduceEqDiff,reduceIte,and_self]; exact ⟨rfl, trivial⟩)) (by first | trivial | rfl | exact ⟨rfl, trivial⟩ | (simp -dsimp only [LL,slots_nil,slots_cons,keepV_nil,keepV_cons,has_nil,has_cons,Nat.reduceAdd,Nat.reduceEqDiff,reduceIte,and_self]; done) | (simp -dsimp only [LL,slots_nil,slots_cons,keepV_nil,keepV_cons,has_nil,has_cons,Nat.reduceAdd,Nat.reduceEqDiff,reduceIte,and_self]; exact ⟨rfl, trivial⟩)) ⟨he3, by simp [Abs.i1, Abs.i2, Abs.i3, Abs.sumI]⟩ ?_
  clear hc1 E3
  rintro i _ S'' w4 hi ⟨he4, rfl⟩
  have hc1 := he4.obj hcw
  have E4 : ∀ {w'}, Ext w4 w' → Ext w w' := fun e => (he1.trans he4).trans e
  refine Sg ?_
  refine K.cond (fun g3 => ?_) (fun g3 => ?_)
  · have hi' : i < m.procs.length := by omega
    obtain ⟨a, rfl⟩ := h3.addr (by omega)
    obtain ⟨_, vv, vc, hp, hpv, hpc⟩ := h3.at i hi'
    obtain ⟨ov, cv, rfl, lv⟩ := hpv.form
    obtain ⟨oc, cc, rfl, lc⟩ := hpc.form
    replace hp := hp.ext (E4 (Ext.refl _))
    have hfi := hf.i _ (List.getElem_mem hi')
    refine Sg ?_
    intro w5 b3 hb3 he5 hc3
    replace hc1 := he5.obj hc1
    refine Sg ?_
    refine K.call (cells_r ⟨⟨#[]⟩, 0, m.procs[i].over, 0, 0, 0⟩ _ m.scalars w5 (h0.ext (E4 he5))) ?_
    rintro _ w6 ⟨rfl, he6⟩
    have hpi : Abs.cells ⟨⟨#[]⟩, 0, m.procs[i].over, 0, 0, 0⟩ m.scalars = Abs.pinsts m m.procs[i] := rfl
    rw [hpi]
    replace hc3 := he6.obj hc3
    have q1 := Abs.c1_le hf k
    have q2 := Abs.c2_le hf j
    have q3 := Abs.i1_le hf i
    have q4 := Abs.i2_le hf i
    have q5 := Abs.i3_le hf i
    have q6 := Abs.pinsts_le m m.procs[i]
    have q7 := Abs.mul_le q6 (b := m.procs[i].cmds.length) (by omega)
    have q8 := Abs.mul_le q6 (b := 1 + m.procs[i].vars.length) (by omega)
    refine Sg ?_
    exact ⟨hi', by first | trivial | rfl, (_, _, _), (by first | exact ⟨rfl, rfl, rfl, trivial⟩ | exact ⟨rfl, rfl, trivial⟩ | (simp -dsimp only [LL,slots_nil,slots_cons,keepV_nil,keepV_cons,has_nil,has_cons,Nat.reduceAdd,Nat.reduceEqDiff,reduceIte,and_self]; exact ⟨rfl, rfl, rfl, trivial⟩) | (simp -dsimp only [LL,slots_nil,slots_cons,keepV_nil,keepV_cons,has_nil,has_cons,Nat.reduceAdd,Nat.reduceEqDiff,reduceIte,and_self]; exact ⟨rfl, rfl, trivial⟩)), (he4.trans he5).trans he6, by rw [Abs.i1_succ hi', Abs.i2_succ hi', Abs.i3_succ hi']; exact Prod.ext rfl (Prod.ext rfl (Int.add_assoc _ _ _))⟩
  have hip : m.procs.length ≤ i := by omega
  refine Sg ?_
  exact ⟨by rw [Abs.pieces_eq m hkv hjc hip], E4 (Ext.refl _)⟩
end Go.Proofs.YtbbaokmelkiemaaGreatDoor
end
section
/- The machine that works expressions off. -/
set_option maxRecDepth 4000
set_option linter.unusedSimpArgs false
set_option maxHeartbeats 4000000
namespace Go.Proofs.YtbbaokmelkiemaaGreatDoor
open Go Go.RowKit Lite

abbrev encI : Int → List Value := fun n => [Value.int .i64 n]
abbrev OwnI (base : Nat) (w : World) (v : Value) (xs : List Int) : Prop := OwR encI T.int 1 base w v xs
structure MachIs (base b : Nat) (w : World) (m : Value) (st : List Int) : Prop where
  ex : ∃ sv, w.heap[b]? = some (.cells #[sv, m] T.expr_machine) ∧ OwnI base w sv st
  lt : b < base
  le : base ≤ w.heap.size
theorem MachIs.ext {base b : Nat} {w w' : World} {m : Value} {st : List Int} (h : MachIs base b w m st) (he : Ext w w') : MachIs base b w' m st :=
  let ⟨sv, h1, h2⟩ := h.ex
  ⟨⟨sv, he.obj h1, h2.ext he⟩, h.lt, Nat.le_trans h.le he.size⟩
theorem getLast_eq (st : List Int) (h : 0 < st.length) : st.getLastD 0 = st[st.length - 1] := by
  rw [List.getLastD_eq_getLast?, List.getLast?_eq_getElem?, List.getElem?_eq_getElem (by omega)]; rfl
theorem top_r (base b : Nat) (w : World) (m : Value) (st : List Int) (h : MachIs base b w m st) (h0 : 0 < st.length) :
    Ret Tryz.prog F.p_expr_machine_top #[.pointer (some ⟨b, 0, none⟩)] w fun v w' => v = .int .i64 (st.getLastD 0) ∧ Ext w w' := by
  obtain ⟨sv, hh, ho⟩ := h.ex
  obtain ⟨oa, cap, rfl, hc, hm⟩ := ho.form
  have hi : Ints w _ st := OwR.slr (enc := encI) (sz := 1) (fun _ => rfl) ho
  obtain ⟨a, rfl⟩ := hi.addr h0
  unfold maxLen at hm
  refine K.start hmix E.p_expr_machine_top (args := [_]) (Nat.le_of_ble_eq_true rfl) ?_
  dsimp only [C.p_expr_machine_top,yt,yi,yb,yp,yr,ye,yc,yv,yg,ym,yw,ya,yl,yx,ys,yn]
  refine St ?_
  refine K.ian (st.length - 1) (by omega) (by omega) ?_
  refine St ?_
  intro w1 he
  refine St ?_
  rw [getLast_eq _ h0]
  (refine ⟨?_, ?_⟩ <;> first | trivial | rfl | (repeat' first | assumption | exact Ext.refl _ | refine Ext.trans ?_ (by assumption)))
/-- What a leaf asks. -/
theorem kleaf_r (x : Abs.Node) (cs : List Value) (s : Abs.Scope) (base b : Nat) (w : World) (m : Value) (st : List Int) (hx : x.ok) (h : Abs.ScopeIs w cs s) (hm : MachIs base b w m st) (h3 : x.op = 3 → 0 < st.length) :
    Ret Tryz.prog F.p_expr_machine_kind #[.pointer (some ⟨b, 0, none⟩), .agg x.enc.toArray, .agg cs.toArray] w fun v w' => v = .tuple #[.int .i64 (Abs.kleaf x s (st.getLastD 0)).1, .int .i64 (Abs.kleaf x s (st.getLastD 0)).2] ∧ Ext w w' := by
  obtain ⟨a0, c0, a1, c1, a2, c2, a3, c3, a4, c4, rfl, q0, q1, q2, q3, q4, l0, l1, l2, l3, l4⟩ := h.form
  refine K.start hmix E.p_expr_machine_kind (args := [_, _, _]) (Nat.le_of_ble_eq_true rfl) ?_
  dsimp only [C.p_expr_machine_kind,yt,yi,yb,yp,yr,ye,yc,yv,yg,ym,yw,ya,yl,yx,ys,yn]
  simp -dsimp only [B9]
  (repeat' first
 | assumption
 | exact Ext.refl _
 | refine Ext.trans ?_ (by assumption)
 | refine K.wrap (by omega) ?_
 | refine K.ldb (by assumption) ?_ rfl ?_
 | refine K.ldb0 (by assumption) ?_ rfl ?_
 | refine K.ldE (by assumption) ?_ (by omega) rfl ?_
 | refine K.ldE0 (by assumption) ?_ (by omega) rfl ?_
 | refine K.ldAE (by assumption) ?_ (by omega) rfl ?_
 | refine K.iaC (by omega) ?_
 | refine K.condT (by first | assumption | omega) ?_
 | refine K.condF (by first | assumption | omega) ?_
 | refine K.condbT (by assumption) ?_
 | refine K.condbF (by assumption) ?_
 | simp -dsimp only [LL,Nat.reduceAdd,Nat.reduceEqDiff,reduceIte,reduceCtorEq,Bool.false_eq_true])
  refine K.new fun w1 b1 hb1 he1 hc1 => ?_
  (repeat' first
 | assumption
 | exact Ext.refl _
 | refine Ext.trans ?_ (by assumption)
 | refine K.wrap (by omega) ?_
 | refine K.ldb (by assumption) ?_ rfl ?_
 | refine K.ldb0 (by assumption) ?_ rfl ?_
 | refine K.ldE (by assumption) ?_ (by omega) rfl ?_
 | refine K.ldE0 (by assumption) ?_ (by omega) rfl ?_
 | refine K.ldAE (by assumption) ?_ (by omega) rfl ?_
 | refine K.iaC (by omega) ?_
 | refine K.condT (by first | assumption | omega) ?_
 | refine K.condF (by first | assumption | omega) ?_
 | refine K.condbT (by assumption) ?_
 | refine K.condbF (by assumption) ?_
 | simp -dsimp only [LL,Nat.reduceAdd,Nat.reduceEqDiff,reduceIte,reduceCtorEq,Bool.false_eq_true])
  refine K.new fun w2 b2 hb2 he2 hc2 => ?_
  have he := he1.trans he2
  have k1 : w2.heap[b1]? = some (.cells #[.int .i64 x.op, .int .i64 x.n] T.api_Node) := he2.obj hc1
  clear hc1
  (repeat' first
 | assumption
 | exact Ext.refl _
 | refine Ext.trans ?_ (by assumption)
 | refine K.wrap (by omega) ?_
 | refine K.ldb (by assumption) ?_ rfl ?_
 | refine K.ldb0 (by assumption) ?_ rfl ?_
 | refine K.ldE (by assumption) ?_ (by omega) rfl ?_
 | refine K.ldE0 (by assumption) ?_ (by omega) rfl ?_
 | refine K.ldAE (by assumption) ?_ (by omega) rfl ?_
 | refine K.iaC (by omega) ?_
 | refine K.condT (by first | assumption | omega) ?_
 | refine K.condF (by first | assumption | omega) ?_
 | refine K.condbT (by assumption) ?_
 | refine K.condbF (by assumption) ?_
 | simp -dsimp only [LL,Nat.reduceAdd,Nat.reduceEqDiff,reduceIte,reduceCtorEq,Bool.false_eq_true])
  simp -dsimp only [B9]
  (repeat' first
 | assumption
 | exact Ext.refl _
 | refine Ext.trans ?_ (by assumption)
 | refine K.wrap (by omega) ?_
 | refine K.ldb (by assumption) ?_ rfl ?_
 | refine K.ldb0 (by assumption) ?_ rfl ?_
 | refine K.ldE (by assumption) ?_ (by omega) rfl ?_
 | refine K.ldE0 (by assumption) ?_ (by omega) rfl ?_
 | refine K.ldAE (by assumption) ?_ (by omega) rfl ?_
 | refine K.iaC (by omega) ?_
 | refine K.condT (by first | assumption | omega) ?_
 | refine K.condF (by first | assumption | omega) ?_
 | refine K.condbT (by assumption) ?_
 | refine K.condbF (by assumption) ?_
 | simp -dsimp only [LL,Nat.reduceAdd,Nat.reduceEqDiff,reduceIte,reduceCtorEq,Bool.false_eq_true])
  refine K.cut (fun S' w' => S' 0 = .pointer (some ⟨b, 0, none⟩) ∧ S' 4 = .pointer (some ⟨b1, 0, none⟩) ∧ S' 5 = .pointer (some ⟨b2, 0, none⟩) ∧ w' = w2 ∧ (x.op = 2 ∨ x.op = 3 ∨ x.op = 4) ∧
    S' 8 = if x.op = 4 then .slice a4 s.locals.length c4 else .slice a1 s.vars.length c1) ?_ ?_
  · refine St ?_
    refine K.cond (fun g1 => ?_) (fun g1 => ?_)
    · refine St ?_
      refine K.call (add_r x.n 0 w2) ?_
      rintro _ w3 ⟨rfl, he3⟩
      have hk : Abs.kleaf x s (st.getLastD 0) = if Abs.within x.n then (0, 0) else (0, 10) := by rw [Abs.kleaf, if_pos g1]
      have ht : (Abs.tell (· + ·) x.n 0).2 = Abs.within x.n := by
        unfold Abs.tell
        have : Abs.within 0 = true := rfl
        simp only [Int.add_zero, this, Bool.and_true, Bool.and_self]
        split <;> simp_all
      rw [hk, ht]
      refine St ?_
      refine K.condb (fun g2 => ?_) (fun g2 => ?_)
      all_goals
        refine St ?_
        rw [g2]
        (refine ⟨?_, ?_⟩ <;> first | trivial | rfl | (repeat' first | assumption | exact Ext.refl _ | refine Ext.trans ?_ (by assumption)))
    refine St ?_
    refine K.cond (fun g4 => ?_) (fun g4 => ?_)
    · refine St ?_
      refine ⟨trivial, trivial, trivial, trivial, .inr (.inr g4), by rw [if_pos g4]⟩
    refine St ?_
    refine K.cond (fun g2 => ?_) (fun g2 => ?_)
    · refine St ?_
      refine ⟨trivial, trivial, trivial, trivial, .inl g2, by rw [if_neg g4]⟩
    refine St ?_
    refine K.cond (fun g3 => ?_) (fun g3 => ?_)
    · refine St ?_
      refine ⟨trivial, trivial, trivial, trivial, .inr (.inl g3), by rw [if_neg g4]⟩
    refine St ?_
    refine K.ldAb (c := [_, _]) k1 (Ext.refl _) rfl ?_
    refine St ?_
    refine K.ldAb (c := [_, _, _, _, _, _]) hc2 (Ext.refl _) rfl ?_
    refine St ?_
    refine K.call (knamed_r x _ s w2 hx (h.ext he)) ?_
    rintro _ w3 ⟨rfl, he3⟩
    refine St ?_
    have hk : Abs.kleaf x s (st.getLastD 0) = Abs.knamed x s := by rw [Abs.kleaf, if_neg g1, if_neg (by omega)]
    rw [hk]
    (refine ⟨?_, ?_⟩ <;> first | trivial | rfl | (repeat' first | assumption | exact Ext.refl _ | refine Ext.trans ?_ (by assumption)))
  · rintro S w' hS ⟨s0, s4, s5, rfl, hop, s8⟩
    have hk : Abs.kleaf x s (st.getLastD 0) = (let q := Abs.kvar (if x.op = 4 then s.locals else s.vars) x.n s; if q.2.2 = false then (0, 8) else if (x.op = 3 ∧ (q.2.1 = 0 ∨ st.getLastD 0 ≠ q.2.1)) ∨ (x.op ≠ 3 ∧ q.2.1 ≠ 0) then (0, 9) else (q.1, 0)) := by
      rw [Abs.kleaf, if_neg (by omega), if_pos hop]
    rw [hk]
    clear hk
    have hv : Abs.Vars w' (S 8) (if x.op = 4 then s.locals else s.vars) := by
      rw [s8]; split
      · exact q4.ext he
      · exact q1.ext he
    generalize (if x.op = 4 then s.locals else s.vars) = l at hv ⊢
    obtain ⟨v8, e8⟩ : ∃ v8, S 8 = v8 := ⟨_, rfl⟩
    rw [e8] at hv
    clear s8
    (repeat' first
 | assumption
 | exact Ext.refl _
 | refine Ext.trans ?_ (by assumption)
 | refine K.wrap (by omega) ?_
 | refine K.ldb (by assumption) ?_ rfl ?_
 | refine K.ldb0 (by assumption) ?_ rfl ?_
 | refine K.ldE (by assumption) ?_ (by omega) rfl ?_
 | refine K.ldE0 (by assumption) ?_ (by omega) rfl ?_
 | refine K.ldAE (by assumption) ?_ (by omega) rfl ?_
 | refine K.iaC (by omega) ?_
 | refine K.condT (by first | assumption | omega) ?_
 | refine K.condF (by first | assumption | omega) ?_
 | refine K.condbT (by assumption) ?_
 | refine K.condbF (by assumption) ?_
 | simp -dsimp only [LL,B9,Nat.reduceAdd,Nat.reduceEqDiff,reduceIte,reduceCtorEq,Bool.false_eq_true,s0, s4, s5, e8])
    refine K.ldAb (c := [_, _, _, _, _, _]) hc2 (Ext.refl _) rfl ?_
    (repeat' first
 | assumption
 | exact Ext.refl _
 | refine Ext.trans ?_ (by assumption)
 | refine K.wrap (by omega) ?_
 | refine K.ldb (by assumption) ?_ rfl ?_
 | refine K.ldb0 (by assumption) ?_ rfl ?_
 | refine K.ldE (by assumption) ?_ (by omega) rfl ?_
 | refine K.ldE0 (by assumption) ?_ (by omega) rfl ?_
 | refine K.ldAE (by assumption) ?_ (by omega) rfl ?_
 | refine K.iaC (by omega) ?_
 | refine K.condT (by first | assumption | omega) ?_
 | refine K.condF (by first | assumption | omega) ?_
 | refine K.condbT (by assumption) ?_
 | refine K.condbF (by assumption) ?_
 | simp -dsimp only [LL,B9,Nat.reduceAdd,Nat.reduceEqDiff,reduceIte,reduceCtorEq,Bool.false_eq_true,s0, s4, s5])
    refine K.call (variable_r _ l x.n _ s w' hv (h.ext he)) ?_
    rintro _ w3 ⟨rfl, he3⟩
    generalize Abs.kvar l x.n s = q
    obtain ⟨qk, qo, qi⟩ := q
    (repeat' first
 | assumption
 | exact Ext.refl _
 | refine Ext.trans ?_ (by assumption)
 | refine K.wrap (by omega) ?_
 | refine K.ldb (by assumption) ?_ rfl ?_
 | refine K.ldb0 (by assumption) ?_ rfl ?_
 | refine K.ldE (by assumption) ?_ (by omega) rfl ?_
 | refine K.ldE0 (by assumption) ?_ (by omega) rfl ?_
 | refine K.ldAE (by assumption) ?_ (by omega) rfl ?_
 | refine K.iaC (by omega) ?_
 | refine K.condT (by first | assumption | omega) ?_
 | refine K.condF (by first | assumption | omega) ?_
 | refine K.condbT (by assumption) ?_
 | refine K.condbF (by assumption) ?_
 | simp -dsimp only [LL,B9,Nat.reduceAdd,Nat.reduceEqDiff,reduceIte,reduceCtorEq,Bool.false_eq_true,s0, s4, s5])
    refine K.condb (fun g1 => ?_) (fun g1 => ?_)
    rotate_left
    · refine St ?_
      simp only [g1, if_true]
      (refine ⟨?_, ?_⟩ <;> first | trivial | rfl | (repeat' first | assumption | exact Ext.refl _ | refine Ext.trans ?_ (by assumption)))
    have m3 := (hm.ext he).ext he3
    (repeat' first
 | assumption
 | exact Ext.refl _
 | refine Ext.trans ?_ (by assumption)
 | refine K.wrap (by omega) ?_
 | refine K.ldb (by assumption) ?_ rfl ?_
 | refine K.ldb0 (by assumption) ?_ rfl ?_
 | refine K.ldE (by assumption) ?_ (by omega) rfl ?_
 | refine K.ldE0 (by assumption) ?_ (by omega) rfl ?_
 | refine K.ldAE (by assumption) ?_ (by omega) rfl ?_
 | refine K.iaC (by omega) ?_
 | refine K.condT (by first | assumption | omega) ?_
 | refine K.condF (by first | assumption | omega) ?_
 | refine K.condbT (by assumption) ?_
 | refine K.condbF (by assumption) ?_
 | simp -dsimp only [LL,B9,Nat.reduceAdd,Nat.reduceEqDiff,reduceIte,reduceCtorEq,Bool.false_eq_true,s0, s4, s5])
    refine K.cond (fun g2 => ?_) (fun g2 => ?_)
    · (repeat' first
 | assumption
 | exact Ext.refl _
 | refine Ext.trans ?_ (by assumption)
 | refine K.wrap (by omega) ?_
 | refine K.ldb (by assumption) ?_ rfl ?_
 | refine K.ldb0 (by assumption) ?_ rfl ?_
 | refine K.ldE (by assumption) ?_ (by omega) rfl ?_
 | refine K.ldE0 (by assumption) ?_ (by omega) rfl ?_
 | refine K.ldAE (by assumption) ?_ (by omega) rfl ?_
 | refine K.iaC (by omega) ?_
 | refine K.condT (by first | assumption | omega) ?_
 | refine K.condF (by first | assumption | omega) ?_
 | refine K.condbT (by assumption) ?_
 | refine K.condbF (by assumption) ?_
 | simp -dsimp only [LL,B9,Nat.reduceAdd,Nat.reduceEqDiff,reduceIte,reduceCtorEq,Bool.false_eq_true,s0, s4, s5])
      refine K.cond (fun g3 => ?_) (fun g3 => ?_)
      · (repeat' first
 | assumption
 | exact Ext.refl _
 | refine Ext.trans ?_ (by assumption)
 | refine K.wrap (by omega) ?_
 | refine K.ldb (by assumption) ?_ rfl ?_
 | refine K.ldb0 (by assumption) ?_ rfl ?_
 | refine K.ldE (by assumption) ?_ (by omega) rfl ?_
 | refine K.ldE0 (by assumption) ?_ (by omega) rfl ?_
 | refine K.ldAE (by assumption) ?_ (by omega) rfl ?_
 | refine K.iaC (by omega) ?_
 | refine K.condT (by first | assumption | omega) ?_
 | refine K.condF (by first | assumption | omega) ?_
 | refine K.condbT (by assumption) ?_
 | refine K.condbF (by assumption) ?_
 | simp -dsimp only [LL,B9,Nat.reduceAdd,Nat.reduceEqDiff,reduceIte,reduceCtorEq,Bool.false_eq_true,s0, s4, s5])
        simp only [g1, Bool.true_eq_false, if_false]
        rw [if_pos (.inl ⟨g2, .inl g3⟩)]
        (refine ⟨?_, ?_⟩ <;> first | trivial | rfl | (repeat' first | assumption | exact Ext.refl _ | refine Ext.trans ?_ (by assumption)))
      (repeat' first
 | assumption
 | exact Ext.refl _
 | refine Ext.trans ?_ (by assumption)
 | refine K.wrap (by omega) ?_
 | refine K.ldb (by assumption) ?_ rfl ?_
 | refine K.ldb0 (by assumption) ?_ rfl ?_
 | refine K.ldE (by assumption) ?_ (by omega) rfl ?_
 | refine K.ldE0 (by assumption) ?_ (by omega) rfl ?_
 | refine K.ldAE (by assumption) ?_ (by omega) rfl ?_
 | refine K.iaC (by omega) ?_
 | refine K.condT (by first | assumption | omega) ?_
 | refine K.condF (by first | assumption | omega) ?_
 | refine K.condbT (by assumption) ?_
 | refine K.condbF (by assumption) ?_
 | simp -dsimp only [LL,B9,Nat.reduceAdd,Nat.reduceEqDiff,reduceIte,reduceCtorEq,Bool.false_eq_true,s0, s4, s5])
      refine K.call (top_r base b w3 m st m3 (h3 g2)) ?_
      rintro _ w4 ⟨rfl, he4⟩
      (repeat' first
 | assumption
 | exact Ext.refl _
 | refine Ext.trans ?_ (by assumption)
 | refine K.wrap (by omega) ?_
 | refine K.ldb (by assumption) ?_ rfl ?_
 | refine K.ldb0 (by assumption) ?_ rfl ?_
 | refine K.ldE (by assumption) ?_ (by omega) rfl ?_
 | refine K.ldE0 (by assumption) ?_ (by omega) rfl ?_
 | refine K.ldAE (by assumption) ?_ (by omega) rfl ?_
 | refine K.iaC (by omega) ?_
 | refine K.condT (by first | assumption | omega) ?_
 | refine K.condF (by first | assumption | omega) ?_
 | refine K.condbT (by assumption) ?_
 | refine K.condbF (by assumption) ?_
 | simp -dsimp only [LL,B9,Nat.reduceAdd,Nat.reduceEqDiff,reduceIte,reduceCtorEq,Bool.false_eq_true,s0, s4, s5])
      refine K.cond (fun g4 => ?_) (fun g4 => ?_)
      · (repeat' first
 | assumption
 | exact Ext.refl _
 | refine Ext.trans ?_ (by assumption)
 | refine K.wrap (by omega) ?_
 | refine K.ldb (by assumption) ?_ rfl ?_
 | refine K.ldb0 (by assumption) ?_ rfl ?_
 | refine K.ldE (by assumption) ?_ (by omega) rfl ?_
 | refine K.ldE0 (by assumption) ?_ (by omega) rfl ?_
 | refine K.ldAE (by assumption) ?_ (by omega) rfl ?_
 | refine K.iaC (by omega) ?_
 | refine K.condT (by first | assumption | omega) ?_
 | refine K.condF (by first | assumption | omega) ?_
 | refine K.condbT (by assumption) ?_
 | refine K.condbF (by assumption) ?_
 | simp -dsimp only [LL,B9,Nat.reduceAdd,Nat.reduceEqDiff,reduceIte,reduceCtorEq,Bool.false_eq_true,s0, s4, s5])
        simp only [g1, Bool.true_eq_false, if_false]
        rw [if_neg (by omega)]
        (refine ⟨?_, ?_⟩ <;> first | trivial | rfl | (repeat' first | assumption | exact Ext.refl _ | refine Ext.trans ?_ (by assumption)))
      · refine St ?_
        simp only [g1, Bool.true_eq_false, if_false]
        rw [if_pos (.inl ⟨g2, .inr g4⟩)]
        (refine ⟨?_, ?_⟩ <;> first | trivial | rfl | (repeat' first | assumption | exact Ext.refl _ | refine Ext.trans ?_ (by assumption)))
    · (repeat' first
 | assumption
 | exact Ext.refl _
 | refine Ext.trans ?_ (by assumption)
 | refine K.wrap (by omega) ?_
 | refine K.ldb (by assumption) ?_ rfl ?_
 | refine K.ldb0 (by assumption) ?_ rfl ?_
 | refine K.ldE (by assumption) ?_ (by omega) rfl ?_
 | refine K.ldE0 (by assumption) ?_ (by omega) rfl ?_
 | refine K.ldAE (by assumption) ?_ (by omega) rfl ?_
 | refine K.iaC (by omega) ?_
 | refine K.condT (by first | assumption | omega) ?_
 | refine K.condF (by first | assumption | omega) ?_
 | refine K.condbT (by assumption) ?_
 | refine K.condbF (by assumption) ?_
 | simp -dsimp only [LL,B9,Nat.reduceAdd,Nat.reduceEqDiff,reduceIte,reduceCtorEq,Bool.false_eq_true,s0, s4, s5])
      refine K.cond (fun g4 => ?_) (fun g4 => ?_)
      all_goals
        refine St ?_
        simp only [g1, Bool.true_eq_false, if_false]
      · rw [if_neg (by omega)]
        (refine ⟨?_, ?_⟩ <;> first | trivial | rfl | (repeat' first | assumption | exact Ext.refl _ | refine Ext.trans ?_ (by assumption)))
      · rw [if_pos (.inr ⟨g2, g4⟩)]
        (refine ⟨?_, ?_⟩ <;> first | trivial | rfl | (repeat' first | assumption | exact Ext.refl _ | refine Ext.trans ?_ (by assumption)))
end Go.Proofs.YtbbaokmelkiemaaGreatDoor
end
