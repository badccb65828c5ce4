/- Plain: expressions: kinds, values. No program in sight. -/
import Derived.Test.YteaboocppcbkiaaRep2
set_option linter.all false
namespace Abs
open Go
structure Scope where
  scalars : List Scalar
  vars : List Var
  chans : List Chan
  procs : List Proc
  locals : List Var
  self : Int
structure Env where
  vars : List (List Int)
  lens : List Int
  locals : List Int
  at_ : List (List Int)
  self : Int
/-- The n-th, if it is there. -/
def nth {α : Type} (l : List α) (n : Int) : Option α := if 0 ≤ n then l[n.toNat]? else none
theorem nth_some {α : Type} {l : List α} {n : Int} (h : 0 ≤ n) (h2 : n < l.length) : nth l n = some (l[n.toNat]'(by omega)) := by
  unfold nth; rw [if_pos h, List.getElem?_eq_getElem]
theorem nth_none {α : Type} {l : List α} {n : Int} (h : n < 0 ∨ (l.length : Int) ≤ n) : nth l n = none := by
  unfold nth
  split
  · rw [List.getElem?_eq_none (by omega)]
  · rfl
def within (n : Int) : Bool := decide (-1048576 ≤ n ∧ n ≤ 1048576)
/-- Two numbers within bounds, if what comes of them is, too. -/
def tell (f : Int → Int → Int) (a b : Int) : Int × Bool := if within a && within b && within (f a b) then (f a b, true) else (0, false)
def bit (b : Bool) : Int := if b then 1 else 0
/-- How many parts an operation takes; -1: it is none. -/
def nparts (op : Int) : Int := if op = 3 then 1 else if 1 ≤ op ∧ op ≤ 8 then 0 else if op = 9 ∨ op = 10 then 1 else if 11 ≤ op ∧ op ≤ 19 then 2 else -1
def isOp (op : Int) : Bool := decide (9 ≤ op ∧ op ≤ 19)
/-- An operation with parts. -/
structure OpD where
  parts : Int
  takes : Int
  makes : Int
  does : Int → Int → Int × Bool
def sayD (takes : Int) (p : Int → Int → Bool) : OpD := ⟨2, takes, 1, fun a b => (bit (p a b), true)⟩
def opOf (x : Int) : Option OpD :=
  if x = 9 then some ⟨1, 1, 1, fun a _ => (bit (decide (a = 0)), true)⟩
  else if x = 10 then some ⟨1, 0, 0, fun a _ => tell (· - ·) 0 a⟩
  else if x = 11 then some ⟨2, 0, 0, tell (· + ·)⟩
  else if x = 12 then some ⟨2, 0, 0, tell (· - ·)⟩
  else if x = 13 then some ⟨2, 0, 0, tell (· * ·)⟩
  else if x = 14 then some (sayD (-1) fun a b => decide (a = b))
  else if x = 15 then some (sayD (-1) fun a b => !decide (a = b))
  else if x = 16 then some (sayD 0 fun a b => decide (a < b))
  else if x = 17 then some (sayD 0 fun a b => decide (a ≤ b))
  else if x = 18 then some (sayD 1 fun a b => !decide (a = 0) && !decide (b = 0))
  else if x = 19 then some (sayD 1 fun a b => !decide (a = 0) || !decide (b = 0))
  else none
theorem opOf_none {x : Int} (h : isOp x = false) : opOf x = none := by
  have h' : ¬ (9 ≤ x ∧ x ≤ 19) := by simpa [isOp] using h
  unfold opOf
  repeat rw [if_neg (by omega)]
theorem opOf_parts {x : Int} {o : OpD} (h : opOf x = some o) : o.parts = nparts x ∧ isOp x = true := by
  unfold opOf at h
  repeat' split at h
  all_goals first | (cases h; subst_vars; decide) | cases h
/-- One node worked off. -/
def stepG (f : Node → List Int → Int × Int) (x : Node) (st : List Int) : Int × List Int :=
  if nparts x.op < 0 then (3, st) else if (st.length : Int) < nparts x.op then (4, st)
  else if (f x st).2 ≠ 0 then ((f x st).2, st)
  else if (st.take (st.length - (nparts x.op).toNat) ++ [(f x st).1]).length > 12 then (12, st) else (0, st.take (st.length - (nparts x.op).toNat) ++ [(f x st).1])
def runL (f : Node → List Int → Int × Int) : List Node → List Int → Int × List Int
  | [], st => (0, st)
  | x :: r, st => if (stepG f x st).1 ≠ 0 then stepG f x st else runL f r (stepG f x st).2
def runE (f : Node → List Int → Int × Int) (e : List Node) : Int × Int :=
  if e.length > 24 then (0, 5) else if e.length = 0 then (0, 4)
  else if (runL f e []).1 ≠ 0 then (0, (runL f e []).1) else if (runL f e []).2.length > 1 then (0, 5) else ((runL f e []).2.headD 0, 0)
theorem runL_app (f : Node → List Int → Int × Int) : ∀ (a b : List Node) (st : List Int), runL f (a ++ b) st = if (runL f a st).1 ≠ 0 then runL f a st else runL f b (runL f a st).2
  | [], b, st => by simp [runL]
  | x :: a, b, st => by
    simp only [List.cons_append, runL]
    by_cases h : (stepG f x st).1 = 0
    · simp only [h, ne_eq, not_true_eq_false, if_false]; exact runL_app f a b _
    · simp [h]
theorem runL_step {f : Node → List Int → Int × Int} {e : List Node} {k : Nat} {st : List Int} (hk : k < e.length) (h : runL f (e.take k) [] = (0, st)) : runL f (e.take (k + 1)) [] = stepG f e[k] st := by
  rw [List.take_succ_eq_append_getElem hk, runL_app, h]
  simp only [ne_eq, not_true_eq_false, if_false, runL]
  split
  · rfl
  · rename_i h2; simp at h2; exact Prod.ext h2.symm rfl
theorem runL_stop {f : Node → List Int → Int × Int} {e : List Node} {k : Nat} {q : Int × List Int} (h : runL f (e.take k) [] = q) (h0 : q.1 ≠ 0) : runL f e [] = q := by
  have := runL_app f (e.take k) (e.drop k) []
  rw [List.take_append_drop, h, if_pos h0] at this
  exact this
theorem runE_err {f : Node → List Int → Int × Int} {e : List Node} (h24 : e.length ≤ 24) {k : Nat} (hk : k < e.length) {st : List Int} (h : runL f (e.take k) [] = (0, st)) (h0 : (stepG f e[k] st).1 ≠ 0) : runE f e = (0, (stepG f e[k] st).1) := by
  have h2 := runL_step hk h
  have h3 := runL_stop h2 h0
  unfold runE
  rw [if_neg (by omega), if_neg (by omega), h3, if_pos h0]
theorem step_len {f : Node → List Int → Int × Int} {x : Node} {st : List Int} (h : (stepG f x st).1 = 0) : 1 ≤ (stepG f x st).2.length ∧ (stepG f x st).2.length ≤ 12 := by
  unfold stepG at h ⊢
  repeat' split
  all_goals simp_all
/-- What nodes that are worked off alike give is alike. -/
theorem step_congr {f g : Node → List Int → Int × Int} {x : Node} {st : List Int} (h : 0 ≤ nparts x.op → nparts x.op ≤ st.length → (f x st).2 = (g x st).2 ∧ ((f x st).2 = 0 → (f x st).1 = (g x st).1)) : stepG f x st = stepG g x st := by
  unfold stepG
  split
  · rfl
  · split
    · rfl
    · obtain ⟨h1, h2⟩ := h (by omega) (by omega)
      rw [← h1]
      split
      · rfl
      · rename_i h3; simp at h3; rw [h2 h3]
theorem runL_congr {f g : Node → List Int → Int × Int} (h : ∀ x st, 0 ≤ nparts x.op → nparts x.op ≤ st.length → (f x st).2 = (g x st).2 ∧ ((f x st).2 = 0 → (f x st).1 = (g x st).1)) : ∀ e st, runL f e st = runL g e st
  | [], st => rfl
  | x :: e, st => by
    simp only [runL]
    rw [step_congr (h x st)]
    split
    · rfl
    · exact runL_congr h e _
theorem runE_congr {f g : Node → List Int → Int × Int} (h : ∀ x st, 0 ≤ nparts x.op → nparts x.op ≤ st.length → (f x st).2 = (g x st).2 ∧ ((f x st).2 = 0 → (f x st).1 = (g x st).1)) (e : List Node) : runE f e = runE g e := by
  unfold runE; rw [runL_congr h]

/-! ### Kinds -/
def kscalar (n : Int) (s : Scope) : Int × Bool := if n = 0 then (0, true) else if n < 0 ∨ (s.scalars.length : Int) < n then (0, false) else (1 + n, true)
def kvar (l : List Var) (n : Int) (s : Scope) : Int × Int × Bool :=
  match nth l n with
  | some v => ((kscalar v.scalar s).1, (kscalar v.over s).1, (kscalar v.scalar s).2 && (kscalar v.over s).2)
  | none => (0, 0, false)
def kLen (n : Int) (s : Scope) : Int × Int := match nth s.chans n with | some c => if (kscalar c.scalar s).2 then (0, 0) else (0, 8) | none => (0, 8)
def kAt (n : Int) (s : Scope) : Int × Int := if 0 ≤ n then (match nth s.procs (n.tdiv 16) with | some p => if n.tmod 16 < p.locs then (0, 0) else (0, 8) | none => (0, 8)) else (0, 8)
def knamed (x : Node) (s : Scope) : Int × Int :=
  if x.op = 5 then (if 1 ≤ s.self ∧ s.self ≤ s.scalars.length then (1 + s.self, 0) else (0, 8))
  else if x.op = 6 then kLen x.n s
  else if x.op = 7 then kAt x.n s
  else if x.op = 8 then (if 0 ≤ x.n ∧ x.n < s.scalars.length then (2 + x.n, 0) else (0, 8))
  else (0, 8)
/-- The kind of a leaf or an item, with what stands on top. -/
def kleaf (x : Node) (s : Scope) (top : Int) : Int × Int :=
  if x.op = 1 then (if within x.n then (0, 0) else (0, 10))
  else if x.op = 2 ∨ x.op = 3 ∨ x.op = 4 then
    (let q := kvar (if x.op = 4 then s.locals else s.vars) x.n s
     if q.2.2 = false then (0, 8) else if (x.op = 3 ∧ (q.2.1 = 0 ∨ top ≠ q.2.1)) ∨ (x.op ≠ 3 ∧ q.2.1 ≠ 0) then (0, 9) else (q.1, 0))
  else knamed x s
/-- The kind that an operation makes of kinds. -/
def ktwo (o : OpD) (l : List Int) : Int × Int := if l.all (fun k => (decide (o.takes = -1) || decide (k = o.takes)) && decide (k = l.headD 0)) then (o.makes, 0) else (0, 9)
def fKind (s : Scope) (x : Node) (st : List Int) : Int × Int :=
  match opOf x.op with
  | some o => ktwo o (st.drop (st.length - o.parts.toNat))
  | none => kleaf x s (st.getLastD 0)
def kind (e : List Node) (s : Scope) : Int × Int := runE (fKind s) e
/-! ### Values -/
def vat (l : List Int) (n : Int) : Int × Int := match nth l n with | some x => (x, 0) | none => (0, 8)
def vleaf (x : Node) (v : Env) (top : Int) : Int × Int :=
  if x.op = 1 then (if within x.n then (x.n, 0) else (0, 10))
  else if x.op = 2 then (match nth v.vars x.n with | some l => vat l 0 | none => (0, 8))
  else if x.op = 3 then (match nth v.vars x.n with | some l => (match nth l (top - 1) with | some y => (y, 0) | none => (0, 10)) | none => (0, 8))
  else if x.op = 4 then vat v.locals x.n
  else if x.op = 6 then vat v.lens x.n
  else if x.op = 5 then (v.self, 0)
  else if x.op = 7 then (if 0 ≤ x.n then (match nth v.at_ (x.n.tdiv 16) with | some l => vat l (x.n.tmod 16) | none => (0, 8)) else (0, 8))
  else (0, 0)
def vtwo (o : OpD) (l : List Int) : Int × Int := let r := o.does (l.headD 0) (l.getLastD 0); if r.2 then (r.1, 0) else (0, 10)
def fEval (v : Env) (x : Node) (st : List Int) : Int × Int :=
  match opOf x.op with
  | some o => vtwo o (st.drop (st.length - o.parts.toNat))
  | none => vleaf x v (st.getLastD 0)
def eval (e : List Node) (v : Env) : Int × Int := runE (fEval v) e
end Abs
