/- Plain: commands. No program in sight. -/
import Derived.Test.YteaboocppcbkiaaDoorExprP
set_option linter.all false
namespace Abs
open Go
def thing (scalar over : Int) (s : Scope) : Int × Bool :=
  if scalar < 0 ∨ (s.scalars.length : Int) < scalar ∨ over < 0 ∨ (s.scalars.length : Int) < over then (0, false) else if scalar = 0 then (0, true) else (1 + scalar, true)
theorem thing_false {a b : Int} {s : Scope} (h : (thing a b s).2 = false) : (thing a b s).1 = 0 := by
  unfold thing at h ⊢
  by_cases q : a < 0 ∨ (s.scalars.length : Int) < a ∨ b < 0 ∨ (s.scalars.length : Int) < b
  · rw [if_pos q]
  · rw [if_neg q] at h
    by_cases q2 : a = 0
    · rw [if_pos q2] at h; cases h
    · rw [if_neg q2] at h; cases h
def declared (l : List Var) (n : Int) (s : Scope) : Option (Var × Int) :=
  match nth l n with
  | some v => if (thing v.scalar v.over s).2 then some (v, (thing v.scalar v.over s).1) else none
  | none => none
theorem declared_over {l : List Var} {n : Int} {s : Scope} {q : Var × Int} (h : declared l n s = some q) : 0 ≤ q.1.over ∧ q.1.over ≤ s.scalars.length := by
  unfold declared at h
  cases hn : nth l n with
  | none => rw [hn] at h; cases h
  | some v =>
    rw [hn] at h
    simp only at h
    by_cases ht : (thing v.scalar v.over s).2 = true
    · rw [if_pos ht] at h
      unfold thing at ht
      by_cases q1 : v.scalar < 0 ∨ (s.scalars.length : Int) < v.scalar ∨ v.over < 0 ∨ (s.scalars.length : Int) < v.over
      · rw [if_pos q1] at ht; cases ht
      · injection h with h
        subst h
        simp only
        omega
    · rw [if_neg ht] at h; cases h
def channel (n : Int) (s : Scope) : Option Int :=
  match nth s.chans n with
  | some c => if (thing c.scalar 0 s).2 then some (thing c.scalar 0 s).1 else none
  | none => none
def asked (e : List Node) (k : Int) (s : Scope) : Int := if (kind e s).2 ≠ 0 then (kind e s).2 else if (kind e s).1 ≠ k then 9 else 0
def talks (a : Act) : Bool := decide (a.kind = 4 ∨ a.kind = 5)
def receives (a : Act) (k : Int) (s : Scope) : Int := match declared s.locals a.loc s with | some (v, k') => if v.over ≠ 0 ∨ k' ≠ k then 9 else 0 | none => 8
def actE (a : Act) (s : Scope) : Int :=
  if a.kind = 1 ∨ a.kind = 2 ∨ a.kind = 3 then
    match declared (if a.kind = 3 then s.locals else s.vars) a.to s with
    | none => 8
    | some (v, k) =>
      if (v.over ≠ 0) ≠ (a.kind = 2) then 9
      else if a.kind = 2 ∧ asked a.index (1 + v.over) s ≠ 0 then asked a.index (1 + v.over) s
      else asked a.value k s
  else if a.kind = 4 ∨ a.kind = 5 then
    match channel a.to s with
    | none => 8
    | some k => if a.kind = 5 then receives a k s else asked a.value k s
  else 3
def head (c : Cmd) (locs : Int) : Int :=
  if isName c.name = false then 6 else if c.from_ < 0 ∨ locs ≤ c.from_ ∨ c.to < 0 ∨ locs ≤ c.to then 10 else if c.acts.length > 6 then 11 else 0
def actsE (s : Scope) : List Act → Nat → Bool → Int × Int
  | [], _, _ => (0, 0)
  | a :: r, i, t => if talks a && t then (2 + i, 7) else if actE a s ≠ 0 then (2 + i, actE a s) else actsE s r (i + 1) (t || talks a)
def cmdCheck (c : Cmd) (locs : Int) (s : Scope) : Int × Int :=
  if head c locs ≠ 0 then (0, head c locs) else if c.guard.length > 0 ∧ asked c.guard 1 s ≠ 0 then (1, asked c.guard 1 s) else actsE s c.acts 0 false
def comm : List Act → Int × Int
  | [] => (0, 0)
  | a :: r => if talks a then (a.kind, a.to) else comm r
def ways (c : Cmd) (l : List Chan) : Int := if (comm c.acts).1 = 4 then (match nth l (comm c.acts).2 with | some x => if x.lossy then 2 else 1 | none => 1) else 1
end Abs
