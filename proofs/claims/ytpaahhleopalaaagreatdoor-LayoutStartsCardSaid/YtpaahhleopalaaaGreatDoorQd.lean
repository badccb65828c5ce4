/- Texts joined: Rep2 ExprP CmdP ProcP LiteC. -/
import Derived.Test.YtpaahhleopalaaaGreatDoorQc
set_option linter.all false
section
/- How models lie in memory. -/
namespace Abs
open Go Go.RowKit Lite
structure Node where
  op : Int
  n : Int
structure Act where
  kind : Int
  to : Int
  loc : Int
  index : List Node
  value : List Node
structure Cmd where
  name : ByteArray
  from_ : Int
  to : Int
  guard : List Node
  acts : List Act
  fair : Bool
structure Proc where
  name : ByteArray
  over : Int
  locs : Int
  vars : List Var
  cmds : List Cmd
structure Prp where
  name : ByteArray
  expr : List Node
structure Model where
  scalars : List Scalar
  vars : List Var
  chans : List Chan
  procs : List Proc
  props : List Prp
structure Inst where
  proc : Int
  elem : Int
deriving DecidableEq
structure Ref where
  inst : Int
  cmd : Int
deriving DecidableEq
def Inst.enc (x : Inst) : List Value := [.int .i64 x.proc, .int .i64 x.elem]
def Ref.enc (x : Ref) : List Value := [.int .i64 x.inst, .int .i64 x.cmd]
def Node.enc (x : Node) : List Value := [.int .i64 x.op, .int .i64 x.n]
/-- A number that a machine's word holds. -/
def inI (n : Int) : Prop := -9223372036854775808 ≤ n ∧ n ≤ 9223372036854775807
structure Node.ok (x : Node) : Prop where
  op : inI x.op
  n : inI x.n
structure RNode (w : World) (a : Addr) (x : Node) : Prop where
  cells : CellsAt w a x.enc
  ok : x.ok
theorem RNode.ext (w w' : World) (a : Addr) (x : Node) (he : Ext w w') (h : RNode w a x) : RNode w' a x := ⟨h.cells.ext he, h.ok⟩
abbrev Nodes (w : World) (v : Value) (l : List Node) : Prop := SlR 2 RNode w v l
theorem Nodes.ext {w w' : World} {v : Value} {l : List Node} (he : Ext w w') (h : Nodes w v l) : Nodes w' v l := SlR.ext RNode.ext he h
/-- The cells of an action: the slots of its lists are as they are. -/
def Act.enc (x : Act) (vi vv : Value) : List Value := [.int .i64 x.kind, .int .i64 x.to, .int .i64 x.loc, vi, vv]
def RAct (w : World) (a : Addr) (x : Act) : Prop := ∃ vi vv, CellsAt w a (x.enc vi vv) ∧ Nodes w vi x.index ∧ Nodes w vv x.value
theorem RAct.ext (w w' : World) (a : Addr) (x : Act) (he : Ext w w') (h : RAct w a x) : RAct w' a x := let ⟨vi, vv, h1, h2, h3⟩ := h; ⟨vi, vv, h1.ext he, h2.ext he, h3.ext he⟩
abbrev Acts (w : World) (v : Value) (l : List Act) : Prop := SlR 5 RAct w v l
theorem Acts.ext {w w' : World} {v : Value} {l : List Act} (he : Ext w w') (h : Acts w v l) : Acts w' v l := SlR.ext RAct.ext he h
def Cmd.enc (x : Cmd) (vg va : Value) : List Value := [.string x.name, .int .i64 x.from_, .int .i64 x.to, vg, va, .bool x.fair]
def RCmd (w : World) (a : Addr) (x : Cmd) : Prop := strOk x.name ∧ ∃ vg va, CellsAt w a (x.enc vg va) ∧ Nodes w vg x.guard ∧ Acts w va x.acts
theorem RCmd.ext (w w' : World) (a : Addr) (x : Cmd) (he : Ext w w') (h : RCmd w a x) : RCmd w' a x := let ⟨h0, vi, vv, h1, h2, h3⟩ := h; ⟨h0, vi, vv, h1.ext he, h2.ext he, h3.ext he⟩
abbrev Cmds (w : World) (v : Value) (l : List Cmd) : Prop := SlR 6 RCmd w v l
theorem Cmds.ext {w w' : World} {v : Value} {l : List Cmd} (he : Ext w w') (h : Cmds w v l) : Cmds w' v l := SlR.ext RCmd.ext he h
theorem Scalars.ext {w w' : World} {v : Value} {l : List Scalar} (he : Ext w w') (h : Scalars w v l) : Scalars w' v l := SlR.ext RScalar.ext he h
theorem Vars.ext {w w' : World} {v : Value} {l : List Var} (he : Ext w w') (h : Vars w v l) : Vars w' v l := SlR.ext RVar.ext he h
theorem Chans.ext {w w' : World} {v : Value} {l : List Chan} (he : Ext w w') (h : Chans w v l) : Chans w' v l := SlR.ext RChan.ext he h
def Proc.enc (x : Proc) (vv vc : Value) : List Value := [.string x.name, .int .i64 x.over, .int .i64 x.locs, vv, vc]
def RProc (w : World) (a : Addr) (x : Proc) : Prop := strOk x.name ∧ ∃ vv vc, CellsAt w a (x.enc vv vc) ∧ Vars w vv x.vars ∧ Cmds w vc x.cmds
theorem RProc.ext (w w' : World) (a : Addr) (x : Proc) (he : Ext w w') (h : RProc w a x) : RProc w' a x := let ⟨h0, vi, vv, h1, h2, h3⟩ := h; ⟨h0, vi, vv, h1.ext he, h2.ext he, h3.ext he⟩
abbrev Procs (w : World) (v : Value) (l : List Proc) : Prop := SlR 5 RProc w v l
theorem Procs.ext {w w' : World} {v : Value} {l : List Proc} (he : Ext w w') (h : Procs w v l) : Procs w' v l := SlR.ext RProc.ext he h
def CmdIs (w : World) (cs : List Value) (c : Cmd) : Prop := strOk c.name ∧ ∃ vg va, cs = c.enc vg va ∧ Nodes w vg c.guard ∧ Acts w va c.acts
theorem CmdIs.ext {w w' : World} {cs : List Value} {c : Cmd} (he : Ext w w') (h : CmdIs w cs c) : CmdIs w' cs c := let ⟨h0, vi, vv, h1, h2, h3⟩ := h; ⟨h0, vi, vv, h1, h2.ext he, h3.ext he⟩
def ProcIs (w : World) (cs : List Value) (p : Proc) : Prop := strOk p.name ∧ ∃ vv vc, cs = p.enc vv vc ∧ Vars w vv p.vars ∧ Cmds w vc p.cmds
theorem ProcIs.ext {w w' : World} {cs : List Value} {p : Proc} (he : Ext w w') (h : ProcIs w cs p) : ProcIs w' cs p := let ⟨h0, vi, vv, h1, h2, h3⟩ := h; ⟨h0, vi, vv, h1, h2.ext he, h3.ext he⟩
def Prp.enc (x : Prp) (ve : Value) : List Value := [.string x.name, ve]
def RPrp (w : World) (a : Addr) (x : Prp) : Prop := strOk x.name ∧ ∃ ve, CellsAt w a (x.enc ve) ∧ Nodes w ve x.expr
theorem RPrp.ext (w w' : World) (a : Addr) (x : Prp) (he : Ext w w') (h : RPrp w a x) : RPrp w' a x := let ⟨h0, vi, h1, h2⟩ := h; ⟨h0, vi, h1.ext he, h2.ext he⟩
abbrev Prps (w : World) (v : Value) (l : List Prp) : Prop := SlR 2 RPrp w v l
theorem Prps.ext {w w' : World} {v : Value} {l : List Prp} (he : Ext w w') (h : Prps w v l) : Prps w' v l := SlR.ext RPrp.ext he h
/-- The five cells of a model. -/
structure ModelIs (w : World) (cs : List Value) (m : Model) : Prop where
  ex : ∃ v0 v1 v2 v3 v4, cs = [v0, v1, v2, v3, v4] ∧ Scalars w v0 m.scalars ∧ Vars w v1 m.vars ∧ Chans w v2 m.chans ∧ Procs w v3 m.procs ∧ Prps w v4 m.props
theorem ModelIs.ext {w w' : World} {cs : List Value} {m : Model} (he : Ext w w') (h : ModelIs w cs m) : ModelIs w' cs m :=
  let ⟨v0, v1, v2, v3, v4, e, h0, h1, h2, h3, h4⟩ := h.ex
  ⟨v0, v1, v2, v3, v4, e, h0.ext he, h1.ext he, h2.ext he, h3.ext he, h4.ext he⟩
instance instCelNode : Cel RNode Node.enc := ⟨fun _ _ _ h => h.cells⟩
instance instCelScalar : Cel RScalar Scalar.enc := ⟨fun _ _ _ h => h.cells⟩
instance instCelVar : Cel RVar Var.enc := ⟨fun _ _ _ h => h.cells⟩
instance instCelChan : Cel RChan Chan.enc := ⟨fun _ _ _ h => h.cells⟩
end Abs
end
section
/- Plain: expressions: kinds, values. No program in sight. -/
namespace Abs
open Go
structure Scope where
  scalars : List Scalar
  vars : List Var
  chans : List Chan
  procs : List Proc
  locals : List Var
  self : Int
structure Env where
  vars : List (List Int)
  lens : List Int
  locals : List Int
  at_ : List (List Int)
  self : Int
/-- The n-th, if it is there. -/
def nth {α : Type} (l : List α) (n : Int) : Option α := if 0 ≤ n then l[n.toNat]? else none
theorem nth_some {α : Type} {l : List α} {n : Int} (h : 0 ≤ n) (h2 : n < l.length) : nth l n = some (l[n.toNat]'(by omega)) := by
  unfold nth; rw [if_pos h, List.getElem?_eq_getElem]
theorem nth_none {α : Type} {l : List α} {n : Int} (h : n < 0 ∨ (l.length : Int) ≤ n) : nth l n = none := by
  unfold nth
  split
  · rw [List.getElem?_eq_none (by omega)]
  · rfl
def within (n : Int) : Bool := decide (-1048576 ≤ n ∧ n ≤ 1048576)
/-- Two numbers within bounds, if what comes of them is, too. -/
def tell (f : Int → Int → Int) (a b : Int) : Int × Bool := if within a && within b && within (f a b) then (f a b, true) else (0, false)
def bit (b : Bool) : Int := if b then 1 else 0
/-- How many parts an operation takes; -1: it is none. -/
def nparts (op : Int) : Int := if op = 3 then 1 else if 1 ≤ op ∧ op ≤ 8 then 0 else if op = 9 ∨ op = 10 then 1 else if 11 ≤ op ∧ op ≤ 19 then 2 else -1
def isOp (op : Int) : Bool := decide (9 ≤ op ∧ op ≤ 19)
/-- An operation with parts. -/
structure OpD where
  parts : Int
  takes : Int
  makes : Int
  does : Int → Int → Int × Bool
def sayD (takes : Int) (p : Int → Int → Bool) : OpD := ⟨2, takes, 1, fun a b => (bit (p a b), true)⟩
def opOf (x : Int) : Option OpD :=
  if x = 9 then some ⟨1, 1, 1, fun a _ => (bit (decide (a = 0)), true)⟩
  else if x = 10 then some ⟨1, 0, 0, fun a _ => tell (· - ·) 0 a⟩
  else if x = 11 then some ⟨2, 0, 0, tell (· + ·)⟩
  else if x = 12 then some ⟨2, 0, 0, tell (· - ·)⟩
  else if x = 13 then some ⟨2, 0, 0, tell (· * ·)⟩
  else if x = 14 then some (sayD (-1) fun a b => decide (a = b))
  else if x = 15 then some (sayD (-1) fun a b => !decide (a = b))
  else if x = 16 then some (sayD 0 fun a b => decide (a < b))
  else if x = 17 then some (sayD 0 fun a b => decide (a ≤ b))
  else if x = 18 then some (sayD 1 fun a b => !decide (a = 0) && !decide (b = 0))
  else if x = 19 then some (sayD 1 fun a b => !decide (a = 0) || !decide (b = 0))
  else none
theorem opOf_none {x : Int} (h : isOp x = false) : opOf x = none := by
  have h' : ¬ (9 ≤ x ∧ x ≤ 19) := by simpa [isOp] using h
  unfold opOf
  repeat rw [if_neg (by omega)]
theorem opOf_parts {x : Int} {o : OpD} (h : opOf x = some o) : o.parts = nparts x ∧ isOp x = true := by
  unfold opOf at h
  repeat' split at h
  all_goals first | (cases h; subst_vars; decide) | cases h
/-- One node worked off. -/
def stepG (f : Node → List Int → Int × Int) (x : Node) (st : List Int) : Int × List Int :=
  if nparts x.op < 0 then (3, st) else if (st.length : Int) < nparts x.op then (4, st)
  else if (f x st).2 ≠ 0 then ((f x st).2, st)
  else if (st.take (st.length - (nparts x.op).toNat) ++ [(f x st).1]).length > 12 then (12, st) else (0, st.take (st.length - (nparts x.op).toNat) ++ [(f x st).1])
def runL (f : Node → List Int → Int × Int) : List Node → List Int → Int × List Int
  | [], st => (0, st)
  | x :: r, st => if (stepG f x st).1 ≠ 0 then stepG f x st else runL f r (stepG f x st).2
def runE (f : Node → List Int → Int × Int) (e : List Node) : Int × Int :=
  if e.length > 24 then (0, 5) else if e.length = 0 then (0, 4)
  else if (runL f e []).1 ≠ 0 then (0, (runL f e []).1) else if (runL f e []).2.length > 1 then (0, 5) else ((runL f e []).2.headD 0, 0)
theorem runL_app (f : Node → List Int → Int × Int) : ∀ (a b : List Node) (st : List Int), runL f (a ++ b) st = if (runL f a st).1 ≠ 0 then runL f a st else runL f b (runL f a st).2
  | [], b, st => by simp [runL]
  | x :: a, b, st => by
    simp only [List.cons_append, runL]
    by_cases h : (stepG f x st).1 = 0
    · simp only [h, ne_eq, not_true_eq_false, if_false]; exact runL_app f a b _
    · simp [h]
theorem runL_step {f : Node → List Int → Int × Int} {e : List Node} {k : Nat} {st : List Int} (hk : k < e.length) (h : runL f (e.take k) [] = (0, st)) : runL f (e.take (k + 1)) [] = stepG f e[k] st := by
  rw [List.take_succ_eq_append_getElem hk, runL_app, h]
  simp only [ne_eq, not_true_eq_false, if_false, runL]
  split
  · rfl
  · rename_i h2; simp at h2; exact Prod.ext h2.symm rfl
theorem runL_stop {f : Node → List Int → Int × Int} {e : List Node} {k : Nat} {q : Int × List Int} (h : runL f (e.take k) [] = q) (h0 : q.1 ≠ 0) : runL f e [] = q := by
  have := runL_app f (e.take k) (e.drop k) []
  rw [List.take_append_drop, h, if_pos h0] at this
  exact this
theorem runE_err {f : Node → List Int → Int × Int} {e : List Node} (h24 : e.length ≤ 24) {k : Nat} (hk : k < e.length) {st : List Int} (h : runL f (e.take k) [] = (0, st)) (h0 : (stepG f e[k] st).1 ≠ 0) : runE f e = (0, (stepG f e[k] st).1) := by
  have h2 := runL_step hk h
  have h3 := runL_stop h2 h0
  unfold runE
  rw [if_neg (by omega), if_neg (by omega), h3, if_pos h0]
theorem step_len {f : Node → List Int → Int × Int} {x : Node} {st : List Int} (h : (stepG f x st).1 = 0) : 1 ≤ (stepG f x st).2.length ∧ (stepG f x st).2.length ≤ 12 := by
  unfold stepG at h ⊢
  repeat' split
  all_goals simp_all
def kscalar (n : Int) (s : Scope) : Int × Bool := if n = 0 then (0, true) else if n < 0 ∨ (s.scalars.length : Int) < n then (0, false) else (1 + n, true)
def kvar (l : List Var) (n : Int) (s : Scope) : Int × Int × Bool :=
  match nth l n with
  | some v => ((kscalar v.scalar s).1, (kscalar v.over s).1, (kscalar v.scalar s).2 && (kscalar v.over s).2)
  | none => (0, 0, false)
def kLen (n : Int) (s : Scope) : Int × Int := match nth s.chans n with | some c => if (kscalar c.scalar s).2 then (0, 0) else (0, 8) | none => (0, 8)
def kAt (n : Int) (s : Scope) : Int × Int := if 0 ≤ n then (match nth s.procs (n.tdiv 16) with | some p => if n.tmod 16 < p.locs then (0, 0) else (0, 8) | none => (0, 8)) else (0, 8)
def knamed (x : Node) (s : Scope) : Int × Int :=
  if x.op = 5 then (if 1 ≤ s.self ∧ s.self ≤ s.scalars.length then (1 + s.self, 0) else (0, 8))
  else if x.op = 6 then kLen x.n s
  else if x.op = 7 then kAt x.n s
  else if x.op = 8 then (if 0 ≤ x.n ∧ x.n < s.scalars.length then (2 + x.n, 0) else (0, 8))
  else (0, 8)
/-- The kind of a leaf or an item, with what stands on top. -/
def kleaf (x : Node) (s : Scope) (top : Int) : Int × Int :=
  if x.op = 1 then (if within x.n then (0, 0) else (0, 10))
  else if x.op = 2 ∨ x.op = 3 ∨ x.op = 4 then
    (let q := kvar (if x.op = 4 then s.locals else s.vars) x.n s
     if q.2.2 = false then (0, 8) else if (x.op = 3 ∧ (q.2.1 = 0 ∨ top ≠ q.2.1)) ∨ (x.op ≠ 3 ∧ q.2.1 ≠ 0) then (0, 9) else (q.1, 0))
  else knamed x s
/-- The kind that an operation makes of kinds. -/
def ktwo (o : OpD) (l : List Int) : Int × Int := if l.all (fun k => (decide (o.takes = -1) || decide (k = o.takes)) && decide (k = l.headD 0)) then (o.makes, 0) else (0, 9)
def fKind (s : Scope) (x : Node) (st : List Int) : Int × Int :=
  match opOf x.op with
  | some o => ktwo o (st.drop (st.length - o.parts.toNat))
  | none => kleaf x s (st.getLastD 0)
def kind (e : List Node) (s : Scope) : Int × Int := runE (fKind s) e
/-! ### Values -/
def vat (l : List Int) (n : Int) : Int × Int := match nth l n with | some x => (x, 0) | none => (0, 8)
def vleaf (x : Node) (v : Env) (top : Int) : Int × Int :=
  if x.op = 1 then (if within x.n then (x.n, 0) else (0, 10))
  else if x.op = 2 then (match nth v.vars x.n with | some l => vat l 0 | none => (0, 8))
  else if x.op = 3 then (match nth v.vars x.n with | some l => (match nth l (top - 1) with | some y => (y, 0) | none => (0, 10)) | none => (0, 8))
  else if x.op = 4 then vat v.locals x.n
  else if x.op = 6 then vat v.lens x.n
  else if x.op = 5 then (v.self, 0)
  else if x.op = 7 then (if 0 ≤ x.n then (match nth v.at_ (x.n.tdiv 16) with | some l => vat l (x.n.tmod 16) | none => (0, 8)) else (0, 8))
  else (0, 0)
def vtwo (o : OpD) (l : List Int) : Int × Int := let r := o.does (l.headD 0) (l.getLastD 0); if r.2 then (r.1, 0) else (0, 10)
def fEval (v : Env) (x : Node) (st : List Int) : Int × Int :=
  match opOf x.op with
  | some o => vtwo o (st.drop (st.length - o.parts.toNat))
  | none => vleaf x v (st.getLastD 0)
def eval (e : List Node) (v : Env) : Int × Int := runE (fEval v) e
end Abs
end
section
/- Plain: commands. No program in sight. -/
namespace Abs
open Go
def thing (scalar over : Int) (s : Scope) : Int × Bool :=
  if scalar < 0 ∨ (s.scalars.length : Int) < scalar ∨ over < 0 ∨ (s.scalars.length : Int) < over then (0, false) else if scalar = 0 then (0, true) else (1 + scalar, true)
theorem thing_false {a b : Int} {s : Scope} (h : (thing a b s).2 = false) : (thing a b s).1 = 0 := by
  unfold thing at h ⊢
  by_cases q : a < 0 ∨ (s.scalars.length : Int) < a ∨ b < 0 ∨ (s.scalars.length : Int) < b
  · rw [if_pos q]
  · rw [if_neg q] at h
    by_cases q2 : a = 0
    · rw [if_pos q2] at h; cases h
    · rw [if_neg q2] at h; cases h
def declared (l : List Var) (n : Int) (s : Scope) : Option (Var × Int) :=
  match nth l n with
  | some v => if (thing v.scalar v.over s).2 then some (v, (thing v.scalar v.over s).1) else none
  | none => none
theorem declared_over {l : List Var} {n : Int} {s : Scope} {q : Var × Int} (h : declared l n s = some q) : 0 ≤ q.1.over ∧ q.1.over ≤ s.scalars.length := by
  unfold declared at h
  cases hn : nth l n with
  | none => rw [hn] at h; cases h
  | some v =>
    rw [hn] at h
    simp only at h
    by_cases ht : (thing v.scalar v.over s).2 = true
    · rw [if_pos ht] at h
      unfold thing at ht
      by_cases q1 : v.scalar < 0 ∨ (s.scalars.length : Int) < v.scalar ∨ v.over < 0 ∨ (s.scalars.length : Int) < v.over
      · rw [if_pos q1] at ht; cases ht
      · injection h with h
        subst h
        simp only
        omega
    · rw [if_neg ht] at h; cases h
def channel (n : Int) (s : Scope) : Option Int :=
  match nth s.chans n with
  | some c => if (thing c.scalar 0 s).2 then some (thing c.scalar 0 s).1 else none
  | none => none
def asked (e : List Node) (k : Int) (s : Scope) : Int := if (kind e s).2 ≠ 0 then (kind e s).2 else if (kind e s).1 ≠ k then 9 else 0
def talks (a : Act) : Bool := decide (a.kind = 4 ∨ a.kind = 5)
def receives (a : Act) (k : Int) (s : Scope) : Int := match declared s.locals a.loc s with | some (v, k') => if v.over ≠ 0 ∨ k' ≠ k then 9 else 0 | none => 8
def actE (a : Act) (s : Scope) : Int :=
  if a.kind = 1 ∨ a.kind = 2 ∨ a.kind = 3 then
    match declared (if a.kind = 3 then s.locals else s.vars) a.to s with
    | none => 8
    | some (v, k) =>
      if (v.over ≠ 0) ≠ (a.kind = 2) then 9
      else if a.kind = 2 ∧ asked a.index (1 + v.over) s ≠ 0 then asked a.index (1 + v.over) s
      else asked a.value k s
  else if a.kind = 4 ∨ a.kind = 5 then
    match channel a.to s with
    | none => 8
    | some k => if a.kind = 5 then receives a k s else asked a.value k s
  else 3
def head (c : Cmd) (locs : Int) : Int :=
  if isName c.name = false then 6 else if c.from_ < 0 ∨ locs ≤ c.from_ ∨ c.to < 0 ∨ locs ≤ c.to then 10 else if c.acts.length > 6 then 11 else 0
def actsE (s : Scope) : List Act → Nat → Bool → Int × Int
  | [], _, _ => (0, 0)
  | a :: r, i, t => if talks a && t then (2 + i, 7) else if actE a s ≠ 0 then (2 + i, actE a s) else actsE s r (i + 1) (t || talks a)
def cmdCheck (c : Cmd) (locs : Int) (s : Scope) : Int × Int :=
  if head c locs ≠ 0 then (0, head c locs) else if c.guard.length > 0 ∧ asked c.guard 1 s ≠ 0 then (1, asked c.guard 1 s) else actsE s c.acts 0 false
def comm : List Act → Int × Int
  | [] => (0, 0)
  | a :: r => if talks a then (a.kind, a.to) else comm r
end Abs
end
section
/- Plain: processes. No program in sight. -/
namespace Abs
open Go
def inner (p : Proc) (s : Scope) : Scope := { s with locals := p.vars, self := p.over }
def whole (p : Proc) (s : Scope) : Int :=
  if isName p.name = false then 6 else if p.over < 0 ∨ (s.scalars.length : Int) < p.over then 8 else if p.locs < 1 ∨ 12 < p.locs then 10 else if p.cmds.length > 12 then 11 else 0
def localsE (s : Scope) : List Var → Nat → Int × Int
  | [], _ => (0, 0)
  | v :: r, i => if v.over ≠ 0 then (i, 9) else if s.vars.any (fun x => decide (x.name = v.name)) then (i, 7) else localsE s r (i + 1)
def plocals (p : Proc) (s : Scope) : Int × Int := if (vars p.vars s.scalars 4).2 ≠ 0 then vars p.vars s.scalars 4 else localsE s p.vars 0
def cmdsE (own : Scope) (locs : Int) (all : List Cmd) : List Cmd → Nat → Int × Int × Int
  | [], _ => (0, 0, 0)
  | c :: r, i => if (cmdCheck c locs own).2 ≠ 0 then (2 + (i : Int), (cmdCheck c locs own).1, (cmdCheck c locs own).2)
    else if (all.take i).any (fun x => decide (x.name = c.name)) then (2 + (i : Int), 0, 7) else cmdsE own locs all r (i + 1)
def procCheck (p : Proc) (s : Scope) : Int × Int × Int :=
  if whole p s ≠ 0 then (0, 0, whole p s) else if (plocals p s).2 ≠ 0 then (1, (plocals p s).1, (plocals p s).2) else cmdsE (inner p s) p.locs p.cmds p.cmds 0
def mscope (m : Model) : Scope := ⟨m.scalars, m.vars, m.chans, m.procs, [], 0⟩
def pscope (m : Model) (i : Int) : Scope := match nth m.procs i with | some p => inner p (mscope m) | none => mscope m
def elems (m : Model) (p : Proc) : Nat := match nth m.scalars (p.over - 1) with | some s => if s.size < 1 ∨ 4 < s.size then 0 else s.size.toNat | none => 0
theorem elems_le (m : Model) (p : Proc) : elems m p ≤ 4 := by
  unfold elems
  split
  · split
    · omega
    · omega
  · omega
/-- The instances over elements. -/
def overs (i : Nat) (n : Nat) : List Inst := (List.range n).map fun (k : Nat) => (⟨(i : Int), (k : Int) + 1⟩ : Inst)
def ownI (i : Nat) (p : Proc) : List Inst := if p.over = 0 then [(⟨(i : Int), 0⟩ : Inst)] else []
def instsFrom (m : Model) : List Proc → Nat → List Inst
  | [], _ => []
  | p :: r, i => ownI i p ++ overs i (elems m p) ++ instsFrom m r (i + 1)
def insts (m : Model) : List Inst := instsFrom m m.procs 0
theorem overs_succ (i n : Nat) : overs i (n + 1) = overs i n ++ [⟨(i : Int), (n : Int) + 1⟩] := by unfold overs; rw [List.range_succ, List.map_append]; rfl
theorem instsFrom_drop {m : Model} {k : Nat} (h : k < m.procs.length) : instsFrom m (m.procs.drop k) k = ownI k m.procs[k] ++ overs k (elems m m.procs[k]) ++ instsFrom m (m.procs.drop (k + 1)) (k + 1) := by
  rw [List.drop_eq_getElem_cons h]; rfl
theorem ownI_len (i : Nat) (p : Proc) : (ownI i p).length ≤ 1 := by unfold ownI; split <;> simp
theorem instsFrom_len (m : Model) : ∀ (l : List Proc) (i : Nat), (instsFrom m l i).length ≤ 5 * l.length
  | [], _ => by simp [instsFrom]
  | p :: r, i => by
    have := instsFrom_len m r (i + 1)
    have := elems_le m p
    have := ownI_len i p
    simp only [instsFrom, List.length_append, List.length_cons, overs, List.length_map, List.length_range]
    omega
theorem insts_len (m : Model) : (insts m).length ≤ 5 * m.procs.length := instsFrom_len m _ _
/-- One that is there. -/
structure Inst.of (m : Model) (x : Inst) : Prop where
  lo : 0 ≤ x.proc
  hi : x.proc < m.procs.length
  elem : 0 ≤ x.elem ∧ x.elem ≤ 4
theorem overs_of {m : Model} {i : Nat} (hi : i < m.procs.length) {n : Nat} (hn : n ≤ 4) : ∀ x ∈ overs i n, x.of m := fun x hx => by
  unfold overs at hx
  obtain ⟨k, hk, rfl⟩ := List.mem_map.1 hx
  have := List.mem_range.1 hk
  exact ⟨by simp, by simpa using hi, by constructor <;> simp <;> omega⟩
theorem ownI_of {m : Model} {i : Nat} (hi : i < m.procs.length) {p : Proc} : ∀ x ∈ ownI i p, x.of m := fun x hx => by
  unfold ownI at hx
  split at hx
  · rw [List.mem_singleton] at hx
    subst hx
    exact ⟨by simp, by simpa using hi, by simp⟩
  · cases hx
theorem instsFrom_of {m : Model} : ∀ (l : List Proc) (i : Nat), i + l.length ≤ m.procs.length → ∀ x ∈ instsFrom m l i, x.of m
  | [], _, _, x, hx => by simp [instsFrom] at hx
  | p :: r, i, h, x, hx => by
    simp only [instsFrom, List.mem_append] at hx
    simp only [List.length_cons] at h
    rcases hx with (hx | hx) | hx
    · exact ownI_of (by omega) x hx
    · exact overs_of (by omega) (elems_le m p) x hx
    · exact instsFrom_of r (i + 1) (by omega) x hx
theorem insts_of {m : Model} : ∀ x ∈ insts m, x.of m := instsFrom_of _ _ (by simp)
def cmdOf (m : Model) (r : Ref) : Option Cmd := match nth (insts m) r.inst with | some x => (match nth m.procs x.proc with | some p => nth p.cmds r.cmd | none => none) | none => none
def isFair (m : Model) (r : Ref) : Bool := match cmdOf m r with | some c => c.fair | none => false
end Abs
end
section
/- Lite: short words for code that is printed. -/
namespace Lite
open Go
def yt (n : Nat) : Operand := .tmp n
def yi (n : Int) : Operand := .const (.int .i64 n)
def yb (b : Bool) : Operand := .const (.bool b)
def yp (d : Nat) (i : PIns) : Step := ⟨some d, none, .p i⟩
def yr (d : Nat) (i : RIns) : Step := ⟨some d, none, .r i⟩
def ye (d : Nat) (i : EIns) : Step := ⟨some d, none, .e i⟩
def yc (d : Nat) (i : CIns) : Step := ⟨some d, none, .c i⟩
def yv (i : EIns) : Step := ⟨none, none, .e i⟩
def yg (j : Nat) (b : Bool) (s : Step) : Step := ⟨s.dst, some (j, b), s.i⟩
def ym (d n : Nat) : Step := ⟨some d, none, .p (.mv (.tmp n))⟩
def yw (d : Nat) (x : Operand) : Step := ⟨some d, none, .p (.mv x)⟩
def ya (d k n : Nat) : Step := ⟨some d, none, .p (.fa k (.tmp n))⟩
def yl (d n : Nat) : Step := ⟨some d, none, .r (.ld (.tmp n))⟩
def yx (d k a i : Nat) : Step := ⟨some d, none, .p (.ia k (.tmp a) (.tmp i))⟩
def ys (a v : Nat) : Step := ⟨none, none, .e (.st (.tmp a) (.tmp v))⟩
def yn (d n : Nat) : Step := ⟨some d, none, .p (.lenL (.tmp n))⟩
def yo : Value := .int .i64 0
def yq : Value := .slice none 0 0
def yu : Value := .string ⟨#[]⟩
def yz (op : BinOp) (t : TypeId) (d a b : Nat) : Step := ⟨some d, none, .p (.bin op t (.tmp a) (.tmp b))⟩
def yj (op : BinOp) (t : TypeId) (d a : Nat) (n : Int) : Step := ⟨some d, none, .p (.bin op t (.tmp a) (.const (.int .i64 n)))⟩
def yk (d a b : Nat) : Step := ⟨some d, none, .p (.pick (.tmp a) (.tmp b) (.const (.bool false)))⟩
def yf (d a b : Nat) : Step := ⟨some d, none, .p (.pick (.tmp a) (.const (.bool true)) (.tmp b))⟩
def yR (ss : List Step) (b : LC) : LC := .seq (.reg ss) b
/-- The short words written out. -/
theorem Yy {A B : Prop} (k : B) (h : B → A := by
  intro q
  dsimp only [yt,yi,yb,yp,yr,ye,yc,yv,yg,ym,yw,ya,yl,yx,ys,yn,yo,yq,yu,yz,yj,yk,yf,yR]
  exact q) : A := h k
end Lite
end
