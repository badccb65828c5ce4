/- How models lie in memory. -/
import Derived.Test.YtoakjdilnkjcgaaDoorRep
import Derived.Test.YtoakjdilnkjcgaaDoorLite10
set_option linter.all false
namespace Abs
open Go Go.RowKit Lite
structure Node where
  op : Int
  n : Int
structure Act where
  kind : Int
  to : Int
  loc : Int
  index : List Node
  value : List Node
structure Cmd where
  name : ByteArray
  from_ : Int
  to : Int
  guard : List Node
  acts : List Act
  fair : Bool
structure Proc where
  name : ByteArray
  over : Int
  locs : Int
  vars : List Var
  cmds : List Cmd
structure Prp where
  name : ByteArray
  expr : List Node
structure Model where
  scalars : List Scalar
  vars : List Var
  chans : List Chan
  procs : List Proc
  props : List Prp
def Node.enc (x : Node) : List Value := [.int .i64 x.op, .int .i64 x.n]
/-- A number that a machine's word holds. -/
def inI (n : Int) : Prop := -9223372036854775808 ≤ n ∧ n ≤ 9223372036854775807
structure Node.ok (x : Node) : Prop where
  op : inI x.op
  n : inI x.n
structure RNode (w : World) (a : Addr) (x : Node) : Prop where
  cells : CellsAt w a x.enc
  ok : x.ok
theorem RNode.ext (w w' : World) (a : Addr) (x : Node) (he : Ext w w') (h : RNode w a x) : RNode w' a x := ⟨h.cells.ext he, h.ok⟩
abbrev Nodes (w : World) (v : Value) (l : List Node) : Prop := SlR 2 RNode w v l
theorem Nodes.ext {w w' : World} {v : Value} {l : List Node} (he : Ext w w') (h : Nodes w v l) : Nodes w' v l := SlR.ext RNode.ext he h
/-- The cells of an action: the slots of its lists are as they are. -/
def Act.enc (x : Act) (vi vv : Value) : List Value := [.int .i64 x.kind, .int .i64 x.to, .int .i64 x.loc, vi, vv]
def RAct (w : World) (a : Addr) (x : Act) : Prop := ∃ vi vv, CellsAt w a (x.enc vi vv) ∧ Nodes w vi x.index ∧ Nodes w vv x.value
theorem RAct.ext (w w' : World) (a : Addr) (x : Act) (he : Ext w w') (h : RAct w a x) : RAct w' a x := let ⟨vi, vv, h1, h2, h3⟩ := h; ⟨vi, vv, h1.ext he, h2.ext he, h3.ext he⟩
abbrev Acts (w : World) (v : Value) (l : List Act) : Prop := SlR 5 RAct w v l
theorem Acts.ext {w w' : World} {v : Value} {l : List Act} (he : Ext w w') (h : Acts w v l) : Acts w' v l := SlR.ext RAct.ext he h
def Cmd.enc (x : Cmd) (vg va : Value) : List Value := [.string x.name, .int .i64 x.from_, .int .i64 x.to, vg, va, .bool x.fair]
def RCmd (w : World) (a : Addr) (x : Cmd) : Prop := strOk x.name ∧ ∃ vg va, CellsAt w a (x.enc vg va) ∧ Nodes w vg x.guard ∧ Acts w va x.acts
theorem RCmd.ext (w w' : World) (a : Addr) (x : Cmd) (he : Ext w w') (h : RCmd w a x) : RCmd w' a x := let ⟨h0, vi, vv, h1, h2, h3⟩ := h; ⟨h0, vi, vv, h1.ext he, h2.ext he, h3.ext he⟩
abbrev Cmds (w : World) (v : Value) (l : List Cmd) : Prop := SlR 6 RCmd w v l
theorem Cmds.ext {w w' : World} {v : Value} {l : List Cmd} (he : Ext w w') (h : Cmds w v l) : Cmds w' v l := SlR.ext RCmd.ext he h
theorem Scalars.ext {w w' : World} {v : Value} {l : List Scalar} (he : Ext w w') (h : Scalars w v l) : Scalars w' v l := SlR.ext RScalar.ext he h
theorem Vars.ext {w w' : World} {v : Value} {l : List Var} (he : Ext w w') (h : Vars w v l) : Vars w' v l := SlR.ext RVar.ext he h
theorem Chans.ext {w w' : World} {v : Value} {l : List Chan} (he : Ext w w') (h : Chans w v l) : Chans w' v l := SlR.ext RChan.ext he h
def Proc.enc (x : Proc) (vv vc : Value) : List Value := [.string x.name, .int .i64 x.over, .int .i64 x.locs, vv, vc]
def RProc (w : World) (a : Addr) (x : Proc) : Prop := strOk x.name ∧ ∃ vv vc, CellsAt w a (x.enc vv vc) ∧ Vars w vv x.vars ∧ Cmds w vc x.cmds
theorem RProc.ext (w w' : World) (a : Addr) (x : Proc) (he : Ext w w') (h : RProc w a x) : RProc w' a x := let ⟨h0, vi, vv, h1, h2, h3⟩ := h; ⟨h0, vi, vv, h1.ext he, h2.ext he, h3.ext he⟩
abbrev Procs (w : World) (v : Value) (l : List Proc) : Prop := SlR 5 RProc w v l
theorem Procs.ext {w w' : World} {v : Value} {l : List Proc} (he : Ext w w') (h : Procs w v l) : Procs w' v l := SlR.ext RProc.ext he h
def CmdIs (w : World) (cs : List Value) (c : Cmd) : Prop := strOk c.name ∧ ∃ vg va, cs = c.enc vg va ∧ Nodes w vg c.guard ∧ Acts w va c.acts
theorem CmdIs.ext {w w' : World} {cs : List Value} {c : Cmd} (he : Ext w w') (h : CmdIs w cs c) : CmdIs w' cs c := let ⟨h0, vi, vv, h1, h2, h3⟩ := h; ⟨h0, vi, vv, h1, h2.ext he, h3.ext he⟩
def ProcIs (w : World) (cs : List Value) (p : Proc) : Prop := strOk p.name ∧ ∃ vv vc, cs = p.enc vv vc ∧ Vars w vv p.vars ∧ Cmds w vc p.cmds
theorem ProcIs.ext {w w' : World} {cs : List Value} {p : Proc} (he : Ext w w') (h : ProcIs w cs p) : ProcIs w' cs p := let ⟨h0, vi, vv, h1, h2, h3⟩ := h; ⟨h0, vi, vv, h1, h2.ext he, h3.ext he⟩
def Prp.enc (x : Prp) (ve : Value) : List Value := [.string x.name, ve]
def RPrp (w : World) (a : Addr) (x : Prp) : Prop := strOk x.name ∧ ∃ ve, CellsAt w a (x.enc ve) ∧ Nodes w ve x.expr
theorem RPrp.ext (w w' : World) (a : Addr) (x : Prp) (he : Ext w w') (h : RPrp w a x) : RPrp w' a x := let ⟨h0, vi, h1, h2⟩ := h; ⟨h0, vi, h1.ext he, h2.ext he⟩
abbrev Prps (w : World) (v : Value) (l : List Prp) : Prop := SlR 2 RPrp w v l
theorem Prps.ext {w w' : World} {v : Value} {l : List Prp} (he : Ext w w') (h : Prps w v l) : Prps w' v l := SlR.ext RPrp.ext he h
/-- The five cells of a model. -/
structure ModelIs (w : World) (cs : List Value) (m : Model) : Prop where
  ex : ∃ v0 v1 v2 v3 v4, cs = [v0, v1, v2, v3, v4] ∧ Scalars w v0 m.scalars ∧ Vars w v1 m.vars ∧ Chans w v2 m.chans ∧ Procs w v3 m.procs ∧ Prps w v4 m.props
theorem ModelIs.ext {w w' : World} {cs : List Value} {m : Model} (he : Ext w w') (h : ModelIs w cs m) : ModelIs w' cs m :=
  let ⟨v0, v1, v2, v3, v4, e, h0, h1, h2, h3, h4⟩ := h.ex
  ⟨v0, v1, v2, v3, v4, e, h0.ext he, h1.ext he, h2.ext he, h3.ext he, h4.ext he⟩
instance instCelNode : Cel RNode Node.enc := ⟨fun _ _ _ h => h.cells⟩
instance instCelScalar : Cel RScalar Scalar.enc := ⟨fun _ _ _ h => h.cells⟩
instance instCelVar : Cel RVar Var.enc := ⟨fun _ _ _ h => h.cells⟩
instance instCelChan : Cel RChan Chan.enc := ⟨fun _ _ _ h => h.cells⟩
/-- All names, in order. -/
def names (m : Model) : List ByteArray := m.scalars.map (·.name) ++ m.vars.map (·.name) ++ m.chans.map (·.name) ++ (m.procs.flatMap fun p => p.name :: (p.vars.map (·.name) ++ p.cmds.map (·.name))) ++ m.props.map (·.name)
end Abs
