/- Texts joined: Rep Rep2 Lite13 Lite14 Lite15 Lite16 LiteS LiteN LiteO UseP Code CodeS. -/
import Derived.Test.YtfdohkdifdemeaaQc
import Derived.Laws.StructEq
import Derived.Laws.Cover3
import Derived.Maps.AppendAt
import Derived.Laws.Pointers
import Derived.Test.YtfdohkdifdemeaaChecked
set_option linter.all false
section
/- How the program's data lie in memory. -/
namespace Abs
open Go Go.RowKit Lite
def Scalar.enc (x : Scalar) : List Value := [.string x.name, .int .i64 x.size]
def Var.enc (x : Var) : List Value := [.string x.name, .int .i64 x.scalar, .int .i64 x.over, .int .i64 x.lo, .int .i64 x.hi, .int .i64 x.init]
def Chan.enc (x : Chan) : List Value := [.string x.name, .int .i64 x.scalar, .int .i64 x.cap, .int .i64 x.lo, .int .i64 x.hi, .bool x.lossy]
/-- A name's length is a length. -/
def strOk (s : ByteArray) : Prop := s.size ≤ 9223372036854775807
instance instStrOk (s : ByteArray) : Decidable (strOk s) := Nat.decLe _ _
structure RScalar (w : World) (a : Addr) (x : Scalar) : Prop where
  cells : CellsAt w a x.enc
  ok : strOk x.name
structure RVar (w : World) (a : Addr) (x : Var) : Prop where
  cells : CellsAt w a x.enc
  ok : strOk x.name
structure RChan (w : World) (a : Addr) (x : Chan) : Prop where
  cells : CellsAt w a x.enc
  ok : strOk x.name
theorem RScalar.ext (w w' : World) (a : Addr) (x : Scalar) (he : Ext w w') (h : RScalar w a x) : RScalar w' a x := ⟨h.cells.ext he, h.ok⟩
theorem RVar.ext (w w' : World) (a : Addr) (x : Var) (he : Ext w w') (h : RVar w a x) : RVar w' a x := ⟨h.cells.ext he, h.ok⟩
theorem RChan.ext (w w' : World) (a : Addr) (x : Chan) (he : Ext w w') (h : RChan w a x) : RChan w' a x := ⟨h.cells.ext he, h.ok⟩
abbrev Scalars (w : World) (v : Value) (l : List Scalar) : Prop := SlR 2 RScalar w v l
abbrev Vars (w : World) (v : Value) (l : List Var) : Prop := SlR 6 RVar w v l
abbrev Chans (w : World) (v : Value) (l : List Chan) : Prop := SlR 6 RChan w v l
theorem Scalars.blk {w : World} {b n : Nat} {e : TypeId} {f : Nat × Nat} {xs : List Scalar} (hb : w.heap[b]? = some (.cells (xs.flatMap Scalar.enc).toArray e f)) (hn : n = xs.length) (hm : xs.length ≤ maxLen) (hok : ∀ x ∈ xs, strOk x.name) :
    Scalars w (.slice (some ⟨b, 0, none⟩) n n) xs := SlR.blk (enc := Scalar.enc) (fun _ => rfl) hb hn hm fun _ x hx hc => ⟨hc, hok x hx⟩
theorem Vars.blk {w : World} {b n : Nat} {e : TypeId} {f : Nat × Nat} {xs : List Var} (hb : w.heap[b]? = some (.cells (xs.flatMap Var.enc).toArray e f)) (hn : n = xs.length) (hm : xs.length ≤ maxLen) (hok : ∀ x ∈ xs, strOk x.name) :
    Vars w (.slice (some ⟨b, 0, none⟩) n n) xs := SlR.blk (enc := Var.enc) (fun _ => rfl) hb hn hm fun _ x hx hc => ⟨hc, hok x hx⟩
theorem Chans.blk {w : World} {b n : Nat} {e : TypeId} {f : Nat × Nat} {xs : List Chan} (hb : w.heap[b]? = some (.cells (xs.flatMap Chan.enc).toArray e f)) (hn : n = xs.length) (hm : xs.length ≤ maxLen) (hok : ∀ x ∈ xs, strOk x.name) :
    Chans w (.slice (some ⟨b, 0, none⟩) n n) xs := SlR.blk (enc := Chan.enc) (fun _ => rfl) hb hn hm fun _ x hx hc => ⟨hc, hok x hx⟩
end Abs
end
section
/- How models lie in memory. -/
namespace Abs
open Go Go.RowKit Lite
structure Node where
  op : Int
  n : Int
structure Act where
  kind : Int
  to : Int
  loc : Int
  index : List Node
  value : List Node
structure Cmd where
  name : ByteArray
  from_ : Int
  to : Int
  guard : List Node
  acts : List Act
  fair : Bool
structure Proc where
  name : ByteArray
  over : Int
  locs : Int
  vars : List Var
  cmds : List Cmd
structure Prp where
  name : ByteArray
  expr : List Node
structure Model where
  scalars : List Scalar
  vars : List Var
  chans : List Chan
  procs : List Proc
  props : List Prp
structure Inst where
  proc : Int
  elem : Int
deriving DecidableEq
structure Ref where
  inst : Int
  cmd : Int
deriving DecidableEq
def Inst.enc (x : Inst) : List Value := [.int .i64 x.proc, .int .i64 x.elem]
def Ref.enc (x : Ref) : List Value := [.int .i64 x.inst, .int .i64 x.cmd]
def Node.enc (x : Node) : List Value := [.int .i64 x.op, .int .i64 x.n]
/-- A number that a machine's word holds. -/
def inI (n : Int) : Prop := -9223372036854775808 ≤ n ∧ n ≤ 9223372036854775807
structure Node.ok (x : Node) : Prop where
  op : inI x.op
  n : inI x.n
structure RNode (w : World) (a : Addr) (x : Node) : Prop where
  cells : CellsAt w a x.enc
  ok : x.ok
theorem RNode.ext (w w' : World) (a : Addr) (x : Node) (he : Ext w w') (h : RNode w a x) : RNode w' a x := ⟨h.cells.ext he, h.ok⟩
abbrev Nodes (w : World) (v : Value) (l : List Node) : Prop := SlR 2 RNode w v l
theorem Nodes.ext {w w' : World} {v : Value} {l : List Node} (he : Ext w w') (h : Nodes w v l) : Nodes w' v l := SlR.ext RNode.ext he h
/-- The cells of an action: the slots of its lists are as they are. -/
def Act.enc (x : Act) (vi vv : Value) : List Value := [.int .i64 x.kind, .int .i64 x.to, .int .i64 x.loc, vi, vv]
def RAct (w : World) (a : Addr) (x : Act) : Prop := ∃ vi vv, CellsAt w a (x.enc vi vv) ∧ Nodes w vi x.index ∧ Nodes w vv x.value
theorem RAct.ext (w w' : World) (a : Addr) (x : Act) (he : Ext w w') (h : RAct w a x) : RAct w' a x := let ⟨vi, vv, h1, h2, h3⟩ := h; ⟨vi, vv, h1.ext he, h2.ext he, h3.ext he⟩
abbrev Acts (w : World) (v : Value) (l : List Act) : Prop := SlR 5 RAct w v l
theorem Acts.ext {w w' : World} {v : Value} {l : List Act} (he : Ext w w') (h : Acts w v l) : Acts w' v l := SlR.ext RAct.ext he h
def Cmd.enc (x : Cmd) (vg va : Value) : List Value := [.string x.name, .int .i64 x.from_, .int .i64 x.to, vg, va, .bool x.fair]
def RCmd (w : World) (a : Addr) (x : Cmd) : Prop := strOk x.name ∧ ∃ vg va, CellsAt w a (x.enc vg va) ∧ Nodes w vg x.guard ∧ Acts w va x.acts
theorem RCmd.ext (w w' : World) (a : Addr) (x : Cmd) (he : Ext w w') (h : RCmd w a x) : RCmd w' a x := let ⟨h0, vi, vv, h1, h2, h3⟩ := h; ⟨h0, vi, vv, h1.ext he, h2.ext he, h3.ext he⟩
abbrev Cmds (w : World) (v : Value) (l : List Cmd) : Prop := SlR 6 RCmd w v l
theorem Cmds.ext {w w' : World} {v : Value} {l : List Cmd} (he : Ext w w') (h : Cmds w v l) : Cmds w' v l := SlR.ext RCmd.ext he h
theorem Scalars.ext {w w' : World} {v : Value} {l : List Scalar} (he : Ext w w') (h : Scalars w v l) : Scalars w' v l := SlR.ext RScalar.ext he h
theorem Vars.ext {w w' : World} {v : Value} {l : List Var} (he : Ext w w') (h : Vars w v l) : Vars w' v l := SlR.ext RVar.ext he h
theorem Chans.ext {w w' : World} {v : Value} {l : List Chan} (he : Ext w w') (h : Chans w v l) : Chans w' v l := SlR.ext RChan.ext he h
def Proc.enc (x : Proc) (vv vc : Value) : List Value := [.string x.name, .int .i64 x.over, .int .i64 x.locs, vv, vc]
def RProc (w : World) (a : Addr) (x : Proc) : Prop := strOk x.name ∧ ∃ vv vc, CellsAt w a (x.enc vv vc) ∧ Vars w vv x.vars ∧ Cmds w vc x.cmds
theorem RProc.ext (w w' : World) (a : Addr) (x : Proc) (he : Ext w w') (h : RProc w a x) : RProc w' a x := let ⟨h0, vi, vv, h1, h2, h3⟩ := h; ⟨h0, vi, vv, h1.ext he, h2.ext he, h3.ext he⟩
abbrev Procs (w : World) (v : Value) (l : List Proc) : Prop := SlR 5 RProc w v l
theorem Procs.ext {w w' : World} {v : Value} {l : List Proc} (he : Ext w w') (h : Procs w v l) : Procs w' v l := SlR.ext RProc.ext he h
def CmdIs (w : World) (cs : List Value) (c : Cmd) : Prop := strOk c.name ∧ ∃ vg va, cs = c.enc vg va ∧ Nodes w vg c.guard ∧ Acts w va c.acts
theorem CmdIs.ext {w w' : World} {cs : List Value} {c : Cmd} (he : Ext w w') (h : CmdIs w cs c) : CmdIs w' cs c := let ⟨h0, vi, vv, h1, h2, h3⟩ := h; ⟨h0, vi, vv, h1, h2.ext he, h3.ext he⟩
def ProcIs (w : World) (cs : List Value) (p : Proc) : Prop := strOk p.name ∧ ∃ vv vc, cs = p.enc vv vc ∧ Vars w vv p.vars ∧ Cmds w vc p.cmds
theorem ProcIs.ext {w w' : World} {cs : List Value} {p : Proc} (he : Ext w w') (h : ProcIs w cs p) : ProcIs w' cs p := let ⟨h0, vi, vv, h1, h2, h3⟩ := h; ⟨h0, vi, vv, h1, h2.ext he, h3.ext he⟩
def Prp.enc (x : Prp) (ve : Value) : List Value := [.string x.name, ve]
def RPrp (w : World) (a : Addr) (x : Prp) : Prop := strOk x.name ∧ ∃ ve, CellsAt w a (x.enc ve) ∧ Nodes w ve x.expr
theorem RPrp.ext (w w' : World) (a : Addr) (x : Prp) (he : Ext w w') (h : RPrp w a x) : RPrp w' a x := let ⟨h0, vi, h1, h2⟩ := h; ⟨h0, vi, h1.ext he, h2.ext he⟩
abbrev Prps (w : World) (v : Value) (l : List Prp) : Prop := SlR 2 RPrp w v l
theorem Prps.ext {w w' : World} {v : Value} {l : List Prp} (he : Ext w w') (h : Prps w v l) : Prps w' v l := SlR.ext RPrp.ext he h
/-- The five cells of a model. -/
structure ModelIs (w : World) (cs : List Value) (m : Model) : Prop where
  ex : ∃ v0 v1 v2 v3 v4, cs = [v0, v1, v2, v3, v4] ∧ Scalars w v0 m.scalars ∧ Vars w v1 m.vars ∧ Chans w v2 m.chans ∧ Procs w v3 m.procs ∧ Prps w v4 m.props
theorem ModelIs.ext {w w' : World} {cs : List Value} {m : Model} (he : Ext w w') (h : ModelIs w cs m) : ModelIs w' cs m :=
  let ⟨v0, v1, v2, v3, v4, e, h0, h1, h2, h3, h4⟩ := h.ex
  ⟨v0, v1, v2, v3, v4, e, h0.ext he, h1.ext he, h2.ext he, h3.ext he, h4.ext he⟩
instance instCelNode : Cel RNode Node.enc := ⟨fun _ _ _ h => h.cells⟩
instance instCelScalar : Cel RScalar Scalar.enc := ⟨fun _ _ _ h => h.cells⟩
instance instCelVar : Cel RVar Var.enc := ⟨fun _ _ _ h => h.cells⟩
instance instCelChan : Cel RChan Chan.enc := ⟨fun _ _ _ h => h.cells⟩
end Abs
end
section
/- Lite, part 13: straight on, through new blocks too. -/
namespace Lite
open Go Go.RowKit
section
variable {P : Program} {K3 : Value → Prop} {w w0 : World}
theorem K.ldC {a : Addr} {cs : List Value} {j : Nat} {v : Value} {t} (h : CellsAt w0 a cs) (he : Ext w0 w) (hj : cs[j]? = some v) (hk : K3 v) : LdVCh (.pointer (some (a.add j))) w K3 t := K.ld (he.cell (h j v hj)) hk
theorem K.ldAC {a : Addr} {cs : List Value} {n : Nat} {t} (h : CellsAt w0 a cs) (he : Ext w0 w) (hn : cs.length = n) (hk : K3 (.agg cs.toArray)) : LdAVCh n (.pointer (some a)) w K3 t := K.ldA (h.ext he) hn hk
end
/-- The same, no further than the next sequence. -/
theorem Su {A B : Prop} (k : B) (h : Hold B → A := by
  intro q
  (repeat' first
  | assumption
  | exact Ext.refl _
  | refine Ext.trans ?_ (by assumption)
  | simp -dsimp only [LL,Nat.reduceAdd,Nat.reduceEqDiff,reduceIte,reduceCtorEq,Bool.false_eq_true,slots_nil,slots_cons,keepV_nil,keepV_cons,has_nil,has_cons,List.cons_append,List.nil_append]
  | refine K.wrap (by omega) ?_
  | refine K.ldb (by assumption) ?_ rfl ?_
  | refine K.ldb0 (by assumption) ?_ rfl ?_
  | refine K.iaC (by omega) ?_
  | refine K.condT (by first | assumption | omega) ?_
  | refine K.condF (by first | assumption | omega) ?_
  | refine K.condbT (by assumption) ?_
  | refine K.condbF (by assumption) ?_
  | refine K.ldE (by assumption) ?_ (by omega) rfl ?_
  | refine K.ldE0 (by assumption) ?_ (by omega) rfl ?_
  | refine K.ldAE (by assumption) ?_ (by omega) rfl ?_
  | refine K.ldC (by assumption) ?_ rfl ?_
  | refine K.ldAC (by assumption) ?_ rfl ?_
  | refine K.ldAb (by assumption) ?_ rfl ?_
  | refine K.newst (fun _ => by (simp -dsimp only [LL,Nat.reduceAdd,Nat.reduceEqDiff,reduceIte,reduceCtorEq,Bool.false_eq_true]); rfl) rfl rfl (by first | assumption | (simp [Value.oneCell',Abs.Inst.enc,Abs.Ref.enc,Abs.Node.enc,Abs.Scalar.enc,Abs.Var.enc,Abs.Chan.enc,Abs.Act.enc,Abs.Cmd.enc,Abs.Proc.enc,Abs.Prp.enc]; done)) ?_
  | refine K.new ?_
  | refine K.stAb (by assumption) rfl rfl (by first | assumption | (simp [Value.oneCell',Abs.Inst.enc,Abs.Ref.enc,Abs.Node.enc,Abs.Scalar.enc,Abs.Var.enc,Abs.Chan.enc,Abs.Act.enc,Abs.Cmd.enc,Abs.Proc.enc,Abs.Prp.enc]; done)) ?_
  | refine K.st1 (by assumption) (Nat.le_of_ble_eq_true rfl) rfl ?_
  | refine K.st0 (by assumption) (Nat.le_of_ble_eq_true rfl) rfl ?_
  | refine K.bldSa (by (simp only [fillC, lay, ev_const, ev_tmp, upd_at, Value.cells, Nat.reduceAdd, Nat.reduceEqDiff, reduceIte, List.range, List.range.loop, List.map_cons, List.map_nil]); rfl) ?_
  | refine K.bld (by (simp only [fillC, lay, ev_const, ev_tmp, upd_at, Value.cells, Nat.reduceAdd, Nat.reduceEqDiff, reduceIte]); rfl) ?_)
  exact q.out) : A := h ⟨k⟩
end Lite
end
section
/- Lite, part 14: what hangs on some blocks alone; rows of one's own whose elements hold more than cells; structs compared. -/
set_option maxRecDepth 4000
namespace Lite
open Go Go.RowKit
/-! ### What does not hang on some blocks -/
/-- It holds, whatever becomes of these blocks, and whatever is laid behind. -/
def Stab (A : Nat → Prop) (p : World → Prop) (w : World) : Prop := ∀ w', Mod A w w' → p w'
theorem Stab.here {A : Nat → Prop} {p : World → Prop} {w : World} (h : Stab A p w) : p w := h w (Mod.refl A w)
theorem Mod.comp {A A' B : Nat → Prop} {a b c : World} (h : Mod A a b) (k : Mod A' b c) (h1 : ∀ i, i < a.heap.size → A i → B i) (h2 : ∀ i, i < a.heap.size → A' i → B i) : Mod B a c :=
  ⟨k.os.trans h.os, k.tape.trans h.tape, k.output.trans h.output, Nat.le_trans h.size k.size, fun i hi hn => (k.block i (Nat.lt_of_lt_of_le hi h.size) fun e => hn (h2 i hi e)).trans (h.block i hi fun e => hn (h1 i hi e))⟩
theorem Stab.move {A A' B : Nat → Prop} {p : World → Prop} {w w' : World} (h : Stab B p w) (m : Mod A w w') (h1 : ∀ i, i < w.heap.size → A i → B i) (h2 : ∀ i, i < w.heap.size → A' i → B i) : Stab A' p w' :=
  fun w'' k => h w'' (m.comp k h1 h2)
theorem Stab.mono {A B : Nat → Prop} {p : World → Prop} {w : World} (h : Stab B p w) (h2 : ∀ i, i < w.heap.size → A i → B i) : Stab A p w := h.move (Mod.refl A w) h2 h2
theorem Stab.ext {B : Nat → Prop} {p : World → Prop} {w w' : World} (h : Stab B p w) (e : Ext w w') (hB : ∀ i, w.heap.size ≤ i → ¬ B i) : Stab B p w' :=
  h.move (A := fun _ => False) e.mod (fun _ _ h => h.elim) (fun _ _ h => h)
theorem Stab.imp {A : Nat → Prop} {p q : World → Prop} {w : World} (h : Stab A p w) (hpq : ∀ w, p w → q w) : Stab A q w := fun w' m => hpq w' (h w' m)
theorem Stab.of {A : Nat → Prop} {p : World → Prop} {w : World} (h : ∀ w', p w') : Stab A p w := fun w' _ => h w'
/-- What a function made: it hangs on what is new alone. -/
abbrev New (w : World) (p : World → Prop) (w' : World) : Prop := Stab (fun k => k < w.heap.size) p w'
theorem New.ext {w w1 w2 : World} {p : World → Prop} (h : New w p w1) (he : Ext w1 w2) (h0 : w.heap.size ≤ w1.heap.size) : New w p w2 :=
  Stab.ext h he fun i hi hk => by omega
theorem New.low {w w0 w1 : World} {p : World → Prop} (h : New w p w1) (h0 : w0.heap.size ≤ w.heap.size) : New w0 p w1 := h.mono fun i _ hi => by omega
theorem New.wr {w w1 w2 : World} {p : World → Prop} {b : Nat} (h : New w p w1) (hw : Wr b w1 w2) (hb : b < w.heap.size) : New w p w2 :=
  Stab.move h (A := fun k => k = b) (hw.mod rfl) (fun i _ e => by omega) (fun i _ e => e)
theorem New.grown {w w1 w2 : World} {p : World → Prop} {row : Option Nat} (h : New w p w1) (hg : w1.grownBy w2 row) (hb : ∀ k, row = some k → k < w.heap.size) : New w p w2 :=
  Stab.move h (A := fun k => row = some k) (Mod.grown hg fun k hk => hk) (fun i _ e => hb i e) (fun i _ e => e)
theorem New.imp {w w1 : World} {p q : World → Prop} (h : New w p w1) (hpq : ∀ w, p w → q w) : New w q w1 := Stab.imp h hpq
/-! ### Elements by their cells -/
class Rel {α : Type} (R : World → Addr → α → Prop) (C : outParam (World → List Value → α → Prop)) (sz : outParam Nat) : Prop where
  out : ∀ {w a x}, R w a x → ∃ cs, CellsAt w a cs ∧ C w cs x
  inn : ∀ {w a cs x}, CellsAt w a cs → C w cs x → R w a x
  len : ∀ {w cs x}, C w cs x → cs.length = sz
  one : ∀ {w cs x}, C w cs x → ∀ u ∈ cs, u.oneCell' = true
  ext : ∀ {w w' cs x}, Ext w w' → C w cs x → C w' cs x
/-- So many cells. -/
abbrev Cs (sz : Nat) := {cs : List Value // cs.length = sz ∧ ∀ u ∈ cs, u.oneCell' = true}
def encC {sz : Nat} (c : Cs sz) : List Value := c.1
theorem encC_len {sz : Nat} (c : Cs sz) : (encC c).length = sz := c.2.1
abbrev OwC (e : TypeId) (sz base : Nat) (w : World) (v : Value) (css : List (Cs sz)) : Prop := OwR encC e sz base w v css
/-- Of a list in memory the cells. -/
theorem SlR.cells {α : Type} {R : World → Addr → α → Prop} {C : World → List Value → α → Prop} {sz : Nat} [Rel R C sz] {w : World} {v : Value} {xs : List α} (h : SlR sz R w v xs) :
    ∃ css : List (Cs sz), css.length = xs.length ∧ SlR sz (Flat encC) w v css ∧ ∀ i (h1 : i < css.length) (h2 : i < xs.length), C w css[i].1 xs[i] := by
  obtain ⟨oa, cap, rfl, h1, h2, h3, h4⟩ := h.ex
  obtain ⟨css, hl, hc⟩ := list_of xs.length (fun i (c : Cs sz) => (∀ a, oa = some a → CellsAt w (a.add (i * sz)) c.1) ∧ ∀ (h : i < xs.length), C w c.1 xs[i]) fun i hi => by
    obtain ⟨a, rfl⟩ := Option.isSome_iff_exists.1 (h3 (by intro e; subst e; simp at hi))
    obtain ⟨cs, c1, c2⟩ := Rel.out (h4 a rfl i hi)
    exact ⟨⟨cs, Rel.len (R := R) c2, Rel.one (R := R) c2⟩, fun a' e => by injection e with e; subst e; exact c1, fun _ => c2⟩
  refine ⟨css, hl, ⟨oa, cap, by rw [hl], by omega, h2, fun hn => h3 (by intro e; subst e; simp at hl; exact hn hl), fun a ha i hi => (hc i hi).1 a ha⟩, fun i h1 h2 => (hc i h1).2 h2⟩
theorem SlR.ofCells {α : Type} {R : World → Addr → α → Prop} {C : World → List Value → α → Prop} {sz : Nat} [Rel R C sz] {w : World} {v : Value} {xs : List α} {css : List (Cs sz)} (hl : css.length = xs.length) (h : SlR sz (Flat encC) w v css)
    (hc : ∀ i (h1 : i < css.length) (h2 : i < xs.length), C w css[i].1 xs[i]) : SlR sz R w v xs := by
  obtain ⟨oa, cap, rfl, h1, h2, h3, h4⟩ := h.ex
  refine ⟨oa, cap, by rw [hl], by omega, h2, fun hn => h3 (by intro e; subst e; simp at hl; exact hn (List.eq_nil_of_length_eq_zero hl.symm)), fun a ha i hi => Rel.inn (h4 a ha i (by omega)) (hc i (by omega) hi)⟩
/-- One row is put behind another: its block is the old one, or a new one. -/
theorem K.appAt {P : Program} {KK : Value → World → Prop} {α : Type} {enc : α → List Value} {e : TypeId} {sz base : Nat} {w : World} {xs : List α} {ty : TypeId} {b : Nat} {s : Value} {a : Addr} {m c : Nat} {ys : List α} {t} (hs : OwR enc e sz base w s xs) (hsz : ∀ x, (enc x).length = sz) (hc : CellsAt w a (ys.flatMap enc)) (hm : m = ys.length)
    (h1 : ∀ y, ∀ u ∈ enc y, u.oneCell' = true) (hb : (xs.length + ys.length) * b ≤ 140737488355328) (h63 : xs.length + ys.length ≤ maxLen) (hbase : base ≤ w.heap.size)
    (hk : ∀ v' w', OwR enc e sz base w' v' (xs ++ ys) → w.grownBy w' s.ownBlock → (v'.ownBlock = s.ownBlock ∨ v'.ownBlock = some w.heap.size) → KK v' w') : AppVCh P ty e sz b s (.slice (some a) m c) w KK t := by
  subst hm
  refine K.app fun ⟨ht, i, z, hi, hz, hsize, hby, hzs, hsz'⟩ => ?_
  obtain ⟨v', w', hr, h2, h3, _, h5⟩ := run_append_own_at (P := P) w base ty ty e i z sz b ht hi hz hsize hby hzs hsz' s _ _ hs a _ c _ (flat_len hsz ys) hc (fun u hu => by obtain ⟨y, _, hy⟩ := List.mem_flatMap.1 hu; exact h1 y u hy) h63 hb hbase
  refine ⟨ty, v', w', hr, hk v' w' ?_ h3 h5⟩
  unfold OwR
  rw [List.length_append, List.flatMap_append]
  exact h2
/-- Blocks that may change while a row of one's own is being built. -/
def Own1 (v : Value) (base k : Nat) : Prop := v.ownBlock = some k ∨ k < base
/-- A row of one's own: each element is what its cells say, however the row grows. -/
structure RowC {α : Type} (C : World → List Value → α → Prop) (e : TypeId) (sz base : Nat) (w : World) (v : Value) (xs : List α) : Prop where
  ex : ∃ css : List (Cs sz), css.length = xs.length ∧ OwC e sz base w v css ∧ ∀ i (h1 : i < css.length) (h2 : i < xs.length), Stab (Own1 v base) (fun w => C w css[i].1 xs[i]) w
section
variable {α : Type} {C : World → List Value → α → Prop} {e : TypeId} {sz base : Nat} {w w' : World} {v : Value} {xs : List α}
theorem RowC.nil (C : World → List Value → α → Prop) (e : TypeId) (sz base : Nat) (w : World) : RowC C e sz base w (.slice none 0 0) [] := ⟨[], rfl, OwR.nil _ _ _ _ _, fun i h => by cases h⟩
theorem RowC.form (h : RowC C e sz base w v xs) : ∃ oa cap, v = .slice oa xs.length cap ∧ xs.length ≤ cap ∧ cap ≤ maxLen := by
  obtain ⟨css, hl, ho, _⟩ := h.ex
  obtain ⟨oa, cap, h1, h2, h3⟩ := ho.form
  exact ⟨oa, cap, by rw [h1, hl], by omega, h3⟩
theorem RowC.lt (h : RowC C e sz base w v xs) : ∀ k, v.ownBlock = some k → base ≤ k ∧ k < w.heap.size := by
  obtain ⟨css, hl, ho, _⟩ := h.ex
  exact ho.lt
theorem OwR.mod {enc : α → List Value} {A : Nat → Prop} (h : OwR enc e sz base w v xs) (m : Mod A w w') (hA : ∀ k, v.ownBlock = some k → ¬ A k) : OwR enc e sz base w' v xs := by
  refine ⟨h.1, ?_⟩
  rcases h.2 with hn | ⟨g, cap, cur, rfl, hb, hg, rest⟩
  · exact .inl hn
  · exact .inr ⟨g, cap, cur, rfl, hb, m.obj (hA g rfl) hg, rest⟩
theorem OwR.blk {enc : α → List Value} (h : OwR enc e sz base w v xs) : ∀ k, v.ownBlock = some k → ∃ cur, w.heap[k]? = some (.cells cur e) := fun k hk => by
  rcases h.2 with ⟨rfl, _⟩ | ⟨g, cap, cur, rfl, hb, hg, rest⟩
  · cases hk
  · simp only [Value.ownBlock, Option.some.injEq] at hk
    subst hk
    exact ⟨cur, hg⟩
theorem RowC.mod {A : Nat → Prop} (h : RowC C e sz base w v xs) (m : Mod A w w') (hA : ∀ k, k < w.heap.size → A k → k < base) : RowC C e sz base w' v xs := by
  obtain ⟨css, hl, ho, hc⟩ := h.ex
  refine ⟨css, hl, ho.mod m fun k hk a => ?_, fun i h1 h2 => (hc i h1 h2).move m (fun i hi a => .inr (hA i hi a)) fun _ _ a => a⟩
  have := ho.lt k hk
  have := hA k this.2 a
  omega
theorem RowC.ext (h : RowC C e sz base w v xs) (m : Ext w w') : RowC C e sz base w' v xs := h.mod (A := fun _ => False) m.mod fun _ _ h => h.elim
theorem RowC.wr {b : Nat} (h : RowC C e sz base w v xs) (m : Wr b w w') (hb : b < base) : RowC C e sz base w' v xs := h.mod (A := fun k => k = b) (m.mod rfl) fun k _ e => by omega
theorem RowC.new {R : World → Addr → α → Prop} [Rel R C sz] (h : RowC C e sz base w v xs) : Stab (fun k => k < base) (fun w => SlR sz R w v xs) w := fun w' m => by
  have h' := h.mod m fun k _ a => a
  obtain ⟨css, hl, ho, hc⟩ := h'.ex
  exact SlR.ofCells hl (ho.slr encC_len) fun i h1 h2 => (hc i h1 h2).here
theorem RowC.slr {R : World → Addr → α → Prop} [Rel R C sz] (h : RowC C e sz base w v xs) : SlR sz R w v xs := (h.new (R := R)).here
theorem RowC.under (h : RowC C e sz base w v xs) (hb : base ≤ w.heap.size) : ∀ k, Own1 v base k → k < w.heap.size := fun k hk => by
  rcases hk with hk | hk
  · exact (h.lt k hk).2
  · omega
theorem New.own {p : World → Prop} {w1 : World} (hn : New w p w1) (h : RowC C e sz base w v xs) (hb : base ≤ w.heap.size) : Stab (Own1 v base) p w1 := hn.mono fun i _ hi => h.under hb i hi
/-- What an own row's growth leaves: blocks of other types. -/
theorem RowC.box {t : TypeId} {k : Nat} {c : Array Value} (ho : RowC C e sz base w v xs) (hg : w.grownBy w' v.ownBlock) (hk : w.heap[k]? = some (.cells c t)) (ht : t ≠ e) : w'.heap[k]? = some (.cells c t) := by
  obtain ⟨css, _, ho, _⟩ := ho.ex
  rw [hg.block k (lt_of_heap hk) fun e' => ?_]
  · exact hk
  rcases ho.2 with ⟨rfl, _⟩ | ⟨g, cap, c2, rfl, _, hgg, _⟩
  · cases e'
  · simp only [Value.ownBlock, Option.some.injEq] at e'
    subst e'
    rw [hgg] at hk
    injection hk with hk
    injection hk with _ hk
    exact ht hk.symm
theorem RowC.extG {w0 : World} (ho : RowC C e sz base w v xs) (he : Ext w0 w) (hg : w.grownBy w' v.ownBlock) (hb : w0.heap.size ≤ base) : Ext w0 w' := he.grown hg fun k hk => Nat.le_trans hb (ho.lt k hk).1
end
section
variable {α : Type} {enc : α → List Value} {e : TypeId} {sz base : Nat} {w w' : World} {v : Value} {xs : List α}
/-- What an own row's growth leaves: blocks of other types. -/
theorem OwR.box {t : TypeId} {k : Nat} {c : Array Value} (ho : OwR enc e sz base w v xs) (hg : w.grownBy w' v.ownBlock) (hk : w.heap[k]? = some (.cells c t)) (ht : t ≠ e) : w'.heap[k]? = some (.cells c t) := by
  rw [hg.block k (lt_of_heap hk) fun e' => ?_]
  · exact hk
  · obtain ⟨cur, h⟩ := ho.blk k e'.symm
    rw [hk] at h; injection h with h; injection h with _ h; exact ht h
theorem OwR.extG {w0 : World} (ho : OwR enc e sz base w v xs) (he : Ext w0 w) (hg : w.grownBy w' v.ownBlock) (hb : w0.heap.size ≤ base) : Ext w0 w' := he.grown hg fun k hk => Nat.le_trans hb (ho.lt k hk).1
/-- One element, just made, is put behind. -/
theorem K.app1 {P : Program} {KK : Value → World → Prop} {ty : TypeId} {bb b : Nat} {y : α} {cs : List Value} {t} (hs : OwR enc e sz base w v xs) (hc : w.heap[b]? = some (.cells cs.toArray e)) (hcs : cs = enc y) (hsz : ∀ x, (enc x).length = sz) (h1 : ∀ y, ∀ u ∈ enc y, u.oneCell' = true)
    (hb : (xs.length + 1) * bb ≤ 140737488355328) (h63 : xs.length + 1 ≤ maxLen) (hbase : base ≤ w.heap.size)
    (hk : ∀ oa n c w', OwR enc e sz base w' (.slice oa n c) (xs ++ [y]) → w.grownBy w' v.ownBlock → KK (.slice oa n c) w') : AppVCh P ty e sz bb v (.slice (some ⟨b, 0, none⟩) 1 1) w KK t := by
  refine K.appAt (ys := [y]) hs hsz (by subst hcs; simpa using cellsAt_blk hc) rfl h1 hb h63 hbase fun v' w' ho hg _ => ?_
  obtain ⟨oa, cap, rfl, _⟩ := ho.form
  exact hk _ _ _ _ ho hg
end
theorem RowC.done {α : Type} {C : World → List Value → α → Prop} {e : TypeId} {sz base : Nat} {w : World} {v : Value} {l : List α} {k : Nat} (hk : l.length ≤ k) (h : RowC C e sz base w v (l.take k)) : RowC C e sz base w v l := by
  rwa [List.take_of_length_le hk] at h
end Lite
end
section
/- Lite, part 15: structs, and slices with nothing, compared; lists compared, cloned, searched: by the shape of the code. -/
set_option maxRecDepth 4000
namespace Lite
open Go Go.RowKit
/-- Kinds of plain cells. -/
inductive VK where
  | i
  | b
  | s
deriving DecidableEq
def VK.of : TypeDesc → Option VK
  | .int .i64 => some .i
  | .bool => some .b
  | .string => some .s
  | _ => none
theorem VK.of_i {td : TypeDesc} (h : VK.of td = some .i) : td = .int .i64 := by unfold VK.of at h; split at h <;> simp_all
theorem VK.of_b {td : TypeDesc} (h : VK.of td = some .b) : td = .bool := by unfold VK.of at h; split at h <;> simp_all
theorem VK.of_s {td : TypeDesc} (h : VK.of td = some .s) : td = .string := by unfold VK.of at h; split at h <;> simp_all
def VK.ok : VK → Value → Prop
  | .i, v => ∃ n, v = .int .i64 n
  | .b, v => ∃ n, v = .bool n
  | .s, v => ∃ n, v = .string n
def conf : List VK → List Value → Prop
  | [], [] => True
  | k :: ks, v :: vs => k.ok v ∧ conf ks vs
  | _, _ => False
theorem conf_len : ∀ {ks : List VK} {vs : List Value}, conf ks vs → vs.length = ks.length
  | [], [], _ => rfl
  | _ :: _, _ :: _, h => by simp [conf_len h.2]
  | [], _ :: _, h => h.elim
  | _ :: _, [], h => h.elim
def fsOk (P : Program) : List Field → List VK → Nat → Bool
  | [], [], _ => true
  | f :: fs, k :: ks, n => f.name != "_" && f.offset == n && ((P.underlying f.type).bind VK.of == some k) && fsOk P fs ks (n + 1)
  | _, _, _ => false
def eqSt (P : Program) (t : TypeId) (sig : List VK) : Bool :=
  match P.underlying t with
  | some (.struct fs) => !P.stoodInHeld t && !P.eqGuardType P.depth t && fsOk P fs.toList sig 0
  | _ => false
theorem drop_cons {α : Type} {l : List α} {n : Nat} {x : α} {r : List α} (h : l.drop n = x :: r) : l[n]? = some x ∧ l.drop (n + 1) = r := by
  have h1 : l[n]? = some x := by
    have := congrArg (·[0]?) h
    simpa using this
  refine ⟨h1, ?_⟩
  have := congrArg (List.drop 1) h
  simpa [List.drop_drop] using this
theorem eqF {P : Program} (w : World) (d : Nat) (xs ys : Array Value) : ∀ (fs : List Field) (ks : List VK) (n : Nat), fsOk P fs ks n = true → conf ks (xs.toList.drop n) → conf ks (ys.toList.drop n) →
    ∃ r : Bool, (Op.eqFields (d + 1) xs ys fs).run P w = .ok r w ∧ (r = true ↔ xs.toList.drop n = ys.toList.drop n)
  | [], [], n, _, hx, hy => by
    refine ⟨true, by simp [Op.eqFields], ?_⟩
    have h1 := conf_len hx
    have h2 := conf_len hy
    rw [List.eq_nil_of_length_eq_zero h1, List.eq_nil_of_length_eq_zero h2]
    simp
  | [], _ :: _, _, h, _, _ => by simp [fsOk] at h
  | _ :: _, [], _, h, _, _ => by simp [fsOk] at h
  | f :: fs, k :: ks, n, h, hx, hy => by
    simp only [fsOk, Bool.and_eq_true, bne_iff_ne, ne_eq, beq_iff_eq] at h
    obtain ⟨⟨⟨h1, h2⟩, h3⟩, h4⟩ := h
    obtain ⟨td, hu, hk⟩ := Option.bind_eq_some_iff.1 h3
    cases hdx : xs.toList.drop n with
    | nil => rw [hdx] at hx; exact hx.elim
    | cons x rx =>
      cases hdy : ys.toList.drop n with
      | nil => rw [hdy] at hy; exact hy.elim
      | cons y ry =>
        rw [hdx] at hx
        rw [hdy] at hy
        obtain ⟨ex, exr⟩ := drop_cons hdx
        obtain ⟨ey, eyr⟩ := drop_cons hdy
        obtain ⟨r, hr, hiff⟩ := eqF w d xs ys fs ks (n + 1) h4 (by rw [exr]; exact hx.2) (by rw [eyr]; exact hy.2)
        have ha : aggT P f.type = some false := by
          unfold aggT
          rw [hu]
          cases td <;> simp [VK.of] at hk <;> rfl
        have ex' : xs[n]? = some x := by rw [← Array.getElem?_toList]; exact ex
        have ey' : ys[n]? = some y := by rw [← Array.getElem?_toList]; exact ey
        have px : (part f.type xs f.offset).run P w = .ok x w := by simp [part, run_isAgg ha, h2, ex']
        have py : (part f.type ys f.offset).run P w = .ok y w := by simp [part, run_isAgg ha, h2, ey']
        have pe : ∃ q : Bool, (Op.equalIn (d + 1) f.type x y).run P w = .ok q w ∧ (q = true ↔ x = y) := by
          cases k with
          | i =>
            obtain ⟨a, rfl⟩ := hx.1
            obtain ⟨b, rfl⟩ := hy.1
            have ht := VK.of_i hk
            subst ht
            exact ⟨_, run_equalIn_int w d f.type .i64 .i64 a b hu, by simp⟩
          | b =>
            obtain ⟨a, rfl⟩ := hx.1
            obtain ⟨b, rfl⟩ := hy.1
            have ht := VK.of_b hk
            subst ht
            exact ⟨_, run_equalIn_bool' w d f.type a b hu, by simp⟩
          | s =>
            obtain ⟨a, rfl⟩ := hx.1
            obtain ⟨b, rfl⟩ := hy.1
            have ht := VK.of_s hk
            subst ht
            exact ⟨_, run_equalIn_string w d f.type a b hu, by rw [← beq_toListBytes]; simp⟩
        obtain ⟨q, hq, hqi⟩ := pe
        refine ⟨q && r, ?_, ?_⟩
        · simp only [Op.eqFields, h1, ne_eq, not_false_eq_true, if_true, Sem.run_bind, px, py, hq, Result.andThen_ok]
          cases q
          · simp
          · simpa using hr
        · rw [exr, eyr] at hiff
          simp only [Bool.and_eq_true, hqi, hiff, List.cons.injEq]
theorem run_eqSt {P : Program} {t : TypeId} {sig : List VK} (h : eqSt P t sig = true) (w : World) {xs ys : List Value} (hx : conf sig xs) (hy : conf sig ys) (x y : Operand) :
    ∃ r : Bool, (r = true ↔ xs = ys) ∧ ∀ w, (do eqGuard .eql t x y (.agg xs.toArray) (.agg ys.toArray); binOp .eql t (.agg xs.toArray) (.agg ys.toArray) : Sem Value).run P w = .ok (.bool r) w ∧
      (do eqGuard .neq t x y (.agg xs.toArray) (.agg ys.toArray); binOp .neq t (.agg xs.toArray) (.agg ys.toArray) : Sem Value).run P w = .ok (.bool (!r)) w := by
  unfold eqSt at h
  cases hu : P.underlying t with
  | none => rw [hu] at h; cases h
  | some td =>
    cases td <;> simp [hu] at h
    rename_i fs
    obtain ⟨⟨h1, h2⟩, h3⟩ := h
    have hfs : P.fieldsOf t = fs := by simp [Program.fieldsOf, hu]
    have key : ∀ w, ∃ r : Bool, (Op.equalIn 10000 t (.agg xs.toArray) (.agg ys.toArray)).run P w = .ok r w ∧ (r = true ↔ xs = ys) := fun w => by
      obtain ⟨r, hr, hi⟩ := eqF (P := P) w 9998 xs.toArray ys.toArray fs.toList sig 0 h3 (by simpa using hx) (by simpa using hy)
      refine ⟨r, ?_, by simpa using hi⟩
      rw [run_equalIn_struct w 9999 t _ _ (by rw [hfs]; exact hu) h1, hfs]
      exact hr
    obtain ⟨r, _, hi⟩ := key w
    refine ⟨r, hi, fun w' => ?_⟩
    obtain ⟨r', hr', hi'⟩ := key w'
    have : r' = r := by
      rcases Bool.eq_false_or_eq_true r with e | e
      · rw [e]; exact hi'.2 (hi.1 e)
      · rw [e]; exact Bool.eq_false_iff.2 fun h => by rw [hi.2 (hi'.1 h)] at e; cases e
    subst this
    refine ⟨?_, ?_⟩
    · simp only [Sem.run_bind, run_eqGuard_agg w' .eql t x y _ _ h2, Result.andThen_ok, run_eql_struct, hr']
    · simp only [Sem.run_bind, run_eqGuard_agg w' .neq t x y _ _ h2, Result.andThen_ok, run_neq_struct, hr']
section
variable {P : Program} {K3 : Value → Prop} {cx cy : Operand}
theorem K.eqS {t : TypeId} {sig : List VK} {xs ys : List Value} {tk} (h : eqSt P t sig = true) (hx : conf sig xs) (hy : conf sig ys) (hk : ∀ r : Bool, (r = true ↔ xs = ys) → K3 (.bool r)) : BinVCh P .eql t cx cy (.agg xs.toArray) (.agg ys.toArray) K3 tk := by
  obtain ⟨r, h1, h2⟩ := run_eqSt h default hx hy cx cy
  exact K.bin (fun w => (h2 w).1) (hk r h1)
theorem K.neS {t : TypeId} {sig : List VK} {xs ys : List Value} {tk} (h : eqSt P t sig = true) (hx : conf sig xs) (hy : conf sig ys) (hk : ∀ r : Bool, (r = true ↔ xs ≠ ys) → K3 (.bool r)) : BinVCh P .neq t cx cy (.agg xs.toArray) (.agg ys.toArray) K3 tk := by
  obtain ⟨r, h1, h2⟩ := run_eqSt h default hx hy cx cy
  exact K.bin (fun w => (h2 w).2) (hk (!r) (by rw [ne_eq, ← h1]; cases r <;> simp))
end
end Lite
end
section
/- Lite, part 16: regions whose order is open, of a few known shapes: two variables made of two structs; of what two calls give. -/
set_option maxRecDepth 4000
namespace Lite
open Go Go.RowKit
section
variable {P : Program} {w0 w : World} {S : Fr} {K : Fr → World → Prop}
/-- What is drawn ahead. -/
def strip : Sch → List Step × Sch
  | .take s r => (s :: (strip r).1, (strip r).2)
  | t => ([], t)
theorem svc_strip : ∀ (t : Sch) (S : Fr), qsteps P (strip t).1 S w0 (fun S' => svc P w0 (strip t).2 S' w K) → svc P w0 t S w K
  | .take ⟨d, none, i⟩ r, S, h => by
    show QVC P i S w0 fun v => svc P w0 r (put S d v) w K
    have h' : QVC P i S w0 fun v => qsteps P (strip r).1 (put S d v) w0 (fun S' => svc P w0 (strip r).2 S' w K) := h
    exact QVC.mono (fun v hv => svc_strip r _ hv) h'
  | .take ⟨d, some (j, b), i⟩ r, S, h => by
    rcases h with ⟨t, ht, h1, h2⟩ | ⟨hu, h3⟩
    · exact .inl ⟨t, ht, fun e => QVC.mono (fun v hv => svc_strip r _ hv) (h1 e), fun e => svc_strip r _ (h2 e)⟩
    · exact .inr ⟨hu, svc_strip r _ h3⟩
  | .done, S, h => h
  | .nil, S, h => h
  | .alt _ _ _, S, h => h
  | .fre _ _ _, S, h => h
  | .wide _, S, h => h
theorem stAb_ok {b n : Nat} {c cs : Array Value} {e : TypeId} {KW : World → Prop} (hb : w.heap[b]? = some (.cells c e)) (hc : c.size = n) (hn : cs.size = n) (h1 : ∀ x ∈ cs.toList, x.oneCell' = true)
    (hk : ∀ w1, Wr b w w1 → w1.heap[b]? = some (.cells cs e) → KW w1) : StAVC n (.pointer (some ⟨b, 0, none⟩)) (.agg cs) w KW :=
  stA_ok hn (fun j hj => ⟨⟨_, cell_blk hb (Array.getElem?_eq_getElem (by omega))⟩, by rw [add_eq]; simp [World.frozen?, hb]⟩) h1 (hk _ (Wr.setAll cs.toList w ⟨b, 0, none⟩ 0) (setAll_blk hb (by omega)))
/-- A variable that is made, and then stored to. -/
structure VarS where
  d : Nat
  ty : TypeId
  z : Array Value
  n : Nat
  x : Nat
def VarS.new (v : VarS) : Step := ⟨some v.d, none, .e (.new v.ty (.agg v.z))⟩
def VarS.st (v : VarS) : Step := ⟨none, none, .e (.stA v.n (.tmp v.d) (.tmp v.x))⟩
theorem altS_st (v : VarS) (k : Fr → World → Prop) : altS P w0 v.st S w k = StAVC v.n (S v.d) (S v.x) w (fun w' => Ext w0 w' ∧ k S w') := rfl
theorem freS_st (v : VarS) (k : Fr → World → Prop) : freS P v.st S w k = StAVC v.n (S v.d) (S v.x) w (fun w' => k S w') := rfl
def twoT (a b : VarS) : Sch :=
  .alt a.new (.alt b.new (.alt a.st (.fre b.st .done .nil) .nil) .nil) (.alt b.new (.alt a.new (.alt a.st (.fre b.st .done .nil) .nil) .nil) .nil)
theorem upd_comm (S : Fr) {a b : Nat} (h : a ≠ b) (x y : Value) : upd (upd S a x) b y = upd (upd S b y) a x := by
  funext t; unfold upd; split <;> split <;> simp_all
theorem two_sv (a b : VarS) {xa xb : List Value} (hd : (a.d != b.d && a.x != a.d && a.x != b.d && b.x != a.d && b.x != b.d) = true) (hza : a.z.size = a.n) (hzb : b.z.size = b.n) (ha : S a.x = .agg xa.toArray) (hb : S b.x = .agg xb.toArray) (hla : xa.length = a.n) (hlb : xb.length = b.n)
    (h1a : ∀ u ∈ xa, u.oneCell' = true) (h1b : ∀ u ∈ xb, u.oneCell' = true)
    (hk : ∀ w' ba bb, Ext w0 w' → w0.heap.size ≤ ba → w0.heap.size ≤ bb → ba ≠ bb → w'.heap[ba]? = some (.cells xa.toArray a.ty) → w'.heap[bb]? = some (.cells xb.toArray b.ty) →
      K (upd (upd S a.d (.pointer (some ⟨ba, 0, none⟩))) b.d (.pointer (some ⟨bb, 0, none⟩))) w') : svc P w0 (twoT a b) S w0 K := by
  simp only [Bool.and_eq_true, bne_iff_ne, ne_eq] at hd
  obtain ⟨⟨⟨⟨d1, d2⟩, d3⟩, d4⟩, d5⟩ := hd
  have fin : ∀ (S' : Fr) (w2 : World) (ba bb : Nat), S' = upd (upd S a.d (.pointer (some ⟨ba, 0, none⟩))) b.d (.pointer (some ⟨bb, 0, none⟩)) → Ext w0 w2 → w0.heap.size ≤ ba → w0.heap.size ≤ bb → ba ≠ bb →
      w2.heap[ba]? = some (.cells a.z a.ty) → w2.heap[bb]? = some (.cells b.z b.ty) → svc P w0 (.alt a.st (.fre b.st .done .nil) .nil) S' w2 K := by
    rintro S' w2 ba bb rfl he h1 h2 hne hca hcb
    refine ⟨?_, trivial⟩
    have e1 : upd (upd S a.d (.pointer (some ⟨ba, 0, none⟩))) b.d (.pointer (some ⟨bb, 0, none⟩)) a.d = .pointer (some ⟨ba, 0, none⟩) := by simp [upd, d1]
    have e2 : upd (upd S a.d (.pointer (some ⟨ba, 0, none⟩))) b.d (.pointer (some ⟨bb, 0, none⟩)) a.x = .agg xa.toArray := by simp [upd, d2, d3, ha]
    have e3 : upd (upd S a.d (.pointer (some ⟨ba, 0, none⟩))) b.d (.pointer (some ⟨bb, 0, none⟩)) b.d = .pointer (some ⟨bb, 0, none⟩) := by simp [upd]
    have e4 : upd (upd S a.d (.pointer (some ⟨ba, 0, none⟩))) b.d (.pointer (some ⟨bb, 0, none⟩)) b.x = .agg xb.toArray := by simp [upd, d4, d5, hb]
    rw [altS_st, e1, e2]
    refine stAb_ok hca hza (by simpa using hla) (by simpa using h1a) fun w3 hw3 hc3 => ⟨hw3.ext he h1, ?_⟩
    refine ⟨?_, trivial⟩
    rw [freS_st, e3, e4]
    refine stAb_ok (hw3.obj hcb (Ne.symm hne)) hzb (by simpa using hlb) (by simpa using h1b) fun w4 hw4 hc4 => ?_
    exact hk w4 ba bb (hw4.ext (hw3.ext he h1) h2) h1 h2 hne (hw4.obj hc3 hne) hc4
  have m1 : ∀ (o o' : Obj), ((w0.alloc o).alloc o').heap[w0.heap.size]? = some o := fun o o' => ((Ext.refl (w0.alloc o)).alloc o').obj (heap_alloc_new w0 o)
  have m2 : ∀ (o o' : Obj), ((w0.alloc o).alloc o').heap[w0.heap.size + 1]? = some o' := fun o o' => by
    have := heap_alloc_new (w0.alloc o) o'
    rwa [World.size_alloc] at this
  refine ⟨⟨(Ext.refl _).alloc _, ⟨((Ext.refl _).alloc _).alloc _, ?_⟩, trivial⟩, ⟨(Ext.refl _).alloc _, ⟨((Ext.refl _).alloc _).alloc _, ?_⟩, trivial⟩, trivial⟩
  · refine fin _ _ w0.heap.size (w0.heap.size + 1) ?_ (((Ext.refl _).alloc _).alloc _) (Nat.le_refl _) (by omega) (by omega) (m1 _ _) (m2 _ _)
    show upd (upd S a.d _) b.d (.pointer (some ⟨(w0.alloc _).heap.size, 0, none⟩)) = _
    rw [World.size_alloc]
  · refine fin _ _ (w0.heap.size + 1) w0.heap.size ?_ (((Ext.refl _).alloc _).alloc _) (by omega) (Nat.le_refl _) (by omega) (m2 _ _) (m1 _ _)
    show upd (upd S b.d _) a.d (.pointer (some ⟨(w0.alloc _).heap.size, 0, none⟩)) = _
    rw [World.size_alloc, upd_comm S (Ne.symm d1)]
/-- Two variables are made of two structs, in whichever order. -/
theorem K.two {Q : LX → Fr → World → Prop} {t : Sch} {b' : LC} {tk} (l : List Step) (da : Nat) (ta : TypeId) (za : Array Value) (na pa db : Nat) (tb : TypeId) (zb : Array Value) (nb pb : Nat) (ht : strip t = (l, twoT ⟨da, ta, za, na, pa⟩ ⟨db, tb, zb, nb, pb⟩)) (hd : (da != db && pa != da && pa != db && pb != da && pb != db) = true) (hza : za.size = na) (hzb : zb.size = nb)
    (hk : ∀ w1, Ext w w1 → qstepsh P l S w1 (fun S' => ∃ xa xb : List Value, S' pa = .agg xa.toArray ∧ S' pb = .agg xb.toArray ∧ xa.length = na ∧ xb.length = nb ∧ (∀ u ∈ xa, u.oneCell' = true) ∧ (∀ u ∈ xb, u.oneCell' = true) ∧
      ∀ w' ba bb, Ext w1 w' → w1.heap.size ≤ ba → w1.heap.size ≤ bb → ba ≠ bb → w'.heap[ba]? = some (.cells xa.toArray ta) → w'.heap[bb]? = some (.cells xb.toArray tb) →
        vch P b' Q (upd (upd S' da (.pointer (some ⟨ba, 0, none⟩))) db (.pointer (some ⟨bb, 0, none⟩))) w' ⟨⟩) ⟨⟩) : vch P (.seq (.sch t) b') Q S w tk := by
  unfold vch qstepsh at *
  show vc P (.sch t) _ S w
  intro w1 he
  refine svc_strip t S ?_
  have h := hk w1 he
  rw [ht]
  refine qsteps_keep l S w1 _ _ (fun S' _ h' => ?_) h
  obtain ⟨xa, xb, h1, h2, h3, h4, h5, h6, h7⟩ := h'
  exact two_sv ⟨da, ta, za, na, pa⟩ ⟨db, tb, zb, nb, pb⟩ hd hza hzb h1 h2 h3 h4 h5 h6 fun w' ba bb e1 e2 e3 e4 e5 e6 => h7 w' ba bb e1 e2 e3 e4 e5 e6
/-! ### Two variables made of what two calls give -/
/-- It holds in each world in which what the call laid is as it was. -/
def Kp (w0 w w' : World) (p : World → Prop) : Prop := ∀ w'', Ext w0 w'' → w'.heap.size ≤ w''.heap.size → (∀ k, w.heap.size ≤ k → k < w'.heap.size → w''.heap[k]? = w'.heap[k]?) → p w''
theorem Kp.of {w0 w w' : World} {p : World → Prop} (h : ∀ w'', Ext w0 w'' → p w'') : Kp w0 w w' p := fun w'' he _ _ => h w'' he
def twoTl (a b : VarS) : Sch := .fre a.st (.fre b.st .done .nil) .nil
structure TwoSt (w0 : World) (a b : VarS) (S : Fr) (pa pb : List Value → World → Prop) (fa fb na nb : Bool) (S' : Fr) (w : World) (xa xb : List Value) (la ha lb hb qa qb : Nat) : Prop where
  ext : Ext w0 w
  fr : ∀ t, t ≠ a.d → t ≠ b.d → t ≠ a.x → t ≠ b.x → S' t = S t
  a1 : fa = true → S' a.x = .agg xa.toArray ∧ xa.length = a.n ∧ (∀ u ∈ xa, u.oneCell' = true) ∧ ha ≤ w.heap.size ∧ ∀ w'', Ext w0 w'' → w.heap.size ≤ w''.heap.size → (∀ k, la ≤ k → k < ha → w''.heap[k]? = w.heap[k]?) → pa xa w''
  b1 : fb = true → S' b.x = .agg xb.toArray ∧ xb.length = b.n ∧ (∀ u ∈ xb, u.oneCell' = true) ∧ hb ≤ w.heap.size ∧ ∀ w'', Ext w0 w'' → w.heap.size ≤ w''.heap.size → (∀ k, lb ≤ k → k < hb → w''.heap[k]? = w.heap[k]?) → pb xb w''
  a2 : na = true → S' a.d = .pointer (some ⟨qa, 0, none⟩) ∧ w0.heap.size ≤ qa ∧ qa < w.heap.size ∧ w.heap[qa]? = some (.cells a.z a.ty)
  b2 : nb = true → S' b.d = .pointer (some ⟨qb, 0, none⟩) ∧ w0.heap.size ≤ qb ∧ qb < w.heap.size ∧ w.heap[qb]? = some (.cells b.z b.ty)
  aa : fa = true → na = true → qa < la ∨ ha ≤ qa
  ab : fa = true → nb = true → qb < la ∨ ha ≤ qb
  ba : fb = true → na = true → qa < lb ∨ hb ≤ qa
  bb : fb = true → nb = true → qb < lb ∨ hb ≤ qb
  nn : na = true → nb = true → qa ≠ qb
structure Slots4 (a b : VarS) : Prop where
  d12 : a.d ≠ b.d
  d13 : a.d ≠ a.x
  d14 : a.d ≠ b.x
  d23 : b.d ≠ a.x
  d24 : b.d ≠ b.x
  d34 : a.x ≠ b.x
section
variable {a b : VarS} {pa pb : List Value → World → Prop} {fa fb na nb : Bool} {S' : Fr} {xa xb : List Value} {la ha lb hb qa qb : Nat}
theorem TwoSt.call (hs : Slots4 a b) (h : TwoSt w0 a b S pa pb false fb na nb S' w xa xb la ha lb hb qa qb) {w1 : World} {x : List Value} (he : Ext w w1) (hl : x.length = a.n) (h1 : ∀ u ∈ x, u.oneCell' = true) (hp : Kp w0 w w1 (pa x)) :
    TwoSt w0 a b S pa pb true fb na nb (upd S' a.x (.agg x.toArray)) w1 x xb w.heap.size w1.heap.size lb hb qa qb := by
  refine ⟨h.ext.trans he, fun t t1 t2 t3 t4 => by rw [upd_at, if_neg t3]; exact h.fr t t1 t2 t3 t4, fun _ => ⟨by simp [upd], hl, h1, Nat.le_refl _, fun w'' e1 e2 e3 => hp w'' e1 e2 e3⟩, fun f => ?_, fun f => ?_, fun f => ?_, fun _ f => .inl (h.a2 f).2.2.1, fun _ f => .inl (h.b2 f).2.2.1, h.ba, h.bb, h.nn⟩
  · obtain ⟨k1, k2, k3, k4, k5⟩ := h.b1 f
    refine ⟨by rw [upd_at, if_neg hs.d34.symm]; exact k1, k2, k3, Nat.le_trans k4 he.size, fun w'' e1 e2 e3 => k5 w'' e1 (Nat.le_trans he.size e2) fun k g1 g2 => ?_⟩
    rw [e3 k g1 g2, he.heap (by omega)]
  · obtain ⟨k1, k2, k3, k4⟩ := h.a2 f
    exact ⟨by rw [upd_at, if_neg hs.d13]; exact k1, k2, Nat.lt_of_lt_of_le k3 he.size, he.obj k4⟩
  · obtain ⟨k1, k2, k3, k4⟩ := h.b2 f
    exact ⟨by rw [upd_at, if_neg hs.d23]; exact k1, k2, Nat.lt_of_lt_of_le k3 he.size, he.obj k4⟩
theorem TwoSt.new (hs : Slots4 a b) (h : TwoSt w0 a b S pa pb fa fb false nb S' w xa xb la ha lb hb qa qb) :
    TwoSt w0 a b S pa pb fa fb true nb (upd S' a.d (.pointer (some ⟨w.heap.size, 0, none⟩))) (w.alloc (.cells a.z a.ty)) xa xb la ha lb hb w.heap.size qb := by
  have he : Ext w (w.alloc (.cells a.z a.ty)) := (Ext.refl w).alloc _
  have hz : (w.alloc (.cells a.z a.ty)).heap.size = w.heap.size + 1 := World.size_alloc _ _
  refine ⟨h.ext.trans he, fun t t1 t2 t3 t4 => by rw [upd_at, if_neg t1]; exact h.fr t t1 t2 t3 t4, fun f => ?_, fun f => ?_, fun _ => ⟨by simp [upd], h.ext.size, by omega, heap_alloc_new w _⟩, fun f => ?_, fun f _ => .inr (h.a1 f).2.2.2.1, h.ab, fun f _ => .inr (h.b1 f).2.2.2.1, h.bb, fun _ f => by have := (h.b2 f).2.2.1; omega⟩
  · obtain ⟨k1, k2, k3, k4, k5⟩ := h.a1 f
    refine ⟨by rw [upd_at, if_neg hs.d13.symm]; exact k1, k2, k3, by omega, fun w'' e1 e2 e3 => k5 w'' e1 (by omega) fun k g1 g2 => ?_⟩
    rw [e3 k g1 g2, he.heap (by omega)]
  · obtain ⟨k1, k2, k3, k4, k5⟩ := h.b1 f
    refine ⟨by rw [upd_at, if_neg hs.d14.symm]; exact k1, k2, k3, by omega, fun w'' e1 e2 e3 => k5 w'' e1 (by omega) fun k g1 g2 => ?_⟩
    rw [e3 k g1 g2, he.heap (by omega)]
  · obtain ⟨k1, k2, k3, k4⟩ := h.b2 f
    exact ⟨by rw [upd_at, if_neg hs.d12.symm]; exact k1, k2, by omega, he.obj k4⟩
theorem TwoSt.fin (hs : Slots4 a b) (hza : a.z.size = a.n) (hzb : b.z.size = b.n) (h : TwoSt w0 a b S pa pb true true true true S' w xa xb la ha lb hb qa qb)
    (hk : ∀ w' xa xb ba bb, Ext w0 w' → w0.heap.size ≤ ba → w0.heap.size ≤ bb → ba ≠ bb → w'.heap[ba]? = some (.cells xa.toArray a.ty) → w'.heap[bb]? = some (.cells xb.toArray b.ty) → pa xa w' → pb xb w' →
      K (upd (upd (upd (upd S a.x (.agg xa.toArray)) b.x (.agg xb.toArray)) a.d (.pointer (some ⟨ba, 0, none⟩))) b.d (.pointer (some ⟨bb, 0, none⟩))) w') : svc P w0 (twoTl a b) S' w K := by
  obtain ⟨k1, k2, k3, k4, k5⟩ := h.a1 rfl
  obtain ⟨m1, m2, m3, m4, m5⟩ := h.b1 rfl
  obtain ⟨j1, j2, j3, j4⟩ := h.a2 rfl
  obtain ⟨n1, n2, n3, n4⟩ := h.b2 rfl
  have hne := h.nn rfl rfl
  have raa := h.aa rfl rfl
  have rab := h.ab rfl rfl
  have rba := h.ba rfl rfl
  have rbb := h.bb rfl rfl
  have e : S' = upd (upd (upd (upd S a.x (.agg xa.toArray)) b.x (.agg xb.toArray)) a.d (.pointer (some ⟨qa, 0, none⟩))) b.d (.pointer (some ⟨qb, 0, none⟩)) := by
    funext t
    simp only [upd_at]
    by_cases t1 : t = b.d
    · rw [if_pos t1, t1, n1]
    rw [if_neg t1]
    by_cases t2 : t = a.d
    · rw [if_pos t2, t2, j1]
    rw [if_neg t2]
    by_cases t3 : t = b.x
    · rw [if_pos t3, t3, m1]
    rw [if_neg t3]
    by_cases t4 : t = a.x
    · rw [if_pos t4, t4, k1]
    rw [if_neg t4]
    exact h.fr t t2 t1 t4 t3
  refine ⟨?_, trivial⟩
  rw [freS_st, j1, k1]
  refine stAb_ok j4 hza (by simpa using k2) (by simpa using k3) fun w1 hw1 hc1 => ?_
  refine ⟨?_, trivial⟩
  rw [freS_st, n1, m1]
  refine stAb_ok (hw1.obj n4 (Ne.symm hne)) hzb (by simpa using m2) (by simpa using m3) fun w2 hw2 hc2 => ?_
  have e02 := hw2.ext (hw1.ext h.ext j2) n2
  have hsz : w.heap.size ≤ w2.heap.size := by rw [hw2.size, hw1.size]; exact Nat.le_refl _
  have hold : ∀ k, k ≠ qa → k ≠ qb → w2.heap[k]? = w.heap[k]? := fun k g1 g2 => by rw [hw2.block k g2, hw1.block k g1]
  rw [e]
  exact hk w2 xa xb qa qb e02 j2 n2 hne (hw2.obj hc1 hne) hc2 (k5 w2 e02 hsz fun k g1 g2 => hold k (by omega) (by omega)) (m5 w2 e02 hsz fun k g1 g2 => hold k (by omega) (by omega))
end
end
end Lite
end
section
/- Lite: regions of any open order, by what each step does wherever it comes. -/
set_option maxRecDepth 4000
namespace Lite
open Go Go.RowKit
def Step.num (s : Step) : Nat := match s.dst with | some d => d | none => 100000
section
variable (P : Program) (w0 : World) (I : List Nat → Fr → World → Prop)
/-- A step may come where these have come. -/
def RunA (D : List Nat) (s : Step) : Prop := s.g = none ∧ ∀ S w, I D S w → IVC P s.i S w fun v w' => Ext w0 w' ∧ I (s.num :: D) (put S s.dst v) w'
def RunT (D : List Nat) (s : Step) : Prop := s.g = none ∧ ∀ S w, I D S w → QVC P s.i S w0 fun v => I (s.num :: D) (put S s.dst v) w
def Runs (fin : List Nat) : List Nat → Sch → Prop
  | D, .done => ∀ d ∈ fin, d ∈ D
  | _, .nil => True
  | D, .take s r => RunT P w0 I D s ∧ Runs fin (s.num :: D) r
  | D, .alt s r m => (RunA P w0 I D s ∧ Runs fin (s.num :: D) r) ∧ Runs fin D m
  | D, .fre s r m => (RunA P w0 I D s ∧ Runs fin (s.num :: D) r) ∧ Runs fin D m
  | _, .wide _ => False
variable {P w0 I}
theorem Runs.alt {fin D : List Nat} {s : Step} {r m : Sch} (h1 : RunA P w0 I D s) (h2 : Runs P w0 I fin (s.num :: D) r) (h3 : Runs P w0 I fin D m) : Runs P w0 I fin D (.alt s r m) := ⟨⟨h1, h2⟩, h3⟩
theorem Runs.fre {fin D : List Nat} {s : Step} {r m : Sch} (h1 : RunA P w0 I D s) (h2 : Runs P w0 I fin (s.num :: D) r) (h3 : Runs P w0 I fin D m) : Runs P w0 I fin D (.fre s r m) := ⟨⟨h1, h2⟩, h3⟩
theorem Runs.take {fin D : List Nat} {s : Step} {r : Sch} (h1 : RunT P w0 I D s) (h2 : Runs P w0 I fin (s.num :: D) r) : Runs P w0 I fin D (.take s r) := ⟨h1, h2⟩
theorem Runs.nil {fin D : List Nat} : Runs P w0 I fin D .nil := trivial
theorem Runs.done {fin D : List Nat} (h : ∀ d ∈ fin, d ∈ D) : Runs P w0 I fin D .done := h
variable (P w0 I)
end
end Lite
end
section
/- Lite: several rows of one's own, apart from one another; regions in which rows grow in place. -/
set_option maxRecDepth 4000
namespace Lite
open Go Go.RowKit
theorem K.wide {P : Program} {w1 w : World} {S : Fr} {t : Sch} {K : Fr → World → Prop} {tk} (h : ∃ C : World → Prop, C w ∧ svcC P C t S w K) : svch P w1 (.wide t) S w K tk := by
  unfold svch
  exact h
section
variable {P : Program} {C : World → Prop} {S : Fr} {w : World} {K : Fr → World → Prop}
theorem svcC.p {i : PIns} {d : Option Nat} {r : Sch} (h : PVC P i S fun v => svcC P C r (put S d v) w K) : svcC P C (.take ⟨d, none, .p i⟩ r) S w K := h
theorem svcC.fa {k d x : Nat} {r : Sch} {a : Addr} (hx : S x = .pointer (some a)) (h : svcC P C r (upd S d (.pointer (some (a.add k)))) w K) : svcC P C (.take ⟨some d, none, .p (.fa k (.tmp x))⟩ r) S w K := ⟨a, hx, h⟩
theorem svcC.ld {d x : Nat} {r : Sch} {a : Addr} {v : Value} (hx : S x = .pointer (some a)) (hv : ∀ w, C w → w.cell? a = some v) (h : svcC P C r (upd S d v) w K) : svcC P C (.take ⟨some d, none, .r (.ld (.tmp x))⟩ r) S w K :=
  ⟨v, fun w hw => ⟨a, v, hx, hv w hw, rfl⟩, h⟩
end
theorem altC.e {P : Program} {C : World → Prop} {i : EIns} {d : Nat} {S : Fr} {w : World} {k : Fr → World → Prop} (h : EVC P i S w fun v w' => C w' ∧ k (put S (some d) v) w') : altC P C ⟨some d, none, .e i⟩ S w k := h
theorem freS.e {P : Program} {i : EIns} {d : Nat} {S : Fr} {w : World} {k : Fr → World → Prop} (h : EVC P i S w fun v w' => k (put S (some d) v) w') : freS P ⟨some d, none, .e i⟩ S w k := h
theorem appVC_of {P : Program} {ty e : TypeId} {sz b : Nat} {s x : Value} {w : World} {K : Value → World → Prop} (h : ∀ t, AppVCh P ty e sz b s x w K t) : AppVC P ty e sz b s x w K := by
  have := h ⟨⟩
  unfold AppVCh at this
  exact this
abbrev slq (s : Option Addr × Nat × Nat) : Value := .slice s.1 s.2.1 s.2.2
def putN {β : Type} (f : Nat → β) (i : Nat) (v : β) : Nat → β := fun j => if j = i then v else f j
theorem putN_same {β : Type} (f : Nat → β) (i : Nat) (v : β) : putN f i v i = v := by simp [putN]
theorem putN_ne {β : Type} (f : Nat → β) {i j : Nat} (v : β) (h : j ≠ i) : putN f i v j = f j := by simp [putN, h]
structure Rws {α : Type} (enc : α → List Value) (e : TypeId) (sz base : Nat) (w : World) (n : Nat) (vs : Nat → Option Addr × Nat × Nat) (xs : Nat → List α) : Prop where
  own : ∀ i, i < n → OwR enc e sz base w (slq (vs i)) (xs i)
  apart : ∀ i j k, i < n → j < n → i ≠ j → (slq (vs i)).ownBlock = some k → (slq (vs j)).ownBlock ≠ some k
section
variable {α : Type} {enc : α → List Value} {e : TypeId} {sz base n : Nat} {w w' : World} {vs : Nat → Option Addr × Nat × Nat} {xs : Nat → List α}
theorem Rws.mod {A : Nat → Prop} (h : Rws enc e sz base w n vs xs) (m : Mod A w w') (hA : ∀ i k, i < n → (slq (vs i)).ownBlock = some k → ¬ A k) : Rws enc e sz base w' n vs xs :=
  ⟨fun i hi => (h.own i hi).mod m (hA i · hi), h.apart⟩
theorem Rws.ext (h : Rws enc e sz base w n vs xs) (m : Ext w w') : Rws enc e sz base w' n vs xs := h.mod (A := fun _ => False) m.mod fun _ _ _ _ a => a
/-- A block of another type is none of the rows'. -/
theorem Rws.not (h : Rws enc e sz base w n vs xs) {k : Nat} {c : Array Value} {t : TypeId} (hk : w.heap[k]? = some (.cells c t)) (ht : t ≠ e) : ∀ i, i < n → (slq (vs i)).ownBlock ≠ some k := fun i hi he => by
  obtain ⟨cur, h2⟩ := (h.own i hi).blk k he
  rw [hk] at h2; injection h2 with h2; injection h2 with _ h2; exact ht h2
theorem Rws.lt (h : Rws enc e sz base w n vs xs) : ∀ i k, i < n → (slq (vs i)).ownBlock = some k → base ≤ k ∧ k < w.heap.size := fun i k hi he => (h.own i hi).lt k he
theorem Rws.app {P : Program} {KK : Value → World → Prop} {ty : TypeId} {b : Nat} {a : Addr} {c : Nat} {y : α} (i : Nat) (hi : i < n) (h : Rws enc e sz base w n vs xs) (hsz : ∀ x, (enc x).length = sz) (hc : CellsAt w a (enc y)) (h1 : ∀ y, ∀ u ∈ enc y, u.oneCell' = true)
    (hb : ((xs i).length + 1) * b ≤ 140737488355328) (h63 : (xs i).length + 1 ≤ maxLen) (hbase : base ≤ w.heap.size)
    (hk : ∀ v' w', Rws enc e sz base w' n (putN vs i v') (putN xs i (xs i ++ [y])) → w.grownBy w' (slq (vs i)).ownBlock → v'.2.1 = (xs i).length + 1 → KK (slq v') w') : AppVC P ty e sz b (slq (vs i)) (.slice (some a) 1 c) w KK := by
  refine appVC_of fun t => K.appAt (ys := [y]) (h.own i hi) hsz (by simpa using hc) rfl h1 hb h63 hbase fun v' w' ho hg hat => ?_
  obtain ⟨oa, cap, rfl, _⟩ := ho.form
  refine hk (oa, (xs i ++ [y]).length, cap) w' ⟨fun j hj => ?_, fun j j' k hj hj' hne he => ?_⟩ hg (by simp)
  · by_cases hji : j = i
    · subst hji
      rw [putN_same, putN_same]; exact ho
    · rw [putN_ne _ _ hji, putN_ne _ _ hji]
      exact (h.own j hj).mod (A := fun k => (slq (vs i)).ownBlock = some k) (Mod.grown hg fun k hk => hk) fun k hk a => h.apart j i k hj hi hji hk a
  · have key : ∀ q, q < n → q ≠ i → ∀ k, (slq (vs q)).ownBlock = some k → (Value.slice oa (xs i ++ [y]).length cap).ownBlock ≠ some k := fun q hq hqi k hk he => by
      rcases hat with e | e
      · rw [e] at he; exact h.apart q i k hq hi hqi hk he
      · rw [e] at he; injection he with he; have := (h.lt q k hq hk).2; omega
    by_cases hji : j = i
    · subst hji
      rw [putN_same] at he
      rw [putN_ne _ _ (Ne.symm hne)]
      exact fun h2 => key j' hj' (Ne.symm hne) k h2 he
    · rw [putN_ne _ _ hji] at he
      by_cases hji' : j' = i
      · subst hji'
        rw [putN_same]
        exact key j hj hji k he
      · rw [putN_ne _ _ hji']
        exact h.apart j j' k hj hj' hne he
end
end Lite
end
section
/- Lite: parts of slices. -/
set_option maxRecDepth 4000
namespace Lite
open Go Go.RowKit
/-- From the l-th to below the h-th. -/
theorem SlR.sub {α : Type} {sz : Nat} {R : World → Addr → α → Prop} {w : World} {oa : Option Addr} {n c : Nat} {xs : List α} (h : SlR sz R w (.slice oa n c) xs) (l u : Nat) (hl : l ≤ u) (hu : u ≤ xs.length) :
    SlR sz R w (.slice (if c = l then oa else oa.map (·.add (l * sz))) (u - l) (c - l)) ((xs.drop l).take (u - l)) :=
  (h.tail l (by omega)).head (u - l) (by rw [List.length_drop]; omega)
section
variable {P : Program} {K3 : Value → Prop} {S : Fr} {w : World}
theorem K.ldb2 {b i j : Nat} {c : List Value} {ty : TypeId} {f : Nat × Nat} {v : Value} {w0 : World} {t} (hb : w0.heap[b]? = some (.cells c.toArray ty f)) (he : Ext w0 w) (hj : c[i + j]? = some v) (hk : K3 v) : LdVCh (.pointer (some ((Addr.add ⟨b, 0, none⟩ i).add j))) w K3 t := by
  rw [add_add]
  exact K.ldb hb he hj hk
end
/-- Straight on, through new blocks and parts of structs too. -/
theorem Sr {A B : Prop} (k : B) (h : Hold B → A := by
  intro q
  (repeat' first
  | assumption
  | exact Ext.refl _
  | refine Ext.trans ?_ (by assumption)
  | simp -dsimp only [LL,B9,Nat.reduceAdd,Nat.reduceEqDiff,reduceIte,reduceCtorEq,Bool.false_eq_true,slots_nil,slots_cons,keepV_nil,keepV_cons,has_nil,has_cons,List.cons_append,List.nil_append]
  | refine K.wrap (by omega) ?_
  | refine K.ldb (by assumption) ?_ rfl ?_
  | refine K.ldb0 (by assumption) ?_ rfl ?_
  | refine K.iaC (by omega) ?_
  | refine K.condT (by first | assumption | omega) ?_
  | refine K.condF (by first | assumption | omega) ?_
  | refine K.condbT (by assumption) ?_
  | refine K.condbF (by assumption) ?_
  | refine K.ldE (by assumption) ?_ (by omega) rfl ?_
  | refine K.ldE0 (by assumption) ?_ (by omega) rfl ?_
  | refine K.ldAE (by assumption) ?_ (by omega) rfl ?_
  | refine K.ldb2 (by assumption) ?_ rfl ?_
  | refine K.ldC (by assumption) ?_ rfl ?_
  | refine K.ldAC (by assumption) ?_ rfl ?_
  | refine K.ldAb (by assumption) ?_ rfl ?_
  | refine K.newst (fun _ => by (simp -dsimp only [LL,Nat.reduceAdd,Nat.reduceEqDiff,reduceIte,reduceCtorEq,Bool.false_eq_true]); rfl) rfl rfl (by first | assumption | (simp [Value.oneCell',Abs.Inst.enc,Abs.Ref.enc,Abs.Node.enc,Abs.Scalar.enc,Abs.Var.enc,Abs.Chan.enc,Abs.Act.enc,Abs.Cmd.enc,Abs.Proc.enc,Abs.Prp.enc]; done)) ?_
  | refine K.new ?_
  | refine K.stAb (by assumption) rfl rfl (by first | assumption | (simp [Value.oneCell',Abs.Inst.enc,Abs.Ref.enc,Abs.Node.enc,Abs.Scalar.enc,Abs.Var.enc,Abs.Chan.enc,Abs.Act.enc,Abs.Cmd.enc,Abs.Proc.enc,Abs.Prp.enc]; done)) ?_
  | refine K.st1 (by assumption) (Nat.le_of_ble_eq_true rfl) rfl ?_
  | refine K.st0 (by assumption) (Nat.le_of_ble_eq_true rfl) rfl ?_
  | refine K.bldSa (by (simp only [fillC, lay, ev_const, ev_tmp, upd_at, Value.cells, Nat.reduceAdd, Nat.reduceEqDiff, reduceIte, List.range, List.range.loop, List.map_cons, List.map_nil]); rfl) ?_
  | refine K.bld (by (simp only [fillC, lay, ev_const, ev_tmp, upd_at, Value.cells, Nat.reduceAdd, Nat.reduceEqDiff, reduceIte]); rfl) ?_)
  exact q.out) : A := h ⟨k⟩
end Lite
namespace Lite
open Go Go.RowKit
section
variable {P : Program} {K3 : Value → Prop} {cx cy : Operand}
end
end Lite
end
section
/- Plain: what expressions speak of, each once, in order. No program in sight. -/
set_option maxRecDepth 4000
namespace Abs
open Go
/-- Lists that rise strictly, with the same members, are one. -/
theorem strict_eq {α : Type} {R : α → α → Prop} (irr : ∀ x, ¬ R x x) (tr : ∀ x y z, R x y → R y z → R x z) : ∀ (a b : List α), a.Pairwise R → b.Pairwise R → (∀ x, x ∈ a ↔ x ∈ b) → a = b
  | [], [], _, _, _ => rfl
  | [], y :: b, _, _, h => by have := (h y).2 (List.mem_cons_self ..); cases this
  | x :: a, [], _, _, h => by have := (h x).1 (List.mem_cons_self ..); cases this
  | x :: a, y :: b, ha, hb, h => by
    rw [List.pairwise_cons] at ha hb
    have e : x = y := by
      rcases List.mem_cons.1 ((h x).1 (List.mem_cons_self ..)) with e | e
      · exact e
      · rcases List.mem_cons.1 ((h y).2 (List.mem_cons_self ..)) with e2 | e2
        · exact e2.symm
        · exact absurd (tr _ _ _ (hb.1 x e) (ha.1 y e2)) (irr y)
    subst e
    congr 1
    refine strict_eq irr tr a b ha.2 hb.2 fun z => ⟨fun hz => ?_, fun hz => ?_⟩
    · rcases List.mem_cons.1 ((h z).1 (List.mem_cons_of_mem _ hz)) with e | e
      · subst e; exact absurd (ha.1 z hz) (irr z)
      · exact e
    · rcases List.mem_cons.1 ((h z).2 (List.mem_cons_of_mem _ hz)) with e | e
      · subst e; exact absurd (hb.1 z hz) (irr z)
      · exact e
def nodeLt (x y : Node) : Prop := x.op < y.op ∨ (x.op = y.op ∧ x.n < y.n)
def nodeCmp (x y : Node) : Int := if x.op = y.op ∧ x.n = y.n then 0 else if x.op < y.op ∨ (x.op = y.op ∧ x.n < y.n) then -1 else 1
theorem node_ext {x y : Node} (h1 : x.op = y.op) (h2 : x.n = y.n) : x = y := by cases x; cases y; simp_all
theorem nodeLt_irr (x : Node) : ¬ nodeLt x x := by unfold nodeLt; omega
theorem nodeLt_tr (x y z : Node) (h : nodeLt x y) (k : nodeLt y z) : nodeLt x z := by unfold nodeLt at *; omega
theorem nodeCmp_lt (x y : Node) : nodeCmp x y < 0 ↔ nodeLt x y := by
  unfold nodeCmp nodeLt
  split
  · omega
  · split <;> omega
def spoken? (op : Int) : Bool := decide (op = 2 ∨ op = 3 ∨ op = 4 ∨ op = 6 ∨ op = 7)
/-- The members of a list that speak of something, rising. -/
structure UsesOf (e r : List Node) : Prop where
  pw : r.Pairwise nodeLt
  mem : ∀ x, x ∈ r ↔ x ∈ e ∧ spoken? x.op = true
theorem UsesOf.eq {e r r' : List Node} (h : UsesOf e r) (k : UsesOf e r') : r = r' :=
  strict_eq nodeLt_irr nodeLt_tr r r' h.pw k.pw fun x => by rw [h.mem, k.mem]
/-! ### Compact -/
/-- Without those that are as the one ahead. -/
def comp : List Node → List Node
  | [] => []
  | [x] => [x]
  | x :: y :: r => if x.op = y.op ∧ x.n = y.n then comp (y :: r) else x :: comp (y :: r)
theorem comp_mem : ∀ (l : List Node) (x : Node), x ∈ comp l ↔ x ∈ l
  | [], x => Iff.rfl
  | [y], x => Iff.rfl
  | y :: z :: r, x => by
    unfold comp
    have ih := comp_mem (z :: r) x
    split
    · rename_i h
      have : y = z := node_ext h.1 h.2
      subst this
      rw [ih]
      simp
    · rw [List.mem_cons, ih, List.mem_cons (b := y)]
theorem comp_pw : ∀ (l : List Node), l.Pairwise (fun x y => ¬ nodeLt y x) → (comp l).Pairwise nodeLt
  | [], _ => List.Pairwise.nil
  | [y], _ => by unfold comp; simp
  | y :: z :: r, h => by
    unfold comp
    rw [List.pairwise_cons] at h
    have ih := comp_pw (z :: r) h.2
    split
    · exact ih
    · rename_i hne
      rw [List.pairwise_cons]
      refine ⟨fun x hx => ?_, ih⟩
      rw [comp_mem] at hx
      have hyz := h.1 z (List.mem_cons_self ..)
      have hlt : nodeLt y z := by unfold nodeLt at *; omega
      rcases List.mem_cons.1 hx with e | e
      · rw [e]; exact hlt
      · have h2 := h.2
        rw [List.pairwise_cons] at h2
        have := h2.1 x e
        unfold nodeLt at *
        omega
/-! ### The document's way -/
structure InsOf (l : List Int) (n : Int) (r : List Int) : Prop where
  pw : r.Pairwise (· < ·)
  mem : ∀ x, x ∈ r ↔ x ∈ l ∨ x = n
  len : r.length ≤ l.length + 1
theorem ins_there {l : List Int} {n : Int} (h : l.Pairwise (· < ·)) (hn : n ∈ l) : InsOf l n l := ⟨h, fun x => ⟨.inl, fun q => q.elim id fun e => e ▸ hn⟩, Nat.le_succ _⟩
theorem ins_last {l : List Int} {n : Int} (h : l.Pairwise (· < ·)) (hn : ∀ x ∈ l, x < n) : InsOf l n (l ++ [n]) :=
  ⟨List.pairwise_append.2 ⟨h, by simp, fun x hx y hy => by simp only [List.mem_singleton] at hy; subst hy; exact hn x hx⟩, fun x => by simp, by simp⟩
theorem ins_mid {a b : List Int} {n : Int} (h : (a ++ b).Pairwise (· < ·)) (ha : ∀ x ∈ a, x < n) (hb : ∀ x ∈ b, n < x) : InsOf (a ++ b) n (a ++ n :: b) := by
  rw [List.pairwise_append] at h
  refine ⟨List.pairwise_append.2 ⟨h.1, List.pairwise_cons.2 ⟨hb, h.2.1⟩, fun x hx y hy => ?_⟩, fun x => ?_, by simp; omega⟩
  · rcases List.mem_cons.1 hy with e | e
    · subst e; exact ha x hx
    · exact h.2.2 x hx y e
  · simp only [List.mem_append, List.mem_cons]
    constructor
    · rintro (q | q | q)
      · exact .inl (.inl q)
      · exact .inr q
      · exact .inl (.inr q)
    · rintro ((q | q) | q)
      · exact .inl q
      · exact .inr (.inr q)
      · exact .inr (.inl q)
/-- The numbers of an operation among the first so many nodes, rising. -/
structure NumsOf (e : List Node) (op : Int) (l : List Int) : Prop where
  pw : l.Pairwise (· < ·)
  mem : ∀ n, n ∈ l ↔ ∃ x ∈ e, x.op = op ∧ x.n = n
  len : l.length ≤ e.length
theorem NumsOf.nil (op : Int) : NumsOf [] op [] := ⟨List.Pairwise.nil, fun n => ⟨fun h => (by cases h), fun ⟨x, h, _⟩ => (by cases h)⟩, Nat.le_refl _⟩
theorem NumsOf.put {e : List Node} {op : Int} {l r : List Int} {x : Node} (h : NumsOf e op l) (hx : x.op = op) (hr : InsOf l x.n r) : NumsOf (e ++ [x]) op r := by
  refine ⟨hr.pw, fun n => ?_, by have := hr.len; have := h.len; rw [List.length_append]; simp; omega⟩
  rw [hr.mem, h.mem]
  constructor
  · rintro (⟨y, h1, h2, h3⟩ | rfl)
    · exact ⟨y, List.mem_append_left _ h1, h2, h3⟩
    · exact ⟨x, by simp, hx, rfl⟩
  · rintro ⟨y, h1, h2, h3⟩
    rcases List.mem_append.1 h1 with h1 | h1
    · exact .inl ⟨y, h1, h2, h3⟩
    · simp only [List.mem_singleton] at h1; subst h1; exact .inr h3.symm
theorem NumsOf.skip {e : List Node} {op : Int} {l : List Int} {x : Node} (h : NumsOf e op l) (hx : x.op ≠ op) : NumsOf (e ++ [x]) op l := by
  refine ⟨h.pw, fun n => ?_, by have := h.len; rw [List.length_append]; omega⟩
  rw [h.mem]
  constructor
  · rintro ⟨y, h1, h2⟩
    exact ⟨y, List.mem_append_left _ h1, h2⟩
  · rintro ⟨y, h1, h2, h3⟩
    rcases List.mem_append.1 h1 with h1 | h1
    · exact ⟨y, h1, h2, h3⟩
    · simp only [List.mem_singleton] at h1; subst h1; exact absurd h2 hx
def opsL : List Int := [2, 3, 4, 6, 7]
/-- What has come of the first so many operations. -/
structure UsesUp (e : List Node) (k : Nat) (r : List Node) : Prop where
  pw : r.Pairwise nodeLt
  mem : ∀ x, x ∈ r ↔ x ∈ e ∧ x.op ∈ opsL.take k
  len : r.length ≤ k * e.length
theorem UsesUp.nil (e : List Node) : UsesUp e 0 [] := ⟨List.Pairwise.nil, fun x => ⟨fun h => (by cases h), fun h => (by cases h.2)⟩, Nat.zero_le _⟩
theorem UsesUp.step {e : List Node} {k : Nat} {r : List Node} {l : List Int} {op : Int} (h : UsesUp e k r) (hk : k < 5) (ho : opsL[k]? = some op) (hl : NumsOf e op l) : UsesUp e (k + 1) (r ++ l.map fun n => ⟨op, n⟩) := by
  have hlt : ∀ y ∈ opsL.take k, y < op := by
    rcases k with _ | _ | _ | _ | _ | k
    all_goals first | omega | (simp [opsL] at ho; subst ho; simp [opsL]; done) | (simp [opsL] at ho; subst ho; simp [opsL]; omega)
  refine ⟨List.pairwise_append.2 ⟨h.pw, List.pairwise_map.2 (hl.pw.imp fun {a b} q => .inr ⟨rfl, q⟩), fun x hx y hy => ?_⟩, fun x => ?_, ?_⟩
  · obtain ⟨n, _, rfl⟩ := List.mem_map.1 hy
    exact .inl (hlt _ ((h.mem x).1 hx).2)
  · rw [List.take_succ, ho, List.mem_append, h.mem, List.mem_append, List.mem_map]
    constructor
    · rintro (⟨a, b⟩ | ⟨n, hn, rfl⟩)
      · exact ⟨a, .inl b⟩
      · obtain ⟨y, h1, h2, h3⟩ := (hl.mem n).1 hn
        have : y = ⟨op, n⟩ := node_ext h2 h3
        subst this
        exact ⟨h1, .inr (by simp)⟩
    · rintro ⟨a, b | b⟩
      · exact .inl ⟨a, b⟩
      · simp at b
        exact .inr ⟨x.n, (hl.mem _).2 ⟨x, a, b, rfl⟩, node_ext b.symm rfl⟩
  · rw [List.length_append, List.length_map]
    have := h.len
    have := hl.len
    rw [Nat.add_mul]
    omega
theorem UsesUp.done {e r : List Node} (h : UsesUp e 5 r) : UsesOf e r := ⟨h.pw, fun x => by
  rw [h.mem]
  unfold spoken?
  simp [opsL]⟩
end Abs
end
section
/- The light code of this seat's functions, printed by a program of mine; each is checked against the loaded program by the kernel. -/
set_option maxRecDepth 100000
namespace Go.Proofs.Ytfdohkdifdemeaa
open Go Lite Go.Proofs
abbrev T.x : TypeId := 0
abbrev T.int : TypeId := 3
abbrev T.bool : TypeId := 4
abbrev T.sl_api_Node : TypeId := 22
abbrev T.api_Node : TypeId := 28
abbrev T.api_Errno : TypeId := 29
abbrev T.api_Scope : TypeId := 37
abbrev T.sl_int : TypeId := 40
abbrev T.api_Env : TypeId := 42
abbrev T.p_expr_machine : TypeId := 46
abbrev T.expr_machine : TypeId := 49
abbrev T.expr_op : TypeId := 55
abbrev T.func_int_int_bool : TypeId := 81
abbrev T.num_op : TypeId := 86
abbrev F.lariatlaw10_ExprUses : FuncId := 3
abbrev F.lariatlaw10_lives : FuncId := 4
abbrev F.lariatref10_Same : FuncId := 5
abbrev F.expr_Uses : FuncId := 6
abbrev F.lariatref10_Uses : FuncId := 7
abbrev F.expr_Kind : FuncId := 8
abbrev F.expr_Eval : FuncId := 9
abbrev F.slices_SortFunc_sl_api_Node_api_Node : FuncId := 10
abbrev F.expr_Uses_1 : FuncId := 11
abbrev F.slices_Compact_sl_api_Node_api_Node : FuncId := 12
abbrev F.lariatref10_put : FuncId := 13
abbrev F.p_expr_machine_run : FuncId := 14
abbrev F.expr_Kind_1 : FuncId := 15
abbrev F.p_expr_machine_kind : FuncId := 16
abbrev F.expr_Kind_2 : FuncId := 17
abbrev F.expr_Eval_1 : FuncId := 18
abbrev F.p_expr_machine_value : FuncId := 19
abbrev F.expr_Eval_2 : FuncId := 20
abbrev F.expr_ops : FuncId := 23
abbrev F.p_expr_machine_step : FuncId := 24
abbrev F.num_Add : FuncId := 25
abbrev F.expr_named : FuncId := 26
abbrev F.expr_variable : FuncId := 27
abbrev F.p_expr_machine_top : FuncId := 28
abbrev F.expr_at : FuncId := 29
abbrev F.expr_ops_1 : FuncId := 40
abbrev F.expr_bit : FuncId := 41
abbrev F.expr_ops_2 : FuncId := 42
abbrev F.num_Sub : FuncId := 43
abbrev F.num_Mul : FuncId := 44
abbrev F.expr_says : FuncId := 45
abbrev F.expr_ops_3 : FuncId := 46
abbrev F.expr_ops_4 : FuncId := 47
abbrev F.expr_ops_5 : FuncId := 48
abbrev F.expr_ops_6 : FuncId := 49
abbrev F.expr_ops_7 : FuncId := 50
abbrev F.expr_ops_8 : FuncId := 51
abbrev F.expr_parts : FuncId := 52
abbrev F.num_Add_1 : FuncId := 53
abbrev F.num_op_tell : FuncId := 54
abbrev F.expr_scalar : FuncId := 55
abbrev F.num_Sub_1 : FuncId := 61
abbrev F.num_Mul_1 : FuncId := 62
abbrev F.expr_says_1 : FuncId := 63
abbrev F.num_within : FuncId := 64
theorem hmix : Try.prog.follows .mixedOrders = true := by kernel_rfl
def C.lariatlaw10_ExprUses : LFn := ⟨15, [.tmp 2],
 (yR [yw 2 (yb false)]
 (.seq (yR [ym 3 0, yn 4 3, yj .gtr T.int 5 4 300]
 (.cond (yt 5) (yR [yc 6 (.fn F.lariatlaw10_lives []), ym 2 6]
 .ret)
 .skip))
 (yR [ym 7 0, yc 8 (.fn F.expr_Uses [(yt 7)]), ym 9 0, yc 10 (.fn F.lariatref10_Uses [(yt 9)]), yc 11 (.fn F.lariatref10_Same [(yt 8), (yt 10)]), ym 12 11, yg 12 true (yc 13 (.fn F.lariatlaw10_lives [])), yk 14 12 13, ym 2 14]
 .ret)))⟩
theorem E.lariatlaw10_ExprUses : compF Try.prog F.lariatlaw10_ExprUses = some C.lariatlaw10_ExprUses := by kernel_rfl
def C.lariatlaw10_lives : LFn := ⟨52, [.tmp 0],
 (yR [yw 0 (yb false)]
 (yR [yp 8 (.bld [yo, yo] [(0, 1), (1, 1)] [(0, (yi 1)), (1, (yi 2))]), yp 9 (.bld [yo, yo] [(0, 1), (1, 1)] [(0, (yi 1)), (1, (yi 3))]), yp 10 (.bld [yo, yo] [(0, 1), (1, 1)] [(0, (yi 11))]), yp 11 (.bld [yo, yo] [(0, 1), (1, 1)] [(0, (yi 1)), (1, (yi 5))]), yp 12 (.bld [yo, yo] [(0, 1), (1, 1)] [(0, (yi 14))]), ye 13 (.bldS T.api_Node 5 2 [yo, yo, yo, yo, yo, yo, yo, yo, yo, yo] [(0, (yt 8)), (1, (yt 9)), (2, (yt 10)), (3, (yt 11)), (4, (yt 12))]), ym 1 13]
 (yR [ym 15 1, yp 16 (.bld [yq, yq, yq, yq, yq, yo] [(0, 1), (1, 1), (2, 1), (3, 1), (4, 1), (5, 1)] []), yc 17 (.fn F.expr_Kind [(yt 15), (yt 16)]), ym 14 17, yp 18 (.ext (yt 14) 0), yp 19 (.ext (yt 14) 1), ym 2 18, ym 3 19]
 (yR [ym 21 1, yp 22 (.bld [yq, yq, yq, yq, yo] [(0, 1), (1, 1), (2, 1), (3, 1), (4, 1)] []), yc 23 (.fn F.expr_Eval [(yt 21), (yt 22)]), ym 20 23, yp 24 (.ext (yt 20) 0), yp 25 (.ext (yt 20) 1), ym 4 24, ym 5 25]
 (yR [yp 27 (.bld [yo, yo] [(0, 1), (1, 1)] [(0, (yi 1)), (1, (yi 1))]), yp 28 (.bld [yo, yo] [(0, 1), (1, 1)] [(0, (yi 9))]), ye 29 (.bldS T.api_Node 2 2 [yo, yo, yo, yo] [(0, (yt 27)), (1, (yt 28))]), yp 30 (.bld [yq, yq, yq, yq, yq, yo] [(0, 1), (1, 1), (2, 1), (3, 1), (4, 1), (5, 1)] []), yc 31 (.fn F.expr_Kind [(yt 29), (yt 30)]), ym 26 31, yp 32 (.ext (yt 26) 0), yp 33 (.ext (yt 26) 1), ym 6 32, ym 7 33]
 (yR [ym 34 2, yj .eql T.int 35 34 1, ym 36 35, yg 36 true (ym 37 3), yg 36 true (yj .eql T.api_Errno 38 37 0), yk 39 36 38, ym 40 39, yg 40 true (ym 41 4), yg 40 true (yj .eql T.int 42 41 1), yk 43 40 42, ym 44 43, yg 44 true (ym 45 5), yg 44 true (yj .eql T.api_Errno 46 45 0), yk 47 44 46, ym 48 47, yg 48 true (ym 49 7), yg 48 true (yj .eql T.api_Errno 50 49 9), yk 51 48 50, ym 0 51]
 .ret))))))⟩
theorem E.lariatlaw10_lives : compF Try.prog F.lariatlaw10_lives = some C.lariatlaw10_lives := by kernel_rfl
def C.lariatref10_Same : LFn := ⟨26, [.tmp 4],
 (yR [yw 4 (yb false)]
 (.seq (yR [ym 6 0, yn 7 6, ym 8 1, yn 9 8, yz .neq T.int 10 7 9]
 (.cond (yt 10) (yR [yw 4 (yb false)]
 .ret)
 .skip))
 (.seq (yR [yw 5 (yi 0)]
 (.blk 0 (.loop (.seq (yR [ym 11 5, ym 12 0, yn 13 12, yz .lss T.int 14 11 13]
 (.cond (yt 14) .skip
 (.exit 0)))
 (.seq (.blk 1 (.seq (.drw [ym 17 0, ym 18 5, yx 19 2 17 18, yr 20 (.ldA 2 (yt 19)), ym 21 1, ym 22 5, yx 23 2 21 22, yr 24 (.ldA 2 (yt 23)), yz .neq T.api_Node 25 20 24])
 (.cond (yt 25) (yR [yw 4 (yb false)]
 .ret)
 .skip)))
 (.reg [ym 15 5, yj .add T.int 16 15 1, ym 5 16]))))))
 (yR [yw 4 (yb true)]
 .ret))))⟩
theorem E.lariatref10_Same : compF Try.prog F.lariatref10_Same = some C.lariatref10_Same := by kernel_rfl
def C.expr_Uses : LFn := ⟨29, [.tmp 2],
 (yR [yw 2 (.const yq)]
 (yR [yw 3 (.const yq)]
 (.seq (yR [ym 6 0, yn 7 6, yw 8 (yi 0)]
 (.blk 0 (.loop (yR [yz .lss T.int 9 8 7]
 (.seq (.cond (yt 9) .skip
 (.exit 0))
 (.seq (.blk 1 (yR [yx 10 2 6 8, yr 11 (.ldA 2 (yt 10)), ye 5 (.new T.api_Node (.agg #[yo, yo])), yv (.stA 2 (yt 5) (yt 11))]
 (yR [ya 12 0 5, yl 13 12]
 (.blk 2 (.seq (yR [yj .eql T.int 15 13 2, ym 14 15]
 (.cond (yt 14) .skip
 (yR [yj .eql T.int 16 13 3, ym 14 16]
 (.cond (yt 14) .skip
 (yR [yj .eql T.int 17 13 4, ym 14 17]
 (.cond (yt 14) .skip
 (yR [yj .eql T.int 18 13 6, ym 14 18]
 (.cond (yt 14) .skip
 (.reg [yj .eql T.int 19 13 7, ym 14 19])))))))))
 (.cond (yt 14) (.reg [ym 20 3, yr 21 (.ldA 2 (yt 5)), ye 22 (.bldS T.api_Node 1 2 [yo, yo] [(0, (yt 21))]), ye 23 (.app T.sl_api_Node T.api_Node 2 16 (yt 20) (yt 22)), ym 3 23])
 .skip))))))
 (.reg [yj .add T.int 24 8 1, ym 8 24])))))))
 (yR [ym 25 3, yc 26 (.fn F.slices_SortFunc_sl_api_Node_api_Node [(yt 25), (.func F.expr_Uses_1)])]
 (yR [ym 27 3, yc 28 (.fn F.slices_Compact_sl_api_Node_api_Node [(yt 27)]), ym 2 28]
 .ret)))))⟩
theorem E.expr_Uses : compF Try.prog F.expr_Uses = some C.expr_Uses := by kernel_rfl
def C.lariatref10_Uses : LFn := ⟨58, [.tmp 2],
 (yR [yw 2 (.const yq)]
 (yR [yw 3 (.const yq)]
 (yR [ye 9 (.bldS T.int 5 1 [yo, yo, yo, yo, yo] [(0, (yi 2)), (1, (yi 3)), (2, (yi 4)), (3, (yi 6)), (4, (yi 7))]), ym 4 9]
 (.seq (yR [yw 5 (yi 0)]
 (.blk 0 (.loop (.seq (yR [ym 10 5, ym 11 4, yn 12 11, yz .lss T.int 13 10 12]
 (.cond (yt 13) .skip
 (.exit 0)))
 (.seq (.blk 1 (yR [yw 6 (.const yq)]
 (.seq (yR [yw 7 (yi 0)]
 (.blk 2 (.loop (.seq (yR [ym 16 7, ym 17 0, yn 18 17, yz .lss T.int 19 16 18]
 (.cond (yt 19) .skip
 (.exit 2)))
 (.seq (.blk 3 (.seq (.drw [ym 22 0, ym 23 7, yx 24 2 22 23, ya 25 0 24, yl 26 25, ym 27 4, ym 28 5, yx 29 1 27 28, yl 30 29, yz .eql T.int 31 26 30])
 (.cond (yt 31) (.reg [ym 32 6, ym 33 0, ym 34 7, yx 35 2 33 34, ya 36 1 35, yl 37 36, yc 38 (.fn F.lariatref10_put [(yt 32), (yt 37)]), ym 6 38])
 .skip)))
 (.reg [ym 20 7, yj .add T.int 21 20 1, ym 7 21]))))))
 (yR [yw 8 (yi 0)]
 (.blk 4 (.loop (.seq (yR [ym 39 8, ym 40 6, yn 41 40, yz .lss T.int 42 39 41]
 (.cond (yt 42) .skip
 (.exit 4)))
 (.seq (.blk 5 (.sch (.take (ym 45 3)
 (.take (ym 46 4)
 (.take (ym 47 5)
 (.take (yx 48 1 46 47)
 (.take (yl 49 48)
 (.take (ym 50 6)
 (.take (ym 51 8)
 (.take (yx 52 1 50 51)
 (.take (yl 53 52)
 (.take (yp 54 (.bld [yo, yo] [(0, 1), (1, 1)] [(0, (yt 49)), (1, (yt 53))]))
 (.fre (ye 55 (.bldS T.api_Node 1 2 [yo, yo] [(0, (yt 54))]))
 (.fre (ye 56 (.app T.sl_api_Node T.api_Node 2 16 (yt 45) (yt 55)))
 (.take (ym 3 56)
 .done)
 .nil)
 .nil)))))))))))))
 (.reg [ym 43 8, yj .add T.int 44 43 1, ym 8 44])))))))))
 (.reg [ym 14 5, yj .add T.int 15 14 1, ym 5 15]))))))
 (yR [ym 57 3, ym 2 57]
 .ret)))))⟩
theorem E.lariatref10_Uses : compF Try.prog F.lariatref10_Uses = some C.lariatref10_Uses := by kernel_rfl
def C.expr_Kind : LFn := ⟨15, [.tmp 4, .tmp 5],
 (yR [ye 3 (.box T.api_Scope (yt 1)), yw 4 (yi 0), yw 5 (yi 0)]
 (yR [yp 7 (.bld [yq, (.map none)] [(0, 1), (1, 1)] []), ye 8 (.box T.expr_machine (yt 7)), ye 6 (.new T.p_expr_machine (.pointer none)), ys 6 8]
 (yR [yl 9 6, ym 10 0, yp 11 (.mkF F.expr_Kind_1 [] [(yt 6), (yt 3)]), yc 12 (.fn F.p_expr_machine_run [(yt 9), (yt 10), (yt 11), (.func F.expr_Kind_2)]), yp 13 (.ext (yt 12) 0), yp 14 (.ext (yt 12) 1), ym 4 13, ym 5 14]
 .ret)))⟩
theorem E.expr_Kind : compF Try.prog F.expr_Kind = some C.expr_Kind := by kernel_rfl
def C.expr_Eval : LFn := ⟨15, [.tmp 4, .tmp 5],
 (yR [ye 3 (.box T.api_Env (yt 1)), yw 4 (yi 0), yw 5 (yi 0)]
 (yR [yp 7 (.bld [yq, (.map none)] [(0, 1), (1, 1)] []), ye 8 (.box T.expr_machine (yt 7)), ye 6 (.new T.p_expr_machine (.pointer none)), ys 6 8]
 (yR [yl 9 6, ym 10 0, yp 11 (.mkF F.expr_Eval_1 [] [(yt 6), (yt 3)]), yc 12 (.fn F.p_expr_machine_run [(yt 9), (yt 10), (yt 11), (.func F.expr_Eval_2)]), yp 13 (.ext (yt 12) 0), yp 14 (.ext (yt 12) 1), ym 4 13, ym 5 14]
 .ret)))⟩
theorem E.expr_Eval : compF Try.prog F.expr_Eval = some C.expr_Eval := by kernel_rfl
def C.lariatref10_put : LFn := ⟨49, [.tmp 4],
 (yR [yw 4 (.const yq)]
 (yR [yw 5 (.const yq)]
 (yR [yw 6 (yb false)]
 (.seq (yR [yw 7 (yi 0)]
 (.blk 0 (.loop (.seq (yR [ym 8 7, ym 9 0, yn 10 9, yz .lss T.int 11 8 10]
 (.cond (yt 11) .skip
 (.exit 0)))
 (.seq (.blk 1 (.seq (yR [ym 14 0, ym 15 7, yx 16 1 14 15, yl 17 16, ym 18 1, yz .eql T.int 19 17 18]
 (.cond (yt 19) (yR [ym 20 0, ym 4 20]
 .ret)
 .skip))
 (.seq (yR [ym 21 6, yp 22 (.un .not (yt 21)), ym 23 22, yg 23 true (ym 24 0), yg 23 true (ym 25 7), yg 23 true (yx 26 1 24 25), yg 23 true (yl 27 26), yg 23 true (ym 28 1), yg 23 true (yz .gtr T.int 29 27 28), yk 30 23 29]
 (.cond (yt 30) (yR [ym 31 5, ym 32 1, ye 33 (.bldS T.int 1 1 [yo] [(0, (yt 32))]), ye 34 (.app T.sl_int T.int 1 8 (yt 31) (yt 33)), ym 5 34]
 (.reg [yw 6 (yb true)]))
 .skip))
 (.reg [ym 35 5, ym 36 0, ym 37 7, yx 38 1 36 37, yl 39 38, ye 40 (.bldS T.int 1 1 [yo] [(0, (yt 39))]), ye 41 (.app T.sl_int T.int 1 8 (yt 35) (yt 40)), ym 5 41]))))
 (.reg [ym 12 7, yj .add T.int 13 12 1, ym 7 13]))))))
 (.seq (yR [ym 42 6, yp 43 (.un .not (yt 42))]
 (.cond (yt 43) (.reg [ym 44 5, ym 45 1, ye 46 (.bldS T.int 1 1 [yo] [(0, (yt 45))]), ye 47 (.app T.sl_int T.int 1 8 (yt 44) (yt 46)), ym 5 47])
 .skip))
 (yR [ym 48 5, ym 4 48]
 .ret))))))⟩
theorem E.lariatref10_put : compF Try.prog F.lariatref10_put = some C.lariatref10_put := by kernel_rfl
def C.p_expr_machine_run : LFn := ⟨52, [.tmp 8, .tmp 9],
 (yR [yw 8 (yi 0), yw 9 (yi 0)]
 (.seq (.blk 0 (yR [ym 14 1, yn 15 14, yj .gtr T.int 16 15 24, ym 13 16]
 (.cond (yt 13) (yR [yw 8 (yi 0), yw 9 (yi 5)]
 .ret)
 (yR [ym 18 1, yn 19 18, yj .eql T.int 20 19 0, ym 17 20]
 (.cond (yt 17) (yR [yw 8 (yi 0), yw 9 (yi 4)]
 .ret)
 .skip)))))
 (yR [ym 21 0, yc 22 (.fn F.expr_ops []), yp 23 (.nilC (yt 21)), ya 24 1 23, ys 24 22]
 (.seq (yR [ym 25 1, yn 26 25, yw 27 (yi 0)]
 (.blk 1 (.loop (yR [yz .lss T.int 28 27 26]
 (.seq (.cond (yt 28) .skip
 (.exit 1))
 (.seq (.blk 2 (yR [yx 29 2 25 27, yr 30 (.ldA 2 (yt 29)), ye 11 (.new T.api_Node (.agg #[yo, yo])), yv (.stA 2 (yt 11) (yt 30))]
 (yR [ym 31 0, yr 32 (.ldA 2 (yt 11)), ym 33 2, ym 34 3, yc 35 (.fn F.p_expr_machine_step [(yt 31), (yt 32), (yt 33), (yt 34)]), ym 12 35]
 (yR [ym 36 12, yj .neq T.api_Errno 37 36 0]
 (.cond (yt 37) (yR [ym 38 12, yw 8 (yi 0), ym 9 38]
 .ret)
 .skip)))))
 (.reg [yj .add T.int 39 27 1, ym 27 39])))))))
 (.seq (yR [ym 40 0, yp 41 (.nilC (yt 40)), ya 42 0 41, yl 43 42, yn 44 43, yj .gtr T.int 45 44 1]
 (.cond (yt 45) (yR [yw 8 (yi 0), yw 9 (yi 5)]
 .ret)
 .skip))
 (yR [ym 46 0, yp 47 (.nilC (yt 46)), ya 48 0 47, yl 49 48, yp 50 (.ia 1 (yt 49) (yi 0)), yl 51 50, ym 8 51, yw 9 (yi 0)]
 .ret))))))⟩
theorem E.p_expr_machine_run : compF Try.prog F.p_expr_machine_run = some C.p_expr_machine_run := by kernel_rfl
def C.expr_Kind_1 : LFn := ⟨12, [.tmp 4, .tmp 5],
 (yR [ye 3 (.box T.api_Node (yt 0)), yw 4 (yi 0), yw 5 (yi 0)]
 (yR [yl 6 1, yr 7 (.ldA 2 (yt 3)), yr 8 (.ldA 6 (yt 2)), yc 9 (.fn F.p_expr_machine_kind [(yt 6), (yt 7), (yt 8)]), yp 10 (.ext (yt 9) 0), yp 11 (.ext (yt 9) 1), ym 4 10, ym 5 11]
 .ret))⟩
theorem E.expr_Kind_1 : compF Try.prog F.expr_Kind_1 = some C.expr_Kind_1 := by kernel_rfl
def C.p_expr_machine_kind : LFn := ⟨74, [.tmp 6, .tmp 7],
 (yR [ye 4 (.box T.api_Node (yt 1)), ye 5 (.box T.api_Scope (yt 2)), yw 6 (yi 0), yw 7 (yi 0)]
 (yR [ya 14 1 5, yl 15 14, ym 8 15]
 (.seq (yR [ya 16 0 4, yl 17 16]
 (.blk 0 (yR [yj .eql T.int 24 17 1, ym 23 24]
 (.cond (yt 23) (.seq (yR [ya 26 1 4, yl 27 26, yc 28 (.fn F.num_Add [(yt 27), (yi 0)]), ym 25 28, yp 29 (.ext (yt 25) 0), yp 30 (.ext (yt 25) 1), ym 9 29, ym 10 30]
 (yR [ym 31 10, yp 32 (.un .not (yt 31))]
 (.cond (yt 32) (yR [yw 6 (yi 0), yw 7 (yi 10)]
 .ret)
 .skip)))
 (yR [yw 6 (yi 0), yw 7 (yi 0)]
 .ret))
 (yR [yj .eql T.int 34 17 4, ym 33 34]
 (.cond (yt 33) (.reg [ya 35 4 5, yl 36 35, ym 8 36])
 (.seq (yR [yj .eql T.int 38 17 2, ym 37 38]
 (.cond (yt 37) .skip
 (.reg [yj .eql T.int 39 17 3, ym 37 39])))
 (.cond (yt 37) .skip
 (yR [yr 18 (.ldA 2 (yt 4)), yr 19 (.ldA 6 (yt 5)), yc 20 (.fn F.expr_named [(yt 18), (yt 19)]), yp 21 (.ext (yt 20) 0), yp 22 (.ext (yt 20) 1), ym 6 21, ym 7 22]
 .ret)))))))))
 (yR [ym 41 8, ya 42 1 4, yl 43 42, yr 44 (.ldA 6 (yt 5)), yc 45 (.fn F.expr_variable [(yt 41), (yt 43), (yt 44)]), ym 40 45, yp 46 (.ext (yt 40) 0), yp 47 (.ext (yt 40) 1), yp 48 (.ext (yt 40) 2), ym 11 46, ym 12 47, ym 13 48]
 (.seq (.blk 1 (yR [ym 50 13, yp 51 (.un .not (yt 50)), ym 49 51]
 (.cond (yt 49) (yR [yw 6 (yi 0), yw 7 (yi 8)]
 .ret)
 (.seq (yR [ya 53 0 4, yl 54 53, yj .eql T.int 55 54 3, ym 56 55, yg 56 true (ym 57 12), yg 56 true (yj .eql T.int 58 57 0), yg 56 true (ym 59 58), yg 59 false (ym 60 0), yg 59 false (yc 61 (.fn F.p_expr_machine_top [(yt 60)])), yg 59 false (ym 62 12), yg 59 false (yz .neq T.int 63 61 62), yg 56 true (yf 64 59 63), yk 65 56 64, ym 52 65]
 (.cond (yt 52) .skip
 (.reg [ya 66 0 4, yl 67 66, yj .neq T.int 68 67 3, ym 69 68, yg 69 true (ym 70 12), yg 69 true (yj .neq T.int 71 70 0), yk 72 69 71, ym 52 72])))
 (.cond (yt 52) (yR [yw 6 (yi 0), yw 7 (yi 9)]
 .ret)
 .skip)))))
 (yR [ym 73 11, ym 6 73, yw 7 (yi 0)]
 .ret))))))⟩
theorem E.p_expr_machine_kind : compF Try.prog F.p_expr_machine_kind = some C.p_expr_machine_kind := by kernel_rfl
def C.expr_Kind_2 : LFn := ⟨33, [.tmp 4, .tmp 5],
 (yR [ye 2 (.box T.expr_op (yt 0)), yw 4 (yi 0), yw 5 (yi 0)]
 (.seq (yR [ym 8 1, yn 9 8, yw 10 (yi 0)]
 (.blk 0 (.loop (yR [yz .lss T.int 11 10 9]
 (.seq (.cond (yt 11) .skip
 (.exit 0))
 (.seq (.blk 1 (yR [yx 12 1 8 10, yl 13 12, ym 7 13]
 (yR [ya 14 1 2, yl 15 14, yj .neq T.int 16 15 (-1), ym 17 16, yg 17 true (ym 18 7), yg 17 true (ya 19 1 2), yg 17 true (yl 20 19), yg 17 true (yz .neq T.int 21 18 20), yk 22 17 21, ym 23 22, yg 23 false (ym 24 7), yg 23 false (ym 25 1), yg 23 false (yp 26 (.ia 1 (yt 25) (yi 0))), yg 23 false (yl 27 26), yg 23 false (yz .neq T.int 28 24 27), yf 29 23 28]
 (.cond (yt 29) (yR [yw 4 (yi 0), yw 5 (yi 9)]
 .ret)
 .skip))))
 (.reg [yj .add T.int 30 10 1, ym 10 30])))))))
 (yR [ya 31 2 2, yl 32 31, ym 4 32, yw 5 (yi 0)]
 .ret)))⟩
theorem E.expr_Kind_2 : compF Try.prog F.expr_Kind_2 = some C.expr_Kind_2 := by kernel_rfl
def C.expr_Eval_1 : LFn := ⟨12, [.tmp 4, .tmp 5],
 (yR [ye 3 (.box T.api_Node (yt 0)), yw 4 (yi 0), yw 5 (yi 0)]
 (yR [yl 6 1, yr 7 (.ldA 2 (yt 3)), yr 8 (.ldA 5 (yt 2)), yc 9 (.fn F.p_expr_machine_value [(yt 6), (yt 7), (yt 8)]), yp 10 (.ext (yt 9) 0), yp 11 (.ext (yt 9) 1), ym 4 10, ym 5 11]
 .ret))⟩
theorem E.expr_Eval_1 : compF Try.prog F.expr_Eval_1 = some C.expr_Eval_1 := by kernel_rfl
def C.p_expr_machine_value : LFn := ⟨117, [.tmp 6, .tmp 7],
 (yR [ye 4 (.box T.api_Node (yt 1)), ye 5 (.box T.api_Env (yt 2)), yw 6 (yi 0), yw 7 (yi 0)]
 (.seq (yR [ya 12 0 4, yl 13 12]
 (.blk 0 (yR [yj .eql T.int 15 13 1, ym 14 15]
 (.cond (yt 14) (.seq (yR [ya 17 1 4, yl 18 17, yc 19 (.fn F.num_Add [(yt 18), (yi 0)]), ym 16 19, yp 20 (.ext (yt 16) 0), yp 21 (.ext (yt 16) 1), ym 8 20, ym 9 21]
 (yR [ym 22 9, yp 23 (.un .not (yt 22))]
 (.cond (yt 23) (yR [yw 6 (yi 0), yw 7 (yi 10)]
 .ret)
 .skip)))
 (yR [ya 24 1 4, yl 25 24, ym 6 25, yw 7 (yi 0)]
 .ret))
 (.seq (yR [yj .eql T.int 27 13 2, ym 26 27]
 (.cond (yt 26) .skip
 (.reg [yj .eql T.int 28 13 3, ym 26 28])))
 (.cond (yt 26) (.seq (yR [ya 29 1 4, yl 30 29, yj .lss T.int 31 30 0, ym 32 31, yg 32 false (ya 33 1 4), yg 32 false (yl 34 33), yg 32 false (ya 35 0 5), yg 32 false (yl 36 35), yg 32 false (yn 37 36), yg 32 false (yz .geq T.int 38 34 37), yf 39 32 38]
 (.cond (yt 39) (yR [yw 6 (yi 0), yw 7 (yi 8)]
 .ret)
 .skip))
 (.seq (yR [ya 40 0 4, yl 41 40, yj .eql T.int 42 41 2]
 (.cond (yt 42) (yR [ya 43 0 5, yl 44 43, ya 45 1 4, yl 46 45, yx 47 1 44 46, yl 48 47, yc 49 (.fn F.expr_at [(yt 48), (yi 0)]), yp 50 (.ext (yt 49) 0), yp 51 (.ext (yt 49) 1), ym 6 50, ym 7 51]
 .ret)
 .skip))
 (.seq (.drw [ya 53 0 5, yl 54 53, ya 55 1 4, yl 56 55, yx 57 1 54 56, yl 58 57, ym 59 0, yc 60 (.fn F.p_expr_machine_top [(yt 59)]), yj .sub T.int 61 60 1, yc 62 (.fn F.expr_at [(yt 58), (yt 61)]), ym 52 62, yp 63 (.ext (yt 52) 0), yp 64 (.ext (yt 52) 1), ym 10 63, ym 11 64])
 (.seq (yR [ym 65 11, yj .neq T.api_Errno 66 65 0]
 (.cond (yt 66) (yR [yw 6 (yi 0), yw 7 (yi 10)]
 .ret)
 .skip))
 (yR [ym 67 10, ym 6 67, yw 7 (yi 0)]
 .ret)))))
 (yR [yj .eql T.int 69 13 4, ym 68 69]
 (.cond (yt 68) (yR [ya 70 2 5, yl 71 70, ya 72 1 4, yl 73 72, yc 74 (.fn F.expr_at [(yt 71), (yt 73)]), yp 75 (.ext (yt 74) 0), yp 76 (.ext (yt 74) 1), ym 6 75, ym 7 76]
 .ret)
 (yR [yj .eql T.int 78 13 6, ym 77 78]
 (.cond (yt 77) (yR [ya 79 1 5, yl 80 79, ya 81 1 4, yl 82 81, yc 83 (.fn F.expr_at [(yt 80), (yt 82)]), yp 84 (.ext (yt 83) 0), yp 85 (.ext (yt 83) 1), ym 6 84, ym 7 85]
 .ret)
 (yR [yj .eql T.int 87 13 5, ym 86 87]
 (.cond (yt 86) (yR [ya 88 4 5, yl 89 88, ym 6 89, yw 7 (yi 0)]
 .ret)
 (yR [yj .eql T.int 91 13 7, ym 90 91]
 (.cond (yt 90) (.seq (yR [ya 92 1 4, yl 93 92, yj .lss T.int 94 93 0, ym 95 94, yg 95 false (ya 96 1 4), yg 95 false (yl 97 96), yg 95 false (yj .quo T.int 98 97 16), yg 95 false (ya 99 3 5), yg 95 false (yl 100 99), yg 95 false (yn 101 100), yg 95 false (yz .geq T.int 102 98 101), yf 103 95 102]
 (.cond (yt 103) (yR [yw 6 (yi 0), yw 7 (yi 8)]
 .ret)
 .skip))
 (.seq (.drw [ya 104 3 5, yl 105 104, ya 106 1 4, yl 107 106, yj .quo T.int 108 107 16, yx 109 1 105 108, yl 110 109, ya 111 1 4, yl 112 111, yj .rem T.int 113 112 16, yc 114 (.fn F.expr_at [(yt 110), (yt 113)]), yp 115 (.ext (yt 114) 0), yp 116 (.ext (yt 114) 1), ym 6 115, ym 7 116])
 .ret))
 .skip))))))))))))))
 (yR [yw 6 (yi 0), yw 7 (yi 0)]
 .ret)))⟩
theorem E.p_expr_machine_value : compF Try.prog F.p_expr_machine_value = some C.p_expr_machine_value := by kernel_rfl
def C.expr_Eval_2 : LFn := ⟨26, [.tmp 4, .tmp 5],
 (yR [ye 2 (.box T.expr_op (yt 0)), yw 4 (yi 0), yw 5 (yi 0)]
 (.seq (.drw [ya 9 3 2, yl 10 9, ym 11 1, yp 12 (.ia 1 (yt 11) (yi 0)), yl 13 12, ym 14 1, ym 15 1, yn 16 15, yj .sub T.int 17 16 1, yx 18 1 14 17, yl 19 18, yc 20 (.val (yt 10) [(yt 13), (yt 19)]), ym 8 20, yp 21 (.ext (yt 8) 0), yp 22 (.ext (yt 8) 1), ym 6 21, ym 7 22])
 (.seq (yR [ym 23 7, yp 24 (.un .not (yt 23))]
 (.cond (yt 24) (yR [yw 4 (yi 0), yw 5 (yi 10)]
 .ret)
 .skip))
 (yR [ym 25 6, ym 4 25, yw 5 (yi 0)]
 .ret))))⟩
theorem E.expr_Eval_2 : compF Try.prog F.expr_Eval_2 = some C.expr_Eval_2 := by kernel_rfl
def C.expr_ops : LFn := ⟨14, [.tmp 0],
 (yR [yw 0 (.const (.map none))]
 (yR [ye 1 .mkM, yp 2 (.bld [yo, yo, yo, .nilFunc] [(0, 1), (1, 1), (2, 1), (3, 1)] [(0, (yi 1)), (1, (yi 1)), (2, (yi 1)), (3, (.func F.expr_ops_1))]), yv (.mup (.int .i64) (yt 1) (yi 9) (yt 2)), yp 3 (.bld [yo, yo, yo, .nilFunc] [(0, 1), (1, 1), (2, 1), (3, 1)] [(0, (yi 1)), (1, (yi 0)), (2, (yi 0)), (3, (.func F.expr_ops_2))]), yv (.mup (.int .i64) (yt 1) (yi 10) (yt 3)), yp 4 (.bld [yo, yo, yo, .nilFunc] [(0, 1), (1, 1), (2, 1), (3, 1)] [(0, (yi 2)), (1, (yi 0)), (2, (yi 0)), (3, (.func F.num_Add))]), yv (.mup (.int .i64) (yt 1) (yi 11) (yt 4)), yp 5 (.bld [yo, yo, yo, .nilFunc] [(0, 1), (1, 1), (2, 1), (3, 1)] [(0, (yi 2)), (1, (yi 0)), (2, (yi 0)), (3, (.func F.num_Sub))]), yv (.mup (.int .i64) (yt 1) (yi 12) (yt 5)), yp 6 (.bld [yo, yo, yo, .nilFunc] [(0, 1), (1, 1), (2, 1), (3, 1)] [(0, (yi 2)), (1, (yi 0)), (2, (yi 0)), (3, (.func F.num_Mul))]), yv (.mup (.int .i64) (yt 1) (yi 13) (yt 6)), yc 7 (.fn F.expr_says [(yi (-1)), (.func F.expr_ops_3)]), yv (.mup (.int .i64) (yt 1) (yi 14) (yt 7)), yc 8 (.fn F.expr_says [(yi (-1)), (.func F.expr_ops_4)]), yv (.mup (.int .i64) (yt 1) (yi 15) (yt 8)), yc 9 (.fn F.expr_says [(yi 0), (.func F.expr_ops_5)]), yv (.mup (.int .i64) (yt 1) (yi 16) (yt 9)), yc 10 (.fn F.expr_says [(yi 0), (.func F.expr_ops_6)]), yv (.mup (.int .i64) (yt 1) (yi 17) (yt 10)), yc 11 (.fn F.expr_says [(yi 1), (.func F.expr_ops_7)]), yv (.mup (.int .i64) (yt 1) (yi 18) (yt 11)), yc 12 (.fn F.expr_says [(yi 1), (.func F.expr_ops_8)]), yv (.mup (.int .i64) (yt 1) (yi 19) (yt 12)), ym 13 1, ym 0 13]
 .ret))⟩
theorem E.expr_ops : compF Try.prog F.expr_ops = some C.expr_ops := by kernel_rfl
def C.p_expr_machine_step : LFn := ⟨94, [.tmp 8],
 (yR [ye 5 (.box T.api_Node (yt 1)), yw 8 (yi 0)]
 (.seq (.drw [ya 14 0 5, yl 15 14, ym 16 0, yp 17 (.nilC (yt 16)), ya 18 1 17, yl 19 18, yc 20 (.fn F.expr_parts [(yt 15), (yt 19)]), ym 9 20])
 (.seq (.blk 0 (yR [ym 22 9, yj .lss T.int 23 22 0, ym 21 23]
 (.cond (yt 21) (yR [yw 8 (yi 3)]
 .ret)
 (yR [ym 25 9, ym 26 0, yp 27 (.nilC (yt 26)), ya 28 0 27, yl 29 28, yn 30 29, yz .gtr T.int 31 25 30, ym 24 31]
 (.cond (yt 24) (yR [yw 8 (yi 4)]
 .ret)
 .skip)))))
 (yR [yw 10 (yi 0)]
 (yR [yw 11 (yi 0)]
 (.seq (.seq (.sch (.take (ym 33 0)
 (.take (yp 34 (.nilC (yt 33)))
 (.take (ya 35 1 34)
 (.take (yl 36 35)
 (.take (ya 37 0 5)
 (.take (yl 38 37)
 (.take (yr 39 (.lkp (.int .i64) (.agg #[yo, yo, yo, .nilFunc]) true (yt 36) (yt 38)))
 (.take (ym 32 39)
 (.take (yp 40 (.ext (yt 32) 0))
 (.take (yp 41 (.ext (yt 32) 1))
 (.alt (ye 12 (.new T.expr_op (.agg #[yo, yo, yo, .nilFunc])))
 (.fre (yv (.stA 4 (yt 12) (yt 40)))
 (.take (ym 13 41)
 .done)
 .nil)
 .nil))))))))))))
 (yR [ym 42 13]
 (.cond (yt 42) (.drw [ym 44 3, yr 45 (.ldA 4 (yt 12)), ym 46 0, yp 47 (.nilC (yt 46)), ya 48 0 47, yl 49 48, ym 50 0, yp 51 (.nilC (yt 50)), ya 52 0 51, yl 53 52, yn 54 53, ym 55 9, yz .sub T.int 56 54 55, yp 57 (.slc 1 (yt 49) (some (yt 56)) none none), yc 58 (.val (yt 44) [(yt 45), (yt 57)]), ym 43 58, yp 59 (.ext (yt 43) 0), yp 60 (.ext (yt 43) 1), ym 10 59, ym 11 60])
 (.reg [ym 62 2, yr 63 (.ldA 2 (yt 5)), yc 64 (.val (yt 62) [(yt 63)]), ym 61 64, yp 65 (.ext (yt 61) 0), yp 66 (.ext (yt 61) 1), ym 10 65, ym 11 66]))))
 (.seq (yR [ym 67 11, yj .neq T.api_Errno 68 67 0]
 (.cond (yt 68) (yR [ym 69 11, ym 8 69]
 .ret)
 .skip))
 (.seq (.sch (.take (ym 70 0)
 (.take (ym 71 0)
 (.take (yp 72 (.nilC (yt 71)))
 (.take (ya 73 0 72)
 (.take (yl 74 73)
 (.take (ym 75 0)
 (.take (yp 76 (.nilC (yt 75)))
 (.take (ya 77 0 76)
 (.take (yl 78 77)
 (.take (yn 79 78)
 (.take (ym 80 9)
 (.take (yz .sub T.int 81 79 80)
 (.take (yp 82 (.slc 1 (yt 74) none (some (yt 81)) none))
 (.take (ym 83 10)
 (.alt (ye 84 (.bldS T.int 1 1 [yo] [(0, (yt 83))]))
 (.fre (ye 85 (.app T.sl_int T.int 1 8 (yt 82) (yt 84)))
 (.take (yp 86 (.nilC (yt 70)))
 (.take (ya 87 0 86)
 (.fre (ys 87 85)
 .done
 .nil)))
 .nil)
 .nil))))))))))))))))
 (.seq (yR [ym 88 0, yp 89 (.nilC (yt 88)), ya 90 0 89, yl 91 90, yn 92 91, yj .gtr T.int 93 92 12]
 (.cond (yt 93) (yR [yw 8 (yi 12)]
 .ret)
 .skip))
 (yR [yw 8 (yi 0)]
 .ret))))))))))⟩
theorem E.p_expr_machine_step : compF Try.prog F.p_expr_machine_step = some C.p_expr_machine_step := by kernel_rfl
def C.num_Add : LFn := ⟨12, [.tmp 4, .tmp 5],
 (yR [yw 4 (yi 0), yw 5 (yb false)]
 (yR [yp 6 (.bld [.nilFunc] [(0, 1)] [(0, (.func F.num_Add_1))]), ym 7 0, ym 8 1, yc 9 (.fn F.num_op_tell [(yt 6), (yt 7), (yt 8)]), yp 10 (.ext (yt 9) 0), yp 11 (.ext (yt 9) 1), ym 4 10, ym 5 11]
 .ret))⟩
theorem E.num_Add : compF Try.prog F.num_Add = some C.num_Add := by kernel_rfl
def C.expr_named : LFn := ⟨96, [.tmp 4, .tmp 5],
 (yR [ye 2 (.box T.api_Node (yt 0)), ye 3 (.box T.api_Scope (yt 1)), yw 4 (yi 0), yw 5 (yi 0)]
 (.seq (yR [ya 8 0 2, yl 9 8]
 (.blk 0 (yR [yj .eql T.int 11 9 5, ym 10 11]
 (.cond (yt 10) (yR [ya 12 5 3, yl 13 12, yj .geq T.int 14 13 1, ym 15 14, yg 15 true (ya 16 5 3), yg 15 true (yl 17 16), yg 15 true (ya 18 0 3), yg 15 true (yl 19 18), yg 15 true (yn 20 19), yg 15 true (yz .leq T.int 21 17 20), yk 22 15 21]
 (.cond (yt 22) (yR [ya 23 5 3, yl 24 23, yp 25 (.bin .add T.int (yi 1) (yt 24)), ym 4 25, yw 5 (yi 0)]
 .ret)
 .skip))
 (yR [yj .eql T.int 27 9 6, ym 26 27]
 (.cond (yt 26) (yR [ya 28 1 2, yl 29 28, yj .geq T.int 30 29 0, ym 31 30, yg 31 true (ya 32 1 2), yg 31 true (yl 33 32), yg 31 true (ya 34 2 3), yg 31 true (yl 35 34), yg 31 true (yn 36 35), yg 31 true (yz .lss T.int 37 33 36), yk 38 31 37]
 (.cond (yt 38) (.seq (.drw [ya 40 2 3, yl 41 40, ya 42 1 2, yl 43 42, yx 44 6 41 43, ya 45 1 44, yl 46 45, yr 47 (.ldA 6 (yt 3)), yc 48 (.fn F.expr_scalar [(yt 46), (yt 47)]), ym 39 48, yp 49 (.ext (yt 39) 0), yp 50 (.ext (yt 39) 1), ym 6 49, ym 7 50])
 (yR [ym 51 7]
 (.cond (yt 51) (yR [yw 4 (yi 0), yw 5 (yi 0)]
 .ret)
 .skip)))
 .skip))
 (yR [yj .eql T.int 53 9 7, ym 52 53]
 (.cond (yt 52) (.seq (.drw [ya 54 1 2, yl 55 54, yj .geq T.int 56 55 0, ym 57 56, yg 57 true (ya 58 1 2), yg 57 true (yl 59 58), yg 57 true (yj .quo T.int 60 59 16), yg 57 true (ya 61 3 3), yg 57 true (yl 62 61), yg 57 true (yn 63 62), yg 57 true (yz .lss T.int 64 60 63), yk 65 57 64, ym 66 65, yg 66 true (ya 67 1 2), yg 66 true (yl 68 67), yg 66 true (yj .rem T.int 69 68 16), yg 66 true (ya 70 3 3), yg 66 true (yl 71 70), yg 66 true (ya 72 1 2), yg 66 true (yl 73 72), yg 66 true (yj .quo T.int 74 73 16), yg 66 true (yx 75 5 71 74), yg 66 true (ya 76 2 75), yg 66 true (yl 77 76), yg 66 true (yz .lss T.int 78 69 77), yk 79 66 78])
 (.cond (yt 79) (yR [yw 4 (yi 0), yw 5 (yi 0)]
 .ret)
 .skip))
 (yR [yj .eql T.int 81 9 8, ym 80 81]
 (.cond (yt 80) (yR [ya 82 1 2, yl 83 82, yj .geq T.int 84 83 0, ym 85 84, yg 85 true (ya 86 1 2), yg 85 true (yl 87 86), yg 85 true (ya 88 0 3), yg 85 true (yl 89 88), yg 85 true (yn 90 89), yg 85 true (yz .lss T.int 91 87 90), yk 92 85 91]
 (.cond (yt 92) (yR [ya 93 1 2, yl 94 93, yp 95 (.bin .add T.int (yi 2) (yt 94)), ym 4 95, yw 5 (yi 0)]
 .ret)
 .skip))
 .skip))))))))))
 (yR [yw 4 (yi 0), yw 5 (yi 8)]
 .ret)))⟩
theorem E.expr_named : compF Try.prog F.expr_named = some C.expr_named := by kernel_rfl
def C.expr_variable : LFn := ⟨45, [.tmp 6, .tmp 7, .tmp 8],
 (yR [ye 5 (.box T.api_Scope (yt 2)), yw 6 (yi 0), yw 7 (yi 0), yw 8 (yb false)]
 (.seq (yR [ym 11 1, yj .lss T.int 12 11 0, ym 13 12, yg 13 false (ym 14 1), yg 13 false (ym 15 0), yg 13 false (yn 16 15), yg 13 false (yz .geq T.int 17 14 16), yf 18 13 17]
 (.cond (yt 18) (yR [yw 6 (yi 0), yw 7 (yi 0), yw 8 (yb false)]
 .ret)
 .skip))
 (.seq (.drw [ym 20 0, ym 21 1, yx 22 6 20 21, ya 23 1 22, yl 24 23, yr 25 (.ldA 6 (yt 5)), yc 26 (.fn F.expr_scalar [(yt 24), (yt 25)]), ym 19 26, yp 27 (.ext (yt 19) 0), yp 28 (.ext (yt 19) 1), ym 6 27, ym 9 28])
 (.seq (.drw [ym 30 0, ym 31 1, yx 32 6 30 31, ya 33 2 32, yl 34 33, yr 35 (.ldA 6 (yt 5)), yc 36 (.fn F.expr_scalar [(yt 34), (yt 35)]), ym 29 36, yp 37 (.ext (yt 29) 0), yp 38 (.ext (yt 29) 1), ym 7 37, ym 10 38])
 (yR [ym 39 6, ym 40 7, ym 41 9, ym 42 41, yg 42 true (ym 43 10), yk 44 42 43, ym 6 39, ym 7 40, ym 8 44]
 .ret)))))⟩
theorem E.expr_variable : compF Try.prog F.expr_variable = some C.expr_variable := by kernel_rfl
def C.p_expr_machine_top : LFn := ⟨15, [.tmp 2],
 (yR [yw 2 (yi 0)]
 (.seq (.drw [ym 3 0, yp 4 (.nilC (yt 3)), ya 5 0 4, yl 6 5, ym 7 0, yp 8 (.nilC (yt 7)), ya 9 0 8, yl 10 9, yn 11 10, yj .sub T.int 12 11 1, yx 13 1 6 12, yl 14 13, ym 2 14])
 .ret))⟩
theorem E.p_expr_machine_top : compF Try.prog F.p_expr_machine_top = some C.p_expr_machine_top := by kernel_rfl
def C.expr_at : LFn := ⟨18, [.tmp 4, .tmp 5],
 (yR [yw 4 (yi 0), yw 5 (yi 0)]
 (.seq (yR [ym 6 1, yj .lss T.int 7 6 0, ym 8 7, yg 8 false (ym 9 1), yg 8 false (ym 10 0), yg 8 false (yn 11 10), yg 8 false (yz .geq T.int 12 9 11), yf 13 8 12]
 (.cond (yt 13) (yR [yw 4 (yi 0), yw 5 (yi 8)]
 .ret)
 .skip))
 (yR [ym 14 0, ym 15 1, yx 16 1 14 15, yl 17 16, ym 4 17, yw 5 (yi 0)]
 .ret)))⟩
theorem E.expr_at : compF Try.prog F.expr_at = some C.expr_at := by kernel_rfl
def C.expr_ops_1 : LFn := ⟨9, [.tmp 4, .tmp 5],
 (yR [yw 4 (yi 0), yw 5 (yb false)]
 (yR [ym 6 0, yj .eql T.int 7 6 0, yc 8 (.fn F.expr_bit [(yt 7)]), ym 4 8, yw 5 (yb true)]
 .ret))⟩
theorem E.expr_ops_1 : compF Try.prog F.expr_ops_1 = some C.expr_ops_1 := by kernel_rfl
def C.expr_bit : LFn := ⟨4, [.tmp 2],
 (yR [yw 2 (yi 0)]
 (.seq (yR [ym 3 0]
 (.cond (yt 3) (yR [yw 2 (yi 1)]
 .ret)
 .skip))
 (yR [yw 2 (yi 0)]
 .ret)))⟩
theorem E.expr_bit : compF Try.prog F.expr_bit = some C.expr_bit := by kernel_rfl
def C.expr_ops_2 : LFn := ⟨10, [.tmp 4, .tmp 5],
 (yR [yw 4 (yi 0), yw 5 (yb false)]
 (yR [ym 6 0, yc 7 (.fn F.num_Sub [(yi 0), (yt 6)]), yp 8 (.ext (yt 7) 0), yp 9 (.ext (yt 7) 1), ym 4 8, ym 5 9]
 .ret))⟩
theorem E.expr_ops_2 : compF Try.prog F.expr_ops_2 = some C.expr_ops_2 := by kernel_rfl
def C.num_Sub : LFn := ⟨12, [.tmp 4, .tmp 5],
 (yR [yw 4 (yi 0), yw 5 (yb false)]
 (yR [yp 6 (.bld [.nilFunc] [(0, 1)] [(0, (.func F.num_Sub_1))]), ym 7 0, ym 8 1, yc 9 (.fn F.num_op_tell [(yt 6), (yt 7), (yt 8)]), yp 10 (.ext (yt 9) 0), yp 11 (.ext (yt 9) 1), ym 4 10, ym 5 11]
 .ret))⟩
theorem E.num_Sub : compF Try.prog F.num_Sub = some C.num_Sub := by kernel_rfl
def C.num_Mul : LFn := ⟨12, [.tmp 4, .tmp 5],
 (yR [yw 4 (yi 0), yw 5 (yb false)]
 (yR [yp 6 (.bld [.nilFunc] [(0, 1)] [(0, (.func F.num_Mul_1))]), ym 7 0, ym 8 1, yc 9 (.fn F.num_op_tell [(yt 6), (yt 7), (yt 8)]), yp 10 (.ext (yt 9) 0), yp 11 (.ext (yt 9) 1), ym 4 10, ym 5 11]
 .ret))⟩
theorem E.num_Mul : compF Try.prog F.num_Mul = some C.num_Mul := by kernel_rfl
def C.expr_says : LFn := ⟨8, [.cellA 4 4],
 (yR [ye 3 (.box T.func_int_int_bool (yt 1)), ye 4 (.new T.expr_op (.agg #[yo, yo, yo, .nilFunc]))]
 (yR [ym 5 0, yp 6 (.mkF F.expr_says_1 [] [(yt 3)]), yp 7 (.bld [yo, yo, yo, .nilFunc] [(0, 1), (1, 1), (2, 1), (3, 1)] [(0, (yi 2)), (1, (yt 5)), (2, (yi 1)), (3, (yt 6))]), yv (.stA 4 (yt 4) (yt 7))]
 .ret))⟩
theorem E.expr_says : compF Try.prog F.expr_says = some C.expr_says := by kernel_rfl
def C.expr_ops_3 : LFn := ⟨8, [.tmp 4],
 (yR [yw 4 (yb false)]
 (yR [ym 5 0, ym 6 1, yz .eql T.int 7 5 6, ym 4 7]
 .ret))⟩
theorem E.expr_ops_3 : compF Try.prog F.expr_ops_3 = some C.expr_ops_3 := by kernel_rfl
def C.expr_ops_4 : LFn := ⟨8, [.tmp 4],
 (yR [yw 4 (yb false)]
 (yR [ym 5 0, ym 6 1, yz .neq T.int 7 5 6, ym 4 7]
 .ret))⟩
theorem E.expr_ops_4 : compF Try.prog F.expr_ops_4 = some C.expr_ops_4 := by kernel_rfl
def C.expr_ops_5 : LFn := ⟨8, [.tmp 4],
 (yR [yw 4 (yb false)]
 (yR [ym 5 0, ym 6 1, yz .lss T.int 7 5 6, ym 4 7]
 .ret))⟩
theorem E.expr_ops_5 : compF Try.prog F.expr_ops_5 = some C.expr_ops_5 := by kernel_rfl
def C.expr_ops_6 : LFn := ⟨8, [.tmp 4],
 (yR [yw 4 (yb false)]
 (yR [ym 5 0, ym 6 1, yz .leq T.int 7 5 6, ym 4 7]
 .ret))⟩
theorem E.expr_ops_6 : compF Try.prog F.expr_ops_6 = some C.expr_ops_6 := by kernel_rfl
def C.expr_ops_7 : LFn := ⟨11, [.tmp 4],
 (yR [yw 4 (yb false)]
 (yR [ym 5 0, yj .neq T.int 6 5 0, ym 7 6, yg 7 true (ym 8 1), yg 7 true (yj .neq T.int 9 8 0), yk 10 7 9, ym 4 10]
 .ret))⟩
theorem E.expr_ops_7 : compF Try.prog F.expr_ops_7 = some C.expr_ops_7 := by kernel_rfl
def C.expr_ops_8 : LFn := ⟨11, [.tmp 4],
 (yR [yw 4 (yb false)]
 (yR [ym 5 0, yj .neq T.int 6 5 0, ym 7 6, yg 7 false (ym 8 1), yg 7 false (yj .neq T.int 9 8 0), yf 10 7 9, ym 4 10]
 .ret))⟩
theorem E.expr_ops_8 : compF Try.prog F.expr_ops_8 = some C.expr_ops_8 := by kernel_rfl
def C.expr_parts : LFn := ⟨26, [.tmp 4],
 (yR [yw 4 (yi 0)]
 (.seq (.blk 0 (yR [ym 8 0, yj .eql T.int 9 8 3, ym 7 9]
 (.cond (yt 7) (yR [yw 4 (yi 1)]
 .ret)
 (yR [ym 11 0, yj .geq T.int 12 11 1, ym 13 12, yg 13 true (ym 14 0), yg 13 true (yj .leq T.int 15 14 8), yk 16 13 15, ym 10 16]
 (.cond (yt 10) (yR [yw 4 (yi 0)]
 .ret)
 .skip)))))
 (.seq (yR [ym 18 1, ym 19 0, yr 20 (.lkp (.int .i64) (.agg #[yo, yo, yo, .nilFunc]) true (yt 18) (yt 19)), ym 17 20, yp 21 (.ext (yt 17) 0), yp 22 (.ext (yt 17) 1), ye 5 (.new T.expr_op (.agg #[yo, yo, yo, .nilFunc])), yv (.stA 4 (yt 5) (yt 21)), ym 6 22]
 (yR [ym 23 6]
 (.cond (yt 23) (yR [ya 24 0 5, yl 25 24, ym 4 25]
 .ret)
 .skip)))
 (yR [yw 4 (yi (-1))]
 .ret))))⟩
theorem E.expr_parts : compF Try.prog F.expr_parts = some C.expr_parts := by kernel_rfl
def C.num_Add_1 : LFn := ⟨8, [.tmp 4],
 (yR [yw 4 (yi 0)]
 (yR [ym 5 0, ym 6 1, yz .add T.int 7 5 6, ym 4 7]
 .ret))⟩
theorem E.num_Add_1 : compF Try.prog F.num_Add_1 = some C.num_Add_1 := by kernel_rfl
def C.num_op_tell : LFn := ⟨24, [.tmp 6, .tmp 7],
 (yR [ye 3 (.box T.num_op (yt 0)), yw 6 (yi 0), yw 7 (yb false)]
 (.seq (yR [ym 9 1, ym 10 2, ye 11 (.bldS T.int 2 1 [yo, yo] [(0, (yt 9)), (1, (yt 10))]), yc 12 (.fn F.num_within [(yt 11)]), yp 13 (.un .not (yt 12))]
 (.cond (yt 13) (yR [yw 6 (yi 0), yw 7 (yb false)]
 .ret)
 .skip))
 (yR [ya 14 0 3, yl 15 14, ym 16 1, ym 17 2, yc 18 (.val (yt 15) [(yt 16), (yt 17)]), ym 8 18]
 (.seq (yR [ym 19 8, ye 20 (.bldS T.int 1 1 [yo] [(0, (yt 19))]), yc 21 (.fn F.num_within [(yt 20)]), yp 22 (.un .not (yt 21))]
 (.cond (yt 22) (yR [yw 6 (yi 0), yw 7 (yb false)]
 .ret)
 .skip))
 (yR [ym 23 8, ym 6 23, yw 7 (yb true)]
 .ret)))))⟩
theorem E.num_op_tell : compF Try.prog F.num_op_tell = some C.num_op_tell := by kernel_rfl
def C.expr_scalar : LFn := ⟨21, [.tmp 4, .tmp 5],
 (yR [ye 3 (.box T.api_Scope (yt 1)), yw 4 (yi 0), yw 5 (yb false)]
 (.seq (.blk 0 (yR [ym 7 0, yj .eql T.int 8 7 0, ym 6 8]
 (.cond (yt 6) (yR [yw 4 (yi 0), yw 5 (yb true)]
 .ret)
 (yR [ym 10 0, yj .lss T.int 11 10 0, ym 12 11, yg 12 false (ym 13 0), yg 12 false (ya 14 0 3), yg 12 false (yl 15 14), yg 12 false (yn 16 15), yg 12 false (yz .gtr T.int 17 13 16), yf 18 12 17, ym 9 18]
 (.cond (yt 9) (yR [yw 4 (yi 0), yw 5 (yb false)]
 .ret)
 .skip)))))
 (yR [ym 19 0, yp 20 (.bin .add T.int (yi 1) (yt 19)), ym 4 20, yw 5 (yb true)]
 .ret)))⟩
theorem E.expr_scalar : compF Try.prog F.expr_scalar = some C.expr_scalar := by kernel_rfl
def C.num_Sub_1 : LFn := ⟨8, [.tmp 4],
 (yR [yw 4 (yi 0)]
 (yR [ym 5 0, ym 6 1, yz .sub T.int 7 5 6, ym 4 7]
 .ret))⟩
theorem E.num_Sub_1 : compF Try.prog F.num_Sub_1 = some C.num_Sub_1 := by kernel_rfl
def C.num_Mul_1 : LFn := ⟨8, [.tmp 4],
 (yR [yw 4 (yi 0)]
 (yR [ym 5 0, ym 6 1, yz .mul T.int 7 5 6, ym 4 7]
 .ret))⟩
theorem E.num_Mul_1 : compF Try.prog F.num_Mul_1 = some C.num_Mul_1 := by kernel_rfl
def C.expr_says_1 : LFn := ⟨12, [.tmp 5, .tmp 6],
 (yR [yw 5 (yi 0), yw 6 (yb false)]
 (yR [yl 7 2, ym 8 0, ym 9 1, yc 10 (.val (yt 7) [(yt 8), (yt 9)]), yc 11 (.fn F.expr_bit [(yt 10)]), ym 5 11, yw 6 (yb true)]
 .ret))⟩
theorem E.expr_says_1 : compF Try.prog F.expr_says_1 = some C.expr_says_1 := by kernel_rfl
def C.num_within : LFn := ⟨18, [.tmp 2],
 (yR [yw 2 (yb false)]
 (.seq (yR [ym 5 0, yn 6 5, yw 7 (yi 0)]
 (.blk 0 (.loop (yR [yz .lss T.int 8 7 6]
 (.seq (.cond (yt 8) .skip
 (.exit 0))
 (.seq (.blk 1 (yR [yx 9 1 5 7, yl 10 9, ym 4 10]
 (yR [ym 11 4, yj .lss T.int 12 11 (-1048576), ym 13 12, yg 13 false (ym 14 4), yg 13 false (yj .gtr T.int 15 14 1048576), yf 16 13 15]
 (.cond (yt 16) (yR [yw 2 (yb false)]
 .ret)
 .skip))))
 (.reg [yj .add T.int 17 7 1, ym 7 17])))))))
 (yR [yw 2 (yb true)]
 .ret)))⟩
theorem E.num_within : compF Try.prog F.num_within = some C.num_within := by kernel_rfl
end Go.Proofs.Ytfdohkdifdemeaa
end
section
/- The light code of the functions of Go's library that this seat reaches. -/
set_option maxRecDepth 100000
namespace Go.Proofs.Ytfdohkdifdemeaa
open Go Lite Go.Proofs
def C.slices_Compact_sl_api_Node_api_Node : LFn := ⟨61, [.tmp 2],
 (yR [yw 2 (.const yq)]
 (.seq (yR [ym 6 0, yn 7 6, yj .lss T.int 8 7 2]
 (.cond (yt 8) (yR [ym 9 0, ym 2 9]
 .ret)
 .skip))
 (.seq (yR [yw 3 (yi 1)]
 (.blk 0 (.loop (.seq (yR [ym 10 3, ym 11 0, yn 12 11, yz .lss T.int 13 10 12]
 (.cond (yt 13) .skip
 (.exit 0)))
 (.seq (.blk 1 (.seq (.drw [ym 16 0, ym 17 3, yx 18 2 16 17, yr 19 (.ldA 2 (yt 18)), ym 20 0, ym 21 3, yj .sub T.int 22 21 1, yx 23 2 20 22, yr 24 (.ldA 2 (yt 23)), yz .eql T.api_Node 25 19 24])
 (.cond (yt 25) (yR [ym 26 0, ym 27 3, yp 28 (.slc 2 (yt 26) (some (yt 27)) none none), ym 4 28]
 (.seq (yR [yw 5 (yi 1)]
 (.blk 2 (.loop (.seq (yR [ym 29 5, ym 30 4, yn 31 30, yz .lss T.int 32 29 31]
 (.cond (yt 32) .skip
 (.exit 2)))
 (.seq (.blk 3 (.seq (.drw [ym 35 4, ym 36 5, yx 37 2 35 36, yr 38 (.ldA 2 (yt 37)), ym 39 4, ym 40 5, yj .sub T.int 41 40 1, yx 42 2 39 41, yr 43 (.ldA 2 (yt 42)), yz .neq T.api_Node 44 38 43])
 (.cond (yt 44) (yR [ym 45 0, ym 46 3, ym 47 4, ym 48 5, yx 49 2 47 48, yr 50 (.ldA 2 (yt 49)), yx 51 2 45 46, yv (.stA 2 (yt 51) (yt 50))]
 (.reg [ym 52 3, yj .add T.int 53 52 1, ym 3 53]))
 .skip)))
 (.reg [ym 33 5, yj .add T.int 34 33 1, ym 5 34]))))))
 (yR [ym 54 0, ym 55 3, yp 56 (.slc 2 (yt 54) (some (yt 55)) none none), yv (.raw (.call ⟨.builtin .clear, #[(yt 56)], #[T.sl_api_Node]⟩) T.x)]
 (yR [ym 57 0, ym 58 3, yp 59 (.slc 2 (yt 57) none (some (yt 58)) none), ym 2 59]
 .ret))))
 .skip)))
 (.reg [ym 14 3, yj .add T.int 15 14 1, ym 3 15]))))))
 (yR [ym 60 0, ym 2 60]
 .ret))))⟩
theorem E.slices_Compact_sl_api_Node_api_Node : compF Try.prog F.slices_Compact_sl_api_Node_api_Node = some C.slices_Compact_sl_api_Node_api_Node := by kernel_rfl
end Go.Proofs.Ytfdohkdifdemeaa
end
