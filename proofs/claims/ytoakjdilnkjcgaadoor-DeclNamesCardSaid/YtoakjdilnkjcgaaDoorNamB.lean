/- What stands while names are gathered. -/
import Derived.Test.YtoakjdilnkjcgaaDoorNamA
set_option linter.all false
set_option maxRecDepth 4000
set_option maxHeartbeats 6400000
namespace Go.Proofs.YtoakjdilnkjcgaaDoor
open Go Go.RowKit Lite
/-- What stands while names are gathered. -/
structure NamSt (w w' : World) (b1 : Nat) (cs : List Value) (v : SlN) (ss : List ByteArray) : Prop where
  ext : Ext w w'
  h1 : w'.heap[b1]? = some (.cells cs.toArray T.api_Model)
  own : OwnN w.heap.size w' v ss
theorem NamSt.then {w w' w'' : World} {b1 : Nat} {cs : List Value} {v : SlN} {ss : List ByteArray} (h : NamSt w w' b1 cs v ss) (he : Ext w' w'') : NamSt w w'' b1 cs v ss := ⟨h.ext.trans he, he.obj h.h1, h.own.ext he⟩
theorem NamSt.grown {w w' w'' : World} {b1 : Nat} {cs : List Value} {v v' : SlN} {ss ss' : List ByteArray} (h : NamSt w w' b1 cs v ss) (hg : w'.grownBy w'' (slvN v).ownBlock) (ho : OwnN w.heap.size w'' v' ss') : NamSt w w'' b1 cs v' ss' := by
  refine ⟨Ext.grown h.ext hg fun k hk => (h.own.lt k hk).1, ?_, ho⟩
  rw [hg.block b1 (lt_of_heap h.h1) fun e' => ?_]
  · exact h.h1
  rcases h.own.2 with ⟨e, _⟩ | ⟨g, cap, c2, e, _, hgg, _⟩
  · rw [e] at e'; cases e'
  · rw [e] at e'
    simp only [Value.ownBlock, Option.some.injEq] at e'
    subst e'
    have := h.h1.symm.trans hgg
    injection this with this
    injection this with _ this
    revert this; decide
theorem grown_blk {w w' : World} {base b : Nat} {v : SlN} {ss : List ByteArray} {c : Array Value} {t : TypeId} (ho : OwnN base w v ss) (hg : w.grownBy w' (slvN v).ownBlock) (hk : w.heap[b]? = some (.cells c t)) (ht : t ≠ T.string) : w'.heap[b]? = some (.cells c t) := by
  rw [hg.block b (lt_of_heap hk) fun e' => ?_]
  · exact hk
  rcases ho.2 with ⟨e, _⟩ | ⟨g, cap, c2, e, _, hgg, _⟩
  · rw [e] at e'; cases e'
  · rw [e] at e'
    simp only [Value.ownBlock, Option.some.injEq] at e'
    subst e'
    have := hk.symm.trans hgg
    injection this with this
    injection this with _ this
    exact ht this
theorem NamSt.re {w w' : World} {b1 : Nat} {cs : List Value} {v : SlN} {ss ss' : List ByteArray} (h : NamSt w w' b1 cs v ss) (e : ss = ss') : NamSt w w' b1 cs v ss' := e ▸ h
theorem take_snoc {α β : Type} (f : α → β) (pre : List β) (l : List α) (k : Nat) (h : k < l.length) : pre ++ (l.take k).map f ++ [f l[k]] = pre ++ (l.take (k + 1)).map f := by
  rw [List.take_succ_eq_append_getElem h, List.map_append, ← List.append_assoc]; rfl
theorem take_end {α β : Type} (f : α → β) (pre : List β) (l : List α) (k : Nat) (h : ¬ (k : Int) < l.length) : pre ++ (l.take k).map f = pre ++ l.map f := by
  rw [List.take_of_length_le (by omega)]
theorem len_take {α β : Type} (f : α → β) (pre : List β) (l : List α) (k : Nat) (h : k < l.length) : (pre ++ (l.take k).map f).length = pre.length + k := by simp; omega
/-- The names of a process. -/
abbrev pnames (p : Abs.Proc) : List ByteArray := p.name :: (p.vars.map (·.name) ++ p.cmds.map (·.name))
theorem pre_len {m : Abs.Model} (hm : LightM m) (k : Nat) (h : k ≤ m.procs.length) : ((m.procs.take k).flatMap pnames).length ≤ 41 * k := by
  induction k with
  | zero => simp
  | succ k ih =>
    have hk : k < m.procs.length := by omega
    rw [List.take_succ_eq_append_getElem hk, List.flatMap_append, List.length_append]
    have := ih (by omega)
    have h1 := (hm.i k hk).1
    have h2 := (hm.i k hk).2
    simp only [List.flatMap_cons, List.flatMap_nil, List.append_nil, List.length_cons, List.length_append, List.length_map]
    omega
theorem pre_snoc {m : Abs.Model} (pre : List ByteArray) (k : Nat) (h : k < m.procs.length) : pre ++ (m.procs.take k).flatMap pnames ++ pnames m.procs[k] = pre ++ (m.procs.take (k + 1)).flatMap pnames := by
  rw [List.take_succ_eq_append_getElem h, List.flatMap_append, ← List.append_assoc]; simp
theorem pre_end {m : Abs.Model} (pre : List ByteArray) (k : Nat) (h : ¬ (k : Int) < m.procs.length) : pre ++ (m.procs.take k).flatMap pnames = pre ++ m.procs.flatMap pnames := by
  rw [List.take_of_length_le (by omega)]
end Go.Proofs.YtoakjdilnkjcgaaDoor
