/- How rows of numbers, and what expressions speak of, lie in memory. -/
import Derived.Test.YteaboocppcbkiaaExprP
set_option linter.all false
set_option maxRecDepth 4000
namespace Lite
open Go Go.RowKit
/-- Numbers that a word holds. -/
structure RIntB (w : World) (a : Addr) (n : Int) : Prop where
  cells : CellsAt w a [Value.int .i64 n]
  ok : Abs.inI n
theorem RIntB.ext (w w' : World) (a : Addr) (n : Int) (he : Ext w w') (h : RIntB w a n) : RIntB w' a n := ⟨h.cells.ext he, h.ok⟩
instance instCelIntB : Cel RIntB (fun n => [Value.int .i64 n]) := ⟨fun _ _ _ h => h.cells⟩
abbrev IntsB (w : World) (v : Value) (l : List Int) : Prop := SlR 1 RIntB w v l
theorem IntsB.ext {w w' : World} {v : Value} {l : List Int} (he : Ext w w') (h : IntsB w v l) : IntsB w' v l := SlR.ext RIntB.ext he h
theorem IntsB.ok {w : World} {v : Value} {l : List Int} (h : IntsB w v l) : ∀ z ∈ l, Abs.inI z := by
  intro z hz
  obtain ⟨i, hi, rfl⟩ := List.mem_iff_getElem.1 hz
  obtain ⟨oa, cap, rfl, _⟩ := h.form
  obtain ⟨a, rfl⟩ := h.addr (by omega)
  exact (h.at i hi).ok
/-- A row of rows. -/
def RRow (w : World) (a : Addr) (l : List Int) : Prop := ∃ v, w.cell? a = some v ∧ IntsB w v l
theorem RRow.ext (w w' : World) (a : Addr) (l : List Int) (he : Ext w w') (h : RRow w a l) : RRow w' a l := let ⟨v, h1, h2⟩ := h; ⟨v, he.cell h1, h2.ext he⟩
abbrev Rowss (w : World) (v : Value) (l : List (List Int)) : Prop := SlR 1 RRow w v l
theorem Rowss.ext {w w' : World} {v : Value} {l : List (List Int)} (he : Ext w w') (h : Rowss w v l) : Rowss w' v l := SlR.ext RRow.ext he h
end Lite
namespace Abs
open Go Go.RowKit Lite
/-- The five cells of what an expression may speak of. -/
structure EnvIs (w : World) (cs : List Value) (v : Env) : Prop where
  ex : ∃ v0 v1 v2 v3, cs = [v0, v1, v2, v3, .int .i64 v.self] ∧ Rowss w v0 v.vars ∧ IntsB w v1 v.lens ∧ IntsB w v2 v.locals ∧ Rowss w v3 v.at_ ∧ inI v.self
theorem EnvIs.ext {w w' : World} {cs : List Value} {v : Env} (he : Ext w w') (h : EnvIs w cs v) : EnvIs w' cs v :=
  let ⟨v0, v1, v2, v3, e, h0, h1, h2, h3, h4⟩ := h.ex
  ⟨v0, v1, v2, v3, e, h0.ext he, h1.ext he, h2.ext he, h3.ext he, h4⟩
theorem EnvIs.form {w : World} {cs : List Value} {v : Env} (h : EnvIs w cs v) : ∃ a0 c0 a1 c1 a2 c2 a3 c3, cs = [.slice a0 v.vars.length c0, .slice a1 v.lens.length c1, .slice a2 v.locals.length c2, .slice a3 v.at_.length c3, .int .i64 v.self] ∧
    Rowss w (.slice a0 v.vars.length c0) v.vars ∧ IntsB w (.slice a1 v.lens.length c1) v.lens ∧ IntsB w (.slice a2 v.locals.length c2) v.locals ∧ Rowss w (.slice a3 v.at_.length c3) v.at_ ∧ inI v.self ∧
    v.vars.length ≤ 9223372036854775807 ∧ v.lens.length ≤ 9223372036854775807 ∧ v.locals.length ≤ 9223372036854775807 ∧ v.at_.length ≤ 9223372036854775807 := by
  obtain ⟨v0, v1, v2, v3, rfl, h0, h1, h2, h3, h4⟩ := h.ex
  obtain ⟨a0, c0, rfl, l0⟩ := h0.form
  obtain ⟨a1, c1, rfl, l1⟩ := h1.form
  obtain ⟨a2, c2, rfl, l2⟩ := h2.form
  obtain ⟨a3, c3, rfl, l3⟩ := h3.form
  exact ⟨a0, c0, a1, c1, a2, c2, a3, c3, rfl, h0, h1, h2, h3, h4, l0, l1, l2, l3⟩
end Abs
