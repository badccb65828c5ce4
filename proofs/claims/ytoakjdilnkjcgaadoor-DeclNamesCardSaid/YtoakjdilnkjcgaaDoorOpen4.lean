/- Arguments opened: models. -/
import Derived.Test.YtoakjdilnkjcgaaDoorOpen1
set_option linter.all false
set_option maxRecDepth 4000
namespace Lite
open Go Go.RowKit Go.ChangeShapes Go.WideShapes Go.Deep
theorem open_st3 {H : Type} {enc : TypeId × Value → H} {P : Program} {w : World} {base : Nat} {spare : Nat → Bool} {held : Bool} {r : Reach} {b0 : Nat} {t : TypeId} {fs : Array Field} {v : Value} {d : DataW H} {p : List MemPlace} (ht : P.underlying t = some (.struct fs))
    (hval : Value.okWide P w r b0 t v) (h : DataW.Trod enc P w base spare held t v d p) : ∃ cs n, v = .agg cs ∧ DataW.trod enc P w base spare held n t cs.toList = some (d, p) := by
  obtain ⟨cs, rfl, hsz⟩ := okWide_struct ht hval
  obtain ⟨fuel, hf⟩ := h
  exact ⟨cs, fuel, rfl, hf⟩
end Lite
namespace Go.Proofs.YtoakjdilnkjcgaaDoor
open Go Go.RowKit Lite Go.ChangeShapes
variable {H : Type} {enc : TypeId × Value → H} {w : World} {r : Reach} {b0 : Nat} {v : Value} {d : DataW H} {p : List MemPlace} {cs : List Value} {n : Nat} {y : DataW H × List MemPlace}
theorem prp_el {a : Addr} (hc : CellsAt w a cs) (h : DataW.trod enc Tryd.prog w 0 (fun _ => true) true n T.api_Prop cs = some y) : ∃ x : Abs.Prp, Abs.RPrp w a x := by
  obtain ⟨hl, n', ds, _, hf⟩ := fields2 (t := T.api_Prop) rfl (by kernel_rfl) (by kernel_rfl) h
  match cs, hl with
  | [c0, c1], _ =>
    obtain ⟨_, _, e0, h0, _⟩ := hf 0 _ rfl
    obtain ⟨_, _, e1, h1, _⟩ := hf 1 _ rfl
    cases e0; cases e1
    obtain ⟨s, e0, _, hs⟩ := DataW.trod_string (by kernel_rfl) h0
    cases e0
    obtain ⟨l1, h1, _⟩ := nodes_c h1
    exact ⟨⟨s, l1⟩, hs, c1, hc, h1⟩
theorem prps_c (h : DataW.trod enc Tryd.prog w 0 (fun _ => true) true n T.sl_api_Prop [v] = some y) : ∃ l, Abs.Prps w v l ∧ (Small Tryd.prog T.sl_api_Prop y.1 → l.length ≤ 140737488355328) :=
  cell_sl (e := T.api_Prop) 2 (by kernel_rfl) (by kernel_rfl) (by decide +kernel) (fun a cs n y hc hl ht => prp_el hc ht) h
theorem open_model (hval : Value.okWide Tryd.prog w r b0 T.api_Model v) (h : DataW.Trod enc Tryd.prog w 0 (fun _ => true) true T.api_Model v d p) : ∃ cs m, v = .agg cs.toArray ∧ Abs.ModelIs w cs m := by
  obtain ⟨cs, n, rfl, ht⟩ := open_st3 (t := T.api_Model) rfl hval h
  obtain ⟨hl, n', ds, rfl, hf⟩ := fields2 (t := T.api_Model) rfl (by kernel_rfl) (by kernel_rfl) ht
  obtain ⟨cs⟩ := cs
  match cs, hl with
  | [c0, c1, c2, c3, c4], _ =>
    obtain ⟨_, _, e0, h0, d0⟩ := hf 0 _ rfl
    obtain ⟨_, _, e1, h1, d1⟩ := hf 1 _ rfl
    obtain ⟨_, _, e2, h2, d2⟩ := hf 2 _ rfl
    obtain ⟨_, _, e3, h3, d3⟩ := hf 3 _ rfl
    obtain ⟨_, _, e4, h4, d4⟩ := hf 4 _ rfl
    cases e0; cases e1; cases e2; cases e3; cases e4
    obtain ⟨l0, r0, b0⟩ := scalars_c h0
    obtain ⟨l1, r1, b1⟩ := vars_c h1
    obtain ⟨l2, r2, b2⟩ := chans_c h2
    obtain ⟨l3, r3, b3⟩ := procs_c h3
    obtain ⟨l4, r4, b4⟩ := prps_c h4
    exact ⟨[c0, c1, c2, c3, c4], ⟨l0, l1, l2, l3, l4⟩, rfl, ⟨⟨c0, c1, c2, c3, c4, rfl, r0, r1, r2, r3, r4⟩⟩⟩
end Go.Proofs.YtoakjdilnkjcgaaDoor
