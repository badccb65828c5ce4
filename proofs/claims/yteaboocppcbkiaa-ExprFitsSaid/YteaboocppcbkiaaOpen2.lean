/- Arguments opened: scopes, what expressions speak of. -/
import Derived.Test.YteaboocppcbkiaaOpen1
import Derived.Test.YteaboocppcbkiaaExprC
set_option linter.all false
set_option maxRecDepth 4000
namespace Lite
open Go Go.RowKit Go.ChangeShapes Go.WideShapes Go.Deep
theorem open_st2 {H : Type} {enc : TypeId × Value → H} {P : Program} {w : World} {base : Nat} {spare : Nat → Bool} {held : Bool} {r : Reach} {b0 : Nat} {t : TypeId} {fs : Array Field} {v : Value} {d : DataW H} {p : List MemPlace} (ht : P.underlying t = some (.struct fs))
    (hval : Value.okWide P w r b0 t v) (h : DataW.Trod enc P w base spare held t v d p) : ∃ cs n, v = .agg cs ∧ DataW.trod enc P w base spare held n t cs.toList = some (d, p) := by
  obtain ⟨cs, rfl, hsz⟩ := okWide_struct ht hval
  obtain ⟨fuel, hf⟩ := h
  exact ⟨cs, fuel, rfl, hf⟩
end Lite
namespace Go.Proofs.Yteaboocppcbkiaa
open Go Go.RowKit Lite Go.ChangeShapes
variable {H : Type} {enc : TypeId × Value → H} {w : World} {r : Reach} {b0 : Nat} {v : Value} {d : DataW H} {p : List MemPlace}
theorem open_nodes (hval : Value.okWide Try.prog w r b0 T.sl_api_Node v) (h : DataW.Trod enc Try.prog w 0 (fun _ => true) true T.sl_api_Node v d p) : ∃ l, Abs.Nodes w v l := by
  obtain ⟨n, hn⟩ := arg_sl (e := T.api_Node) (by kernel_rfl) hval h
  obtain ⟨l, hl, _⟩ := nodes_c hn
  exact ⟨l, hl⟩
theorem open_scope (hval : Value.okWide Try.prog w r b0 T.api_Scope v) (h : DataW.Trod enc Try.prog w 0 (fun _ => true) true T.api_Scope v d p) (hs : Small Try.prog T.api_Scope d) : ∃ cs s, v = .agg cs.toArray ∧ Abs.ScopeIs w cs s := by
  obtain ⟨cs, n, rfl, ht⟩ := open_st2 (t := T.api_Scope) rfl hval h
  obtain ⟨hl, n', ds, rfl, hf⟩ := fields2 (t := T.api_Scope) rfl (by kernel_rfl) (by kernel_rfl) ht
  obtain ⟨cs⟩ := cs
  match cs, hl with
  | [c0, c1, c2, c3, c4, c5], _ =>
    obtain ⟨_, _, e0, h0, d0⟩ := hf 0 _ rfl
    obtain ⟨_, _, e1, h1, d1⟩ := hf 1 _ rfl
    obtain ⟨_, _, e2, h2, d2⟩ := hf 2 _ rfl
    obtain ⟨_, _, e3, h3, d3⟩ := hf 3 _ rfl
    obtain ⟨_, _, e4, h4, d4⟩ := hf 4 _ rfl
    obtain ⟨_, _, e5, h5, _⟩ := hf 5 _ rfl
    cases e0; cases e1; cases e2; cases e3; cases e4; cases e5
    obtain ⟨z, e5, _, kz⟩ := DataW.trod_int (k := .i64) (by kernel_rfl) h5
    cases e5
    obtain ⟨l0, r0, b0⟩ := scalars_c h0
    obtain ⟨l1, r1, b1⟩ := vars_c h1
    obtain ⟨l2, r2, b2⟩ := chans_c h2
    obtain ⟨l3, r3, b3⟩ := procs_c h3
    obtain ⟨l4, r4, b4⟩ := vars_c h4
    have k0 := b0 (hs.field rfl rfl rfl d0)
    have k1 := b1 (hs.field rfl rfl rfl d1)
    have k2 := b2 (hs.field rfl rfl rfl d2)
    have k3 := b3 (hs.field rfl rfl rfl d3)
    have k4 := b4 (hs.field rfl rfl rfl d4)
    exact ⟨[c0, c1, c2, c3, c4, .int .i64 z], ⟨l0, l1, l2, l3, l4, z⟩, rfl, ⟨⟨by show l1.length ≤ _; omega, by show l2.length ≤ _; omega, by show l3.length ≤ _; omega, by show l4.length ≤ _; omega, wf_inI kz⟩,
      c0, c1, c2, c3, c4, rfl, r0, r1, r2, r3, r4, by show l0.length ≤ _; omega⟩⟩
end Go.Proofs.Yteaboocppcbkiaa
