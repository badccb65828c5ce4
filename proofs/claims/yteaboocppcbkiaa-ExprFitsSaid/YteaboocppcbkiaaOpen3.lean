/- Arguments opened: rows of numbers, what expressions speak of. -/
import Derived.Test.YteaboocppcbkiaaOpen2
import Derived.Test.YteaboocppcbkiaaRep3
set_option linter.all false
set_option maxRecDepth 4000
namespace Go.Proofs.Yteaboocppcbkiaa
open Go Go.RowKit Lite Go.ChangeShapes
variable {H : Type} {enc : TypeId × Value → H} {w : World} {r : Reach} {b0 : Nat} {v : Value} {d : DataW H} {p : List MemPlace}
theorem ints_c {n : Nat} {y : DataW H × List MemPlace} (h : DataW.trod enc Try.prog w 0 (fun _ => true) true n T.sl_int [v] = some y) : ∃ l, IntsB w v l ∧ (Small Try.prog T.sl_int y.1 → l.length ≤ 140737488355328) :=
  cell_sl (e := T.int) 1 (by kernel_rfl) (by kernel_rfl) (by decide +kernel) (fun a cs n y hc hl ht => by
    obtain ⟨z, e, _, kz⟩ := DataW.trod_int (k := .i64) (by kernel_rfl) ht
    cases e
    exact ⟨z, hc, wf_inI kz⟩) h
theorem rowss_c {n : Nat} {y : DataW H × List MemPlace} (h : DataW.trod enc Try.prog w 0 (fun _ => true) true n T.sl_sl_int [v] = some y) : ∃ l, Rowss w v l ∧ (Small Try.prog T.sl_sl_int y.1 → l.length ≤ 140737488355328) :=
  cell_sl (e := T.sl_int) 1 (by kernel_rfl) (by kernel_rfl) (by decide +kernel) (fun a cs n y hc hl ht => by
    match cs, hl with
    | [u], _ =>
      obtain ⟨l, hl, _⟩ := ints_c ht
      have h0 := hc 0 u rfl
      rw [add_zero] at h0
      exact ⟨l, u, h0, hl⟩) h
theorem open_ints (hval : Value.okWide Try.prog w r b0 T.sl_int v) (h : DataW.Trod enc Try.prog w 0 (fun _ => true) true T.sl_int v d p) : ∃ l, IntsB w v l := by
  obtain ⟨n, hn⟩ := arg_sl (e := T.int) (by kernel_rfl) hval h
  obtain ⟨l, hl, _⟩ := ints_c hn
  exact ⟨l, hl⟩
theorem open_env (hval : Value.okWide Try.prog w r b0 T.api_Env v) (h : DataW.Trod enc Try.prog w 0 (fun _ => true) true T.api_Env v d p) : ∃ cs x, v = .agg cs.toArray ∧ Abs.EnvIs w cs x := by
  obtain ⟨cs, n, rfl, ht⟩ := open_st2 (t := T.api_Env) rfl hval h
  obtain ⟨hl, n', ds, rfl, hf⟩ := fields2 (t := T.api_Env) rfl (by kernel_rfl) (by kernel_rfl) ht
  obtain ⟨cs⟩ := cs
  match cs, hl with
  | [c0, c1, c2, c3, c4], _ =>
    obtain ⟨_, _, e0, h0, d0⟩ := hf 0 _ rfl
    obtain ⟨_, _, e1, h1, d1⟩ := hf 1 _ rfl
    obtain ⟨_, _, e2, h2, d2⟩ := hf 2 _ rfl
    obtain ⟨_, _, e3, h3, d3⟩ := hf 3 _ rfl
    obtain ⟨_, _, e4, h4, _⟩ := hf 4 _ rfl
    cases e0; cases e1; cases e2; cases e3; cases e4
    obtain ⟨z, e4, _, kz⟩ := DataW.trod_int (k := .i64) (by kernel_rfl) h4
    cases e4
    obtain ⟨l0, r0, _⟩ := rowss_c h0
    obtain ⟨l1, r1, _⟩ := ints_c h1
    obtain ⟨l2, r2, _⟩ := ints_c h2
    obtain ⟨l3, r3, _⟩ := rowss_c h3
    exact ⟨[c0, c1, c2, c3, .int .i64 z], ⟨l0, l1, l2, l3, z⟩, rfl, c0, c1, c2, c3, rfl, r0, r1, r2, r3, wf_inI kz⟩
end Go.Proofs.Yteaboocppcbkiaa
