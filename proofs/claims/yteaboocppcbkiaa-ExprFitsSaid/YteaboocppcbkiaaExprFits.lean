/- The law ExprFits: its row and its card. -/
import Derived.Test.YteaboocppcbkiaaFitD
import Derived.Test.YteaboocppcbkiaaLite8
import Derived.Test.YteaboocppcbkiaaRows
import Derived.SizedLaws
import Derived.WalkKit
import Derived.ProofKit
import Derived.OpenShut
import Derived.Deep.DeepHandedRow
import Derived.Lib.LaidTab
set_option linter.all false
namespace Go.Proofs.Yteaboocppcbkiaa.fnExprFits
open Go.ChangeShapes Go.WideShapes Go.ChangeAt Go.RowKit Lite

theorem own : ownKnob Try.prog.godebug = none := by kernel_rfl
theorem laidOut : laidOutB Try.prog = true := by kernel_rfl
theorem pars : Try.f5.params = #[T.sl_api_Node, T.api_Scope, T.sl_int] := by kernel_rfl
set_option maxRecDepth 100000 in
theorem contract (H : Type) (enc : TypeId × Value → H) (W : World) (base : Nat) (args : Array Value) (ds gs : List (DataW H)) (before : List MemPlace)
    (hval : ∀ (j : Nat) t v, Try.f5.params[j]? = some t → args[j]? = some v → Value.okWide Try.prog W .any base t v)
    (hW : DataW.Whole enc Try.prog Try.f5.params.toList Rows.exprFitsSpec.vars false W args.toList ds gs before) (hwt : (DataW.weightsEach Try.prog (Try.f5.params.toList ++ (OpenSpec.ofChange Rows.exprFitsSpec).bare.plain.varTypes Try.prog) (ds ++ gs)).all (· ≤ reachBytes) = true) :
    Calls Try.prog 5 args W fun e W' => ∃ v, e = .returned v ∧ Rows.exprFitsSpec.post enc Try.prog Try.f5 false true false false W args v W' := by
  have hW' := hW
  obtain ⟨p, q, hA0, hV, rfl, hfz, hnd⟩ := hW
  have hA := hA0
  rw [pars] at hA hval hwt
  obtain ⟨v0, vs0, d0, ds0, p0, q0, hargs, rfl, rfl, h0, r0⟩ := trodAll_cons hA
  obtain ⟨v1, vs1, d1, ds1, p1, q1, rfl, rfl, rfl, h1, r1⟩ := trodAll_cons r0
  obtain ⟨v2, vs2, d2, ds2, p2, q2, rfl, rfl, rfl, h2, r2⟩ := trodAll_cons r1
  obtain ⟨rfl, rfl, rfl⟩ := trodAll_nil r2
  obtain rfl : args = #[v0, v1, v2] := by cases args; simp_all
  clear hA0
  have sm0 : Small Try.prog T.sl_api_Node d0 := fun q hq => by
    have := List.all_eq_true.1 hwt q (DataW.weights_mem_each (j := 0) (t := T.sl_api_Node) (d := d0) rfl rfl q hq)
    simpa using this
  have sm1 : Small Try.prog T.api_Scope d1 := fun q hq => by
    have := List.all_eq_true.1 hwt q (DataW.weights_mem_each (j := 1) (t := T.api_Scope) (d := d1) rfl rfl q hq)
    simpa using this
  have sm2 : Small Try.prog T.sl_int d2 := fun q hq => by
    have := List.all_eq_true.1 hwt q (DataW.weights_mem_each (j := 2) (t := T.sl_int) (d := d2) rfl rfl q hq)
    simpa using this
  refine (walk_ExprFits _ _ _ W (hval 0 _ _ rfl rfl) h0 sm0 (hval 1 _ _ rfl rfl) h1 sm1 (hval 2 _ _ rfl rfl) h2 sm2).mono fun e W' hh => ?_
  obtain ⟨rfl, bel⟩ := hh
  exact (law_post (tb := T.bool) laidOut (by kernel_rfl) rfl (by kernel_rfl) (by kernel_rfl) (fun ds h => by
    have h2 : ds.length = (#[T.sl_api_Node, T.api_Scope, T.sl_int] : Array TypeId).toList.length := h.trans (by rw [pars])
    match ds, h2 with | [d0, d1, d2], _ => rfl) hW' bel)

/-- A world for the witness. -/
noncomputable def laidWorld (os : Os) : World := World.holding Try.prog os ⟨#[], #[], []⟩
theorem laid_met (os : Os) : laidMet Try.prog Rows.exprFitsRow.laid ((laidWorld os).forCall (fun _ _ => 0) ⟨#[], #[.slice none 0 0, .agg #[.slice none 0 0, .slice none 0 0, .slice none 0 0, .slice none 0 0, .slice none 0 0, .int .i64 0], .slice none 0 0], []⟩).memory :=
  laidMet_of_run' 8 (by kernel_rfl) (by kernel_rfl)
theorem reads (os : Os) {H : Type} (enc : TypeId × Value → H) : ∃ places, DataW.whole enc Try.prog ((laidWorld os).forCall (fun _ _ => 0) ⟨#[], #[.slice none 0 0, .agg #[.slice none 0 0, .slice none 0 0, .slice none 0 0, .slice none 0 0, .slice none 0 0, .int .i64 0], .slice none 0 0], []⟩).memory Try.f5.params.toList Rows.exprFitsSpec.vars false (#[.slice none 0 0, .agg #[.slice none 0 0, .slice none 0 0, .slice none 0 0, .slice none 0 0, .slice none 0 0, .int .i64 0], .slice none 0 0] : Array Value).toList 8 = some ([.nil, .agg [.nil, .nil, .nil, .nil, .nil, .lit (.int .i64 0)], .nil], [], places) :=
  ⟨[], by kernel_rfl⟩

set_option maxRecDepth 100000 in
theorem lifted (os : Os) (started : os.Started) (H : Type) (enc : TypeId × Value → H) (F : Stop.Interp) :
    ReturnsInHanded {} Try.checked os 5 .any ((OpenSpec.ofChange Rows.exprFitsSpec).preRow enc Try.prog Try.f5 Rows.exprFitsRow.domain false Rows.exprFitsRow.laid) (((OpenSpec.ofChange Rows.exprFitsSpec).at F).post enc Try.prog Try.f5 false true false false) := by
  obtain ⟨places, hx⟩ := reads os enc
  refine returnsInHanded_of_row (C := Try.checked) (s := OpenSpec.ofChange Rows.exprFitsSpec) own started (by kernel_rfl) Try.func5
    (witness_row_at (enc := enc) (C := Try.checked) false (laidWorld os) #[.slice none 0 0, .agg #[.slice none 0 0, .slice none 0 0, .slice none 0 0, .slice none 0 0, .slice none 0 0, .int .i64 0], .slice none 0 0] rfl (by kernel_rfl) (by kernel_rfl) (by kernel_rfl)
      (OpenSpec.preRow_of_cond 8 hx (by kernel_rfl) (fun k hk => by cases hk) (by kernel_rfl) (laid_met os))) ?_
  intro W base args ds gs before hval hW _ _ hwt _ _ _
  exact contract H enc W base args ds gs before hval hW hwt

theorem said : Rows.ExprFitsSaid :=
  OpenClaim.holds_of_cond 5 Try.f5 rfl rfl rfl rfl rfl rfl rfl ⟨rfl, rfl, rfl, rfl, rfl⟩ rfl rfl rfl rfl rfl (by kernel_rfl) Try.func5 (by kernel_rfl)
    (of_decide_eq_true (by kernel_rfl)) (by unfold Func.isWrapper; first | (rw [if_pos (by decide +kernel)]; kernel_rfl) | (rw [if_neg (by decide +kernel)]; exact ⟨rfl, rfl⟩))
    (fun os started H enc _ F => by rw [OpenClaim.pre_eq_preRow]; exact lifted os started H enc F)

end Go.Proofs.Yteaboocppcbkiaa.fnExprFits
