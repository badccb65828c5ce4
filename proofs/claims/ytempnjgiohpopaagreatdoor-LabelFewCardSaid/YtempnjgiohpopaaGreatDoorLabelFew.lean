/- The law LabelFew: its row and its card. -/
import Derived.Test.YtempnjgiohpopaaGreatDoorLabelFewP
import Derived.Test.YtempnjgiohpopaaGreatDoorCards
import Derived.Test.YtempnjgiohpopaaGreatDoorTie
import Derived.WalkKit
import Derived.SizedLaws
import Derived.ProofKit
import Derived.OpenShut
import Derived.Deep.DeepHandedRow
import Derived.Lib.LaidTab
set_option linter.all false
set_option maxRecDepth 20000
namespace Go.Proofs.YtempnjgiohpopaaGreatDoor.fnLabelFew
open Go.Proofs.R Go.ChangeShapes Go.WideShapes Go.ChangeAt Go.RowKit bn
theorem plain (f : FuncId) (fn : Func) (hf : Tryz.pinned.checked.prog.funcNamed "lariat/lariatlaw21.LabelFew" = some f) (hfn : Tryz.pinned.checked.prog.funcs[f]? = some fn) :
    true = Tryz.pinned.checked.prog.looks [] ∧ ∀ (j : Nat) t, fn.params[j]? = some t → Tryz.pinned.checked.prog.wantsStandIn t = false := by
  obtain rfl : f = 9 := Option.some.inj ((show Tryz.prog.funcNamed "lariat/lariatlaw21.LabelFew" = some 9 by kernel_rfl).symm.trans hf) |>.symm
  obtain rfl : fn = Tryz.f9 := (Option.some.inj (Tryz.func9.symm.trans hfn)).symm
  refine ⟨by kernel_rfl, fun j t ht => ?_⟩
  rw [pars] at ht
  have h := (show ([T.c, T.b, T.v].all fun t => Tryz.prog.wantsStandIn t == false) = true by kernel_rfl)
  have hm := List.all_eq_true.1 h t (by simpa using Array.mem_of_getElem? ht)
  exact eq_of_beq hm
theorem c1 : Rows.labelFewRow.wfByText (OpenSpec.ofChange Rows.labelFewSpec) = true := by kernel_rfl
theorem c2 : Tryz.pinned.checked.prog.mainIs = some (true, "3ab013fde81e5a5f71743936569511a9cad38e314dc497ec67da6e0634f1c0b4".toList) := by kernel_rfl
theorem c3 : false = Rows.labelFewRow.goesBy Tryz.pinned.checked.prog := by kernel_rfl
theorem card : Rows.LabelFewCardSaid :=
  Claim7.holds_tied_plain_at .later [] _ _ _ _ said (fun _ h => by cases h) c1 (fun _ h => by cases h) labelFew_row_tie rfl ⟨rfl, rfl⟩ c2 rfl plain c3
end Go.Proofs.YtempnjgiohpopaaGreatDoor.fnLabelFew
