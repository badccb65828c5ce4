/- The law SymLabels: its row and its card. -/
import Derived.Test.YtlhljkikdhblbaaGreatDoorSymLabelsP
import Derived.Test.YtlhljkikdhblbaaGreatDoorCards
import Derived.WalkKit
import Derived.SizedLaws
import Derived.ProofKit
import Derived.OpenShut
import Derived.Deep.DeepHandedRow
import Derived.Lib.LaidTab
set_option linter.all false
set_option maxRecDepth 20000
namespace Go.Proofs.YtlhljkikdhblbaaGreatDoor.fnSymLabels
open Go.Proofs.R Go.ChangeShapes Go.WideShapes Go.ChangeAt Go.RowKit ba
theorem plain (f : FuncId) (fn : Func) (ar : Tryz.pinned.checked.prog.funcNamed "lariat/lariatlaw44.SymLabels" = some f) (hfn : Tryz.pinned.checked.prog.funcs[f]? = some fn) :
    true = Tryz.pinned.checked.prog.looks [] ∧ ∀ (j : Nat) t, fn.params[j]? = some t → Tryz.pinned.checked.prog.wantsStandIn t = false := by
  obtain rfl : f = 7 := Option.some.inj ((show Tryz.prog.funcNamed "lariat/lariatlaw44.SymLabels" = some 7 by kernel_rfl).symm.trans ar) |>.symm
  obtain rfl : fn = Tryz.f7 := (Option.some.inj (Tryz.func7.symm.trans hfn)).symm
  refine ⟨by kernel_rfl, fun j t ht => ?_⟩
  rw [pars] at ht
  have h := (show ([T.e, T.d, T.b].all fun t => Tryz.prog.wantsStandIn t == false) = true by kernel_rfl)
  have hm := List.all_eq_true.1 h t (by simpa using Array.mem_of_getElem? ht)
  exact eq_of_beq hm
theorem c1 : Rows.symLabelsRow.wfByText (OpenSpec.ofChange Rows.symLabelsSpec) = true := by kernel_rfl
theorem c2 : Tryz.pinned.checked.prog.mainIs = some (true, "b9778ffb76c48994e41cf4a1cbc80fbe8d81de8afaf69d0f9f1c8f83d6806211".toList) := by kernel_rfl
theorem c3 : false = Rows.symLabelsRow.goesBy Tryz.pinned.checked.prog := by kernel_rfl
theorem card : Rows.SymLabelsCardSaid :=
  Claim7.holds_tied_plain_at .later [] _ _ _ _ said (fun _ h => by cases h) c1 (fun _ h => by cases h) symLabels_row_tie rfl ⟨rfl, rfl⟩ c2 rfl plain c3
end Go.Proofs.YtlhljkikdhblbaaGreatDoor.fnSymLabels
