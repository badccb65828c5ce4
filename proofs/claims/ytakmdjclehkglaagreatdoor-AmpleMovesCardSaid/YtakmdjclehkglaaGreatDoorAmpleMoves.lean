/- The law AmpleMoves: its row and its card. -/
import Derived.Test.YtakmdjclehkglaaGreatDoorAmpleMovesP
import Derived.Test.YtakmdjclehkglaaGreatDoorCards
import Derived.Test.YtakmdjclehkglaaGreatDoorTie
import Derived.WalkKit
import Derived.SizedLaws
import Derived.ProofKit
import Derived.OpenShut
import Derived.Deep.DeepHandedRow
import Derived.Lib.LaidTab
set_option linter.all false
set_option maxRecDepth 20000
namespace Go.Proofs.YtakmdjclehkglaaGreatDoor.fnAmpleMoves
open Go.Proofs.R Go.ChangeShapes Go.WideShapes Go.ChangeAt Go.RowKit ba
theorem plain (f : FuncId) (fn : Func) (ax : Tryz.pinned.checked.prog.funcNamed "lariat/lariatlaw43.AmpleMoves" = some f) (hfn : Tryz.pinned.checked.prog.funcs[f]? = some fn) :
    true = Tryz.pinned.checked.prog.looks [] ∧ ∀ (j : Nat) t, fn.params[j]? = some t → Tryz.pinned.checked.prog.wantsStandIn t = false := by
  obtain rfl : f = 4 := Option.some.inj ((show Tryz.prog.funcNamed "lariat/lariatlaw43.AmpleMoves" = some 4 by kernel_rfl).symm.trans ax) |>.symm
  obtain rfl : fn = Tryz.f4 := (Option.some.inj (Tryz.func4.symm.trans hfn)).symm
  refine ⟨by kernel_rfl, fun j t ht => ?_⟩
  rw [pars] at ht
  have h := (show ([T.f, T.b].all fun t => Tryz.prog.wantsStandIn t == false) = true by kernel_rfl)
  have hm := List.all_eq_true.1 h t (by simpa using Array.mem_of_getElem? ht)
  exact eq_of_beq hm
theorem c1 : Rows.ampleMovesRow.wfByText (OpenSpec.ofChange Rows.ampleMovesSpec) = true := by kernel_rfl
theorem c2 : Tryz.pinned.checked.prog.mainIs = some (true, "7383ca344337190b9064dda68b1da63b5687df80204e96188cc08c4ce72e198e".toList) := by kernel_rfl
theorem c3 : false = Rows.ampleMovesRow.goesBy Tryz.pinned.checked.prog := by kernel_rfl
theorem card : Rows.AmpleMovesCardSaid :=
  Claim7.holds_tied_plain_at .later [] _ _ _ _ said (fun _ h => by cases h) c1 (fun _ h => by cases h) ampleMoves_row_tie rfl ⟨rfl, rfl⟩ c2 rfl plain c3
end Go.Proofs.YtakmdjclehkglaaGreatDoor.fnAmpleMoves
