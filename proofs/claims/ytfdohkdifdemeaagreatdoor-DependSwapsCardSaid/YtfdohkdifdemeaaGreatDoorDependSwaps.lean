/- The law DependSwaps: its row and its card. -/
import Derived.Test.YtfdohkdifdemeaaGreatDoorDependSwapsP
import Derived.Test.YtfdohkdifdemeaaGreatDoorCards
import Derived.Test.YtfdohkdifdemeaaGreatDoorTie
import Derived.WalkKit
import Derived.SizedLaws
import Derived.ProofKit
import Derived.OpenShut
import Derived.Deep.DeepHandedRow
import Derived.Lib.LaidTab
set_option linter.all false
set_option maxRecDepth 20000
namespace Go.Proofs.YtfdohkdifdemeaaGreatDoor.fnDependSwaps
open Go.Proofs.R Go.ChangeShapes Go.WideShapes Go.ChangeAt Go.RowKit bt
theorem plain (f : FuncId) (fn : Func) (hf : Tryz.pinned.checked.prog.funcNamed "lariat/lariatlaw42.DependSwaps" = some f) (hfn : Tryz.pinned.checked.prog.funcs[f]? = some fn) :
    true = Tryz.pinned.checked.prog.looks [] ∧ ∀ (j : Nat) t, fn.params[j]? = some t → Tryz.pinned.checked.prog.wantsStandIn t = false := by
  obtain rfl : f = 6 := Option.some.inj ((show Tryz.prog.funcNamed "lariat/lariatlaw42.DependSwaps" = some 6 by kernel_rfl).symm.trans hf) |>.symm
  obtain rfl : fn = Tryz.f6 := (Option.some.inj (Tryz.func6.symm.trans hfn)).symm
  refine ⟨by kernel_rfl, fun j t ht => ?_⟩
  rw [pars] at ht
  have h := (show ([T.b, T.c, T.s, T.s].all fun t => Tryz.prog.wantsStandIn t == false) = true by kernel_rfl)
  have hm := List.all_eq_true.1 h t (by simpa using Array.mem_of_getElem? ht)
  exact eq_of_beq hm
theorem c1 : Rows.dependSwapsRow.wfByText (OpenSpec.ofChange Rows.dependSwapsSpec) = true := by kernel_rfl
theorem c2 : Tryz.pinned.checked.prog.mainIs = some (true, "4b656ffa2cf289e18ac837db204cf4f40ae138368846be87c0222b2ab49d6d49".toList) := by kernel_rfl
theorem c3 : false = Rows.dependSwapsRow.goesBy Tryz.pinned.checked.prog := by kernel_rfl
theorem card : Rows.DependSwapsCardSaid :=
  Claim7.holds_tied_plain_at .later [] _ _ _ _ said (fun _ h => by cases h) c1 (fun _ h => by cases h) dependSwaps_row_tie rfl ⟨rfl, rfl⟩ c2 rfl plain c3
end Go.Proofs.YtfdohkdifdemeaaGreatDoor.fnDependSwaps
