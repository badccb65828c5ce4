/-
  DERIVED. GIVEN WITH THE SEED: THE CARDS: each row of YtfdohkdifdemeaaGreatDoorRows.lean that lists a variable, with what it lists TIED to the program's text (the seventh form; the later family's looks); each row that meets fmt, with fmt's text TOLD by the authors' own Lean function (tested against real Go, not proved from fmt's source: count such statements apart). THE CARD IS WHAT COUNTS. Prove the row's statement (the work); the ties are given (YtfdohkdifdemeaaGreatDoorTie.lean); close each card by the builder's one call (the guide's Derived/Test/ToyasCard.lean, 'card_holds'). Laid BY PROGRAM, IN A SANDBOX (cutbox-door.mjs). By AI agents, Wed Nov 11 2026. No macro, syntax, notation, axiom, sorry.
-/
import Derived.Test.YtfdohkdifdemeaaGreatDoorRows
import GoSem.ClaimSeven
namespace Go.Proofs.YtfdohkdifdemeaaGreatDoor
namespace Rows

/-- THE TIED CARD OF 'lariatlaw15.ModelCopies'. -/
def modelCopiesCard : Claim7 := { stood := { row := modelCopiesRow, standIns := [], harness := (true, "4b656ffa2cf289e18ac837db204cf4f40ae138368846be87c0222b2ab49d6d49"), looks := true }, kinds := [], alts := [], laidByText := true, laidKinds := [.data], laidTests := true, laidLooks := .later }
def ModelCopiesCardSaid : Prop := Claim7.holds Tryz.pinned (.plain (OpenSpec.ofChange modelCopiesSpec)) modelCopiesCard

/-- THE TIED CARD OF 'lariatlaw42.DependTells'. -/
def dependTellsCard : Claim7 := { stood := { row := dependTellsRow, standIns := [], harness := (true, "4b656ffa2cf289e18ac837db204cf4f40ae138368846be87c0222b2ab49d6d49"), looks := true }, kinds := [], alts := [], laidByText := true, laidKinds := [.data], laidTests := true, laidLooks := .later }
def DependTellsCardSaid : Prop := Claim7.holds Tryz.pinned (.plain (OpenSpec.ofChange dependTellsSpec)) dependTellsCard

/-- THE TIED CARD OF 'lariatlaw42.DependLocal'. -/
def dependLocalCard : Claim7 := { stood := { row := dependLocalRow, standIns := [], harness := (true, "4b656ffa2cf289e18ac837db204cf4f40ae138368846be87c0222b2ab49d6d49"), looks := true }, kinds := [], alts := [], laidByText := true, laidKinds := [.data], laidTests := true, laidLooks := .later }
def DependLocalCardSaid : Prop := Claim7.holds Tryz.pinned (.plain (OpenSpec.ofChange dependLocalSpec)) dependLocalCard

/-- THE TIED CARD OF 'lariatlaw42.DependSwaps'. -/
def dependSwapsCard : Claim7 := { stood := { row := dependSwapsRow, standIns := [], harness := (true, "4b656ffa2cf289e18ac837db204cf4f40ae138368846be87c0222b2ab49d6d49"), looks := true }, kinds := [], alts := [], laidByText := true, laidKinds := [.data], laidTests := true, laidLooks := .later }
def DependSwapsCardSaid : Prop := Claim7.holds Tryz.pinned (.plain (OpenSpec.ofChange dependSwapsSpec)) dependSwapsCard

/-- THE TIED CARD OF 'lariatlaw42.DependUnseen'. -/
def dependUnseenCard : Claim7 := { stood := { row := dependUnseenRow, standIns := [], harness := (true, "4b656ffa2cf289e18ac837db204cf4f40ae138368846be87c0222b2ab49d6d49"), looks := true }, kinds := [], alts := [], laidByText := true, laidKinds := [.data], laidTests := true, laidLooks := .later }
def DependUnseenCardSaid : Prop := Claim7.holds Tryz.pinned (.plain (OpenSpec.ofChange dependUnseenSpec)) dependUnseenCard

/-- THE SECOND FORM's CARD OF 'lariatlaw15.ModelCopies'. -/
def modelCopiesUptoCard : Claim7 := { stood := { row := modelCopiesUptoRow, standIns := [], harness := (true, "4b656ffa2cf289e18ac837db204cf4f40ae138368846be87c0222b2ab49d6d49"), looks := true }, kinds := [], alts := [], laidByText := true, laidKinds := [.data], laidTests := true, laidLooks := .later }
def ModelCopiesUptoCardSaid : Prop := Claim7.holds Tryz.pinned (.plain (OpenSpec.upto modelCopiesSpec)) modelCopiesUptoCard

/-- THE SECOND FORM's CARD OF 'lariatlaw42.DependTells'. -/
def dependTellsUptoCard : Claim7 := { stood := { row := dependTellsUptoRow, standIns := [], harness := (true, "4b656ffa2cf289e18ac837db204cf4f40ae138368846be87c0222b2ab49d6d49"), looks := true }, kinds := [], alts := [], laidByText := true, laidKinds := [.data], laidTests := true, laidLooks := .later }
def DependTellsUptoCardSaid : Prop := Claim7.holds Tryz.pinned (.plain (OpenSpec.upto dependTellsSpec)) dependTellsUptoCard

/-- THE SECOND FORM's CARD OF 'lariatlaw42.DependLocal'. -/
def dependLocalUptoCard : Claim7 := { stood := { row := dependLocalUptoRow, standIns := [], harness := (true, "4b656ffa2cf289e18ac837db204cf4f40ae138368846be87c0222b2ab49d6d49"), looks := true }, kinds := [], alts := [], laidByText := true, laidKinds := [.data], laidTests := true, laidLooks := .later }
def DependLocalUptoCardSaid : Prop := Claim7.holds Tryz.pinned (.plain (OpenSpec.upto dependLocalSpec)) dependLocalUptoCard

/-- THE SECOND FORM's CARD OF 'lariatlaw42.DependSwaps'. -/
def dependSwapsUptoCard : Claim7 := { stood := { row := dependSwapsUptoRow, standIns := [], harness := (true, "4b656ffa2cf289e18ac837db204cf4f40ae138368846be87c0222b2ab49d6d49"), looks := true }, kinds := [], alts := [], laidByText := true, laidKinds := [.data], laidTests := true, laidLooks := .later }
def DependSwapsUptoCardSaid : Prop := Claim7.holds Tryz.pinned (.plain (OpenSpec.upto dependSwapsSpec)) dependSwapsUptoCard

/-- THE SECOND FORM's CARD OF 'lariatlaw42.DependUnseen'. -/
def dependUnseenUptoCard : Claim7 := { stood := { row := dependUnseenUptoRow, standIns := [], harness := (true, "4b656ffa2cf289e18ac837db204cf4f40ae138368846be87c0222b2ab49d6d49"), looks := true }, kinds := [], alts := [], laidByText := true, laidKinds := [.data], laidTests := true, laidLooks := .later }
def DependUnseenUptoCardSaid : Prop := Claim7.holds Tryz.pinned (.plain (OpenSpec.upto dependUnseenSpec)) dependUnseenUptoCard
end Rows
end Go.Proofs.YtfdohkdifdemeaaGreatDoor
