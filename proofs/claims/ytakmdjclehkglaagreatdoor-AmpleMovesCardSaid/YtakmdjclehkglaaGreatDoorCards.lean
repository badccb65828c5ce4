/-
  DERIVED. GIVEN WITH THE SEED: THE CARDS: each row of YtakmdjclehkglaaGreatDoorRows.lean that lists a variable, with what it lists TIED to the program's text (the seventh form; the later family's looks); each row that meets fmt, with fmt's text TOLD by the authors' own Lean function (tested against real Go, not proved from fmt's source: count such statements apart). THE CARD IS WHAT COUNTS. Prove the row's statement (the work); the ties are given (YtakmdjclehkglaaGreatDoorTie.lean); close each card by the builder's one call (the guide's Derived/Test/ToyasCard.lean, 'card_holds'). Laid BY PROGRAM, IN A SANDBOX (cutbox-door.mjs). By AI agents, Wed Nov 11 2026. No macro, syntax, notation, axiom, sorry.
-/
import Derived.Test.YtakmdjclehkglaaGreatDoorRows
import GoSem.ClaimSeven
namespace Go.Proofs.YtakmdjclehkglaaGreatDoor
namespace Rows

/-- THE TIED CARD OF 'lariatlaw43.AmplePick'. -/
def amplePickCard : Claim7 := { stood := { row := amplePickRow, standIns := [], harness := (true, "7383ca344337190b9064dda68b1da63b5687df80204e96188cc08c4ce72e198e"), looks := true }, kinds := [], alts := [], laidByText := true, laidKinds := [.data], laidTests := true, laidLooks := .later }
def AmplePickCardSaid : Prop := Claim7.holds Tryz.pinned (.plain (OpenSpec.ofChange amplePickSpec)) amplePickCard

/-- THE TIED CARD OF 'lariatlaw43.AmpleMoves'. -/
def ampleMovesCard : Claim7 := { stood := { row := ampleMovesRow, standIns := [], harness := (true, "7383ca344337190b9064dda68b1da63b5687df80204e96188cc08c4ce72e198e"), looks := true }, kinds := [], alts := [], laidByText := true, laidKinds := [.data], laidTests := true, laidLooks := .later }
def AmpleMovesCardSaid : Prop := Claim7.holds Tryz.pinned (.plain (OpenSpec.ofChange ampleMovesSpec)) ampleMovesCard

/-- THE TIED CARD OF 'lariatlaw43.AmpleSome'. -/
def ampleSomeCard : Claim7 := { stood := { row := ampleSomeRow, standIns := [], harness := (true, "7383ca344337190b9064dda68b1da63b5687df80204e96188cc08c4ce72e198e"), looks := true }, kinds := [], alts := [], laidByText := true, laidKinds := [.data], laidTests := true, laidLooks := .later }
def AmpleSomeCardSaid : Prop := Claim7.holds Tryz.pinned (.plain (OpenSpec.ofChange ampleSomeSpec)) ampleSomeCard

/-- THE TIED CARD OF 'lariatlaw43.AmpleSwaps'. -/
def ampleSwapsCard : Claim7 := { stood := { row := ampleSwapsRow, standIns := [], harness := (true, "7383ca344337190b9064dda68b1da63b5687df80204e96188cc08c4ce72e198e"), looks := true }, kinds := [], alts := [], laidByText := true, laidKinds := [.data], laidTests := true, laidLooks := .later }
def AmpleSwapsCardSaid : Prop := Claim7.holds Tryz.pinned (.plain (OpenSpec.ofChange ampleSwapsSpec)) ampleSwapsCard

/-- THE TIED CARD OF 'lariatlaw43.AmpleUnseen'. -/
def ampleUnseenCard : Claim7 := { stood := { row := ampleUnseenRow, standIns := [], harness := (true, "7383ca344337190b9064dda68b1da63b5687df80204e96188cc08c4ce72e198e"), looks := true }, kinds := [], alts := [], laidByText := true, laidKinds := [.data], laidTests := true, laidLooks := .later }
def AmpleUnseenCardSaid : Prop := Claim7.holds Tryz.pinned (.plain (OpenSpec.ofChange ampleUnseenSpec)) ampleUnseenCard

/-- THE SECOND FORM's CARD OF 'lariatlaw43.AmplePick'. -/
def amplePickUptoCard : Claim7 := { stood := { row := amplePickUptoRow, standIns := [], harness := (true, "7383ca344337190b9064dda68b1da63b5687df80204e96188cc08c4ce72e198e"), looks := true }, kinds := [], alts := [], laidByText := true, laidKinds := [.data], laidTests := true, laidLooks := .later }
def AmplePickUptoCardSaid : Prop := Claim7.holds Tryz.pinned (.plain (OpenSpec.upto amplePickSpec)) amplePickUptoCard

/-- THE SECOND FORM's CARD OF 'lariatlaw43.AmpleMoves'. -/
def ampleMovesUptoCard : Claim7 := { stood := { row := ampleMovesUptoRow, standIns := [], harness := (true, "7383ca344337190b9064dda68b1da63b5687df80204e96188cc08c4ce72e198e"), looks := true }, kinds := [], alts := [], laidByText := true, laidKinds := [.data], laidTests := true, laidLooks := .later }
def AmpleMovesUptoCardSaid : Prop := Claim7.holds Tryz.pinned (.plain (OpenSpec.upto ampleMovesSpec)) ampleMovesUptoCard

/-- THE SECOND FORM's CARD OF 'lariatlaw43.AmpleSome'. -/
def ampleSomeUptoCard : Claim7 := { stood := { row := ampleSomeUptoRow, standIns := [], harness := (true, "7383ca344337190b9064dda68b1da63b5687df80204e96188cc08c4ce72e198e"), looks := true }, kinds := [], alts := [], laidByText := true, laidKinds := [.data], laidTests := true, laidLooks := .later }
def AmpleSomeUptoCardSaid : Prop := Claim7.holds Tryz.pinned (.plain (OpenSpec.upto ampleSomeSpec)) ampleSomeUptoCard

/-- THE SECOND FORM's CARD OF 'lariatlaw43.AmpleSwaps'. -/
def ampleSwapsUptoCard : Claim7 := { stood := { row := ampleSwapsUptoRow, standIns := [], harness := (true, "7383ca344337190b9064dda68b1da63b5687df80204e96188cc08c4ce72e198e"), looks := true }, kinds := [], alts := [], laidByText := true, laidKinds := [.data], laidTests := true, laidLooks := .later }
def AmpleSwapsUptoCardSaid : Prop := Claim7.holds Tryz.pinned (.plain (OpenSpec.upto ampleSwapsSpec)) ampleSwapsUptoCard

/-- THE SECOND FORM's CARD OF 'lariatlaw43.AmpleUnseen'. -/
def ampleUnseenUptoCard : Claim7 := { stood := { row := ampleUnseenUptoRow, standIns := [], harness := (true, "7383ca344337190b9064dda68b1da63b5687df80204e96188cc08c4ce72e198e"), looks := true }, kinds := [], alts := [], laidByText := true, laidKinds := [.data], laidTests := true, laidLooks := .later }
def AmpleUnseenUptoCardSaid : Prop := Claim7.holds Tryz.pinned (.plain (OpenSpec.upto ampleUnseenSpec)) ampleUnseenUptoCard
end Rows
end Go.Proofs.YtakmdjclehkglaaGreatDoor
