/-
  DERIVED. GIVEN WITH THE SEED: THE CARDS: each row of YtbbaokmelkiemaaGreatDoorRows.lean that lists a variable, with what it lists TIED to the program's text (the seventh form; the later family's looks); each row that meets fmt, with fmt's text TOLD by the authors' own Lean function (tested against real Go, not proved from fmt's source: count such statements apart). THE CARD IS WHAT COUNTS. Prove the row's statement (the work); the ties are given (YtbbaokmelkiemaaGreatDoorTie.lean); close each card by the builder's one call (the guide's Derived/Test/ToyasCard.lean, 'card_holds'). Laid BY PROGRAM, IN A SANDBOX (cutbox-door.mjs). By AI agents, Wed Nov 11 2026. No macro, syntax, notation, axiom, sorry.
-/
import Derived.Test.YtbbaokmelkiemaaGreatDoorRows
import GoSem.ClaimSeven
namespace Go.Proofs.YtbbaokmelkiemaaGreatDoor
namespace Rows

/-- THE TIED CARD OF 'lariatlaw14.ProcChecks'. -/
def procChecksCard : Claim7 := { stood := { row := procChecksRow, standIns := [], harness := (true, "5b2b8de3b91f328a66f9ee839b1682bf2768a65a0478cb409739c94949a475b2"), looks := true }, kinds := [], alts := [], laidByText := true, laidKinds := [.data], laidTests := true, laidLooks := .later }
def ProcChecksCardSaid : Prop := Claim7.holds Tryz.pinned (.plain (OpenSpec.ofChange procChecksSpec)) procChecksCard

/-- THE TIED CARD OF 'lariatlaw15.ModelChecks'. -/
def modelChecksCard : Claim7 := { stood := { row := modelChecksRow, standIns := [], harness := (true, "5b2b8de3b91f328a66f9ee839b1682bf2768a65a0478cb409739c94949a475b2"), looks := true }, kinds := [], alts := [], laidByText := true, laidKinds := [.data], laidTests := true, laidLooks := .later }
def ModelChecksCardSaid : Prop := Claim7.holds Tryz.pinned (.plain (OpenSpec.ofChange modelChecksSpec)) modelChecksCard

/-- THE TIED CARD OF 'lariatlaw15.ModelSame'. -/
def modelSameCard : Claim7 := { stood := { row := modelSameRow, standIns := [], harness := (true, "5b2b8de3b91f328a66f9ee839b1682bf2768a65a0478cb409739c94949a475b2"), looks := true }, kinds := [], alts := [], laidByText := true, laidKinds := [.data], laidTests := true, laidLooks := .later }
def ModelSameCardSaid : Prop := Claim7.holds Tryz.pinned (.plain (OpenSpec.ofChange modelSameSpec)) modelSameCard

/-- THE TIED CARD OF 'lariatlaw15.ModelCopies'. -/
def modelCopiesCard : Claim7 := { stood := { row := modelCopiesRow, standIns := [], harness := (true, "5b2b8de3b91f328a66f9ee839b1682bf2768a65a0478cb409739c94949a475b2"), looks := true }, kinds := [], alts := [], laidByText := true, laidKinds := [.data], laidTests := true, laidLooks := .later }
def ModelCopiesCardSaid : Prop := Claim7.holds Tryz.pinned (.plain (OpenSpec.ofChange modelCopiesSpec)) modelCopiesCard

/-- THE TIED CARD OF 'lariatlaw15.ModelPieces'. -/
def modelPiecesCard : Claim7 := { stood := { row := modelPiecesRow, standIns := [], harness := (true, "5b2b8de3b91f328a66f9ee839b1682bf2768a65a0478cb409739c94949a475b2"), looks := true }, kinds := [], alts := [], laidByText := true, laidKinds := [.data], laidTests := true, laidLooks := .later }
def ModelPiecesCardSaid : Prop := Claim7.holds Tryz.pinned (.plain (OpenSpec.ofChange modelPiecesSpec)) modelPiecesCard

/-- THE TIED CARD OF 'lariatlaw15.ModelParts'. -/
def modelPartsCard : Claim7 := { stood := { row := modelPartsRow, standIns := [], harness := (true, "5b2b8de3b91f328a66f9ee839b1682bf2768a65a0478cb409739c94949a475b2"), looks := true }, kinds := [], alts := [], laidByText := true, laidKinds := [.data], laidTests := true, laidLooks := .later }
def ModelPartsCardSaid : Prop := Claim7.holds Tryz.pinned (.plain (OpenSpec.ofChange modelPartsSpec)) modelPartsCard

/-- THE SECOND FORM's CARD OF 'lariatlaw14.ProcChecks'. -/
def procChecksUptoCard : Claim7 := { stood := { row := procChecksUptoRow, standIns := [], harness := (true, "5b2b8de3b91f328a66f9ee839b1682bf2768a65a0478cb409739c94949a475b2"), looks := true }, kinds := [], alts := [], laidByText := true, laidKinds := [.data], laidTests := true, laidLooks := .later }
def ProcChecksUptoCardSaid : Prop := Claim7.holds Tryz.pinned (.plain (OpenSpec.upto procChecksSpec)) procChecksUptoCard

/-- THE SECOND FORM's CARD OF 'lariatlaw15.ModelChecks'. -/
def modelChecksUptoCard : Claim7 := { stood := { row := modelChecksUptoRow, standIns := [], harness := (true, "5b2b8de3b91f328a66f9ee839b1682bf2768a65a0478cb409739c94949a475b2"), looks := true }, kinds := [], alts := [], laidByText := true, laidKinds := [.data], laidTests := true, laidLooks := .later }
def ModelChecksUptoCardSaid : Prop := Claim7.holds Tryz.pinned (.plain (OpenSpec.upto modelChecksSpec)) modelChecksUptoCard

/-- THE SECOND FORM's CARD OF 'lariatlaw15.ModelSame'. -/
def modelSameUptoCard : Claim7 := { stood := { row := modelSameUptoRow, standIns := [], harness := (true, "5b2b8de3b91f328a66f9ee839b1682bf2768a65a0478cb409739c94949a475b2"), looks := true }, kinds := [], alts := [], laidByText := true, laidKinds := [.data], laidTests := true, laidLooks := .later }
def ModelSameUptoCardSaid : Prop := Claim7.holds Tryz.pinned (.plain (OpenSpec.upto modelSameSpec)) modelSameUptoCard

/-- THE SECOND FORM's CARD OF 'lariatlaw15.ModelCopies'. -/
def modelCopiesUptoCard : Claim7 := { stood := { row := modelCopiesUptoRow, standIns := [], harness := (true, "5b2b8de3b91f328a66f9ee839b1682bf2768a65a0478cb409739c94949a475b2"), looks := true }, kinds := [], alts := [], laidByText := true, laidKinds := [.data], laidTests := true, laidLooks := .later }
def ModelCopiesUptoCardSaid : Prop := Claim7.holds Tryz.pinned (.plain (OpenSpec.upto modelCopiesSpec)) modelCopiesUptoCard

/-- THE SECOND FORM's CARD OF 'lariatlaw15.ModelPieces'. -/
def modelPiecesUptoCard : Claim7 := { stood := { row := modelPiecesUptoRow, standIns := [], harness := (true, "5b2b8de3b91f328a66f9ee839b1682bf2768a65a0478cb409739c94949a475b2"), looks := true }, kinds := [], alts := [], laidByText := true, laidKinds := [.data], laidTests := true, laidLooks := .later }
def ModelPiecesUptoCardSaid : Prop := Claim7.holds Tryz.pinned (.plain (OpenSpec.upto modelPiecesSpec)) modelPiecesUptoCard

/-- THE SECOND FORM's CARD OF 'lariatlaw15.ModelParts'. -/
def modelPartsUptoCard : Claim7 := { stood := { row := modelPartsUptoRow, standIns := [], harness := (true, "5b2b8de3b91f328a66f9ee839b1682bf2768a65a0478cb409739c94949a475b2"), looks := true }, kinds := [], alts := [], laidByText := true, laidKinds := [.data], laidTests := true, laidLooks := .later }
def ModelPartsUptoCardSaid : Prop := Claim7.holds Tryz.pinned (.plain (OpenSpec.upto modelPartsSpec)) modelPartsUptoCard
end Rows
end Go.Proofs.YtbbaokmelkiemaaGreatDoor
