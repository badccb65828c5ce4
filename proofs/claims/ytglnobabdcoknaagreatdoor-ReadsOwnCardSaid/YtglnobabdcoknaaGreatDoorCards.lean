/-
  DERIVED. GIVEN WITH THE SEED: THE CARDS: each row of YtglnobabdcoknaaGreatDoorRows.lean that lists a variable, with what it lists TIED to the program's text (the seventh form; the later family's looks); each row that meets fmt, with fmt's text TOLD by the authors' own Lean function (tested against real Go, not proved from fmt's source: count such statements apart). THE CARD IS WHAT COUNTS. Prove the row's statement (the work); the ties are given (YtglnobabdcoknaaGreatDoorTie.lean); close each card by the builder's one call (the guide's Derived/Test/ToyasCard.lean, 'card_holds'). Laid BY PROGRAM, IN A SANDBOX (cutbox-door.mjs). By AI agents, Wed Nov 11 2026. No macro, syntax, notation, axiom, sorry.
-/
import Derived.Test.YtglnobabdcoknaaGreatDoorRows
import GoSem.ClaimSeven
namespace Go.Proofs.YtglnobabdcoknaaGreatDoor
namespace Rows

/-- THE TIED CARD OF 'lariatlaw15.ModelCopies'. -/
def modelCopiesCard : Claim7 := { stood := { row := modelCopiesRow, standIns := [], harness := (true, "ca90229ce4eb4d2b7e63c09122d25c022de12d6c17fd8c5201dbd0614cfeafe8"), looks := true }, kinds := [], alts := [], laidByText := true, laidKinds := [.data], laidTests := true, laidLooks := .later }
def ModelCopiesCardSaid : Prop := Claim7.holds Tryz.pinned (.plain (OpenSpec.ofChange modelCopiesSpec)) modelCopiesCard

/-- THE TIED CARD OF 'lariatlaw18.StateRights'. -/
def stateRightsCard : Claim7 := { stood := { row := stateRightsRow, standIns := [], harness := (true, "ca90229ce4eb4d2b7e63c09122d25c022de12d6c17fd8c5201dbd0614cfeafe8"), looks := true }, kinds := [], alts := [], laidByText := true, laidKinds := [.data], laidTests := true, laidLooks := .later }
def StateRightsCardSaid : Prop := Claim7.holds Tryz.pinned (.plain (OpenSpec.ofChange stateRightsSpec)) stateRightsCard

/-- THE TIED CARD OF 'lariatlaw18.StateEnvs'. -/
def stateEnvsCard : Claim7 := { stood := { row := stateEnvsRow, standIns := [], harness := (true, "ca90229ce4eb4d2b7e63c09122d25c022de12d6c17fd8c5201dbd0614cfeafe8"), looks := true }, kinds := [], alts := [], laidByText := true, laidKinds := [.data], laidTests := true, laidLooks := .later }
def StateEnvsCardSaid : Prop := Claim7.holds Tryz.pinned (.plain (OpenSpec.ofChange stateEnvsSpec)) stateEnvsCard

/-- THE TIED CARD OF 'lariatlaw18.StateBytes'. -/
def stateBytesCard : Claim7 := { stood := { row := stateBytesRow, standIns := [], harness := (true, "ca90229ce4eb4d2b7e63c09122d25c022de12d6c17fd8c5201dbd0614cfeafe8"), looks := true }, kinds := [], alts := [], laidByText := true, laidKinds := [.data], laidTests := true, laidLooks := .later }
def StateBytesCardSaid : Prop := Claim7.holds Tryz.pinned (.plain (OpenSpec.ofChange stateBytesSpec)) stateBytesCard

/-- THE TIED CARD OF 'lariatlaw18.StateBacks'. -/
def stateBacksCard : Claim7 := { stood := { row := stateBacksRow, standIns := [], harness := (true, "ca90229ce4eb4d2b7e63c09122d25c022de12d6c17fd8c5201dbd0614cfeafe8"), looks := true }, kinds := [], alts := [], laidByText := true, laidKinds := [.data], laidTests := true, laidLooks := .later }
def StateBacksCardSaid : Prop := Claim7.holds Tryz.pinned (.plain (OpenSpec.ofChange stateBacksSpec)) stateBacksCard

/-- THE TIED CARD OF 'lariatlaw18.StateThere'. -/
def stateThereCard : Claim7 := { stood := { row := stateThereRow, standIns := [], harness := (true, "ca90229ce4eb4d2b7e63c09122d25c022de12d6c17fd8c5201dbd0614cfeafe8"), looks := true }, kinds := [], alts := [], laidByText := true, laidKinds := [.data], laidTests := true, laidLooks := .later }
def StateThereCardSaid : Prop := Claim7.holds Tryz.pinned (.plain (OpenSpec.ofChange stateThereSpec)) stateThereCard

/-- THE TIED CARD OF 'lariatlaw41.ReadsOf'. -/
def readsOfCard : Claim7 := { stood := { row := readsOfRow, standIns := [], harness := (true, "ca90229ce4eb4d2b7e63c09122d25c022de12d6c17fd8c5201dbd0614cfeafe8"), looks := true }, kinds := [], alts := [], laidByText := true, laidKinds := [.data], laidTests := true, laidLooks := .later }
def ReadsOfCardSaid : Prop := Claim7.holds Tryz.pinned (.plain (OpenSpec.ofChange readsOfSpec)) readsOfCard

/-- THE TIED CARD OF 'lariatlaw41.ReadsOwn'. -/
def readsOwnCard : Claim7 := { stood := { row := readsOwnRow, standIns := [], harness := (true, "ca90229ce4eb4d2b7e63c09122d25c022de12d6c17fd8c5201dbd0614cfeafe8"), looks := true }, kinds := [], alts := [], laidByText := true, laidKinds := [.data], laidTests := true, laidLooks := .later }
def ReadsOwnCardSaid : Prop := Claim7.holds Tryz.pinned (.plain (OpenSpec.ofChange readsOwnSpec)) readsOwnCard

/-- THE TIED CARD OF 'lariatlaw41.ReadsRead'. -/
def readsReadCard : Claim7 := { stood := { row := readsReadRow, standIns := [], harness := (true, "ca90229ce4eb4d2b7e63c09122d25c022de12d6c17fd8c5201dbd0614cfeafe8"), looks := true }, kinds := [], alts := [], laidByText := true, laidKinds := [.data], laidTests := true, laidLooks := .later }
def ReadsReadCardSaid : Prop := Claim7.holds Tryz.pinned (.plain (OpenSpec.ofChange readsReadSpec)) readsReadCard

/-- THE TIED CARD OF 'lariatlaw41.ReadsWritten'. -/
def readsWrittenCard : Claim7 := { stood := { row := readsWrittenRow, standIns := [], harness := (true, "ca90229ce4eb4d2b7e63c09122d25c022de12d6c17fd8c5201dbd0614cfeafe8"), looks := true }, kinds := [], alts := [], laidByText := true, laidKinds := [.data], laidTests := true, laidLooks := .later }
def ReadsWrittenCardSaid : Prop := Claim7.holds Tryz.pinned (.plain (OpenSpec.ofChange readsWrittenSpec)) readsWrittenCard

/-- THE TIED CARD OF 'lariatlaw41.ReadsParts'. -/
def readsPartsCard : Claim7 := { stood := { row := readsPartsRow, standIns := [], harness := (true, "ca90229ce4eb4d2b7e63c09122d25c022de12d6c17fd8c5201dbd0614cfeafe8"), looks := true }, kinds := [], alts := [], laidByText := true, laidKinds := [.data], laidTests := true, laidLooks := .later }
def ReadsPartsCardSaid : Prop := Claim7.holds Tryz.pinned (.plain (OpenSpec.ofChange readsPartsSpec)) readsPartsCard

/-- THE SECOND FORM's CARD OF 'lariatlaw15.ModelCopies'. -/
def modelCopiesUptoCard : Claim7 := { stood := { row := modelCopiesUptoRow, standIns := [], harness := (true, "ca90229ce4eb4d2b7e63c09122d25c022de12d6c17fd8c5201dbd0614cfeafe8"), looks := true }, kinds := [], alts := [], laidByText := true, laidKinds := [.data], laidTests := true, laidLooks := .later }
def ModelCopiesUptoCardSaid : Prop := Claim7.holds Tryz.pinned (.plain (OpenSpec.upto modelCopiesSpec)) modelCopiesUptoCard

/-- THE SECOND FORM's CARD OF 'lariatlaw18.StateRights'. -/
def stateRightsUptoCard : Claim7 := { stood := { row := stateRightsUptoRow, standIns := [], harness := (true, "ca90229ce4eb4d2b7e63c09122d25c022de12d6c17fd8c5201dbd0614cfeafe8"), looks := true }, kinds := [], alts := [], laidByText := true, laidKinds := [.data], laidTests := true, laidLooks := .later }
def StateRightsUptoCardSaid : Prop := Claim7.holds Tryz.pinned (.plain (OpenSpec.upto stateRightsSpec)) stateRightsUptoCard

/-- THE SECOND FORM's CARD OF 'lariatlaw18.StateEnvs'. -/
def stateEnvsUptoCard : Claim7 := { stood := { row := stateEnvsUptoRow, standIns := [], harness := (true, "ca90229ce4eb4d2b7e63c09122d25c022de12d6c17fd8c5201dbd0614cfeafe8"), looks := true }, kinds := [], alts := [], laidByText := true, laidKinds := [.data], laidTests := true, laidLooks := .later }
def StateEnvsUptoCardSaid : Prop := Claim7.holds Tryz.pinned (.plain (OpenSpec.upto stateEnvsSpec)) stateEnvsUptoCard

/-- THE SECOND FORM's CARD OF 'lariatlaw18.StateBytes'. -/
def stateBytesUptoCard : Claim7 := { stood := { row := stateBytesUptoRow, standIns := [], harness := (true, "ca90229ce4eb4d2b7e63c09122d25c022de12d6c17fd8c5201dbd0614cfeafe8"), looks := true }, kinds := [], alts := [], laidByText := true, laidKinds := [.data], laidTests := true, laidLooks := .later }
def StateBytesUptoCardSaid : Prop := Claim7.holds Tryz.pinned (.plain (OpenSpec.upto stateBytesSpec)) stateBytesUptoCard

/-- THE SECOND FORM's CARD OF 'lariatlaw18.StateBacks'. -/
def stateBacksUptoCard : Claim7 := { stood := { row := stateBacksUptoRow, standIns := [], harness := (true, "ca90229ce4eb4d2b7e63c09122d25c022de12d6c17fd8c5201dbd0614cfeafe8"), looks := true }, kinds := [], alts := [], laidByText := true, laidKinds := [.data], laidTests := true, laidLooks := .later }
def StateBacksUptoCardSaid : Prop := Claim7.holds Tryz.pinned (.plain (OpenSpec.upto stateBacksSpec)) stateBacksUptoCard

/-- THE SECOND FORM's CARD OF 'lariatlaw18.StateThere'. -/
def stateThereUptoCard : Claim7 := { stood := { row := stateThereUptoRow, standIns := [], harness := (true, "ca90229ce4eb4d2b7e63c09122d25c022de12d6c17fd8c5201dbd0614cfeafe8"), looks := true }, kinds := [], alts := [], laidByText := true, laidKinds := [.data], laidTests := true, laidLooks := .later }
def StateThereUptoCardSaid : Prop := Claim7.holds Tryz.pinned (.plain (OpenSpec.upto stateThereSpec)) stateThereUptoCard

/-- THE SECOND FORM's CARD OF 'lariatlaw41.ReadsOf'. -/
def readsOfUptoCard : Claim7 := { stood := { row := readsOfUptoRow, standIns := [], harness := (true, "ca90229ce4eb4d2b7e63c09122d25c022de12d6c17fd8c5201dbd0614cfeafe8"), looks := true }, kinds := [], alts := [], laidByText := true, laidKinds := [.data], laidTests := true, laidLooks := .later }
def ReadsOfUptoCardSaid : Prop := Claim7.holds Tryz.pinned (.plain (OpenSpec.upto readsOfSpec)) readsOfUptoCard

/-- THE SECOND FORM's CARD OF 'lariatlaw41.ReadsOwn'. -/
def readsOwnUptoCard : Claim7 := { stood := { row := readsOwnUptoRow, standIns := [], harness := (true, "ca90229ce4eb4d2b7e63c09122d25c022de12d6c17fd8c5201dbd0614cfeafe8"), looks := true }, kinds := [], alts := [], laidByText := true, laidKinds := [.data], laidTests := true, laidLooks := .later }
def ReadsOwnUptoCardSaid : Prop := Claim7.holds Tryz.pinned (.plain (OpenSpec.upto readsOwnSpec)) readsOwnUptoCard

/-- THE SECOND FORM's CARD OF 'lariatlaw41.ReadsRead'. -/
def readsReadUptoCard : Claim7 := { stood := { row := readsReadUptoRow, standIns := [], harness := (true, "ca90229ce4eb4d2b7e63c09122d25c022de12d6c17fd8c5201dbd0614cfeafe8"), looks := true }, kinds := [], alts := [], laidByText := true, laidKinds := [.data], laidTests := true, laidLooks := .later }
def ReadsReadUptoCardSaid : Prop := Claim7.holds Tryz.pinned (.plain (OpenSpec.upto readsReadSpec)) readsReadUptoCard

/-- THE SECOND FORM's CARD OF 'lariatlaw41.ReadsWritten'. -/
def readsWrittenUptoCard : Claim7 := { stood := { row := readsWrittenUptoRow, standIns := [], harness := (true, "ca90229ce4eb4d2b7e63c09122d25c022de12d6c17fd8c5201dbd0614cfeafe8"), looks := true }, kinds := [], alts := [], laidByText := true, laidKinds := [.data], laidTests := true, laidLooks := .later }
def ReadsWrittenUptoCardSaid : Prop := Claim7.holds Tryz.pinned (.plain (OpenSpec.upto readsWrittenSpec)) readsWrittenUptoCard

/-- THE SECOND FORM's CARD OF 'lariatlaw41.ReadsParts'. -/
def readsPartsUptoCard : Claim7 := { stood := { row := readsPartsUptoRow, standIns := [], harness := (true, "ca90229ce4eb4d2b7e63c09122d25c022de12d6c17fd8c5201dbd0614cfeafe8"), looks := true }, kinds := [], alts := [], laidByText := true, laidKinds := [.data], laidTests := true, laidLooks := .later }
def ReadsPartsUptoCardSaid : Prop := Claim7.holds Tryz.pinned (.plain (OpenSpec.upto readsPartsSpec)) readsPartsUptoCard
end Rows
end Go.Proofs.YtglnobabdcoknaaGreatDoor
