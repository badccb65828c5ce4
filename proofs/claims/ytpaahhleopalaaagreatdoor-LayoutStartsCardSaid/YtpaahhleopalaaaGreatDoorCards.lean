/-
  DERIVED. GIVEN WITH THE SEED: THE CARDS: each row of YtpaahhleopalaaaGreatDoorRows.lean that lists a variable, with what it lists TIED to the program's text (the seventh form; the later family's looks); each row that meets fmt, with fmt's text TOLD by the authors' own Lean function (tested against real Go, not proved from fmt's source: count such statements apart). THE CARD IS WHAT COUNTS. Prove the row's statement (the work); the ties are given (YtpaahhleopalaaaGreatDoorTie.lean); close each card by the builder's one call (the guide's Derived/Test/ToyasCard.lean, 'card_holds'). Laid BY PROGRAM, IN A SANDBOX (cutbox-door.mjs). By AI agents, Wed Nov 11 2026. No macro, syntax, notation, axiom, sorry.
-/
import Derived.Test.YtpaahhleopalaaaGreatDoorRows
import GoSem.ClaimSeven
namespace Go.Proofs.YtpaahhleopalaaaGreatDoor
namespace Rows

/-- THE TIED CARD OF 'lariatlaw15.ModelCopies'. -/
def modelCopiesCard : Claim7 := { stood := { row := modelCopiesRow, standIns := [], harness := (true, "2dbed6e3b180f6afb26f7df14f4f9dfe017294418de882cb2beb08f72031246d"), looks := true }, kinds := [], alts := [], laidByText := true, laidKinds := [.data], laidTests := true, laidLooks := .later }
def ModelCopiesCardSaid : Prop := Claim7.holds Tryz.pinned (.plain (OpenSpec.ofChange modelCopiesSpec)) modelCopiesCard

/-- THE TIED CARD OF 'lariatlaw17.LayoutOf'. -/
def layoutOfCard : Claim7 := { stood := { row := layoutOfRow, standIns := [], harness := (true, "2dbed6e3b180f6afb26f7df14f4f9dfe017294418de882cb2beb08f72031246d"), looks := true }, kinds := [], alts := [], laidByText := true, laidKinds := [.data], laidTests := true, laidLooks := .later }
def LayoutOfCardSaid : Prop := Claim7.holds Tryz.pinned (.plain (OpenSpec.ofChange layoutOfSpec)) layoutOfCard

/-- THE TIED CARD OF 'lariatlaw17.LayoutKinds'. -/
def layoutKindsCard : Claim7 := { stood := { row := layoutKindsRow, standIns := [], harness := (true, "2dbed6e3b180f6afb26f7df14f4f9dfe017294418de882cb2beb08f72031246d"), looks := true }, kinds := [], alts := [], laidByText := true, laidKinds := [.data], laidTests := true, laidLooks := .later }
def LayoutKindsCardSaid : Prop := Claim7.holds Tryz.pinned (.plain (OpenSpec.ofChange layoutKindsSpec)) layoutKindsCard

/-- THE TIED CARD OF 'lariatlaw17.LayoutSlots'. -/
def layoutSlotsCard : Claim7 := { stood := { row := layoutSlotsRow, standIns := [], harness := (true, "2dbed6e3b180f6afb26f7df14f4f9dfe017294418de882cb2beb08f72031246d"), looks := true }, kinds := [], alts := [], laidByText := true, laidKinds := [.data], laidTests := true, laidLooks := .later }
def LayoutSlotsCardSaid : Prop := Claim7.holds Tryz.pinned (.plain (OpenSpec.ofChange layoutSlotsSpec)) layoutSlotsCard

/-- THE TIED CARD OF 'lariatlaw17.LayoutOnce'. -/
def layoutOnceCard : Claim7 := { stood := { row := layoutOnceRow, standIns := [], harness := (true, "2dbed6e3b180f6afb26f7df14f4f9dfe017294418de882cb2beb08f72031246d"), looks := true }, kinds := [], alts := [], laidByText := true, laidKinds := [.data], laidTests := true, laidLooks := .later }
def LayoutOnceCardSaid : Prop := Claim7.holds Tryz.pinned (.plain (OpenSpec.ofChange layoutOnceSpec)) layoutOnceCard

/-- THE TIED CARD OF 'lariatlaw17.LayoutStarts'. -/
def layoutStartsCard : Claim7 := { stood := { row := layoutStartsRow, standIns := [], harness := (true, "2dbed6e3b180f6afb26f7df14f4f9dfe017294418de882cb2beb08f72031246d"), looks := true }, kinds := [], alts := [], laidByText := true, laidKinds := [.data], laidTests := true, laidLooks := .later }
def LayoutStartsCardSaid : Prop := Claim7.holds Tryz.pinned (.plain (OpenSpec.ofChange layoutStartsSpec)) layoutStartsCard

/-- THE TIED CARD OF 'lariatlaw18.StateRights'. -/
def stateRightsCard : Claim7 := { stood := { row := stateRightsRow, standIns := [], harness := (true, "2dbed6e3b180f6afb26f7df14f4f9dfe017294418de882cb2beb08f72031246d"), looks := true }, kinds := [], alts := [], laidByText := true, laidKinds := [.data], laidTests := true, laidLooks := .later }
def StateRightsCardSaid : Prop := Claim7.holds Tryz.pinned (.plain (OpenSpec.ofChange stateRightsSpec)) stateRightsCard

/-- THE TIED CARD OF 'lariatlaw18.StateEnvs'. -/
def stateEnvsCard : Claim7 := { stood := { row := stateEnvsRow, standIns := [], harness := (true, "2dbed6e3b180f6afb26f7df14f4f9dfe017294418de882cb2beb08f72031246d"), looks := true }, kinds := [], alts := [], laidByText := true, laidKinds := [.data], laidTests := true, laidLooks := .later }
def StateEnvsCardSaid : Prop := Claim7.holds Tryz.pinned (.plain (OpenSpec.ofChange stateEnvsSpec)) stateEnvsCard

/-- THE TIED CARD OF 'lariatlaw18.StateBytes'. -/
def stateBytesCard : Claim7 := { stood := { row := stateBytesRow, standIns := [], harness := (true, "2dbed6e3b180f6afb26f7df14f4f9dfe017294418de882cb2beb08f72031246d"), looks := true }, kinds := [], alts := [], laidByText := true, laidKinds := [.data], laidTests := true, laidLooks := .later }
def StateBytesCardSaid : Prop := Claim7.holds Tryz.pinned (.plain (OpenSpec.ofChange stateBytesSpec)) stateBytesCard

/-- THE TIED CARD OF 'lariatlaw18.StateBacks'. -/
def stateBacksCard : Claim7 := { stood := { row := stateBacksRow, standIns := [], harness := (true, "2dbed6e3b180f6afb26f7df14f4f9dfe017294418de882cb2beb08f72031246d"), looks := true }, kinds := [], alts := [], laidByText := true, laidKinds := [.data], laidTests := true, laidLooks := .later }
def StateBacksCardSaid : Prop := Claim7.holds Tryz.pinned (.plain (OpenSpec.ofChange stateBacksSpec)) stateBacksCard

/-- THE TIED CARD OF 'lariatlaw18.StateThere'. -/
def stateThereCard : Claim7 := { stood := { row := stateThereRow, standIns := [], harness := (true, "2dbed6e3b180f6afb26f7df14f4f9dfe017294418de882cb2beb08f72031246d"), looks := true }, kinds := [], alts := [], laidByText := true, laidKinds := [.data], laidTests := true, laidLooks := .later }
def StateThereCardSaid : Prop := Claim7.holds Tryz.pinned (.plain (OpenSpec.ofChange stateThereSpec)) stateThereCard

/-- THE SECOND FORM's CARD OF 'lariatlaw15.ModelCopies'. -/
def modelCopiesUptoCard : Claim7 := { stood := { row := modelCopiesUptoRow, standIns := [], harness := (true, "2dbed6e3b180f6afb26f7df14f4f9dfe017294418de882cb2beb08f72031246d"), looks := true }, kinds := [], alts := [], laidByText := true, laidKinds := [.data], laidTests := true, laidLooks := .later }
def ModelCopiesUptoCardSaid : Prop := Claim7.holds Tryz.pinned (.plain (OpenSpec.upto modelCopiesSpec)) modelCopiesUptoCard

/-- THE SECOND FORM's CARD OF 'lariatlaw17.LayoutOf'. -/
def layoutOfUptoCard : Claim7 := { stood := { row := layoutOfUptoRow, standIns := [], harness := (true, "2dbed6e3b180f6afb26f7df14f4f9dfe017294418de882cb2beb08f72031246d"), looks := true }, kinds := [], alts := [], laidByText := true, laidKinds := [.data], laidTests := true, laidLooks := .later }
def LayoutOfUptoCardSaid : Prop := Claim7.holds Tryz.pinned (.plain (OpenSpec.upto layoutOfSpec)) layoutOfUptoCard

/-- THE SECOND FORM's CARD OF 'lariatlaw17.LayoutKinds'. -/
def layoutKindsUptoCard : Claim7 := { stood := { row := layoutKindsUptoRow, standIns := [], harness := (true, "2dbed6e3b180f6afb26f7df14f4f9dfe017294418de882cb2beb08f72031246d"), looks := true }, kinds := [], alts := [], laidByText := true, laidKinds := [.data], laidTests := true, laidLooks := .later }
def LayoutKindsUptoCardSaid : Prop := Claim7.holds Tryz.pinned (.plain (OpenSpec.upto layoutKindsSpec)) layoutKindsUptoCard

/-- THE SECOND FORM's CARD OF 'lariatlaw17.LayoutSlots'. -/
def layoutSlotsUptoCard : Claim7 := { stood := { row := layoutSlotsUptoRow, standIns := [], harness := (true, "2dbed6e3b180f6afb26f7df14f4f9dfe017294418de882cb2beb08f72031246d"), looks := true }, kinds := [], alts := [], laidByText := true, laidKinds := [.data], laidTests := true, laidLooks := .later }
def LayoutSlotsUptoCardSaid : Prop := Claim7.holds Tryz.pinned (.plain (OpenSpec.upto layoutSlotsSpec)) layoutSlotsUptoCard

/-- THE SECOND FORM's CARD OF 'lariatlaw17.LayoutOnce'. -/
def layoutOnceUptoCard : Claim7 := { stood := { row := layoutOnceUptoRow, standIns := [], harness := (true, "2dbed6e3b180f6afb26f7df14f4f9dfe017294418de882cb2beb08f72031246d"), looks := true }, kinds := [], alts := [], laidByText := true, laidKinds := [.data], laidTests := true, laidLooks := .later }
def LayoutOnceUptoCardSaid : Prop := Claim7.holds Tryz.pinned (.plain (OpenSpec.upto layoutOnceSpec)) layoutOnceUptoCard

/-- THE SECOND FORM's CARD OF 'lariatlaw17.LayoutStarts'. -/
def layoutStartsUptoCard : Claim7 := { stood := { row := layoutStartsUptoRow, standIns := [], harness := (true, "2dbed6e3b180f6afb26f7df14f4f9dfe017294418de882cb2beb08f72031246d"), looks := true }, kinds := [], alts := [], laidByText := true, laidKinds := [.data], laidTests := true, laidLooks := .later }
def LayoutStartsUptoCardSaid : Prop := Claim7.holds Tryz.pinned (.plain (OpenSpec.upto layoutStartsSpec)) layoutStartsUptoCard

/-- THE SECOND FORM's CARD OF 'lariatlaw18.StateRights'. -/
def stateRightsUptoCard : Claim7 := { stood := { row := stateRightsUptoRow, standIns := [], harness := (true, "2dbed6e3b180f6afb26f7df14f4f9dfe017294418de882cb2beb08f72031246d"), looks := true }, kinds := [], alts := [], laidByText := true, laidKinds := [.data], laidTests := true, laidLooks := .later }
def StateRightsUptoCardSaid : Prop := Claim7.holds Tryz.pinned (.plain (OpenSpec.upto stateRightsSpec)) stateRightsUptoCard

/-- THE SECOND FORM's CARD OF 'lariatlaw18.StateEnvs'. -/
def stateEnvsUptoCard : Claim7 := { stood := { row := stateEnvsUptoRow, standIns := [], harness := (true, "2dbed6e3b180f6afb26f7df14f4f9dfe017294418de882cb2beb08f72031246d"), looks := true }, kinds := [], alts := [], laidByText := true, laidKinds := [.data], laidTests := true, laidLooks := .later }
def StateEnvsUptoCardSaid : Prop := Claim7.holds Tryz.pinned (.plain (OpenSpec.upto stateEnvsSpec)) stateEnvsUptoCard

/-- THE SECOND FORM's CARD OF 'lariatlaw18.StateBytes'. -/
def stateBytesUptoCard : Claim7 := { stood := { row := stateBytesUptoRow, standIns := [], harness := (true, "2dbed6e3b180f6afb26f7df14f4f9dfe017294418de882cb2beb08f72031246d"), looks := true }, kinds := [], alts := [], laidByText := true, laidKinds := [.data], laidTests := true, laidLooks := .later }
def StateBytesUptoCardSaid : Prop := Claim7.holds Tryz.pinned (.plain (OpenSpec.upto stateBytesSpec)) stateBytesUptoCard

/-- THE SECOND FORM's CARD OF 'lariatlaw18.StateBacks'. -/
def stateBacksUptoCard : Claim7 := { stood := { row := stateBacksUptoRow, standIns := [], harness := (true, "2dbed6e3b180f6afb26f7df14f4f9dfe017294418de882cb2beb08f72031246d"), looks := true }, kinds := [], alts := [], laidByText := true, laidKinds := [.data], laidTests := true, laidLooks := .later }
def StateBacksUptoCardSaid : Prop := Claim7.holds Tryz.pinned (.plain (OpenSpec.upto stateBacksSpec)) stateBacksUptoCard

/-- THE SECOND FORM's CARD OF 'lariatlaw18.StateThere'. -/
def stateThereUptoCard : Claim7 := { stood := { row := stateThereUptoRow, standIns := [], harness := (true, "2dbed6e3b180f6afb26f7df14f4f9dfe017294418de882cb2beb08f72031246d"), looks := true }, kinds := [], alts := [], laidByText := true, laidKinds := [.data], laidTests := true, laidLooks := .later }
def StateThereUptoCardSaid : Prop := Claim7.holds Tryz.pinned (.plain (OpenSpec.upto stateThereSpec)) stateThereUptoCard
end Rows
end Go.Proofs.YtpaahhleopalaaaGreatDoor
