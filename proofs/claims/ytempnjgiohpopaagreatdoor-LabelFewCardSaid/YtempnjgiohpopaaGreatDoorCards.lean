/-
  DERIVED. GIVEN WITH THE SEED: THE CARDS: each row of YtempnjgiohpopaaGreatDoorRows.lean that lists a variable, with what it lists TIED to the program's text (the seventh form; the later family's looks); each row that meets fmt, with fmt's text TOLD by the authors' own Lean function (tested against real Go, not proved from fmt's source: count such statements apart). THE CARD IS WHAT COUNTS. Prove the row's statement (the work); the ties are given (YtempnjgiohpopaaGreatDoorTie.lean); close each card by the builder's one call (the guide's Derived/Test/ToyasCard.lean, 'card_holds'). Laid BY PROGRAM, IN A SANDBOX (cutbox-door.mjs). By AI agents, Wed Nov 11 2026. No macro, syntax, notation, axiom, sorry.
-/
import Derived.Test.YtempnjgiohpopaaGreatDoorRows
import GoSem.ClaimSeven
namespace Go.Proofs.YtempnjgiohpopaaGreatDoor
namespace Rows

/-- THE TIED CARD OF 'lariatlaw15.ModelCopies'. -/
def modelCopiesCard : Claim7 := { stood := { row := modelCopiesRow, standIns := [], harness := (true, "3ab013fde81e5a5f71743936569511a9cad38e314dc497ec67da6e0634f1c0b4"), looks := true }, kinds := [], alts := [], laidByText := true, laidKinds := [.data], laidTests := true, laidLooks := .later }
def ModelCopiesCardSaid : Prop := Claim7.holds Tryz.pinned (.plain (OpenSpec.ofChange modelCopiesSpec)) modelCopiesCard

/-- THE TIED CARD OF 'lariatlaw41.ReadsRead'. -/
def readsReadCard : Claim7 := { stood := { row := readsReadRow, standIns := [], harness := (true, "3ab013fde81e5a5f71743936569511a9cad38e314dc497ec67da6e0634f1c0b4"), looks := true }, kinds := [], alts := [], laidByText := true, laidKinds := [.data], laidTests := true, laidLooks := .later }
def ReadsReadCardSaid : Prop := Claim7.holds Tryz.pinned (.plain (OpenSpec.ofChange readsReadSpec)) readsReadCard

/-- THE TIED CARD OF 'lariatlaw41.ReadsWritten'. -/
def readsWrittenCard : Claim7 := { stood := { row := readsWrittenRow, standIns := [], harness := (true, "3ab013fde81e5a5f71743936569511a9cad38e314dc497ec67da6e0634f1c0b4"), looks := true }, kinds := [], alts := [], laidByText := true, laidKinds := [.data], laidTests := true, laidLooks := .later }
def ReadsWrittenCardSaid : Prop := Claim7.holds Tryz.pinned (.plain (OpenSpec.ofChange readsWrittenSpec)) readsWrittenCard

/-- THE TIED CARD OF 'lariatlaw21.LabelTells'. -/
def labelTellsCard : Claim7 := { stood := { row := labelTellsRow, standIns := [], harness := (true, "3ab013fde81e5a5f71743936569511a9cad38e314dc497ec67da6e0634f1c0b4"), looks := true }, kinds := [], alts := [], laidByText := true, laidKinds := [.data], laidTests := true, laidLooks := .later }
def LabelTellsCardSaid : Prop := Claim7.holds Tryz.pinned (.plain (OpenSpec.ofChange labelTellsSpec)) labelTellsCard

/-- THE TIED CARD OF 'lariatlaw21.LabelSees'. -/
def labelSeesCard : Claim7 := { stood := { row := labelSeesRow, standIns := [], harness := (true, "3ab013fde81e5a5f71743936569511a9cad38e314dc497ec67da6e0634f1c0b4"), looks := true }, kinds := [], alts := [], laidByText := true, laidKinds := [.data], laidTests := true, laidLooks := .later }
def LabelSeesCardSaid : Prop := Claim7.holds Tryz.pinned (.plain (OpenSpec.ofChange labelSeesSpec)) labelSeesCard

/-- THE TIED CARD OF 'lariatlaw21.LabelUnseen'. -/
def labelUnseenCard : Claim7 := { stood := { row := labelUnseenRow, standIns := [], harness := (true, "3ab013fde81e5a5f71743936569511a9cad38e314dc497ec67da6e0634f1c0b4"), looks := true }, kinds := [], alts := [], laidByText := true, laidKinds := [.data], laidTests := true, laidLooks := .later }
def LabelUnseenCardSaid : Prop := Claim7.holds Tryz.pinned (.plain (OpenSpec.ofChange labelUnseenSpec)) labelUnseenCard

/-- THE TIED CARD OF 'lariatlaw21.LabelFew'. -/
def labelFewCard : Claim7 := { stood := { row := labelFewRow, standIns := [], harness := (true, "3ab013fde81e5a5f71743936569511a9cad38e314dc497ec67da6e0634f1c0b4"), looks := true }, kinds := [], alts := [], laidByText := true, laidKinds := [.data], laidTests := true, laidLooks := .later }
def LabelFewCardSaid : Prop := Claim7.holds Tryz.pinned (.plain (OpenSpec.ofChange labelFewSpec)) labelFewCard

/-- THE TIED CARD OF 'lariatlaw42.DependTells'. -/
def dependTellsCard : Claim7 := { stood := { row := dependTellsRow, standIns := [], harness := (true, "3ab013fde81e5a5f71743936569511a9cad38e314dc497ec67da6e0634f1c0b4"), looks := true }, kinds := [], alts := [], laidByText := true, laidKinds := [.data], laidTests := true, laidLooks := .later }
def DependTellsCardSaid : Prop := Claim7.holds Tryz.pinned (.plain (OpenSpec.ofChange dependTellsSpec)) dependTellsCard

/-- THE TIED CARD OF 'lariatlaw42.DependLocal'. -/
def dependLocalCard : Claim7 := { stood := { row := dependLocalRow, standIns := [], harness := (true, "3ab013fde81e5a5f71743936569511a9cad38e314dc497ec67da6e0634f1c0b4"), looks := true }, kinds := [], alts := [], laidByText := true, laidKinds := [.data], laidTests := true, laidLooks := .later }
def DependLocalCardSaid : Prop := Claim7.holds Tryz.pinned (.plain (OpenSpec.ofChange dependLocalSpec)) dependLocalCard

/-- THE TIED CARD OF 'lariatlaw42.DependSwaps'. -/
def dependSwapsCard : Claim7 := { stood := { row := dependSwapsRow, standIns := [], harness := (true, "3ab013fde81e5a5f71743936569511a9cad38e314dc497ec67da6e0634f1c0b4"), looks := true }, kinds := [], alts := [], laidByText := true, laidKinds := [.data], laidTests := true, laidLooks := .later }
def DependSwapsCardSaid : Prop := Claim7.holds Tryz.pinned (.plain (OpenSpec.ofChange dependSwapsSpec)) dependSwapsCard

/-- THE TIED CARD OF 'lariatlaw42.DependUnseen'. -/
def dependUnseenCard : Claim7 := { stood := { row := dependUnseenRow, standIns := [], harness := (true, "3ab013fde81e5a5f71743936569511a9cad38e314dc497ec67da6e0634f1c0b4"), looks := true }, kinds := [], alts := [], laidByText := true, laidKinds := [.data], laidTests := true, laidLooks := .later }
def DependUnseenCardSaid : Prop := Claim7.holds Tryz.pinned (.plain (OpenSpec.ofChange dependUnseenSpec)) dependUnseenCard

/-- THE SECOND FORM's CARD OF 'lariatlaw15.ModelCopies'. -/
def modelCopiesUptoCard : Claim7 := { stood := { row := modelCopiesUptoRow, standIns := [], harness := (true, "3ab013fde81e5a5f71743936569511a9cad38e314dc497ec67da6e0634f1c0b4"), looks := true }, kinds := [], alts := [], laidByText := true, laidKinds := [.data], laidTests := true, laidLooks := .later }
def ModelCopiesUptoCardSaid : Prop := Claim7.holds Tryz.pinned (.plain (OpenSpec.upto modelCopiesSpec)) modelCopiesUptoCard

/-- THE SECOND FORM's CARD OF 'lariatlaw41.ReadsRead'. -/
def readsReadUptoCard : Claim7 := { stood := { row := readsReadUptoRow, standIns := [], harness := (true, "3ab013fde81e5a5f71743936569511a9cad38e314dc497ec67da6e0634f1c0b4"), looks := true }, kinds := [], alts := [], laidByText := true, laidKinds := [.data], laidTests := true, laidLooks := .later }
def ReadsReadUptoCardSaid : Prop := Claim7.holds Tryz.pinned (.plain (OpenSpec.upto readsReadSpec)) readsReadUptoCard

/-- THE SECOND FORM's CARD OF 'lariatlaw41.ReadsWritten'. -/
def readsWrittenUptoCard : Claim7 := { stood := { row := readsWrittenUptoRow, standIns := [], harness := (true, "3ab013fde81e5a5f71743936569511a9cad38e314dc497ec67da6e0634f1c0b4"), looks := true }, kinds := [], alts := [], laidByText := true, laidKinds := [.data], laidTests := true, laidLooks := .later }
def ReadsWrittenUptoCardSaid : Prop := Claim7.holds Tryz.pinned (.plain (OpenSpec.upto readsWrittenSpec)) readsWrittenUptoCard

/-- THE SECOND FORM's CARD OF 'lariatlaw21.LabelTells'. -/
def labelTellsUptoCard : Claim7 := { stood := { row := labelTellsUptoRow, standIns := [], harness := (true, "3ab013fde81e5a5f71743936569511a9cad38e314dc497ec67da6e0634f1c0b4"), looks := true }, kinds := [], alts := [], laidByText := true, laidKinds := [.data], laidTests := true, laidLooks := .later }
def LabelTellsUptoCardSaid : Prop := Claim7.holds Tryz.pinned (.plain (OpenSpec.upto labelTellsSpec)) labelTellsUptoCard

/-- THE SECOND FORM's CARD OF 'lariatlaw21.LabelSees'. -/
def labelSeesUptoCard : Claim7 := { stood := { row := labelSeesUptoRow, standIns := [], harness := (true, "3ab013fde81e5a5f71743936569511a9cad38e314dc497ec67da6e0634f1c0b4"), looks := true }, kinds := [], alts := [], laidByText := true, laidKinds := [.data], laidTests := true, laidLooks := .later }
def LabelSeesUptoCardSaid : Prop := Claim7.holds Tryz.pinned (.plain (OpenSpec.upto labelSeesSpec)) labelSeesUptoCard

/-- THE SECOND FORM's CARD OF 'lariatlaw21.LabelUnseen'. -/
def labelUnseenUptoCard : Claim7 := { stood := { row := labelUnseenUptoRow, standIns := [], harness := (true, "3ab013fde81e5a5f71743936569511a9cad38e314dc497ec67da6e0634f1c0b4"), looks := true }, kinds := [], alts := [], laidByText := true, laidKinds := [.data], laidTests := true, laidLooks := .later }
def LabelUnseenUptoCardSaid : Prop := Claim7.holds Tryz.pinned (.plain (OpenSpec.upto labelUnseenSpec)) labelUnseenUptoCard

/-- THE SECOND FORM's CARD OF 'lariatlaw21.LabelFew'. -/
def labelFewUptoCard : Claim7 := { stood := { row := labelFewUptoRow, standIns := [], harness := (true, "3ab013fde81e5a5f71743936569511a9cad38e314dc497ec67da6e0634f1c0b4"), looks := true }, kinds := [], alts := [], laidByText := true, laidKinds := [.data], laidTests := true, laidLooks := .later }
def LabelFewUptoCardSaid : Prop := Claim7.holds Tryz.pinned (.plain (OpenSpec.upto labelFewSpec)) labelFewUptoCard

/-- THE SECOND FORM's CARD OF 'lariatlaw42.DependTells'. -/
def dependTellsUptoCard : Claim7 := { stood := { row := dependTellsUptoRow, standIns := [], harness := (true, "3ab013fde81e5a5f71743936569511a9cad38e314dc497ec67da6e0634f1c0b4"), looks := true }, kinds := [], alts := [], laidByText := true, laidKinds := [.data], laidTests := true, laidLooks := .later }
def DependTellsUptoCardSaid : Prop := Claim7.holds Tryz.pinned (.plain (OpenSpec.upto dependTellsSpec)) dependTellsUptoCard

/-- THE SECOND FORM's CARD OF 'lariatlaw42.DependLocal'. -/
def dependLocalUptoCard : Claim7 := { stood := { row := dependLocalUptoRow, standIns := [], harness := (true, "3ab013fde81e5a5f71743936569511a9cad38e314dc497ec67da6e0634f1c0b4"), looks := true }, kinds := [], alts := [], laidByText := true, laidKinds := [.data], laidTests := true, laidLooks := .later }
def DependLocalUptoCardSaid : Prop := Claim7.holds Tryz.pinned (.plain (OpenSpec.upto dependLocalSpec)) dependLocalUptoCard

/-- THE SECOND FORM's CARD OF 'lariatlaw42.DependSwaps'. -/
def dependSwapsUptoCard : Claim7 := { stood := { row := dependSwapsUptoRow, standIns := [], harness := (true, "3ab013fde81e5a5f71743936569511a9cad38e314dc497ec67da6e0634f1c0b4"), looks := true }, kinds := [], alts := [], laidByText := true, laidKinds := [.data], laidTests := true, laidLooks := .later }
def DependSwapsUptoCardSaid : Prop := Claim7.holds Tryz.pinned (.plain (OpenSpec.upto dependSwapsSpec)) dependSwapsUptoCard

/-- THE SECOND FORM's CARD OF 'lariatlaw42.DependUnseen'. -/
def dependUnseenUptoCard : Claim7 := { stood := { row := dependUnseenUptoRow, standIns := [], harness := (true, "3ab013fde81e5a5f71743936569511a9cad38e314dc497ec67da6e0634f1c0b4"), looks := true }, kinds := [], alts := [], laidByText := true, laidKinds := [.data], laidTests := true, laidLooks := .later }
def DependUnseenUptoCardSaid : Prop := Claim7.holds Tryz.pinned (.plain (OpenSpec.upto dependUnseenSpec)) dependUnseenUptoCard
end Rows
end Go.Proofs.YtempnjgiohpopaaGreatDoor
