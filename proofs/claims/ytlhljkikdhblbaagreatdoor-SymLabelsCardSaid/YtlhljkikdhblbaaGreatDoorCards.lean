/-
  DERIVED. GIVEN WITH THE SEED: THE CARDS: each row of YtlhljkikdhblbaaGreatDoorRows.lean that lists a variable, with what it lists TIED to the program's text (the seventh form; the later family's looks); each row that meets fmt, with fmt's text TOLD by the authors' own Lean function (tested against real Go, not proved from fmt's source: count such statements apart). THE CARD IS WHAT COUNTS. Prove the row's statement (the work); the ties are given (YtlhljkikdhblbaaGreatDoorTie.lean); close each card by the builder's one call (the guide's Derived/Test/ToyasCard.lean, 'card_holds'). Laid BY PROGRAM, IN A SANDBOX (cutbox-door.mjs). By AI agents, Wed Nov 11 2026. No macro, syntax, notation, axiom, sorry.
-/
import Derived.Test.YtlhljkikdhblbaaGreatDoorRows
import GoSem.ClaimSeven
namespace Go.Proofs.YtlhljkikdhblbaaGreatDoor
namespace Rows

/-- THE TIED CARD OF 'lariatlaw44.SymGroup'. -/
def symGroupCard : Claim7 := { stood := { row := symGroupRow, standIns := [], harness := (true, "b9778ffb76c48994e41cf4a1cbc80fbe8d81de8afaf69d0f9f1c8f83d6806211"), looks := true }, kinds := [], alts := [], laidByText := true, laidKinds := [.data], laidTests := true, laidLooks := .later }
def SymGroupCardSaid : Prop := Claim7.holds Tryz.pinned (.plain (OpenSpec.ofChange symGroupSpec)) symGroupCard

/-- THE TIED CARD OF 'lariatlaw44.SymActs'. -/
def symActsCard : Claim7 := { stood := { row := symActsRow, standIns := [], harness := (true, "b9778ffb76c48994e41cf4a1cbc80fbe8d81de8afaf69d0f9f1c8f83d6806211"), looks := true }, kinds := [], alts := [], laidByText := true, laidKinds := [.data], laidTests := true, laidLooks := .later }
def SymActsCardSaid : Prop := Claim7.holds Tryz.pinned (.plain (OpenSpec.ofChange symActsSpec)) symActsCard

/-- THE TIED CARD OF 'lariatlaw44.SymCanon'. -/
def symCanonCard : Claim7 := { stood := { row := symCanonRow, standIns := [], harness := (true, "b9778ffb76c48994e41cf4a1cbc80fbe8d81de8afaf69d0f9f1c8f83d6806211"), looks := true }, kinds := [], alts := [], laidByText := true, laidKinds := [.data], laidTests := true, laidLooks := .later }
def SymCanonCardSaid : Prop := Claim7.holds Tryz.pinned (.plain (OpenSpec.ofChange symCanonSpec)) symCanonCard

/-- THE TIED CARD OF 'lariatlaw44.SymMoves'. -/
def symMovesCard : Claim7 := { stood := { row := symMovesRow, standIns := [], harness := (true, "b9778ffb76c48994e41cf4a1cbc80fbe8d81de8afaf69d0f9f1c8f83d6806211"), looks := true }, kinds := [], alts := [], laidByText := true, laidKinds := [.data], laidTests := true, laidLooks := .later }
def SymMovesCardSaid : Prop := Claim7.holds Tryz.pinned (.plain (OpenSpec.ofChange symMovesSpec)) symMovesCard

/-- THE TIED CARD OF 'lariatlaw44.SymLabels'. -/
def symLabelsCard : Claim7 := { stood := { row := symLabelsRow, standIns := [], harness := (true, "b9778ffb76c48994e41cf4a1cbc80fbe8d81de8afaf69d0f9f1c8f83d6806211"), looks := true }, kinds := [], alts := [], laidByText := true, laidKinds := [.data], laidTests := true, laidLooks := .later }
def SymLabelsCardSaid : Prop := Claim7.holds Tryz.pinned (.plain (OpenSpec.ofChange symLabelsSpec)) symLabelsCard

/-- THE TIED CARD OF 'lariatlaw44.SymLifts'. -/
def symLiftsCard : Claim7 := { stood := { row := symLiftsRow, standIns := [], harness := (true, "b9778ffb76c48994e41cf4a1cbc80fbe8d81de8afaf69d0f9f1c8f83d6806211"), looks := true }, kinds := [], alts := [], laidByText := true, laidKinds := [.data], laidTests := true, laidLooks := .later }
def SymLiftsCardSaid : Prop := Claim7.holds Tryz.pinned (.plain (OpenSpec.ofChange symLiftsSpec)) symLiftsCard

/-- THE TIED CARD OF 'lariatlaw44.SymRuns'. -/
def symRunsCard : Claim7 := { stood := { row := symRunsRow, standIns := [], harness := (true, "b9778ffb76c48994e41cf4a1cbc80fbe8d81de8afaf69d0f9f1c8f83d6806211"), looks := true }, kinds := [], alts := [], laidByText := true, laidKinds := [.data], laidTests := true, laidLooks := .later }
def SymRunsCardSaid : Prop := Claim7.holds Tryz.pinned (.plain (OpenSpec.ofChange symRunsSpec)) symRunsCard

/-- THE SECOND FORM's CARD OF 'lariatlaw44.SymGroup'. -/
def symGroupUptoCard : Claim7 := { stood := { row := symGroupUptoRow, standIns := [], harness := (true, "b9778ffb76c48994e41cf4a1cbc80fbe8d81de8afaf69d0f9f1c8f83d6806211"), looks := true }, kinds := [], alts := [], laidByText := true, laidKinds := [.data], laidTests := true, laidLooks := .later }
def SymGroupUptoCardSaid : Prop := Claim7.holds Tryz.pinned (.plain (OpenSpec.upto symGroupSpec)) symGroupUptoCard

/-- THE SECOND FORM's CARD OF 'lariatlaw44.SymActs'. -/
def symActsUptoCard : Claim7 := { stood := { row := symActsUptoRow, standIns := [], harness := (true, "b9778ffb76c48994e41cf4a1cbc80fbe8d81de8afaf69d0f9f1c8f83d6806211"), looks := true }, kinds := [], alts := [], laidByText := true, laidKinds := [.data], laidTests := true, laidLooks := .later }
def SymActsUptoCardSaid : Prop := Claim7.holds Tryz.pinned (.plain (OpenSpec.upto symActsSpec)) symActsUptoCard

/-- THE SECOND FORM's CARD OF 'lariatlaw44.SymCanon'. -/
def symCanonUptoCard : Claim7 := { stood := { row := symCanonUptoRow, standIns := [], harness := (true, "b9778ffb76c48994e41cf4a1cbc80fbe8d81de8afaf69d0f9f1c8f83d6806211"), looks := true }, kinds := [], alts := [], laidByText := true, laidKinds := [.data], laidTests := true, laidLooks := .later }
def SymCanonUptoCardSaid : Prop := Claim7.holds Tryz.pinned (.plain (OpenSpec.upto symCanonSpec)) symCanonUptoCard

/-- THE SECOND FORM's CARD OF 'lariatlaw44.SymMoves'. -/
def symMovesUptoCard : Claim7 := { stood := { row := symMovesUptoRow, standIns := [], harness := (true, "b9778ffb76c48994e41cf4a1cbc80fbe8d81de8afaf69d0f9f1c8f83d6806211"), looks := true }, kinds := [], alts := [], laidByText := true, laidKinds := [.data], laidTests := true, laidLooks := .later }
def SymMovesUptoCardSaid : Prop := Claim7.holds Tryz.pinned (.plain (OpenSpec.upto symMovesSpec)) symMovesUptoCard

/-- THE SECOND FORM's CARD OF 'lariatlaw44.SymLabels'. -/
def symLabelsUptoCard : Claim7 := { stood := { row := symLabelsUptoRow, standIns := [], harness := (true, "b9778ffb76c48994e41cf4a1cbc80fbe8d81de8afaf69d0f9f1c8f83d6806211"), looks := true }, kinds := [], alts := [], laidByText := true, laidKinds := [.data], laidTests := true, laidLooks := .later }
def SymLabelsUptoCardSaid : Prop := Claim7.holds Tryz.pinned (.plain (OpenSpec.upto symLabelsSpec)) symLabelsUptoCard

/-- THE SECOND FORM's CARD OF 'lariatlaw44.SymLifts'. -/
def symLiftsUptoCard : Claim7 := { stood := { row := symLiftsUptoRow, standIns := [], harness := (true, "b9778ffb76c48994e41cf4a1cbc80fbe8d81de8afaf69d0f9f1c8f83d6806211"), looks := true }, kinds := [], alts := [], laidByText := true, laidKinds := [.data], laidTests := true, laidLooks := .later }
def SymLiftsUptoCardSaid : Prop := Claim7.holds Tryz.pinned (.plain (OpenSpec.upto symLiftsSpec)) symLiftsUptoCard

/-- THE SECOND FORM's CARD OF 'lariatlaw44.SymRuns'. -/
def symRunsUptoCard : Claim7 := { stood := { row := symRunsUptoRow, standIns := [], harness := (true, "b9778ffb76c48994e41cf4a1cbc80fbe8d81de8afaf69d0f9f1c8f83d6806211"), looks := true }, kinds := [], alts := [], laidByText := true, laidKinds := [.data], laidTests := true, laidLooks := .later }
def SymRunsUptoCardSaid : Prop := Claim7.holds Tryz.pinned (.plain (OpenSpec.upto symRunsSpec)) symRunsUptoCard
end Rows
end Go.Proofs.YtlhljkikdhblbaaGreatDoor
