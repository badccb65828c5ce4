/-
  DERIVED. GIVEN WITH THE SEED: THE CARDS: each row of YtoakjdilnkjcgaaDoorRows.lean that lists a variable, with what it lists TIED to the program's text (the seventh form; the later family's looks); each row that meets fmt, with fmt's text TOLD by the authors' own Lean function (tested against real Go, not proved from fmt's source: count such statements apart). THE CARD IS WHAT COUNTS. Prove the row's statement (the work); the ties are given (YtoakjdilnkjcgaaDoorTie.lean); close each card by the builder's one call (the guide's Derived/Test/ToyasCard.lean, 'card_holds'). Laid BY PROGRAM, IN A SANDBOX (cutbox-door.mjs). By AI agents, Wed Nov 11 2026. No macro, syntax, notation, axiom, sorry.
-/
import Derived.Test.YtoakjdilnkjcgaaDoorRows
import GoSem.ClaimSeven
namespace Go.Proofs.YtoakjdilnkjcgaaDoor
namespace Rows

/-- THE TIED CARD OF 'lariatlaw12.DeclScalars'. -/
def declScalarsCard : Claim7 := { stood := { row := declScalarsRow, standIns := [], harness := (true, "a78b4efd0e87bbf3aea73e5db06e6061f6b0a38571e92e69665cc3b15b7e39a1"), looks := false }, kinds := [], alts := [], laidByText := true, laidKinds := [.data], laidTests := true, laidLooks := .later }
def DeclScalarsCardSaid : Prop := Claim7.holds Tryd.pinned (.plain (OpenSpec.ofChange declScalarsSpec)) declScalarsCard

/-- THE TIED CARD OF 'lariatlaw12.DeclVars'. -/
def declVarsCard : Claim7 := { stood := { row := declVarsRow, standIns := [], harness := (true, "a78b4efd0e87bbf3aea73e5db06e6061f6b0a38571e92e69665cc3b15b7e39a1"), looks := false }, kinds := [], alts := [], laidByText := true, laidKinds := [.data], laidTests := true, laidLooks := .later }
def DeclVarsCardSaid : Prop := Claim7.holds Tryd.pinned (.plain (OpenSpec.ofChange declVarsSpec)) declVarsCard

/-- THE TIED CARD OF 'lariatlaw12.DeclChans'. -/
def declChansCard : Claim7 := { stood := { row := declChansRow, standIns := [], harness := (true, "a78b4efd0e87bbf3aea73e5db06e6061f6b0a38571e92e69665cc3b15b7e39a1"), looks := false }, kinds := [], alts := [], laidByText := true, laidKinds := [.data], laidTests := true, laidLooks := .later }
def DeclChansCardSaid : Prop := Claim7.holds Tryd.pinned (.plain (OpenSpec.ofChange declChansSpec)) declChansCard

/-- THE TIED CARD OF 'lariatlaw12.DeclCells'. -/
def declCellsCard : Claim7 := { stood := { row := declCellsRow, standIns := [], harness := (true, "a78b4efd0e87bbf3aea73e5db06e6061f6b0a38571e92e69665cc3b15b7e39a1"), looks := false }, kinds := [], alts := [], laidByText := true, laidKinds := [.data], laidTests := true, laidLooks := .later }
def DeclCellsCardSaid : Prop := Claim7.holds Tryd.pinned (.plain (OpenSpec.ofChange declCellsSpec)) declCellsCard

/-- THE TIED CARD OF 'lariatlaw12.DeclParts'. -/
def declPartsCard : Claim7 := { stood := { row := declPartsRow, standIns := [], harness := (true, "a78b4efd0e87bbf3aea73e5db06e6061f6b0a38571e92e69665cc3b15b7e39a1"), looks := false }, kinds := [], alts := [], laidByText := true, laidKinds := [.data], laidTests := true, laidLooks := .later }
def DeclPartsCardSaid : Prop := Claim7.holds Tryd.pinned (.plain (OpenSpec.ofChange declPartsSpec)) declPartsCard

/-- THE TIED CARD OF 'lariatlaw12.DeclNames'. -/
def declNamesCard : Claim7 := { stood := { row := declNamesRow, standIns := [], harness := (true, "a78b4efd0e87bbf3aea73e5db06e6061f6b0a38571e92e69665cc3b15b7e39a1"), looks := false }, kinds := [], alts := [], laidByText := true, laidKinds := [.data], laidTests := true, laidLooks := .later }
def DeclNamesCardSaid : Prop := Claim7.holds Tryd.pinned (.plain (OpenSpec.ofChange declNamesSpec)) declNamesCard

/-- THE SECOND FORM's CARD OF 'lariatlaw12.DeclScalars'. -/
def declScalarsUptoCard : Claim7 := { stood := { row := declScalarsUptoRow, standIns := [], harness := (true, "a78b4efd0e87bbf3aea73e5db06e6061f6b0a38571e92e69665cc3b15b7e39a1"), looks := false }, kinds := [], alts := [], laidByText := true, laidKinds := [.data], laidTests := true, laidLooks := .later }
def DeclScalarsUptoCardSaid : Prop := Claim7.holds Tryd.pinned (.plain (OpenSpec.upto declScalarsSpec)) declScalarsUptoCard

/-- THE SECOND FORM's CARD OF 'lariatlaw12.DeclVars'. -/
def declVarsUptoCard : Claim7 := { stood := { row := declVarsUptoRow, standIns := [], harness := (true, "a78b4efd0e87bbf3aea73e5db06e6061f6b0a38571e92e69665cc3b15b7e39a1"), looks := false }, kinds := [], alts := [], laidByText := true, laidKinds := [.data], laidTests := true, laidLooks := .later }
def DeclVarsUptoCardSaid : Prop := Claim7.holds Tryd.pinned (.plain (OpenSpec.upto declVarsSpec)) declVarsUptoCard

/-- THE SECOND FORM's CARD OF 'lariatlaw12.DeclChans'. -/
def declChansUptoCard : Claim7 := { stood := { row := declChansUptoRow, standIns := [], harness := (true, "a78b4efd0e87bbf3aea73e5db06e6061f6b0a38571e92e69665cc3b15b7e39a1"), looks := false }, kinds := [], alts := [], laidByText := true, laidKinds := [.data], laidTests := true, laidLooks := .later }
def DeclChansUptoCardSaid : Prop := Claim7.holds Tryd.pinned (.plain (OpenSpec.upto declChansSpec)) declChansUptoCard

/-- THE SECOND FORM's CARD OF 'lariatlaw12.DeclCells'. -/
def declCellsUptoCard : Claim7 := { stood := { row := declCellsUptoRow, standIns := [], harness := (true, "a78b4efd0e87bbf3aea73e5db06e6061f6b0a38571e92e69665cc3b15b7e39a1"), looks := false }, kinds := [], alts := [], laidByText := true, laidKinds := [.data], laidTests := true, laidLooks := .later }
def DeclCellsUptoCardSaid : Prop := Claim7.holds Tryd.pinned (.plain (OpenSpec.upto declCellsSpec)) declCellsUptoCard

/-- THE SECOND FORM's CARD OF 'lariatlaw12.DeclParts'. -/
def declPartsUptoCard : Claim7 := { stood := { row := declPartsUptoRow, standIns := [], harness := (true, "a78b4efd0e87bbf3aea73e5db06e6061f6b0a38571e92e69665cc3b15b7e39a1"), looks := false }, kinds := [], alts := [], laidByText := true, laidKinds := [.data], laidTests := true, laidLooks := .later }
def DeclPartsUptoCardSaid : Prop := Claim7.holds Tryd.pinned (.plain (OpenSpec.upto declPartsSpec)) declPartsUptoCard

/-- THE SECOND FORM's CARD OF 'lariatlaw12.DeclNames'. -/
def declNamesUptoCard : Claim7 := { stood := { row := declNamesUptoRow, standIns := [], harness := (true, "a78b4efd0e87bbf3aea73e5db06e6061f6b0a38571e92e69665cc3b15b7e39a1"), looks := false }, kinds := [], alts := [], laidByText := true, laidKinds := [.data], laidTests := true, laidLooks := .later }
def DeclNamesUptoCardSaid : Prop := Claim7.holds Tryd.pinned (.plain (OpenSpec.upto declNamesSpec)) declNamesUptoCard
end Rows
end Go.Proofs.YtoakjdilnkjcgaaDoor
