/-
  DERIVED. GIVEN WITH THE SEED: THE CARDS: each row of YteaboocppcbkiaaDoorRows.lean that lists a variable, with what it lists TIED to the program's text (the seventh form; the later family's looks); each row that meets fmt, with fmt's text TOLD by the authors' own Lean function (tested against real Go, not proved from fmt's source: count such statements apart). THE CARD IS WHAT COUNTS. Prove the row's statement (the work); the ties are given (YteaboocppcbkiaaDoorTie.lean); close each card by the builder's one call (the guide's Derived/Test/ToyasCard.lean, 'card_holds'). Laid BY PROGRAM, IN A SANDBOX (cutbox-door.mjs). By AI agents, Wed Nov 11 2026. No macro, syntax, notation, axiom, sorry.
-/
import Derived.Test.YteaboocppcbkiaaDoorRows
import GoSem.ClaimSeven
namespace Go.Proofs.YteaboocppcbkiaaDoor
namespace Rows

/-- THE TIED CARD OF 'lariatlaw13.CmdComms'. -/
def cmdCommsCard : Claim7 := { stood := { row := cmdCommsRow, standIns := [], harness := (true, "7b2623120b5ea1b9a7bddd53b233c1e6f32d436b1795ad96a0e6d7631496ef29"), looks := false }, kinds := [], alts := [], laidByText := true, laidKinds := [.data], laidTests := true, laidLooks := .later }
def CmdCommsCardSaid : Prop := Claim7.holds Tryd.pinned (.plain (OpenSpec.ofChange cmdCommsSpec)) cmdCommsCard

/-- THE TIED CARD OF 'lariatlaw13.CmdParts'. -/
def cmdPartsCard : Claim7 := { stood := { row := cmdPartsRow, standIns := [], harness := (true, "7b2623120b5ea1b9a7bddd53b233c1e6f32d436b1795ad96a0e6d7631496ef29"), looks := false }, kinds := [], alts := [], laidByText := true, laidKinds := [.data], laidTests := true, laidLooks := .later }
def CmdPartsCardSaid : Prop := Claim7.holds Tryd.pinned (.plain (OpenSpec.ofChange cmdPartsSpec)) cmdPartsCard

/-- THE TIED CARD OF 'lariatlaw13.CmdValues'. -/
def cmdValuesCard : Claim7 := { stood := { row := cmdValuesRow, standIns := [], harness := (true, "7b2623120b5ea1b9a7bddd53b233c1e6f32d436b1795ad96a0e6d7631496ef29"), looks := false }, kinds := [], alts := [], laidByText := true, laidKinds := [.data], laidTests := true, laidLooks := .later }
def CmdValuesCardSaid : Prop := Claim7.holds Tryd.pinned (.plain (OpenSpec.ofChange cmdValuesSpec)) cmdValuesCard

/-- THE TIED CARD OF 'lariatlaw13.CmdSpoilt'. -/
def cmdSpoiltCard : Claim7 := { stood := { row := cmdSpoiltRow, standIns := [], harness := (true, "7b2623120b5ea1b9a7bddd53b233c1e6f32d436b1795ad96a0e6d7631496ef29"), looks := false }, kinds := [], alts := [], laidByText := true, laidKinds := [.data], laidTests := true, laidLooks := .later }
def CmdSpoiltCardSaid : Prop := Claim7.holds Tryd.pinned (.plain (OpenSpec.ofChange cmdSpoiltSpec)) cmdSpoiltCard

/-- THE SECOND FORM's CARD OF 'lariatlaw13.CmdComms'. -/
def cmdCommsUptoCard : Claim7 := { stood := { row := cmdCommsUptoRow, standIns := [], harness := (true, "7b2623120b5ea1b9a7bddd53b233c1e6f32d436b1795ad96a0e6d7631496ef29"), looks := false }, kinds := [], alts := [], laidByText := true, laidKinds := [.data], laidTests := true, laidLooks := .later }
def CmdCommsUptoCardSaid : Prop := Claim7.holds Tryd.pinned (.plain (OpenSpec.upto cmdCommsSpec)) cmdCommsUptoCard

/-- THE SECOND FORM's CARD OF 'lariatlaw13.CmdParts'. -/
def cmdPartsUptoCard : Claim7 := { stood := { row := cmdPartsUptoRow, standIns := [], harness := (true, "7b2623120b5ea1b9a7bddd53b233c1e6f32d436b1795ad96a0e6d7631496ef29"), looks := false }, kinds := [], alts := [], laidByText := true, laidKinds := [.data], laidTests := true, laidLooks := .later }
def CmdPartsUptoCardSaid : Prop := Claim7.holds Tryd.pinned (.plain (OpenSpec.upto cmdPartsSpec)) cmdPartsUptoCard

/-- THE SECOND FORM's CARD OF 'lariatlaw13.CmdValues'. -/
def cmdValuesUptoCard : Claim7 := { stood := { row := cmdValuesUptoRow, standIns := [], harness := (true, "7b2623120b5ea1b9a7bddd53b233c1e6f32d436b1795ad96a0e6d7631496ef29"), looks := false }, kinds := [], alts := [], laidByText := true, laidKinds := [.data], laidTests := true, laidLooks := .later }
def CmdValuesUptoCardSaid : Prop := Claim7.holds Tryd.pinned (.plain (OpenSpec.upto cmdValuesSpec)) cmdValuesUptoCard

/-- THE SECOND FORM's CARD OF 'lariatlaw13.CmdSpoilt'. -/
def cmdSpoiltUptoCard : Claim7 := { stood := { row := cmdSpoiltUptoRow, standIns := [], harness := (true, "7b2623120b5ea1b9a7bddd53b233c1e6f32d436b1795ad96a0e6d7631496ef29"), looks := false }, kinds := [], alts := [], laidByText := true, laidKinds := [.data], laidTests := true, laidLooks := .later }
def CmdSpoiltUptoCardSaid : Prop := Claim7.holds Tryd.pinned (.plain (OpenSpec.upto cmdSpoiltSpec)) cmdSpoiltUptoCard
end Rows
end Go.Proofs.YteaboocppcbkiaaDoor
