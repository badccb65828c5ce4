/-
  DERIVED. GIVEN WITH THE SEED: THE CARDS: each row of YtbbaokmelkiemaaDoorRows.lean that lists a variable, with what it lists TIED to the program's text (the seventh form; the later family's looks); each row that meets fmt, with fmt's text TOLD by the authors' own Lean function (tested against real Go, not proved from fmt's source: count such statements apart). THE CARD IS WHAT COUNTS. Prove the row's statement (the work); the ties are given (YtbbaokmelkiemaaDoorTie.lean); close each card by the builder's one call (the guide's Derived/Test/ToyasCard.lean, 'card_holds'). Laid BY PROGRAM, IN A SANDBOX (cutbox-door.mjs). By AI agents, Wed Nov 11 2026. No macro, syntax, notation, axiom, sorry.
-/
import Derived.Test.YtbbaokmelkiemaaDoorRows
import GoSem.ClaimSeven
namespace Go.Proofs.YtbbaokmelkiemaaDoor
namespace Rows

/-- THE TIED CARD OF 'lariatlaw14.ProcScopes'. -/
def procScopesCard : Claim7 := { stood := { row := procScopesRow, standIns := [], harness := (true, "29d50069deab9b3a871da542a1552a140e959b02c539e184fb884f52b2f6aff2"), looks := false }, kinds := [], alts := [], laidByText := true, laidKinds := [.data], laidTests := true, laidLooks := .later }
def ProcScopesCardSaid : Prop := Claim7.holds Tryd.pinned (.plain (OpenSpec.ofChange procScopesSpec)) procScopesCard

/-- THE TIED CARD OF 'lariatlaw14.ProcInsts'. -/
def procInstsCard : Claim7 := { stood := { row := procInstsRow, standIns := [], harness := (true, "29d50069deab9b3a871da542a1552a140e959b02c539e184fb884f52b2f6aff2"), looks := false }, kinds := [], alts := [], laidByText := true, laidKinds := [.data], laidTests := true, laidLooks := .later }
def ProcInstsCardSaid : Prop := Claim7.holds Tryd.pinned (.plain (OpenSpec.ofChange procInstsSpec)) procInstsCard

/-- THE TIED CARD OF 'lariatlaw14.ProcParts'. -/
def procPartsCard : Claim7 := { stood := { row := procPartsRow, standIns := [], harness := (true, "29d50069deab9b3a871da542a1552a140e959b02c539e184fb884f52b2f6aff2"), looks := false }, kinds := [], alts := [], laidByText := true, laidKinds := [.data], laidTests := true, laidLooks := .later }
def ProcPartsCardSaid : Prop := Claim7.holds Tryd.pinned (.plain (OpenSpec.ofChange procPartsSpec)) procPartsCard

/-- THE TIED CARD OF 'lariatlaw14.ProcNumbers'. -/
def procNumbersCard : Claim7 := { stood := { row := procNumbersRow, standIns := [], harness := (true, "29d50069deab9b3a871da542a1552a140e959b02c539e184fb884f52b2f6aff2"), looks := false }, kinds := [], alts := [], laidByText := true, laidKinds := [.data], laidTests := true, laidLooks := .later }
def ProcNumbersCardSaid : Prop := Claim7.holds Tryd.pinned (.plain (OpenSpec.ofChange procNumbersSpec)) procNumbersCard

/-- THE SECOND FORM's CARD OF 'lariatlaw14.ProcScopes'. -/
def procScopesUptoCard : Claim7 := { stood := { row := procScopesUptoRow, standIns := [], harness := (true, "29d50069deab9b3a871da542a1552a140e959b02c539e184fb884f52b2f6aff2"), looks := false }, kinds := [], alts := [], laidByText := true, laidKinds := [.data], laidTests := true, laidLooks := .later }
def ProcScopesUptoCardSaid : Prop := Claim7.holds Tryd.pinned (.plain (OpenSpec.upto procScopesSpec)) procScopesUptoCard

/-- THE SECOND FORM's CARD OF 'lariatlaw14.ProcInsts'. -/
def procInstsUptoCard : Claim7 := { stood := { row := procInstsUptoRow, standIns := [], harness := (true, "29d50069deab9b3a871da542a1552a140e959b02c539e184fb884f52b2f6aff2"), looks := false }, kinds := [], alts := [], laidByText := true, laidKinds := [.data], laidTests := true, laidLooks := .later }
def ProcInstsUptoCardSaid : Prop := Claim7.holds Tryd.pinned (.plain (OpenSpec.upto procInstsSpec)) procInstsUptoCard

/-- THE SECOND FORM's CARD OF 'lariatlaw14.ProcParts'. -/
def procPartsUptoCard : Claim7 := { stood := { row := procPartsUptoRow, standIns := [], harness := (true, "29d50069deab9b3a871da542a1552a140e959b02c539e184fb884f52b2f6aff2"), looks := false }, kinds := [], alts := [], laidByText := true, laidKinds := [.data], laidTests := true, laidLooks := .later }
def ProcPartsUptoCardSaid : Prop := Claim7.holds Tryd.pinned (.plain (OpenSpec.upto procPartsSpec)) procPartsUptoCard

/-- THE SECOND FORM's CARD OF 'lariatlaw14.ProcNumbers'. -/
def procNumbersUptoCard : Claim7 := { stood := { row := procNumbersUptoRow, standIns := [], harness := (true, "29d50069deab9b3a871da542a1552a140e959b02c539e184fb884f52b2f6aff2"), looks := false }, kinds := [], alts := [], laidByText := true, laidKinds := [.data], laidTests := true, laidLooks := .later }
def ProcNumbersUptoCardSaid : Prop := Claim7.holds Tryd.pinned (.plain (OpenSpec.upto procNumbersSpec)) procNumbersUptoCard
end Rows
end Go.Proofs.YtbbaokmelkiemaaDoor
