/-
  NARROWER THAN 'FOR EVERY INPUT', by the rows' own cells (each row's printed sentence says how): ProcScopes: laid · ProcInsts: laid · ProcParts: laid · ProcNumbers: laid.
  DERIVED. THE GIVEN ROWS OF THIS SEAT. 4 by the template 'for every input the law returns true; each argument reads behind the call as it read before'; 0 by the template 'total and deterministic' (their statements: YtbbaokmelkiemaaDoorTotals.lean).
  GIVEN WITH THE SEED: the statements are not yours to turn. If you find one false, say at which input.
  Laid BY PROGRAM, IN A SANDBOX (cutbox-rows.mjs): the forced cells as the released guide's own fill.sh prints them over the translation 522a79be1b6bf80b… (all of the seat's roots in one cut). By AI agents, Wed Nov 11 2026. No macro, syntax, notation, axiom, sorry.
-/
import Derived.Test.YtbbaokmelkiemaaDoorChecked
import GoSem.Claim
import GoSem.ClaimJoined
import GoSem.ClaimMapViews
import Derived.JoinedTies
import Derived.KernelRfl
namespace Go.Proofs.YtbbaokmelkiemaaDoor
/- THE CELL 'sum', in the pinned program and in every row, IS THE sha256 OF THE DUMP (.gsa) THAT YtbbaokmelkiemaaDoorProg.lean LOADS. Nothing in Lean hashes anything: it is a label: what it is worth is what the hold of that sum in a sandbox is worth. -/
noncomputable def Tryd.pinned : Pinned := { name := "ytbbaokmelkiemaadoor", sum := "522a79be1b6bf80b707e122090d2daa7c6deb4d9ee5de8e57bdb501edf39fdef", checked := Tryd.checked }
namespace Rows
def none {H : Type} : Left H := { results := [], args := [] }

/- WHAT THE LISTED PACKAGE-LEVEL VARIABLES READ AS WHEN THE CALL BEGINS. Each datum BY PROGRAM (the guide's laid-datum.mjs) off the statement by which the dump's own 'gosem.cut.vars' lays the variable. In a bare row this is a premise. The card (YtbbaokmelkiemaaDoorCards.lean) ties it to the program's text. -/
def laid_lariat_lex_own {H : Type} : DataW H := .agg [.lit (.string [115, 101, 108, 102]), .lit (.string [110, 111, 110, 101]), .lit (.string [108, 101, 110]), .lit (.string [97, 116])]

/-- 'lariatlaw14.ProcScopes': WHATEVER THE INPUT: true; the input reads as it did. -/
def procScopesSpec : ChangeSpec := { name := "procScopes", fn := fun _ => fun
  | [d1, d2] => { results := [.lit (.bool true)], args := [d1, d2] }
  | _ => none }
def procScopesRow : OpenClaim := { program := "ytbbaokmelkiemaadoor", sum := "522a79be1b6bf80b707e122090d2daa7c6deb4d9ee5de8e57bdb501edf39fdef", func := "lariat/lariatlaw14.ProcScopes", spec := "procScopes", unfollowed := true, recurses := true, named := ["lariat/lex.own"], apart := false, laid := [("lariat/lex.own", laid_lariat_lex_own)] }
def ProcScopesSaid : Prop := procScopesRow.holds Tryd.pinned (OpenSpec.ofChange procScopesSpec)

/-- ITS FALSE NEIGHBOUR: 'it returns false'. Refute it at one input. -/
def procScopesWrong : ChangeSpec := { name := "procScopes", fn := fun _ => fun
  | [d1, d2] => { results := [.lit (.bool false)], args := [d1, d2] }
  | _ => none }
def ProcScopesWrongFalsely : Prop := procScopesRow.holds Tryd.pinned (OpenSpec.ofChange procScopesWrong)

/-- 'lariatlaw14.ProcInsts': WHATEVER THE INPUT: true; the input reads as it did. -/
def procInstsSpec : ChangeSpec := { name := "procInsts", fn := fun _ => fun
  | [d] => { results := [.lit (.bool true)], args := [d] }
  | _ => none }
def procInstsRow : OpenClaim := { program := "ytbbaokmelkiemaadoor", sum := "522a79be1b6bf80b707e122090d2daa7c6deb4d9ee5de8e57bdb501edf39fdef", func := "lariat/lariatlaw14.ProcInsts", spec := "procInsts", unfollowed := true, recurses := true, named := ["lariat/lex.own"], apart := false, laid := [("lariat/lex.own", laid_lariat_lex_own)] }
def ProcInstsSaid : Prop := procInstsRow.holds Tryd.pinned (OpenSpec.ofChange procInstsSpec)

/-- ITS FALSE NEIGHBOUR: 'it returns false'. Refute it at one input. -/
def procInstsWrong : ChangeSpec := { name := "procInsts", fn := fun _ => fun
  | [d] => { results := [.lit (.bool false)], args := [d] }
  | _ => none }
def ProcInstsWrongFalsely : Prop := procInstsRow.holds Tryd.pinned (OpenSpec.ofChange procInstsWrong)

/-- 'lariatlaw14.ProcParts': WHATEVER THE INPUT: true; the input reads as it did. -/
def procPartsSpec : ChangeSpec := { name := "procParts", fn := fun _ => fun
  | [d1, d2] => { results := [.lit (.bool true)], args := [d1, d2] }
  | _ => none }
def procPartsRow : OpenClaim := { program := "ytbbaokmelkiemaadoor", sum := "522a79be1b6bf80b707e122090d2daa7c6deb4d9ee5de8e57bdb501edf39fdef", func := "lariat/lariatlaw14.ProcParts", spec := "procParts", unfollowed := true, recurses := true, named := ["lariat/lex.own"], apart := false, laid := [("lariat/lex.own", laid_lariat_lex_own)] }
def ProcPartsSaid : Prop := procPartsRow.holds Tryd.pinned (OpenSpec.ofChange procPartsSpec)

/-- ITS FALSE NEIGHBOUR: 'it returns false'. Refute it at one input. -/
def procPartsWrong : ChangeSpec := { name := "procParts", fn := fun _ => fun
  | [d1, d2] => { results := [.lit (.bool false)], args := [d1, d2] }
  | _ => none }
def ProcPartsWrongFalsely : Prop := procPartsRow.holds Tryd.pinned (OpenSpec.ofChange procPartsWrong)

/-- 'lariatlaw14.ProcNumbers': WHATEVER THE INPUT: true; the input reads as it did. -/
def procNumbersSpec : ChangeSpec := { name := "procNumbers", fn := fun _ => fun
  | [d] => { results := [.lit (.bool true)], args := [d] }
  | _ => none }
def procNumbersRow : OpenClaim := { program := "ytbbaokmelkiemaadoor", sum := "522a79be1b6bf80b707e122090d2daa7c6deb4d9ee5de8e57bdb501edf39fdef", func := "lariat/lariatlaw14.ProcNumbers", spec := "procNumbers", unfollowed := true, recurses := true, named := ["lariat/lex.own"], apart := false, laid := [("lariat/lex.own", laid_lariat_lex_own)] }
def ProcNumbersSaid : Prop := procNumbersRow.holds Tryd.pinned (OpenSpec.ofChange procNumbersSpec)

/-- ITS FALSE NEIGHBOUR: 'it returns false'. Refute it at one input. -/
def procNumbersWrong : ChangeSpec := { name := "procNumbers", fn := fun _ => fun
  | [d] => { results := [.lit (.bool false)], args := [d] }
  | _ => none }
def ProcNumbersWrongFalsely : Prop := procNumbersRow.holds Tryd.pinned (OpenSpec.ofChange procNumbersWrong)

/- THE SECOND FORM. 'bulk': how many values and letters a reading holds, each counted each time it is reached (what is shared counts as often as it is met; a slice's spare places count too). A statement '..UptoSaid' is the law's where the arguments, and the package variables that the reading takes, are together of bulk at most 1048576: NARROWER than '..Said'. Prove '..Said' where nothing that the law and all that it calls make is longer than what came in: it says more and counts as full. Else prove '..UptoSaid'. A law counts once. -/
mutual
def uptoBulk {H : Type} : DataW H → Nat
  | .lit (.string bytes) => bytes.length + 1
  | .lit _ => 1
  | .nil => 1
  | .ptr d => uptoBulk d + 1
  | .slice elems spare => uptoBulkAll elems + uptoBulkAll spare + 1
  | .agg parts => uptoBulkAll parts + 1
  | .iface _ d => uptoBulk d + 1
  | .map entries => uptoBulkEntries entries + 1
  | .held _ => 1
def uptoBulkAll {H : Type} : List (DataW H) → Nat
  | [] => 0
  | d :: r => uptoBulk d + uptoBulkAll r
def uptoBulkEntries {H : Type} : List (Lit × DataW H) → Nat
  | [] => 0
  | x :: r => uptoBulkEntry x + uptoBulkEntries r
def uptoBulkEntry {H : Type} : Lit × DataW H → Nat
  | (.string bytes, d) => bytes.length + uptoBulk d + 1
  | (_, d) => uptoBulk d + 1
 end
def uptoSmall : (H : Type) → List (DataW H) → Bool := fun _ ds => decide (uptoBulkAll ds ≤ 1048576)
def OpenSpec.upto (s : _root_.Go.ChangeSpec) : _root_.Go.OpenSpec := { _root_.Go.OpenSpec.ofChange s with cond := some uptoSmall }

/-- 'lariatlaw14.ProcScopes', WHERE WHAT IT READS IS OF BULK AT MOST 1048576: true; the input reads as it did. -/
def procScopesUptoRow : OpenClaim := { program := "ytbbaokmelkiemaadoor", sum := "522a79be1b6bf80b707e122090d2daa7c6deb4d9ee5de8e57bdb501edf39fdef", func := "lariat/lariatlaw14.ProcScopes", spec := "procScopes", unfollowed := true, recurses := true, named := ["lariat/lex.own"], apart := false, laid := [("lariat/lex.own", laid_lariat_lex_own)], narrowed := true }
def ProcScopesUptoSaid : Prop := procScopesUptoRow.holds Tryd.pinned (OpenSpec.upto procScopesSpec)

/-- 'lariatlaw14.ProcInsts', WHERE WHAT IT READS IS OF BULK AT MOST 1048576: true; the input reads as it did. -/
def procInstsUptoRow : OpenClaim := { program := "ytbbaokmelkiemaadoor", sum := "522a79be1b6bf80b707e122090d2daa7c6deb4d9ee5de8e57bdb501edf39fdef", func := "lariat/lariatlaw14.ProcInsts", spec := "procInsts", unfollowed := true, recurses := true, named := ["lariat/lex.own"], apart := false, laid := [("lariat/lex.own", laid_lariat_lex_own)], narrowed := true }
def ProcInstsUptoSaid : Prop := procInstsUptoRow.holds Tryd.pinned (OpenSpec.upto procInstsSpec)

/-- 'lariatlaw14.ProcParts', WHERE WHAT IT READS IS OF BULK AT MOST 1048576: true; the input reads as it did. -/
def procPartsUptoRow : OpenClaim := { program := "ytbbaokmelkiemaadoor", sum := "522a79be1b6bf80b707e122090d2daa7c6deb4d9ee5de8e57bdb501edf39fdef", func := "lariat/lariatlaw14.ProcParts", spec := "procParts", unfollowed := true, recurses := true, named := ["lariat/lex.own"], apart := false, laid := [("lariat/lex.own", laid_lariat_lex_own)], narrowed := true }
def ProcPartsUptoSaid : Prop := procPartsUptoRow.holds Tryd.pinned (OpenSpec.upto procPartsSpec)

/-- 'lariatlaw14.ProcNumbers', WHERE WHAT IT READS IS OF BULK AT MOST 1048576: true; the input reads as it did. -/
def procNumbersUptoRow : OpenClaim := { program := "ytbbaokmelkiemaadoor", sum := "522a79be1b6bf80b707e122090d2daa7c6deb4d9ee5de8e57bdb501edf39fdef", func := "lariat/lariatlaw14.ProcNumbers", spec := "procNumbers", unfollowed := true, recurses := true, named := ["lariat/lex.own"], apart := false, laid := [("lariat/lex.own", laid_lariat_lex_own)], narrowed := true }
def ProcNumbersUptoSaid : Prop := procNumbersUptoRow.holds Tryd.pinned (OpenSpec.upto procNumbersSpec)

end Rows
end Go.Proofs.YtbbaokmelkiemaaDoor
