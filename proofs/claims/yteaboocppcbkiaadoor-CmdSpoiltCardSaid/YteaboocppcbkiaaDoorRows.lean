/-
  NARROWER THAN 'FOR EVERY INPUT', by the rows' own cells (each row's printed sentence says how): CmdComms: laid · CmdParts: laid · CmdValues: laid · CmdSpoilt: laid.
  DERIVED. THE GIVEN ROWS OF THIS SEAT. 4 by the template 'for every input the law returns true; each argument reads behind the call as it read before'; 0 by the template 'total and deterministic' (their statements: YteaboocppcbkiaaDoorTotals.lean).
  GIVEN WITH THE SEED: the statements are not yours to turn. If you find one false, say at which input.
  Laid BY PROGRAM, IN A SANDBOX (cutbox-rows.mjs): the forced cells as the released guide's own fill.sh prints them over the translation 1b3e30eae7b47cc3… (all of the seat's roots in one cut). By AI agents, Wed Nov 11 2026. No macro, syntax, notation, axiom, sorry.
-/
import Derived.Test.YteaboocppcbkiaaDoorChecked
import GoSem.Claim
import GoSem.ClaimJoined
import GoSem.ClaimMapViews
import Derived.JoinedTies
import Derived.KernelRfl
namespace Go.Proofs.YteaboocppcbkiaaDoor
/- THE CELL 'sum', in the pinned program and in every row, IS THE sha256 OF THE DUMP (.gsa) THAT YteaboocppcbkiaaDoorProg.lean LOADS. Nothing in Lean hashes anything: it is a label: what it is worth is what the hold of that sum in a sandbox is worth. -/
noncomputable def Tryd.pinned : Pinned := { name := "yteaboocppcbkiaadoor", sum := "1b3e30eae7b47cc393498f9a920f82fdffcdd3d032d49d2ac73ca6ff30d6d399", checked := Tryd.checked }
namespace Rows
def none {H : Type} : Left H := { results := [], args := [] }

/- WHAT THE LISTED PACKAGE-LEVEL VARIABLES READ AS WHEN THE CALL BEGINS. Each datum BY PROGRAM (the guide's laid-datum.mjs) off the statement by which the dump's own 'gosem.cut.vars' lays the variable. In a bare row this is a premise. The card (YteaboocppcbkiaaDoorCards.lean) ties it to the program's text. -/
def laid_lariat_lex_own {H : Type} : DataW H := .agg [.lit (.string [115, 101, 108, 102]), .lit (.string [110, 111, 110, 101]), .lit (.string [108, 101, 110]), .lit (.string [97, 116])]

/-- 'lariatlaw13.CmdComms': WHATEVER THE INPUT: true; the input reads as it did. -/
def cmdCommsSpec : ChangeSpec := { name := "cmdComms", fn := fun _ => fun
  | [d1, d2] => { results := [.lit (.bool true)], args := [d1, d2] }
  | _ => none }
def cmdCommsRow : OpenClaim := { program := "yteaboocppcbkiaadoor", sum := "1b3e30eae7b47cc393498f9a920f82fdffcdd3d032d49d2ac73ca6ff30d6d399", func := "lariat/lariatlaw13.CmdComms", spec := "cmdComms", unfollowed := true, recurses := true, named := ["lariat/lex.own"], apart := false, laid := [("lariat/lex.own", laid_lariat_lex_own)] }
def CmdCommsSaid : Prop := cmdCommsRow.holds Tryd.pinned (OpenSpec.ofChange cmdCommsSpec)

/-- ITS FALSE NEIGHBOUR: 'it returns false'. Refute it at one input. -/
def cmdCommsWrong : ChangeSpec := { name := "cmdComms", fn := fun _ => fun
  | [d1, d2] => { results := [.lit (.bool false)], args := [d1, d2] }
  | _ => none }
def CmdCommsWrongFalsely : Prop := cmdCommsRow.holds Tryd.pinned (OpenSpec.ofChange cmdCommsWrong)

/-- 'lariatlaw13.CmdParts': WHATEVER THE INPUT: true; the input reads as it did. -/
def cmdPartsSpec : ChangeSpec := { name := "cmdParts", fn := fun _ => fun
  | [d1, d2, d3] => { results := [.lit (.bool true)], args := [d1, d2, d3] }
  | _ => none }
def cmdPartsRow : OpenClaim := { program := "yteaboocppcbkiaadoor", sum := "1b3e30eae7b47cc393498f9a920f82fdffcdd3d032d49d2ac73ca6ff30d6d399", func := "lariat/lariatlaw13.CmdParts", spec := "cmdParts", unfollowed := true, recurses := true, named := ["lariat/lex.own"], apart := false, laid := [("lariat/lex.own", laid_lariat_lex_own)] }
def CmdPartsSaid : Prop := cmdPartsRow.holds Tryd.pinned (OpenSpec.ofChange cmdPartsSpec)

/-- ITS FALSE NEIGHBOUR: 'it returns false'. Refute it at one input. -/
def cmdPartsWrong : ChangeSpec := { name := "cmdParts", fn := fun _ => fun
  | [d1, d2, d3] => { results := [.lit (.bool false)], args := [d1, d2, d3] }
  | _ => none }
def CmdPartsWrongFalsely : Prop := cmdPartsRow.holds Tryd.pinned (OpenSpec.ofChange cmdPartsWrong)

/-- 'lariatlaw13.CmdValues': WHATEVER THE INPUT: true; the input reads as it did. -/
def cmdValuesSpec : ChangeSpec := { name := "cmdValues", fn := fun _ => fun
  | [d1, d2, d3] => { results := [.lit (.bool true)], args := [d1, d2, d3] }
  | _ => none }
def cmdValuesRow : OpenClaim := { program := "yteaboocppcbkiaadoor", sum := "1b3e30eae7b47cc393498f9a920f82fdffcdd3d032d49d2ac73ca6ff30d6d399", func := "lariat/lariatlaw13.CmdValues", spec := "cmdValues", unfollowed := true, recurses := true, named := ["lariat/lex.own"], apart := false, laid := [("lariat/lex.own", laid_lariat_lex_own)] }
def CmdValuesSaid : Prop := cmdValuesRow.holds Tryd.pinned (OpenSpec.ofChange cmdValuesSpec)

/-- ITS FALSE NEIGHBOUR: 'it returns false'. Refute it at one input. -/
def cmdValuesWrong : ChangeSpec := { name := "cmdValues", fn := fun _ => fun
  | [d1, d2, d3] => { results := [.lit (.bool false)], args := [d1, d2, d3] }
  | _ => none }
def CmdValuesWrongFalsely : Prop := cmdValuesRow.holds Tryd.pinned (OpenSpec.ofChange cmdValuesWrong)

/-- 'lariatlaw13.CmdSpoilt': WHATEVER THE INPUT: true; the input reads as it did. -/
def cmdSpoiltSpec : ChangeSpec := { name := "cmdSpoilt", fn := fun _ => fun
  | [d1, d2, d3] => { results := [.lit (.bool true)], args := [d1, d2, d3] }
  | _ => none }
def cmdSpoiltRow : OpenClaim := { program := "yteaboocppcbkiaadoor", sum := "1b3e30eae7b47cc393498f9a920f82fdffcdd3d032d49d2ac73ca6ff30d6d399", func := "lariat/lariatlaw13.CmdSpoilt", spec := "cmdSpoilt", unfollowed := true, recurses := true, named := ["lariat/lex.own"], apart := false, laid := [("lariat/lex.own", laid_lariat_lex_own)] }
def CmdSpoiltSaid : Prop := cmdSpoiltRow.holds Tryd.pinned (OpenSpec.ofChange cmdSpoiltSpec)

/-- ITS FALSE NEIGHBOUR: 'it returns false'. Refute it at one input. -/
def cmdSpoiltWrong : ChangeSpec := { name := "cmdSpoilt", fn := fun _ => fun
  | [d1, d2, d3] => { results := [.lit (.bool false)], args := [d1, d2, d3] }
  | _ => none }
def CmdSpoiltWrongFalsely : Prop := cmdSpoiltRow.holds Tryd.pinned (OpenSpec.ofChange cmdSpoiltWrong)

/- THE SECOND FORM. 'bulk': how many values and letters a reading holds, each counted each time it is reached (what is shared counts as often as it is met; a slice's spare places count too). A statement '..UptoSaid' is the law's where the arguments, and the package variables that the reading takes, are together of bulk at most 1048576: NARROWER than '..Said'. Prove '..Said' where nothing that the law and all that it calls make is longer than what came in: it says more and counts as full. Else prove '..UptoSaid'. A law counts once. -/
mutual
def uptoBulk {H : Type} : DataW H → Nat
  | .lit (.string bytes) => bytes.length + 1
  | .lit _ => 1
  | .nil => 1
  | .ptr d => uptoBulk d + 1
  | .slice elems spare => uptoBulkAll elems + uptoBulkAll spare + 1
  | .agg parts => uptoBulkAll parts + 1
  | .iface _ d => uptoBulk d + 1
  | .map entries => uptoBulkEntries entries + 1
  | .held _ => 1
def uptoBulkAll {H : Type} : List (DataW H) → Nat
  | [] => 0
  | d :: r => uptoBulk d + uptoBulkAll r
def uptoBulkEntries {H : Type} : List (Lit × DataW H) → Nat
  | [] => 0
  | x :: r => uptoBulkEntry x + uptoBulkEntries r
def uptoBulkEntry {H : Type} : Lit × DataW H → Nat
  | (.string bytes, d) => bytes.length + uptoBulk d + 1
  | (_, d) => uptoBulk d + 1
 end
def uptoSmall : (H : Type) → List (DataW H) → Bool := fun _ ds => decide (uptoBulkAll ds ≤ 1048576)
def OpenSpec.upto (s : _root_.Go.ChangeSpec) : _root_.Go.OpenSpec := { _root_.Go.OpenSpec.ofChange s with cond := some uptoSmall }

/-- 'lariatlaw13.CmdComms', WHERE WHAT IT READS IS OF BULK AT MOST 1048576: true; the input reads as it did. -/
def cmdCommsUptoRow : OpenClaim := { program := "yteaboocppcbkiaadoor", sum := "1b3e30eae7b47cc393498f9a920f82fdffcdd3d032d49d2ac73ca6ff30d6d399", func := "lariat/lariatlaw13.CmdComms", spec := "cmdComms", unfollowed := true, recurses := true, named := ["lariat/lex.own"], apart := false, laid := [("lariat/lex.own", laid_lariat_lex_own)], narrowed := true }
def CmdCommsUptoSaid : Prop := cmdCommsUptoRow.holds Tryd.pinned (OpenSpec.upto cmdCommsSpec)

/-- 'lariatlaw13.CmdParts', WHERE WHAT IT READS IS OF BULK AT MOST 1048576: true; the input reads as it did. -/
def cmdPartsUptoRow : OpenClaim := { program := "yteaboocppcbkiaadoor", sum := "1b3e30eae7b47cc393498f9a920f82fdffcdd3d032d49d2ac73ca6ff30d6d399", func := "lariat/lariatlaw13.CmdParts", spec := "cmdParts", unfollowed := true, recurses := true, named := ["lariat/lex.own"], apart := false, laid := [("lariat/lex.own", laid_lariat_lex_own)], narrowed := true }
def CmdPartsUptoSaid : Prop := cmdPartsUptoRow.holds Tryd.pinned (OpenSpec.upto cmdPartsSpec)

/-- 'lariatlaw13.CmdValues', WHERE WHAT IT READS IS OF BULK AT MOST 1048576: true; the input reads as it did. -/
def cmdValuesUptoRow : OpenClaim := { program := "yteaboocppcbkiaadoor", sum := "1b3e30eae7b47cc393498f9a920f82fdffcdd3d032d49d2ac73ca6ff30d6d399", func := "lariat/lariatlaw13.CmdValues", spec := "cmdValues", unfollowed := true, recurses := true, named := ["lariat/lex.own"], apart := false, laid := [("lariat/lex.own", laid_lariat_lex_own)], narrowed := true }
def CmdValuesUptoSaid : Prop := cmdValuesUptoRow.holds Tryd.pinned (OpenSpec.upto cmdValuesSpec)

/-- 'lariatlaw13.CmdSpoilt', WHERE WHAT IT READS IS OF BULK AT MOST 1048576: true; the input reads as it did. -/
def cmdSpoiltUptoRow : OpenClaim := { program := "yteaboocppcbkiaadoor", sum := "1b3e30eae7b47cc393498f9a920f82fdffcdd3d032d49d2ac73ca6ff30d6d399", func := "lariat/lariatlaw13.CmdSpoilt", spec := "cmdSpoilt", unfollowed := true, recurses := true, named := ["lariat/lex.own"], apart := false, laid := [("lariat/lex.own", laid_lariat_lex_own)], narrowed := true }
def CmdSpoiltUptoSaid : Prop := cmdSpoiltUptoRow.holds Tryd.pinned (OpenSpec.upto cmdSpoiltSpec)

end Rows
end Go.Proofs.YteaboocppcbkiaaDoor
