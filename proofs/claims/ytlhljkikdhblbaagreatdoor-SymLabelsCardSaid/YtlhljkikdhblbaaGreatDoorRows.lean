/-
  NARROWER THAN 'FOR EVERY INPUT', by the rows' own cells (each row's printed sentence says how): SymGroup: laid · SymActs: laid · SymCanon: laid · SymMoves: laid · SymLabels: laid · SymLifts: laid · SymRuns: laid.
  DERIVED. THE GIVEN ROWS OF THIS SEAT. 7 by the template 'for every input the law returns true; each argument reads behind the call as it read before'; 0 by the template 'total and deterministic' (their statements: YtlhljkikdhblbaaGreatDoorTotals.lean).
  GIVEN WITH THE SEED: the statements are not yours to turn. If you find one false, say at which input.
  Laid BY PROGRAM, IN A SANDBOX (cutbox-rows.mjs): the forced cells as the released guide's own fill.sh prints them over the translation 2d03ee6a4391a979… (all of the seat's roots in one cut). By AI agents, Wed Nov 11 2026. No macro, syntax, notation, axiom, sorry.
-/
import Derived.Test.YtlhljkikdhblbaaGreatDoorChecked
import GoSem.Claim
import GoSem.ClaimJoined
import GoSem.ClaimMapViews
import Derived.JoinedTies
import Derived.KernelRfl
namespace Go.Proofs.YtlhljkikdhblbaaGreatDoor
/- THE CELL 'sum', in the pinned program and in every row, IS THE sha256 OF THE DUMP (.gsa) THAT YtlhljkikdhblbaaGreatDoorProg.lean LOADS. Nothing in Lean hashes anything: it is a label: what it is worth is what the hold of that sum in a sandbox is worth. -/
noncomputable def Tryz.pinned : Pinned := { name := "ytlhljkikdhblbaagreatdoor", sum := "2d03ee6a4391a979820a9765d989b0120c30317a20a233dfaac8c1cbcc267b23", checked := Tryz.checked }
namespace Rows
def none {H : Type} : Left H := { results := [], args := [] }

/- WHAT THE LISTED PACKAGE-LEVEL VARIABLES READ AS WHEN THE CALL BEGINS. Each datum BY PROGRAM (the guide's laid-datum.mjs) off the statement by which the dump's own 'gosem.cut.vars' lays the variable. In a bare row this is a premise. The card (YtlhljkikdhblbaaGreatDoorCards.lean) ties it to the program's text. -/
def laid_lariat_lex_own {H : Type} : DataW H := .agg [.lit (.string [115, 101, 108, 102]), .lit (.string [110, 111, 110, 101]), .lit (.string [108, 101, 110]), .lit (.string [97, 116])]

/-- 'lariatlaw44.SymGroup': WHATEVER THE INPUT: true; the input reads as it did. -/
def symGroupSpec : ChangeSpec := { name := "symGroup", fn := fun _ => fun
  | [d] => { results := [.lit (.bool true)], args := [d] }
  | _ => none }
def symGroupRow : OpenClaim := { program := "ytlhljkikdhblbaagreatdoor", sum := "2d03ee6a4391a979820a9765d989b0120c30317a20a233dfaac8c1cbcc267b23", func := "lariat/lariatlaw44.SymGroup", spec := "symGroup", unfollowed := true, recurses := true, named := ["lariat/lex.own"], apart := false, laid := [("lariat/lex.own", laid_lariat_lex_own)] }
def SymGroupSaid : Prop := symGroupRow.holds Tryz.pinned (OpenSpec.ofChange symGroupSpec)

/-- ITS FALSE NEIGHBOUR: 'it returns false'. Refute it at one input. -/
def symGroupWrong : ChangeSpec := { name := "symGroup", fn := fun _ => fun
  | [d] => { results := [.lit (.bool false)], args := [d] }
  | _ => none }
def SymGroupWrongFalsely : Prop := symGroupRow.holds Tryz.pinned (OpenSpec.ofChange symGroupWrong)

/-- 'lariatlaw44.SymActs': WHATEVER THE INPUT: true; the input reads as it did. -/
def symActsSpec : ChangeSpec := { name := "symActs", fn := fun _ => fun
  | [d1, d2, d3] => { results := [.lit (.bool true)], args := [d1, d2, d3] }
  | _ => none }
def symActsRow : OpenClaim := { program := "ytlhljkikdhblbaagreatdoor", sum := "2d03ee6a4391a979820a9765d989b0120c30317a20a233dfaac8c1cbcc267b23", func := "lariat/lariatlaw44.SymActs", spec := "symActs", unfollowed := true, recurses := true, named := ["lariat/lex.own"], apart := false, laid := [("lariat/lex.own", laid_lariat_lex_own)] }
def SymActsSaid : Prop := symActsRow.holds Tryz.pinned (OpenSpec.ofChange symActsSpec)

/-- ITS FALSE NEIGHBOUR: 'it returns false'. Refute it at one input. -/
def symActsWrong : ChangeSpec := { name := "symActs", fn := fun _ => fun
  | [d1, d2, d3] => { results := [.lit (.bool false)], args := [d1, d2, d3] }
  | _ => none }
def SymActsWrongFalsely : Prop := symActsRow.holds Tryz.pinned (OpenSpec.ofChange symActsWrong)

/-- 'lariatlaw44.SymCanon': WHATEVER THE INPUT: true; the input reads as it did. -/
def symCanonSpec : ChangeSpec := { name := "symCanon", fn := fun _ => fun
  | [d1, d2, d3] => { results := [.lit (.bool true)], args := [d1, d2, d3] }
  | _ => none }
def symCanonRow : OpenClaim := { program := "ytlhljkikdhblbaagreatdoor", sum := "2d03ee6a4391a979820a9765d989b0120c30317a20a233dfaac8c1cbcc267b23", func := "lariat/lariatlaw44.SymCanon", spec := "symCanon", unfollowed := true, recurses := true, named := ["lariat/lex.own"], apart := false, laid := [("lariat/lex.own", laid_lariat_lex_own)] }
def SymCanonSaid : Prop := symCanonRow.holds Tryz.pinned (OpenSpec.ofChange symCanonSpec)

/-- ITS FALSE NEIGHBOUR: 'it returns false'. Refute it at one input. -/
def symCanonWrong : ChangeSpec := { name := "symCanon", fn := fun _ => fun
  | [d1, d2, d3] => { results := [.lit (.bool false)], args := [d1, d2, d3] }
  | _ => none }
def SymCanonWrongFalsely : Prop := symCanonRow.holds Tryz.pinned (OpenSpec.ofChange symCanonWrong)

/-- 'lariatlaw44.SymMoves': WHATEVER THE INPUT: true; the input reads as it did. -/
def symMovesSpec : ChangeSpec := { name := "symMoves", fn := fun _ => fun
  | [d1, d2, d3] => { results := [.lit (.bool true)], args := [d1, d2, d3] }
  | _ => none }
def symMovesRow : OpenClaim := { program := "ytlhljkikdhblbaagreatdoor", sum := "2d03ee6a4391a979820a9765d989b0120c30317a20a233dfaac8c1cbcc267b23", func := "lariat/lariatlaw44.SymMoves", spec := "symMoves", unfollowed := true, recurses := true, named := ["lariat/lex.own"], apart := false, laid := [("lariat/lex.own", laid_lariat_lex_own)] }
def SymMovesSaid : Prop := symMovesRow.holds Tryz.pinned (OpenSpec.ofChange symMovesSpec)

/-- ITS FALSE NEIGHBOUR: 'it returns false'. Refute it at one input. -/
def symMovesWrong : ChangeSpec := { name := "symMoves", fn := fun _ => fun
  | [d1, d2, d3] => { results := [.lit (.bool false)], args := [d1, d2, d3] }
  | _ => none }
def SymMovesWrongFalsely : Prop := symMovesRow.holds Tryz.pinned (OpenSpec.ofChange symMovesWrong)

/-- 'lariatlaw44.SymLabels': WHATEVER THE INPUT: true; the input reads as it did. -/
def symLabelsSpec : ChangeSpec := { name := "symLabels", fn := fun _ => fun
  | [d1, d2, d3] => { results := [.lit (.bool true)], args := [d1, d2, d3] }
  | _ => none }
def symLabelsRow : OpenClaim := { program := "ytlhljkikdhblbaagreatdoor", sum := "2d03ee6a4391a979820a9765d989b0120c30317a20a233dfaac8c1cbcc267b23", func := "lariat/lariatlaw44.SymLabels", spec := "symLabels", unfollowed := true, recurses := true, named := ["lariat/lex.own"], apart := false, laid := [("lariat/lex.own", laid_lariat_lex_own)] }
def SymLabelsSaid : Prop := symLabelsRow.holds Tryz.pinned (OpenSpec.ofChange symLabelsSpec)

/-- ITS FALSE NEIGHBOUR: 'it returns false'. Refute it at one input. -/
def symLabelsWrong : ChangeSpec := { name := "symLabels", fn := fun _ => fun
  | [d1, d2, d3] => { results := [.lit (.bool false)], args := [d1, d2, d3] }
  | _ => none }
def SymLabelsWrongFalsely : Prop := symLabelsRow.holds Tryz.pinned (OpenSpec.ofChange symLabelsWrong)

/-- 'lariatlaw44.SymLifts': WHATEVER THE INPUT: true; the input reads as it did. -/
def symLiftsSpec : ChangeSpec := { name := "symLifts", fn := fun _ => fun
  | [d1, d2] => { results := [.lit (.bool true)], args := [d1, d2] }
  | _ => none }
def symLiftsRow : OpenClaim := { program := "ytlhljkikdhblbaagreatdoor", sum := "2d03ee6a4391a979820a9765d989b0120c30317a20a233dfaac8c1cbcc267b23", func := "lariat/lariatlaw44.SymLifts", spec := "symLifts", unfollowed := true, recurses := true, named := ["lariat/lex.own"], apart := false, laid := [("lariat/lex.own", laid_lariat_lex_own)] }
def SymLiftsSaid : Prop := symLiftsRow.holds Tryz.pinned (OpenSpec.ofChange symLiftsSpec)

/-- ITS FALSE NEIGHBOUR: 'it returns false'. Refute it at one input. -/
def symLiftsWrong : ChangeSpec := { name := "symLifts", fn := fun _ => fun
  | [d1, d2] => { results := [.lit (.bool false)], args := [d1, d2] }
  | _ => none }
def SymLiftsWrongFalsely : Prop := symLiftsRow.holds Tryz.pinned (OpenSpec.ofChange symLiftsWrong)

/-- 'lariatlaw44.SymRuns': WHATEVER THE INPUT: true; the input reads as it did. -/
def symRunsSpec : ChangeSpec := { name := "symRuns", fn := fun _ => fun
  | [d1, d2] => { results := [.lit (.bool true)], args := [d1, d2] }
  | _ => none }
def symRunsRow : OpenClaim := { program := "ytlhljkikdhblbaagreatdoor", sum := "2d03ee6a4391a979820a9765d989b0120c30317a20a233dfaac8c1cbcc267b23", func := "lariat/lariatlaw44.SymRuns", spec := "symRuns", unfollowed := true, recurses := true, named := ["lariat/lex.own"], apart := false, laid := [("lariat/lex.own", laid_lariat_lex_own)] }
def SymRunsSaid : Prop := symRunsRow.holds Tryz.pinned (OpenSpec.ofChange symRunsSpec)

/-- ITS FALSE NEIGHBOUR: 'it returns false'. Refute it at one input. -/
def symRunsWrong : ChangeSpec := { name := "symRuns", fn := fun _ => fun
  | [d1, d2] => { results := [.lit (.bool false)], args := [d1, d2] }
  | _ => none }
def SymRunsWrongFalsely : Prop := symRunsRow.holds Tryz.pinned (OpenSpec.ofChange symRunsWrong)

/- THE SECOND FORM. 'bulk': how many values and letters a reading holds, each counted each time it is reached (what is shared counts as often as it is met; a slice's spare places count too). A statement '..UptoSaid' is the law's where the arguments, and the package variables that the reading takes, are together of bulk at most 1048576: NARROWER than '..Said'. Prove '..Said' where nothing that the law and all that it calls make is longer than what came in: it says more and counts as full. Else prove '..UptoSaid'. A law counts once. -/
mutual
def uptoBulk {H : Type} : DataW H → Nat
  | .lit (.string bytes) => bytes.length + 1
  | .lit _ => 1
  | .nil => 1
  | .ptr d => uptoBulk d + 1
  | .slice elems spare => uptoBulkAll elems + uptoBulkAll spare + 1
  | .agg parts => uptoBulkAll parts + 1
  | .iface _ d => uptoBulk d + 1
  | .map entries => uptoBulkEntries entries + 1
  | .held _ => 1
def uptoBulkAll {H : Type} : List (DataW H) → Nat
  | [] => 0
  | d :: r => uptoBulk d + uptoBulkAll r
def uptoBulkEntries {H : Type} : List (Lit × DataW H) → Nat
  | [] => 0
  | x :: r => uptoBulkEntry x + uptoBulkEntries r
def uptoBulkEntry {H : Type} : Lit × DataW H → Nat
  | (.string bytes, d) => bytes.length + uptoBulk d + 1
  | (_, d) => uptoBulk d + 1
 end
def uptoSmall : (H : Type) → List (DataW H) → Bool := fun _ ds => decide (uptoBulkAll ds ≤ 1048576)
def OpenSpec.upto (s : _root_.Go.ChangeSpec) : _root_.Go.OpenSpec := { _root_.Go.OpenSpec.ofChange s with cond := some uptoSmall }

/-- 'lariatlaw44.SymGroup', WHERE WHAT IT READS IS OF BULK AT MOST 1048576: true; the input reads as it did. -/
def symGroupUptoRow : OpenClaim := { program := "ytlhljkikdhblbaagreatdoor", sum := "2d03ee6a4391a979820a9765d989b0120c30317a20a233dfaac8c1cbcc267b23", func := "lariat/lariatlaw44.SymGroup", spec := "symGroup", unfollowed := true, recurses := true, named := ["lariat/lex.own"], apart := false, laid := [("lariat/lex.own", laid_lariat_lex_own)], narrowed := true }
def SymGroupUptoSaid : Prop := symGroupUptoRow.holds Tryz.pinned (OpenSpec.upto symGroupSpec)

/-- 'lariatlaw44.SymActs', WHERE WHAT IT READS IS OF BULK AT MOST 1048576: true; the input reads as it did. -/
def symActsUptoRow : OpenClaim := { program := "ytlhljkikdhblbaagreatdoor", sum := "2d03ee6a4391a979820a9765d989b0120c30317a20a233dfaac8c1cbcc267b23", func := "lariat/lariatlaw44.SymActs", spec := "symActs", unfollowed := true, recurses := true, named := ["lariat/lex.own"], apart := false, laid := [("lariat/lex.own", laid_lariat_lex_own)], narrowed := true }
def SymActsUptoSaid : Prop := symActsUptoRow.holds Tryz.pinned (OpenSpec.upto symActsSpec)

/-- 'lariatlaw44.SymCanon', WHERE WHAT IT READS IS OF BULK AT MOST 1048576: true; the input reads as it did. -/
def symCanonUptoRow : OpenClaim := { program := "ytlhljkikdhblbaagreatdoor", sum := "2d03ee6a4391a979820a9765d989b0120c30317a20a233dfaac8c1cbcc267b23", func := "lariat/lariatlaw44.SymCanon", spec := "symCanon", unfollowed := true, recurses := true, named := ["lariat/lex.own"], apart := false, laid := [("lariat/lex.own", laid_lariat_lex_own)], narrowed := true }
def SymCanonUptoSaid : Prop := symCanonUptoRow.holds Tryz.pinned (OpenSpec.upto symCanonSpec)

/-- 'lariatlaw44.SymMoves', WHERE WHAT IT READS IS OF BULK AT MOST 1048576: true; the input reads as it did. -/
def symMovesUptoRow : OpenClaim := { program := "ytlhljkikdhblbaagreatdoor", sum := "2d03ee6a4391a979820a9765d989b0120c30317a20a233dfaac8c1cbcc267b23", func := "lariat/lariatlaw44.SymMoves", spec := "symMoves", unfollowed := true, recurses := true, named := ["lariat/lex.own"], apart := false, laid := [("lariat/lex.own", laid_lariat_lex_own)], narrowed := true }
def SymMovesUptoSaid : Prop := symMovesUptoRow.holds Tryz.pinned (OpenSpec.upto symMovesSpec)

/-- 'lariatlaw44.SymLabels', WHERE WHAT IT READS IS OF BULK AT MOST 1048576: true; the input reads as it did. -/
def symLabelsUptoRow : OpenClaim := { program := "ytlhljkikdhblbaagreatdoor", sum := "2d03ee6a4391a979820a9765d989b0120c30317a20a233dfaac8c1cbcc267b23", func := "lariat/lariatlaw44.SymLabels", spec := "symLabels", unfollowed := true, recurses := true, named := ["lariat/lex.own"], apart := false, laid := [("lariat/lex.own", laid_lariat_lex_own)], narrowed := true }
def SymLabelsUptoSaid : Prop := symLabelsUptoRow.holds Tryz.pinned (OpenSpec.upto symLabelsSpec)

/-- 'lariatlaw44.SymLifts', WHERE WHAT IT READS IS OF BULK AT MOST 1048576: true; the input reads as it did. -/
def symLiftsUptoRow : OpenClaim := { program := "ytlhljkikdhblbaagreatdoor", sum := "2d03ee6a4391a979820a9765d989b0120c30317a20a233dfaac8c1cbcc267b23", func := "lariat/lariatlaw44.SymLifts", spec := "symLifts", unfollowed := true, recurses := true, named := ["lariat/lex.own"], apart := false, laid := [("lariat/lex.own", laid_lariat_lex_own)], narrowed := true }
def SymLiftsUptoSaid : Prop := symLiftsUptoRow.holds Tryz.pinned (OpenSpec.upto symLiftsSpec)

/-- 'lariatlaw44.SymRuns', WHERE WHAT IT READS IS OF BULK AT MOST 1048576: true; the input reads as it did. -/
def symRunsUptoRow : OpenClaim := { program := "ytlhljkikdhblbaagreatdoor", sum := "2d03ee6a4391a979820a9765d989b0120c30317a20a233dfaac8c1cbcc267b23", func := "lariat/lariatlaw44.SymRuns", spec := "symRuns", unfollowed := true, recurses := true, named := ["lariat/lex.own"], apart := false, laid := [("lariat/lex.own", laid_lariat_lex_own)], narrowed := true }
def SymRunsUptoSaid : Prop := symRunsUptoRow.holds Tryz.pinned (OpenSpec.upto symRunsSpec)

end Rows
end Go.Proofs.YtlhljkikdhblbaaGreatDoor
