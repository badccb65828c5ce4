/-
  NARROWER THAN 'FOR EVERY INPUT', by the rows' own cells (each row's printed sentence says how): DeclScalars: laid · DeclVars: laid · DeclChans: laid · DeclCells: laid · DeclParts: laid · DeclNames: laid.
  DERIVED. THE GIVEN ROWS OF THIS SEAT. 6 by the template 'for every input the law returns true; each argument reads behind the call as it read before'; 0 by the template 'total and deterministic' (their statements: YtoakjdilnkjcgaaDoorTotals.lean).
  GIVEN WITH THE SEED: the statements are not yours to turn. If you find one false, say at which input.
  Laid BY PROGRAM, IN A SANDBOX (cutbox-rows.mjs): the forced cells as the released guide's own fill.sh prints them over the translation aa7c382d325919d9… (all of the seat's roots in one cut). By AI agents, Wed Nov 11 2026. No macro, syntax, notation, axiom, sorry.
-/
import Derived.Test.YtoakjdilnkjcgaaDoorChecked
import GoSem.Claim
import GoSem.ClaimJoined
import GoSem.ClaimMapViews
import Derived.JoinedTies
import Derived.KernelRfl
namespace Go.Proofs.YtoakjdilnkjcgaaDoor
/- THE CELL 'sum', in the pinned program and in every row, IS THE sha256 OF THE DUMP (.gsa) THAT YtoakjdilnkjcgaaDoorProg.lean LOADS. Nothing in Lean hashes anything: it is a label: what it is worth is what the hold of that sum in a sandbox is worth. -/
noncomputable def Tryd.pinned : Pinned := { name := "ytoakjdilnkjcgaadoor", sum := "aa7c382d325919d9c723536d94e6ae754c309142a5d29bac52af59fba6eb4473", checked := Tryd.checked }
namespace Rows
def none {H : Type} : Left H := { results := [], args := [] }

/- WHAT THE LISTED PACKAGE-LEVEL VARIABLES READ AS WHEN THE CALL BEGINS. Each datum BY PROGRAM (the guide's laid-datum.mjs) off the statement by which the dump's own 'gosem.cut.vars' lays the variable. In a bare row this is a premise. The card (YtoakjdilnkjcgaaDoorCards.lean) ties it to the program's text. -/
def laid_lariat_lex_own {H : Type} : DataW H := .agg [.lit (.string [115, 101, 108, 102]), .lit (.string [110, 111, 110, 101]), .lit (.string [108, 101, 110]), .lit (.string [97, 116])]

/-- 'lariatlaw12.DeclScalars': WHATEVER THE INPUT: true; the input reads as it did. -/
def declScalarsSpec : ChangeSpec := { name := "declScalars", fn := fun _ => fun
  | [d] => { results := [.lit (.bool true)], args := [d] }
  | _ => none }
def declScalarsRow : OpenClaim := { program := "ytoakjdilnkjcgaadoor", sum := "aa7c382d325919d9c723536d94e6ae754c309142a5d29bac52af59fba6eb4473", func := "lariat/lariatlaw12.DeclScalars", spec := "declScalars", unfollowed := true, recurses := true, named := ["lariat/lex.own"], apart := false, laid := [("lariat/lex.own", laid_lariat_lex_own)] }
def DeclScalarsSaid : Prop := declScalarsRow.holds Tryd.pinned (OpenSpec.ofChange declScalarsSpec)

/-- ITS FALSE NEIGHBOUR: 'it returns false'. Refute it at one input. -/
def declScalarsWrong : ChangeSpec := { name := "declScalars", fn := fun _ => fun
  | [d] => { results := [.lit (.bool false)], args := [d] }
  | _ => none }
def DeclScalarsWrongFalsely : Prop := declScalarsRow.holds Tryd.pinned (OpenSpec.ofChange declScalarsWrong)

/-- 'lariatlaw12.DeclVars': WHATEVER THE INPUT: true; the input reads as it did. -/
def declVarsSpec : ChangeSpec := { name := "declVars", fn := fun _ => fun
  | [d1, d2, d3] => { results := [.lit (.bool true)], args := [d1, d2, d3] }
  | _ => none }
def declVarsRow : OpenClaim := { program := "ytoakjdilnkjcgaadoor", sum := "aa7c382d325919d9c723536d94e6ae754c309142a5d29bac52af59fba6eb4473", func := "lariat/lariatlaw12.DeclVars", spec := "declVars", unfollowed := true, recurses := true, named := ["lariat/lex.own"], apart := false, laid := [("lariat/lex.own", laid_lariat_lex_own)] }
def DeclVarsSaid : Prop := declVarsRow.holds Tryd.pinned (OpenSpec.ofChange declVarsSpec)

/-- ITS FALSE NEIGHBOUR: 'it returns false'. Refute it at one input. -/
def declVarsWrong : ChangeSpec := { name := "declVars", fn := fun _ => fun
  | [d1, d2, d3] => { results := [.lit (.bool false)], args := [d1, d2, d3] }
  | _ => none }
def DeclVarsWrongFalsely : Prop := declVarsRow.holds Tryd.pinned (OpenSpec.ofChange declVarsWrong)

/-- 'lariatlaw12.DeclChans': WHATEVER THE INPUT: true; the input reads as it did. -/
def declChansSpec : ChangeSpec := { name := "declChans", fn := fun _ => fun
  | [d1, d2] => { results := [.lit (.bool true)], args := [d1, d2] }
  | _ => none }
def declChansRow : OpenClaim := { program := "ytoakjdilnkjcgaadoor", sum := "aa7c382d325919d9c723536d94e6ae754c309142a5d29bac52af59fba6eb4473", func := "lariat/lariatlaw12.DeclChans", spec := "declChans", unfollowed := true, recurses := true, named := ["lariat/lex.own"], apart := false, laid := [("lariat/lex.own", laid_lariat_lex_own)] }
def DeclChansSaid : Prop := declChansRow.holds Tryd.pinned (OpenSpec.ofChange declChansSpec)

/-- ITS FALSE NEIGHBOUR: 'it returns false'. Refute it at one input. -/
def declChansWrong : ChangeSpec := { name := "declChans", fn := fun _ => fun
  | [d1, d2] => { results := [.lit (.bool false)], args := [d1, d2] }
  | _ => none }
def DeclChansWrongFalsely : Prop := declChansRow.holds Tryd.pinned (OpenSpec.ofChange declChansWrong)

/-- 'lariatlaw12.DeclCells': WHATEVER THE INPUT: true; the input reads as it did. -/
def declCellsSpec : ChangeSpec := { name := "declCells", fn := fun _ => fun
  | [d1, d2] => { results := [.lit (.bool true)], args := [d1, d2] }
  | _ => none }
def declCellsRow : OpenClaim := { program := "ytoakjdilnkjcgaadoor", sum := "aa7c382d325919d9c723536d94e6ae754c309142a5d29bac52af59fba6eb4473", func := "lariat/lariatlaw12.DeclCells", spec := "declCells", unfollowed := true, recurses := true, named := ["lariat/lex.own"], apart := false, laid := [("lariat/lex.own", laid_lariat_lex_own)] }
def DeclCellsSaid : Prop := declCellsRow.holds Tryd.pinned (OpenSpec.ofChange declCellsSpec)

/-- ITS FALSE NEIGHBOUR: 'it returns false'. Refute it at one input. -/
def declCellsWrong : ChangeSpec := { name := "declCells", fn := fun _ => fun
  | [d1, d2] => { results := [.lit (.bool false)], args := [d1, d2] }
  | _ => none }
def DeclCellsWrongFalsely : Prop := declCellsRow.holds Tryd.pinned (OpenSpec.ofChange declCellsWrong)

/-- 'lariatlaw12.DeclParts': WHATEVER THE INPUT: true; the input reads as it did. -/
def declPartsSpec : ChangeSpec := { name := "declParts", fn := fun _ => fun
  | [d1, d2, d3, d4] => { results := [.lit (.bool true)], args := [d1, d2, d3, d4] }
  | _ => none }
def declPartsRow : OpenClaim := { program := "ytoakjdilnkjcgaadoor", sum := "aa7c382d325919d9c723536d94e6ae754c309142a5d29bac52af59fba6eb4473", func := "lariat/lariatlaw12.DeclParts", spec := "declParts", unfollowed := true, recurses := true, named := ["lariat/lex.own"], apart := false, laid := [("lariat/lex.own", laid_lariat_lex_own)] }
def DeclPartsSaid : Prop := declPartsRow.holds Tryd.pinned (OpenSpec.ofChange declPartsSpec)

/-- ITS FALSE NEIGHBOUR: 'it returns false'. Refute it at one input. -/
def declPartsWrong : ChangeSpec := { name := "declParts", fn := fun _ => fun
  | [d1, d2, d3, d4] => { results := [.lit (.bool false)], args := [d1, d2, d3, d4] }
  | _ => none }
def DeclPartsWrongFalsely : Prop := declPartsRow.holds Tryd.pinned (OpenSpec.ofChange declPartsWrong)

/-- 'lariatlaw12.DeclNames': WHATEVER THE INPUT: true; the input reads as it did. -/
def declNamesSpec : ChangeSpec := { name := "declNames", fn := fun _ => fun
  | [d] => { results := [.lit (.bool true)], args := [d] }
  | _ => none }
def declNamesRow : OpenClaim := { program := "ytoakjdilnkjcgaadoor", sum := "aa7c382d325919d9c723536d94e6ae754c309142a5d29bac52af59fba6eb4473", func := "lariat/lariatlaw12.DeclNames", spec := "declNames", unfollowed := true, recurses := true, named := ["lariat/lex.own"], apart := false, laid := [("lariat/lex.own", laid_lariat_lex_own)] }
def DeclNamesSaid : Prop := declNamesRow.holds Tryd.pinned (OpenSpec.ofChange declNamesSpec)

/-- ITS FALSE NEIGHBOUR: 'it returns false'. Refute it at one input. -/
def declNamesWrong : ChangeSpec := { name := "declNames", fn := fun _ => fun
  | [d] => { results := [.lit (.bool false)], args := [d] }
  | _ => none }
def DeclNamesWrongFalsely : Prop := declNamesRow.holds Tryd.pinned (OpenSpec.ofChange declNamesWrong)

/- THE SECOND FORM. 'bulk': how many values and letters a reading holds, each counted each time it is reached (what is shared counts as often as it is met; a slice's spare places count too). A statement '..UptoSaid' is the law's where the arguments, and the package variables that the reading takes, are together of bulk at most 1048576: NARROWER than '..Said'. Prove '..Said' where nothing that the law and all that it calls make is longer than what came in: it says more and counts as full. Else prove '..UptoSaid'. A law counts once. -/
mutual
def uptoBulk {H : Type} : DataW H → Nat
  | .lit (.string bytes) => bytes.length + 1
  | .lit _ => 1
  | .nil => 1
  | .ptr d => uptoBulk d + 1
  | .slice elems spare => uptoBulkAll elems + uptoBulkAll spare + 1
  | .agg parts => uptoBulkAll parts + 1
  | .iface _ d => uptoBulk d + 1
  | .map entries => uptoBulkEntries entries + 1
  | .held _ => 1
def uptoBulkAll {H : Type} : List (DataW H) → Nat
  | [] => 0
  | d :: r => uptoBulk d + uptoBulkAll r
def uptoBulkEntries {H : Type} : List (Lit × DataW H) → Nat
  | [] => 0
  | x :: r => uptoBulkEntry x + uptoBulkEntries r
def uptoBulkEntry {H : Type} : Lit × DataW H → Nat
  | (.string bytes, d) => bytes.length + uptoBulk d + 1
  | (_, d) => uptoBulk d + 1
 end
def uptoSmall : (H : Type) → List (DataW H) → Bool := fun _ ds => decide (uptoBulkAll ds ≤ 1048576)
def OpenSpec.upto (s : _root_.Go.ChangeSpec) : _root_.Go.OpenSpec := { _root_.Go.OpenSpec.ofChange s with cond := some uptoSmall }

/-- 'lariatlaw12.DeclScalars', WHERE WHAT IT READS IS OF BULK AT MOST 1048576: true; the input reads as it did. -/
def declScalarsUptoRow : OpenClaim := { program := "ytoakjdilnkjcgaadoor", sum := "aa7c382d325919d9c723536d94e6ae754c309142a5d29bac52af59fba6eb4473", func := "lariat/lariatlaw12.DeclScalars", spec := "declScalars", unfollowed := true, recurses := true, named := ["lariat/lex.own"], apart := false, laid := [("lariat/lex.own", laid_lariat_lex_own)], narrowed := true }
def DeclScalarsUptoSaid : Prop := declScalarsUptoRow.holds Tryd.pinned (OpenSpec.upto declScalarsSpec)

/-- 'lariatlaw12.DeclVars', WHERE WHAT IT READS IS OF BULK AT MOST 1048576: true; the input reads as it did. -/
def declVarsUptoRow : OpenClaim := { program := "ytoakjdilnkjcgaadoor", sum := "aa7c382d325919d9c723536d94e6ae754c309142a5d29bac52af59fba6eb4473", func := "lariat/lariatlaw12.DeclVars", spec := "declVars", unfollowed := true, recurses := true, named := ["lariat/lex.own"], apart := false, laid := [("lariat/lex.own", laid_lariat_lex_own)], narrowed := true }
def DeclVarsUptoSaid : Prop := declVarsUptoRow.holds Tryd.pinned (OpenSpec.upto declVarsSpec)

/-- 'lariatlaw12.DeclChans', WHERE WHAT IT READS IS OF BULK AT MOST 1048576: true; the input reads as it did. -/
def declChansUptoRow : OpenClaim := { program := "ytoakjdilnkjcgaadoor", sum := "aa7c382d325919d9c723536d94e6ae754c309142a5d29bac52af59fba6eb4473", func := "lariat/lariatlaw12.DeclChans", spec := "declChans", unfollowed := true, recurses := true, named := ["lariat/lex.own"], apart := false, laid := [("lariat/lex.own", laid_lariat_lex_own)], narrowed := true }
def DeclChansUptoSaid : Prop := declChansUptoRow.holds Tryd.pinned (OpenSpec.upto declChansSpec)

/-- 'lariatlaw12.DeclCells', WHERE WHAT IT READS IS OF BULK AT MOST 1048576: true; the input reads as it did. -/
def declCellsUptoRow : OpenClaim := { program := "ytoakjdilnkjcgaadoor", sum := "aa7c382d325919d9c723536d94e6ae754c309142a5d29bac52af59fba6eb4473", func := "lariat/lariatlaw12.DeclCells", spec := "declCells", unfollowed := true, recurses := true, named := ["lariat/lex.own"], apart := false, laid := [("lariat/lex.own", laid_lariat_lex_own)], narrowed := true }
def DeclCellsUptoSaid : Prop := declCellsUptoRow.holds Tryd.pinned (OpenSpec.upto declCellsSpec)

/-- 'lariatlaw12.DeclParts', WHERE WHAT IT READS IS OF BULK AT MOST 1048576: true; the input reads as it did. -/
def declPartsUptoRow : OpenClaim := { program := "ytoakjdilnkjcgaadoor", sum := "aa7c382d325919d9c723536d94e6ae754c309142a5d29bac52af59fba6eb4473", func := "lariat/lariatlaw12.DeclParts", spec := "declParts", unfollowed := true, recurses := true, named := ["lariat/lex.own"], apart := false, laid := [("lariat/lex.own", laid_lariat_lex_own)], narrowed := true }
def DeclPartsUptoSaid : Prop := declPartsUptoRow.holds Tryd.pinned (OpenSpec.upto declPartsSpec)

/-- 'lariatlaw12.DeclNames', WHERE WHAT IT READS IS OF BULK AT MOST 1048576: true; the input reads as it did. -/
def declNamesUptoRow : OpenClaim := { program := "ytoakjdilnkjcgaadoor", sum := "aa7c382d325919d9c723536d94e6ae754c309142a5d29bac52af59fba6eb4473", func := "lariat/lariatlaw12.DeclNames", spec := "declNames", unfollowed := true, recurses := true, named := ["lariat/lex.own"], apart := false, laid := [("lariat/lex.own", laid_lariat_lex_own)], narrowed := true }
def DeclNamesUptoSaid : Prop := declNamesUptoRow.holds Tryd.pinned (OpenSpec.upto declNamesSpec)

end Rows
end Go.Proofs.YtoakjdilnkjcgaaDoor
