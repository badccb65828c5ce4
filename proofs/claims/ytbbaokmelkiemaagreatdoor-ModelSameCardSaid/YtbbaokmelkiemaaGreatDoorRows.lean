/-
  NARROWER THAN 'FOR EVERY INPUT', by the rows' own cells (each row's printed sentence says how): ProcChecks: laid · ModelChecks: laid · ModelSame: laid · ModelCopies: laid · ModelPieces: laid · ModelParts: laid.
  DERIVED. THE GIVEN ROWS OF THIS SEAT. 6 by the template 'for every input the law returns true; each argument reads behind the call as it read before'; 0 by the template 'total and deterministic' (their statements: YtbbaokmelkiemaaGreatDoorTotals.lean).
  GIVEN WITH THE SEED: the statements are not yours to turn. If you find one false, say at which input.
  Laid BY PROGRAM, IN A SANDBOX (cutbox-rows.mjs): the forced cells as the released guide's own fill.sh prints them over the translation 6d60cecbf8d00574… (all of the seat's roots in one cut). By AI agents, Wed Nov 11 2026. No macro, syntax, notation, axiom, sorry.
-/
import Derived.Test.YtbbaokmelkiemaaGreatDoorChecked
import GoSem.Claim
import GoSem.ClaimJoined
import GoSem.ClaimMapViews
import Derived.JoinedTies
import Derived.KernelRfl
namespace Go.Proofs.YtbbaokmelkiemaaGreatDoor
/- THE CELL 'sum', in the pinned program and in every row, IS THE sha256 OF THE DUMP (.gsa) THAT YtbbaokmelkiemaaGreatDoorProg.lean LOADS. Nothing in Lean hashes anything: it is a label: what it is worth is what the hold of that sum in a sandbox is worth. -/
noncomputable def Tryz.pinned : Pinned := { name := "ytbbaokmelkiemaagreatdoor", sum := "6d60cecbf8d005748b762a4556090d5f7eee83e55067583cd005aa2d2d905943", checked := Tryz.checked }
namespace Rows
def none {H : Type} : Left H := { results := [], args := [] }

/- WHAT THE LISTED PACKAGE-LEVEL VARIABLES READ AS WHEN THE CALL BEGINS. Each datum BY PROGRAM (the guide's laid-datum.mjs) off the statement by which the dump's own 'gosem.cut.vars' lays the variable. In a bare row this is a premise. The card (YtbbaokmelkiemaaGreatDoorCards.lean) ties it to the program's text. -/
def laid_lariat_lex_own {H : Type} : DataW H := .agg [.lit (.string [115, 101, 108, 102]), .lit (.string [110, 111, 110, 101]), .lit (.string [108, 101, 110]), .lit (.string [97, 116])]

/-- 'lariatlaw14.ProcChecks': WHATEVER THE INPUT: true; the input reads as it did. -/
def procChecksSpec : ChangeSpec := { name := "procChecks", fn := fun _ => fun
  | [d1, d2] => { results := [.lit (.bool true)], args := [d1, d2] }
  | _ => none }
def procChecksRow : OpenClaim := { program := "ytbbaokmelkiemaagreatdoor", sum := "6d60cecbf8d005748b762a4556090d5f7eee83e55067583cd005aa2d2d905943", func := "lariat/lariatlaw14.ProcChecks", spec := "procChecks", unfollowed := true, recurses := true, named := ["lariat/lex.own"], apart := false, laid := [("lariat/lex.own", laid_lariat_lex_own)] }
def ProcChecksSaid : Prop := procChecksRow.holds Tryz.pinned (OpenSpec.ofChange procChecksSpec)

/-- ITS FALSE NEIGHBOUR: 'it returns false'. Refute it at one input. -/
def procChecksWrong : ChangeSpec := { name := "procChecks", fn := fun _ => fun
  | [d1, d2] => { results := [.lit (.bool false)], args := [d1, d2] }
  | _ => none }
def ProcChecksWrongFalsely : Prop := procChecksRow.holds Tryz.pinned (OpenSpec.ofChange procChecksWrong)

/-- 'lariatlaw15.ModelChecks': WHATEVER THE INPUT: true; the input reads as it did. -/
def modelChecksSpec : ChangeSpec := { name := "modelChecks", fn := fun _ => fun
  | [d] => { results := [.lit (.bool true)], args := [d] }
  | _ => none }
def modelChecksRow : OpenClaim := { program := "ytbbaokmelkiemaagreatdoor", sum := "6d60cecbf8d005748b762a4556090d5f7eee83e55067583cd005aa2d2d905943", func := "lariat/lariatlaw15.ModelChecks", spec := "modelChecks", unfollowed := true, recurses := true, named := ["lariat/lex.own"], apart := false, laid := [("lariat/lex.own", laid_lariat_lex_own)] }
def ModelChecksSaid : Prop := modelChecksRow.holds Tryz.pinned (OpenSpec.ofChange modelChecksSpec)

/-- ITS FALSE NEIGHBOUR: 'it returns false'. Refute it at one input. -/
def modelChecksWrong : ChangeSpec := { name := "modelChecks", fn := fun _ => fun
  | [d] => { results := [.lit (.bool false)], args := [d] }
  | _ => none }
def ModelChecksWrongFalsely : Prop := modelChecksRow.holds Tryz.pinned (OpenSpec.ofChange modelChecksWrong)

/-- 'lariatlaw15.ModelSame': WHATEVER THE INPUT: true; the input reads as it did. -/
def modelSameSpec : ChangeSpec := { name := "modelSame", fn := fun _ => fun
  | [d1, d2] => { results := [.lit (.bool true)], args := [d1, d2] }
  | _ => none }
def modelSameRow : OpenClaim := { program := "ytbbaokmelkiemaagreatdoor", sum := "6d60cecbf8d005748b762a4556090d5f7eee83e55067583cd005aa2d2d905943", func := "lariat/lariatlaw15.ModelSame", spec := "modelSame", unfollowed := true, recurses := true, named := ["lariat/lex.own"], apart := false, laid := [("lariat/lex.own", laid_lariat_lex_own)] }
def ModelSameSaid : Prop := modelSameRow.holds Tryz.pinned (OpenSpec.ofChange modelSameSpec)

/-- ITS FALSE NEIGHBOUR: 'it returns false'. Refute it at one input. -/
def modelSameWrong : ChangeSpec := { name := "modelSame", fn := fun _ => fun
  | [d1, d2] => { results := [.lit (.bool false)], args := [d1, d2] }
  | _ => none }
def ModelSameWrongFalsely : Prop := modelSameRow.holds Tryz.pinned (OpenSpec.ofChange modelSameWrong)

/-- 'lariatlaw15.ModelCopies': WHATEVER THE INPUT: true; the input reads as it did. -/
def modelCopiesSpec : ChangeSpec := { name := "modelCopies", fn := fun _ => fun
  | [d] => { results := [.lit (.bool true)], args := [d] }
  | _ => none }
def modelCopiesRow : OpenClaim := { program := "ytbbaokmelkiemaagreatdoor", sum := "6d60cecbf8d005748b762a4556090d5f7eee83e55067583cd005aa2d2d905943", func := "lariat/lariatlaw15.ModelCopies", spec := "modelCopies", unfollowed := true, recurses := true, named := ["lariat/lex.own"], apart := false, laid := [("lariat/lex.own", laid_lariat_lex_own)] }
def ModelCopiesSaid : Prop := modelCopiesRow.holds Tryz.pinned (OpenSpec.ofChange modelCopiesSpec)

/-- ITS FALSE NEIGHBOUR: 'it returns false'. Refute it at one input. -/
def modelCopiesWrong : ChangeSpec := { name := "modelCopies", fn := fun _ => fun
  | [d] => { results := [.lit (.bool false)], args := [d] }
  | _ => none }
def ModelCopiesWrongFalsely : Prop := modelCopiesRow.holds Tryz.pinned (OpenSpec.ofChange modelCopiesWrong)

/-- 'lariatlaw15.ModelPieces': WHATEVER THE INPUT: true; the input reads as it did. -/
def modelPiecesSpec : ChangeSpec := { name := "modelPieces", fn := fun _ => fun
  | [d] => { results := [.lit (.bool true)], args := [d] }
  | _ => none }
def modelPiecesRow : OpenClaim := { program := "ytbbaokmelkiemaagreatdoor", sum := "6d60cecbf8d005748b762a4556090d5f7eee83e55067583cd005aa2d2d905943", func := "lariat/lariatlaw15.ModelPieces", spec := "modelPieces", unfollowed := true, recurses := true, named := ["lariat/lex.own"], apart := false, laid := [("lariat/lex.own", laid_lariat_lex_own)] }
def ModelPiecesSaid : Prop := modelPiecesRow.holds Tryz.pinned (OpenSpec.ofChange modelPiecesSpec)

/-- ITS FALSE NEIGHBOUR: 'it returns false'. Refute it at one input. -/
def modelPiecesWrong : ChangeSpec := { name := "modelPieces", fn := fun _ => fun
  | [d] => { results := [.lit (.bool false)], args := [d] }
  | _ => none }
def ModelPiecesWrongFalsely : Prop := modelPiecesRow.holds Tryz.pinned (OpenSpec.ofChange modelPiecesWrong)

/-- 'lariatlaw15.ModelParts': WHATEVER THE INPUT: true; the input reads as it did. -/
def modelPartsSpec : ChangeSpec := { name := "modelParts", fn := fun _ => fun
  | [d1, d2] => { results := [.lit (.bool true)], args := [d1, d2] }
  | _ => none }
def modelPartsRow : OpenClaim := { program := "ytbbaokmelkiemaagreatdoor", sum := "6d60cecbf8d005748b762a4556090d5f7eee83e55067583cd005aa2d2d905943", func := "lariat/lariatlaw15.ModelParts", spec := "modelParts", unfollowed := true, recurses := true, named := ["lariat/lex.own"], apart := false, laid := [("lariat/lex.own", laid_lariat_lex_own)] }
def ModelPartsSaid : Prop := modelPartsRow.holds Tryz.pinned (OpenSpec.ofChange modelPartsSpec)

/-- ITS FALSE NEIGHBOUR: 'it returns false'. Refute it at one input. -/
def modelPartsWrong : ChangeSpec := { name := "modelParts", fn := fun _ => fun
  | [d1, d2] => { results := [.lit (.bool false)], args := [d1, d2] }
  | _ => none }
def ModelPartsWrongFalsely : Prop := modelPartsRow.holds Tryz.pinned (OpenSpec.ofChange modelPartsWrong)

/- THE SECOND FORM. 'bulk': how many values and letters a reading holds, each counted each time it is reached (what is shared counts as often as it is met; a slice's spare places count too). A statement '..UptoSaid' is the law's where the arguments, and the package variables that the reading takes, are together of bulk at most 1048576: NARROWER than '..Said'. Prove '..Said' where nothing that the law and all that it calls make is longer than what came in: it says more and counts as full. Else prove '..UptoSaid'. A law counts once. -/
mutual
def uptoBulk {H : Type} : DataW H → Nat
  | .lit (.string bytes) => bytes.length + 1
  | .lit _ => 1
  | .nil => 1
  | .ptr d => uptoBulk d + 1
  | .slice elems spare => uptoBulkAll elems + uptoBulkAll spare + 1
  | .agg parts => uptoBulkAll parts + 1
  | .iface _ d => uptoBulk d + 1
  | .map entries => uptoBulkEntries entries + 1
  | .held _ => 1
def uptoBulkAll {H : Type} : List (DataW H) → Nat
  | [] => 0
  | d :: r => uptoBulk d + uptoBulkAll r
def uptoBulkEntries {H : Type} : List (Lit × DataW H) → Nat
  | [] => 0
  | x :: r => uptoBulkEntry x + uptoBulkEntries r
def uptoBulkEntry {H : Type} : Lit × DataW H → Nat
  | (.string bytes, d) => bytes.length + uptoBulk d + 1
  | (_, d) => uptoBulk d + 1
 end
def uptoSmall : (H : Type) → List (DataW H) → Bool := fun _ ds => decide (uptoBulkAll ds ≤ 1048576)
def OpenSpec.upto (s : _root_.Go.ChangeSpec) : _root_.Go.OpenSpec := { _root_.Go.OpenSpec.ofChange s with cond := some uptoSmall }

/-- 'lariatlaw14.ProcChecks', WHERE WHAT IT READS IS OF BULK AT MOST 1048576: true; the input reads as it did. -/
def procChecksUptoRow : OpenClaim := { program := "ytbbaokmelkiemaagreatdoor", sum := "6d60cecbf8d005748b762a4556090d5f7eee83e55067583cd005aa2d2d905943", func := "lariat/lariatlaw14.ProcChecks", spec := "procChecks", unfollowed := true, recurses := true, named := ["lariat/lex.own"], apart := false, laid := [("lariat/lex.own", laid_lariat_lex_own)], narrowed := true }
def ProcChecksUptoSaid : Prop := procChecksUptoRow.holds Tryz.pinned (OpenSpec.upto procChecksSpec)

/-- 'lariatlaw15.ModelChecks', WHERE WHAT IT READS IS OF BULK AT MOST 1048576: true; the input reads as it did. -/
def modelChecksUptoRow : OpenClaim := { program := "ytbbaokmelkiemaagreatdoor", sum := "6d60cecbf8d005748b762a4556090d5f7eee83e55067583cd005aa2d2d905943", func := "lariat/lariatlaw15.ModelChecks", spec := "modelChecks", unfollowed := true, recurses := true, named := ["lariat/lex.own"], apart := false, laid := [("lariat/lex.own", laid_lariat_lex_own)], narrowed := true }
def ModelChecksUptoSaid : Prop := modelChecksUptoRow.holds Tryz.pinned (OpenSpec.upto modelChecksSpec)

/-- 'lariatlaw15.ModelSame', WHERE WHAT IT READS IS OF BULK AT MOST 1048576: true; the input reads as it did. -/
def modelSameUptoRow : OpenClaim := { program := "ytbbaokmelkiemaagreatdoor", sum := "6d60cecbf8d005748b762a4556090d5f7eee83e55067583cd005aa2d2d905943", func := "lariat/lariatlaw15.ModelSame", spec := "modelSame", unfollowed := true, recurses := true, named := ["lariat/lex.own"], apart := false, laid := [("lariat/lex.own", laid_lariat_lex_own)], narrowed := true }
def ModelSameUptoSaid : Prop := modelSameUptoRow.holds Tryz.pinned (OpenSpec.upto modelSameSpec)

/-- 'lariatlaw15.ModelCopies', WHERE WHAT IT READS IS OF BULK AT MOST 1048576: true; the input reads as it did. -/
def modelCopiesUptoRow : OpenClaim := { program := "ytbbaokmelkiemaagreatdoor", sum := "6d60cecbf8d005748b762a4556090d5f7eee83e55067583cd005aa2d2d905943", func := "lariat/lariatlaw15.ModelCopies", spec := "modelCopies", unfollowed := true, recurses := true, named := ["lariat/lex.own"], apart := false, laid := [("lariat/lex.own", laid_lariat_lex_own)], narrowed := true }
def ModelCopiesUptoSaid : Prop := modelCopiesUptoRow.holds Tryz.pinned (OpenSpec.upto modelCopiesSpec)

/-- 'lariatlaw15.ModelPieces', WHERE WHAT IT READS IS OF BULK AT MOST 1048576: true; the input reads as it did. -/
def modelPiecesUptoRow : OpenClaim := { program := "ytbbaokmelkiemaagreatdoor", sum := "6d60cecbf8d005748b762a4556090d5f7eee83e55067583cd005aa2d2d905943", func := "lariat/lariatlaw15.ModelPieces", spec := "modelPieces", unfollowed := true, recurses := true, named := ["lariat/lex.own"], apart := false, laid := [("lariat/lex.own", laid_lariat_lex_own)], narrowed := true }
def ModelPiecesUptoSaid : Prop := modelPiecesUptoRow.holds Tryz.pinned (OpenSpec.upto modelPiecesSpec)

/-- 'lariatlaw15.ModelParts', WHERE WHAT IT READS IS OF BULK AT MOST 1048576: true; the input reads as it did. -/
def modelPartsUptoRow : OpenClaim := { program := "ytbbaokmelkiemaagreatdoor", sum := "6d60cecbf8d005748b762a4556090d5f7eee83e55067583cd005aa2d2d905943", func := "lariat/lariatlaw15.ModelParts", spec := "modelParts", unfollowed := true, recurses := true, named := ["lariat/lex.own"], apart := false, laid := [("lariat/lex.own", laid_lariat_lex_own)], narrowed := true }
def ModelPartsUptoSaid : Prop := modelPartsUptoRow.holds Tryz.pinned (OpenSpec.upto modelPartsSpec)

end Rows
end Go.Proofs.YtbbaokmelkiemaaGreatDoor
