/-
  NARROWER THAN 'FOR EVERY INPUT', by the rows' own cells (each row's printed sentence says how): ModelCopies: laid · LayoutOf: laid · LayoutKinds: laid · LayoutSlots: laid · LayoutOnce: laid · LayoutStarts: laid · StateRights: laid · StateEnvs: laid · StateBytes: laid · StateBacks: laid · StateThere: laid.
  DERIVED. THE GIVEN ROWS OF THIS SEAT. 11 by the template 'for every input the law returns true; each argument reads behind the call as it read before'; 0 by the template 'total and deterministic' (their statements: YtpaahhleopalaaaGreatDoorTotals.lean).
  GIVEN WITH THE SEED: the statements are not yours to turn. If you find one false, say at which input.
  Laid BY PROGRAM, IN A SANDBOX (cutbox-rows.mjs): the forced cells as the released guide's own fill.sh prints them over the translation 37084815e04b3261… (all of the seat's roots in one cut). By AI agents, Wed Nov 11 2026. No macro, syntax, notation, axiom, sorry.
-/
import Derived.Test.YtpaahhleopalaaaGreatDoorChecked
import GoSem.Claim
import GoSem.ClaimJoined
import GoSem.ClaimMapViews
import Derived.JoinedTies
import Derived.KernelRfl
namespace Go.Proofs.YtpaahhleopalaaaGreatDoor
/- THE CELL 'sum', in the pinned program and in every row, IS THE sha256 OF THE DUMP (.gsa) THAT YtpaahhleopalaaaGreatDoorProg.lean LOADS. Nothing in Lean hashes anything: it is a label: what it is worth is what the hold of that sum in a sandbox is worth. -/
noncomputable def Tryz.pinned : Pinned := { name := "ytpaahhleopalaaagreatdoor", sum := "37084815e04b32617dff4fa4e44f2044f77e1311d038c5455ece3807918df3bc", checked := Tryz.checked }
namespace Rows
def none {H : Type} : Left H := { results := [], args := [] }

/- WHAT THE LISTED PACKAGE-LEVEL VARIABLES READ AS WHEN THE CALL BEGINS. Each datum BY PROGRAM (the guide's laid-datum.mjs) off the statement by which the dump's own 'gosem.cut.vars' lays the variable. In a bare row this is a premise. The card (YtpaahhleopalaaaGreatDoorCards.lean) ties it to the program's text. -/
def laid_lariat_lex_own {H : Type} : DataW H := .agg [.lit (.string [115, 101, 108, 102]), .lit (.string [110, 111, 110, 101]), .lit (.string [108, 101, 110]), .lit (.string [97, 116])]

/-- 'lariatlaw15.ModelCopies': WHATEVER THE INPUT: true; the input reads as it did. -/
def modelCopiesSpec : ChangeSpec := { name := "modelCopies", fn := fun _ => fun
  | [d] => { results := [.lit (.bool true)], args := [d] }
  | _ => none }
def modelCopiesRow : OpenClaim := { program := "ytpaahhleopalaaagreatdoor", sum := "37084815e04b32617dff4fa4e44f2044f77e1311d038c5455ece3807918df3bc", func := "lariat/lariatlaw15.ModelCopies", spec := "modelCopies", unfollowed := true, recurses := true, named := ["lariat/lex.own"], apart := false, laid := [("lariat/lex.own", laid_lariat_lex_own)] }
def ModelCopiesSaid : Prop := modelCopiesRow.holds Tryz.pinned (OpenSpec.ofChange modelCopiesSpec)

/-- ITS FALSE NEIGHBOUR: 'it returns false'. Refute it at one input. -/
def modelCopiesWrong : ChangeSpec := { name := "modelCopies", fn := fun _ => fun
  | [d] => { results := [.lit (.bool false)], args := [d] }
  | _ => none }
def ModelCopiesWrongFalsely : Prop := modelCopiesRow.holds Tryz.pinned (OpenSpec.ofChange modelCopiesWrong)

/-- 'lariatlaw17.LayoutOf': WHATEVER THE INPUT: true; the input reads as it did. -/
def layoutOfSpec : ChangeSpec := { name := "layoutOf", fn := fun _ => fun
  | [d] => { results := [.lit (.bool true)], args := [d] }
  | _ => none }
def layoutOfRow : OpenClaim := { program := "ytpaahhleopalaaagreatdoor", sum := "37084815e04b32617dff4fa4e44f2044f77e1311d038c5455ece3807918df3bc", func := "lariat/lariatlaw17.LayoutOf", spec := "layoutOf", unfollowed := true, recurses := true, named := ["lariat/lex.own"], apart := false, laid := [("lariat/lex.own", laid_lariat_lex_own)] }
def LayoutOfSaid : Prop := layoutOfRow.holds Tryz.pinned (OpenSpec.ofChange layoutOfSpec)

/-- ITS FALSE NEIGHBOUR: 'it returns false'. Refute it at one input. -/
def layoutOfWrong : ChangeSpec := { name := "layoutOf", fn := fun _ => fun
  | [d] => { results := [.lit (.bool false)], args := [d] }
  | _ => none }
def LayoutOfWrongFalsely : Prop := layoutOfRow.holds Tryz.pinned (OpenSpec.ofChange layoutOfWrong)

/-- 'lariatlaw17.LayoutKinds': WHATEVER THE INPUT: true; the input reads as it did. -/
def layoutKindsSpec : ChangeSpec := { name := "layoutKinds", fn := fun _ => fun
  | [d] => { results := [.lit (.bool true)], args := [d] }
  | _ => none }
def layoutKindsRow : OpenClaim := { program := "ytpaahhleopalaaagreatdoor", sum := "37084815e04b32617dff4fa4e44f2044f77e1311d038c5455ece3807918df3bc", func := "lariat/lariatlaw17.LayoutKinds", spec := "layoutKinds", unfollowed := true, recurses := true, named := ["lariat/lex.own"], apart := false, laid := [("lariat/lex.own", laid_lariat_lex_own)] }
def LayoutKindsSaid : Prop := layoutKindsRow.holds Tryz.pinned (OpenSpec.ofChange layoutKindsSpec)

/-- ITS FALSE NEIGHBOUR: 'it returns false'. Refute it at one input. -/
def layoutKindsWrong : ChangeSpec := { name := "layoutKinds", fn := fun _ => fun
  | [d] => { results := [.lit (.bool false)], args := [d] }
  | _ => none }
def LayoutKindsWrongFalsely : Prop := layoutKindsRow.holds Tryz.pinned (OpenSpec.ofChange layoutKindsWrong)

/-- 'lariatlaw17.LayoutSlots': WHATEVER THE INPUT: true; the input reads as it did. -/
def layoutSlotsSpec : ChangeSpec := { name := "layoutSlots", fn := fun _ => fun
  | [d1, d2] => { results := [.lit (.bool true)], args := [d1, d2] }
  | _ => none }
def layoutSlotsRow : OpenClaim := { program := "ytpaahhleopalaaagreatdoor", sum := "37084815e04b32617dff4fa4e44f2044f77e1311d038c5455ece3807918df3bc", func := "lariat/lariatlaw17.LayoutSlots", spec := "layoutSlots", unfollowed := true, recurses := true, named := ["lariat/lex.own"], apart := false, laid := [("lariat/lex.own", laid_lariat_lex_own)] }
def LayoutSlotsSaid : Prop := layoutSlotsRow.holds Tryz.pinned (OpenSpec.ofChange layoutSlotsSpec)

/-- ITS FALSE NEIGHBOUR: 'it returns false'. Refute it at one input. -/
def layoutSlotsWrong : ChangeSpec := { name := "layoutSlots", fn := fun _ => fun
  | [d1, d2] => { results := [.lit (.bool false)], args := [d1, d2] }
  | _ => none }
def LayoutSlotsWrongFalsely : Prop := layoutSlotsRow.holds Tryz.pinned (OpenSpec.ofChange layoutSlotsWrong)

/-- 'lariatlaw17.LayoutOnce': WHATEVER THE INPUT: true; the input reads as it did. -/
def layoutOnceSpec : ChangeSpec := { name := "layoutOnce", fn := fun _ => fun
  | [d] => { results := [.lit (.bool true)], args := [d] }
  | _ => none }
def layoutOnceRow : OpenClaim := { program := "ytpaahhleopalaaagreatdoor", sum := "37084815e04b32617dff4fa4e44f2044f77e1311d038c5455ece3807918df3bc", func := "lariat/lariatlaw17.LayoutOnce", spec := "layoutOnce", unfollowed := true, recurses := true, named := ["lariat/lex.own"], apart := false, laid := [("lariat/lex.own", laid_lariat_lex_own)] }
def LayoutOnceSaid : Prop := layoutOnceRow.holds Tryz.pinned (OpenSpec.ofChange layoutOnceSpec)

/-- ITS FALSE NEIGHBOUR: 'it returns false'. Refute it at one input. -/
def layoutOnceWrong : ChangeSpec := { name := "layoutOnce", fn := fun _ => fun
  | [d] => { results := [.lit (.bool false)], args := [d] }
  | _ => none }
def LayoutOnceWrongFalsely : Prop := layoutOnceRow.holds Tryz.pinned (OpenSpec.ofChange layoutOnceWrong)

/-- 'lariatlaw17.LayoutStarts': WHATEVER THE INPUT: true; the input reads as it did. -/
def layoutStartsSpec : ChangeSpec := { name := "layoutStarts", fn := fun _ => fun
  | [d] => { results := [.lit (.bool true)], args := [d] }
  | _ => none }
def layoutStartsRow : OpenClaim := { program := "ytpaahhleopalaaagreatdoor", sum := "37084815e04b32617dff4fa4e44f2044f77e1311d038c5455ece3807918df3bc", func := "lariat/lariatlaw17.LayoutStarts", spec := "layoutStarts", unfollowed := true, recurses := true, named := ["lariat/lex.own"], apart := false, laid := [("lariat/lex.own", laid_lariat_lex_own)] }
def LayoutStartsSaid : Prop := layoutStartsRow.holds Tryz.pinned (OpenSpec.ofChange layoutStartsSpec)

/-- ITS FALSE NEIGHBOUR: 'it returns false'. Refute it at one input. -/
def layoutStartsWrong : ChangeSpec := { name := "layoutStarts", fn := fun _ => fun
  | [d] => { results := [.lit (.bool false)], args := [d] }
  | _ => none }
def LayoutStartsWrongFalsely : Prop := layoutStartsRow.holds Tryz.pinned (OpenSpec.ofChange layoutStartsWrong)

/-- 'lariatlaw18.StateRights': WHATEVER THE INPUT: true; the input reads as it did. -/
def stateRightsSpec : ChangeSpec := { name := "stateRights", fn := fun _ => fun
  | [d1, d2] => { results := [.lit (.bool true)], args := [d1, d2] }
  | _ => none }
def stateRightsRow : OpenClaim := { program := "ytpaahhleopalaaagreatdoor", sum := "37084815e04b32617dff4fa4e44f2044f77e1311d038c5455ece3807918df3bc", func := "lariat/lariatlaw18.StateRights", spec := "stateRights", unfollowed := true, recurses := true, named := ["lariat/lex.own"], apart := false, laid := [("lariat/lex.own", laid_lariat_lex_own)] }
def StateRightsSaid : Prop := stateRightsRow.holds Tryz.pinned (OpenSpec.ofChange stateRightsSpec)

/-- ITS FALSE NEIGHBOUR: 'it returns false'. Refute it at one input. -/
def stateRightsWrong : ChangeSpec := { name := "stateRights", fn := fun _ => fun
  | [d1, d2] => { results := [.lit (.bool false)], args := [d1, d2] }
  | _ => none }
def StateRightsWrongFalsely : Prop := stateRightsRow.holds Tryz.pinned (OpenSpec.ofChange stateRightsWrong)

/-- 'lariatlaw18.StateEnvs': WHATEVER THE INPUT: true; the input reads as it did. -/
def stateEnvsSpec : ChangeSpec := { name := "stateEnvs", fn := fun _ => fun
  | [d1, d2, d3] => { results := [.lit (.bool true)], args := [d1, d2, d3] }
  | _ => none }
def stateEnvsRow : OpenClaim := { program := "ytpaahhleopalaaagreatdoor", sum := "37084815e04b32617dff4fa4e44f2044f77e1311d038c5455ece3807918df3bc", func := "lariat/lariatlaw18.StateEnvs", spec := "stateEnvs", unfollowed := true, recurses := true, named := ["lariat/lex.own"], apart := false, laid := [("lariat/lex.own", laid_lariat_lex_own)] }
def StateEnvsSaid : Prop := stateEnvsRow.holds Tryz.pinned (OpenSpec.ofChange stateEnvsSpec)

/-- ITS FALSE NEIGHBOUR: 'it returns false'. Refute it at one input. -/
def stateEnvsWrong : ChangeSpec := { name := "stateEnvs", fn := fun _ => fun
  | [d1, d2, d3] => { results := [.lit (.bool false)], args := [d1, d2, d3] }
  | _ => none }
def StateEnvsWrongFalsely : Prop := stateEnvsRow.holds Tryz.pinned (OpenSpec.ofChange stateEnvsWrong)

/-- 'lariatlaw18.StateBytes': WHATEVER THE INPUT: true; the input reads as it did. -/
def stateBytesSpec : ChangeSpec := { name := "stateBytes", fn := fun _ => fun
  | [d1, d2] => { results := [.lit (.bool true)], args := [d1, d2] }
  | _ => none }
def stateBytesRow : OpenClaim := { program := "ytpaahhleopalaaagreatdoor", sum := "37084815e04b32617dff4fa4e44f2044f77e1311d038c5455ece3807918df3bc", func := "lariat/lariatlaw18.StateBytes", spec := "stateBytes", unfollowed := true, recurses := true, named := ["lariat/lex.own"], apart := false, laid := [("lariat/lex.own", laid_lariat_lex_own)] }
def StateBytesSaid : Prop := stateBytesRow.holds Tryz.pinned (OpenSpec.ofChange stateBytesSpec)

/-- ITS FALSE NEIGHBOUR: 'it returns false'. Refute it at one input. -/
def stateBytesWrong : ChangeSpec := { name := "stateBytes", fn := fun _ => fun
  | [d1, d2] => { results := [.lit (.bool false)], args := [d1, d2] }
  | _ => none }
def StateBytesWrongFalsely : Prop := stateBytesRow.holds Tryz.pinned (OpenSpec.ofChange stateBytesWrong)

/-- 'lariatlaw18.StateBacks': WHATEVER THE INPUT: true; the input reads as it did. -/
def stateBacksSpec : ChangeSpec := { name := "stateBacks", fn := fun _ => fun
  | [d1, d2] => { results := [.lit (.bool true)], args := [d1, d2] }
  | _ => none }
def stateBacksRow : OpenClaim := { program := "ytpaahhleopalaaagreatdoor", sum := "37084815e04b32617dff4fa4e44f2044f77e1311d038c5455ece3807918df3bc", func := "lariat/lariatlaw18.StateBacks", spec := "stateBacks", unfollowed := true, recurses := true, named := ["lariat/lex.own"], apart := false, laid := [("lariat/lex.own", laid_lariat_lex_own)] }
def StateBacksSaid : Prop := stateBacksRow.holds Tryz.pinned (OpenSpec.ofChange stateBacksSpec)

/-- ITS FALSE NEIGHBOUR: 'it returns false'. Refute it at one input. -/
def stateBacksWrong : ChangeSpec := { name := "stateBacks", fn := fun _ => fun
  | [d1, d2] => { results := [.lit (.bool false)], args := [d1, d2] }
  | _ => none }
def StateBacksWrongFalsely : Prop := stateBacksRow.holds Tryz.pinned (OpenSpec.ofChange stateBacksWrong)

/-- 'lariatlaw18.StateThere': WHATEVER THE INPUT: true; the input reads as it did. -/
def stateThereSpec : ChangeSpec := { name := "stateThere", fn := fun _ => fun
  | [d1, d2, d3, d4] => { results := [.lit (.bool true)], args := [d1, d2, d3, d4] }
  | _ => none }
def stateThereRow : OpenClaim := { program := "ytpaahhleopalaaagreatdoor", sum := "37084815e04b32617dff4fa4e44f2044f77e1311d038c5455ece3807918df3bc", func := "lariat/lariatlaw18.StateThere", spec := "stateThere", unfollowed := true, recurses := true, named := ["lariat/lex.own"], apart := false, laid := [("lariat/lex.own", laid_lariat_lex_own)] }
def StateThereSaid : Prop := stateThereRow.holds Tryz.pinned (OpenSpec.ofChange stateThereSpec)

/-- ITS FALSE NEIGHBOUR: 'it returns false'. Refute it at one input. -/
def stateThereWrong : ChangeSpec := { name := "stateThere", fn := fun _ => fun
  | [d1, d2, d3, d4] => { results := [.lit (.bool false)], args := [d1, d2, d3, d4] }
  | _ => none }
def StateThereWrongFalsely : Prop := stateThereRow.holds Tryz.pinned (OpenSpec.ofChange stateThereWrong)

/- THE SECOND FORM. 'bulk': how many values and letters a reading holds, each counted each time it is reached (what is shared counts as often as it is met; a slice's spare places count too). A statement '..UptoSaid' is the law's where the arguments, and the package variables that the reading takes, are together of bulk at most 1048576: NARROWER than '..Said'. Prove '..Said' where nothing that the law and all that it calls make is longer than what came in: it says more and counts as full. Else prove '..UptoSaid'. A law counts once. -/
mutual
def uptoBulk {H : Type} : DataW H → Nat
  | .lit (.string bytes) => bytes.length + 1
  | .lit _ => 1
  | .nil => 1
  | .ptr d => uptoBulk d + 1
  | .slice elems spare => uptoBulkAll elems + uptoBulkAll spare + 1
  | .agg parts => uptoBulkAll parts + 1
  | .iface _ d => uptoBulk d + 1
  | .map entries => uptoBulkEntries entries + 1
  | .held _ => 1
def uptoBulkAll {H : Type} : List (DataW H) → Nat
  | [] => 0
  | d :: r => uptoBulk d + uptoBulkAll r
def uptoBulkEntries {H : Type} : List (Lit × DataW H) → Nat
  | [] => 0
  | x :: r => uptoBulkEntry x + uptoBulkEntries r
def uptoBulkEntry {H : Type} : Lit × DataW H → Nat
  | (.string bytes, d) => bytes.length + uptoBulk d + 1
  | (_, d) => uptoBulk d + 1
 end
def uptoSmall : (H : Type) → List (DataW H) → Bool := fun _ ds => decide (uptoBulkAll ds ≤ 1048576)
def OpenSpec.upto (s : _root_.Go.ChangeSpec) : _root_.Go.OpenSpec := { _root_.Go.OpenSpec.ofChange s with cond := some uptoSmall }

/-- 'lariatlaw15.ModelCopies', WHERE WHAT IT READS IS OF BULK AT MOST 1048576: true; the input reads as it did. -/
def modelCopiesUptoRow : OpenClaim := { program := "ytpaahhleopalaaagreatdoor", sum := "37084815e04b32617dff4fa4e44f2044f77e1311d038c5455ece3807918df3bc", func := "lariat/lariatlaw15.ModelCopies", spec := "modelCopies", unfollowed := true, recurses := true, named := ["lariat/lex.own"], apart := false, laid := [("lariat/lex.own", laid_lariat_lex_own)], narrowed := true }
def ModelCopiesUptoSaid : Prop := modelCopiesUptoRow.holds Tryz.pinned (OpenSpec.upto modelCopiesSpec)

/-- 'lariatlaw17.LayoutOf', WHERE WHAT IT READS IS OF BULK AT MOST 1048576: true; the input reads as it did. -/
def layoutOfUptoRow : OpenClaim := { program := "ytpaahhleopalaaagreatdoor", sum := "37084815e04b32617dff4fa4e44f2044f77e1311d038c5455ece3807918df3bc", func := "lariat/lariatlaw17.LayoutOf", spec := "layoutOf", unfollowed := true, recurses := true, named := ["lariat/lex.own"], apart := false, laid := [("lariat/lex.own", laid_lariat_lex_own)], narrowed := true }
def LayoutOfUptoSaid : Prop := layoutOfUptoRow.holds Tryz.pinned (OpenSpec.upto layoutOfSpec)

/-- 'lariatlaw17.LayoutKinds', WHERE WHAT IT READS IS OF BULK AT MOST 1048576: true; the input reads as it did. -/
def layoutKindsUptoRow : OpenClaim := { program := "ytpaahhleopalaaagreatdoor", sum := "37084815e04b32617dff4fa4e44f2044f77e1311d038c5455ece3807918df3bc", func := "lariat/lariatlaw17.LayoutKinds", spec := "layoutKinds", unfollowed := true, recurses := true, named := ["lariat/lex.own"], apart := false, laid := [("lariat/lex.own", laid_lariat_lex_own)], narrowed := true }
def LayoutKindsUptoSaid : Prop := layoutKindsUptoRow.holds Tryz.pinned (OpenSpec.upto layoutKindsSpec)

/-- 'lariatlaw17.LayoutSlots', WHERE WHAT IT READS IS OF BULK AT MOST 1048576: true; the input reads as it did. -/
def layoutSlotsUptoRow : OpenClaim := { program := "ytpaahhleopalaaagreatdoor", sum := "37084815e04b32617dff4fa4e44f2044f77e1311d038c5455ece3807918df3bc", func := "lariat/lariatlaw17.LayoutSlots", spec := "layoutSlots", unfollowed := true, recurses := true, named := ["lariat/lex.own"], apart := false, laid := [("lariat/lex.own", laid_lariat_lex_own)], narrowed := true }
def LayoutSlotsUptoSaid : Prop := layoutSlotsUptoRow.holds Tryz.pinned (OpenSpec.upto layoutSlotsSpec)

/-- 'lariatlaw17.LayoutOnce', WHERE WHAT IT READS IS OF BULK AT MOST 1048576: true; the input reads as it did. -/
def layoutOnceUptoRow : OpenClaim := { program := "ytpaahhleopalaaagreatdoor", sum := "37084815e04b32617dff4fa4e44f2044f77e1311d038c5455ece3807918df3bc", func := "lariat/lariatlaw17.LayoutOnce", spec := "layoutOnce", unfollowed := true, recurses := true, named := ["lariat/lex.own"], apart := false, laid := [("lariat/lex.own", laid_lariat_lex_own)], narrowed := true }
def LayoutOnceUptoSaid : Prop := layoutOnceUptoRow.holds Tryz.pinned (OpenSpec.upto layoutOnceSpec)

/-- 'lariatlaw17.LayoutStarts', WHERE WHAT IT READS IS OF BULK AT MOST 1048576: true; the input reads as it did. -/
def layoutStartsUptoRow : OpenClaim := { program := "ytpaahhleopalaaagreatdoor", sum := "37084815e04b32617dff4fa4e44f2044f77e1311d038c5455ece3807918df3bc", func := "lariat/lariatlaw17.LayoutStarts", spec := "layoutStarts", unfollowed := true, recurses := true, named := ["lariat/lex.own"], apart := false, laid := [("lariat/lex.own", laid_lariat_lex_own)], narrowed := true }
def LayoutStartsUptoSaid : Prop := layoutStartsUptoRow.holds Tryz.pinned (OpenSpec.upto layoutStartsSpec)

/-- 'lariatlaw18.StateRights', WHERE WHAT IT READS IS OF BULK AT MOST 1048576: true; the input reads as it did. -/
def stateRightsUptoRow : OpenClaim := { program := "ytpaahhleopalaaagreatdoor", sum := "37084815e04b32617dff4fa4e44f2044f77e1311d038c5455ece3807918df3bc", func := "lariat/lariatlaw18.StateRights", spec := "stateRights", unfollowed := true, recurses := true, named := ["lariat/lex.own"], apart := false, laid := [("lariat/lex.own", laid_lariat_lex_own)], narrowed := true }
def StateRightsUptoSaid : Prop := stateRightsUptoRow.holds Tryz.pinned (OpenSpec.upto stateRightsSpec)

/-- 'lariatlaw18.StateEnvs', WHERE WHAT IT READS IS OF BULK AT MOST 1048576: true; the input reads as it did. -/
def stateEnvsUptoRow : OpenClaim := { program := "ytpaahhleopalaaagreatdoor", sum := "37084815e04b32617dff4fa4e44f2044f77e1311d038c5455ece3807918df3bc", func := "lariat/lariatlaw18.StateEnvs", spec := "stateEnvs", unfollowed := true, recurses := true, named := ["lariat/lex.own"], apart := false, laid := [("lariat/lex.own", laid_lariat_lex_own)], narrowed := true }
def StateEnvsUptoSaid : Prop := stateEnvsUptoRow.holds Tryz.pinned (OpenSpec.upto stateEnvsSpec)

/-- 'lariatlaw18.StateBytes', WHERE WHAT IT READS IS OF BULK AT MOST 1048576: true; the input reads as it did. -/
def stateBytesUptoRow : OpenClaim := { program := "ytpaahhleopalaaagreatdoor", sum := "37084815e04b32617dff4fa4e44f2044f77e1311d038c5455ece3807918df3bc", func := "lariat/lariatlaw18.StateBytes", spec := "stateBytes", unfollowed := true, recurses := true, named := ["lariat/lex.own"], apart := false, laid := [("lariat/lex.own", laid_lariat_lex_own)], narrowed := true }
def StateBytesUptoSaid : Prop := stateBytesUptoRow.holds Tryz.pinned (OpenSpec.upto stateBytesSpec)

/-- 'lariatlaw18.StateBacks', WHERE WHAT IT READS IS OF BULK AT MOST 1048576: true; the input reads as it did. -/
def stateBacksUptoRow : OpenClaim := { program := "ytpaahhleopalaaagreatdoor", sum := "37084815e04b32617dff4fa4e44f2044f77e1311d038c5455ece3807918df3bc", func := "lariat/lariatlaw18.StateBacks", spec := "stateBacks", unfollowed := true, recurses := true, named := ["lariat/lex.own"], apart := false, laid := [("lariat/lex.own", laid_lariat_lex_own)], narrowed := true }
def StateBacksUptoSaid : Prop := stateBacksUptoRow.holds Tryz.pinned (OpenSpec.upto stateBacksSpec)

/-- 'lariatlaw18.StateThere', WHERE WHAT IT READS IS OF BULK AT MOST 1048576: true; the input reads as it did. -/
def stateThereUptoRow : OpenClaim := { program := "ytpaahhleopalaaagreatdoor", sum := "37084815e04b32617dff4fa4e44f2044f77e1311d038c5455ece3807918df3bc", func := "lariat/lariatlaw18.StateThere", spec := "stateThere", unfollowed := true, recurses := true, named := ["lariat/lex.own"], apart := false, laid := [("lariat/lex.own", laid_lariat_lex_own)], narrowed := true }
def StateThereUptoSaid : Prop := stateThereUptoRow.holds Tryz.pinned (OpenSpec.upto stateThereSpec)

end Rows
end Go.Proofs.YtpaahhleopalaaaGreatDoor
