/-
  NARROWER THAN 'FOR EVERY INPUT', by the rows' own cells (each row's printed sentence says how): AmplePick: laid · AmpleMoves: laid · AmpleSome: laid · AmpleSwaps: laid · AmpleUnseen: laid.
  DERIVED. THE GIVEN ROWS OF THIS SEAT. 5 by the template 'for every input the law returns true; each argument reads behind the call as it read before'; 0 by the template 'total and deterministic' (their statements: YtakmdjclehkglaaGreatDoorTotals.lean).
  GIVEN WITH THE SEED: the statements are not yours to turn. If you find one false, say at which input.
  Laid BY PROGRAM, IN A SANDBOX (cutbox-rows.mjs): the forced cells as the released guide's own fill.sh prints them over the translation 15e80de7c52e6860… (all of the seat's roots in one cut). By AI agents, Wed Nov 11 2026. No macro, syntax, notation, axiom, sorry.
-/
import Derived.Test.YtakmdjclehkglaaGreatDoorChecked
import GoSem.Claim
import GoSem.ClaimJoined
import GoSem.ClaimMapViews
import Derived.JoinedTies
import Derived.KernelRfl
namespace Go.Proofs.YtakmdjclehkglaaGreatDoor
/- THE CELL 'sum', in the pinned program and in every row, IS THE sha256 OF THE DUMP (.gsa) THAT YtakmdjclehkglaaGreatDoorProg.lean LOADS. Nothing in Lean hashes anything: it is a label: what it is worth is what the hold of that sum in a sandbox is worth. -/
noncomputable def Tryz.pinned : Pinned := { name := "ytakmdjclehkglaagreatdoor", sum := "15e80de7c52e68601ed29c949c13c9e728a01aa68c43845990cb2c63c8f6dea2", checked := Tryz.checked }
namespace Rows
def none {H : Type} : Left H := { results := [], args := [] }

/- WHAT THE LISTED PACKAGE-LEVEL VARIABLES READ AS WHEN THE CALL BEGINS. Each datum BY PROGRAM (the guide's laid-datum.mjs) off the statement by which the dump's own 'gosem.cut.vars' lays the variable. In a bare row this is a premise. The card (YtakmdjclehkglaaGreatDoorCards.lean) ties it to the program's text. -/
def laid_lariat_lex_own {H : Type} : DataW H := .agg [.lit (.string [115, 101, 108, 102]), .lit (.string [110, 111, 110, 101]), .lit (.string [108, 101, 110]), .lit (.string [97, 116])]

/-- 'lariatlaw43.AmplePick': WHATEVER THE INPUT: true; the input reads as it did. -/
def amplePickSpec : ChangeSpec := { name := "amplePick", fn := fun _ => fun
  | [d1, d2] => { results := [.lit (.bool true)], args := [d1, d2] }
  | _ => none }
def amplePickRow : OpenClaim := { program := "ytakmdjclehkglaagreatdoor", sum := "15e80de7c52e68601ed29c949c13c9e728a01aa68c43845990cb2c63c8f6dea2", func := "lariat/lariatlaw43.AmplePick", spec := "amplePick", unfollowed := true, recurses := true, named := ["lariat/lex.own"], apart := false, laid := [("lariat/lex.own", laid_lariat_lex_own)] }
def AmplePickSaid : Prop := amplePickRow.holds Tryz.pinned (OpenSpec.ofChange amplePickSpec)

/-- ITS FALSE NEIGHBOUR: 'it returns false'. Refute it at one input. -/
def amplePickWrong : ChangeSpec := { name := "amplePick", fn := fun _ => fun
  | [d1, d2] => { results := [.lit (.bool false)], args := [d1, d2] }
  | _ => none }
def AmplePickWrongFalsely : Prop := amplePickRow.holds Tryz.pinned (OpenSpec.ofChange amplePickWrong)

/-- 'lariatlaw43.AmpleMoves': WHATEVER THE INPUT: true; the input reads as it did. -/
def ampleMovesSpec : ChangeSpec := { name := "ampleMoves", fn := fun _ => fun
  | [d1, d2] => { results := [.lit (.bool true)], args := [d1, d2] }
  | _ => none }
def ampleMovesRow : OpenClaim := { program := "ytakmdjclehkglaagreatdoor", sum := "15e80de7c52e68601ed29c949c13c9e728a01aa68c43845990cb2c63c8f6dea2", func := "lariat/lariatlaw43.AmpleMoves", spec := "ampleMoves", unfollowed := true, recurses := true, named := ["lariat/lex.own"], apart := false, laid := [("lariat/lex.own", laid_lariat_lex_own)] }
def AmpleMovesSaid : Prop := ampleMovesRow.holds Tryz.pinned (OpenSpec.ofChange ampleMovesSpec)

/-- ITS FALSE NEIGHBOUR: 'it returns false'. Refute it at one input. -/
def ampleMovesWrong : ChangeSpec := { name := "ampleMoves", fn := fun _ => fun
  | [d1, d2] => { results := [.lit (.bool false)], args := [d1, d2] }
  | _ => none }
def AmpleMovesWrongFalsely : Prop := ampleMovesRow.holds Tryz.pinned (OpenSpec.ofChange ampleMovesWrong)

/-- 'lariatlaw43.AmpleSome': WHATEVER THE INPUT: true; the input reads as it did. -/
def ampleSomeSpec : ChangeSpec := { name := "ampleSome", fn := fun _ => fun
  | [d1, d2] => { results := [.lit (.bool true)], args := [d1, d2] }
  | _ => none }
def ampleSomeRow : OpenClaim := { program := "ytakmdjclehkglaagreatdoor", sum := "15e80de7c52e68601ed29c949c13c9e728a01aa68c43845990cb2c63c8f6dea2", func := "lariat/lariatlaw43.AmpleSome", spec := "ampleSome", unfollowed := true, recurses := true, named := ["lariat/lex.own"], apart := false, laid := [("lariat/lex.own", laid_lariat_lex_own)] }
def AmpleSomeSaid : Prop := ampleSomeRow.holds Tryz.pinned (OpenSpec.ofChange ampleSomeSpec)

/-- ITS FALSE NEIGHBOUR: 'it returns false'. Refute it at one input. -/
def ampleSomeWrong : ChangeSpec := { name := "ampleSome", fn := fun _ => fun
  | [d1, d2] => { results := [.lit (.bool false)], args := [d1, d2] }
  | _ => none }
def AmpleSomeWrongFalsely : Prop := ampleSomeRow.holds Tryz.pinned (OpenSpec.ofChange ampleSomeWrong)

/-- 'lariatlaw43.AmpleSwaps': WHATEVER THE INPUT: true; the input reads as it did. -/
def ampleSwapsSpec : ChangeSpec := { name := "ampleSwaps", fn := fun _ => fun
  | [d1, d2] => { results := [.lit (.bool true)], args := [d1, d2] }
  | _ => none }
def ampleSwapsRow : OpenClaim := { program := "ytakmdjclehkglaagreatdoor", sum := "15e80de7c52e68601ed29c949c13c9e728a01aa68c43845990cb2c63c8f6dea2", func := "lariat/lariatlaw43.AmpleSwaps", spec := "ampleSwaps", unfollowed := true, recurses := true, named := ["lariat/lex.own"], apart := false, laid := [("lariat/lex.own", laid_lariat_lex_own)] }
def AmpleSwapsSaid : Prop := ampleSwapsRow.holds Tryz.pinned (OpenSpec.ofChange ampleSwapsSpec)

/-- ITS FALSE NEIGHBOUR: 'it returns false'. Refute it at one input. -/
def ampleSwapsWrong : ChangeSpec := { name := "ampleSwaps", fn := fun _ => fun
  | [d1, d2] => { results := [.lit (.bool false)], args := [d1, d2] }
  | _ => none }
def AmpleSwapsWrongFalsely : Prop := ampleSwapsRow.holds Tryz.pinned (OpenSpec.ofChange ampleSwapsWrong)

/-- 'lariatlaw43.AmpleUnseen': WHATEVER THE INPUT: true; the input reads as it did. -/
def ampleUnseenSpec : ChangeSpec := { name := "ampleUnseen", fn := fun _ => fun
  | [d1, d2] => { results := [.lit (.bool true)], args := [d1, d2] }
  | _ => none }
def ampleUnseenRow : OpenClaim := { program := "ytakmdjclehkglaagreatdoor", sum := "15e80de7c52e68601ed29c949c13c9e728a01aa68c43845990cb2c63c8f6dea2", func := "lariat/lariatlaw43.AmpleUnseen", spec := "ampleUnseen", unfollowed := true, recurses := true, named := ["lariat/lex.own"], apart := false, laid := [("lariat/lex.own", laid_lariat_lex_own)] }
def AmpleUnseenSaid : Prop := ampleUnseenRow.holds Tryz.pinned (OpenSpec.ofChange ampleUnseenSpec)

/-- ITS FALSE NEIGHBOUR: 'it returns false'. Refute it at one input. -/
def ampleUnseenWrong : ChangeSpec := { name := "ampleUnseen", fn := fun _ => fun
  | [d1, d2] => { results := [.lit (.bool false)], args := [d1, d2] }
  | _ => none }
def AmpleUnseenWrongFalsely : Prop := ampleUnseenRow.holds Tryz.pinned (OpenSpec.ofChange ampleUnseenWrong)

/- THE SECOND FORM. 'bulk': how many values and letters a reading holds, each counted each time it is reached (what is shared counts as often as it is met; a slice's spare places count too). A statement '..UptoSaid' is the law's where the arguments, and the package variables that the reading takes, are together of bulk at most 1048576: NARROWER than '..Said'. Prove '..Said' where nothing that the law and all that it calls make is longer than what came in: it says more and counts as full. Else prove '..UptoSaid'. A law counts once. -/
mutual
def uptoBulk {H : Type} : DataW H → Nat
  | .lit (.string bytes) => bytes.length + 1
  | .lit _ => 1
  | .nil => 1
  | .ptr d => uptoBulk d + 1
  | .slice elems spare => uptoBulkAll elems + uptoBulkAll spare + 1
  | .agg parts => uptoBulkAll parts + 1
  | .iface _ d => uptoBulk d + 1
  | .map entries => uptoBulkEntries entries + 1
  | .held _ => 1
def uptoBulkAll {H : Type} : List (DataW H) → Nat
  | [] => 0
  | d :: r => uptoBulk d + uptoBulkAll r
def uptoBulkEntries {H : Type} : List (Lit × DataW H) → Nat
  | [] => 0
  | x :: r => uptoBulkEntry x + uptoBulkEntries r
def uptoBulkEntry {H : Type} : Lit × DataW H → Nat
  | (.string bytes, d) => bytes.length + uptoBulk d + 1
  | (_, d) => uptoBulk d + 1
 end
def uptoSmall : (H : Type) → List (DataW H) → Bool := fun _ ds => decide (uptoBulkAll ds ≤ 1048576)
def OpenSpec.upto (s : _root_.Go.ChangeSpec) : _root_.Go.OpenSpec := { _root_.Go.OpenSpec.ofChange s with cond := some uptoSmall }

/-- 'lariatlaw43.AmplePick', WHERE WHAT IT READS IS OF BULK AT MOST 1048576: true; the input reads as it did. -/
def amplePickUptoRow : OpenClaim := { program := "ytakmdjclehkglaagreatdoor", sum := "15e80de7c52e68601ed29c949c13c9e728a01aa68c43845990cb2c63c8f6dea2", func := "lariat/lariatlaw43.AmplePick", spec := "amplePick", unfollowed := true, recurses := true, named := ["lariat/lex.own"], apart := false, laid := [("lariat/lex.own", laid_lariat_lex_own)], narrowed := true }
def AmplePickUptoSaid : Prop := amplePickUptoRow.holds Tryz.pinned (OpenSpec.upto amplePickSpec)

/-- 'lariatlaw43.AmpleMoves', WHERE WHAT IT READS IS OF BULK AT MOST 1048576: true; the input reads as it did. -/
def ampleMovesUptoRow : OpenClaim := { program := "ytakmdjclehkglaagreatdoor", sum := "15e80de7c52e68601ed29c949c13c9e728a01aa68c43845990cb2c63c8f6dea2", func := "lariat/lariatlaw43.AmpleMoves", spec := "ampleMoves", unfollowed := true, recurses := true, named := ["lariat/lex.own"], apart := false, laid := [("lariat/lex.own", laid_lariat_lex_own)], narrowed := true }
def AmpleMovesUptoSaid : Prop := ampleMovesUptoRow.holds Tryz.pinned (OpenSpec.upto ampleMovesSpec)

/-- 'lariatlaw43.AmpleSome', WHERE WHAT IT READS IS OF BULK AT MOST 1048576: true; the input reads as it did. -/
def ampleSomeUptoRow : OpenClaim := { program := "ytakmdjclehkglaagreatdoor", sum := "15e80de7c52e68601ed29c949c13c9e728a01aa68c43845990cb2c63c8f6dea2", func := "lariat/lariatlaw43.AmpleSome", spec := "ampleSome", unfollowed := true, recurses := true, named := ["lariat/lex.own"], apart := false, laid := [("lariat/lex.own", laid_lariat_lex_own)], narrowed := true }
def AmpleSomeUptoSaid : Prop := ampleSomeUptoRow.holds Tryz.pinned (OpenSpec.upto ampleSomeSpec)

/-- 'lariatlaw43.AmpleSwaps', WHERE WHAT IT READS IS OF BULK AT MOST 1048576: true; the input reads as it did. -/
def ampleSwapsUptoRow : OpenClaim := { program := "ytakmdjclehkglaagreatdoor", sum := "15e80de7c52e68601ed29c949c13c9e728a01aa68c43845990cb2c63c8f6dea2", func := "lariat/lariatlaw43.AmpleSwaps", spec := "ampleSwaps", unfollowed := true, recurses := true, named := ["lariat/lex.own"], apart := false, laid := [("lariat/lex.own", laid_lariat_lex_own)], narrowed := true }
def AmpleSwapsUptoSaid : Prop := ampleSwapsUptoRow.holds Tryz.pinned (OpenSpec.upto ampleSwapsSpec)

/-- 'lariatlaw43.AmpleUnseen', WHERE WHAT IT READS IS OF BULK AT MOST 1048576: true; the input reads as it did. -/
def ampleUnseenUptoRow : OpenClaim := { program := "ytakmdjclehkglaagreatdoor", sum := "15e80de7c52e68601ed29c949c13c9e728a01aa68c43845990cb2c63c8f6dea2", func := "lariat/lariatlaw43.AmpleUnseen", spec := "ampleUnseen", unfollowed := true, recurses := true, named := ["lariat/lex.own"], apart := false, laid := [("lariat/lex.own", laid_lariat_lex_own)], narrowed := true }
def AmpleUnseenUptoSaid : Prop := ampleUnseenUptoRow.holds Tryz.pinned (OpenSpec.upto ampleUnseenSpec)

end Rows
end Go.Proofs.YtakmdjclehkglaaGreatDoor
