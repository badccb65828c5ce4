/-
  NARROWER THAN 'FOR EVERY INPUT', by the rows' own cells (each row's printed sentence says how): ModelCopies: laid · StateRights: laid · StateEnvs: laid · StateBytes: laid · StateBacks: laid · StateThere: laid · ReadsOf: laid · ReadsOwn: laid · ReadsRead: laid · ReadsWritten: laid · ReadsParts: laid.
  DERIVED. THE GIVEN ROWS OF THIS SEAT. 11 by the template 'for every input the law returns true; each argument reads behind the call as it read before'; 0 by the template 'total and deterministic' (their statements: YtglnobabdcoknaaGreatDoorTotals.lean).
  GIVEN WITH THE SEED: the statements are not yours to turn. If you find one false, say at which input.
  Laid BY PROGRAM, IN A SANDBOX (cutbox-rows.mjs): the forced cells as the released guide's own fill.sh prints them over the translation deceb7e549f540c2… (all of the seat's roots in one cut). By AI agents, Wed Nov 11 2026. No macro, syntax, notation, axiom, sorry.
-/
import Derived.Test.YtglnobabdcoknaaGreatDoorChecked
import GoSem.Claim
import GoSem.ClaimJoined
import GoSem.ClaimMapViews
import Derived.JoinedTies
import Derived.KernelRfl
namespace Go.Proofs.YtglnobabdcoknaaGreatDoor
/- THE CELL 'sum', in the pinned program and in every row, IS THE sha256 OF THE DUMP (.gsa) THAT YtglnobabdcoknaaGreatDoorProg.lean LOADS. Nothing in Lean hashes anything: it is a label: what it is worth is what the hold of that sum in a sandbox is worth. -/
noncomputable def Tryz.pinned : Pinned := { name := "ytglnobabdcoknaagreatdoor", sum := "deceb7e549f540c2f2ea9b46f0914a0d67135714fc05b04a55af4185d55bbb13", checked := Tryz.checked }
namespace Rows
def none {H : Type} : Left H := { results := [], args := [] }

/- WHAT THE LISTED PACKAGE-LEVEL VARIABLES READ AS WHEN THE CALL BEGINS. Each datum BY PROGRAM (the guide's laid-datum.mjs) off the statement by which the dump's own 'gosem.cut.vars' lays the variable. In a bare row this is a premise. The card (YtglnobabdcoknaaGreatDoorCards.lean) ties it to the program's text. -/
def laid_lariat_lex_own {H : Type} : DataW H := .agg [.lit (.string [115, 101, 108, 102]), .lit (.string [110, 111, 110, 101]), .lit (.string [108, 101, 110]), .lit (.string [97, 116])]

/-- 'lariatlaw15.ModelCopies': WHATEVER THE INPUT: true; the input reads as it did. -/
def modelCopiesSpec : ChangeSpec := { name := "modelCopies", fn := fun _ => fun
  | [d] => { results := [.lit (.bool true)], args := [d] }
  | _ => none }
def modelCopiesRow : OpenClaim := { program := "ytglnobabdcoknaagreatdoor", sum := "deceb7e549f540c2f2ea9b46f0914a0d67135714fc05b04a55af4185d55bbb13", func := "lariat/lariatlaw15.ModelCopies", spec := "modelCopies", unfollowed := true, recurses := true, named := ["lariat/lex.own"], apart := false, laid := [("lariat/lex.own", laid_lariat_lex_own)] }
def ModelCopiesSaid : Prop := modelCopiesRow.holds Tryz.pinned (OpenSpec.ofChange modelCopiesSpec)

/-- ITS FALSE NEIGHBOUR: 'it returns false'. Refute it at one input. -/
def modelCopiesWrong : ChangeSpec := { name := "modelCopies", fn := fun _ => fun
  | [d] => { results := [.lit (.bool false)], args := [d] }
  | _ => none }
def ModelCopiesWrongFalsely : Prop := modelCopiesRow.holds Tryz.pinned (OpenSpec.ofChange modelCopiesWrong)

/-- 'lariatlaw18.StateRights': WHATEVER THE INPUT: true; the input reads as it did. -/
def stateRightsSpec : ChangeSpec := { name := "stateRights", fn := fun _ => fun
  | [d1, d2] => { results := [.lit (.bool true)], args := [d1, d2] }
  | _ => none }
def stateRightsRow : OpenClaim := { program := "ytglnobabdcoknaagreatdoor", sum := "deceb7e549f540c2f2ea9b46f0914a0d67135714fc05b04a55af4185d55bbb13", func := "lariat/lariatlaw18.StateRights", spec := "stateRights", unfollowed := true, recurses := true, named := ["lariat/lex.own"], apart := false, laid := [("lariat/lex.own", laid_lariat_lex_own)] }
def StateRightsSaid : Prop := stateRightsRow.holds Tryz.pinned (OpenSpec.ofChange stateRightsSpec)

/-- ITS FALSE NEIGHBOUR: 'it returns false'. Refute it at one input. -/
def stateRightsWrong : ChangeSpec := { name := "stateRights", fn := fun _ => fun
  | [d1, d2] => { results := [.lit (.bool false)], args := [d1, d2] }
  | _ => none }
def StateRightsWrongFalsely : Prop := stateRightsRow.holds Tryz.pinned (OpenSpec.ofChange stateRightsWrong)

/-- 'lariatlaw18.StateEnvs': WHATEVER THE INPUT: true; the input reads as it did. -/
def stateEnvsSpec : ChangeSpec := { name := "stateEnvs", fn := fun _ => fun
  | [d1, d2, d3] => { results := [.lit (.bool true)], args := [d1, d2, d3] }
  | _ => none }
def stateEnvsRow : OpenClaim := { program := "ytglnobabdcoknaagreatdoor", sum := "deceb7e549f540c2f2ea9b46f0914a0d67135714fc05b04a55af4185d55bbb13", func := "lariat/lariatlaw18.StateEnvs", spec := "stateEnvs", unfollowed := true, recurses := true, named := ["lariat/lex.own"], apart := false, laid := [("lariat/lex.own", laid_lariat_lex_own)] }
def StateEnvsSaid : Prop := stateEnvsRow.holds Tryz.pinned (OpenSpec.ofChange stateEnvsSpec)

/-- ITS FALSE NEIGHBOUR: 'it returns false'. Refute it at one input. -/
def stateEnvsWrong : ChangeSpec := { name := "stateEnvs", fn := fun _ => fun
  | [d1, d2, d3] => { results := [.lit (.bool false)], args := [d1, d2, d3] }
  | _ => none }
def StateEnvsWrongFalsely : Prop := stateEnvsRow.holds Tryz.pinned (OpenSpec.ofChange stateEnvsWrong)

/-- 'lariatlaw18.StateBytes': WHATEVER THE INPUT: true; the input reads as it did. -/
def stateBytesSpec : ChangeSpec := { name := "stateBytes", fn := fun _ => fun
  | [d1, d2] => { results := [.lit (.bool true)], args := [d1, d2] }
  | _ => none }
def stateBytesRow : OpenClaim := { program := "ytglnobabdcoknaagreatdoor", sum := "deceb7e549f540c2f2ea9b46f0914a0d67135714fc05b04a55af4185d55bbb13", func := "lariat/lariatlaw18.StateBytes", spec := "stateBytes", unfollowed := true, recurses := true, named := ["lariat/lex.own"], apart := false, laid := [("lariat/lex.own", laid_lariat_lex_own)] }
def StateBytesSaid : Prop := stateBytesRow.holds Tryz.pinned (OpenSpec.ofChange stateBytesSpec)

/-- ITS FALSE NEIGHBOUR: 'it returns false'. Refute it at one input. -/
def stateBytesWrong : ChangeSpec := { name := "stateBytes", fn := fun _ => fun
  | [d1, d2] => { results := [.lit (.bool false)], args := [d1, d2] }
  | _ => none }
def StateBytesWrongFalsely : Prop := stateBytesRow.holds Tryz.pinned (OpenSpec.ofChange stateBytesWrong)

/-- 'lariatlaw18.StateBacks': WHATEVER THE INPUT: true; the input reads as it did. -/
def stateBacksSpec : ChangeSpec := { name := "stateBacks", fn := fun _ => fun
  | [d1, d2] => { results := [.lit (.bool true)], args := [d1, d2] }
  | _ => none }
def stateBacksRow : OpenClaim := { program := "ytglnobabdcoknaagreatdoor", sum := "deceb7e549f540c2f2ea9b46f0914a0d67135714fc05b04a55af4185d55bbb13", func := "lariat/lariatlaw18.StateBacks", spec := "stateBacks", unfollowed := true, recurses := true, named := ["lariat/lex.own"], apart := false, laid := [("lariat/lex.own", laid_lariat_lex_own)] }
def StateBacksSaid : Prop := stateBacksRow.holds Tryz.pinned (OpenSpec.ofChange stateBacksSpec)

/-- ITS FALSE NEIGHBOUR: 'it returns false'. Refute it at one input. -/
def stateBacksWrong : ChangeSpec := { name := "stateBacks", fn := fun _ => fun
  | [d1, d2] => { results := [.lit (.bool false)], args := [d1, d2] }
  | _ => none }
def StateBacksWrongFalsely : Prop := stateBacksRow.holds Tryz.pinned (OpenSpec.ofChange stateBacksWrong)

/-- 'lariatlaw18.StateThere': WHATEVER THE INPUT: true; the input reads as it did. -/
def stateThereSpec : ChangeSpec := { name := "stateThere", fn := fun _ => fun
  | [d1, d2, d3, d4] => { results := [.lit (.bool true)], args := [d1, d2, d3, d4] }
  | _ => none }
def stateThereRow : OpenClaim := { program := "ytglnobabdcoknaagreatdoor", sum := "deceb7e549f540c2f2ea9b46f0914a0d67135714fc05b04a55af4185d55bbb13", func := "lariat/lariatlaw18.StateThere", spec := "stateThere", unfollowed := true, recurses := true, named := ["lariat/lex.own"], apart := false, laid := [("lariat/lex.own", laid_lariat_lex_own)] }
def StateThereSaid : Prop := stateThereRow.holds Tryz.pinned (OpenSpec.ofChange stateThereSpec)

/-- ITS FALSE NEIGHBOUR: 'it returns false'. Refute it at one input. -/
def stateThereWrong : ChangeSpec := { name := "stateThere", fn := fun _ => fun
  | [d1, d2, d3, d4] => { results := [.lit (.bool false)], args := [d1, d2, d3, d4] }
  | _ => none }
def StateThereWrongFalsely : Prop := stateThereRow.holds Tryz.pinned (OpenSpec.ofChange stateThereWrong)

/-- 'lariatlaw41.ReadsOf': WHATEVER THE INPUT: true; the input reads as it did. -/
def readsOfSpec : ChangeSpec := { name := "readsOf", fn := fun _ => fun
  | [d1, d2] => { results := [.lit (.bool true)], args := [d1, d2] }
  | _ => none }
def readsOfRow : OpenClaim := { program := "ytglnobabdcoknaagreatdoor", sum := "deceb7e549f540c2f2ea9b46f0914a0d67135714fc05b04a55af4185d55bbb13", func := "lariat/lariatlaw41.ReadsOf", spec := "readsOf", unfollowed := true, recurses := true, named := ["lariat/lex.own"], apart := false, laid := [("lariat/lex.own", laid_lariat_lex_own)] }
def ReadsOfSaid : Prop := readsOfRow.holds Tryz.pinned (OpenSpec.ofChange readsOfSpec)

/-- ITS FALSE NEIGHBOUR: 'it returns false'. Refute it at one input. -/
def readsOfWrong : ChangeSpec := { name := "readsOf", fn := fun _ => fun
  | [d1, d2] => { results := [.lit (.bool false)], args := [d1, d2] }
  | _ => none }
def ReadsOfWrongFalsely : Prop := readsOfRow.holds Tryz.pinned (OpenSpec.ofChange readsOfWrong)

/-- 'lariatlaw41.ReadsOwn': WHATEVER THE INPUT: true; the input reads as it did. -/
def readsOwnSpec : ChangeSpec := { name := "readsOwn", fn := fun _ => fun
  | [d1, d2] => { results := [.lit (.bool true)], args := [d1, d2] }
  | _ => none }
def readsOwnRow : OpenClaim := { program := "ytglnobabdcoknaagreatdoor", sum := "deceb7e549f540c2f2ea9b46f0914a0d67135714fc05b04a55af4185d55bbb13", func := "lariat/lariatlaw41.ReadsOwn", spec := "readsOwn", unfollowed := true, recurses := true, named := ["lariat/lex.own"], apart := false, laid := [("lariat/lex.own", laid_lariat_lex_own)] }
def ReadsOwnSaid : Prop := readsOwnRow.holds Tryz.pinned (OpenSpec.ofChange readsOwnSpec)

/-- ITS FALSE NEIGHBOUR: 'it returns false'. Refute it at one input. -/
def readsOwnWrong : ChangeSpec := { name := "readsOwn", fn := fun _ => fun
  | [d1, d2] => { results := [.lit (.bool false)], args := [d1, d2] }
  | _ => none }
def ReadsOwnWrongFalsely : Prop := readsOwnRow.holds Tryz.pinned (OpenSpec.ofChange readsOwnWrong)

/-- 'lariatlaw41.ReadsRead': WHATEVER THE INPUT: true; the input reads as it did. -/
def readsReadSpec : ChangeSpec := { name := "readsRead", fn := fun _ => fun
  | [d1, d2, d3] => { results := [.lit (.bool true)], args := [d1, d2, d3] }
  | _ => none }
def readsReadRow : OpenClaim := { program := "ytglnobabdcoknaagreatdoor", sum := "deceb7e549f540c2f2ea9b46f0914a0d67135714fc05b04a55af4185d55bbb13", func := "lariat/lariatlaw41.ReadsRead", spec := "readsRead", unfollowed := true, recurses := true, named := ["lariat/lex.own"], apart := false, laid := [("lariat/lex.own", laid_lariat_lex_own)] }
def ReadsReadSaid : Prop := readsReadRow.holds Tryz.pinned (OpenSpec.ofChange readsReadSpec)

/-- ITS FALSE NEIGHBOUR: 'it returns false'. Refute it at one input. -/
def readsReadWrong : ChangeSpec := { name := "readsRead", fn := fun _ => fun
  | [d1, d2, d3] => { results := [.lit (.bool false)], args := [d1, d2, d3] }
  | _ => none }
def ReadsReadWrongFalsely : Prop := readsReadRow.holds Tryz.pinned (OpenSpec.ofChange readsReadWrong)

/-- 'lariatlaw41.ReadsWritten': WHATEVER THE INPUT: true; the input reads as it did. -/
def readsWrittenSpec : ChangeSpec := { name := "readsWritten", fn := fun _ => fun
  | [d1, d2] => { results := [.lit (.bool true)], args := [d1, d2] }
  | _ => none }
def readsWrittenRow : OpenClaim := { program := "ytglnobabdcoknaagreatdoor", sum := "deceb7e549f540c2f2ea9b46f0914a0d67135714fc05b04a55af4185d55bbb13", func := "lariat/lariatlaw41.ReadsWritten", spec := "readsWritten", unfollowed := true, recurses := true, named := ["lariat/lex.own"], apart := false, laid := [("lariat/lex.own", laid_lariat_lex_own)] }
def ReadsWrittenSaid : Prop := readsWrittenRow.holds Tryz.pinned (OpenSpec.ofChange readsWrittenSpec)

/-- ITS FALSE NEIGHBOUR: 'it returns false'. Refute it at one input. -/
def readsWrittenWrong : ChangeSpec := { name := "readsWritten", fn := fun _ => fun
  | [d1, d2] => { results := [.lit (.bool false)], args := [d1, d2] }
  | _ => none }
def ReadsWrittenWrongFalsely : Prop := readsWrittenRow.holds Tryz.pinned (OpenSpec.ofChange readsWrittenWrong)

/-- 'lariatlaw41.ReadsParts': WHATEVER THE INPUT: true; the input reads as it did. -/
def readsPartsSpec : ChangeSpec := { name := "readsParts", fn := fun _ => fun
  | [d1, d2] => { results := [.lit (.bool true)], args := [d1, d2] }
  | _ => none }
def readsPartsRow : OpenClaim := { program := "ytglnobabdcoknaagreatdoor", sum := "deceb7e549f540c2f2ea9b46f0914a0d67135714fc05b04a55af4185d55bbb13", func := "lariat/lariatlaw41.ReadsParts", spec := "readsParts", unfollowed := true, recurses := true, named := ["lariat/lex.own"], apart := false, laid := [("lariat/lex.own", laid_lariat_lex_own)] }
def ReadsPartsSaid : Prop := readsPartsRow.holds Tryz.pinned (OpenSpec.ofChange readsPartsSpec)

/-- ITS FALSE NEIGHBOUR: 'it returns false'. Refute it at one input. -/
def readsPartsWrong : ChangeSpec := { name := "readsParts", fn := fun _ => fun
  | [d1, d2] => { results := [.lit (.bool false)], args := [d1, d2] }
  | _ => none }
def ReadsPartsWrongFalsely : Prop := readsPartsRow.holds Tryz.pinned (OpenSpec.ofChange readsPartsWrong)

/- THE SECOND FORM. 'bulk': how many values and letters a reading holds, each counted each time it is reached (what is shared counts as often as it is met; a slice's spare places count too). A statement '..UptoSaid' is the law's where the arguments, and the package variables that the reading takes, are together of bulk at most 1048576: NARROWER than '..Said'. Prove '..Said' where nothing that the law and all that it calls make is longer than what came in: it says more and counts as full. Else prove '..UptoSaid'. A law counts once. -/
mutual
def uptoBulk {H : Type} : DataW H → Nat
  | .lit (.string bytes) => bytes.length + 1
  | .lit _ => 1
  | .nil => 1
  | .ptr d => uptoBulk d + 1
  | .slice elems spare => uptoBulkAll elems + uptoBulkAll spare + 1
  | .agg parts => uptoBulkAll parts + 1
  | .iface _ d => uptoBulk d + 1
  | .map entries => uptoBulkEntries entries + 1
  | .held _ => 1
def uptoBulkAll {H : Type} : List (DataW H) → Nat
  | [] => 0
  | d :: r => uptoBulk d + uptoBulkAll r
def uptoBulkEntries {H : Type} : List (Lit × DataW H) → Nat
  | [] => 0
  | x :: r => uptoBulkEntry x + uptoBulkEntries r
def uptoBulkEntry {H : Type} : Lit × DataW H → Nat
  | (.string bytes, d) => bytes.length + uptoBulk d + 1
  | (_, d) => uptoBulk d + 1
 end
def uptoSmall : (H : Type) → List (DataW H) → Bool := fun _ ds => decide (uptoBulkAll ds ≤ 1048576)
def OpenSpec.upto (s : _root_.Go.ChangeSpec) : _root_.Go.OpenSpec := { _root_.Go.OpenSpec.ofChange s with cond := some uptoSmall }

/-- 'lariatlaw15.ModelCopies', WHERE WHAT IT READS IS OF BULK AT MOST 1048576: true; the input reads as it did. -/
def modelCopiesUptoRow : OpenClaim := { program := "ytglnobabdcoknaagreatdoor", sum := "deceb7e549f540c2f2ea9b46f0914a0d67135714fc05b04a55af4185d55bbb13", func := "lariat/lariatlaw15.ModelCopies", spec := "modelCopies", unfollowed := true, recurses := true, named := ["lariat/lex.own"], apart := false, laid := [("lariat/lex.own", laid_lariat_lex_own)], narrowed := true }
def ModelCopiesUptoSaid : Prop := modelCopiesUptoRow.holds Tryz.pinned (OpenSpec.upto modelCopiesSpec)

/-- 'lariatlaw18.StateRights', WHERE WHAT IT READS IS OF BULK AT MOST 1048576: true; the input reads as it did. -/
def stateRightsUptoRow : OpenClaim := { program := "ytglnobabdcoknaagreatdoor", sum := "deceb7e549f540c2f2ea9b46f0914a0d67135714fc05b04a55af4185d55bbb13", func := "lariat/lariatlaw18.StateRights", spec := "stateRights", unfollowed := true, recurses := true, named := ["lariat/lex.own"], apart := false, laid := [("lariat/lex.own", laid_lariat_lex_own)], narrowed := true }
def StateRightsUptoSaid : Prop := stateRightsUptoRow.holds Tryz.pinned (OpenSpec.upto stateRightsSpec)

/-- 'lariatlaw18.StateEnvs', WHERE WHAT IT READS IS OF BULK AT MOST 1048576: true; the input reads as it did. -/
def stateEnvsUptoRow : OpenClaim := { program := "ytglnobabdcoknaagreatdoor", sum := "deceb7e549f540c2f2ea9b46f0914a0d67135714fc05b04a55af4185d55bbb13", func := "lariat/lariatlaw18.StateEnvs", spec := "stateEnvs", unfollowed := true, recurses := true, named := ["lariat/lex.own"], apart := false, laid := [("lariat/lex.own", laid_lariat_lex_own)], narrowed := true }
def StateEnvsUptoSaid : Prop := stateEnvsUptoRow.holds Tryz.pinned (OpenSpec.upto stateEnvsSpec)

/-- 'lariatlaw18.StateBytes', WHERE WHAT IT READS IS OF BULK AT MOST 1048576: true; the input reads as it did. -/
def stateBytesUptoRow : OpenClaim := { program := "ytglnobabdcoknaagreatdoor", sum := "deceb7e549f540c2f2ea9b46f0914a0d67135714fc05b04a55af4185d55bbb13", func := "lariat/lariatlaw18.StateBytes", spec := "stateBytes", unfollowed := true, recurses := true, named := ["lariat/lex.own"], apart := false, laid := [("lariat/lex.own", laid_lariat_lex_own)], narrowed := true }
def StateBytesUptoSaid : Prop := stateBytesUptoRow.holds Tryz.pinned (OpenSpec.upto stateBytesSpec)

/-- 'lariatlaw18.StateBacks', WHERE WHAT IT READS IS OF BULK AT MOST 1048576: true; the input reads as it did. -/
def stateBacksUptoRow : OpenClaim := { program := "ytglnobabdcoknaagreatdoor", sum := "deceb7e549f540c2f2ea9b46f0914a0d67135714fc05b04a55af4185d55bbb13", func := "lariat/lariatlaw18.StateBacks", spec := "stateBacks", unfollowed := true, recurses := true, named := ["lariat/lex.own"], apart := false, laid := [("lariat/lex.own", laid_lariat_lex_own)], narrowed := true }
def StateBacksUptoSaid : Prop := stateBacksUptoRow.holds Tryz.pinned (OpenSpec.upto stateBacksSpec)

/-- 'lariatlaw18.StateThere', WHERE WHAT IT READS IS OF BULK AT MOST 1048576: true; the input reads as it did. -/
def stateThereUptoRow : OpenClaim := { program := "ytglnobabdcoknaagreatdoor", sum := "deceb7e549f540c2f2ea9b46f0914a0d67135714fc05b04a55af4185d55bbb13", func := "lariat/lariatlaw18.StateThere", spec := "stateThere", unfollowed := true, recurses := true, named := ["lariat/lex.own"], apart := false, laid := [("lariat/lex.own", laid_lariat_lex_own)], narrowed := true }
def StateThereUptoSaid : Prop := stateThereUptoRow.holds Tryz.pinned (OpenSpec.upto stateThereSpec)

/-- 'lariatlaw41.ReadsOf', WHERE WHAT IT READS IS OF BULK AT MOST 1048576: true; the input reads as it did. -/
def readsOfUptoRow : OpenClaim := { program := "ytglnobabdcoknaagreatdoor", sum := "deceb7e549f540c2f2ea9b46f0914a0d67135714fc05b04a55af4185d55bbb13", func := "lariat/lariatlaw41.ReadsOf", spec := "readsOf", unfollowed := true, recurses := true, named := ["lariat/lex.own"], apart := false, laid := [("lariat/lex.own", laid_lariat_lex_own)], narrowed := true }
def ReadsOfUptoSaid : Prop := readsOfUptoRow.holds Tryz.pinned (OpenSpec.upto readsOfSpec)

/-- 'lariatlaw41.ReadsOwn', WHERE WHAT IT READS IS OF BULK AT MOST 1048576: true; the input reads as it did. -/
def readsOwnUptoRow : OpenClaim := { program := "ytglnobabdcoknaagreatdoor", sum := "deceb7e549f540c2f2ea9b46f0914a0d67135714fc05b04a55af4185d55bbb13", func := "lariat/lariatlaw41.ReadsOwn", spec := "readsOwn", unfollowed := true, recurses := true, named := ["lariat/lex.own"], apart := false, laid := [("lariat/lex.own", laid_lariat_lex_own)], narrowed := true }
def ReadsOwnUptoSaid : Prop := readsOwnUptoRow.holds Tryz.pinned (OpenSpec.upto readsOwnSpec)

/-- 'lariatlaw41.ReadsRead', WHERE WHAT IT READS IS OF BULK AT MOST 1048576: true; the input reads as it did. -/
def readsReadUptoRow : OpenClaim := { program := "ytglnobabdcoknaagreatdoor", sum := "deceb7e549f540c2f2ea9b46f0914a0d67135714fc05b04a55af4185d55bbb13", func := "lariat/lariatlaw41.ReadsRead", spec := "readsRead", unfollowed := true, recurses := true, named := ["lariat/lex.own"], apart := false, laid := [("lariat/lex.own", laid_lariat_lex_own)], narrowed := true }
def ReadsReadUptoSaid : Prop := readsReadUptoRow.holds Tryz.pinned (OpenSpec.upto readsReadSpec)

/-- 'lariatlaw41.ReadsWritten', WHERE WHAT IT READS IS OF BULK AT MOST 1048576: true; the input reads as it did. -/
def readsWrittenUptoRow : OpenClaim := { program := "ytglnobabdcoknaagreatdoor", sum := "deceb7e549f540c2f2ea9b46f0914a0d67135714fc05b04a55af4185d55bbb13", func := "lariat/lariatlaw41.ReadsWritten", spec := "readsWritten", unfollowed := true, recurses := true, named := ["lariat/lex.own"], apart := false, laid := [("lariat/lex.own", laid_lariat_lex_own)], narrowed := true }
def ReadsWrittenUptoSaid : Prop := readsWrittenUptoRow.holds Tryz.pinned (OpenSpec.upto readsWrittenSpec)

/-- 'lariatlaw41.ReadsParts', WHERE WHAT IT READS IS OF BULK AT MOST 1048576: true; the input reads as it did. -/
def readsPartsUptoRow : OpenClaim := { program := "ytglnobabdcoknaagreatdoor", sum := "deceb7e549f540c2f2ea9b46f0914a0d67135714fc05b04a55af4185d55bbb13", func := "lariat/lariatlaw41.ReadsParts", spec := "readsParts", unfollowed := true, recurses := true, named := ["lariat/lex.own"], apart := false, laid := [("lariat/lex.own", laid_lariat_lex_own)], narrowed := true }
def ReadsPartsUptoSaid : Prop := readsPartsUptoRow.holds Tryz.pinned (OpenSpec.upto readsPartsSpec)

end Rows
end Go.Proofs.YtglnobabdcoknaaGreatDoor
