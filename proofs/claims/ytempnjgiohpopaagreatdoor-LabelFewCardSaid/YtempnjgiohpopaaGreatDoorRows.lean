/-
  NARROWER THAN 'FOR EVERY INPUT', by the rows' own cells (each row's printed sentence says how): ModelCopies: laid · ReadsRead: laid · ReadsWritten: laid · LabelTells: laid · LabelSees: laid · LabelUnseen: laid · LabelFew: laid · DependTells: laid · DependLocal: laid · DependSwaps: laid · DependUnseen: laid.
  DERIVED. THE GIVEN ROWS OF THIS SEAT. 11 by the template 'for every input the law returns true; each argument reads behind the call as it read before'; 0 by the template 'total and deterministic' (their statements: YtempnjgiohpopaaGreatDoorTotals.lean).
  GIVEN WITH THE SEED: the statements are not yours to turn. If you find one false, say at which input.
  Laid BY PROGRAM, IN A SANDBOX (cutbox-rows.mjs): the forced cells as the released guide's own fill.sh prints them over the translation e1f5ab1e601c923b… (all of the seat's roots in one cut). By AI agents, Wed Nov 11 2026. No macro, syntax, notation, axiom, sorry.
-/
import Derived.Test.YtempnjgiohpopaaGreatDoorChecked
import GoSem.Claim
import GoSem.ClaimJoined
import GoSem.ClaimMapViews
import Derived.JoinedTies
import Derived.KernelRfl
namespace Go.Proofs.YtempnjgiohpopaaGreatDoor
/- THE CELL 'sum', in the pinned program and in every row, IS THE sha256 OF THE DUMP (.gsa) THAT YtempnjgiohpopaaGreatDoorProg.lean LOADS. Nothing in Lean hashes anything: it is a label: what it is worth is what the hold of that sum in a sandbox is worth. -/
noncomputable def Tryz.pinned : Pinned := { name := "ytempnjgiohpopaagreatdoor", sum := "e1f5ab1e601c923b9a579ae6dd9b226ecf0395d7220e2d624c1eaf60c92107ae", checked := Tryz.checked }
namespace Rows
def none {H : Type} : Left H := { results := [], args := [] }

/- WHAT THE LISTED PACKAGE-LEVEL VARIABLES READ AS WHEN THE CALL BEGINS. Each datum BY PROGRAM (the guide's laid-datum.mjs) off the statement by which the dump's own 'gosem.cut.vars' lays the variable. In a bare row this is a premise. The card (YtempnjgiohpopaaGreatDoorCards.lean) ties it to the program's text. -/
def laid_lariat_lex_own {H : Type} : DataW H := .agg [.lit (.string [115, 101, 108, 102]), .lit (.string [110, 111, 110, 101]), .lit (.string [108, 101, 110]), .lit (.string [97, 116])]

/-- 'lariatlaw15.ModelCopies': WHATEVER THE INPUT: true; the input reads as it did. -/
def modelCopiesSpec : ChangeSpec := { name := "modelCopies", fn := fun _ => fun
  | [d] => { results := [.lit (.bool true)], args := [d] }
  | _ => none }
def modelCopiesRow : OpenClaim := { program := "ytempnjgiohpopaagreatdoor", sum := "e1f5ab1e601c923b9a579ae6dd9b226ecf0395d7220e2d624c1eaf60c92107ae", func := "lariat/lariatlaw15.ModelCopies", spec := "modelCopies", unfollowed := true, recurses := true, named := ["lariat/lex.own"], apart := false, laid := [("lariat/lex.own", laid_lariat_lex_own)] }
def ModelCopiesSaid : Prop := modelCopiesRow.holds Tryz.pinned (OpenSpec.ofChange modelCopiesSpec)

/-- ITS FALSE NEIGHBOUR: 'it returns false'. Refute it at one input. -/
def modelCopiesWrong : ChangeSpec := { name := "modelCopies", fn := fun _ => fun
  | [d] => { results := [.lit (.bool false)], args := [d] }
  | _ => none }
def ModelCopiesWrongFalsely : Prop := modelCopiesRow.holds Tryz.pinned (OpenSpec.ofChange modelCopiesWrong)

/-- 'lariatlaw41.ReadsRead': WHATEVER THE INPUT: true; the input reads as it did. -/
def readsReadSpec : ChangeSpec := { name := "readsRead", fn := fun _ => fun
  | [d1, d2, d3] => { results := [.lit (.bool true)], args := [d1, d2, d3] }
  | _ => none }
def readsReadRow : OpenClaim := { program := "ytempnjgiohpopaagreatdoor", sum := "e1f5ab1e601c923b9a579ae6dd9b226ecf0395d7220e2d624c1eaf60c92107ae", func := "lariat/lariatlaw41.ReadsRead", spec := "readsRead", unfollowed := true, recurses := true, named := ["lariat/lex.own"], apart := false, laid := [("lariat/lex.own", laid_lariat_lex_own)] }
def ReadsReadSaid : Prop := readsReadRow.holds Tryz.pinned (OpenSpec.ofChange readsReadSpec)

/-- ITS FALSE NEIGHBOUR: 'it returns false'. Refute it at one input. -/
def readsReadWrong : ChangeSpec := { name := "readsRead", fn := fun _ => fun
  | [d1, d2, d3] => { results := [.lit (.bool false)], args := [d1, d2, d3] }
  | _ => none }
def ReadsReadWrongFalsely : Prop := readsReadRow.holds Tryz.pinned (OpenSpec.ofChange readsReadWrong)

/-- 'lariatlaw41.ReadsWritten': WHATEVER THE INPUT: true; the input reads as it did. -/
def readsWrittenSpec : ChangeSpec := { name := "readsWritten", fn := fun _ => fun
  | [d1, d2] => { results := [.lit (.bool true)], args := [d1, d2] }
  | _ => none }
def readsWrittenRow : OpenClaim := { program := "ytempnjgiohpopaagreatdoor", sum := "e1f5ab1e601c923b9a579ae6dd9b226ecf0395d7220e2d624c1eaf60c92107ae", func := "lariat/lariatlaw41.ReadsWritten", spec := "readsWritten", unfollowed := true, recurses := true, named := ["lariat/lex.own"], apart := false, laid := [("lariat/lex.own", laid_lariat_lex_own)] }
def ReadsWrittenSaid : Prop := readsWrittenRow.holds Tryz.pinned (OpenSpec.ofChange readsWrittenSpec)

/-- ITS FALSE NEIGHBOUR: 'it returns false'. Refute it at one input. -/
def readsWrittenWrong : ChangeSpec := { name := "readsWritten", fn := fun _ => fun
  | [d1, d2] => { results := [.lit (.bool false)], args := [d1, d2] }
  | _ => none }
def ReadsWrittenWrongFalsely : Prop := readsWrittenRow.holds Tryz.pinned (OpenSpec.ofChange readsWrittenWrong)

/-- 'lariatlaw21.LabelTells': WHATEVER THE INPUT: true; the input reads as it did. -/
def labelTellsSpec : ChangeSpec := { name := "labelTells", fn := fun _ => fun
  | [d1, d2] => { results := [.lit (.bool true)], args := [d1, d2] }
  | _ => none }
def labelTellsRow : OpenClaim := { program := "ytempnjgiohpopaagreatdoor", sum := "e1f5ab1e601c923b9a579ae6dd9b226ecf0395d7220e2d624c1eaf60c92107ae", func := "lariat/lariatlaw21.LabelTells", spec := "labelTells", unfollowed := true, recurses := true, named := ["lariat/lex.own"], apart := false, laid := [("lariat/lex.own", laid_lariat_lex_own)] }
def LabelTellsSaid : Prop := labelTellsRow.holds Tryz.pinned (OpenSpec.ofChange labelTellsSpec)

/-- ITS FALSE NEIGHBOUR: 'it returns false'. Refute it at one input. -/
def labelTellsWrong : ChangeSpec := { name := "labelTells", fn := fun _ => fun
  | [d1, d2] => { results := [.lit (.bool false)], args := [d1, d2] }
  | _ => none }
def LabelTellsWrongFalsely : Prop := labelTellsRow.holds Tryz.pinned (OpenSpec.ofChange labelTellsWrong)

/-- 'lariatlaw21.LabelSees': WHATEVER THE INPUT: true; the input reads as it did. -/
def labelSeesSpec : ChangeSpec := { name := "labelSees", fn := fun _ => fun
  | [d] => { results := [.lit (.bool true)], args := [d] }
  | _ => none }
def labelSeesRow : OpenClaim := { program := "ytempnjgiohpopaagreatdoor", sum := "e1f5ab1e601c923b9a579ae6dd9b226ecf0395d7220e2d624c1eaf60c92107ae", func := "lariat/lariatlaw21.LabelSees", spec := "labelSees", unfollowed := true, recurses := true, named := ["lariat/lex.own"], apart := false, laid := [("lariat/lex.own", laid_lariat_lex_own)] }
def LabelSeesSaid : Prop := labelSeesRow.holds Tryz.pinned (OpenSpec.ofChange labelSeesSpec)

/-- ITS FALSE NEIGHBOUR: 'it returns false'. Refute it at one input. -/
def labelSeesWrong : ChangeSpec := { name := "labelSees", fn := fun _ => fun
  | [d] => { results := [.lit (.bool false)], args := [d] }
  | _ => none }
def LabelSeesWrongFalsely : Prop := labelSeesRow.holds Tryz.pinned (OpenSpec.ofChange labelSeesWrong)

/-- 'lariatlaw21.LabelUnseen': WHATEVER THE INPUT: true; the input reads as it did. -/
def labelUnseenSpec : ChangeSpec := { name := "labelUnseen", fn := fun _ => fun
  | [d1, d2, d3] => { results := [.lit (.bool true)], args := [d1, d2, d3] }
  | _ => none }
def labelUnseenRow : OpenClaim := { program := "ytempnjgiohpopaagreatdoor", sum := "e1f5ab1e601c923b9a579ae6dd9b226ecf0395d7220e2d624c1eaf60c92107ae", func := "lariat/lariatlaw21.LabelUnseen", spec := "labelUnseen", unfollowed := true, recurses := true, named := ["lariat/lex.own"], apart := false, laid := [("lariat/lex.own", laid_lariat_lex_own)] }
def LabelUnseenSaid : Prop := labelUnseenRow.holds Tryz.pinned (OpenSpec.ofChange labelUnseenSpec)

/-- ITS FALSE NEIGHBOUR: 'it returns false'. Refute it at one input. -/
def labelUnseenWrong : ChangeSpec := { name := "labelUnseen", fn := fun _ => fun
  | [d1, d2, d3] => { results := [.lit (.bool false)], args := [d1, d2, d3] }
  | _ => none }
def LabelUnseenWrongFalsely : Prop := labelUnseenRow.holds Tryz.pinned (OpenSpec.ofChange labelUnseenWrong)

/-- 'lariatlaw21.LabelFew': WHATEVER THE INPUT: true; the input reads as it did. -/
def labelFewSpec : ChangeSpec := { name := "labelFew", fn := fun _ => fun
  | [d1, d2, d3] => { results := [.lit (.bool true)], args := [d1, d2, d3] }
  | _ => none }
def labelFewRow : OpenClaim := { program := "ytempnjgiohpopaagreatdoor", sum := "e1f5ab1e601c923b9a579ae6dd9b226ecf0395d7220e2d624c1eaf60c92107ae", func := "lariat/lariatlaw21.LabelFew", spec := "labelFew", unfollowed := true, recurses := true, named := ["lariat/lex.own"], apart := false, laid := [("lariat/lex.own", laid_lariat_lex_own)] }
def LabelFewSaid : Prop := labelFewRow.holds Tryz.pinned (OpenSpec.ofChange labelFewSpec)

/-- ITS FALSE NEIGHBOUR: 'it returns false'. Refute it at one input. -/
def labelFewWrong : ChangeSpec := { name := "labelFew", fn := fun _ => fun
  | [d1, d2, d3] => { results := [.lit (.bool false)], args := [d1, d2, d3] }
  | _ => none }
def LabelFewWrongFalsely : Prop := labelFewRow.holds Tryz.pinned (OpenSpec.ofChange labelFewWrong)

/-- 'lariatlaw42.DependTells': WHATEVER THE INPUT: true; the input reads as it did. -/
def dependTellsSpec : ChangeSpec := { name := "dependTells", fn := fun _ => fun
  | [d] => { results := [.lit (.bool true)], args := [d] }
  | _ => none }
def dependTellsRow : OpenClaim := { program := "ytempnjgiohpopaagreatdoor", sum := "e1f5ab1e601c923b9a579ae6dd9b226ecf0395d7220e2d624c1eaf60c92107ae", func := "lariat/lariatlaw42.DependTells", spec := "dependTells", unfollowed := true, recurses := true, named := ["lariat/lex.own"], apart := false, laid := [("lariat/lex.own", laid_lariat_lex_own)] }
def DependTellsSaid : Prop := dependTellsRow.holds Tryz.pinned (OpenSpec.ofChange dependTellsSpec)

/-- ITS FALSE NEIGHBOUR: 'it returns false'. Refute it at one input. -/
def dependTellsWrong : ChangeSpec := { name := "dependTells", fn := fun _ => fun
  | [d] => { results := [.lit (.bool false)], args := [d] }
  | _ => none }
def DependTellsWrongFalsely : Prop := dependTellsRow.holds Tryz.pinned (OpenSpec.ofChange dependTellsWrong)

/-- 'lariatlaw42.DependLocal': WHATEVER THE INPUT: true; the input reads as it did. -/
def dependLocalSpec : ChangeSpec := { name := "dependLocal", fn := fun _ => fun
  | [d1, d2, d3, d4] => { results := [.lit (.bool true)], args := [d1, d2, d3, d4] }
  | _ => none }
def dependLocalRow : OpenClaim := { program := "ytempnjgiohpopaagreatdoor", sum := "e1f5ab1e601c923b9a579ae6dd9b226ecf0395d7220e2d624c1eaf60c92107ae", func := "lariat/lariatlaw42.DependLocal", spec := "dependLocal", unfollowed := true, recurses := true, named := ["lariat/lex.own"], apart := false, laid := [("lariat/lex.own", laid_lariat_lex_own)] }
def DependLocalSaid : Prop := dependLocalRow.holds Tryz.pinned (OpenSpec.ofChange dependLocalSpec)

/-- ITS FALSE NEIGHBOUR: 'it returns false'. Refute it at one input. -/
def dependLocalWrong : ChangeSpec := { name := "dependLocal", fn := fun _ => fun
  | [d1, d2, d3, d4] => { results := [.lit (.bool false)], args := [d1, d2, d3, d4] }
  | _ => none }
def DependLocalWrongFalsely : Prop := dependLocalRow.holds Tryz.pinned (OpenSpec.ofChange dependLocalWrong)

/-- 'lariatlaw42.DependSwaps': WHATEVER THE INPUT: true; the input reads as it did. -/
def dependSwapsSpec : ChangeSpec := { name := "dependSwaps", fn := fun _ => fun
  | [d1, d2, d3, d4] => { results := [.lit (.bool true)], args := [d1, d2, d3, d4] }
  | _ => none }
def dependSwapsRow : OpenClaim := { program := "ytempnjgiohpopaagreatdoor", sum := "e1f5ab1e601c923b9a579ae6dd9b226ecf0395d7220e2d624c1eaf60c92107ae", func := "lariat/lariatlaw42.DependSwaps", spec := "dependSwaps", unfollowed := true, recurses := true, named := ["lariat/lex.own"], apart := false, laid := [("lariat/lex.own", laid_lariat_lex_own)] }
def DependSwapsSaid : Prop := dependSwapsRow.holds Tryz.pinned (OpenSpec.ofChange dependSwapsSpec)

/-- ITS FALSE NEIGHBOUR: 'it returns false'. Refute it at one input. -/
def dependSwapsWrong : ChangeSpec := { name := "dependSwaps", fn := fun _ => fun
  | [d1, d2, d3, d4] => { results := [.lit (.bool false)], args := [d1, d2, d3, d4] }
  | _ => none }
def DependSwapsWrongFalsely : Prop := dependSwapsRow.holds Tryz.pinned (OpenSpec.ofChange dependSwapsWrong)

/-- 'lariatlaw42.DependUnseen': WHATEVER THE INPUT: true; the input reads as it did. -/
def dependUnseenSpec : ChangeSpec := { name := "dependUnseen", fn := fun _ => fun
  | [d1, d2, d3] => { results := [.lit (.bool true)], args := [d1, d2, d3] }
  | _ => none }
def dependUnseenRow : OpenClaim := { program := "ytempnjgiohpopaagreatdoor", sum := "e1f5ab1e601c923b9a579ae6dd9b226ecf0395d7220e2d624c1eaf60c92107ae", func := "lariat/lariatlaw42.DependUnseen", spec := "dependUnseen", unfollowed := true, recurses := true, named := ["lariat/lex.own"], apart := false, laid := [("lariat/lex.own", laid_lariat_lex_own)] }
def DependUnseenSaid : Prop := dependUnseenRow.holds Tryz.pinned (OpenSpec.ofChange dependUnseenSpec)

/-- ITS FALSE NEIGHBOUR: 'it returns false'. Refute it at one input. -/
def dependUnseenWrong : ChangeSpec := { name := "dependUnseen", fn := fun _ => fun
  | [d1, d2, d3] => { results := [.lit (.bool false)], args := [d1, d2, d3] }
  | _ => none }
def DependUnseenWrongFalsely : Prop := dependUnseenRow.holds Tryz.pinned (OpenSpec.ofChange dependUnseenWrong)

/- THE SECOND FORM. 'bulk': how many values and letters a reading holds, each counted each time it is reached (what is shared counts as often as it is met; a slice's spare places count too). A statement '..UptoSaid' is the law's where the arguments, and the package variables that the reading takes, are together of bulk at most 1048576: NARROWER than '..Said'. Prove '..Said' where nothing that the law and all that it calls make is longer than what came in: it says more and counts as full. Else prove '..UptoSaid'. A law counts once. -/
mutual
def uptoBulk {H : Type} : DataW H → Nat
  | .lit (.string bytes) => bytes.length + 1
  | .lit _ => 1
  | .nil => 1
  | .ptr d => uptoBulk d + 1
  | .slice elems spare => uptoBulkAll elems + uptoBulkAll spare + 1
  | .agg parts => uptoBulkAll parts + 1
  | .iface _ d => uptoBulk d + 1
  | .map entries => uptoBulkEntries entries + 1
  | .held _ => 1
def uptoBulkAll {H : Type} : List (DataW H) → Nat
  | [] => 0
  | d :: r => uptoBulk d + uptoBulkAll r
def uptoBulkEntries {H : Type} : List (Lit × DataW H) → Nat
  | [] => 0
  | x :: r => uptoBulkEntry x + uptoBulkEntries r
def uptoBulkEntry {H : Type} : Lit × DataW H → Nat
  | (.string bytes, d) => bytes.length + uptoBulk d + 1
  | (_, d) => uptoBulk d + 1
 end
def uptoSmall : (H : Type) → List (DataW H) → Bool := fun _ ds => decide (uptoBulkAll ds ≤ 1048576)
def OpenSpec.upto (s : _root_.Go.ChangeSpec) : _root_.Go.OpenSpec := { _root_.Go.OpenSpec.ofChange s with cond := some uptoSmall }

/-- 'lariatlaw15.ModelCopies', WHERE WHAT IT READS IS OF BULK AT MOST 1048576: true; the input reads as it did. -/
def modelCopiesUptoRow : OpenClaim := { program := "ytempnjgiohpopaagreatdoor", sum := "e1f5ab1e601c923b9a579ae6dd9b226ecf0395d7220e2d624c1eaf60c92107ae", func := "lariat/lariatlaw15.ModelCopies", spec := "modelCopies", unfollowed := true, recurses := true, named := ["lariat/lex.own"], apart := false, laid := [("lariat/lex.own", laid_lariat_lex_own)], narrowed := true }
def ModelCopiesUptoSaid : Prop := modelCopiesUptoRow.holds Tryz.pinned (OpenSpec.upto modelCopiesSpec)

/-- 'lariatlaw41.ReadsRead', WHERE WHAT IT READS IS OF BULK AT MOST 1048576: true; the input reads as it did. -/
def readsReadUptoRow : OpenClaim := { program := "ytempnjgiohpopaagreatdoor", sum := "e1f5ab1e601c923b9a579ae6dd9b226ecf0395d7220e2d624c1eaf60c92107ae", func := "lariat/lariatlaw41.ReadsRead", spec := "readsRead", unfollowed := true, recurses := true, named := ["lariat/lex.own"], apart := false, laid := [("lariat/lex.own", laid_lariat_lex_own)], narrowed := true }
def ReadsReadUptoSaid : Prop := readsReadUptoRow.holds Tryz.pinned (OpenSpec.upto readsReadSpec)

/-- 'lariatlaw41.ReadsWritten', WHERE WHAT IT READS IS OF BULK AT MOST 1048576: true; the input reads as it did. -/
def readsWrittenUptoRow : OpenClaim := { program := "ytempnjgiohpopaagreatdoor", sum := "e1f5ab1e601c923b9a579ae6dd9b226ecf0395d7220e2d624c1eaf60c92107ae", func := "lariat/lariatlaw41.ReadsWritten", spec := "readsWritten", unfollowed := true, recurses := true, named := ["lariat/lex.own"], apart := false, laid := [("lariat/lex.own", laid_lariat_lex_own)], narrowed := true }
def ReadsWrittenUptoSaid : Prop := readsWrittenUptoRow.holds Tryz.pinned (OpenSpec.upto readsWrittenSpec)

/-- 'lariatlaw21.LabelTells', WHERE WHAT IT READS IS OF BULK AT MOST 1048576: true; the input reads as it did. -/
def labelTellsUptoRow : OpenClaim := { program := "ytempnjgiohpopaagreatdoor", sum := "e1f5ab1e601c923b9a579ae6dd9b226ecf0395d7220e2d624c1eaf60c92107ae", func := "lariat/lariatlaw21.LabelTells", spec := "labelTells", unfollowed := true, recurses := true, named := ["lariat/lex.own"], apart := false, laid := [("lariat/lex.own", laid_lariat_lex_own)], narrowed := true }
def LabelTellsUptoSaid : Prop := labelTellsUptoRow.holds Tryz.pinned (OpenSpec.upto labelTellsSpec)

/-- 'lariatlaw21.LabelSees', WHERE WHAT IT READS IS OF BULK AT MOST 1048576: true; the input reads as it did. -/
def labelSeesUptoRow : OpenClaim := { program := "ytempnjgiohpopaagreatdoor", sum := "e1f5ab1e601c923b9a579ae6dd9b226ecf0395d7220e2d624c1eaf60c92107ae", func := "lariat/lariatlaw21.LabelSees", spec := "labelSees", unfollowed := true, recurses := true, named := ["lariat/lex.own"], apart := false, laid := [("lariat/lex.own", laid_lariat_lex_own)], narrowed := true }
def LabelSeesUptoSaid : Prop := labelSeesUptoRow.holds Tryz.pinned (OpenSpec.upto labelSeesSpec)

/-- 'lariatlaw21.LabelUnseen', WHERE WHAT IT READS IS OF BULK AT MOST 1048576: true; the input reads as it did. -/
def labelUnseenUptoRow : OpenClaim := { program := "ytempnjgiohpopaagreatdoor", sum := "e1f5ab1e601c923b9a579ae6dd9b226ecf0395d7220e2d624c1eaf60c92107ae", func := "lariat/lariatlaw21.LabelUnseen", spec := "labelUnseen", unfollowed := true, recurses := true, named := ["lariat/lex.own"], apart := false, laid := [("lariat/lex.own", laid_lariat_lex_own)], narrowed := true }
def LabelUnseenUptoSaid : Prop := labelUnseenUptoRow.holds Tryz.pinned (OpenSpec.upto labelUnseenSpec)

/-- 'lariatlaw21.LabelFew', WHERE WHAT IT READS IS OF BULK AT MOST 1048576: true; the input reads as it did. -/
def labelFewUptoRow : OpenClaim := { program := "ytempnjgiohpopaagreatdoor", sum := "e1f5ab1e601c923b9a579ae6dd9b226ecf0395d7220e2d624c1eaf60c92107ae", func := "lariat/lariatlaw21.LabelFew", spec := "labelFew", unfollowed := true, recurses := true, named := ["lariat/lex.own"], apart := false, laid := [("lariat/lex.own", laid_lariat_lex_own)], narrowed := true }
def LabelFewUptoSaid : Prop := labelFewUptoRow.holds Tryz.pinned (OpenSpec.upto labelFewSpec)

/-- 'lariatlaw42.DependTells', WHERE WHAT IT READS IS OF BULK AT MOST 1048576: true; the input reads as it did. -/
def dependTellsUptoRow : OpenClaim := { program := "ytempnjgiohpopaagreatdoor", sum := "e1f5ab1e601c923b9a579ae6dd9b226ecf0395d7220e2d624c1eaf60c92107ae", func := "lariat/lariatlaw42.DependTells", spec := "dependTells", unfollowed := true, recurses := true, named := ["lariat/lex.own"], apart := false, laid := [("lariat/lex.own", laid_lariat_lex_own)], narrowed := true }
def DependTellsUptoSaid : Prop := dependTellsUptoRow.holds Tryz.pinned (OpenSpec.upto dependTellsSpec)

/-- 'lariatlaw42.DependLocal', WHERE WHAT IT READS IS OF BULK AT MOST 1048576: true; the input reads as it did. -/
def dependLocalUptoRow : OpenClaim := { program := "ytempnjgiohpopaagreatdoor", sum := "e1f5ab1e601c923b9a579ae6dd9b226ecf0395d7220e2d624c1eaf60c92107ae", func := "lariat/lariatlaw42.DependLocal", spec := "dependLocal", unfollowed := true, recurses := true, named := ["lariat/lex.own"], apart := false, laid := [("lariat/lex.own", laid_lariat_lex_own)], narrowed := true }
def DependLocalUptoSaid : Prop := dependLocalUptoRow.holds Tryz.pinned (OpenSpec.upto dependLocalSpec)

/-- 'lariatlaw42.DependSwaps', WHERE WHAT IT READS IS OF BULK AT MOST 1048576: true; the input reads as it did. -/
def dependSwapsUptoRow : OpenClaim := { program := "ytempnjgiohpopaagreatdoor", sum := "e1f5ab1e601c923b9a579ae6dd9b226ecf0395d7220e2d624c1eaf60c92107ae", func := "lariat/lariatlaw42.DependSwaps", spec := "dependSwaps", unfollowed := true, recurses := true, named := ["lariat/lex.own"], apart := false, laid := [("lariat/lex.own", laid_lariat_lex_own)], narrowed := true }
def DependSwapsUptoSaid : Prop := dependSwapsUptoRow.holds Tryz.pinned (OpenSpec.upto dependSwapsSpec)

/-- 'lariatlaw42.DependUnseen', WHERE WHAT IT READS IS OF BULK AT MOST 1048576: true; the input reads as it did. -/
def dependUnseenUptoRow : OpenClaim := { program := "ytempnjgiohpopaagreatdoor", sum := "e1f5ab1e601c923b9a579ae6dd9b226ecf0395d7220e2d624c1eaf60c92107ae", func := "lariat/lariatlaw42.DependUnseen", spec := "dependUnseen", unfollowed := true, recurses := true, named := ["lariat/lex.own"], apart := false, laid := [("lariat/lex.own", laid_lariat_lex_own)], narrowed := true }
def DependUnseenUptoSaid : Prop := dependUnseenUptoRow.holds Tryz.pinned (OpenSpec.upto dependUnseenSpec)

end Rows
end Go.Proofs.YtempnjgiohpopaaGreatDoor
