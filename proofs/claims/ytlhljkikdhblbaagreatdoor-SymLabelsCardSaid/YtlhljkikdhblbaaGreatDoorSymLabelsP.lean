/- The law SymLabels: its row. -/
import Derived.Test.YtlhljkikdhblbaaGreatDoorQsmt
import Derived.Test.YtlhljkikdhblbaaGreatDoorCards
import Derived.Test.YtlhljkikdhblbaaGreatDoorTie
import Derived.WalkKit
import Derived.SizedLaws
import Derived.ProofKit
import Derived.OpenShut
import Derived.Deep.DeepHandedRow
import Derived.Lib.LaidTab
set_option linter.all false
set_option maxRecDepth 20000
namespace Go.Proofs.YtlhljkikdhblbaaGreatDoor.fnSymLabels
open Go.Proofs.R Go.ChangeShapes Go.WideShapes Go.ChangeAt Go.RowKit ba
abbrev rw_ := Rows.symLabelsRow
abbrev sq_ := Rows.symLabelsSpec
theorem own : ownKnob Tryz.prog.godebug = none := by kernel_rfl
theorem laidOut : laidOutB Tryz.prog = true := by kernel_rfl
theorem pars : Tryz.f7.params = #[T.e, T.d, T.b] := by kernel_rfl
theorem table {W : World} (h : laidMetH Tryz.prog rw_.laid W) : gi W :=
  aCV (c := o.sy) (f := []) (g := G.atI) (t := T.C6) (e := T.l) (n := 4) (by kernel_rfl) (by kernel_rfl) (by kernel_rfl) (by kernel_rfl) (by kernel_rfl) (by kernel_rfl) h
theorem contract (H : Type) (enc : TypeId × Value → H) (W : World) (base : Nat) (args : Array Value) (ds gs : List (DataW H)) (before : List MemPlace)
    (hval : ∀ (j : Nat) t v, Tryz.f7.params[j]? = some t → args[j]? = some v → Value.okWide Tryz.prog W .any base t v)
    (hW : DataW.Whole enc Tryz.prog Tryz.f7.params.toList sq_.vars false W args.toList ds gs before) (hwt : (DataW.weightsEach Tryz.prog (Tryz.f7.params.toList ++ (OpenSpec.ofChange sq_).bare.plain.varTypes Tryz.prog) (ds ++ gs)).all (· ≤ reachBytes) = true) (hL : laidMetH Tryz.prog rw_.laid W) :
    Calls Tryz.prog 7 args W fun e W' => ∃ v, e = .returned v ∧ sq_.post enc Tryz.prog Tryz.f7 false true false false W args v W' := by
  have hW' := hW
  obtain ⟨p, q, hA0, hV, rfl, hfz, hnd⟩ := hW
  have hA := hA0
  rw [pars] at hA hval
  obtain ⟨v0, vs0, d0, ds0, p0, q0, hargs, rfl, rfl, h0, r0⟩ := trodAll_cons hA
  obtain ⟨v1, vs1, d1, ds1, p1, q1, rfl, rfl, rfl, h1, r1⟩ := trodAll_cons r0
  obtain ⟨v2, vs2, d2, ds2, p2, q2, rfl, rfl, rfl, h2, r2⟩ := trodAll_cons r1
  obtain ⟨rfl, rfl, rfl⟩ := trodAll_nil r2
  obtain rfl : args = #[v0, v1, v2] := by cases args; simp_all
  clear hA0
  have sm0 : Small Tryz.prog T.e d0 := fun q hq => by
    have := List.all_eq_true.1 hwt q (DataW.weights_mem_each (j := 0) (t := T.e) (d := d0) rfl rfl q hq)
    simpa using this
  have sm1 : Small Tryz.prog T.d d1 := fun q hq => by
    have := List.all_eq_true.1 hwt q (DataW.weights_mem_each (j := 1) (t := T.d) (d := d1) rfl rfl q hq)
    simpa using this
  have sm2 : Small Tryz.prog T.b d2 := fun q hq => by
    have := List.all_eq_true.1 hwt q (DataW.weights_mem_each (j := 2) (t := T.b) (d := d2) rfl rfl q hq)
    simpa using this
  refine (aC8 _ _ _ W (table hL) (hval 0 _ _ rfl rfl) h0 sm0 (hval 1 _ _ rfl rfl) h1 sm1 (hval 2 _ _ rfl rfl) h2 sm2).mono fun e W' cc => ?_
  obtain ⟨rfl, bel⟩ := cc
  exact (aCi (d := T.oo) laidOut (by kernel_rfl) rfl (by kernel_rfl) (by kernel_rfl) (fun ds h => by
    have h2 : ds.length = (#[T.e, T.d, T.b] : Array TypeId).toList.length := h.trans (by rw [pars])
    match ds, h2 with | [d0, d1, d2], _ => rfl) hW' bel)
abbrev wit : Array Value := #[.agg #[.slice none 0 0, .slice none 0 0, .slice none 0 0, .slice none 0 0, .slice none 0 0], .slice none 0 0, .slice none 0 0]
noncomputable def laidWorld (os : Os) : World :=
  { World.holding Tryz.prog os ⟨#[], #[], []⟩ with heap := (World.holding Tryz.prog os ⟨#[], #[], []⟩).heap.modify G.atI fun
      | .cells _ t frozen => .cells #[.string ⟨#[115, 101, 108, 102]⟩, .string ⟨#[110, 111, 110, 101]⟩, .string ⟨#[108, 101, 110]⟩, .string ⟨#[97, 116]⟩] t frozen
      | af => af }
theorem laid_met (os : Os) : laidMet Tryz.prog rw_.laid ((laidWorld os).forCall (fun _ _ => 0) ⟨#[], wit, []⟩).memory :=
  laidMet_of_run' 8 (by kernel_rfl) (by kernel_rfl)
theorem reads (os : Os) {H : Type} (enc : TypeId × Value → H) : ∃ places, DataW.whole enc Tryz.prog ((laidWorld os).forCall (fun _ _ => 0) ⟨#[], wit, []⟩).memory Tryz.f7.params.toList sq_.vars false (wit : Array Value).toList 8 = some ([.agg [.nil, .nil, .nil, .nil, .nil], .nil, .nil], [], places) :=
  ⟨[], by kernel_rfl⟩
set_option maxRecDepth 100000 in
theorem lifted (os : Os) (started : os.Started) (H : Type) (enc : TypeId × Value → H) (F : Stop.Interp) :
    ReturnsInHanded {} Tryz.checked os 7 .any ((OpenSpec.ofChange sq_).preRow enc Tryz.prog Tryz.f7 rw_.domain false rw_.laid) (((OpenSpec.ofChange sq_).at F).post enc Tryz.prog Tryz.f7 false true false false) := by
  obtain ⟨places, hx⟩ := reads os enc
  refine returnsInHanded_of_row (C := Tryz.checked) (s := OpenSpec.ofChange sq_) own started (by kernel_rfl) Tryz.func7
    (witness_row_at (enc := enc) (C := Tryz.checked) false (laidWorld os) wit rfl (by kernel_rfl) (by kernel_rfl) (by kernel_rfl)
      (OpenSpec.preRow_of_cond 8 hx (by kernel_rfl) (fun k J => by cases J) (by kernel_rfl) (laid_met os))) ?_
  intro W base args ds gs before hval hW _ _ hwt hL _ _
  exact contract H enc W base args ds gs before hval hW hwt hL
abbrev sp_ : ChangeSpec := (OpenSpec.ofChange sq_).bare
theorem j1 : (rw_.wf (OpenSpec.ofChange sp_) && laidOutB Tryz.prog && mapsRowed Tryz.prog) = true := by kernel_rfl
theorem j2 : (Tryz.f7.params.all (Tryz.prog.readableRec ·) && namedTie Tryz.prog rw_.named sp_.vars) = true := by kernel_rfl
theorem j3 : ((rw_.stops == []) && (Tryz.prog.stops == []) && (rw_.knobs == []) && (Tryz.prog.stopKnobs == [])) = true := by kernel_rfl
theorem j4 : (rw_.inPlace == Tryz.prog.inPlace 7) = true := by kernel_rfl
theorem j5 : (rw_.unfollowed == Tryz.prog.unfollowed 7) = true := by kernel_rfl
theorem j6 : (rw_.recurses == Tryz.prog.recurses 7) = true := by kernel_rfl
theorem j7 : (rw_.named == Tryz.prog.varsNamed 7) = true := by kernel_rfl
theorem j8 : ((rw_.maps == (Tryz.f7.params.toList ++ sp_.plain.varTypes Tryz.prog).any (Tryz.prog.mapsRec ·)) && (rw_.ifaces == (Tryz.f7.params.toList ++ sp_.plain.varTypes Tryz.prog).any (Tryz.prog.ifacesRec ·)) && (rw_.mapsOut == Tryz.prog.mapsAmong Tryz.f7.resultTypes.toList)) = true := by kernel_rfl
theorem j9 : ((rw_.loops == (Tryz.f7.params.toList ++ sp_.plain.varTypes Tryz.prog).any (Tryz.prog.loopsFrom ·)) && (rw_.wideKeys == (Tryz.f7.params.toList ++ sp_.plain.varTypes Tryz.prog ++ Tryz.f7.resultTypes.toList).any (Tryz.prog.wideKeysFrom ·))) = true := by kernel_rfl
theorem j10 : (sp_.vars.all (Tryz.prog.varReadable ·) && Tryz.f7.resultTypes.all (fun t => Tryz.prog.readableRec t && decide (t < Tryz.prog.types.size)) && (rw_.ifacesOut == Tryz.f7.resultTypes.toList.any (Tryz.prog.ifacesRec ·)) && (rw_.loopsOut == Tryz.f7.resultTypes.toList.any (Tryz.prog.loopsFrom ·))) = true := by kernel_rfl
theorem j11 : (rw_.plainKeys == Tryz.prog.plainKeys) = true := by kernel_rfl
theorem j12 : (rw_.shortTexts.isNone && Tryz.prog.stopsHeard) = true := by kernel_rfl
theorem j13 : Tryz.prog.mayEnter = true := by kernel_rfl
theorem j14 : ((rw_.lifted == Tryz.prog.liftsFinal) && (Tryz.prog.make == some rw_.make)) = true := by kernel_rfl
theorem j15 : ((rw_.kinds == (if rw_.domain.isEmpty then [] else Tryz.f7.params.toList.map fun t => match Tryz.prog.underlying t with | some (.int k) => some k | _ => none)) && (rw_.pinned == rw_.pinnedBy)) = true := by kernel_rfl
theorem j16 : ((rw_.veiled == (Tryz.f7.params.toList ++ sp_.plain.varTypes Tryz.prog ++ Tryz.f7.resultTypes.toList).any (Tryz.prog.veiledRec ·)) && rw_.veiledFits Tryz.prog Tryz.f7.params.toList (Tryz.f7.params.toList ++ sp_.plain.varTypes Tryz.prog ++ Tryz.f7.resultTypes.toList)) = true := by kernel_rfl
theorem named : Tryz.prog.funcNamed "lariat/lariatlaw44.SymLabels" = some 7 := by kernel_rfl
theorem wrap : Tryz.f7.isWrapper Tryz.prog rw_.wrapper rw_.mainSum := by unfold Func.isWrapper; first | (rw [if_pos (by decide +kernel)]; kernel_rfl) | (rw [if_neg (by decide +kernel)]; exact ⟨rfl, rfl⟩)
theorem inst : Tryz.f7.isInstance Tryz.prog rw_.origin rw_.targs := of_decide_eq_true (by kernel_rfl)
theorem said : Rows.SymLabelsSaid :=
  OpenClaim.holds_of_cond 7 Tryz.f7 rfl rfl rfl rfl rfl rfl rfl ⟨rfl, rfl, rfl, rfl, rfl⟩ rfl rfl rfl rfl rfl named Tryz.func7 (aCd j1 j2 j3 j4 j5 j6 j7 j8 j9 j10 j11 j12 j13 j14 j15 j16)
    inst wrap
    (fun os started H enc _ F => by rw [OpenClaim.pre_eq_preRow]; exact lifted os started H enc F)
end Go.Proofs.YtlhljkikdhblbaaGreatDoor.fnSymLabels
