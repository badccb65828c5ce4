/- Texts joined: LiteQ. -/
import Derived.Test.YtglnobabdcoknaaGreatDoorQrtxc
import Derived.JoinedCond
set_option linter.all false
section
namespace Lite
open Go Go.RowKit Go.ChangeShapes
theorem joined_of {P : Program} {f : FuncId} {fn : Func} {s : ChangeSpec} {c : OpenClaim} (h1 : (c.wf (OpenSpec.ofChange s) && laidOutB P && mapsRowed P) = true)
  (h2 : (fn.params.all (P.readableRec ·) && namedTie P c.named s.vars) = true) (h3 : ((c.stops == []) && (P.stops == []) && (c.knobs == []) && (P.stopKnobs == [])) = true)
  (h4 : (c.inPlace == P.inPlace f) = true) (h5 : (c.unfollowed == P.unfollowed f) = true) (h6 : (c.recurses == P.recurses f) = true) (h7 : (c.named == P.varsNamed f) = true)
  (h8 : ((c.maps == (fn.params.toList ++ s.plain.varTypes P).any (P.mapsRec ·)) && (c.ifaces == (fn.params.toList ++ s.plain.varTypes P).any (P.ifacesRec ·)) && (c.mapsOut == P.mapsAmong fn.resultTypes.toList)) = true)
  (h9 : ((c.loops == (fn.params.toList ++ s.plain.varTypes P).any (P.loopsFrom ·)) && (c.wideKeys == (fn.params.toList ++ s.plain.varTypes P ++ fn.resultTypes.toList).any (P.wideKeysFrom ·))) = true)
  (h10 : (s.vars.all (P.varReadable ·) && fn.resultTypes.all (fun t => P.readableRec t && decide (t < P.types.size)) && (c.ifacesOut == fn.resultTypes.toList.any (P.ifacesRec ·)) && (c.loopsOut == fn.resultTypes.toList.any (P.loopsFrom ·))) = true)
  (h11 : (c.plainKeys == P.plainKeys) = true) (h12 : (c.shortTexts.isNone && P.stopsHeard) = true) (h13 : P.mayEnter = true)
  (h14 : ((c.lifted == P.liftsFinal) && (P.make == some c.make)) = true)
  (h15 : ((c.kinds == (if c.domain.isEmpty then [] else fn.params.toList.map fun t => match P.underlying t with | some (.int k) => some k | _ => none)) && (c.pinned == c.pinnedBy)) = true)
  (h16 : ((c.veiled == (fn.params.toList ++ s.plain.varTypes P ++ fn.resultTypes.toList).any (P.veiledRec ·)) && c.veiledFits P fn.params.toList (fn.params.toList ++ s.plain.varTypes P ++ fn.resultTypes.toList)) = true) :
  joinedFacts P f fn s c = true := by
 simp only [Bool.and_eq_true] at h1 h2 h3 h8 h9 h10 h12 h14 h15 h16
 unfold joinedFacts
 simp only [Bool.and_eq_true]
 obtain ⟨⟨a1, a2⟩, a3⟩ := h1
 obtain ⟨b1, b2⟩ := h2
 obtain ⟨⟨⟨d1, d2⟩, d3⟩, d4⟩ := h3
 obtain ⟨⟨e1, e2⟩, e3⟩ := h8
 obtain ⟨f1, f2⟩ := h9
 obtain ⟨⟨⟨g1, g2⟩, g3⟩, g4⟩ := h10
 obtain ⟨i1, i2⟩ := h12
 obtain ⟨j1, j2⟩ := h14
 obtain ⟨k1, k2⟩ := h15
 obtain ⟨l1, l2⟩ := h16
 exact ⟨⟨⟨⟨⟨⟨⟨⟨⟨⟨⟨⟨⟨⟨⟨⟨⟨⟨⟨⟨⟨⟨⟨⟨⟨⟨⟨⟨⟨⟨⟨a1, a2⟩, a3⟩, b1⟩, b2⟩, d1⟩, d2⟩, d3⟩, d4⟩, h4⟩, h5⟩, h6⟩, h7⟩, e1⟩, e2⟩, e3⟩, f1⟩, f2⟩, g1⟩, g2⟩, g3⟩, g4⟩, h11⟩, i1⟩, i2⟩, h13⟩, j1⟩, j2⟩, k1⟩, k2⟩, l1⟩, l2⟩
end Lite
end