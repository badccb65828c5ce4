/- The law on names, walked. -/
import Derived.Test.YtoakjdilnkjcgaaDoorNamD
import Derived.Test.YtoakjdilnkjcgaaDoorDeclA
set_option linter.all false
set_option maxRecDepth 4000
set_option maxHeartbeats 3200000
namespace Go.Proofs.YtoakjdilnkjcgaaDoor
open Go Go.RowKit Lite
theorem lawNames_r (cs : List Value) (m : Abs.Model) (w : World) (h : Abs.ModelIs w cs m) (ho : OwnIs w) :
    Ret Tryd.prog F.lariatlaw12_DeclNames #[.agg cs.toArray] w fun v w' => v = .bool true ∧ Ext w w' := by
  obtain ⟨v0, v1, v2, v3, v4, rfl, h0, h1, h2, h3, h4⟩ := h.ex
  obtain ⟨o0, c0, rfl, l0⟩ := h0.form
  obtain ⟨o1, c1, rfl, l1⟩ := h1.form
  obtain ⟨o2, c2, rfl, l2⟩ := h2.form
  obtain ⟨o3, c3, rfl, l3⟩ := h3.form
  obtain ⟨o4, c4, rfl, l4⟩ := h4.form
  refine K.start hmix E.lariatlaw12_DeclNames (args := [_]) (Nat.le_of_ble_eq_true rfl) ?_; dsimp only [C.lariatlaw12_DeclNames,yt,yi,yb,yp,yr,ye,yc,yv,yg,ym,yw,ya,yl,yx,ys,yn]
  refine Sg ?_
  intro w1 b1 hb1 he1 hc1
  refine Sg ?_
  refine K.call (light_r _ m w1 (h.ext he1)) ?_
  rintro _ w2 ⟨⟨b, rfl, hb⟩, he2⟩
  have he02 := he1.trans he2
  have hc2 := he2.obj hc1
  refine Sg ?_
  refine K.condb (fun g1 => ?_) (fun g1 => ?_)
  rotate_left
  · refine Sg ?_
    refine K.call (awake_r w2 (ho.ext he02)) ?_
    rintro _ w3 ⟨rfl, he3⟩
    refine Sg ?_
    exact ⟨by first | trivial | rfl, he02.trans he3⟩
  have hm := hb g1
  refine Sg ?_
  intro w3 he3
  have he03 := he02.trans he3
  have hc3 := he3.obj hc2
  refine Sg ?_
  refine K.call (names_r _ m w3 (h.ext he03) hm) ?_
  rintro _ w4 ⟨⟨va, rfl, hva⟩, he4⟩
  refine ⟨he4, ?_⟩
  refine Sg ?_
  refine K.call (refNames_r _ m w4 (h.ext (he03.trans he4)) hm) ?_
  rintro _ w5 ⟨⟨vb, rfl, hvb⟩, he5⟩
  have he05 := (he03.trans he4).trans he5
  have sa := OwR.slr (enc := encS) (sz := 1) (fun _ => rfl) (hva.ext he5)
  have sb := OwR.slr (enc := encS) (sz := 1) (fun _ => rfl) hvb
  obtain ⟨oa, ca, ea, la⟩ := sa.form
  obtain ⟨ob, cb, eb, lb⟩ := sb.form
  obtain ⟨va0, va1, va2⟩ := va
  obtain ⟨vb0, vb1, vb2⟩ := vb
  cases ea
  cases eb
  refine Sg ?_
  refine K.forG 5 (Abs.names m).length [3, 4] (fun _ => []) () (fun k _ w' => Ext w5 w') (by first | trivial | rfl | exact ⟨rfl, trivial⟩ | (simp -dsimp only [LL,slots_nil,slots_cons,keepV_nil,keepV_cons,has_nil,has_cons,Nat.reduceAdd,Nat.reduceEqDiff,reduceIte,and_self]; done) | (simp -dsimp only [LL,slots_nil,slots_cons,keepV_nil,keepV_cons,has_nil,has_cons,Nat.reduceAdd,Nat.reduceEqDiff,reduceIte,and_self]; exact ⟨rfl, trivial⟩)) (by first | trivial | rfl | exact ⟨rfl, trivial⟩ | (simp -dsimp only [LL,slots_nil,slots_cons,keepV_nil,keepV_cons,has_nil,has_cons,Nat.reduceAdd,Nat.reduceEqDiff,reduceIte,and_self]; done) | (simp -dsimp only [LL,slots_nil,slots_cons,keepV_nil,keepV_cons,has_nil,has_cons,Nat.reduceAdd,Nat.reduceEqDiff,reduceIte,and_self]; exact ⟨rfl, trivial⟩)) (Ext.refl _) ?_
  rintro k _ S w6 hk he6
  refine Sg ?_
  refine K.cond (fun g2 => ?_) (fun g2 => ?_)
  · have hk' : k < (Abs.names m).length := by omega
    obtain ⟨a, rfl⟩ := sa.addr (by omega)
    obtain ⟨a', rfl⟩ := sb.addr (by omega)
    refine Sg ?_
    intro w7 he7
    refine Sg ?_
    exact ⟨hk', by first | trivial | rfl, (), trivial, he6.trans he7⟩
  refine Sg ?_
  refine K.call (awake_r _ (ho.ext (he05.trans he6))) ?_
  rintro _ w7 ⟨rfl, he7⟩
  refine Sg ?_
  exact ⟨by first | trivial | rfl, (he05.trans he6).trans he7⟩
end Go.Proofs.YtoakjdilnkjcgaaDoor
