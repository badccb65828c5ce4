/- Texts joined: ModJ ModO ModZ. -/
import Derived.Test.YtbbaokmelkiemaaGreatDoorQi
import Derived.Test.YtbbaokmelkiemaaGreatDoorQj
import Derived.Test.YtbbaokmelkiemaaGreatDoorQk
import Derived.Test.YtbbaokmelkiemaaGreatDoorQl
set_option linter.all false
section
/- Whole models: what is wrong first, the document's. -/
set_option maxRecDepth 8000
set_option maxHeartbeats 16000000
namespace Go.Proofs.YtbbaokmelkiemaaGreatDoor
open Go Go.RowKit Lite
theorem refProcess_r (cs : List Value) (m : Abs.Model) (k : Nat) (w : World) (h : Abs.ModelIs w cs m) (hg : m.good) (hk : k < m.procs.length) (hk6 : k ≤ 6) (hdf : m.scalars.length ≤ 2 ∧ m.vars.length ≤ 12 ∧ m.chans.length ≤ 4) (hp6 : k < 6 → ∀ j, j < k → (Abs.eproc m j).1 = 0) :
    Ret Tryz.prog F.lariatref15_process #[.agg cs.toArray, .int .i64 k] w fun v w' => v = faultV (if (Abs.eproc m k).1 ≠ 0 then ⟨(Abs.eproc m k).1, 4, k, (Abs.eproc m k).2⟩ else Abs.fine) ∧ Ext w w' := by
  have hM := h
  obtain ⟨o0, c0, o1, c1, o2, c2, o3, c3, o4, c4, rfl, h0, h1, h2, h3, h4, l0, l1, l2, l3, l4⟩ := h.form
  have hget := Abs.eproc_get hk
  refine K.start hmix E.lariatref15_process (args := [_, _]) (Nat.le_of_ble_eq_true rfl) ?_; dsimp only [C.lariatref15_process,yt,yi,yb,yp,yr,ye,yc,yv,yg,ym,yw,ya,yl,yx,ys,yn]
  refine Sg ?_
  intro w1 b1 hb1 he1 hc1
  refine Sg ?_
  intro w2 b2 hb2 he2 hc2
  replace hc1 := he2.obj hc1
  have e2 := he1.trans he2
  have z1 := lt_of_heap hc1
  have z2 := he1.size
  refine Sg ?_
  refine K.cond (fun g1 => ?_) (fun g1 => ?_)
  · rw [if_pos (by omega)] at hget
    refine Sg ?_
    intro w3 hw3 hc3
    refine Sg ?_
    exact ⟨by rw [hget]; rfl, hw3.ext e2 (by omega)⟩
  rw [if_neg (by omega)] at hget
  obtain ⟨a, rfl⟩ := h3.addr (by omega)
  obtain ⟨hsn, vv, vc, hp, hpv, hpc⟩ := h3.at k hk
  obtain ⟨ov, cv, rfl, lv⟩ := hpv.form
  obtain ⟨oc, cc, rfl, lc⟩ := hpc.form
  have hpg := hg.proc _ (List.getElem_mem hk)
  replace hp := hp.ext e2
  refine Sg ?_
  intro w3 b5 hb5 he3 hc5
  replace hc1 := he3.obj hc1
  replace hc2 := he3.obj hc2
  refine Sg ?_
  intro w4 he4
  replace hc1 := he4.obj hc1
  replace hc2 := he4.obj hc2
  replace hc5 := he4.obj hc5
  have e4 := (e2.trans he3).trans he4
  refine Sg ?_
  refine K.call (refScope_r (w0 := w) _ m k w4 hM e4 hg) ?_
  rintro _ w5 ⟨⟨cs5, rfl, hsc⟩, he5⟩
  refine ⟨he5, ?_⟩
  have e5 := e4.trans he5
  obtain ⟨x0, y0, x1, y1, x2, y2, x3, y3, x4, y4, rfl, _⟩ := (hsc _ e5).form
  refine Sg ?_
  refine K.call (rpcheck_r m.procs[k] _ _ (Abs.pscope m k) w5 ⟨hsn, _, _, rfl, hpv.ext e5, hpc.ext e5⟩ (hsc _ e5) (hg.pscope _) hpg) ?_
  rintro _ w6 ⟨rfl, he6⟩
  replace hc1 := (he5.trans he6).obj hc1
  replace hc2 := (he5.trans he6).obj hc2
  replace hc5 := (he5.trans he6).obj hc5
  have e6 := e5.trans he6
  clear e2 e4 hp
  have hin := Abs.procCheck_in m.procs[k] (Abs.pscope m k) 140737488351232 fun c hc => by have := (hpg.cmd c hc).acts; unfold Abs.big at this; omega
  have hvb : m.procs[k].vars.length ≤ 140737488351232 := by have := hpg.vars; unfold Abs.big at this; omega
  have hcb : m.procs[k].cmds.length ≤ 140737488351232 := by have := hpg.cmds; unfold Abs.big at this; omega
  refine Sg ?_
  refine K.cond (fun g2 => ?_) (fun g2 => ?_)
  rotate_left
  · rw [if_pos g2] at hget
    refine Sg ?_
    intro w7 hw7 hc7
    refine Sg ?_
    exact ⟨by rw [hget, if_pos g2]; rfl, hw7.ext e6 (by omega)⟩
  rw [if_neg (by simpa using g2)] at hget
  have hlen : ∀ (i : Int), m.scalars.length + Abs.upN 1 4 i m.vars.length + Abs.upN 2 4 i m.chans.length + Abs.upN 3 4 k m.procs.length + Abs.upL 4 i m.props.length ≤ 8000000000000 := fun i => by
    have q1 := Abs.upN_le 1 4 i m.vars.length
    have q2 := Abs.upN_le 2 4 i m.chans.length
    have q3 : Abs.upN 3 4 k m.procs.length ≤ k := by unfold Abs.upN; (repeat' split) <;> omega
    have q4 : Abs.upL 4 i m.props.length = 0 := by unfold Abs.upL; rw [if_neg (by decide)]
    omega
  refine Sg ?_
  intro w7 he7
  replace hc1 := he7.obj hc1
  replace hc2 := he7.obj hc2
  replace hc5 := he7.obj hc5
  have e7 := e6.trans he7
  refine Sg ?_
  refine K.call (ahead_r _ m 4 k w7 (hM.ext e7) (by omega) (by omega) (hlen k)) ?_
  rintro _ w8 ⟨⟨v, rfl, hown⟩, he8⟩
  refine ⟨he8, ?_⟩
  rw [Abs.aheadP] at hown
  replace hc1 := he8.obj hc1
  replace hc2 := he8.obj hc2
  replace hc5 := he8.obj hc5
  have e8 := e7.trans he8
  refine Sg ?_
  refine K.call (has_r v _ m.procs[k].name _ w8 hown) ?_
  rintro _ wA ⟨rfl, rfl⟩
  refine Sg ?_
  refine K.cond (fun g3 => ?_) (fun g3 => ?_)
  · rw [if_pos g3] at hget
    refine Sg ?_
    intro w9 hw9 hc9
    refine Sg ?_
    exact ⟨by rw [hget]; rfl, hw9.ext e8 (by omega)⟩
  rw [if_neg g3] at hget
  have hpl : m.procs.length * 80 ≤ 140737488355328 := by have := hg.procs; unfold Abs.big at this; omega
  have hlen5 : m.scalars.length + Abs.upN 1 5 (0 : Nat) m.vars.length + Abs.upN 2 5 (0 : Nat) m.chans.length + Abs.upN 3 5 (0 : Nat) m.procs.length + Abs.upL 5 (0 : Nat) m.props.length ≤ 8000000000000 := by
    have q1 := Abs.upN_le 1 5 (0 : Nat) m.vars.length
    have q2 := Abs.upN_le 2 5 (0 : Nat) m.chans.length
    have q3 := Abs.upN_le 3 5 (0 : Nat) m.procs.length
    have q4 : Abs.upL 5 (0 : Nat) m.props.length = 0 := by unfold Abs.upL; rw [if_pos (by decide)]; simp
    omega
  have hc1w := hc1
  have hc2w := hc2
  have hc5w := hc5
  clear hc1 hc2 hc5 hown
  have hc1 := hc1w
  have hc5 := hc5w
  refine Sg ?_
  refine K.forG 9 m.procs[k].vars.length [1, 2, 4, 5] (fun _ : Unit => []) () (fun j _ w' => Ext wA w' ∧ ∀ i, i < j → Abs.elocs m m.procs[k] i = 0) (by first | trivial | rfl | exact ⟨rfl, trivial⟩ | (simp -dsimp only [LL,slots_nil,slots_cons,keepV_nil,keepV_cons,has_nil,has_cons,Nat.reduceAdd,Nat.reduceEqDiff,reduceIte,and_self]; done) | (simp -dsimp only [LL,slots_nil,slots_cons,keepV_nil,keepV_cons,has_nil,has_cons,Nat.reduceAdd,Nat.reduceEqDiff,reduceIte,and_self]; exact ⟨rfl, trivial⟩)) (by first | trivial | rfl | exact ⟨rfl, trivial⟩ | (simp -dsimp only [LL,slots_nil,slots_cons,keepV_nil,keepV_cons,has_nil,has_cons,Nat.reduceAdd,Nat.reduceEqDiff,reduceIte,and_self]; done) | (simp -dsimp only [LL,slots_nil,slots_cons,keepV_nil,keepV_cons,has_nil,has_cons,Nat.reduceAdd,Nat.reduceEqDiff,reduceIte,and_self]; exact ⟨rfl, trivial⟩)) ⟨Ext.refl _, fun j h => absurd h (Nat.not_lt_zero _)⟩ ?_
  clear hc1 hc5
  rintro j _ S w9 hj ⟨he9, hz⟩
  have hc1 := he9.obj hc1w
  have hc2 := he9.obj hc2w
  have hc5 := he9.obj hc5w
  have e9 := e8.trans he9
  refine Sg ?_
  refine K.cond (fun g4 => ?_) (fun g4 => ?_)
  · have hj' : j < m.procs[k].vars.length := by omega
    obtain ⟨a', rfl⟩ := hpv.addr (by omega)
    have hcv := ((hpv.at j hj').cells).ext e9
    have hnm := Abs.nameAt_get (f := fun x : Abs.Var => x.name) hj'
    refine Sg ?_
    intro w10 he10
    replace hc1 := he10.obj hc1
    replace hc2 := he10.obj hc2
    replace hc5 := he10.obj hc5
    replace hcv := hcv.ext he10
    have e10 := e9.trans he10
    refine Sg ?_
    refine K.call (ahead_r _ m 5 (0 : Nat) w10 (hM.ext e10) (by omega) (by omega) hlen5) ?_
    rintro _ w11 ⟨⟨v2, rfl, hown2⟩, he11⟩
    refine ⟨he11, ?_⟩
    rw [Abs.aheadR] at hown2
    replace hc1 := he11.obj hc1
    replace hc2 := he11.obj hc2
    replace hc5 := he11.obj hc5
    have e11 := e10.trans he11
    refine Sg ?_
    refine K.call (has_r v2 _ m.procs[k].vars[j].name _ w11 hown2) ?_
    rintro _ wB ⟨rfl, rfl⟩
    have hall : Abs.nAll m 0 = Abs.nSVCP m m.procs.length := by simp [Abs.nAll]
    rw [hall]
    refine Sg ?_
    refine K.cond (fun g5 => ?_) (fun g5 => ?_)
    · have hel : Abs.elocs m m.procs[k] j = 7 := by unfold Abs.elocs; rw [hnm, if_pos g5]
      rw [Abs.first_stop hj' hz (by rw [hel]; decide), hel, if_pos (show (7 : Int) ≠ 0 by decide)] at hget
      refine Sg ?_
      intro w12 hw12 hc12
      refine Sg ?_
      exact ⟨by rw [hget]; rfl, hw12.ext e11 (by omega)⟩
    · refine Sg ?_
      refine ⟨hj', by first | trivial | rfl, (), trivial, (he9.trans he10).trans he11, fun i hi => ?_⟩
      by_cases hij : i = j
      · subst hij
        unfold Abs.elocs
        rw [hnm, if_neg g5]
      · exact hz i (by omega)
  · rw [Abs.first_none fun i hi => hz i (by omega), if_neg (by simp)] at hget
    refine Sg ?_
    intro w10 hw10 hc10
    refine Sg ?_
    exact ⟨by rw [hget]; rfl, hw10.ext e9 (by omega)⟩
theorem refProposition_r (cs : List Value) (m : Abs.Model) (k : Nat) (w : World) (h : Abs.ModelIs w cs m) (hg : m.good) (hk : k < m.props.length) (hk8 : k ≤ 8) (hdf : m.scalars.length ≤ 2 ∧ m.vars.length ≤ 12 ∧ m.chans.length ≤ 4) (hp6 : m.procs.length ≤ 6) :
    Ret Tryz.prog F.lariatref15_proposition #[.agg cs.toArray, .int .i64 k] w fun v w' => v = .int .i64 (Abs.eprop m k) ∧ Ext w w' := by
  have hM := h
  obtain ⟨o0, c0, o1, c1, o2, c2, o3, c3, o4, c4, rfl, h0, h1, h2, h3, h4, l0, l1, l2, l3, l4⟩ := h.form
  have hget := Abs.eprop_get hk
  refine K.start hmix E.lariatref15_proposition (args := [_, _]) (Nat.le_of_ble_eq_true rfl) ?_; dsimp only [C.lariatref15_proposition,yt,yi,yb,yp,yr,ye,yc,yv,yg,ym,yw,ya,yl,yx,ys,yn]
  refine Sg ?_
  intro w1 b1 hb1 he1 hc1
  refine Sg ?_
  refine K.cond (fun g1 => ?_) (fun g1 => ?_)
  · rw [if_pos (by omega)] at hget
    refine Sg ?_
    exact ⟨by rw [hget], he1⟩
  rw [if_neg (by omega)] at hget
  obtain ⟨a, rfl⟩ := h4.addr (by omega)
  obtain ⟨hsn, ve, hp, hpe⟩ := h4.at k hk
  obtain ⟨oe, ce, rfl, le⟩ := hpe.form
  replace hp := hp.ext he1
  refine Sg ?_
  intro w2 b5 hb5 he2 hc5
  replace hc1 := he2.obj hc1
  have e2 := he1.trans he2
  refine Sg ?_
  refine K.call (rname_r m.props[k].name w2 hsn) ?_
  rintro _ w3 ⟨rfl, he3⟩
  replace hc1 := he3.obj hc1
  replace hc5 := he3.obj hc5
  have e3 := e2.trans he3
  refine Sg ?_
  refine K.condb (fun g2 => ?_) (fun g2 => ?_)
  rotate_left
  · rw [if_pos g2] at hget
    refine Sg ?_
    exact ⟨by rw [hget], e3⟩
  rw [if_neg (by rw [g2]; decide)] at hget
  refine Sg ?_
  intro w4 he4
  replace hc1 := he4.obj hc1
  replace hc5 := he4.obj hc5
  have e4 := e3.trans he4
  refine Sg ?_
  refine K.call (ahead_r _ m 5 k w4 (hM.ext e4) (by omega) (by omega) (by
    have q1 := Abs.upN_le 1 5 k m.vars.length
    have q2 := Abs.upN_le 2 5 k m.chans.length
    have q3 := Abs.upN_le 3 5 k m.procs.length
    have q4 : Abs.upL 5 k m.props.length ≤ k := by unfold Abs.upL; (repeat' split) <;> omega
    omega)) ?_
  rintro _ w5 ⟨⟨v2, rfl, hown2⟩, he5⟩
  refine ⟨he5, ?_⟩
  rw [Abs.aheadR] at hown2
  replace hc1 := he5.obj hc1
  replace hc5 := he5.obj hc5
  have e5 := e4.trans he5
  refine Sg ?_
  refine K.call (has_r v2 _ m.props[k].name _ w5 hown2) ?_
  rintro _ wB ⟨rfl, rfl⟩
  refine Sg ?_
  refine K.cond (fun g3 => ?_) (fun g3 => ?_)
  · rw [if_pos g3] at hget
    refine Sg ?_
    exact ⟨by rw [hget], e5⟩
  rw [if_neg g3] at hget
  have hsc : ∀ w', Ext w w' → Abs.ScopeIs w' [.slice o0 m.scalars.length c0, .slice o1 m.vars.length c1, .slice o2 m.chans.length c2, .slice o3 m.procs.length c3, .slice none 0 0, .int .i64 0] (Abs.mscope m) := fun w' e =>
    ⟨hg.scope.sm.1, _, _, _, _, _, rfl, h0.ext e, h1.ext e, h2.ext e, h3.ext e, SlR.nil, hg.scope.sm.2⟩
  refine Sg ?_
  refine K.call (refKind_r _ m.props[k].expr _ (Abs.mscope m) _ (hpe.ext e5) (hsc _ e5)) ?_
  rintro _ w6 ⟨rfl, he6⟩
  refine Sg ?_
  refine K.cond (fun g4 => ?_) (fun g4 => ?_)
  rotate_left
  · rw [if_pos g4] at hget
    refine Sg ?_
    exact ⟨by rw [hget], e5.trans he6⟩
  rw [if_neg (by simpa using g4)] at hget
  refine Sg ?_
  refine K.cond (fun g5 => ?_) (fun g5 => ?_)
  rotate_left
  · rw [if_pos g5] at hget
    refine Sg ?_
    exact ⟨by rw [hget], e5.trans he6⟩
  rw [if_neg (by simpa using g5)] at hget
  refine Sg ?_
  exact ⟨by rw [hget], e5.trans he6⟩
theorem refCheck_r (cs : List Value) (m : Abs.Model) (w : World) (h : Abs.ModelIs w cs m) (hg : m.good) :
    Ret Tryz.prog F.lariatref15_Check #[.agg cs.toArray] w fun v w' => v = faultV (Abs.check m) ∧ Ext w w' := by
  have hM := h
  obtain ⟨o0, c0, o1, c1, o2, c2, o3, c3, o4, c4, rfl, h0, h1, h2, h3, h4, l0, l1, l2, l3, l4⟩ := h.form
  refine K.start hmix E.lariatref15_Check (args := [_]) (Nat.le_of_ble_eq_true rfl) ?_; dsimp only [C.lariatref15_Check,yt,yi,yb,yp,yr,ye,yc,yv,yg,ym,yw,ya,yl,yx,ys,yn]
  simp -dsimp only [B9]
  refine Su ?_
  intro w1 b1 hb1 he1 hc1
  refine Su ?_
  intro w2 b2 hb2 he2 hc2
  replace hc1 := he2.obj hc1
  have e2 := he1.trans he2
  have z1 := lt_of_heap hc1
  have z2 := lt_of_heap hc2
  have z3 := he1.size
  refine Su ?_
  simp -dsimp only [B9]
  refine Su ?_
  refine K.call (refData_r _ m w2 (hM.ext e2)) ?_
  rintro _ w3 ⟨rfl, he3⟩
  replace hc1 := he3.obj hc1
  replace hc2 := he3.obj hc2
  unfold faultV
  have z4 := he2.size
  have z5 := he3.size
  refine Su ?_
  intro w4 b3 hb3 he4 hc3
  replace hc1 := he4.obj hc1
  replace hc2 := he4.obj hc2
  have e4 := (e2.trans he3).trans he4
  have z6 := lt_of_heap hc3
  have hc1w := hc1
  have hc2w := hc2
  have hM4 := hM.ext e4
  refine Su ?_
  refine K.cutG [1, 2, 3] (fun _ : Abs.Fault => []) (fun f w' => Mod (fun i => i = b3) w4 w' ∧ w'.heap[b3]? = some (.cells #[.int .i64 f.why, .int .i64 f.part, .int .i64 f.item, .int .i64 f.sub] T.api_Fault) ∧
    ((f.why ≠ 0 ∧ f = Abs.check m) ∨ (f.why = 0 ∧ (Abs.data m).why = 0 ∧ ∀ j, j < m.procs.length → (Abs.eproc m j).1 = 0))) ?_ ?_
  · refine Sg ?_
    refine K.forG 4 m.procs.length [1, 2, 3] (fun _ : Abs.Fault => []) (Abs.data m) (fun k f w' => Mod (fun i => i = b3) w4 w' ∧ w'.heap[b3]? = some (.cells #[.int .i64 f.why, .int .i64 f.part, .int .i64 f.item, .int .i64 f.sub] T.api_Fault) ∧
      ((f = Abs.data m ∧ (Abs.data m).why ≠ 0) ∨ ((Abs.data m).why = 0 ∧ f.why = 0 ∧ ∀ j, j < k → (Abs.eproc m j).1 = 0) ∨ ((Abs.data m).why = 0 ∧ f = Abs.procsF m ∧ (Abs.procsF m).why ≠ 0))) (by first | trivial | rfl | exact ⟨rfl, trivial⟩ | (simp -dsimp only [LL,slots_nil,slots_cons,keepV_nil,keepV_cons,has_nil,has_cons,Nat.reduceAdd,Nat.reduceEqDiff,reduceIte,and_self]; done) | (simp -dsimp only [LL,slots_nil,slots_cons,keepV_nil,keepV_cons,has_nil,has_cons,Nat.reduceAdd,Nat.reduceEqDiff,reduceIte,and_self]; exact ⟨rfl, trivial⟩)) (by first | trivial | rfl | exact ⟨rfl, trivial⟩ | (simp -dsimp only [LL,slots_nil,slots_cons,keepV_nil,keepV_cons,has_nil,has_cons,Nat.reduceAdd,Nat.reduceEqDiff,reduceIte,and_self]; done) | (simp -dsimp only [LL,slots_nil,slots_cons,keepV_nil,keepV_cons,has_nil,has_cons,Nat.reduceAdd,Nat.reduceEqDiff,reduceIte,and_self]; exact ⟨rfl, trivial⟩)) ⟨Mod.refl _ _, hc3, by
        by_cases h : (Abs.data m).why = 0
        · exact .inr (.inl ⟨h, h, fun j h => absurd h (Nat.not_lt_zero _)⟩)
        · exact .inl ⟨rfl, h⟩⟩ ?_
    clear hc1 hc2 hc3
    rintro k f S w5 hk ⟨m5, hc3, hf⟩
    have hc1 := m5.obj (by omega) hc1w
    have hc2 := m5.obj (by omega) hc2w
    have e5 := m5.ext e4 (fun i hi e => by omega)
    have fin1 : f.why ≠ 0 → (f.why ≠ 0 ∧ f = Abs.check m) := fun hw => ⟨hw, by
      rcases hf with ⟨rfl, h⟩ | ⟨_, h, _⟩ | ⟨h1, rfl, h2⟩
      · rw [Abs.check, if_pos h]
      · exact absurd h hw
      · rw [Abs.check, if_neg (by simpa using h1), if_pos h2]⟩
    refine Sg ?_
    refine K.cond (fun g1 => ?_) (fun g1 => ?_)
    · have hk' : k < m.procs.length := by omega
      refine Sg ?_
      refine K.cond (fun g2 => ?_) (fun g2 => ?_)
      · have hf2 : (Abs.data m).why = 0 ∧ f.why = 0 ∧ ∀ j, j < k → (Abs.eproc m j).1 = 0 := by
          rcases hf with ⟨rfl, h⟩ | h | ⟨h1, rfl, h2⟩
          · exact absurd g2 h
          · exact h
          · exact absurd g2 h2
        have hk6 : k ≤ 6 := by
          apply Classical.byContradiction
          intro hn
          have := Abs.eproc_lt (m := m) (i := 6) (by omega) (hf2.2.2 6 (by omega))
          omega
        refine Sg ?_
        refine K.call (refProcess_r _ m k w5 (hM.ext e5) hg hk' hk6 (Abs.data_few hf2.1) fun _ => hf2.2.2) ?_
        rintro _ w6 ⟨rfl, he6⟩
        unfold faultV
        replace hc1 := he6.obj hc1
        replace hc2 := he6.obj hc2
        replace hc3 := he6.obj hc3
        refine Sg ?_
        intro w7 hw7 hc7
        refine Sg ?_
        refine ⟨hk', by first | trivial | rfl, _, trivial, (m5.trans he6.mod).trans (hw7.mod rfl), hc7, ?_⟩
        by_cases h0 : (Abs.eproc m k).1 = 0
        · rw [if_neg (by simpa using h0)]
          refine .inr (.inl ⟨hf2.1, rfl, fun j hj => ?_⟩)
          by_cases hjk : j = k
          · subst hjk; exact h0
          · exact hf2.2.2 j (by omega)
        · rw [if_pos h0]
          have := Abs.procs_i hk' hf2.2.2 h0
          exact .inr (.inr ⟨hf2.1, this.symm, by rw [this]; exact h0⟩)
      · refine Sg ?_
        exact ⟨f, trivial, m5, hc3, .inl (fin1 g2)⟩
    · refine Sg ?_
      refine ⟨f, trivial, m5, hc3, ?_⟩
      by_cases hw : f.why = 0
      · refine .inr ?_
        rcases hf with ⟨rfl, h⟩ | ⟨h1, h2, h3⟩ | ⟨h1, rfl, h2⟩
        · exact absurd hw h
        · exact ⟨h2, h1, fun j hj => h3 j (by omega)⟩
        · exact absurd hw h2
      · exact .inl (fin1 hw)
  clear hc1 hc2 hc3
  rintro f S w5 ⟨m5, hc3, hf⟩
  have hc1 := m5.obj (by omega) hc1w
  have hc2 := m5.obj (by omega) hc2w
  have e5 := m5.ext e4 (fun i hi e => by omega)
  refine Sg ?_
  refine K.cond (fun g1 => ?_) (fun g1 => ?_)
  rotate_left
  · have hck : f = Abs.check m := by
      rcases hf with ⟨_, h⟩ | ⟨h, _⟩
      · exact h
      · exact absurd h g1
    refine Sg ?_
    intro w6 hw6 hc6
    refine Sg ?_
    exact ⟨by rw [hck], hw6.ext e5 (by omega)⟩
  have hok : (Abs.data m).why = 0 ∧ ∀ j, j < m.procs.length → (Abs.eproc m j).1 = 0 := by
    rcases hf with ⟨h, _⟩ | ⟨_, h⟩
    · exact absurd g1 h
    · exact h
  obtain ⟨hd, hP⟩ := hok
  have hdf := Abs.data_few hd
  have hpl : m.procs.length ≤ 6 := by
    apply Classical.byContradiction
    intro hn
    have := Abs.eproc_lt (i := 6) (by omega) (hP 6 (by omega))
    omega
  have hfew : Abs.Few m := ⟨by omega, by omega, by omega, fun p hp => by
    obtain ⟨j, hj, rfl⟩ := List.mem_iff_getElem.1 hp
    have := Abs.procCheck_few (Abs.eproc_ok hj (hP j hj)).2.1
    omega⟩
  have hpa := Abs.procs_all hP
  have hck : Abs.check m = if (Abs.procsF m).why ≠ 0 then Abs.procsF m else Abs.propsF m := by rw [Abs.check, if_neg (by simpa using hd)]
  clear hc3
  refine Sg ?_
  refine K.call (refPieces_r _ m w5 (hM.ext e5) hfew) ?_
  rintro _ w6 ⟨rfl, he6⟩
  replace hc1 := he6.obj hc1
  replace hc2 := he6.obj hc2
  have e6 := e5.trans he6
  refine Sg ?_
  refine K.cond (fun g2 => ?_) (fun g2 => ?_)
  · rw [if_pos (.inl (by omega))] at hpa
    rw [hpa, if_pos (show (11 : Int) ≠ 0 by decide)] at hck
    refine Sg ?_
    intro w7 hw7 hc7
    refine Sg ?_
    exact ⟨by rw [hck]; rfl, hw7.ext e6 (by omega)⟩
  refine Sg ?_
  refine K.cond (fun g3 => ?_) (fun g3 => ?_)
  · rw [if_pos (.inr (by omega))] at hpa
    rw [hpa, if_pos (show (11 : Int) ≠ 0 by decide)] at hck
    refine Sg ?_
    intro w7 hw7 hc7
    refine Sg ?_
    exact ⟨by rw [hck]; rfl, hw7.ext e6 (by omega)⟩
  rw [if_neg (by omega)] at hpa
  rw [hpa, if_neg (by simp [Abs.fine])] at hck
  have hc1v := hc1
  have hc2v := hc2
  refine Sg ?_
  refine K.forG 8 m.props.length [1, 2] (fun _ : Unit => []) () (fun k _ w' => Ext w6 w' ∧ ∀ j, j < k → Abs.eprop m j = 0) (by first | trivial | rfl | exact ⟨rfl, trivial⟩ | (simp -dsimp only [LL,slots_nil,slots_cons,keepV_nil,keepV_cons,has_nil,has_cons,Nat.reduceAdd,Nat.reduceEqDiff,reduceIte,and_self]; done) | (simp -dsimp only [LL,slots_nil,slots_cons,keepV_nil,keepV_cons,has_nil,has_cons,Nat.reduceAdd,Nat.reduceEqDiff,reduceIte,and_self]; exact ⟨rfl, trivial⟩)) (by first | trivial | rfl | exact ⟨rfl, trivial⟩ | (simp -dsimp only [LL,slots_nil,slots_cons,keepV_nil,keepV_cons,has_nil,has_cons,Nat.reduceAdd,Nat.reduceEqDiff,reduceIte,and_self]; done) | (simp -dsimp only [LL,slots_nil,slots_cons,keepV_nil,keepV_cons,has_nil,has_cons,Nat.reduceAdd,Nat.reduceEqDiff,reduceIte,and_self]; exact ⟨rfl, trivial⟩)) ⟨Ext.refl _, fun j h => absurd h (Nat.not_lt_zero _)⟩ ?_
  clear hc1 hc2
  rintro k _ S2 w7 hk ⟨he7, hz⟩
  have hc1 := he7.obj hc1v
  have hc2 := he7.obj hc2v
  have e7 := e6.trans he7
  refine Sg ?_
  refine K.cond (fun g4 => ?_) (fun g4 => ?_)
  · have hk' : k < m.props.length := by omega
    have hk8 : k ≤ 8 := by
      apply Classical.byContradiction
      intro hn
      have := Abs.eprop_lt (m := m) (i := 8) (by omega) (hz 8 (by omega))
      omega
    refine Sg ?_
    refine K.call (refProposition_r _ m k w7 (hM.ext e7) hg hk' hk8 hdf hpl) ?_
    rintro _ w8 ⟨rfl, he8⟩
    replace hc1 := he8.obj hc1
    replace hc2 := he8.obj hc2
    refine Sg ?_
    refine K.cond (fun g5 => ?_) (fun g5 => ?_)
    rotate_left
    · rw [Abs.props_i hk' hz g5] at hck
      refine Sg ?_
      intro w9 hw9 hc9
      refine Sg ?_
      exact ⟨by rw [hck]; rfl, hw9.ext (e7.trans he8) (by omega)⟩
    · refine Sg ?_
      refine ⟨hk', by first | trivial | rfl, (), trivial, he7.trans he8, fun j hj => ?_⟩
      by_cases hjk : j = k
      · subst hjk; simpa using g5
      · exact hz j (by omega)
  · rw [Abs.props_0 fun j hj => hz j (by omega)] at hck
    refine Sg ?_
    intro w8 hw8 hc8
    refine Sg ?_
    exact ⟨by rw [hck]; rfl, hw8.ext e7 (by omega)⟩
end Go.Proofs.YtbbaokmelkiemaaGreatDoor
end
section
/- Whole models: two laws walked. -/
set_option maxRecDepth 4000
set_option maxHeartbeats 16000000
namespace Abs
theorem LightM.few {m : Model} (h : LightM m) : Few m := ⟨Nat.le_trans h.v (by decide), Nat.le_trans h.c (by decide), Nat.le_trans h.p (by decide), fun p hp => by
  obtain ⟨j, hj, rfl⟩ := List.mem_iff_getElem.1 hp
  have := h.i j hj
  omega⟩
theorem check_pieces {m : Model} (h : (check m).why = 0) : (pieces m).1 ≤ 12 ∧ (pieces m).2.2 ≤ 64 := by
  unfold check at h
  by_cases h1 : (data m).why ≠ 0
  · rw [if_pos h1] at h; exact absurd h h1
  rw [if_neg h1] at h
  by_cases h2 : (procsF m).why ≠ 0
  · rw [if_pos h2] at h; exact absurd h h2
  have h2 : (procsF m).why = 0 := by simpa using h2
  unfold procsF at h2
  by_cases h3 : (first m.procs.length fun i => (eproc m i).1).2 ≠ 0
  · rw [if_pos h3] at h2; exact absurd h2 h3
  rw [if_neg h3] at h2
  by_cases h4 : 12 < (pieces m).1 ∨ 64 < (pieces m).2.2
  · rw [if_pos h4] at h2; cases h2
  · omega
end Abs
namespace Go.Proofs.YtbbaokmelkiemaaGreatDoor
open Go Go.RowKit Lite
theorem lawModelChecks_r (cs : List Value) (m : Abs.Model) (w : World) (h : Abs.ModelIs w cs m) (hg : m.good) (ho : OwnIs w) :
    Ret Tryz.prog F.lariatlaw15_ModelChecks #[.agg cs.toArray] w fun v w' => v = .bool true ∧ Ext w w' := by
  obtain ⟨o0, c0, o1, c1, o2, c2, o3, c3, o4, c4, rfl, _⟩ := h.form
  refine K.start hmix E.lariatlaw15_ModelChecks (args := [_]) (Nat.le_of_ble_eq_true rfl) ?_; dsimp only [C.lariatlaw15_ModelChecks,yt,yi,yb,yp,yr,ye,yc,yv,yg,ym,yw,ya,yl,yx,ys,yn]
  refine Sg ?_
  intro w1 b1 hb1 he1 hc1
  refine Sg ?_
  refine K.call (light15_r _ m w1 (h.ext he1)) ?_
  rintro _ w2 ⟨⟨b, rfl, hb⟩, he2⟩
  replace hc1 := he2.obj hc1
  have e2 := he1.trans he2
  clear he1 he2
  cases b with
  | false =>
    refine Sg ?_
    refine K.call (awake15_r w2 (ho.ext e2)) ?_
    rintro _ w3 ⟨rfl, he3⟩
    refine Sg ?_
    exact ⟨by first | trivial | rfl, e2.trans he3⟩
  | true =>
    refine Sg ?_
    intro w3 he3
    replace hc1 := he3.obj hc1
    have e3 := e2.trans he3
    refine Sg ?_
    refine K.call (mcheck_r _ m w3 (h.ext e3) hg (ho.ext e3)) ?_
    rintro _ w4 ⟨rfl, he4⟩
    refine ⟨he4, ?_⟩
    have e4 := e3.trans he4
    refine Sg ?_
    refine K.call (refCheck_r _ m w4 (h.ext e4) hg) ?_
    rintro _ w5 ⟨rfl, he5⟩
    unfold faultV
    have e5 := e4.trans he5
    refine Sg ?_
    refine K.eqS (sig := [.i, .i, .i, .i]) (xs := [_, _, _, _]) (ys := [_, _, _, _]) (by kernel_rfl) (conf4 _ _ _ _) (conf4 _ _ _ _) fun r hr => ?_
    obtain rfl : r = true := hr.2 rfl
    refine Sg ?_
    refine K.call (awake15_r w5 (ho.ext e5)) ?_
    rintro _ w6 ⟨rfl, he6⟩
    refine Sg ?_
    exact ⟨by first | trivial | rfl, e5.trans he6⟩
theorem lawModelPieces_r (cs : List Value) (m : Abs.Model) (w : World) (h : Abs.ModelIs w cs m) (hg : m.good) (ho : OwnIs w) :
    Ret Tryz.prog F.lariatlaw15_ModelPieces #[.agg cs.toArray] w fun v w' => v = .bool true ∧ Ext w w' := by
  obtain ⟨o0, c0, o1, c1, o2, c2, o3, c3, o4, c4, rfl, _⟩ := h.form
  refine K.start hmix E.lariatlaw15_ModelPieces (args := [_]) (Nat.le_of_ble_eq_true rfl) ?_; dsimp only [C.lariatlaw15_ModelPieces,yt,yi,yb,yp,yr,ye,yc,yv,yg,ym,yw,ya,yl,yx,ys,yn]
  refine Sg ?_
  intro w1 b1 hb1 he1 hc1
  refine Sg ?_
  refine K.call (light15_r _ m w1 (h.ext he1)) ?_
  rintro _ w2 ⟨⟨b, rfl, hb⟩, he2⟩
  replace hc1 := he2.obj hc1
  have e2 := he1.trans he2
  clear he1 he2
  cases b with
  | false =>
    refine Sg ?_
    refine K.call (awake15_r w2 (ho.ext e2)) ?_
    rintro _ w3 ⟨rfl, he3⟩
    refine Sg ?_
    exact ⟨by first | trivial | rfl, e2.trans he3⟩
  | true =>
    have hf := (hb rfl).few
    refine Sg ?_
    refine K.call (pieces_r _ m w2 (h.ext e2) hf) ?_
    rintro _ w3 ⟨rfl, he3⟩
    replace hc1 := he3.obj hc1
    have e3 := e2.trans he3
    clear e2 he3
    refine Sg ?_
    refine K.call (refPieces_r _ m w3 (h.ext e3) hf) ?_
    rintro _ w4 ⟨rfl, he4⟩
    replace hc1 := he4.obj hc1
    have e4 := e3.trans he4
    clear e3 he4
    refine Sg ?_
    refine K.call (mcheck_r _ m w4 (h.ext e4) hg (ho.ext e4)) ?_
    rintro _ w5 ⟨rfl, he5⟩
    have e5 := e4.trans he5
    clear e4 he5
    refine Sg ?_
    refine K.fld (v := .int .i64 (Abs.check m).why) rfl ?_
    refine Sg ?_
    refine K.cond (fun g1 => ?_) (fun g1 => ?_)
    · have hle := Abs.check_pieces g1
      refine Sg ?_
      refine K.call (awake15_r w5 (ho.ext e5)) ?_
      rintro _ w6 ⟨rfl, he6⟩
      refine Sg ?_
      exact ⟨by first | trivial | rfl, e5.trans he6⟩
    · refine Sg ?_
      refine K.call (awake15_r w5 (ho.ext e5)) ?_
      rintro _ w6 ⟨rfl, he6⟩
      refine Sg ?_
      exact ⟨by first | trivial | rfl, e5.trans he6⟩
end Go.Proofs.YtbbaokmelkiemaaGreatDoor
end
section
/- The walks of the laws on whole models, from what their arguments are. -/
set_option maxRecDepth 4000
namespace Go.Proofs.YtbbaokmelkiemaaGreatDoor
open Go Go.RowKit Lite Go.ChangeShapes Go.WideShapes Go.Deep
theorem walk_ModelChecks {H : Type} {enc : TypeId × Value → H} {r : Reach} {b0 : Nat} {d1 : DataW H} {p1 : List MemPlace} (v1 : Value) (W : World) (ho : OwnIs W)
    (k1 : Value.okWide Tryz.prog W r b0 T.api_Model v1) (h1 : DataW.Trod enc Tryz.prog W 0 (fun _ => true) true T.api_Model v1 d1 p1) (s1 : Small Tryz.prog T.api_Model d1) :
    Ret Tryz.prog F.lariatlaw15_ModelChecks #[v1] W fun v w' => v = .bool true ∧ Ext W w' := by
  obtain ⟨cs, m, rfl, hm, hg⟩ := open_modelG k1 h1 s1
  exact lawModelChecks_r cs m W hm hg ho
theorem walk_ModelPieces {H : Type} {enc : TypeId × Value → H} {r : Reach} {b0 : Nat} {d1 : DataW H} {p1 : List MemPlace} (v1 : Value) (W : World) (ho : OwnIs W)
    (k1 : Value.okWide Tryz.prog W r b0 T.api_Model v1) (h1 : DataW.Trod enc Tryz.prog W 0 (fun _ => true) true T.api_Model v1 d1 p1) (s1 : Small Tryz.prog T.api_Model d1) :
    Ret Tryz.prog F.lariatlaw15_ModelPieces #[v1] W fun v w' => v = .bool true ∧ Ext W w' := by
  obtain ⟨cs, m, rfl, hm, hg⟩ := open_modelG k1 h1 s1
  exact lawModelPieces_r cs m W hm hg ho
end Go.Proofs.YtbbaokmelkiemaaGreatDoor
end
