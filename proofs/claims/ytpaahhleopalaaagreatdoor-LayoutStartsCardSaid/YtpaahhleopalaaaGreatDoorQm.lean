/- Texts joined: LayG LayH LayI LayJ LayK LayL LayM LayZ. -/
import Derived.Test.YtpaahhleopalaaaGreatDoorQi
import Derived.Test.YtpaahhleopalaaaGreatDoorQj
import Derived.Test.YtpaahhleopalaaaGreatDoorQl
set_option linter.all false
section
/- Layouts: where things are, kinds, whose a cell is: the program's. -/
set_option maxRecDepth 4000
set_option maxHeartbeats 3200000
namespace Abs
theorem lay_ok {m : Model} (h : (check m).why = 0) : lay m = layout m := by unfold lay; rw [if_pos h]
theorem lay_no {m : Model} (h : ¬ (check m).why = 0) : lay m = noLayout := by unfold lay; rw [if_neg h]
theorem kinds_ok {m : Model} (h : (check m).why = 0) : kinds m = (layCells m).map (·.kind) := by unfold kinds; rw [if_pos h]
theorem kinds_no {m : Model} (h : ¬ (check m).why = 0) : kinds m = [] := by unfold kinds; rw [if_neg h]
theorem slot_no {m : Model} (c : Int) (h : ¬ (check m).why = 0) : slot m c = (0, 0, 0) := by unfold slot; rw [if_neg h]
theorem slot_out {m : Model} {c : Int} (h : (check m).why = 0) (hc : c < 0 ∨ (layCells m).length ≤ c) : slot m c = (0, 0, 0) := by unfold slot; rw [if_pos h, nth_none hc]
theorem slot_in {m : Model} {c : Nat} (h : (check m).why = 0) (hc : c < (layCells m).length) : slot m c = ((layCells m)[c].sort, (layCells m)[c].which, (layCells m)[c].place) := by
  unfold slot
  rw [if_pos h, nth_some (by omega) (by omega)]
  rfl
theorem layCells_le64 {m : Model} (h : MayBe m) : (layCells m).length ≤ 64 := by
  have := layCells_pieces h
  have := h.cells
  omega
open Go Go.RowKit Lite in
theorem LayIs.zero (w : World) : LayIs w [.slice none 0 0, .slice none 0 0, .slice none 0 0, .int .i64 0, .slice none 0 0, .slice none 0 0] noLayout := ⟨_, _, _, _, _, rfl, SlR.nil, SlR.nil, SlR.nil, SlR.nil, SlR.nil⟩
end Abs
namespace Go.Proofs.YtpaahhleopalaaaGreatDoor
open Go Go.RowKit Lite
theorem layOf_r (cs : List Value) (m : Abs.Model) (w : World) (h : Abs.ModelIs w cs m) (hg : m.good) (ho : OwnIs w) :
    Ret Tryz.prog F.layout_Of #[.agg cs.toArray] w fun v w' => (∃ xs, v = .agg xs.toArray ∧ New w (fun w => Abs.LayIs w xs (Abs.lay m)) w') ∧ Ext w w' := by
  have hM := h
  obtain ⟨o0, c0, o1, c1, o2, c2, o3, c3, o4, c4, rfl, _⟩ := h.form
  refine K.start hmix E.layout_Of (args := [_]) (Nat.le_of_ble_eq_true rfl) ?_; dsimp only [C.layout_Of]; refine Yy ?_
  refine Sg ?_
  intro w1 b1 hb1 he1 hc1
  refine Sg ?_
  intro w2 b2 hb2 he2 hc2
  have z1 := lt_of_heap hc1
  replace hc1 := he2.obj hc1
  have z2 := lt_of_heap hc2
  have z3 := he1.size
  have e2 := he1.trans he2
  refine Sg ?_
  refine K.call (may_r _ m w2 (hM.ext e2) hg (ho.ext e2)) ?_
  rintro _ w3 ⟨rfl, he3⟩
  replace hc1 := he3.obj hc1
  replace hc2 := he3.obj hc2
  have e3 := e2.trans he3
  by_cases hk : (Abs.check m).why = 0
  · rw [decide_eq_true hk]
    refine Sg ?_
    refine K.call (layout_all_r _ m w3 (hM.ext e3) hg (Abs.maybe_of hk)) ?_
    rintro _ w4 ⟨⟨xs, u, rfl, hL, hs⟩, he4⟩
    obtain ⟨x0, d0, x1, d1, x2, d2, x3, d3, x4, d4, rfl, _⟩ := hL.here.form
    obtain ⟨ou, cu, rfl, _⟩ := hs.here.form
    replace hc2 := he4.obj hc2
    have e4 := e3.trans he4
    have z4 := he3.size
    refine Sg ?_
    intro w5 b3 hb3 he5 hc3
    replace hc2 := he5.obj hc2
    refine Sg ?_
    intro w6 hw6 hc6
    have hn := (hL.ext he5 he4.size).wr hw6 (by omega)
    refine Sg ?_
    exact ⟨⟨_, rfl, by rw [Abs.lay_ok hk]; exact hn.low e3.size⟩, hw6.ext (e4.trans he5) (by omega)⟩
  · rw [decide_eq_false hk]
    refine Sg ?_
    intro w4 hw4 hc4
    refine Sg ?_
    exact ⟨⟨[_, _, _, _, _, _], rfl, by rw [Abs.lay_no hk]; exact Stab.of fun _ => Abs.LayIs.zero _⟩, hw4.ext e3 (by omega)⟩
theorem layKinds_r (cs : List Value) (m : Abs.Model) (w : World) (h : Abs.ModelIs w cs m) (hg : m.good) (ho : OwnIs w) :
    Ret Tryz.prog F.layout_Kinds #[.agg cs.toArray] w fun v w' => OwR encN T.int 1 w.heap.size w' v (Abs.kinds m) ∧ Ext w w' := by
  have hM := h
  obtain ⟨o0, c0, o1, c1, o2, c2, o3, c3, o4, c4, rfl, _⟩ := h.form
  refine K.start hmix E.layout_Kinds (args := [_]) (Nat.le_of_ble_eq_true rfl) ?_; dsimp only [C.layout_Kinds]; refine Yy ?_
  refine Sg ?_
  intro w1 b1 hb1 he1 hc1
  refine Sg ?_
  refine K.call (may_r _ m w1 (hM.ext he1) hg (ho.ext he1)) ?_
  rintro _ w3 ⟨rfl, he3⟩
  replace hc1 := he3.obj hc1
  have e3 := he1.trans he3
  by_cases hk : (Abs.check m).why = 0
  · rw [decide_eq_true hk, Abs.kinds_ok hk]
    have h64 := Abs.layCells_le64 (Abs.maybe_of hk)
    refine Sg ?_
    refine K.call (layout_all_r _ m w3 (hM.ext e3) hg (Abs.maybe_of hk)) ?_
    rintro _ w4 ⟨⟨xs, u, rfl, hL, hs⟩, he4⟩
    obtain ⟨x0, d0, x1, d1, x2, d2, x3, d3, x4, d4, rfl, _⟩ := hL.here.form
    have hs := hs.here
    obtain ⟨ou, cu, rfl, _⟩ := hs.form
    have e4 := e3.trans he4
    refine Sg ?_
    intro w5 b3 hb3 he5 hc3
    have e5 := e4.trans he5
    replace hs := hs.ext Flat.ext he5
    refine Sg ?_
    refine K.forG 18 (Abs.layCells m).length [5, 16, 17] (fun v : SlP => [(3, .slice v.1 v.2.1 v.2.2)]) (none, 0, 0) (fun k v W => Ext w5 W ∧ OwR encN T.int 1 w5.heap.size W (.slice v.1 v.2.1 v.2.2) (((Abs.layCells m).take k).map (·.kind))) hZq hZq ⟨Ext.refl _, OwR.nil _ _ _ _ _⟩ ?_
    rintro k v S w6 hk' ⟨he6, ho6⟩
    refine Sg ?_
    refine K.cond (fun g1 => ?_) (fun g1 => ?_)
    · have hk2 : k < (Abs.layCells m).length := by omega
      obtain ⟨a, rfl⟩ := hs.addr (by omega)
      have hone := Abs.slot_one (Abs.layCells m)[k]
      refine Sg ?_
      intro w7 b7 hb7 he7 hc7
      refine Sg ?_
      intro w8 b8 hb8 he8 hc8
      have e68 := he6.trans (he7.trans he8)
      have ho8 := ho6.ext (he7.trans he8)
      have hl : (((Abs.layCells m).take k).map (·.kind)).length = k := by simp; omega
      refine K.app1 (y := (Abs.layCells m)[k].kind) ho8 hc8 rfl (fun _ => rfl) encN_one (by rw [hl]; omega) (by rw [hl]; unfold maxLen; omega) e68.size fun oa n c w9 ho9 hg9 => ?_
      refine Sg ?_
      exact ⟨hk2, by first | trivial | rfl, (oa, n, c), hZq, ho8.extG e68 hg9 (Nat.le_refl _), by rw [List.take_succ_eq_append_getElem hk2, List.map_append]; exact ho9⟩
    · rw [List.take_of_length_le (by omega)] at ho6
      refine Sg ?_
      exact ⟨OwR.low e5.size ho6, e5.trans he6⟩
  · rw [decide_eq_false hk, Abs.kinds_no hk]
    refine Sg ?_
    exact ⟨OwR.nil _ _ _ _ _, e3⟩
theorem laySlots_r (cs : List Value) (m : Abs.Model) (c : Int) (w : World) (h : Abs.ModelIs w cs m) (hg : m.good) (ho : OwnIs w) :
    Ret Tryz.prog F.layout_Slots #[.agg cs.toArray, .int .i64 c] w fun v w' => v = .tuple #[.int .i64 (Abs.slot m c).1, .int .i64 (Abs.slot m c).2.1, .int .i64 (Abs.slot m c).2.2] ∧ Ext w w' := by
  have hM := h
  obtain ⟨o0, c0, o1, c1, o2, c2, o3, c3, o4, c4, rfl, _⟩ := h.form
  refine K.start hmix E.layout_Slots (args := [_, _]) (Nat.le_of_ble_eq_true rfl) ?_; dsimp only [C.layout_Slots]; refine Yy ?_
  refine Sg ?_
  intro w1 b1 hb1 he1 hc1
  refine Sg ?_
  refine K.call (may_r _ m w1 (hM.ext he1) hg (ho.ext he1)) ?_
  rintro _ w3 ⟨rfl, he3⟩
  replace hc1 := he3.obj hc1
  have e3 := he1.trans he3
  by_cases hk : (Abs.check m).why = 0
  · rw [decide_eq_true hk]
    refine Sg ?_
    refine K.call (layout_all_r _ m w3 (hM.ext e3) hg (Abs.maybe_of hk)) ?_
    rintro _ w4 ⟨⟨xs, u, rfl, hL, hs⟩, he4⟩
    obtain ⟨x0, d0, x1, d1, x2, d2, x3, d3, x4, d4, rfl, _⟩ := hL.here.form
    have hs := hs.here
    obtain ⟨ou, cu, rfl, _⟩ := hs.form
    have e4 := e3.trans he4
    refine Sg ?_
    intro w5 b3 hb3 he5 hc3
    have e5 := e4.trans he5
    replace hs := hs.ext Flat.ext he5
    refine Sg ?_
    refine K.cond (fun g1 => ?_) (fun g1 => ?_)
    · refine Sg ?_
      rw [Abs.slot_out hk (.inl g1)]
      exact ⟨by first | trivial | rfl, e5⟩
    refine Sg ?_
    refine K.cond (fun g2 => ?_) (fun g2 => ?_)
    · refine Sg ?_
      rw [Abs.slot_out hk (.inr g2)]
      exact ⟨by first | trivial | rfl, e5⟩
    obtain ⟨j, rfl⟩ := Int.eq_ofNat_of_zero_le (show 0 ≤ c by omega)
    have hj : j < (Abs.layCells m).length := by omega
    obtain ⟨a, rfl⟩ := hs.addr (by omega)
    rw [Abs.slot_in hk hj]
    refine Sg ?_
    intro w6 he6
    refine Sg ?_
    exact ⟨by first | trivial | rfl, e5.trans he6⟩
  · rw [decide_eq_false hk, Abs.slot_no c hk]
    refine Sg ?_
    exact ⟨by first | trivial | rfl, e3⟩
end Go.Proofs.YtpaahhleopalaaaGreatDoor
end
section
/- Layouts: all cells: the document's. -/
set_option maxRecDepth 4000
set_option maxHeartbeats 16000000
namespace Abs
theorem chan_size {c : Chan} {s : List Scalar} (h : ChanOk c s) (h0 : c.scalar ≠ 0) : ∃ i, ∃ hi : i < s.length, c.scalar = (i : Int) + 1 ∧ s[i].size = size c.scalar s := by
  have e := h.sc.resolve_left h0
  unfold size at e ⊢
  split at e
  · rename_i x hx
    obtain ⟨hlt, hx'⟩ := List.getElem?_eq_some_iff.1 hx
    split at e
    · rename_i h1
      refine ⟨(c.scalar - 1).toNat, hlt, by omega, ?_⟩
      rw [hx', if_pos h1]
    · exact absurd rfl e
  · exact absurd rfl e
theorem laid_snoc (so wh : Int) (l : List Bd) (b : Bd) : laidFrom so wh (l ++ [b]) 0 = laidFrom so wh l 0 ++ [⟨so, wh, (l.length : Nat), b.lo, b.hi, b.kind⟩] := by
  rw [laidFrom_snoc, Nat.zero_add]
end Abs
namespace Go.Proofs.YtpaahhleopalaaaGreatDoor
open Go Go.RowKit Lite
theorem ktG {α : Type} {enc : α → List Value} {e : TypeId} {sz base : Nat} {w w' : World} {v : Value} {xs : List α} (ho : OwR enc e sz base w v xs) (hg : w.grownBy w' v.ownBlock) : Kt [e] w w' := Kt.mod (A := fun k => v.ownBlock = some k) (Mod.grown hg fun k hk => hk) fun k c t hc a => by
  obtain ⟨cur, h⟩ := ho.blk k a
  rw [hc] at h; injection h with h; injection h with _ h; rw [h]; simp
theorem refLayCells_r (cs : List Value) (m : Abs.Model) (w : World) (h : Abs.ModelIs w cs m) (hg : m.good) (hM : Abs.MayBe m) :
    Ret Tryz.prog F.lariatref17_Cells #[.agg cs.toArray] w fun v w' => OwR Abs.Cell.enc T.lariatref17_Cell 6 w.heap.size w' v (Abs.layCells m) ∧ Ext w w' := by
  obtain ⟨o0, c0, o1, c1, o2, c2, o3, c3, o4, c4, rfl, h0, h1, h2, h3, h4, l0, l1, l2, l3, l4⟩ := h.form
  have few := hM.few
  refine K.start hmix E.lariatref17_Cells (args := [_]) (Nat.le_of_ble_eq_true rfl) ?_; dsimp only [C.lariatref17_Cells]; refine Yy ?_
  refine Sg ?_
  intro w1 b1 hb1 he1 hc1
  refine Sg ?_
  refine K.forG 4 m.vars.length [1] (fun v : SlP => [(3, .slice v.1 v.2.1 v.2.2)]) (none, 0, 0) (fun k v W => Ext w1 W ∧ OwR Abs.Cell.enc T.lariatref17_Cell 6 w1.heap.size W (.slice v.1 v.2.1 v.2.2) (Abs.cellsOf 1 ((Abs.vT m).take k) 0)) hZq hZq ⟨Ext.refl _, OwR.nil _ _ _ _ _⟩ ?_
  have hc1' := hc1
  clear hc1
  rintro k v S w2 hk ⟨he2, ho2⟩
  have hc1 := he2.obj hc1'
  have e2 := he1.trans he2
  refine Sg ?_
  refine K.cond (fun g1 => ?_) (fun g1 => ?_)
  · have hk' : k < m.vars.length := by omega
    obtain ⟨a, rfl⟩ := h1.addr (by omega)
    have hcv := ((h1.at k hk').cells).ext e2
    have hok := hM.var _ (List.getElem_mem hk')
    have hsc := Abs.var_scalar hok few.1
    have hv : k < (Abs.vT m).length := by simpa [Abs.vT] using hk'
    have htk := Abs.total_vars_le m hM (k + 1)
    rw [Abs.total_take hv] at htk
    have evk : (Abs.vT m)[k] = Abs.varBds m.scalars m.vars[k] := by simp [Abs.vT]
    rw [evk, Abs.varBds_len] at htk
    have hcl := Abs.cells_le m.vars[k] m.scalars
    refine Sg ?_
    refine K.qfn (.tuple #[.int .i64 (Abs.bounds m.vars[k] m.scalars).1, .int .i64 (Abs.bounds m.vars[k] m.scalars).2]) (fun w' e => refBounds_r m.vars[k] _ m.scalars w' (h0.ext (e2.trans e))) ?_
    refine Sg ?_
    intro w3 he3
    have ho3 := ho2.ext he3
    have hc3 := he3.obj hc1
    have he13 := he2.trans he3
    clear hc1 hcv
    refine Sg ?_
    refine K.forG 7 (Abs.cells m.vars[k] m.scalars).toNat [1, 4, 5, 6] (fun v : SlP => [(3, .slice v.1 v.2.1 v.2.2)]) v (fun j v W => Ext w1 W ∧ OwR Abs.Cell.enc T.lariatref17_Cell 6 w1.heap.size W (.slice v.1 v.2.1 v.2.2) (Abs.cellsOf 1 ((Abs.vT m).take k) 0 ++ Abs.laidFrom 1 k (List.replicate j (Abs.bdOf m.vars[k].scalar m.vars[k].lo m.vars[k].hi m.scalars)) 0)) hZq hZq ⟨he13, by simpa [Abs.laidFrom] using ho3⟩ ?_
    clear hc3 ho3 ho2 he2 he3 he13
    rintro j v S w4 hj ⟨he4, ho4⟩
    have hc1 := he4.obj hc1'
    have e4 := he1.trans he4
    have hcv := ((h1.at k hk').cells).ext e4
    refine Sg ?_
    refine K.qfn _ (fun w' e => refCells_r m.vars[k] _ m.scalars w' (h0.ext (e4.trans e))) ?_
    refine Sg ?_
    intro w5 he5
    replace hc1 := he5.obj hc1
    replace hcv := hcv.ext he5
    have ho5 := ho4.ext he5
    have he15 := he4.trans he5
    refine Sg ?_
    refine K.cond (fun g2 => ?_) (fun g2 => ?_)
    · have hj' : j < (Abs.cells m.vars[k] m.scalars).toNat := by omega
      refine Sg ?_
      refine K.call (refKindS_r m.vars[k].scalar w5 (by unfold Abs.inI; omega)) ?_
      rintro _ wA ⟨rfl, rfl⟩
      refine Sg ?_
      intro w6 b6 hb6 he6 hc6
      have ho6 := ho5.ext he6
      have he16 := he15.trans he6
      have hl : (Abs.cellsOf 1 ((Abs.vT m).take k) 0 ++ Abs.laidFrom 1 k (List.replicate j (Abs.bdOf m.vars[k].scalar m.vars[k].lo m.vars[k].hi m.scalars)) 0).length = Abs.total ((Abs.vT m).take k) + j := by
        rw [List.length_append, Abs.cellsOf_len, Abs.laidFrom_len, List.length_replicate]
      refine K.app1 (y := ⟨1, k, j, (Abs.bounds m.vars[k] m.scalars).1, (Abs.bounds m.vars[k] m.scalars).2, Abs.kindOf m.vars[k].scalar⟩) ho6 hc6 rfl (fun _ => rfl) Abs.cell_one (by rw [hl]; omega) (by rw [hl]; unfold maxLen; omega) he16.size fun oa n c w7 ho7 hg7 => ?_
      refine Sg ?_
      refine ⟨hj', by first | trivial | rfl, (oa, n, c), hZq, ho6.extG he16 hg7 (Nat.le_refl _), ?_⟩
      rw [List.replicate_succ', Abs.laid_snoc, ← List.append_assoc, List.length_replicate, Abs.bdOf_eq]
      rw [Abs.bdOf_eq] at ho7
      exact ho7
    · have hjj : j = (Abs.cells m.vars[k] m.scalars).toNat := by omega
      refine Sg ?_
      refine ⟨hk', by first | trivial | rfl, v, hZq, he15, ?_⟩
      have e2 : (0 + ((Abs.vT m).take k).length : Nat) = k := by rw [List.length_take]; omega
      rw [List.take_succ_eq_append_getElem hv, evk, Abs.cellsOf_snoc, e2]
      rw [hjj] at ho5
      exact ho5
  have hkv : m.vars.length ≤ k := by omega
  rw [List.take_of_length_le (by simpa [Abs.vT] using hkv)] at ho2
  have tv := Abs.total_vars_le m hM m.vars.length
  rw [List.take_of_length_le (by simp [Abs.vT])] at tv
  refine Sg ?_
  refine K.forG 8 m.chans.length [1] (fun v : SlP => [(3, .slice v.1 v.2.1 v.2.2)]) v (fun k v W => Ext w1 W ∧ OwR Abs.Cell.enc T.lariatref17_Cell 6 w1.heap.size W (.slice v.1 v.2.1 v.2.2) (Abs.cellsOf 1 (Abs.vT m) 0 ++ Abs.cellsOf 2 ((Abs.cT m).take k) 0)) hZq hZq ⟨he2, by simpa [Abs.cellsOf] using ho2⟩ ?_
  clear hc1 ho2 he2 e2
  rintro k v S w2 hk ⟨he2, ho2⟩
  have hc1 := he2.obj hc1'
  have e2 := he1.trans he2
  refine Sg ?_
  refine K.cond (fun g2 => ?_) (fun g2 => ?_)
  · have hk' : k < m.chans.length := by omega
    obtain ⟨a, rfl⟩ := h2.addr (by omega)
    have hcv := ((h2.at k hk').cells).ext e2
    have hok := hM.chan _ (List.getElem_mem hk')
    have hsc := Abs.chan_scalar hok few.1
    have hcap := hok.cap
    have hv : k < (Abs.cT m).length := by simpa [Abs.cT] using hk'
    have htk := Abs.total_chans_le m hM (k + 1)
    rw [Abs.total_take hv] at htk
    have evk : (Abs.cT m)[k] = Abs.chanBds m.scalars m.chans[k] := by simp [Abs.cT]
    rw [evk, Abs.chanBds_len] at htk
    have hcnl : (Abs.cellsOf 1 (Abs.vT m) 0 ++ Abs.cellsOf 2 ((Abs.cT m).take k) 0).length = Abs.total (Abs.vT m) + Abs.total ((Abs.cT m).take k) := by rw [List.length_append, Abs.cellsOf_len, Abs.cellsOf_len]
    refine Sg ?_
    intro w3 b9 hb9 he3 hc9
    replace hc9 : w3.heap[b9]? = some (.cells m.chans[k].enc.toArray T.api_Chan) := hc9
    replace hc1 := he3.obj hc1
    have ho3 := ho2.ext he3
    clear hcv
    have he13 := he2.trans he3
    refine Sg ?_
    intro w4 b4 hb4 he4 hc4
    have ho4 := ho3.ext he4
    have he14 := he13.trans he4
    refine K.app1 (y := ⟨2, k, 0, 0, m.chans[k].cap, 0⟩) ho4 hc4 rfl (fun _ => rfl) Abs.cell_one (by rw [hcnl]; omega) (by rw [hcnl]; unfold maxLen; omega) he14.size fun oa n c w5 ho5 hg5 => ?_
    have hc1 := ho4.box hg5 (he4.obj hc1) (by decide)
    have hc9 := ho4.box hg5 (he4.obj hc9) (by decide)
    have he15 := ho4.extG he14 hg5 (Nat.le_refl _)
    have e5 := he1.trans he15
    have z95 := lt_of_heap hc9
    clear ho2 ho3 hc4 hb4 he4 he3 hb9
    refine Su ?_
    simp -dsimp only [B9]
    refine Su ?_
    intro w6 he6
    replace hc1 := he6.obj hc1
    replace hc9 := he6.obj hc9
    have ho6 := ho5.ext he6
    have e6 := e5.trans he6
    have he16 := he15.trans he6
    refine K.cutG [1, 3, 8, 9] (fun _ : Unit => [(10, .int .i64 (Abs.chanBd m.scalars m.chans[k]).lo), (11, .int .i64 (Abs.chanBd m.scalars m.chans[k]).hi)]) (fun _ W => Ext w6 W) ?_ ?_
    · refine Sg ?_
      refine K.cond (fun g3 => ?_) (fun g3 => ?_)
      · obtain ⟨i, hi, hsi, hss⟩ := Abs.chan_size hok (by omega)
        obtain ⟨a0, rfl⟩ := h0.addr (by omega)
        have hcs := ((h0.at i hi).cells).ext e6
        refine Sg ?_
        refine K.ian i (by omega) hi ?_
        refine Sg ?_
        intro w7 he7
        refine Sg ?_
        have e : Abs.chanBd m.scalars m.chans[k] = ⟨0, m.scalars[i].size, m.chans[k].scalar + 1⟩ := by unfold Abs.chanBd Abs.bdOf; rw [if_neg (by omega), hss]
        rw [e]
        exact ⟨(), hZq, he7⟩
      · have h00 : m.chans[k].scalar = 0 := by omega
        refine Sg ?_
        have e : Abs.chanBd m.scalars m.chans[k] = ⟨min 0 m.chans[k].lo, max 0 m.chans[k].hi, 0⟩ := by unfold Abs.chanBd Abs.bdOf; rw [if_pos h00, Int.min_comm, Int.max_comm]
        rw [e]
        exact ⟨(), hZq, Ext.refl _⟩
    rintro _ S w7 he7
    replace hc1 := he7.obj hc1
    replace hc9 := he7.obj hc9
    have ho7 := ho6.ext he7
    have he17 := he16.trans he7
    have hkd : Abs.chanBd m.scalars m.chans[k] = ⟨(Abs.chanBd m.scalars m.chans[k]).lo, (Abs.chanBd m.scalars m.chans[k]).hi, Abs.kindOf m.chans[k].scalar⟩ := by
      unfold Abs.chanBd Abs.bdOf Abs.kindOf
      split <;> rfl
    have hx9 : ∀ {W : World}, W.heap[b9]? = w7.heap[b9]? → _ := fun e => e.trans hc9
    refine Sg ?_
    refine K.whG [1, 8, 9, 10, 11] (fun x : SlP × Nat => [(3, .slice x.1.1 x.1.2.1 x.1.2.2), (12, .int .i64 ((x.2 : Int) + 1))]) ((oa, n, c), 0) (fun x W => (Ext w1 W ∧ W.heap[b9]? = w7.heap[b9]? ∧ (x.2 : Int) ≤ m.chans[k].cap) ∧ OwR Abs.Cell.enc T.lariatref17_Cell 6 w1.heap.size W (.slice x.1.1 x.1.2.1 x.1.2.2) (Abs.cellsOf 1 (Abs.vT m) 0 ++ Abs.cellsOf 2 ((Abs.cT m).take k) 0 ++ Abs.laidFrom 2 k (⟨0, m.chans[k].cap, 0⟩ :: List.replicate x.2 (Abs.chanBd m.scalars m.chans[k])) 0)) (fun x => (m.chans[k].cap - x.2).toNat) hZq ⟨⟨he17, rfl, by simp only; omega⟩, by simpa [Abs.laidFrom] using ho7⟩ ?_
    clear hc1 hc9 ho7 ho6 ho5
    rintro ⟨v, j⟩ S w8 ⟨⟨he18, hb9, hj⟩, ho8⟩
    have hc1 := he18.obj hc1'
    have hc9 := hx9 hb9
    simp only at hj
    refine Sg ?_
    refine K.cond (fun g4 => ?_) (fun g4 => ?_)
    · refine Sg ?_
      refine K.call (refKindS_r m.chans[k].scalar w8 (by unfold Abs.inI; omega)) ?_
      rintro _ wA ⟨rfl, rfl⟩
      refine Sg ?_
      intro w9 b10 hb10 he9 hc10
      have ho9 := ho8.ext he9
      have he19 := he18.trans he9
      have hl : (Abs.cellsOf 1 (Abs.vT m) 0 ++ Abs.cellsOf 2 ((Abs.cT m).take k) 0 ++ Abs.laidFrom 2 k (⟨0, m.chans[k].cap, 0⟩ :: List.replicate j (Abs.chanBd m.scalars m.chans[k])) 0).length = Abs.total (Abs.vT m) + Abs.total ((Abs.cT m).take k) + (j + 1) := by
        rw [List.length_append, hcnl, Abs.laidFrom_len, List.length_cons, List.length_replicate]
      refine K.app1 (y := ⟨2, k, (j : Int) + 1, (Abs.chanBd m.scalars m.chans[k]).lo, (Abs.chanBd m.scalars m.chans[k]).hi, Abs.kindOf m.chans[k].scalar⟩) ho9 hc10 rfl (fun _ => rfl) Abs.cell_one (by rw [hl]; omega) (by rw [hl]; unfold maxLen; omega) he19.size fun oa n c w10 ho10 hg10 => ?_
      have hc9' := ho9.box hg10 (he9.obj hc9) (by decide)
      refine Sg ?_
      refine ⟨((oa, n, c), j + 1), hZq, ⟨⟨ho9.extG he19 hg10 (Nat.le_refl _), hc9'.trans (hx9 rfl).symm, by simp only; omega⟩, ?_⟩, by simp only; omega⟩
      rw [List.replicate_succ', ← List.cons_append, Abs.laid_snoc, ← List.append_assoc, List.length_cons, List.length_replicate]
      rw [hkd] at ho10 ⊢
      exact ho10
    · refine Sg ?_
      refine ⟨hk', by first | trivial | rfl, v, hZq, he18, ?_⟩
      have e2 : (0 + ((Abs.cT m).take k).length : Nat) = k := by rw [List.length_take]; omega
      have ej : j = m.chans[k].cap.toNat := by omega
      rw [List.take_succ_eq_append_getElem hv, evk, Abs.cellsOf_snoc, e2, ← List.append_assoc]
      rw [ej] at ho8
      exact ho8
  have hkc : m.chans.length ≤ k := by omega
  rw [List.take_of_length_le (by simpa [Abs.cT] using hkc)] at ho2
  refine Sg ?_
  refine K.call (refInsts_r _ m w2 (h.ext e2) hg) ?_
  rintro vi wi ⟨hvi, hei⟩
  obtain ⟨oi, ci, rfl, _⟩ := hvi.form
  have hinx : ∀ {W : World}, Kt [T.lariatref17_Cell] wi W → InstsAt W (.slice oi (Abs.insts m).length ci) (Abs.insts m) := fun k => OwR.slF (enc := Abs.Inst.enc) (fun _ => rfl) (hvi.kt k (by decide))
  have hil : (Abs.insts m).length ≤ 30 := by have := Abs.insts_len m; have := hM.procs; omega
  have hoi := ho2.ext hei
  have he1i := he2.trans hei
  have z2i := hei.size
  refine Sg ?_
  refine K.forG 14 (Abs.insts m).length [1, 13] (fun v : SlP => [(3, .slice v.1 v.2.1 v.2.2)]) v (fun k v W => (Ext w1 W ∧ Kt [T.lariatref17_Cell] wi W) ∧ OwR Abs.Cell.enc T.lariatref17_Cell 6 w1.heap.size W (.slice v.1 v.2.1 v.2.2) (Abs.cellsOf 1 (Abs.vT m) 0 ++ Abs.cellsOf 2 (Abs.cT m) 0 ++ Abs.cellsOf 3 ((Abs.iT m).take k) 0)) hZq hZq ⟨⟨he1i, Kt.refl⟩, by simpa [Abs.cellsOf] using hoi⟩ ?_
  clear hc1 ho2 he2 e2 hoi hei he1i
  rintro k v S w2 hk ⟨⟨he2, kt2⟩, ho2⟩
  have hin := hinx kt2
  have hc1 := he2.obj hc1'
  have e2 := he1.trans he2
  refine Sg ?_
  refine K.cond (fun g3 => ?_) (fun g3 => ?_)
  · have hk' : k < (Abs.insts m).length := by omega
    obtain ⟨ai, rfl⟩ := hin.addr (by omega)
    have hof := Abs.insts_of _ (List.getElem_mem hk')
    obtain ⟨p, hp, hpe, hbe⟩ := Abs.instBds_at hof
    have hok := hM.proc _ (List.getElem_mem hp)
    have hlocs := hok.locs
    have hfew := hok.few.1
    obtain ⟨a, rfl⟩ := h3.addr (by omega)
    obtain ⟨hsn, vv, vc, hpc, hpv, hpcm⟩ := h3.at p hp
    obtain ⟨ov, cv, rfl, lv⟩ := hpv.form
    obtain ⟨oc, cc, rfl, lc⟩ := hpcm.form
    replace hpc := hpc.ext e2
    have hv : k < (Abs.iT m).length := by simpa [Abs.iT] using hk'
    have htk := Abs.total_insts_le m hM (k + 1)
    rw [Abs.total_take hv] at htk
    have evk : (Abs.iT m)[k] = Abs.procBds m.scalars m.procs[p] := by simp [Abs.iT, hbe]
    rw [evk, Abs.procBds_len] at htk
    have hcnl : (Abs.cellsOf 1 (Abs.vT m) 0 ++ Abs.cellsOf 2 (Abs.cT m) 0 ++ Abs.cellsOf 3 ((Abs.iT m).take k) 0).length = Abs.total (Abs.vT m) + Abs.total (Abs.cT m) + Abs.total ((Abs.iT m).take k) := by rw [List.length_append, List.length_append, Abs.cellsOf_len, Abs.cellsOf_len, Abs.cellsOf_len]
    refine Sg ?_
    intro w3 he3
    replace hpc := hpc.ext he3
    replace hc1 := he3.obj hc1
    replace hin := hin.ext Flat.ext he3
    have ho3 := ho2.ext he3
    have he13 := he2.trans he3
    refine Sg ?_
    refine K.ian p hpe hp ?_
    refine Sg ?_
    intro wn b15 hb15 hen hcn
    refine ⟨hen, ?_⟩
    refine Sg ?_
    intro w4 hw4 hc4
    have he34 : Ext w3 w4 := hw4.ext hen hb15
    replace hc4 : w4.heap[b15]? = some (.cells (m.procs[p].enc (.slice ov m.procs[p].vars.length cv) (.slice oc m.procs[p].cmds.length cc)).toArray T.api_Proc) := hc4
    unfold Abs.Proc.enc at hc4
    replace hc1 := he34.obj hc1
    have ho4 := ho3.ext he34
    have he14 := he13.trans he34
    clear hw4 hen hcn hpc ho3 ho2 hin
    refine Sg ?_
    intro w5 b5 hb5 he5 hc5
    have ho5 := ho4.ext he5
    have he15 := he14.trans he5
    refine K.app1 (y := ⟨3, k, 0, 0, m.procs[p].locs - 1, 0⟩) ho5 hc5 rfl (fun _ => rfl) Abs.cell_one (by rw [hcnl]; omega) (by rw [hcnl]; unfold maxLen; omega) he15.size fun oa n c w6 ho6 hg6 => ?_
    have hc1 := ho5.box hg6 (he5.obj hc1) (by decide)
    have hc15 := ho5.box hg6 (he5.obj hc4) (by decide)
    have he16 := ho5.extG he15 hg6 (Nat.le_refl _)
    have kt6 : Kt [T.lariatref17_Cell] wi w6 := ((kt2.trans (Kt.ext (he3.trans he34))).trans (Kt.ext he5)).trans (ktG ho5 hg6)
    clear hc4 ho4
    have hx15 : ∀ {W : World}, W.heap[b15]? = w6.heap[b15]? → _ := fun e => e.trans hc15
    refine Sg ?_
    refine K.forG 16 m.procs[p].vars.length [1, 13, 14, 15] (fun v : SlP => [(3, .slice v.1 v.2.1 v.2.2)]) (oa, n, c) (fun j v W => ((Ext w1 W ∧ Kt [T.lariatref17_Cell] wi W) ∧ W.heap[b15]? = w6.heap[b15]?) ∧ OwR Abs.Cell.enc T.lariatref17_Cell 6 w1.heap.size W (.slice v.1 v.2.1 v.2.2) (Abs.cellsOf 1 (Abs.vT m) 0 ++ Abs.cellsOf 2 (Abs.cT m) 0 ++ Abs.cellsOf 3 ((Abs.iT m).take k) 0 ++ Abs.laidFrom 3 k (⟨0, m.procs[p].locs - 1, 0⟩ :: (m.procs[p].vars.take j).map fun v => Abs.bdOf v.scalar v.lo v.hi m.scalars) 0)) hZq hZq ⟨⟨⟨he16, kt6⟩, rfl⟩, by simpa [Abs.laidFrom] using ho6⟩ ?_
    clear hc1 hc15 ho6
    rintro j v S w7 hj ⟨⟨⟨he17, kt7⟩, hb15⟩, ho7⟩
    have hc1 := he17.obj hc1'
    have hc15 := hx15 hb15
    have e7 := he1.trans he17
    refine Sg ?_
    refine K.cond (fun g4 => ?_) (fun g4 => ?_)
    · have hj' : j < m.procs[p].vars.length := by omega
      obtain ⟨aj, rfl⟩ := hpv.addr (by omega)
      have hcv := ((hpv.at j hj').cells).ext e7
      have hvok := hok.var _ (List.getElem_mem hj')
      have hsc := Abs.var_scalar hvok few.1
      refine Sg ?_
      refine K.qfn (.tuple #[.int .i64 (Abs.bounds m.procs[p].vars[j] m.scalars).1, .int .i64 (Abs.bounds m.procs[p].vars[j] m.scalars).2]) (fun w' e => refBounds_r m.procs[p].vars[j] _ m.scalars w' (h0.ext (e7.trans e))) ?_
      refine Sg ?_
      intro w8 he8
      replace hc1 := he8.obj hc1
      replace hc15 := he8.obj hc15
      replace hcv := hcv.ext he8
      have ho8 := ho7.ext he8
      have he18 := he17.trans he8
      refine Sg ?_
      refine K.call (refKindS_r m.procs[p].vars[j].scalar w8 (by unfold Abs.inI; omega)) ?_
      rintro _ wA ⟨rfl, rfl⟩
      refine Sg ?_
      intro w9 b9 hb9 he9 hc9
      have ho9 := ho8.ext he9
      have he19 := he18.trans he9
      have hl : (Abs.cellsOf 1 (Abs.vT m) 0 ++ Abs.cellsOf 2 (Abs.cT m) 0 ++ Abs.cellsOf 3 ((Abs.iT m).take k) 0 ++ Abs.laidFrom 3 k (⟨0, m.procs[p].locs - 1, 0⟩ :: (m.procs[p].vars.take j).map fun v => Abs.bdOf v.scalar v.lo v.hi m.scalars) 0).length = Abs.total (Abs.vT m) + Abs.total (Abs.cT m) + Abs.total ((Abs.iT m).take k) + (j + 1) := by
        rw [List.length_append, hcnl, Abs.laidFrom_len, List.length_cons, List.length_map, List.length_take]
        omega
      have hlt : ((m.procs[p].vars.take j).map fun v => Abs.bdOf v.scalar v.lo v.hi m.scalars).length = j := by simp; omega
      refine K.app1 (y := ⟨3, k, 1 + (j : Int), (Abs.bounds m.procs[p].vars[j] m.scalars).1, (Abs.bounds m.procs[p].vars[j] m.scalars).2, Abs.kindOf m.procs[p].vars[j].scalar⟩) ho9 hc9 rfl (fun _ => rfl) Abs.cell_one (by rw [hl]; omega) (by rw [hl]; unfold maxLen; omega) he19.size fun oa n c w10 ho10 hg10 => ?_
      have hc15' := ho9.box hg10 (he9.obj hc15) (by decide)
      refine Sg ?_
      refine ⟨hj', by first | trivial | rfl, (oa, n, c), hZq, ⟨⟨ho9.extG he19 hg10 (Nat.le_refl _), (kt7.trans (Kt.ext (he8.trans he9))).trans (ktG ho9 hg10)⟩, hc15'.trans (hx15 rfl).symm⟩, ?_⟩
      rw [List.take_succ_eq_append_getElem hj', List.map_append, ← List.cons_append, List.map_cons, List.map_nil, Abs.laid_snoc, ← List.append_assoc, List.length_cons, hlt, Abs.bdOf_eq m.procs[p].vars[j], show ((j + 1 : Nat) : Int) = 1 + (j : Int) from by omega]
      exact ho10
    · refine Sg ?_
      refine ⟨hk', by first | trivial | rfl, v, hZq, ⟨he17, kt7⟩, ?_⟩
      have e2 : (0 + ((Abs.iT m).take k).length : Nat) = k := by rw [List.length_take]; omega
      rw [List.take_of_length_le (l := m.procs[p].vars) (by omega)] at ho7
      rw [List.take_succ_eq_append_getElem hv, evk, Abs.cellsOf_snoc, e2, ← List.append_assoc]
      exact ho7
  · rw [List.take_of_length_le (by simp [Abs.iT]; omega)] at ho2
    refine Sg ?_
    exact ⟨OwR.low he1.size ho2, e2⟩
end Go.Proofs.YtpaahhleopalaaaGreatDoor
end
section
/- Layouts: where things are: the document's. -/
set_option maxRecDepth 4000
set_option maxHeartbeats 16000000
namespace Lite
open Go Go.RowKit
theorem K.appRws {P : Program} {KK : Value → World → Prop} {α : Type} {enc : α → List Value} {e : TypeId} {sz base n : Nat} {w : World} {vs : Nat → Option Addr × Nat × Nat} {xs : Nat → List α} {ty : TypeId} {b : Nat} {a : Addr} {c : Nat} {y : α} {t} (i : Nat) (hi : i < n) (h : Rws enc e sz base w n vs xs) (hsz : ∀ x, (enc x).length = sz) (hc : CellsAt w a (enc y)) (h1 : ∀ y, ∀ u ∈ enc y, u.oneCell' = true)
    (hb : ((xs i).length + 1) * b ≤ 140737488355328) (h63 : (xs i).length + 1 ≤ maxLen) (hbase : base ≤ w.heap.size)
    (hk : ∀ v' w', Rws enc e sz base w' n (putN vs i v') (putN xs i (xs i ++ [y])) → w.grownBy w' (slq (vs i)).ownBlock → KK (slq v') w') : AppVCh P ty e sz b (slq (vs i)) (.slice (some a) 1 c) w KK t := by
  unfold AppVCh
  exact Rws.app i hi h hsz hc h1 hb h63 hbase fun v' w' a b _ => hk v' w' a b
end Lite
namespace Abs
theorem firsts_take {s : Int} {l : List Cell} {k : Nat} (h : k < l.length) : firsts s (l.take (k + 1)) 0 = firsts s (l.take k) 0 ++ (if l[k].place = 0 ∧ l[k].sort = s then [(k : Int)] else []) := by
  rw [List.take_succ_eq_append_getElem h, firsts_app]
  simp only [firsts, List.append_nil, List.length_take, Nat.zero_add]
  rw [show min k l.length = k from by omega]
theorem firsts_len (s : Int) : ∀ (l : List Cell) (i : Nat), (firsts s l i).length ≤ l.length
  | [], _ => by simp [firsts]
  | x :: r, i => by
    have := firsts_len s r (i + 1)
    simp only [firsts, List.length_append, List.length_cons]
    split <;> simp <;> omega
/-- The five rows, behind so many cells. -/
def rowsK (l : List Cell) (k : Nat) : Nat → List Int := fun i => if i = 0 then firsts 1 (l.take k) 0 else if i = 1 then firsts 2 (l.take k) 0 else if i = 2 then firsts 3 (l.take k) 0 else if i = 3 then (l.take k).map (·.lo) else (l.take k).map (·.hi)
end Abs
namespace Go.Proofs.YtpaahhleopalaaaGreatDoor
open Go Go.RowKit Lite
def rtys : List TypeId := [T.int, T.api_Layout]
def boxOf (vs : Nat → SlP) (n : Int) : Array Value := #[slq (vs 0), slq (vs 1), slq (vs 2), .int .i64 n, slq (vs 3), slq (vs 4)]
structure LRt (w1 : World) (b : Nat) (xs : Nat → List Int) (n : Int) (W : World) : Prop where
  mod : Mod (fun k => k = b) w1 W
  ex : ∃ vs : Nat → SlP, W.heap[b]? = some (.cells (boxOf vs n) T.api_Layout) ∧ Rws encN T.int 1 w1.heap.size W 5 vs xs
theorem LRt.congr {w1 : World} {b : Nat} {xs xs' : Nat → List Int} {n : Int} {W : World} (h : LRt w1 b xs n W) (hx : ∀ i, i < 5 → xs i = xs' i) : LRt w1 b xs' n W :=
  let ⟨vs, g1, g2⟩ := h.ex; ⟨h.mod, vs, g1, g2.congr (fun _ _ => rfl) hx⟩
theorem lrt_app {w1 : World} {b : Nat} {xs : Nat → List Int} {n y : Int} {W W5 W6 W7 : World} {vs : Nat → SlP} {v' : SlP} {i : Nat} (hi : i < 5) (hm : Mod (fun k => k = b) w1 W) (g1 : W.heap[b]? = some (.cells (boxOf vs n) T.api_Layout)) (g2 : Rws encN T.int 1 w1.heap.size W 5 vs xs)
    (he : Ext W W5) (hg : W5.grownBy W6 (slq (vs i)).ownBlock) (ho : Rws encN T.int 1 w1.heap.size W6 5 (putN vs i v') (putN xs i (xs i ++ [y]))) (hw : Wr b W6 W7) (hc : W7.heap[b]? = some (.cells (boxOf (putN vs i v') n) T.api_Layout)) :
    LRt w1 b (putN xs i (xs i ++ [y])) n W7 ∧ Kt rtys W W7 := by
  have mg : Mod (fun k => (slq (vs i)).ownBlock = some k) W5 W6 := Mod.grown hg fun k hk => hk
  have g5 := he.obj g1
  have g6 : W6.heap[b]? = some (.cells (boxOf vs n) T.api_Layout) := mg.obj ((g2.ext he).not g5 (by decide) i hi) g5
  refine ⟨⟨?_, _, hc, ho.mod (hw.mod (A := fun k => k = b) rfl) fun j k hj hk e => ?_⟩, ?_⟩
  · have h1 : Mod (fun k => k = b) w1 W5 := hm.comp (A' := fun _ => False) he.mod (fun _ _ a => a) fun _ _ a => a.elim
    have h2 : Mod (fun k => k = b) w1 W6 := h1.comp mg (fun _ _ a => a) fun j hj a => by have := (g2.lt i j hi a).1; omega
    exact h2.trans (hw.mod rfl)
  · subst e; exact ho.not g6 (by decide) j hj hk
  · refine ((Kt.ext he).trans (Kt.mod mg fun k c t hc a => ?_)).trans (Kt.wr hw g6 (by decide))
    obtain ⟨cur, h⟩ := ((g2.ext he).own i hi).blk k a
    rw [hc] at h; injection h with h; injection h with _ h; rw [h]; decide
theorem refLay_r (cs : List Value) (m : Abs.Model) (w : World) (h : Abs.ModelIs w cs m) (hg : m.good) (hM : Abs.MayBe m) :
    Ret Tryz.prog F.lariatref17_Lay #[.agg cs.toArray] w fun v w' => (∃ xs, v = .agg xs.toArray ∧ New w (fun w => Abs.LayIs w xs (Abs.layout m)) w') ∧ Ext w w' := by
  have hMI := h
  obtain ⟨o0, c0, o1, c1, o2, c2, o3, c3, o4, c4, rfl, _⟩ := h.form
  have h64 := Abs.layCells_le64 hM
  refine K.start hmix E.lariatref17_Lay (args := [_]) (Nat.le_of_ble_eq_true rfl) ?_; dsimp only [C.lariatref17_Lay]; refine Yy ?_
  refine Sg ?_
  intro wa b1 hb1 hea hc1
  have q1 := lt_of_heap hc1
  refine Sg ?_
  intro wb b2 hb2 heb hc2
  have q2 := lt_of_heap hc2
  replace hc1 := heb.obj hc1
  refine Sg ?_
  intro w1 b3 hb3 hec hc3
  replace hc1 := hec.obj hc1
  replace hc2 := hec.obj hc2
  have q3 := lt_of_heap hc3
  have y1 := hea.size
  have y2 := heb.size
  have y3 := hec.size
  have n13 : b1 ≠ b3 := by omega
  have e1 := (hea.trans heb).trans hec
  refine Sg ?_
  refine K.call (refLayCells_r _ m w1 (hMI.ext e1) hg hM) ?_
  rintro vc wc ⟨hcl, hed⟩
  obtain ⟨ocl, ccl, rfl, _⟩ := hcl.form
  have s0 : LRt w1 b3 (Abs.rowsK (Abs.layCells m) 0) 0 wc := ⟨hed.mod, fun _ => (none, 0, 0), hed.obj hc3, ⟨fun i hi => by
      have e : Abs.rowsK (Abs.layCells m) 0 i = [] := by unfold Abs.rowsK; (repeat' split) <;> simp [Abs.firsts]
      rw [e]; exact OwR.nil _ _ _ _ _, fun i j k _ _ _ e => by cases e⟩⟩
  have hx1 : ∀ {xs n W}, LRt w1 b3 xs n W → W.heap[b1]? = w1.heap[b1]? := fun h => h.mod.block _ (by omega) n13
  have hx2 : ∀ {xs n W}, LRt w1 b3 xs n W → W.heap[b2]? = w1.heap[b2]? := fun h => h.mod.block _ (by omega) (by omega)
  have hE : ∀ {xs n W}, LRt w1 b3 xs n W → Ext w W := fun h => h.mod.ext e1 fun i hi e => by omega
  have hcx : ∀ {W : World}, Kt rtys wc W → SlR 6 (Flat Abs.Cell.enc) W (.slice ocl (Abs.layCells m).length ccl) (Abs.layCells m) := fun k => OwR.slF (enc := Abs.Cell.enc) (fun _ => rfl) (hcl.kt k (by decide))
  rw [hc2] at hx2
  clear hc1 hc2 hc3 hcl
  refine Sg ?_
  refine K.forG 5 (Abs.layCells m).length [1, 2, 3, 4] (fun _ : Unit => []) () (fun k _ W => LRt w1 b3 (Abs.rowsK (Abs.layCells m) k) 0 W ∧ Kt rtys wc W) hZq hZq ⟨s0, Kt.refl⟩ ?_
  clear s0
  rintro k _ S w2 hk ⟨hs, kt2⟩
  have hcl := hcx kt2
  obtain ⟨vs0, g1, g2⟩ := hs.ex
  refine Sg ?_
  refine K.cond (fun g0 => ?_) (fun g0 => ?_)
  · have hk' : k < (Abs.layCells m).length := by omega
    obtain ⟨a, rfl⟩ := hcl.addr (by omega)
    clear g1 g2
    obtain ⟨x, hx⟩ : ∃ x, x = (Abs.layCells m)[k] := ⟨_, rfl⟩
    have hrl : ∀ i, (Abs.rowsK (Abs.layCells m) k i).length ≤ 100 := fun i => by
      unfold Abs.rowsK
      have q := fun s => Abs.firsts_len s ((Abs.layCells m).take k) 0
      have q1 := q 1
      have q2 := q 2
      have q3 := q 3
      (repeat' split) <;> simp only [List.length_map, List.length_take] at * <;> omega
    refine Su ?_
    simp -dsimp only [B9]
    refine Su ?_
    refine K.cutG [1, 2, 3, 4, 5] (fun _ : Unit => []) (fun _ W => LRt w1 b3 (putN (Abs.rowsK (Abs.layCells m) k) 0 ((Abs.rowsK (Abs.layCells m) k) 0 ++ if x.place = 0 ∧ x.sort = 1 then [(k : Int)] else [])) 0 W ∧ Kt rtys wc W) ?_ ?_
    · have hcl := hcx kt2
      obtain ⟨vs, g1, g2⟩ := hs.ex
      have g1' := g1
      unfold boxOf at g1
      dsimp only [slq] at g1
      have same : ¬ (x.place = 0 ∧ x.sort = 1) → LRt w1 b3 (putN (Abs.rowsK (Abs.layCells m) k) 0 ((Abs.rowsK (Abs.layCells m) k) 0 ++ if x.place = 0 ∧ x.sort = 1 then [(k : Int)] else [])) 0 w2 := fun e => hs.congr fun j hj => by
        unfold putN
        by_cases a : j = 0
        · subst a; simp [e]
        · simp [a]
      refine Sg ?_
      rw [← hx]
      refine K.cond (fun g3 => ?_) (fun g3 => ?_)
      · refine Sg ?_
        rw [← hx]
        refine K.cond (fun g4 => ?_) (fun g4 => ?_)
        · refine Sg ?_
          intro w5 b5 hb5 he5 hc5
          have z1 := hs.mod.size
          have z2 := he5.size
          have hlen : ((Abs.rowsK (Abs.layCells m) k) 0).length ≤ 100 := hrl 0
          have g25 := g2.ext he5
          have g15 := he5.obj g1'
          refine K.appRws (y := (k : Int)) 0 (by decide) g25 (fun _ => rfl) (cellsAt_blk hc5) encN_one (by omega) (by unfold maxLen; omega) (by omega) fun v' w6 ho6 hg6 => ?_
          have hb6 : w6.heap[b3]? = some (.cells (boxOf vs 0) T.api_Layout) := (Mod.grown (A := fun k => (slq (vs 0)).ownBlock = some k) hg6 fun k hk => hk).obj (g25.not g15 (by decide) 0 (by decide)) g15
          have hb6' := hb6
          unfold boxOf at hb6
          refine Sg ?_
          intro w7 hw7 hc7
          obtain ⟨hs7, kt7⟩ := lrt_app (by decide) hs.mod g1' g2 he5 hg6 ho6 hw7 hc7
          refine Sg ?_
          refine ⟨(), trivial, hs7.congr fun j hj => ?_, kt2.trans kt7⟩
          have e : (if x.place = 0 ∧ x.sort = 1 then [(k : Int)] else []) = [(k : Int)] := if_pos ⟨g3, g4⟩
          rw [e]
        · refine Sg ?_
          exact ⟨(), trivial, same fun e => g4 e.2, kt2⟩
      · refine Sg ?_
        exact ⟨(), trivial, same fun e => g3 e.1, kt2⟩
    rintro _ S w10 ⟨hsw10, ktw10⟩
    refine Su ?_
    refine K.cutG [1, 2, 3, 4, 5] (fun _ : Unit => []) (fun _ W => LRt w1 b3 (putN (putN (Abs.rowsK (Abs.layCells m) k) 0 ((Abs.rowsK (Abs.layCells m) k) 0 ++ if x.place = 0 ∧ x.sort = 1 then [(k : Int)] else [])) 1 ((putN (Abs.rowsK (Abs.layCells m) k) 0 ((Abs.rowsK (Abs.layCells m) k) 0 ++ if x.place = 0 ∧ x.sort = 1 then [(k : Int)] else [])) 1 ++ if x.place = 0 ∧ x.sort = 2 then [(k : Int)] else [])) 0 W ∧ Kt rtys wc W) ?_ ?_
    · have hcl := hcx ktw10
      obtain ⟨vs, g1, g2⟩ := hsw10.ex
      have g1' := g1
      unfold boxOf at g1
      dsimp only [slq] at g1
      have same : ¬ (x.place = 0 ∧ x.sort = 2) → LRt w1 b3 (putN (putN (Abs.rowsK (Abs.layCells m) k) 0 ((Abs.rowsK (Abs.layCells m) k) 0 ++ if x.place = 0 ∧ x.sort = 1 then [(k : Int)] else [])) 1 ((putN (Abs.rowsK (Abs.layCells m) k) 0 ((Abs.rowsK (Abs.layCells m) k) 0 ++ if x.place = 0 ∧ x.sort = 1 then [(k : Int)] else [])) 1 ++ if x.place = 0 ∧ x.sort = 2 then [(k : Int)] else [])) 0 w10 := fun e => hsw10.congr fun j hj => by
        unfold putN
        by_cases a : j = 1
        · subst a; simp [e]
        · simp [a]
      refine Sg ?_
      rw [← hx]
      refine K.cond (fun g3 => ?_) (fun g3 => ?_)
      · refine Sg ?_
        rw [← hx]
        refine K.cond (fun g4 => ?_) (fun g4 => ?_)
        · refine Sg ?_
          intro w5 b5 hb5 he5 hc5
          have z1 := hsw10.mod.size
          have z2 := he5.size
          have hlen : ((putN (Abs.rowsK (Abs.layCells m) k) 0 ((Abs.rowsK (Abs.layCells m) k) 0 ++ if x.place = 0 ∧ x.sort = 1 then [(k : Int)] else [])) 1).length ≤ 100 := hrl 1
          have g25 := g2.ext he5
          have g15 := he5.obj g1'
          refine K.appRws (y := (k : Int)) 1 (by decide) g25 (fun _ => rfl) (cellsAt_blk hc5) encN_one (by omega) (by unfold maxLen; omega) (by omega) fun v' w6 ho6 hg6 => ?_
          have hb6 : w6.heap[b3]? = some (.cells (boxOf vs 0) T.api_Layout) := (Mod.grown (A := fun k => (slq (vs 1)).ownBlock = some k) hg6 fun k hk => hk).obj (g25.not g15 (by decide) 1 (by decide)) g15
          have hb6' := hb6
          unfold boxOf at hb6
          refine Sg ?_
          intro w7 hw7 hc7
          obtain ⟨hs7, kt7⟩ := lrt_app (by decide) hsw10.mod g1' g2 he5 hg6 ho6 hw7 hc7
          refine Sg ?_
          refine ⟨(), trivial, hs7.congr fun j hj => ?_, ktw10.trans kt7⟩
          have e : (if x.place = 0 ∧ x.sort = 2 then [(k : Int)] else []) = [(k : Int)] := if_pos ⟨g3, g4⟩
          rw [e]
        · refine Sg ?_
          exact ⟨(), trivial, same fun e => g4 e.2, ktw10⟩
      · refine Sg ?_
        exact ⟨(), trivial, same fun e => g3 e.1, ktw10⟩
    rintro _ S w11 ⟨hsw11, ktw11⟩
    refine Su ?_
    refine K.cutG [1, 2, 3, 4, 5] (fun _ : Unit => []) (fun _ W => LRt w1 b3 (putN (putN (putN (Abs.rowsK (Abs.layCells m) k) 0 ((Abs.rowsK (Abs.layCells m) k) 0 ++ if x.place = 0 ∧ x.sort = 1 then [(k : Int)] else [])) 1 ((putN (Abs.rowsK (Abs.layCells m) k) 0 ((Abs.rowsK (Abs.layCells m) k) 0 ++ if x.place = 0 ∧ x.sort = 1 then [(k : Int)] else [])) 1 ++ if x.place = 0 ∧ x.sort = 2 then [(k : Int)] else [])) 2 ((putN (putN (Abs.rowsK (Abs.layCells m) k) 0 ((Abs.rowsK (Abs.layCells m) k) 0 ++ if x.place = 0 ∧ x.sort = 1 then [(k : Int)] else [])) 1 ((putN (Abs.rowsK (Abs.layCells m) k) 0 ((Abs.rowsK (Abs.layCells m) k) 0 ++ if x.place = 0 ∧ x.sort = 1 then [(k : Int)] else [])) 1 ++ if x.place = 0 ∧ x.sort = 2 then [(k : Int)] else [])) 2 ++ if x.place = 0 ∧ x.sort = 3 then [(k : Int)] else [])) 0 W ∧ Kt rtys wc W) ?_ ?_
    · have hcl := hcx ktw11
      obtain ⟨vs, g1, g2⟩ := hsw11.ex
      have g1' := g1
      unfold boxOf at g1
      dsimp only [slq] at g1
      have same : ¬ (x.place = 0 ∧ x.sort = 3) → LRt w1 b3 (putN (putN (putN (Abs.rowsK (Abs.layCells m) k) 0 ((Abs.rowsK (Abs.layCells m) k) 0 ++ if x.place = 0 ∧ x.sort = 1 then [(k : Int)] else [])) 1 ((putN (Abs.rowsK (Abs.layCells m) k) 0 ((Abs.rowsK (Abs.layCells m) k) 0 ++ if x.place = 0 ∧ x.sort = 1 then [(k : Int)] else [])) 1 ++ if x.place = 0 ∧ x.sort = 2 then [(k : Int)] else [])) 2 ((putN (putN (Abs.rowsK (Abs.layCells m) k) 0 ((Abs.rowsK (Abs.layCells m) k) 0 ++ if x.place = 0 ∧ x.sort = 1 then [(k : Int)] else [])) 1 ((putN (Abs.rowsK (Abs.layCells m) k) 0 ((Abs.rowsK (Abs.layCells m) k) 0 ++ if x.place = 0 ∧ x.sort = 1 then [(k : Int)] else [])) 1 ++ if x.place = 0 ∧ x.sort = 2 then [(k : Int)] else [])) 2 ++ if x.place = 0 ∧ x.sort = 3 then [(k : Int)] else [])) 0 w11 := fun e => hsw11.congr fun j hj => by
        unfold putN
        by_cases a : j = 2
        · subst a; simp [e]
        · simp [a]
      refine Sg ?_
      rw [← hx]
      refine K.cond (fun g3 => ?_) (fun g3 => ?_)
      · refine Sg ?_
        rw [← hx]
        refine K.cond (fun g4 => ?_) (fun g4 => ?_)
        · refine Sg ?_
          intro w5 b5 hb5 he5 hc5
          have z1 := hsw11.mod.size
          have z2 := he5.size
          have hlen : ((putN (putN (Abs.rowsK (Abs.layCells m) k) 0 ((Abs.rowsK (Abs.layCells m) k) 0 ++ if x.place = 0 ∧ x.sort = 1 then [(k : Int)] else [])) 1 ((putN (Abs.rowsK (Abs.layCells m) k) 0 ((Abs.rowsK (Abs.layCells m) k) 0 ++ if x.place = 0 ∧ x.sort = 1 then [(k : Int)] else [])) 1 ++ if x.place = 0 ∧ x.sort = 2 then [(k : Int)] else [])) 2).length ≤ 100 := hrl 2
          have g25 := g2.ext he5
          have g15 := he5.obj g1'
          refine K.appRws (y := (k : Int)) 2 (by decide) g25 (fun _ => rfl) (cellsAt_blk hc5) encN_one (by omega) (by unfold maxLen; omega) (by omega) fun v' w6 ho6 hg6 => ?_
          have hb6 : w6.heap[b3]? = some (.cells (boxOf vs 0) T.api_Layout) := (Mod.grown (A := fun k => (slq (vs 2)).ownBlock = some k) hg6 fun k hk => hk).obj (g25.not g15 (by decide) 2 (by decide)) g15
          have hb6' := hb6
          unfold boxOf at hb6
          refine Sg ?_
          intro w7 hw7 hc7
          obtain ⟨hs7, kt7⟩ := lrt_app (by decide) hsw11.mod g1' g2 he5 hg6 ho6 hw7 hc7
          refine Sg ?_
          refine ⟨(), trivial, hs7.congr fun j hj => ?_, ktw11.trans kt7⟩
          have e : (if x.place = 0 ∧ x.sort = 3 then [(k : Int)] else []) = [(k : Int)] := if_pos ⟨g3, g4⟩
          rw [e]
        · refine Sg ?_
          exact ⟨(), trivial, same fun e => g4 e.2, ktw11⟩
      · refine Sg ?_
        exact ⟨(), trivial, same fun e => g3 e.1, ktw11⟩
    rintro _ S w12 ⟨hsw12, ktw12⟩
    have hcl := hcx ktw12
    obtain ⟨vs, g1, g2⟩ := hsw12.ex
    have g1' := g1
    unfold boxOf at g1
    dsimp only [slq] at g1
    refine Sg ?_
    intro w5 he5
    replace hcl := hcl.ext Flat.ext he5
    replace g1 := he5.obj g1
    refine Sg ?_
    intro w6 b6 hb6 he6 hc6
    refine ⟨he6, ?_⟩
    have he56 := he5.trans he6
    have z1 := hsw12.mod.size
    have z2 := he56.size
    have hlen : (Abs.rowsK (Abs.layCells m) k 3).length ≤ 100 := hrl 3
    have g25 := g2.ext he56
    have g15 := he56.obj g1'
    refine K.appRws (y := (Abs.layCells m)[k].lo) 3 (by decide) g25 (fun _ => rfl) (cellsAt_blk hc6) encN_one (by rw [show (putN _ 2 _ 3 : List Int) = Abs.rowsK (Abs.layCells m) k 3 from rfl]; omega) (by rw [show (putN _ 2 _ 3 : List Int) = Abs.rowsK (Abs.layCells m) k 3 from rfl]; unfold maxLen; omega) (by omega) fun v' w7 ho7 hg7 => ?_
    have hb7 : w7.heap[b3]? = some (.cells (boxOf vs 0) T.api_Layout) := (Mod.grown (A := fun k => (slq (vs 3)).ownBlock = some k) hg7 fun k hk => hk).obj (g25.not g15 (by decide) 3 (by decide)) g15
    have hb7' := hb7
    unfold boxOf at hb7
    refine Sg ?_
    intro w8a hw8 hc8
    obtain ⟨hs8a, kt8a⟩ := lrt_app (by decide) hsw12.mod g1' g2 he56 hg7 ho7 hw8 hc8
    clear g1 g2 g1' g25 g15 ho7 hb7 hb7' hc8 hc6 hcl
    have kt9a := ktw12.trans kt8a
    have hcl := hcx kt9a
    obtain ⟨vs, g1, g2⟩ := hs8a.ex
    have g1' := g1
    unfold boxOf at g1
    dsimp only [slq] at g1
    refine Sg ?_
    intro w5 he5
    replace hcl := hcl.ext Flat.ext he5
    replace g1 := he5.obj g1
    refine Sg ?_
    intro w6 b6 hb6 he6 hc6
    refine ⟨he6, ?_⟩
    have he56 := he5.trans he6
    have z1 := hs8a.mod.size
    have z2 := he56.size
    have hlen : (Abs.rowsK (Abs.layCells m) k 4).length ≤ 100 := hrl 4
    have g25 := g2.ext he56
    have g15 := he56.obj g1'
    refine K.appRws (y := (Abs.layCells m)[k].hi) 4 (by decide) g25 (fun _ => rfl) (cellsAt_blk hc6) encN_one (by rw [show (putN _ 3 _ 4 : List Int) = Abs.rowsK (Abs.layCells m) k 4 from rfl]; omega) (by rw [show (putN _ 3 _ 4 : List Int) = Abs.rowsK (Abs.layCells m) k 4 from rfl]; unfold maxLen; omega) (by omega) fun v' w7 ho7 hg7 => ?_
    have hb7 : w7.heap[b3]? = some (.cells (boxOf vs 0) T.api_Layout) := (Mod.grown (A := fun k => (slq (vs 4)).ownBlock = some k) hg7 fun k hk => hk).obj (g25.not g15 (by decide) 4 (by decide)) g15
    have hb7' := hb7
    unfold boxOf at hb7
    refine Sg ?_
    intro w8b hw8 hc8
    obtain ⟨hs8b, kt8b⟩ := lrt_app (by decide) hs8a.mod g1' g2 he56 hg7 ho7 hw8 hc8
    clear g1 g2 g1' g25 g15 ho7 hb7 hb7' hc8 hc6 hcl
    have kt9b := kt9a.trans kt8b
    refine Sg ?_
    refine ⟨hk', by first | trivial | rfl, (), trivial, hs8b.congr fun j hj => ?_, kt9b⟩
    subst hx
    have a : j = 0 ∨ j = 1 ∨ j = 2 ∨ j = 3 ∨ j = 4 := by omega
    rcases a with rfl | rfl | rfl | rfl | rfl
    · exact (Abs.firsts_take (s := 1) hk').symm
    · exact (Abs.firsts_take (s := 2) hk').symm
    · exact (Abs.firsts_take (s := 3) hk').symm
    · show (_ : List Int) = ((Abs.layCells m).take (k + 1)).map (·.lo)
      rw [List.take_succ_eq_append_getElem hk', List.map_append]; rfl
    · show (_ : List Int) = ((Abs.layCells m).take (k + 1)).map (·.hi)
      rw [List.take_succ_eq_append_getElem hk', List.map_append]; rfl
  have hkl : k = (Abs.layCells m).length := by omega
  subst hkl
  have E2 := hE hs
  have hc2 := hx2 hs
  clear g1 g2
  obtain ⟨vs, g1, g2⟩ := hs.ex
  have g1' := g1
  unfold boxOf at g1
  dsimp only [slq] at g1
  refine Sg ?_
  intro w3 hw3 hc3
  have g23 := g2.mod (hw3.mod (A := fun k => k = b3) rfl) fun i k hi hk e => by subst e; exact g2.not g1' (by decide) i hi hk
  replace hc2 := hw3.obj hc2 (by omega)
  replace hc3 : w3.heap[b3]? = some (.cells #[slq (vs 0), slq (vs 1), slq (vs 2), .int .i64 (Abs.layCells m).length, slq (vs 3), slq (vs 4)] T.api_Layout) := hc3
  dsimp only [slq] at hc3
  refine Sg ?_
  intro w4 hw4 hc4
  have g24 := g23.mod (hw4.mod (A := fun k => k = b2) rfl) fun i k hi hk e => by subst e; exact g23.not hc2 (by decide) i hi hk
  have hz : w.heap.size ≤ w1.heap.size := by omega
  have nr := fun (i : Nat) (hi : i < 5) => OwR.new (e := T.int) (enc := encN) (fun _ => rfl) (OwR.low hz (g24.own i hi))
  obtain ⟨f1, f2, f3⟩ := Abs.firsts_lay hM
  have r0 : Abs.rowsK (Abs.layCells m) (Abs.layCells m).length 0 = (Abs.layout m).vars := by show Abs.firsts 1 ((Abs.layCells m).take _) 0 = _; rw [List.take_length, f1]; rfl
  have r1 : Abs.rowsK (Abs.layCells m) (Abs.layCells m).length 1 = (Abs.layout m).chans := by show Abs.firsts 2 ((Abs.layCells m).take _) 0 = _; rw [List.take_length, f2]; rfl
  have r2 : Abs.rowsK (Abs.layCells m) (Abs.layCells m).length 2 = (Abs.layout m).insts := by show Abs.firsts 3 ((Abs.layCells m).take _) 0 = _; rw [List.take_length, f3]; rfl
  have r3 : Abs.rowsK (Abs.layCells m) (Abs.layCells m).length 3 = (Abs.layout m).lo := by show ((Abs.layCells m).take _).map _ = _; rw [List.take_length]; rfl
  have r4 : Abs.rowsK (Abs.layCells m) (Abs.layCells m).length 4 = (Abs.layout m).hi := by show ((Abs.layCells m).take _).map _ = _; rw [List.take_length]; rfl
  refine Sg ?_
  refine ⟨⟨[_, _, _, _, _, _], rfl, fun W2 mm => ⟨⟨_, _, _, _, _, rfl, ?_, ?_, ?_, ?_, ?_⟩⟩⟩, hw4.ext (hw3.ext E2 (by omega)) (by omega)⟩
  · rw [← r0]; exact nr 0 (by decide) W2 mm
  · rw [← r1]; exact nr 1 (by decide) W2 mm
  · rw [← r2]; exact nr 2 (by decide) W2 mm
  · rw [← r3]; exact nr 3 (by decide) W2 mm
  · rw [← r4]; exact nr 4 (by decide) W2 mm
end Go.Proofs.YtpaahhleopalaaaGreatDoor
end
section
/- Layouts: the document's functions; the chapter's example. -/
set_option maxRecDepth 8000
set_option maxHeartbeats 3200000
namespace Abs
open Go
def exL1 : Var := ⟨⟨#[108]⟩, 1, 0, 0, 0, 0⟩
def exSome : Model := ⟨[exS], [⟨⟨#[120]⟩, 0, 1, 0, 3, 0⟩], [⟨⟨#[99]⟩, 0, 1, 1, 2, false⟩], [⟨⟨#[97]⟩, 0, 2, [exL1], []⟩], []⟩
theorem exSome_0 : (lay exSome).vars = [0] := by decide +kernel
theorem exSome_1 : (lay exSome).chans = [2] := by decide +kernel
theorem exSome_2 : (lay exSome).insts = [4] := by decide +kernel
theorem exSome_3 : (lay exSome).cells = 6 := by decide +kernel
theorem exSome_4 : (lay exSome).lo = [0, 0, 0, 0, 0, 0] := by decide +kernel
theorem exSome_5 : (lay exSome).hi = [3, 3, 1, 2, 1, 2] := by decide +kernel
theorem exSome_6 : kinds exSome = [0, 0, 0, 0, 0, 2] := by decide +kernel
theorem exSome_7 : slot exSome 3 = (2, 0, 1) := by decide +kernel
theorem exSome_good : exSome.good := by
  refine ⟨by simp [exSome, big], by simp [exSome, big], by simp [exSome, big], by simp [exSome, big], by simp [exSome, big], ?_, ?_, ?_, ?_, by simp [exSome]⟩
  · intro a ha
    simp [exSome] at ha
    subst ha
    exact ⟨inI_small (by simp [exS])⟩
  · intro a ha
    simp [exSome] at ha
    subst ha
    exact ⟨inI_small (by simp), inI_small (by simp), inI_small (by simp), inI_small (by simp), inI_small (by simp)⟩
  · intro a ha
    simp [exSome] at ha
    subst ha
    exact ⟨inI_small (by simp), inI_small (by simp), inI_small (by simp), inI_small (by simp)⟩
  · intro a ha
    simp [exSome] at ha
    subst ha
    refine ⟨inI_small (by simp), inI_small (by simp), by simp [big], by simp [big], ?_, by simp⟩
    intro b hb
    simp [exL1] at hb
    subst hb
    exact ⟨inI_small (by simp), inI_small (by simp), inI_small (by simp), inI_small (by simp), inI_small (by simp)⟩
end Abs
namespace Go.Proofs.YtpaahhleopalaaaGreatDoor
open Go Go.RowKit Lite
theorem refLayOf_r (cs : List Value) (m : Abs.Model) (w : World) (h : Abs.ModelIs w cs m) (hg : m.good) :
    Ret Tryz.prog F.lariatref17_Of #[.agg cs.toArray] w fun v w' => (∃ xs, v = .agg xs.toArray ∧ New w (fun w => Abs.LayIs w xs (Abs.lay m)) w') ∧ Ext w w' := by
  have hM := h
  obtain ⟨o0, c0, o1, c1, o2, c2, o3, c3, o4, c4, rfl, _⟩ := h.form
  refine K.start hmix E.lariatref17_Of (args := [_]) (Nat.le_of_ble_eq_true rfl) ?_; dsimp only [C.lariatref17_Of]; refine Yy ?_
  refine Sg ?_
  intro w1 b1 hb1 he1 hc1
  refine Sg ?_
  intro w2 b2 hb2 he2 hc2
  have z1 := lt_of_heap hc1
  replace hc1 := he2.obj hc1
  have z2 := lt_of_heap hc2
  have z3 := he1.size
  have e2 := he1.trans he2
  refine Sg ?_
  refine K.call (good_r _ m w2 (hM.ext e2) hg) ?_
  rintro _ w3 ⟨rfl, he3⟩
  replace hc1 := he3.obj hc1
  replace hc2 := he3.obj hc2
  have e3 := e2.trans he3
  by_cases hk : (Abs.check m).why = 0
  · rw [decide_eq_true hk]
    refine Sg ?_
    refine K.call (refLay_r _ m w3 (hM.ext e3) hg (Abs.maybe_of hk)) ?_
    rintro _ w4 ⟨⟨xs, rfl, hL⟩, he4⟩
    obtain ⟨x0, d0, x1, d1, x2, d2, x3, d3, x4, d4, rfl, _⟩ := hL.here.form
    replace hc2 := he4.obj hc2
    have e4 := e3.trans he4
    have z4 := he3.size
    refine Sg ?_
    intro w6 hw6 hc6
    have hn := hL.wr hw6 (by omega)
    refine Sg ?_
    exact ⟨⟨_, rfl, by rw [Abs.lay_ok hk]; exact hn.low e3.size⟩, hw6.ext e4 (by omega)⟩
  · rw [decide_eq_false hk]
    refine Sg ?_
    intro w4 hw4 hc4
    refine Sg ?_
    exact ⟨⟨[_, _, _, _, _, _], rfl, by rw [Abs.lay_no hk]; exact Stab.of fun _ => Abs.LayIs.zero _⟩, hw4.ext e3 (by omega)⟩
theorem refLayKinds_r (cs : List Value) (m : Abs.Model) (w : World) (h : Abs.ModelIs w cs m) (hg : m.good) :
    Ret Tryz.prog F.lariatref17_Kinds #[.agg cs.toArray] w fun v w' => OwR encN T.int 1 w.heap.size w' v (Abs.kinds m) ∧ Ext w w' := by
  have hM := h
  obtain ⟨o0, c0, o1, c1, o2, c2, o3, c3, o4, c4, rfl, _⟩ := h.form
  refine K.start hmix E.lariatref17_Kinds (args := [_]) (Nat.le_of_ble_eq_true rfl) ?_; dsimp only [C.lariatref17_Kinds]; refine Yy ?_
  refine Sg ?_
  intro w1 b1 hb1 he1 hc1
  refine Sg ?_
  refine K.call (good_r _ m w1 (hM.ext he1) hg) ?_
  rintro _ w3 ⟨rfl, he3⟩
  replace hc1 := he3.obj hc1
  have e3 := he1.trans he3
  by_cases hk : (Abs.check m).why = 0
  · rw [decide_eq_true hk, Abs.kinds_ok hk]
    have h64 := Abs.layCells_le64 (Abs.maybe_of hk)
    refine Sg ?_
    refine K.call (refLayCells_r _ m w3 (hM.ext e3) hg (Abs.maybe_of hk)) ?_
    rintro v w4 ⟨ho, he4⟩
    obtain ⟨ou, cu, rfl, _⟩ := ho.form
    have hs : SlR 6 (Flat Abs.Cell.enc) w4 _ _ := OwR.slF (enc := Abs.Cell.enc) (fun _ => rfl) ho
    have e4 := e3.trans he4
    refine Sg ?_
    refine K.forG 5 (Abs.layCells m).length [4] (fun v : SlP => [(3, .slice v.1 v.2.1 v.2.2)]) (none, 0, 0) (fun k v W => Ext w4 W ∧ OwR encN T.int 1 w4.heap.size W (.slice v.1 v.2.1 v.2.2) (((Abs.layCells m).take k).map (·.kind))) hZq hZq ⟨Ext.refl _, OwR.nil _ _ _ _ _⟩ ?_
    rintro k v S w6 hk' ⟨he6, ho6⟩
    refine Sg ?_
    refine K.cond (fun g1 => ?_) (fun g1 => ?_)
    · have hk2 : k < (Abs.layCells m).length := by omega
      obtain ⟨a, rfl⟩ := hs.addr (by omega)
      refine Sg ?_
      intro w8 b8 hb8 he8 hc8
      have e68 := he6.trans he8
      have ho8 := ho6.ext he8
      have hl : (((Abs.layCells m).take k).map (·.kind)).length = k := by simp; omega
      refine K.app1 (y := (Abs.layCells m)[k].kind) ho8 hc8 rfl (fun _ => rfl) encN_one (by rw [hl]; omega) (by rw [hl]; unfold maxLen; omega) e68.size fun oa n c w9 ho9 hg9 => ?_
      refine Sg ?_
      exact ⟨hk2, by first | trivial | rfl, (oa, n, c), hZq, ho8.extG e68 hg9 (Nat.le_refl _), by rw [List.take_succ_eq_append_getElem hk2, List.map_append]; exact ho9⟩
    · rw [List.take_of_length_le (by omega)] at ho6
      refine Sg ?_
      exact ⟨OwR.low e4.size ho6, e4.trans he6⟩
  · rw [decide_eq_false hk, Abs.kinds_no hk]
    refine Sg ?_
    exact ⟨OwR.nil _ _ _ _ _, e3⟩
theorem refLaySlots_r (cs : List Value) (m : Abs.Model) (c : Int) (w : World) (h : Abs.ModelIs w cs m) (hg : m.good) :
    Ret Tryz.prog F.lariatref17_Slots #[.agg cs.toArray, .int .i64 c] w fun v w' => v = .tuple #[.int .i64 (Abs.slot m c).1, .int .i64 (Abs.slot m c).2.1, .int .i64 (Abs.slot m c).2.2] ∧ Ext w w' := by
  have hM := h
  obtain ⟨o0, c0, o1, c1, o2, c2, o3, c3, o4, c4, rfl, _⟩ := h.form
  refine K.start hmix E.lariatref17_Slots (args := [_, _]) (Nat.le_of_ble_eq_true rfl) ?_; dsimp only [C.lariatref17_Slots]; refine Yy ?_
  refine Sg ?_
  intro w1 b1 hb1 he1 hc1
  refine Sg ?_
  refine K.call (good_r _ m w1 (hM.ext he1) hg) ?_
  rintro _ w3 ⟨rfl, he3⟩
  replace hc1 := he3.obj hc1
  have e3 := he1.trans he3
  by_cases hk : (Abs.check m).why = 0
  · rw [decide_eq_true hk]
    refine Sg ?_
    refine K.call (refLayCells_r _ m w3 (hM.ext e3) hg (Abs.maybe_of hk)) ?_
    rintro v w4 ⟨ho, he4⟩
    obtain ⟨ou, cu, rfl, _⟩ := ho.form
    have hs : SlR 6 (Flat Abs.Cell.enc) w4 _ _ := OwR.slF (enc := Abs.Cell.enc) (fun _ => rfl) ho
    have e4 := e3.trans he4
    refine Sg ?_
    refine K.cond (fun g1 => ?_) (fun g1 => ?_)
    · refine Sg ?_
      rw [Abs.slot_out hk (.inl g1)]
      exact ⟨by first | trivial | rfl, e4⟩
    refine Sg ?_
    refine K.cond (fun g2 => ?_) (fun g2 => ?_)
    · refine Sg ?_
      rw [Abs.slot_out hk (.inr g2)]
      exact ⟨by first | trivial | rfl, e4⟩
    obtain ⟨j, rfl⟩ := Int.eq_ofNat_of_zero_le (show 0 ≤ c by omega)
    have hj : j < (Abs.layCells m).length := by omega
    obtain ⟨a, rfl⟩ := hs.addr (by omega)
    rw [Abs.slot_in hk hj]
    refine Sg ?_
    intro w6 he6
    refine Sg ?_
    exact ⟨by first | trivial | rfl, e4.trans he6⟩
  · rw [decide_eq_false hk, Abs.slot_no c hk]
    refine Sg ?_
    exact ⟨by first | trivial | rfl, e3⟩
theorem some_r (w : World) : Ret Tryz.prog F.lariatlaw17_some #[] w fun v w' => (∃ cs, v = .agg cs.toArray ∧ Abs.ModelIs w' cs Abs.exSome) ∧ Ext w w' := by
  refine K.start hmix E.lariatlaw17_some (args := []) (Nat.le_of_ble_eq_true rfl) ?_; dsimp only [C.lariatlaw17_some]; refine Yy ?_
  refine Sg ?_
  intro w1 b1 hb1 he1 hc1
  have z1 := lt_of_heap hc1
  refine Sg ?_
  intro w2 b2 hb2 he2 hc2
  refine Sg ?_
  intro w3 b3 hb3 he3 hc3
  refine Sg ?_
  intro w4 b4 hb4 he4 hc4
  refine Sg ?_
  intro w5 b5 hb5 he5 hc5
  refine Sg ?_
  intro w6 b6 hb6 he6 hc6
  have hc1' := ((((he2.trans he3).trans he4).trans he5).trans he6).obj hc1
  refine Sg ?_
  intro w7 hw7 hc7
  have y2 := he2.size
  have y3 := he3.size
  have y4 := he4.size
  have y5 := he5.size
  have k2 := hw7.obj ((((he3.trans he4).trans he5).trans he6).obj hc2) (by omega)
  have k3 := hw7.obj (((he4.trans he5).trans he6).obj hc3) (by omega)
  have k4 := hw7.obj ((he5.trans he6).obj hc4) (by omega)
  have k5 := hw7.obj (he6.obj hc5) (by omega)
  have k6 := hw7.obj hc6 (by omega)
  have kS : Abs.Scalars w7 (.slice (some ⟨b2, 0, none⟩) 1 1) Abs.exSome.scalars := Abs.Scalars.blk k2 rfl (by decide) (by intro x hx; simp only [Abs.exSome, List.mem_singleton] at hx; subst hx; decide)
  have kV : Abs.Vars w7 (.slice (some ⟨b3, 0, none⟩) 1 1) Abs.exSome.vars := Abs.Vars.blk k3 rfl (by decide) (by intro x hx; simp only [Abs.exSome, List.mem_singleton] at hx; subst hx; decide)
  have kC : Abs.Chans w7 (.slice (some ⟨b4, 0, none⟩) 1 1) Abs.exSome.chans := Abs.Chans.blk k4 rfl (by decide) (by intro x hx; simp only [Abs.exSome, List.mem_singleton] at hx; subst hx; decide)
  have kL : Abs.Vars w7 (.slice (some ⟨b5, 0, none⟩) 1 1) [Abs.exL1] := Abs.Vars.blk k5 rfl (by decide) (by intro x hx; simp only [List.mem_singleton] at hx; subst hx; decide)
  have kP : Abs.Procs w7 (.slice (some ⟨b6, 0, none⟩) 1 1) Abs.exSome.procs := SlR.blkC [⟨(⟨⟨#[97]⟩, 0, 2, [Abs.exL1], []⟩ : Abs.Proc).enc (.slice (some ⟨b5, 0, none⟩) 1 1) (.slice none 0 0), rfl, by simp [Abs.Proc.enc, Value.oneCell']⟩] k6 rfl rfl rfl (by decide) (by
    intro i h1 h2
    have : i = 0 := by simp at h1; omega
    subst this
    exact ⟨(show Abs.strOk ⟨#[97]⟩ by decide), _, _, rfl, kL, SlR.nil⟩)
  refine Sg ?_
  exact ⟨⟨_, rfl, ⟨_, _, _, _, _, rfl, kS, kV, kC, kP, SlR.nil⟩⟩, hw7.ext (((((he1.trans he2).trans he3).trans he4).trans he5).trans he6) hb1⟩
end Go.Proofs.YtpaahhleopalaaaGreatDoor
end
section
/- Layouts: the chapter's example holds. -/
set_option maxRecDepth 8000
set_option maxHeartbeats 3200000
namespace Go.Proofs.YtpaahhleopalaaaGreatDoor
open Go Go.RowKit Lite
theorem leq_r (v1 v2 : Value) (l1 l2 : List Int) (w : World) (h1 : SlR 1 (Flat encN) w v1 l1) (h2 : SlR 1 (Flat encN) w v2 l2) :
    Ret Tryz.prog F.slices_Equal_sl_int_int #[v1, v2] w fun v w' => (∃ b : Bool, v = .bool b ∧ (b = true ↔ l1 = l2)) ∧ Ext w w' :=
  equal1_r hmix E.slices_Equal_sl_int_int _ _ l1 l2 w h1 h2
theorem lworks_r (w : World) (ho : OwnIs w) : Ret Tryz.prog F.lariatlaw17_works #[] w fun v w' => v = .bool true ∧ Ext w w' := by
  refine K.start hmix E.lariatlaw17_works (args := []) (Nat.le_of_ble_eq_true rfl) ?_; dsimp only [C.lariatlaw17_works]; refine Yy ?_
  refine Sg ?_
  refine K.call (some_r w) ?_
  rintro _ w1 ⟨⟨cs, rfl, hM⟩, he1⟩
  obtain ⟨o0, c0, o1, c1, o2, c2, o3, c3, o4, c4, rfl, _⟩ := hM.form
  refine Sg ?_
  refine K.call (layOf_r _ Abs.exSome w1 hM Abs.exSome_good (ho.ext he1)) ?_
  rintro _ w2 ⟨⟨xs, rfl, hL⟩, he2⟩
  have e2 := he1.trans he2
  replace hL := hL.here
  obtain ⟨x0, d0, x1, d1, x2, d2, x3, d3, x4, d4, rfl, r0, r1, r2, r3, r4⟩ := hL.form
  clear hM
  refine Sg ?_
  intro w3 b1 hb1 he3 hc1
  have e3 := e2.trans he3
  refine Sg ?_
  refine K.call (some_r w3) ?_
  rintro _ w4 ⟨⟨cs, rfl, hM⟩, he4⟩
  obtain ⟨o0, c0, o1, c1, o2, c2, o3, c3, o4, c4, rfl, _⟩ := hM.form
  have e4 := e3.trans he4
  replace hc1 := he4.obj hc1
  refine Sg ?_
  refine K.call (laySlots_r _ Abs.exSome 3 w4 hM Abs.exSome_good (ho.ext e4)) ?_
  rintro _ w5 ⟨rfl, he5⟩
  rw [Abs.exSome_7]
  have e5 := e4.trans he5
  replace hc1 := he5.obj hc1
  clear hM
  have e25 := (he3.trans he4).trans he5
  rw [Abs.exSome_3] at hc1
  refine Sg ?_
  intro w6 b6 hb6 he6 hc6
  replace hc1 := he6.obj hc1
  have e26 := e25.trans he6
  refine Sg ?_
  refine K.call (leq_r _ _ _ [0] w6 (r0.ext Flat.ext e26) (SlR.blk (enc := encN) (R := Flat encN) (fun _ => rfl) hc6 rfl (by decide) fun _ _ _ h => h)) ?_
  rintro _ w7 ⟨⟨b, rfl, hb⟩, he7⟩
  obtain rfl := hb.2 Abs.exSome_0
  replace hc1 := he7.obj hc1
  have e27 := e26.trans he7
  refine Sg ?_
  intro w8 b8 hb8 he8 hc8
  replace hc1 := he8.obj hc1
  have e28 := e27.trans he8
  refine Sg ?_
  refine K.call (leq_r _ _ _ [2] w8 (r1.ext Flat.ext e28) (SlR.blk (enc := encN) (R := Flat encN) (fun _ => rfl) hc8 rfl (by decide) fun _ _ _ h => h)) ?_
  rintro _ w9 ⟨⟨b, rfl, hb⟩, he9⟩
  obtain rfl := hb.2 Abs.exSome_1
  replace hc1 := he9.obj hc1
  have e29 := e28.trans he9
  refine Sg ?_
  intro w10 b10 hb10 he10 hc10
  replace hc1 := he10.obj hc1
  have e210 := e29.trans he10
  refine Sg ?_
  refine K.call (leq_r _ _ _ [4] w10 (r2.ext Flat.ext e210) (SlR.blk (enc := encN) (R := Flat encN) (fun _ => rfl) hc10 rfl (by decide) fun _ _ _ h => h)) ?_
  rintro _ w11 ⟨⟨b, rfl, hb⟩, he11⟩
  obtain rfl := hb.2 Abs.exSome_2
  replace hc1 := he11.obj hc1
  have e211 := e210.trans he11
  refine Sg ?_
  intro w12 b12 hb12 he12 hc12
  replace hc1 := he12.obj hc1
  have e212 := e211.trans he12
  refine Sg ?_
  refine K.call (leq_r _ _ _ [0, 0, 0, 0, 0, 0] w12 (r3.ext Flat.ext e212) (SlR.blk (enc := encN) (R := Flat encN) (fun _ => rfl) hc12 rfl (by decide) fun _ _ _ h => h)) ?_
  rintro _ w13 ⟨⟨b, rfl, hb⟩, he13⟩
  obtain rfl := hb.2 Abs.exSome_4
  replace hc1 := he13.obj hc1
  have e213 := e212.trans he13
  refine Sg ?_
  intro w14 b14 hb14 he14 hc14
  replace hc1 := he14.obj hc1
  have e214 := e213.trans he14
  refine Sg ?_
  refine K.call (leq_r _ _ _ [3, 3, 1, 2, 1, 2] w14 (r4.ext Flat.ext e214) (SlR.blk (enc := encN) (R := Flat encN) (fun _ => rfl) hc14 rfl (by decide) fun _ _ _ h => h)) ?_
  rintro _ w15 ⟨⟨b, rfl, hb⟩, he15⟩
  obtain rfl := hb.2 Abs.exSome_5
  replace hc1 := he15.obj hc1
  have e215 := e214.trans he15
  refine Sg ?_
  refine K.call (some_r w15) ?_
  rintro _ w16 ⟨⟨cs, rfl, hM⟩, he16⟩
  obtain ⟨o0, c0, o1, c1, o2, c2, o3, c3, o4, c4, rfl, _⟩ := hM.form
  have e216 := e215.trans he16
  refine Sg ?_
  refine K.call (layKinds_r _ Abs.exSome w16 hM Abs.exSome_good (ho.ext (e2.trans e216))) ?_
  rintro vk w17 ⟨hk, he17⟩
  rw [Abs.exSome_6] at hk
  have sk : SlR 1 (Flat encN) w17 vk _ := OwR.slF (enc := encN) (fun _ => rfl) hk
  obtain ⟨ok, ck, rfl, _⟩ := hk.form
  have e217 := e216.trans he17
  refine Sg ?_
  intro w18 b18 hb18 he18 hc18
  refine Sg ?_
  refine K.call (leq_r _ _ _ [0, 0, 0, 0, 0, 2] w18 (sk.ext Flat.ext he18) (SlR.blk (enc := encN) (R := Flat encN) (fun _ => rfl) hc18 rfl (by decide) fun _ _ _ h => h)) ?_
  rintro _ w19 ⟨⟨b, rfl, hb⟩, he19⟩
  obtain rfl := hb.2 rfl
  refine Sg ?_
  exact ⟨by first | trivial | rfl, (e2.trans e217).trans (he18.trans he19)⟩
end Go.Proofs.YtpaahhleopalaaaGreatDoor
end
section
/- Layouts: the laws, walked. -/
set_option maxRecDepth 8000
set_option maxHeartbeats 16000000
namespace Go.Proofs.YtpaahhleopalaaaGreatDoor
open Go Go.RowKit Lite
theorem lawLayoutOf_r (cs : List Value) (m : Abs.Model) (w : World) (h : Abs.ModelIs w cs m) (hg : m.good) (ho : OwnIs w) :
    Ret Tryz.prog F.lariatlaw17_LayoutOf #[.agg cs.toArray] w fun v w' => v = .bool true ∧ Ext w w' := by
  have hM := h
  obtain ⟨o0, c0, o1, c1, o2, c2, o3, c3, o4, c4, rfl, _⟩ := h.form
  refine K.start hmix E.lariatlaw17_LayoutOf (args := [_]) (Nat.le_of_ble_eq_true rfl) ?_; dsimp only [C.lariatlaw17_LayoutOf]; refine Yy ?_
  refine Sg ?_
  intro w1 b1 hb1 he1 hc1
  refine Sg ?_
  refine K.call (heavy_r _ m w1 (hM.ext he1)) ?_
  rintro _ w2 ⟨hv, he2⟩
  replace hc1 := he2.obj hc1
  rcases hv with rfl | ⟨rfl, hH⟩
  · refine Sg ?_
    refine K.call (lworks_r w2 (ho.ext (he1.trans he2))) ?_
    rintro _ w3 ⟨rfl, he3⟩
    refine Sg ?_
    exact ⟨by first | trivial | rfl, (he1.trans he2).trans he3⟩
  have E2 : ∀ {w'}, Ext w2 w' → Ext w w' := fun e => (he1.trans he2).trans e
  refine Su ?_
  refine K.twoC _ F.layout_Of F.lariatref17_Of _ _ 3 _ _ 6 10 4 _ _ 6 12 (by rfl) rfl (by rfl) (by rfl) (by rfl) (by rfl) ?_
  intro w3 he3
  dsimp only [strip]
  refine Sg ?_
  refine ⟨fun x w => Abs.LayIs w x (Abs.lay m), fun x w => Abs.LayIs w x (Abs.lay m), ?_, ?_, ?_⟩
  · intro w4 he4
    refine (layOf_r _ m w4 (hM.ext (E2 (he3.trans he4))) hg (ho.ext (E2 (he3.trans he4)))).mono ?_
    rintro _ w5 ⟨⟨cs', rfl, hn⟩, he5⟩
    obtain ⟨x0, d0, x1, d1, x2, d2, x3, d3, x4, d4, rfl, _⟩ := hn.here.form
    exact ⟨he5, _, rfl, rfl, by simp [Value.oneCell'], hn.kp he4 he5⟩
  · intro w4 he4
    refine (refLayOf_r _ m w4 (hM.ext (E2 (he3.trans he4))) hg).mono ?_
    rintro _ w5 ⟨⟨cs', rfl, hn⟩, he5⟩
    obtain ⟨x0, d0, x1, d1, x2, d2, x3, d3, x4, d4, rfl, _⟩ := hn.here.form
    exact ⟨he5, _, rfl, rfl, by simp [Value.oneCell'], hn.kp he4 he5⟩
  intro w4 xa xb ba bb he4 hba hbb hne hca hcb hsa hsb
  obtain ⟨x0, d0, x1, d1, x2, d2, x3, d3, x4, d4, rfl, p0, p1, p2, p3, p4⟩ := hsa.form
  obtain ⟨z0, t0, z1, t1, z2, t2, z3, t3, z4, t4, rfl, q0, q1, q2, q3, q4⟩ := hsb.form
  refine Sg ?_
  refine K.call (leq_r _ _ _ _ w4 p0 q0) ?_
  rintro _ w5 ⟨⟨b, rfl, hb⟩, he5⟩
  obtain rfl := hb.2 rfl
  have e5 := he5
  refine Sg ?_
  refine K.call (leq_r _ _ _ _ w5 (p1.ext Flat.ext e5) (q1.ext Flat.ext e5)) ?_
  rintro _ w6 ⟨⟨b, rfl, hb⟩, he6⟩
  obtain rfl := hb.2 rfl
  have e6 := e5.trans he6
  refine Sg ?_
  refine K.call (leq_r _ _ _ _ w6 (p2.ext Flat.ext e6) (q2.ext Flat.ext e6)) ?_
  rintro _ w7 ⟨⟨b, rfl, hb⟩, he7⟩
  obtain rfl := hb.2 rfl
  have e7 := e6.trans he7
  refine Sg ?_
  refine K.call (leq_r _ _ _ _ w7 (p3.ext Flat.ext e7) (q3.ext Flat.ext e7)) ?_
  rintro _ w8 ⟨⟨b, rfl, hb⟩, he8⟩
  obtain rfl := hb.2 rfl
  have e8 := e7.trans he8
  refine Sg ?_
  refine K.call (leq_r _ _ _ _ w8 (p4.ext Flat.ext e8) (q4.ext Flat.ext e8)) ?_
  rintro _ w9 ⟨⟨b, rfl, hb⟩, he9⟩
  obtain rfl := hb.2 rfl
  have e9 := e8.trans he9
  have E9 := E2 ((he3.trans he4).trans e9)
  refine Sg ?_
  refine K.call (lworks_r w9 (ho.ext E9)) ?_
  rintro _ w10 ⟨rfl, he10⟩
  refine Sg ?_
  exact ⟨by first | trivial | rfl, E9.trans he10⟩
theorem lawLayoutKinds_r (cs : List Value) (m : Abs.Model) (w : World) (h : Abs.ModelIs w cs m) (hg : m.good) (ho : OwnIs w) :
    Ret Tryz.prog F.lariatlaw17_LayoutKinds #[.agg cs.toArray] w fun v w' => v = .bool true ∧ Ext w w' := by
  have hM := h
  obtain ⟨o0, c0, o1, c1, o2, c2, o3, c3, o4, c4, rfl, _⟩ := h.form
  refine K.start hmix E.lariatlaw17_LayoutKinds (args := [_]) (Nat.le_of_ble_eq_true rfl) ?_; dsimp only [C.lariatlaw17_LayoutKinds]; refine Yy ?_
  refine Sg ?_
  intro w1 b1 hb1 he1 hc1
  refine Sg ?_
  refine K.call (heavy_r _ m w1 (hM.ext he1)) ?_
  rintro _ w2 ⟨hv, he2⟩
  replace hc1 := he2.obj hc1
  rcases hv with rfl | ⟨rfl, hH⟩
  · refine Sg ?_
    refine K.call (lworks_r w2 (ho.ext (he1.trans he2))) ?_
    rintro _ w3 ⟨rfl, he3⟩
    refine Sg ?_
    exact ⟨by first | trivial | rfl, (he1.trans he2).trans he3⟩
  have E2 : ∀ {w'}, Ext w2 w' → Ext w w' := fun e => (he1.trans he2).trans e
  refine Sg ?_
  intro w3 he3
  replace hc1 := he3.obj hc1
  have e3 := E2 he3
  refine Sg ?_
  refine K.call (layKinds_r _ m w3 (hM.ext e3) hg (ho.ext e3)) ?_
  rintro va w4 ⟨ha, he4⟩
  refine ⟨he4, ?_⟩
  have sa : SlR 1 (Flat encN) w4 va _ := OwR.slF (enc := encN) (fun _ => rfl) ha
  obtain ⟨oa, ca, rfl, _⟩ := ha.form
  have e4 := e3.trans he4
  refine Sg ?_
  refine K.call (refLayKinds_r _ m w4 (hM.ext e4) hg) ?_
  rintro vb w5 ⟨hb, he5⟩
  have sb : SlR 1 (Flat encN) w5 vb _ := OwR.slF (enc := encN) (fun _ => rfl) hb
  obtain ⟨ob, cb, rfl, _⟩ := hb.form
  have e5 := e4.trans he5
  refine Sg ?_
  refine K.call (leq_r _ _ _ _ w5 (sa.ext Flat.ext he5) sb) ?_
  rintro _ w6 ⟨⟨b, rfl, hbb⟩, he6⟩
  obtain rfl := hbb.2 rfl
  have e6 := e5.trans he6
  refine Sg ?_
  refine K.call (lworks_r w6 (ho.ext e6)) ?_
  rintro _ w7 ⟨rfl, he7⟩
  refine Sg ?_
  exact ⟨by first | trivial | rfl, e6.trans he7⟩
theorem lawLayoutSlots_r (cs : List Value) (m : Abs.Model) (c : Int) (w : World) (h : Abs.ModelIs w cs m) (hg : m.good) (ho : OwnIs w) :
    Ret Tryz.prog F.lariatlaw17_LayoutSlots #[.agg cs.toArray, .int .i64 c] w fun v w' => v = .bool true ∧ Ext w w' := by
  have hM := h
  obtain ⟨o0, c0, o1, c1, o2, c2, o3, c3, o4, c4, rfl, _⟩ := h.form
  refine K.start hmix E.lariatlaw17_LayoutSlots (args := [_, _]) (Nat.le_of_ble_eq_true rfl) ?_; dsimp only [C.lariatlaw17_LayoutSlots]; refine Yy ?_
  refine Sg ?_
  intro w1 b1 hb1 he1 hc1
  refine Sg ?_
  refine K.call (heavy_r _ m w1 (hM.ext he1)) ?_
  rintro _ w2 ⟨hv, he2⟩
  replace hc1 := he2.obj hc1
  rcases hv with rfl | ⟨rfl, hH⟩
  · refine Sg ?_
    refine K.call (lworks_r w2 (ho.ext (he1.trans he2))) ?_
    rintro _ w3 ⟨rfl, he3⟩
    refine Sg ?_
    exact ⟨by first | trivial | rfl, (he1.trans he2).trans he3⟩
  have e2 := he1.trans he2
  refine Sg ?_
  refine K.call (laySlots_r _ m c w2 (hM.ext e2) hg (ho.ext e2)) ?_
  rintro _ w3 ⟨rfl, he3⟩
  have e3 := e2.trans he3
  replace hc1 := he3.obj hc1
  refine Sg ?_
  refine K.call (refLaySlots_r _ m c w3 (hM.ext e3) hg) ?_
  rintro _ w4 ⟨rfl, he4⟩
  have e4 := e3.trans he4
  refine Sg ?_
  refine K.call (lworks_r w4 (ho.ext e4)) ?_
  rintro _ w5 ⟨rfl, he5⟩
  refine Sg ?_
  exact ⟨by first | trivial | rfl, e4.trans he5⟩
end Go.Proofs.YtpaahhleopalaaaGreatDoor
end
section
/- Layouts: the laws on each cell and on starting values, walked. -/
set_option maxRecDepth 8000
set_option maxHeartbeats 16000000
namespace Abs
theorem HeavyOk.few {m : Model} (h : HeavyOk m) : Few m := ⟨Nat.le_trans h.v (by decide), Nat.le_trans h.c (by decide), Nat.le_trans h.p (by decide), fun p hp => ⟨Nat.le_trans (h.i p hp).1 (by decide), Nat.le_trans (h.i p hp).2.1 (by decide)⟩⟩
theorem layout_lo_len (m : Model) : (layout m).lo.length = (layCells m).length := by simp [layout, layOf]
theorem layout_hi_len (m : Model) : (layout m).hi.length = (layCells m).length := by simp [layout, layOf]
theorem layout_lo_get {m : Model} {c : Nat} (h : c < (layout m).lo.length) (h' : c < (layCells m).length) : (layout m).lo[c] = (layCells m)[c].lo := by simp [layout, layOf]
theorem layout_hi_get {m : Model} {c : Nat} (h : c < (layout m).hi.length) (h' : c < (layCells m).length) : (layout m).hi[c] = (layCells m)[c].hi := by simp [layout, layOf]
theorem layout_lens (m : Model) : (layout m).vars.length = m.vars.length ∧ (layout m).chans.length = m.chans.length ∧ (layout m).insts.length = (insts m).length := by
  refine ⟨?_, ?_, ?_⟩ <;> simp [layout, layOf, starts_len, vT, cT, iT]
end Abs
namespace Go.Proofs.YtpaahhleopalaaaGreatDoor
open Go Go.RowKit Lite
theorem lawLayoutOnce_r (cs : List Value) (m : Abs.Model) (w : World) (h : Abs.ModelIs w cs m) (hg : m.good) (ho : OwnIs w) :
    Ret Tryz.prog F.lariatlaw17_LayoutOnce #[.agg cs.toArray] w fun v w' => v = .bool true ∧ Ext w w' := by
  have hM := h
  obtain ⟨o0, c0, o1, c1, o2, c2, o3, c3, o4, c4, rfl, _⟩ := h.form
  refine K.start hmix E.lariatlaw17_LayoutOnce (args := [_]) (Nat.le_of_ble_eq_true rfl) ?_; dsimp only [C.lariatlaw17_LayoutOnce]; refine Yy ?_
  refine Sg ?_
  intro w1 b1 hb1 he1 hc1
  refine Sg ?_
  refine K.call (heavy_r _ m w1 (hM.ext he1)) ?_
  rintro _ w2 ⟨hv, he2⟩
  replace hc1 := he2.obj hc1
  have e2 := he1.trans he2
  rcases hv with rfl | ⟨rfl, hH⟩
  · refine Sg ?_
    refine K.call (lworks_r w2 (ho.ext e2)) ?_
    rintro _ w3 ⟨rfl, he3⟩
    refine Sg ?_
    exact ⟨by first | trivial | rfl, e2.trans he3⟩
  refine Sg ?_
  refine K.call (refCheck_r _ m w2 (hM.ext e2) hg) ?_
  rintro _ w3 ⟨rfl, he3⟩
  unfold faultV
  replace hc1 := he3.obj hc1
  have e3 := e2.trans he3
  refine Sg ?_
  refine K.fld (v := .int .i64 (Abs.check m).why) rfl ?_
  refine Sg ?_
  refine K.cond (fun hk => ?_) (fun hk => ?_)
  rotate_left
  · refine Sg ?_
    refine K.call (lworks_r w3 (ho.ext e3)) ?_
    rintro _ w4 ⟨rfl, he4⟩
    refine Sg ?_
    exact ⟨by first | trivial | rfl, e3.trans he4⟩
  have hB := Abs.maybe_of hk
  have f1 : (Abs.layout m).cells = ((Abs.layCells m).length : Int) := rfl
  have f2 := Abs.layout_lo_len m
  have f3 := Abs.layout_hi_len m
  have f4 := Abs.layCells_pieces hB
  have f5 : (Abs.kinds m).length = (Abs.layCells m).length := by rw [Abs.kinds_ok hk]; simp
  have h64 := Abs.layCells_le64 hB
  obtain ⟨f6, f7, f8⟩ := Abs.layout_lens m
  refine Sg ?_
  refine K.call (layOf_r _ m w3 (hM.ext e3) hg (ho.ext e3)) ?_
  rintro _ w4 ⟨⟨xs, rfl, hL⟩, he4⟩
  replace hL := hL.here
  rw [Abs.lay_ok hk] at hL
  obtain ⟨x0, d0, x1, d1, x2, d2, x3, d3, x4, d4, rfl, r0, r1, r2, r3, r4⟩ := hL.form
  replace hc1 := he4.obj hc1
  have e4 := e3.trans he4
  clear hL
  refine Sg ?_
  intro w5 b3 hb3 he5 hc3
  replace hc1 := he5.obj hc1
  have e5 := e4.trans he5
  refine Sg ?_
  refine K.call (refPieces_r _ m w5 (hM.ext e5) hH.few) ?_
  rintro _ w6 ⟨rfl, he6⟩
  replace hc1 := he6.obj hc1
  replace hc3 := he6.obj hc3
  have e6 := e5.trans he6
  refine Sg ?_
  refine K.call (layKinds_r _ m w6 (hM.ext e6) hg (ho.ext e6)) ?_
  rintro vk w7 ⟨hkk, he7⟩
  obtain ⟨ok, ck, rfl, _⟩ := hkk.form
  replace hc1 := he7.obj hc1
  replace hc3 := he7.obj hc3
  have e7 := e6.trans he7
  have e47 := (he5.trans he6).trans he7
  have hc1' := hc1
  have hc3' := hc3
  refine Sg ?_
  refine K.forG 7 (Abs.layCells m).length [1, 3, 6] (fun _ : Unit => []) () (fun k _ W => Ext w7 W) hZq hZq (Ext.refl _) ?_
  clear hc1 hc3
  rintro k _ S w8 hkl he8
  have hc1 := he8.obj hc1'
  have hc3 := he8.obj hc3'
  have e8 := e7.trans he8
  refine Sg ?_
  refine K.cond (fun g1 => ?_) (fun g1 => ?_)
  · have hk' : k < (Abs.layCells m).length := by omega
    refine Sg ?_
    refine K.call (laySlots_r _ m k w8 (hM.ext e8) hg (ho.ext e8)) ?_
    rintro _ w9 ⟨rfl, he9⟩
    rw [Abs.slot_in hk hk']
    have ok := Abs.cell_ok hB hk'
    obtain ⟨x, hx⟩ : ∃ x, x = (Abs.layCells m)[k] := ⟨_, rfl⟩
    rw [← hx] at ok ⊢
    replace hc1 := he9.obj hc1
    replace hc3 := he9.obj hc3
    have e49 := (e47.trans he8).trans he9
    obtain ⟨wn, hwn⟩ := Int.eq_ofNat_of_zero_le ok.which.1
    have p1 := ok.place
    have p2 := ok.le
    have p3 := ok.chan
    have p4 := ok.sort
    have p5 := ok.which.2
    have p6 := ok.at_
    have l3 : (Abs.layout m).lo[k]'(by omega) = x.lo := by rw [hx]; exact Abs.layout_lo_get _ hk'
    have l4 : (Abs.layout m).hi[k]'(by omega) = x.hi := by rw [hx]; exact Abs.layout_hi_get _ hk'
    obtain ⟨a3, rfl⟩ := r3.addr (by omega)
    obtain ⟨a4, rfl⟩ := r4.addr (by omega)
    rw [hwn] at p5 p6
    rw [Int.toNat_natCast] at p6
    replace r0 := r0.ext Flat.ext e49
    replace r1 := r1.ext Flat.ext e49
    replace r2 := r2.ext Flat.ext e49
    replace r3 := r3.ext Flat.ext e49
    replace r4 := r4.ext Flat.ext e49
    have hso : x.sort = 1 ∨ x.sort = 2 ∨ x.sort = 3 := by omega
    rcases hso with hso | hso | hso
    · have ef : Abs.firstOf (Abs.layout m) x.sort = (Abs.layout m).vars := by rw [hso]; rfl
      rw [ef] at p5 p6
      obtain ⟨hw, p7⟩ := List.getElem?_eq_some_iff.1 p6
      obtain ⟨a, rfl⟩ := r0.addr (by omega)
      rw [hwn, hso]
      refine Sg ?_
      intro wd hed
      refine Sg ?_
      exact ⟨hk', by first | trivial | rfl, (), trivial, (he8.trans he9).trans hed⟩
    · have ef : Abs.firstOf (Abs.layout m) x.sort = (Abs.layout m).chans := by rw [hso]; rfl
      rw [ef] at p5 p6
      obtain ⟨hw, p7⟩ := List.getElem?_eq_some_iff.1 p6
      obtain ⟨a, rfl⟩ := r1.addr (by omega)
      rw [hwn, hso]
      have p8 := p3 hso
      refine Sg ?_
      intro wd hed
      refine Sg ?_
      exact ⟨hk', by first | trivial | rfl, (), trivial, (he8.trans he9).trans hed⟩
    · have ef : Abs.firstOf (Abs.layout m) x.sort = (Abs.layout m).insts := by rw [hso]; rfl
      rw [ef] at p5 p6
      obtain ⟨hw, p7⟩ := List.getElem?_eq_some_iff.1 p6
      obtain ⟨a, rfl⟩ := r2.addr (by omega)
      rw [hwn, hso]
      refine Sg ?_
      intro wd hed
      refine Sg ?_
      exact ⟨hk', by first | trivial | rfl, (), trivial, (he8.trans he9).trans hed⟩
  refine Sg ?_
  intro w9 he9
  replace hc1 := he9.obj hc1
  replace hc3 := he9.obj hc3
  have e9 := e8.trans he9
  refine Sg ?_
  refine K.call (refInsts_r _ m w9 (hM.ext e9) hg) ?_
  rintro vi w10 ⟨hvi, he10⟩
  refine ⟨he10, ?_⟩
  obtain ⟨oi, ci, rfl, _⟩ := hvi.form
  have e10 := e9.trans he10
  refine Sg ?_
  refine K.call (lworks_r w10 (ho.ext e10)) ?_
  rintro _ w11 ⟨rfl, he11⟩
  refine Sg ?_
  exact ⟨by first | trivial | rfl, e10.trans he11⟩
theorem lawLayoutStarts_r (cs : List Value) (m : Abs.Model) (w : World) (h : Abs.ModelIs w cs m) (hg : m.good) (ho : OwnIs w) :
    Ret Tryz.prog F.lariatlaw17_LayoutStarts #[.agg cs.toArray] w fun v w' => v = .bool true ∧ Ext w w' := by
  have hM := h
  obtain ⟨o0, c0, o1, c1, o2, c2, o3, c3, o4, c4, rfl, h0, h1, h2, h3, h4, l0, l1, l2, l3, l4⟩ := h.form
  refine K.start hmix E.lariatlaw17_LayoutStarts (args := [_]) (Nat.le_of_ble_eq_true rfl) ?_; dsimp only [C.lariatlaw17_LayoutStarts]; refine Yy ?_
  refine Sg ?_
  intro w1 b1 hb1 he1 hc1
  refine Sg ?_
  refine K.call (heavy_r _ m w1 (hM.ext he1)) ?_
  rintro _ w2 ⟨hv, he2⟩
  replace hc1 := he2.obj hc1
  have e2 := he1.trans he2
  rcases hv with rfl | ⟨rfl, hH⟩
  · refine Sg ?_
    refine K.call (lworks_r w2 (ho.ext e2)) ?_
    rintro _ w3 ⟨rfl, he3⟩
    refine Sg ?_
    exact ⟨by first | trivial | rfl, e2.trans he3⟩
  refine Sg ?_
  refine K.call (layOf_r _ m w2 (hM.ext e2) hg (ho.ext e2)) ?_
  rintro _ w3 ⟨⟨xs, rfl, hL⟩, he3⟩
  replace hL := hL.here
  obtain ⟨x0, d0, x1, d1, x2, d2, x3, d3, x4, d4, rfl, r0, r1, r2, r3, r4⟩ := hL.form
  replace hc1 := he3.obj hc1
  have e3 := e2.trans he3
  clear hL
  refine Sg ?_
  intro w4 b3 hb3 he4 hc3
  replace hc1 := he4.obj hc1
  have e4 := e3.trans he4
  refine Sg ?_
  refine K.call (refCheck_r _ m w4 (hM.ext e4) hg) ?_
  rintro _ w5 ⟨rfl, he5⟩
  unfold faultV
  replace hc1 := he5.obj hc1
  replace hc3 := he5.obj hc3
  have e5 := e4.trans he5
  refine Sg ?_
  refine K.fld (v := .int .i64 (Abs.check m).why) rfl ?_
  refine Sg ?_
  refine K.cond (fun hk => ?_) (fun hk => ?_)
  rotate_left
  · refine Sg ?_
    refine K.call (laySlots_r _ m 0 w5 (hM.ext e5) hg (ho.ext e5)) ?_
    rintro _ w6 ⟨rfl, he6⟩
    rw [Abs.slot_no 0 hk]
    replace hc3 := he6.obj hc3
    have e6 := e5.trans he6
    rw [Abs.lay_no hk] at hc3
    have g0 : Abs.noLayout.vars.length = 0 := rfl
    have g1 : Abs.noLayout.chans.length = 0 := rfl
    have g2 : Abs.noLayout.insts.length = 0 := rfl
    have g3 : Abs.noLayout.lo.length = 0 := rfl
    have g4 : Abs.noLayout.hi.length = 0 := rfl
    have g5 : Abs.noLayout.cells = 0 := rfl
    rw [g0, g1, g2, g3, g4, g5] at hc3
    refine Sg ?_
    refine K.call (lworks_r w6 (ho.ext e6)) ?_
    rintro _ w7 ⟨rfl, he7⟩
    refine Sg ?_
    exact ⟨by first | trivial | rfl, e6.trans he7⟩
  have hB := Abs.maybe_of hk
  rw [Abs.lay_ok hk] at hc3 r0 r1 r2 r3 r4
  have f2 := Abs.layout_lo_len m
  have f3 := Abs.layout_hi_len m
  obtain ⟨f6, f7, f8⟩ := Abs.layout_lens m
  have e35 := he4.trans he5
  have hc1' := hc1
  have hc3' := hc3
  refine Sg ?_
  refine K.forG 7 m.vars.length [1, 3] (fun _ : Unit => []) () (fun k _ W => Ext w5 W) hZq hZq (Ext.refl _) ?_
  clear hc1 hc3
  rintro k _ S w6 hkl he6
  have hc1 := he6.obj hc1'
  have hc3 := he6.obj hc3'
  have e6 := e5.trans he6
  refine Sg ?_
  refine K.cond (fun g1 => ?_) (fun g1 => ?_)
  · have hk' : k < m.vars.length := by omega
    obtain ⟨a, rfl⟩ := h1.addr (by omega)
    have hcv := ((h1.at k hk').cells).ext e6
    obtain ⟨c, hc, p1, p2, p3⟩ := Abs.start_var hB hk'
    obtain ⟨hw, p4⟩ := List.getElem?_eq_some_iff.1 p1
    have e36 := e35.trans he6
    obtain ⟨a0, rfl⟩ := r0.addr (by omega)
    obtain ⟨a3, rfl⟩ := r3.addr (by omega)
    obtain ⟨a4, rfl⟩ := r4.addr (by omega)
    have l3 : (Abs.layout m).lo[c]'(by omega) = (Abs.layCells m)[c].lo := Abs.layout_lo_get _ hc
    have l4 : (Abs.layout m).hi[c]'(by omega) = (Abs.layCells m)[c].hi := Abs.layout_hi_get _ hc
    replace r0 := r0.ext Flat.ext e36
    replace r3 := r3.ext Flat.ext e36
    replace r4 := r4.ext Flat.ext e36
    refine Sg ?_
    refine K.ian c p4 (by omega) ?_
    refine Sg ?_
    refine K.ian c p4 (by omega) ?_
    refine Sg ?_
    intro wd hed
    refine Sg ?_
    exact ⟨hk', by first | trivial | rfl, (), trivial, he6.trans hed⟩
  · refine Sg ?_
    refine K.call (lworks_r w6 (ho.ext e6)) ?_
    rintro _ w7 ⟨rfl, he7⟩
    refine Sg ?_
    exact ⟨by first | trivial | rfl, e6.trans he7⟩
end Go.Proofs.YtpaahhleopalaaaGreatDoor
end
section
/- The walks of the laws on layouts, from what their arguments are. -/
set_option maxRecDepth 4000
namespace Go.Proofs.YtpaahhleopalaaaGreatDoor
open Go Go.RowKit Lite Go.ChangeShapes Go.WideShapes Go.Deep
theorem walk_LayoutOf {H : Type} {enc : TypeId × Value → H} {r : Reach} {b0 : Nat} {d0 : DataW H} {p0 : List MemPlace} (v0 : Value) (W : World) (ho : OwnIs W)
    (k0 : Value.okWide Tryz.prog W r b0 T.api_Model v0) (h0 : DataW.Trod enc Tryz.prog W 0 (fun _ => true) true T.api_Model v0 d0 p0) (s0 : Small Tryz.prog T.api_Model d0) :
    Ret Tryz.prog F.lariatlaw17_LayoutOf #[v0] W fun v w' => v = .bool true ∧ Ext W w' := by
  obtain ⟨cs, m, rfl, hm, hg⟩ := open_modelG k0 h0 s0
  exact lawLayoutOf_r cs m W hm hg ho
theorem walk_LayoutKinds {H : Type} {enc : TypeId × Value → H} {r : Reach} {b0 : Nat} {d0 : DataW H} {p0 : List MemPlace} (v0 : Value) (W : World) (ho : OwnIs W)
    (k0 : Value.okWide Tryz.prog W r b0 T.api_Model v0) (h0 : DataW.Trod enc Tryz.prog W 0 (fun _ => true) true T.api_Model v0 d0 p0) (s0 : Small Tryz.prog T.api_Model d0) :
    Ret Tryz.prog F.lariatlaw17_LayoutKinds #[v0] W fun v w' => v = .bool true ∧ Ext W w' := by
  obtain ⟨cs, m, rfl, hm, hg⟩ := open_modelG k0 h0 s0
  exact lawLayoutKinds_r cs m W hm hg ho
theorem walk_LayoutOnce {H : Type} {enc : TypeId × Value → H} {r : Reach} {b0 : Nat} {d0 : DataW H} {p0 : List MemPlace} (v0 : Value) (W : World) (ho : OwnIs W)
    (k0 : Value.okWide Tryz.prog W r b0 T.api_Model v0) (h0 : DataW.Trod enc Tryz.prog W 0 (fun _ => true) true T.api_Model v0 d0 p0) (s0 : Small Tryz.prog T.api_Model d0) :
    Ret Tryz.prog F.lariatlaw17_LayoutOnce #[v0] W fun v w' => v = .bool true ∧ Ext W w' := by
  obtain ⟨cs, m, rfl, hm, hg⟩ := open_modelG k0 h0 s0
  exact lawLayoutOnce_r cs m W hm hg ho
theorem walk_LayoutStarts {H : Type} {enc : TypeId × Value → H} {r : Reach} {b0 : Nat} {d0 : DataW H} {p0 : List MemPlace} (v0 : Value) (W : World) (ho : OwnIs W)
    (k0 : Value.okWide Tryz.prog W r b0 T.api_Model v0) (h0 : DataW.Trod enc Tryz.prog W 0 (fun _ => true) true T.api_Model v0 d0 p0) (s0 : Small Tryz.prog T.api_Model d0) :
    Ret Tryz.prog F.lariatlaw17_LayoutStarts #[v0] W fun v w' => v = .bool true ∧ Ext W w' := by
  obtain ⟨cs, m, rfl, hm, hg⟩ := open_modelG k0 h0 s0
  exact lawLayoutStarts_r cs m W hm hg ho
theorem walk_LayoutSlots {H : Type} {enc : TypeId × Value → H} {r : Reach} {b0 : Nat} {d0 d1 : DataW H} {p0 p1 : List MemPlace} (v0 v1 : Value) (W : World) (ho : OwnIs W)
    (k0 : Value.okWide Tryz.prog W r b0 T.api_Model v0) (h0 : DataW.Trod enc Tryz.prog W 0 (fun _ => true) true T.api_Model v0 d0 p0) (s0 : Small Tryz.prog T.api_Model d0)
    (k1 : Value.okWide Tryz.prog W r b0 T.int v1) (h1 : DataW.Trod enc Tryz.prog W 0 (fun _ => true) true T.int v1 d1 p1) (_s1 : Small Tryz.prog T.int d1) :
    Ret Tryz.prog F.lariatlaw17_LayoutSlots #[v0, v1] W fun v w' => v = .bool true ∧ Ext W w' := by
  obtain ⟨cs, m, rfl, hm, hg⟩ := open_modelG k0 h0 s0
  obtain ⟨z, rfl, _⟩ := open_int (k := .i64) (by kernel_rfl) k1 h1
  exact lawLayoutSlots_r cs m z W hm hg ho
end Go.Proofs.YtpaahhleopalaaaGreatDoor
end
