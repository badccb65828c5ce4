/- What every right program says of some declarations. -/
import Derived.Test.YtoakjdilnkjcgaaDoorDeclD
set_option linter.all false
set_option maxRecDepth 100000
set_option linter.unusedSimpArgs false
set_option maxHeartbeats 1000000
namespace Go.Proofs.YtoakjdilnkjcgaaDoor
open Go Go.RowKit Lite
def aw1 : List Abs.Var := [⟨⟨#[120]⟩, 0, 0, 0, 3, 0⟩, ⟨⟨#[120]⟩, 0, 0, 0, 0, 0⟩]
def aw2 : List Abs.Var := [⟨⟨#[120]⟩, 0, 0, 0, 256, 0⟩]
def aw3 : List Abs.Scalar := [⟨⟨#[83]⟩, 2⟩, ⟨⟨#[84]⟩, 5⟩]
def aw4 : List Abs.Chan := [⟨⟨#[99]⟩, 0, 1, 0, 0, true⟩]
def aw5 : List Abs.Scalar := [⟨⟨#[]⟩, 3⟩]
theorem awake_r (w : World) (ho : OwnIs w) : Ret Tryd.prog F.lariatlaw12_awake #[] w fun v w' => v = .bool true ∧ Ext w w' := by
  refine K.start hmix E.lariatlaw12_awake (args := []) (Nat.le_of_ble_eq_true rfl) ?_
  dsimp only [C.lariatlaw12_awake,yt,yi,yb,yp,yr,ye,yc,yv,yg,ym,yw,ya,yl,yx,ys,yn]
  simp -dsimp only [LL,B9,Nat.reduceAdd,Nat.reduceEqDiff,reduceIte,reduceCtorEq,Bool.false_eq_true]
  refine K.bld (cs := aw1[0].enc) (by simp [List.range, List.range.loop, fillC, lay, ev_tmp, ev_const, upd_at, Value.cells, Abs.Var.enc, Abs.Scalar.enc, Abs.Chan.enc, aw1, aw2, aw3, aw4, aw5]) ?_
  simp -dsimp only [LL,B9,Nat.reduceAdd,Nat.reduceEqDiff,reduceIte,reduceCtorEq,Bool.false_eq_true]
  refine K.bld (cs := aw1[1].enc) (by simp [List.range, List.range.loop, fillC, lay, ev_tmp, ev_const, upd_at, Value.cells, Abs.Var.enc, Abs.Scalar.enc, Abs.Chan.enc, aw1, aw2, aw3, aw4, aw5]) ?_
  simp -dsimp only [LL,B9,Nat.reduceAdd,Nat.reduceEqDiff,reduceIte,reduceCtorEq,Bool.false_eq_true]
  refine K.bldSa (cs := aw1.flatMap Abs.Var.enc) (by simp [List.range, List.range.loop, fillC, lay, ev_tmp, ev_const, upd_at, Value.cells, Abs.Var.enc, Abs.Scalar.enc, Abs.Chan.enc, aw1, aw2, aw3, aw4, aw5]) fun w1 b1 hb1 he1 hc1 => ?_
  have hv1 : Abs.Vars w1 (.slice (some ⟨b1, 0, none⟩) 2 2) aw1 := Abs.Vars.blk hc1 rfl (by decide) (by decide +kernel)
  simp -dsimp only [LL,B9,Nat.reduceAdd,Nat.reduceEqDiff,reduceIte,reduceCtorEq,Bool.false_eq_true]
  refine K.call (vars_r _ _ _ [] 9 w1 (ho.ext he1) hv1 SlR.nil) ?_
  rintro _ w2 ⟨rfl, he2⟩
  rw [show Abs.vars aw1 [] 9 = (1, 7) by decide +kernel]
  replace he2 := he1.trans he2
  clear hv1 hc1 he1 hb1
  simp -dsimp only [LL,B9,Nat.reduceAdd,Nat.reduceEqDiff,reduceIte,reduceCtorEq,Bool.false_eq_true]
  refine K.bld (cs := aw2[0].enc) (by simp [List.range, List.range.loop, fillC, lay, ev_tmp, ev_const, upd_at, Value.cells, Abs.Var.enc, Abs.Scalar.enc, Abs.Chan.enc, aw1, aw2, aw3, aw4, aw5]) ?_
  simp -dsimp only [LL,B9,Nat.reduceAdd,Nat.reduceEqDiff,reduceIte,reduceCtorEq,Bool.false_eq_true]
  refine K.bldSa (cs := aw2.flatMap Abs.Var.enc) (by simp [List.range, List.range.loop, fillC, lay, ev_tmp, ev_const, upd_at, Value.cells, Abs.Var.enc, Abs.Scalar.enc, Abs.Chan.enc, aw1, aw2, aw3, aw4, aw5]) fun w3 b3 hb3 he3 hc3 => ?_
  replace he3 := he2.trans he3
  have hv3 : Abs.Vars w3 (.slice (some ⟨b3, 0, none⟩) 1 1) aw2 := Abs.Vars.blk hc3 rfl (by decide) (by decide +kernel)
  simp -dsimp only [LL,B9,Nat.reduceAdd,Nat.reduceEqDiff,reduceIte,reduceCtorEq,Bool.false_eq_true]
  refine K.call (vars_r _ _ _ [] 9 w3 (ho.ext he3) hv3 SlR.nil) ?_
  rintro _ w4 ⟨rfl, he4⟩
  rw [show Abs.vars aw2 [] 9 = (0, 10) by decide +kernel]
  replace he4 := he3.trans he4
  clear hv3 hc3 he3 hb3 he2
  simp -dsimp only [LL,B9,Nat.reduceAdd,Nat.reduceEqDiff,reduceIte,reduceCtorEq,Bool.false_eq_true]
  refine K.bld (cs := aw3[0].enc) (by simp [List.range, List.range.loop, fillC, lay, ev_tmp, ev_const, upd_at, Value.cells, Abs.Var.enc, Abs.Scalar.enc, Abs.Chan.enc, aw1, aw2, aw3, aw4, aw5]) ?_
  simp -dsimp only [LL,B9,Nat.reduceAdd,Nat.reduceEqDiff,reduceIte,reduceCtorEq,Bool.false_eq_true]
  refine K.bld (cs := aw3[1].enc) (by simp [List.range, List.range.loop, fillC, lay, ev_tmp, ev_const, upd_at, Value.cells, Abs.Var.enc, Abs.Scalar.enc, Abs.Chan.enc, aw1, aw2, aw3, aw4, aw5]) ?_
  simp -dsimp only [LL,B9,Nat.reduceAdd,Nat.reduceEqDiff,reduceIte,reduceCtorEq,Bool.false_eq_true]
  refine K.bldSa (cs := aw3.flatMap Abs.Scalar.enc) (by simp [List.range, List.range.loop, fillC, lay, ev_tmp, ev_const, upd_at, Value.cells, Abs.Var.enc, Abs.Scalar.enc, Abs.Chan.enc, aw1, aw2, aw3, aw4, aw5]) fun w5 b5 hb5 he5 hc5 => ?_
  replace he5 := he4.trans he5
  have hv5 : Abs.Scalars w5 (.slice (some ⟨b5, 0, none⟩) 2 2) aw3 := Abs.Scalars.blk hc5 rfl (by decide) (by decide +kernel)
  simp -dsimp only [LL,B9,Nat.reduceAdd,Nat.reduceEqDiff,reduceIte,reduceCtorEq,Bool.false_eq_true]
  refine K.call (scalars_r _ _ w5 (ho.ext he5) hv5) ?_
  rintro _ w6 ⟨rfl, he6⟩
  rw [show Abs.scalars aw3 = (1, 10) by decide +kernel]
  replace he6 := he5.trans he6
  clear hv5 hc5 he5 hb5 he4
  simp -dsimp only [LL,B9,Nat.reduceAdd,Nat.reduceEqDiff,reduceIte,reduceCtorEq,Bool.false_eq_true]
  refine K.bld (cs := aw4[0].enc) (by simp [List.range, List.range.loop, fillC, lay, ev_tmp, ev_const, upd_at, Value.cells, Abs.Var.enc, Abs.Scalar.enc, Abs.Chan.enc, aw1, aw2, aw3, aw4, aw5]) ?_
  simp -dsimp only [LL,B9,Nat.reduceAdd,Nat.reduceEqDiff,reduceIte,reduceCtorEq,Bool.false_eq_true]
  refine K.bldSa (cs := aw4.flatMap Abs.Chan.enc) (by simp [List.range, List.range.loop, fillC, lay, ev_tmp, ev_const, upd_at, Value.cells, Abs.Var.enc, Abs.Scalar.enc, Abs.Chan.enc, aw1, aw2, aw3, aw4, aw5]) fun w7 b7 hb7 he7 hc7 => ?_
  replace he7 := he6.trans he7
  have hv7 : Abs.Chans w7 (.slice (some ⟨b7, 0, none⟩) 1 1) aw4 := Abs.Chans.blk hc7 rfl (by decide) (by decide +kernel)
  simp -dsimp only [LL,B9,Nat.reduceAdd,Nat.reduceEqDiff,reduceIte,reduceCtorEq,Bool.false_eq_true]
  refine K.call (chans_r _ _ _ [] w7 (ho.ext he7) hv7 SlR.nil) ?_
  rintro _ w8 ⟨rfl, he8⟩
  rw [show Abs.chans aw4 [] = (0, 0) by decide +kernel]
  replace he8 := he7.trans he8
  clear hv7 hc7 he7 hb7 he6
  simp -dsimp only [LL,B9,Nat.reduceAdd,Nat.reduceEqDiff,reduceIte,reduceCtorEq,Bool.false_eq_true]
  refine K.bld (cs := Abs.Var.enc ⟨⟨#[]⟩, 1, 0, 0, 0, 0⟩) (by simp [List.range, List.range.loop, fillC, lay, ev_tmp, ev_const, upd_at, Value.cells, Abs.Var.enc, Abs.Scalar.enc, Abs.Chan.enc, aw1, aw2, aw3, aw4, aw5]) ?_
  simp -dsimp only [LL,B9,Nat.reduceAdd,Nat.reduceEqDiff,reduceIte,reduceCtorEq,Bool.false_eq_true]
  refine K.bld (cs := aw5[0].enc) (by simp [List.range, List.range.loop, fillC, lay, ev_tmp, ev_const, upd_at, Value.cells, Abs.Var.enc, Abs.Scalar.enc, Abs.Chan.enc, aw1, aw2, aw3, aw4, aw5]) ?_
  simp -dsimp only [LL,B9,Nat.reduceAdd,Nat.reduceEqDiff,reduceIte,reduceCtorEq,Bool.false_eq_true]
  refine K.bldSa (cs := aw5.flatMap Abs.Scalar.enc) (by simp [List.range, List.range.loop, fillC, lay, ev_tmp, ev_const, upd_at, Value.cells, Abs.Var.enc, Abs.Scalar.enc, Abs.Chan.enc, aw1, aw2, aw3, aw4, aw5]) fun w9 b9 hb9 he9 hc9 => ?_
  replace he9 := he8.trans he9
  have hv9 : Abs.Scalars w9 (.slice (some ⟨b9, 0, none⟩) 1 1) aw5 := Abs.Scalars.blk hc9 rfl (by decide) (by decide +kernel)
  simp -dsimp only [LL,B9,Nat.reduceAdd,Nat.reduceEqDiff,reduceIte,reduceCtorEq,Bool.false_eq_true]
  refine K.call (bounds_r ⟨⟨#[]⟩, 1, 0, 0, 0, 0⟩ _ aw5 w9 hv9) ?_
  rintro _ w10 ⟨rfl, he10⟩
  rw [show Abs.bounds ⟨⟨#[]⟩, 1, 0, 0, 0, 0⟩ aw5 = (0, 3) by decide +kernel]
  replace he10 := he9.trans he10
  clear hv9 hc9 he9 hb9 he8
  simp -dsimp only [LL,B9,Nat.reduceAdd,Nat.reduceEqDiff,reduceIte,reduceCtorEq,Bool.false_eq_true]
  (repeat' first
    | (refine K.cond (fun _ => ?_) (fun h => absurd (by decide) h))
    | simp -dsimp only [LL,B9,Nat.reduceAdd,Nat.reduceEqDiff,reduceIte,reduceCtorEq,Bool.false_eq_true])
  refine K.bld (cs := Abs.Var.enc ⟨⟨#[]⟩, 0, 1, 0, 0, 0⟩) (by simp [List.range, List.range.loop, fillC, lay, ev_tmp, ev_const, upd_at, Value.cells, Abs.Var.enc, Abs.Scalar.enc, Abs.Chan.enc, aw1, aw2, aw3, aw4, aw5]) ?_
  simp -dsimp only [LL,B9,Nat.reduceAdd,Nat.reduceEqDiff,reduceIte,reduceCtorEq,Bool.false_eq_true]
  refine K.bld (cs := aw5[0].enc) (by simp [List.range, List.range.loop, fillC, lay, ev_tmp, ev_const, upd_at, Value.cells, Abs.Var.enc, Abs.Scalar.enc, Abs.Chan.enc, aw1, aw2, aw3, aw4, aw5]) ?_
  simp -dsimp only [LL,B9,Nat.reduceAdd,Nat.reduceEqDiff,reduceIte,reduceCtorEq,Bool.false_eq_true]
  refine K.bldSa (cs := aw5.flatMap Abs.Scalar.enc) (by simp [List.range, List.range.loop, fillC, lay, ev_tmp, ev_const, upd_at, Value.cells, Abs.Var.enc, Abs.Scalar.enc, Abs.Chan.enc, aw1, aw2, aw3, aw4, aw5]) fun w11 b11 hb11 he11 hc11 => ?_
  replace he11 := he10.trans he11
  have hv11 : Abs.Scalars w11 (.slice (some ⟨b11, 0, none⟩) 1 1) aw5 := Abs.Scalars.blk hc11 rfl (by decide) (by decide +kernel)
  simp -dsimp only [LL,B9,Nat.reduceAdd,Nat.reduceEqDiff,reduceIte,reduceCtorEq,Bool.false_eq_true]
  refine K.call (cells_r ⟨⟨#[]⟩, 0, 1, 0, 0, 0⟩ _ aw5 w11 hv11) ?_
  rintro _ w12 ⟨rfl, he12⟩
  rw [show Abs.cells ⟨⟨#[]⟩, 0, 1, 0, 0, 0⟩ aw5 = 3 by decide +kernel]
  simp -dsimp only [LL,B9,Nat.reduceAdd,Nat.reduceEqDiff,reduceIte,reduceCtorEq,Bool.false_eq_true]
  (repeat' first
    | (refine K.cond (fun _ => ?_) (fun h => absurd (by decide) h))
    | simp -dsimp only [LL,B9,Nat.reduceAdd,Nat.reduceEqDiff,reduceIte,reduceCtorEq,Bool.false_eq_true])
  exact ⟨trivial, he11.trans he12⟩
end Go.Proofs.YtoakjdilnkjcgaaDoor
