/- What the functions of decl compute: scalars, variables, channels. -/
import Derived.Test.YtoakjdilnkjcgaaDoorDeclC
set_option linter.all false
set_option maxRecDepth 4000
set_option linter.unusedSimpArgs false
set_option maxHeartbeats 1000000
namespace Go.Proofs.YtoakjdilnkjcgaaDoor
open Go Go.RowKit Lite

theorem nameAt_lt {α : Type} (f : α → ByteArray) (l : List α) (i : Nat) (h : i < l.length) : Abs.nameAt f l i = f l[i] := by simp [Abs.nameAt, h]
theorem scalars1_r (i : Nat) (b : Nat) (v : Value) (l : List Abs.Scalar) (w : World) (hl : Abs.Scalars w v l) (hb : w.cell? ⟨b, 0, none⟩ = some v) (hi : i < l.length) :
    Ret Tryd.prog F.decl_Scalars_1 #[.int .i64 i, .pointer (some ⟨b, 0, none⟩)] w fun v w' => v = .string (Abs.nameAt (·.name) l i) ∧ Ext w w' := by
  obtain ⟨oa, cap, rfl, hlen⟩ := hl.form
  refine K.start hmix E.decl_Scalars_1 (args := [_, _]) (Nat.le_of_ble_eq_true rfl) ?_
  dsimp only [C.decl_Scalars_1,yt,yi,yb,yp,yr,ye,yc,yv,yg,ym,yw,ya,yl,yx,ys,yn]
  simp -dsimp only [LL,B9,Nat.reduceAdd,Nat.reduceEqDiff,reduceIte,reduceCtorEq,Bool.false_eq_true]
  refine K.ld hb ?_
  simp -dsimp only [LL,B9,Nat.reduceAdd,Nat.reduceEqDiff,reduceIte,reduceCtorEq,Bool.false_eq_true]
  obtain ⟨a, rfl⟩ := hl.addr (by omega)
  have hc := (hl.at i hi).cells 0 _ rfl
  refine K.ian i rfl hi ?_
  simp -dsimp only [LL,B9,Nat.reduceAdd,Nat.reduceEqDiff,reduceIte,reduceCtorEq,Bool.false_eq_true]
  refine K.ld hc ?_
  simp -dsimp only [LL,B9,Nat.reduceAdd,Nat.reduceEqDiff,reduceIte,reduceCtorEq,Bool.false_eq_true]
  rw [nameAt_lt _ _ _ hi]
  exact ⟨rfl, Ext.refl w⟩
theorem scalars2_r (i : Nat) (b : Nat) (v : Value) (l : List Abs.Scalar) (w : World) (hl : Abs.Scalars w v l) (hb : w.cell? ⟨b, 0, none⟩ = some v) (hi : i < l.length) :
    Ret Tryd.prog F.decl_Scalars_2 #[.int .i64 i, .pointer (some ⟨b, 0, none⟩)] w fun v w' => v = .int .i64 (Abs.scalarErr l i) ∧ Ext w w' := by
  obtain ⟨oa, cap, rfl, hlen⟩ := hl.form
  refine K.start hmix E.decl_Scalars_2 (args := [_, _]) (Nat.le_of_ble_eq_true rfl) ?_
  dsimp only [C.decl_Scalars_2,yt,yi,yb,yp,yr,ye,yc,yv,yg,ym,yw,ya,yl,yx,ys,yn]
  simp -dsimp only [LL,B9,Nat.reduceAdd,Nat.reduceEqDiff,reduceIte,reduceCtorEq,Bool.false_eq_true]
  refine K.ld hb ?_
  simp -dsimp only [LL,B9,Nat.reduceAdd,Nat.reduceEqDiff,reduceIte,reduceCtorEq,Bool.false_eq_true]
  obtain ⟨a, rfl⟩ := hl.addr (by omega)
  have hc := (hl.at i hi).cells 1 _ rfl
  have hr : Abs.scalarErr l i = if 1 ≤ l[i].size ∧ l[i].size ≤ 4 then 0 else 10 := by simp [Abs.scalarErr, hi]
  rw [hr]
  generalize l[i].size = z at hc
  refine K.ian i rfl hi ?_
  simp -dsimp only [LL,B9,Nat.reduceAdd,Nat.reduceEqDiff,reduceIte,reduceCtorEq,Bool.false_eq_true]
  refine K.ld hc ?_
  simp -dsimp only [LL,B9,Nat.reduceAdd,Nat.reduceEqDiff,reduceIte,reduceCtorEq,Bool.false_eq_true]
  refine K.cond (fun h1 => ?_) (fun h1 => ?_)
  · simp -dsimp only [LL,B9,Nat.reduceAdd,Nat.reduceEqDiff,reduceIte,reduceCtorEq,Bool.false_eq_true]
    rw [if_neg (by omega)]; exact ⟨rfl, Ext.refl w⟩
  simp -dsimp only [LL,B9,Nat.reduceAdd,Nat.reduceEqDiff,reduceIte,reduceCtorEq,Bool.false_eq_true]
  refine K.ld hb ?_
  simp -dsimp only [LL,B9,Nat.reduceAdd,Nat.reduceEqDiff,reduceIte,reduceCtorEq,Bool.false_eq_true]
  refine K.ian i rfl hi ?_
  simp -dsimp only [LL,B9,Nat.reduceAdd,Nat.reduceEqDiff,reduceIte,reduceCtorEq,Bool.false_eq_true]
  refine K.ld hc ?_
  simp -dsimp only [LL,B9,Nat.reduceAdd,Nat.reduceEqDiff,reduceIte,reduceCtorEq,Bool.false_eq_true]
  refine K.cond (fun h1 => ?_) (fun h1 => ?_)
  · simp -dsimp only [LL,B9,Nat.reduceAdd,Nat.reduceEqDiff,reduceIte,reduceCtorEq,Bool.false_eq_true]
    rw [if_neg (by omega)]; exact ⟨rfl, Ext.refl w⟩
  · simp -dsimp only [LL,B9,Nat.reduceAdd,Nat.reduceEqDiff,reduceIte,reduceCtorEq,Bool.false_eq_true]
    rw [if_pos (by omega)]; exact ⟨rfl, Ext.refl w⟩
theorem scalars_r (v : Value) (l : List Abs.Scalar) (w : World) (ho : OwnIs w) (hl : Abs.Scalars w v l) :
    Ret Tryd.prog F.decl_Scalars #[v] w fun v w' => v = .tuple #[.int .i64 (Abs.scalars l).1, .int .i64 (Abs.scalars l).2] ∧ Ext w w' := by
  obtain ⟨oa, cap, rfl, hlen⟩ := hl.form
  refine K.start hmix E.decl_Scalars (args := [_]) (Nat.le_of_ble_eq_true rfl) ?_
  dsimp only [C.decl_Scalars,yt,yi,yb,yp,yr,ye,yc,yv,yg,ym,yw,ya,yl,yx,ys,yn]
  simp -dsimp only [LL,B9,Nat.reduceAdd,Nat.reduceEqDiff,reduceIte,reduceCtorEq,Bool.false_eq_true]
  refine K.new fun w1 b hb he1 hc1 => ?_
  have hl1 := SlR.ext Abs.RScalar.ext he1 hl
  have hb1 : w1.cell? ⟨b, 0, none⟩ = some (.slice oa l.length cap) := cell_blk0 hc1 rfl
  simp -dsimp only [LL,B9,Nat.reduceAdd,Nat.reduceEqDiff,reduceIte,reduceCtorEq,Bool.false_eq_true]
  refine K.ld hb1 ?_
  simp -dsimp only [LL,B9,Nat.reduceAdd,Nat.reduceEqDiff,reduceIte,reduceCtorEq,Bool.false_eq_true]
  refine K.call (named_r l.length 2 (by omega) (Abs.nameAt (·.name) l) (Abs.scalarErr l) F.decl_Scalars_1 F.decl_Scalars_2 [_] [_] (by kernel_rfl) (by kernel_rfl) w1 (ho.ext he1)
    (fun i hi => by rw [nameAt_lt _ _ _ (by omega)]; obtain ⟨a, rfl⟩ := hl.addr (by omega); exact (hl.at i (by omega)).ok)
    (fun i w' hi he => scalars1_r i b _ l w' (SlR.ext Abs.RScalar.ext he hl1) (he.cell hb1) (by omega))
    (fun i w' hi he => scalars2_r i b _ l w' (SlR.ext Abs.RScalar.ext he hl1) (he.cell hb1) (by omega))) ?_
  rintro _ w2 ⟨rfl, he2⟩
  simp -dsimp only [LL,B9,Nat.reduceAdd,Nat.reduceEqDiff,reduceIte,reduceCtorEq,Bool.false_eq_true]
  exact ⟨rfl, he1.trans he2⟩

theorem bounds_r (x : Abs.Var) (v : Value) (l : List Abs.Scalar) (w : World) (hl : Abs.Scalars w v l) :
    Ret Tryd.prog F.decl_Bounds #[.agg x.enc.toArray, v] w fun v w' => v = .tuple #[.int .i64 (Abs.bounds x l).1, .int .i64 (Abs.bounds x l).2] ∧ Ext w w' := by
  obtain ⟨oa, cap, rfl, hlen⟩ := hl.form
  refine K.start hmix E.decl_Bounds (args := [_, _]) (Nat.le_of_ble_eq_true rfl) ?_
  dsimp only [C.decl_Bounds,yt,yi,yb,yp,yr,ye,yc,yv,yg,ym,yw,ya,yl,yx,ys,yn]
  simp -dsimp only [LL,B9,Nat.reduceAdd,Nat.reduceEqDiff,reduceIte,reduceCtorEq,Bool.false_eq_true]
  refine K.new fun w1 b hb he1 hc1 => ?_
  have c1 : w1.cell? (Addr.add ⟨b, 0, none⟩ 1) = some (.int .i64 x.scalar) := cell_blk hc1 rfl
  have c3 : w1.cell? (Addr.add ⟨b, 0, none⟩ 3) = some (.int .i64 x.lo) := cell_blk hc1 rfl
  have c4 : w1.cell? (Addr.add ⟨b, 0, none⟩ 4) = some (.int .i64 x.hi) := cell_blk hc1 rfl
  simp -dsimp only [LL,B9,Nat.reduceAdd,Nat.reduceEqDiff,reduceIte,reduceCtorEq,Bool.false_eq_true]
  refine K.ld c1 ?_
  simp -dsimp only [LL,B9,Nat.reduceAdd,Nat.reduceEqDiff,reduceIte,reduceCtorEq,Bool.false_eq_true]
  refine K.cond (fun h1 => ?_) (fun h1 => ?_)
  · simp -dsimp only [LL,B9,Nat.reduceAdd,Nat.reduceEqDiff,reduceIte,reduceCtorEq,Bool.false_eq_true]
    refine K.ld c3 ?_
    simp -dsimp only [LL,B9,Nat.reduceAdd,Nat.reduceEqDiff,reduceIte,reduceCtorEq,Bool.false_eq_true]
    refine K.ld c4 ?_
    simp -dsimp only [LL,B9,Nat.reduceAdd,Nat.reduceEqDiff,reduceIte,reduceCtorEq,Bool.false_eq_true]
    intro w2 he2
    simp only [Abs.bounds, h1, if_true]
    exact ⟨trivial, he1.trans he2⟩
  · simp -dsimp only [LL,B9,Nat.reduceAdd,Nat.reduceEqDiff,reduceIte,reduceCtorEq,Bool.false_eq_true]
    refine K.ld c1 ?_
    simp -dsimp only [LL,B9,Nat.reduceAdd,Nat.reduceEqDiff,reduceIte,reduceCtorEq,Bool.false_eq_true]
    refine K.call (size_r x.scalar _ l w1 (SlR.ext Abs.RScalar.ext he1 hl)) ?_
    rintro _ _ ⟨rfl, rfl⟩
    simp -dsimp only [LL,B9,Nat.reduceAdd,Nat.reduceEqDiff,reduceIte,reduceCtorEq,Bool.false_eq_true]
    simp only [Abs.bounds, h1, if_false]
    exact ⟨trivial, he1⟩
theorem cells_r (x : Abs.Var) (v : Value) (l : List Abs.Scalar) (w : World) (hl : Abs.Scalars w v l) :
    Ret Tryd.prog F.decl_Cells #[.agg x.enc.toArray, v] w fun v w' => v = .int .i64 (Abs.cells x l) ∧ Ext w w' := by
  obtain ⟨oa, cap, rfl, hlen⟩ := hl.form
  refine K.start hmix E.decl_Cells (args := [_, _]) (Nat.le_of_ble_eq_true rfl) ?_
  dsimp only [C.decl_Cells,yt,yi,yb,yp,yr,ye,yc,yv,yg,ym,yw,ya,yl,yx,ys,yn]
  simp -dsimp only [LL,B9,Nat.reduceAdd,Nat.reduceEqDiff,reduceIte,reduceCtorEq,Bool.false_eq_true]
  refine K.new fun w1 b hb he1 hc1 => ?_
  have c2 : w1.cell? (Addr.add ⟨b, 0, none⟩ 2) = some (.int .i64 x.over) := cell_blk hc1 rfl
  simp -dsimp only [LL,B9,Nat.reduceAdd,Nat.reduceEqDiff,reduceIte,reduceCtorEq,Bool.false_eq_true]
  refine K.ld c2 ?_
  simp -dsimp only [LL,B9,Nat.reduceAdd,Nat.reduceEqDiff,reduceIte,reduceCtorEq,Bool.false_eq_true]
  refine K.cond (fun h1 => ?_) (fun h1 => ?_)
  · simp -dsimp only [LL,B9,Nat.reduceAdd,Nat.reduceEqDiff,reduceIte,reduceCtorEq,Bool.false_eq_true]
    simp only [Abs.cells, h1, if_true]
    exact ⟨trivial, he1⟩
  · simp -dsimp only [LL,B9,Nat.reduceAdd,Nat.reduceEqDiff,reduceIte,reduceCtorEq,Bool.false_eq_true]
    refine K.ld c2 ?_
    simp -dsimp only [LL,B9,Nat.reduceAdd,Nat.reduceEqDiff,reduceIte,reduceCtorEq,Bool.false_eq_true]
    refine K.call (size_r x.over _ l w1 (SlR.ext Abs.RScalar.ext he1 hl)) ?_
    rintro _ _ ⟨rfl, rfl⟩
    simp -dsimp only [LL,B9,Nat.reduceAdd,Nat.reduceEqDiff,reduceIte,reduceCtorEq,Bool.false_eq_true]
    simp only [Abs.cells, h1, if_false]
    exact ⟨trivial, he1⟩
theorem vars1_r (i : Nat) (b : Nat) (v : Value) (l : List Abs.Var) (w : World) (hl : Abs.Vars w v l) (hb : w.cell? ⟨b, 0, none⟩ = some v) (hi : i < l.length) :
    Ret Tryd.prog F.decl_Vars_1 #[.int .i64 i, .pointer (some ⟨b, 0, none⟩)] w fun v w' => v = .string (Abs.nameAt (·.name) l i) ∧ Ext w w' := by
  obtain ⟨oa, cap, rfl, hlen⟩ := hl.form
  refine K.start hmix E.decl_Vars_1 (args := [_, _]) (Nat.le_of_ble_eq_true rfl) ?_
  dsimp only [C.decl_Vars_1,yt,yi,yb,yp,yr,ye,yc,yv,yg,ym,yw,ya,yl,yx,ys,yn]
  simp -dsimp only [LL,B9,Nat.reduceAdd,Nat.reduceEqDiff,reduceIte,reduceCtorEq,Bool.false_eq_true]
  refine K.ld hb ?_
  simp -dsimp only [LL,B9,Nat.reduceAdd,Nat.reduceEqDiff,reduceIte,reduceCtorEq,Bool.false_eq_true]
  obtain ⟨a, rfl⟩ := hl.addr (by omega)
  have hc := (hl.at i hi).cells 0 _ rfl
  refine K.ian i rfl hi ?_
  simp -dsimp only [LL,B9,Nat.reduceAdd,Nat.reduceEqDiff,reduceIte,reduceCtorEq,Bool.false_eq_true]
  refine K.ld hc ?_
  simp -dsimp only [LL,B9,Nat.reduceAdd,Nat.reduceEqDiff,reduceIte,reduceCtorEq,Bool.false_eq_true]
  rw [nameAt_lt _ _ _ hi]
  exact ⟨rfl, Ext.refl w⟩
theorem vars2_r (i : Nat) (b b2 : Nat) (v v2 : Value) (l : List Abs.Var) (s : List Abs.Scalar) (w : World) (hl : Abs.Vars w v l) (hs : Abs.Scalars w v2 s) (hb : w.cell? ⟨b, 0, none⟩ = some v) (hb2 : w.cell? ⟨b2, 0, none⟩ = some v2)
    (hi : i < l.length) : Ret Tryd.prog F.decl_Vars_2 #[.int .i64 i, .pointer (some ⟨b, 0, none⟩), .pointer (some ⟨b2, 0, none⟩)] w fun v w' => v = .int .i64 (Abs.varErr l s i) ∧ Ext w w' := by
  obtain ⟨oa, cap, rfl, hlen⟩ := hl.form
  obtain ⟨ob, cap2, rfl, hlen2⟩ := hs.form
  refine K.start hmix E.decl_Vars_2 (args := [_, _, _]) (Nat.le_of_ble_eq_true rfl) ?_
  dsimp only [C.decl_Vars_2,yt,yi,yb,yp,yr,ye,yc,yv,yg,ym,yw,ya,yl,yx,ys,yn]
  simp -dsimp only [LL,B9,Nat.reduceAdd,Nat.reduceEqDiff,reduceIte,reduceCtorEq,Bool.false_eq_true]
  refine K.ld hb ?_
  simp -dsimp only [LL,B9,Nat.reduceAdd,Nat.reduceEqDiff,reduceIte,reduceCtorEq,Bool.false_eq_true]
  obtain ⟨a, rfl⟩ := hl.addr (by omega)
  have hc := (hl.at i hi).cells
  have hr : Abs.varErr l s i = if Abs.there l[i].scalar s = false ∨ Abs.there l[i].over s = false then 8
    else if (l[i].scalar = 0 ∧ Abs.narrow l[i].lo l[i].hi = false) ∨ l[i].init < (Abs.bounds l[i] s).1 ∨ l[i].init > (Abs.bounds l[i] s).2 then 10 else 0 := by simp [Abs.varErr, hi]
  rw [hr]
  clear hr
  generalize l[i] = x at hc
  refine K.ian i rfl hi ?_
  simp -dsimp only [LL,B9,Nat.reduceAdd,Nat.reduceEqDiff,reduceIte,reduceCtorEq,Bool.false_eq_true]
  refine K.ldA hc rfl ?_
  simp -dsimp only [LL,B9,Nat.reduceAdd,Nat.reduceEqDiff,reduceIte,reduceCtorEq,Bool.false_eq_true]
  refine K.new fun w1 q hq he1 hc1 => ?_
  simp -dsimp only [LL,B9,Nat.reduceAdd,Nat.reduceEqDiff,reduceIte,reduceCtorEq,Bool.false_eq_true]
  refine K.stAb hc1 rfl rfl (by simp [Abs.Var.enc, Value.oneCell']) fun w2 hw hc2 => ?_
  have he2 : Ext w w2 := hw.ext he1 hq
  clear hw hc1 he1 w1
  have c1 : w2.cell? (Addr.add ⟨q, 0, none⟩ 1) = some (.int .i64 x.scalar) := cell_blk hc2 rfl
  have c2 : w2.cell? (Addr.add ⟨q, 0, none⟩ 2) = some (.int .i64 x.over) := cell_blk hc2 rfl
  have c5 : w2.cell? (Addr.add ⟨q, 0, none⟩ 5) = some (.int .i64 x.init) := cell_blk hc2 rfl
  have d2 := he2.cell hb2
  have hs2 := SlR.ext Abs.RScalar.ext he2 hs
  simp -dsimp only [LL,B9,Nat.reduceAdd,Nat.reduceEqDiff,reduceIte,reduceCtorEq,Bool.false_eq_true]
  refine K.ld c1 ?_
  simp -dsimp only [LL,B9,Nat.reduceAdd,Nat.reduceEqDiff,reduceIte,reduceCtorEq,Bool.false_eq_true]
  refine K.ld d2 ?_
  simp -dsimp only [LL,B9,Nat.reduceAdd,Nat.reduceEqDiff,reduceIte,reduceCtorEq,Bool.false_eq_true]
  refine K.call (there_r x.scalar _ s w2 hs2) ?_
  rintro _ _ ⟨rfl, rfl⟩
  simp -dsimp only [LL,B9,Nat.reduceAdd,Nat.reduceEqDiff,reduceIte,reduceCtorEq,Bool.false_eq_true]
  refine K.condb (fun h1 => ?_) (fun h1 => ?_)
  rotate_left
  · simp -dsimp only [LL,B9,Nat.reduceAdd,Nat.reduceEqDiff,reduceIte,reduceCtorEq,Bool.false_eq_true]
    simp only [h1, true_or, if_true]; exact ⟨trivial, he2⟩
  simp -dsimp only [LL,B9,Nat.reduceAdd,Nat.reduceEqDiff,reduceIte,reduceCtorEq,Bool.false_eq_true]
  refine K.ld c2 ?_
  simp -dsimp only [LL,B9,Nat.reduceAdd,Nat.reduceEqDiff,reduceIte,reduceCtorEq,Bool.false_eq_true]
  refine K.ld d2 ?_
  simp -dsimp only [LL,B9,Nat.reduceAdd,Nat.reduceEqDiff,reduceIte,reduceCtorEq,Bool.false_eq_true]
  refine K.call (there_r x.over _ s _ hs2) ?_
  rintro _ _ ⟨rfl, rfl⟩
  simp -dsimp only [LL,B9,Nat.reduceAdd,Nat.reduceEqDiff,reduceIte,reduceCtorEq,Bool.false_eq_true]
  refine K.condb (fun h2 => ?_) (fun h2 => ?_)
  rotate_left
  · simp -dsimp only [LL,B9,Nat.reduceAdd,Nat.reduceEqDiff,reduceIte,reduceCtorEq,Bool.false_eq_true]
    simp only [h2, or_true, if_true]; exact ⟨trivial, he2⟩
  simp -dsimp only [LL,B9,Nat.reduceAdd,Nat.reduceEqDiff,reduceIte,reduceCtorEq,Bool.false_eq_true]
  refine K.ldA (cellsAt_blk hc2) rfl ?_
  simp -dsimp only [LL,B9,Nat.reduceAdd,Nat.reduceEqDiff,reduceIte,reduceCtorEq,Bool.false_eq_true]
  refine K.ld d2 ?_
  simp -dsimp only [LL,B9,Nat.reduceAdd,Nat.reduceEqDiff,reduceIte,reduceCtorEq,Bool.false_eq_true]
  refine K.call (bounds_r x _ s _ hs2) ?_
  rintro _ w3 ⟨rfl, he3⟩
  rename_i w2'
  have e1 := he3.cell c1
  have e5 := he3.cell c5
  have he := he2.trans he3
  simp -dsimp only [LL,B9,Nat.reduceAdd,Nat.reduceEqDiff,reduceIte,reduceCtorEq,Bool.false_eq_true]
  refine K.ld e1 ?_
  have hA : ¬ (Abs.there x.scalar s = false ∨ Abs.there x.over s = false) := by simp [h1, h2]
  simp -dsimp only [LL,B9,Nat.reduceAdd,Nat.reduceEqDiff,reduceIte,reduceCtorEq,Bool.false_eq_true]
  refine K.cond (fun h3 => ?_) (fun h3 => ?_)
  · simp -dsimp only [LL,B9,Nat.reduceAdd,Nat.reduceEqDiff,reduceIte,reduceCtorEq,Bool.false_eq_true]
    have hbd : Abs.bounds x s = (x.lo, x.hi) := by simp [Abs.bounds, h3]
    rw [hbd]
    refine K.call (narrow_r x.lo x.hi w3) ?_
    rintro _ _ ⟨rfl, rfl⟩
    simp -dsimp only [LL,B9,Nat.reduceAdd,Nat.reduceEqDiff,reduceIte,reduceCtorEq,Bool.false_eq_true]
    refine K.condb (fun h4 => ?_) (fun h4 => ?_)
    rotate_left
    · simp -dsimp only [LL,B9,Nat.reduceAdd,Nat.reduceEqDiff,reduceIte,reduceCtorEq,Bool.false_eq_true]
      rw [if_neg hA, if_pos (.inl ⟨h3, h4⟩)]; exact ⟨rfl, he⟩
    simp -dsimp only [LL,B9,Nat.reduceAdd,Nat.reduceEqDiff,reduceIte,reduceCtorEq,Bool.false_eq_true]
    refine K.ld e5 ?_
    simp -dsimp only [LL,B9,Nat.reduceAdd,Nat.reduceEqDiff,reduceIte,reduceCtorEq,Bool.false_eq_true]
    refine K.cond (fun h5 => ?_) (fun h5 => ?_)
    · simp -dsimp only [LL,B9,Nat.reduceAdd,Nat.reduceEqDiff,reduceIte,reduceCtorEq,Bool.false_eq_true]
      rw [if_neg hA, if_pos (.inr (.inl h5))]; exact ⟨rfl, he⟩
    simp -dsimp only [LL,B9,Nat.reduceAdd,Nat.reduceEqDiff,reduceIte,reduceCtorEq,Bool.false_eq_true]
    refine K.ld e5 ?_
    simp -dsimp only [LL,B9,Nat.reduceAdd,Nat.reduceEqDiff,reduceIte,reduceCtorEq,Bool.false_eq_true]
    refine K.cond (fun h6 => ?_) (fun h6 => ?_)
    · simp -dsimp only [LL,B9,Nat.reduceAdd,Nat.reduceEqDiff,reduceIte,reduceCtorEq,Bool.false_eq_true]
      rw [if_neg hA, if_pos (.inr (.inr h6))]; exact ⟨rfl, he⟩
    · simp -dsimp only [LL,B9,Nat.reduceAdd,Nat.reduceEqDiff,reduceIte,reduceCtorEq,Bool.false_eq_true]
      rw [if_neg hA, if_neg (by rw [h4]; simp; omega)]; exact ⟨rfl, he⟩
  · simp -dsimp only [LL,B9,Nat.reduceAdd,Nat.reduceEqDiff,reduceIte,reduceCtorEq,Bool.false_eq_true]
    refine K.ld e5 ?_
    simp -dsimp only [LL,B9,Nat.reduceAdd,Nat.reduceEqDiff,reduceIte,reduceCtorEq,Bool.false_eq_true]
    refine K.cond (fun h5 => ?_) (fun h5 => ?_)
    · simp -dsimp only [LL,B9,Nat.reduceAdd,Nat.reduceEqDiff,reduceIte,reduceCtorEq,Bool.false_eq_true]
      rw [if_neg hA, if_pos (.inr (.inl h5))]; exact ⟨rfl, he⟩
    simp -dsimp only [LL,B9,Nat.reduceAdd,Nat.reduceEqDiff,reduceIte,reduceCtorEq,Bool.false_eq_true]
    refine K.ld e5 ?_
    simp -dsimp only [LL,B9,Nat.reduceAdd,Nat.reduceEqDiff,reduceIte,reduceCtorEq,Bool.false_eq_true]
    refine K.cond (fun h6 => ?_) (fun h6 => ?_)
    · simp -dsimp only [LL,B9,Nat.reduceAdd,Nat.reduceEqDiff,reduceIte,reduceCtorEq,Bool.false_eq_true]
      rw [if_neg hA, if_pos (.inr (.inr h6))]; exact ⟨rfl, he⟩
    · simp -dsimp only [LL,B9,Nat.reduceAdd,Nat.reduceEqDiff,reduceIte,reduceCtorEq,Bool.false_eq_true]
      rw [if_neg hA, if_neg (by simp [h3]; omega)]; exact ⟨rfl, he⟩
theorem vars_r (v v2 : Value) (l : List Abs.Var) (s : List Abs.Scalar) (most : Int) (w : World) (ho : OwnIs w) (hl : Abs.Vars w v l) (hs : Abs.Scalars w v2 s) :
    Ret Tryd.prog F.decl_Vars #[v, v2, .int .i64 most] w fun v w' => v = .tuple #[.int .i64 (Abs.vars l s most).1, .int .i64 (Abs.vars l s most).2] ∧ Ext w w' := by
  obtain ⟨oa, cap, rfl, hlen⟩ := hl.form
  obtain ⟨ob, cap2, rfl, hlen2⟩ := hs.form
  refine K.start hmix E.decl_Vars (args := [_, _, _]) (Nat.le_of_ble_eq_true rfl) ?_
  dsimp only [C.decl_Vars,yt,yi,yb,yp,yr,ye,yc,yv,yg,ym,yw,ya,yl,yx,ys,yn]
  simp -dsimp only [LL,B9,Nat.reduceAdd,Nat.reduceEqDiff,reduceIte,reduceCtorEq,Bool.false_eq_true]
  refine K.new fun w1 b hb he1 hc1 => ?_
  simp -dsimp only [LL,B9,Nat.reduceAdd,Nat.reduceEqDiff,reduceIte,reduceCtorEq,Bool.false_eq_true]
  refine K.new fun w2 b2 hb2 he2 hc2 => ?_
  have he := he1.trans he2
  have hl1 := SlR.ext Abs.RVar.ext he hl
  have hs1 := SlR.ext Abs.RScalar.ext he hs
  have d1 : w2.cell? ⟨b, 0, none⟩ = some (.slice oa l.length cap) := cell_blk0 (he2.obj hc1) rfl
  have d2 : w2.cell? ⟨b2, 0, none⟩ = some (.slice ob s.length cap2) := cell_blk0 hc2 rfl
  simp -dsimp only [LL,B9,Nat.reduceAdd,Nat.reduceEqDiff,reduceIte,reduceCtorEq,Bool.false_eq_true]
  refine K.ld d1 ?_
  simp -dsimp only [LL,B9,Nat.reduceAdd,Nat.reduceEqDiff,reduceIte,reduceCtorEq,Bool.false_eq_true]
  refine K.call (named_r l.length (max most 0) (by omega) (Abs.nameAt (·.name) l) (Abs.varErr l s) F.decl_Vars_1 F.decl_Vars_2 [_] [_, _] (by kernel_rfl) (by kernel_rfl) w2 (ho.ext he)
    (fun i hi => by rw [nameAt_lt _ _ _ (by omega)]; obtain ⟨a, rfl⟩ := hl.addr (by omega); exact (hl.at i (by omega)).ok)
    (fun i w' hi he => vars1_r i b _ l w' (SlR.ext Abs.RVar.ext he hl1) (he.cell d1) (by omega))
    (fun i w' hi he => vars2_r i b b2 _ _ l s w' (SlR.ext Abs.RVar.ext he hl1) (SlR.ext Abs.RScalar.ext he hs1) (he.cell d1) (he.cell d2) (by omega))) ?_
  rintro _ w3 ⟨rfl, he3⟩
  simp -dsimp only [LL,B9,Nat.reduceAdd,Nat.reduceEqDiff,reduceIte,reduceCtorEq,Bool.false_eq_true]
  exact ⟨rfl, he.trans he3⟩
theorem chans1_r (i : Nat) (b : Nat) (v : Value) (l : List Abs.Chan) (w : World) (hl : Abs.Chans w v l) (hb : w.cell? ⟨b, 0, none⟩ = some v) (hi : i < l.length) :
    Ret Tryd.prog F.decl_Chans_1 #[.int .i64 i, .pointer (some ⟨b, 0, none⟩)] w fun v w' => v = .string (Abs.nameAt (·.name) l i) ∧ Ext w w' := by
  obtain ⟨oa, cap, rfl, hlen⟩ := hl.form
  refine K.start hmix E.decl_Chans_1 (args := [_, _]) (Nat.le_of_ble_eq_true rfl) ?_
  dsimp only [C.decl_Chans_1,yt,yi,yb,yp,yr,ye,yc,yv,yg,ym,yw,ya,yl,yx,ys,yn]
  simp -dsimp only [LL,B9,Nat.reduceAdd,Nat.reduceEqDiff,reduceIte,reduceCtorEq,Bool.false_eq_true]
  refine K.ld hb ?_
  simp -dsimp only [LL,B9,Nat.reduceAdd,Nat.reduceEqDiff,reduceIte,reduceCtorEq,Bool.false_eq_true]
  obtain ⟨a, rfl⟩ := hl.addr (by omega)
  have hc := (hl.at i hi).cells 0 _ rfl
  refine K.ian i rfl hi ?_
  simp -dsimp only [LL,B9,Nat.reduceAdd,Nat.reduceEqDiff,reduceIte,reduceCtorEq,Bool.false_eq_true]
  refine K.ld hc ?_
  simp -dsimp only [LL,B9,Nat.reduceAdd,Nat.reduceEqDiff,reduceIte,reduceCtorEq,Bool.false_eq_true]
  rw [nameAt_lt _ _ _ hi]
  exact ⟨rfl, Ext.refl w⟩
theorem chans2_r (i : Nat) (b b2 : Nat) (v v2 : Value) (l : List Abs.Chan) (s : List Abs.Scalar) (w : World) (hl : Abs.Chans w v l) (hs : Abs.Scalars w v2 s) (hb : w.cell? ⟨b, 0, none⟩ = some v) (hb2 : w.cell? ⟨b2, 0, none⟩ = some v2)
    (hi : i < l.length) : Ret Tryd.prog F.decl_Chans_2 #[.int .i64 i, .pointer (some ⟨b, 0, none⟩), .pointer (some ⟨b2, 0, none⟩)] w fun v w' => v = .int .i64 (Abs.chanErr l s i) ∧ Ext w w' := by
  obtain ⟨oa, cap, rfl, hlen⟩ := hl.form
  obtain ⟨ob, cap2, rfl, hlen2⟩ := hs.form
  refine K.start hmix E.decl_Chans_2 (args := [_, _, _]) (Nat.le_of_ble_eq_true rfl) ?_
  dsimp only [C.decl_Chans_2,yt,yi,yb,yp,yr,ye,yc,yv,yg,ym,yw,ya,yl,yx,ys,yn]
  simp -dsimp only [LL,B9,Nat.reduceAdd,Nat.reduceEqDiff,reduceIte,reduceCtorEq,Bool.false_eq_true]
  refine K.ld hb ?_
  simp -dsimp only [LL,B9,Nat.reduceAdd,Nat.reduceEqDiff,reduceIte,reduceCtorEq,Bool.false_eq_true]
  obtain ⟨a, rfl⟩ := hl.addr (by omega)
  have hc := (hl.at i hi).cells
  have hr : Abs.chanErr l s i = if Abs.there l[i].scalar s = false then 8
    else if l[i].cap < 1 ∨ l[i].cap > 4 ∨ (l[i].scalar = 0 ∧ Abs.narrow l[i].lo l[i].hi = false) then 10 else 0 := by simp [Abs.chanErr, hi]
  rw [hr]
  clear hr
  generalize l[i] = x at hc
  refine K.ian i rfl hi ?_
  simp -dsimp only [LL,B9,Nat.reduceAdd,Nat.reduceEqDiff,reduceIte,reduceCtorEq,Bool.false_eq_true]
  refine K.ldA hc rfl ?_
  simp -dsimp only [LL,B9,Nat.reduceAdd,Nat.reduceEqDiff,reduceIte,reduceCtorEq,Bool.false_eq_true]
  refine K.new fun w1 q hq he1 hc1 => ?_
  simp -dsimp only [LL,B9,Nat.reduceAdd,Nat.reduceEqDiff,reduceIte,reduceCtorEq,Bool.false_eq_true]
  refine K.stAb hc1 rfl rfl (by simp [Abs.Chan.enc, Value.oneCell']) fun w2 hw hc2 => ?_
  have he2 : Ext w w2 := hw.ext he1 hq
  clear hw hc1 he1 w1
  have c1 : w2.cell? (Addr.add ⟨q, 0, none⟩ 1) = some (.int .i64 x.scalar) := cell_blk hc2 rfl
  have c2 : w2.cell? (Addr.add ⟨q, 0, none⟩ 2) = some (.int .i64 x.cap) := cell_blk hc2 rfl
  have c3 : w2.cell? (Addr.add ⟨q, 0, none⟩ 3) = some (.int .i64 x.lo) := cell_blk hc2 rfl
  have c4 : w2.cell? (Addr.add ⟨q, 0, none⟩ 4) = some (.int .i64 x.hi) := cell_blk hc2 rfl
  have d2 := he2.cell hb2
  have hs2 := SlR.ext Abs.RScalar.ext he2 hs
  simp -dsimp only [LL,B9,Nat.reduceAdd,Nat.reduceEqDiff,reduceIte,reduceCtorEq,Bool.false_eq_true]
  refine K.ld c1 ?_
  simp -dsimp only [LL,B9,Nat.reduceAdd,Nat.reduceEqDiff,reduceIte,reduceCtorEq,Bool.false_eq_true]
  refine K.ld d2 ?_
  simp -dsimp only [LL,B9,Nat.reduceAdd,Nat.reduceEqDiff,reduceIte,reduceCtorEq,Bool.false_eq_true]
  refine K.call (there_r x.scalar _ s w2 hs2) ?_
  rintro _ _ ⟨rfl, rfl⟩
  simp -dsimp only [LL,B9,Nat.reduceAdd,Nat.reduceEqDiff,reduceIte,reduceCtorEq,Bool.false_eq_true]
  refine K.condb (fun h1 => ?_) (fun h1 => ?_)
  rotate_left
  · simp -dsimp only [LL,B9,Nat.reduceAdd,Nat.reduceEqDiff,reduceIte,reduceCtorEq,Bool.false_eq_true]
    simp only [h1, if_true]; exact ⟨trivial, he2⟩
  have hA : ¬ (Abs.there x.scalar s = false) := by simp [h1]
  simp -dsimp only [LL,B9,Nat.reduceAdd,Nat.reduceEqDiff,reduceIte,reduceCtorEq,Bool.false_eq_true]
  refine K.ld c2 ?_
  simp -dsimp only [LL,B9,Nat.reduceAdd,Nat.reduceEqDiff,reduceIte,reduceCtorEq,Bool.false_eq_true]
  refine K.cond (fun h2 => ?_) (fun h2 => ?_)
  · simp -dsimp only [LL,B9,Nat.reduceAdd,Nat.reduceEqDiff,reduceIte,reduceCtorEq,Bool.false_eq_true]
    rw [if_neg hA, if_pos (.inl h2)]; exact ⟨rfl, he2⟩
  simp -dsimp only [LL,B9,Nat.reduceAdd,Nat.reduceEqDiff,reduceIte,reduceCtorEq,Bool.false_eq_true]
  refine K.ld c2 ?_
  simp -dsimp only [LL,B9,Nat.reduceAdd,Nat.reduceEqDiff,reduceIte,reduceCtorEq,Bool.false_eq_true]
  refine K.cond (fun h3 => ?_) (fun h3 => ?_)
  · simp -dsimp only [LL,B9,Nat.reduceAdd,Nat.reduceEqDiff,reduceIte,reduceCtorEq,Bool.false_eq_true]
    rw [if_neg hA, if_pos (.inr (.inl h3))]; exact ⟨rfl, he2⟩
  simp -dsimp only [LL,B9,Nat.reduceAdd,Nat.reduceEqDiff,reduceIte,reduceCtorEq,Bool.false_eq_true]
  refine K.ld c1 ?_
  simp -dsimp only [LL,B9,Nat.reduceAdd,Nat.reduceEqDiff,reduceIte,reduceCtorEq,Bool.false_eq_true]
  refine K.cond (fun h4 => ?_) (fun h4 => ?_)
  · simp -dsimp only [LL,B9,Nat.reduceAdd,Nat.reduceEqDiff,reduceIte,reduceCtorEq,Bool.false_eq_true]
    refine K.ld c3 ?_
    simp -dsimp only [LL,B9,Nat.reduceAdd,Nat.reduceEqDiff,reduceIte,reduceCtorEq,Bool.false_eq_true]
    refine K.ld c4 ?_
    simp -dsimp only [LL,B9,Nat.reduceAdd,Nat.reduceEqDiff,reduceIte,reduceCtorEq,Bool.false_eq_true]
    refine K.call (narrow_r x.lo x.hi _) ?_
    rintro _ _ ⟨rfl, rfl⟩
    simp -dsimp only [LL,B9,Nat.reduceAdd,Nat.reduceEqDiff,reduceIte,reduceCtorEq,Bool.false_eq_true]
    refine K.condb (fun h5 => ?_) (fun h5 => ?_)
    · simp -dsimp only [LL,B9,Nat.reduceAdd,Nat.reduceEqDiff,reduceIte,reduceCtorEq,Bool.false_eq_true]
      rw [if_neg hA, if_neg (by rw [h5]; simp; omega)]; exact ⟨rfl, he2⟩
    · simp -dsimp only [LL,B9,Nat.reduceAdd,Nat.reduceEqDiff,reduceIte,reduceCtorEq,Bool.false_eq_true]
      rw [if_neg hA, if_pos (.inr (.inr ⟨h4, h5⟩))]; exact ⟨rfl, he2⟩
  · simp -dsimp only [LL,B9,Nat.reduceAdd,Nat.reduceEqDiff,reduceIte,reduceCtorEq,Bool.false_eq_true]
    rw [if_neg hA, if_neg (by simp [h4]; omega)]; exact ⟨rfl, he2⟩
theorem chans_r (v v2 : Value) (l : List Abs.Chan) (s : List Abs.Scalar) (w : World) (ho : OwnIs w) (hl : Abs.Chans w v l) (hs : Abs.Scalars w v2 s) :
    Ret Tryd.prog F.decl_Chans #[v, v2] w fun v w' => v = .tuple #[.int .i64 (Abs.chans l s).1, .int .i64 (Abs.chans l s).2] ∧ Ext w w' := by
  obtain ⟨oa, cap, rfl, hlen⟩ := hl.form
  obtain ⟨ob, cap2, rfl, hlen2⟩ := hs.form
  refine K.start hmix E.decl_Chans (args := [_, _]) (Nat.le_of_ble_eq_true rfl) ?_
  dsimp only [C.decl_Chans,yt,yi,yb,yp,yr,ye,yc,yv,yg,ym,yw,ya,yl,yx,ys,yn]
  simp -dsimp only [LL,B9,Nat.reduceAdd,Nat.reduceEqDiff,reduceIte,reduceCtorEq,Bool.false_eq_true]
  refine K.new fun w1 b hb he1 hc1 => ?_
  simp -dsimp only [LL,B9,Nat.reduceAdd,Nat.reduceEqDiff,reduceIte,reduceCtorEq,Bool.false_eq_true]
  refine K.new fun w2 b2 hb2 he2 hc2 => ?_
  have he := he1.trans he2
  have hl1 := SlR.ext Abs.RChan.ext he hl
  have hs1 := SlR.ext Abs.RScalar.ext he hs
  have d1 : w2.cell? ⟨b, 0, none⟩ = some (.slice oa l.length cap) := cell_blk0 (he2.obj hc1) rfl
  have d2 : w2.cell? ⟨b2, 0, none⟩ = some (.slice ob s.length cap2) := cell_blk0 hc2 rfl
  simp -dsimp only [LL,B9,Nat.reduceAdd,Nat.reduceEqDiff,reduceIte,reduceCtorEq,Bool.false_eq_true]
  refine K.ld d1 ?_
  simp -dsimp only [LL,B9,Nat.reduceAdd,Nat.reduceEqDiff,reduceIte,reduceCtorEq,Bool.false_eq_true]
  refine K.call (named_r l.length 4 (by omega) (Abs.nameAt (·.name) l) (Abs.chanErr l s) F.decl_Chans_1 F.decl_Chans_2 [_] [_, _] (by kernel_rfl) (by kernel_rfl) w2 (ho.ext he)
    (fun i hi => by rw [nameAt_lt _ _ _ (by omega)]; obtain ⟨a, rfl⟩ := hl.addr (by omega); exact (hl.at i (by omega)).ok)
    (fun i w' hi he => chans1_r i b _ l w' (SlR.ext Abs.RChan.ext he hl1) (he.cell d1) (by omega))
    (fun i w' hi he => chans2_r i b b2 _ _ l s w' (SlR.ext Abs.RChan.ext he hl1) (SlR.ext Abs.RScalar.ext he hs1) (he.cell d1) (he.cell d2) (by omega))) ?_
  rintro _ w3 ⟨rfl, he3⟩
  simp -dsimp only [LL,B9,Nat.reduceAdd,Nat.reduceEqDiff,reduceIte,reduceCtorEq,Bool.false_eq_true]
  exact ⟨rfl, he.trans he3⟩
end Go.Proofs.YtoakjdilnkjcgaaDoor
