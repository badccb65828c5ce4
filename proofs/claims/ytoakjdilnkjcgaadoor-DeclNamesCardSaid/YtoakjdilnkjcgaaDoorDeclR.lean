/- What the references of layer 12 compute; the law on cells and bounds. -/
import Derived.Test.YtoakjdilnkjcgaaDoorDeclA
set_option linter.all false
set_option maxRecDepth 4000
set_option linter.unusedSimpArgs false
set_option maxHeartbeats 1000000
namespace Go.Proofs.YtoakjdilnkjcgaaDoor
open Go Go.RowKit Lite

theorem refSize_r (k : Int) (v : Value) (l : List Abs.Scalar) (w : World) (hl : Abs.Scalars w v l) :
    Ret Tryd.prog F.lariatref12_Size #[v, .int .i64 k] w fun v w' => v = .int .i64 (Abs.size k l) ∧ w' = w := by
  obtain ⟨oa, cap, rfl, hlen⟩ := hl.form
  refine K.start hmix E.lariatref12_Size (args := [_, _]) (Nat.le_of_ble_eq_true rfl) ?_
  dsimp only [C.lariatref12_Size,yt,yi,yb,yp,yr,ye,yc,yv,yg,ym,yw,ya,yl,yx,ys,yn]
  simp -dsimp only [LL,B9,Nat.reduceAdd,Nat.reduceEqDiff,reduceIte,reduceCtorEq,Bool.false_eq_true]
  refine K.cond (fun h1 => ?_) (fun h1 => ?_)
  · simp -dsimp only [LL,B9,Nat.reduceAdd,Nat.reduceEqDiff,reduceIte,reduceCtorEq,Bool.false_eq_true]
    rw [size_no (.inl h1)]; exact ⟨rfl, trivial⟩
  simp -dsimp only [LL,B9,Nat.reduceAdd,Nat.reduceEqDiff,reduceIte,reduceCtorEq,Bool.false_eq_true]
  refine K.cond (fun h2 => ?_) (fun h2 => ?_)
  · simp -dsimp only [LL,B9,Nat.reduceAdd,Nat.reduceEqDiff,reduceIte,reduceCtorEq,Bool.false_eq_true]
    rw [size_no (.inr h2)]; exact ⟨rfl, trivial⟩
  obtain ⟨a, rfl⟩ := hl.addr (by omega)
  have hc := (hl.at (k.toNat - 1) (by omega)).cells 1 _ rfl
  have hk : (k - 1).toNat * 2 = (k.toNat - 1) * 2 := by omega
  rw [size_at (by omega) (by omega)]
  rw [← hk] at hc
  generalize l[k.toNat - 1].size = z at hc
  (repeat' first
    | (refine K.cond (fun _ => ?_) (fun _ => ?_) <;> try (exfalso; omega))
    | (refine K.condb (fun _ => ?_) (fun _ => ?_))
    | (refine K.wrap (by omega) ?_)
    | (refine K.ld (by assumption) ?_)
    | (refine K.ia (by omega) ?_)
    | simp -dsimp only [LL,B9,Nat.reduceAdd,Nat.reduceEqDiff,reduceIte,reduceCtorEq,Bool.false_eq_true])
  · rw [if_neg (by omega)]; exact ⟨rfl, trivial⟩
  · rw [if_neg (by omega)]; exact ⟨rfl, trivial⟩
  · rw [if_pos (by omega)]; exact ⟨rfl, trivial⟩
theorem refBounds_r (x : Abs.Var) (v : Value) (l : List Abs.Scalar) (w : World) (hl : Abs.Scalars w v l) :
    Ret Tryd.prog F.lariatref12_Bounds #[.agg x.enc.toArray, v] w fun v w' => v = .tuple #[.int .i64 (Abs.bounds x l).1, .int .i64 (Abs.bounds x l).2] ∧ Ext w w' := by
  obtain ⟨oa, cap, rfl, hlen⟩ := hl.form
  refine K.start hmix E.lariatref12_Bounds (args := [_, _]) (Nat.le_of_ble_eq_true rfl) ?_
  dsimp only [C.lariatref12_Bounds,yt,yi,yb,yp,yr,ye,yc,yv,yg,ym,yw,ya,yl,yx,ys,yn]
  simp -dsimp only [LL,B9,Nat.reduceAdd,Nat.reduceEqDiff,reduceIte,reduceCtorEq,Bool.false_eq_true]
  refine K.new fun w1 b hb he1 hc1 => ?_
  have c1 : w1.cell? (Addr.add ⟨b, 0, none⟩ 1) = some (.int .i64 x.scalar) := cell_blk hc1 rfl
  have c3 : w1.cell? (Addr.add ⟨b, 0, none⟩ 3) = some (.int .i64 x.lo) := cell_blk hc1 rfl
  have c4 : w1.cell? (Addr.add ⟨b, 0, none⟩ 4) = some (.int .i64 x.hi) := cell_blk hc1 rfl
  simp -dsimp only [LL,B9,Nat.reduceAdd,Nat.reduceEqDiff,reduceIte,reduceCtorEq,Bool.false_eq_true]
  refine K.ld c1 ?_
  simp -dsimp only [LL,B9,Nat.reduceAdd,Nat.reduceEqDiff,reduceIte,reduceCtorEq,Bool.false_eq_true]
  refine K.cond (fun h1 => ?_) (fun h1 => ?_)
  · simp -dsimp only [LL,B9,Nat.reduceAdd,Nat.reduceEqDiff,reduceIte,reduceCtorEq,Bool.false_eq_true]
    refine K.ld c3 ?_
    simp -dsimp only [LL,B9,Nat.reduceAdd,Nat.reduceEqDiff,reduceIte,reduceCtorEq,Bool.false_eq_true]
    refine K.ld c4 ?_
    simp -dsimp only [LL,B9,Nat.reduceAdd,Nat.reduceEqDiff,reduceIte,reduceCtorEq,Bool.false_eq_true]
    intro w2 he2
    simp only [Abs.bounds, h1, if_true]
    exact ⟨trivial, he1.trans he2⟩
  · simp -dsimp only [LL,B9,Nat.reduceAdd,Nat.reduceEqDiff,reduceIte,reduceCtorEq,Bool.false_eq_true]
    refine K.ld c1 ?_
    simp -dsimp only [LL,B9,Nat.reduceAdd,Nat.reduceEqDiff,reduceIte,reduceCtorEq,Bool.false_eq_true]
    refine K.call (refSize_r x.scalar _ l w1 (SlR.ext Abs.RScalar.ext he1 hl)) ?_
    rintro _ _ ⟨rfl, rfl⟩
    simp -dsimp only [LL,B9,Nat.reduceAdd,Nat.reduceEqDiff,reduceIte,reduceCtorEq,Bool.false_eq_true]
    simp only [Abs.bounds, h1, if_false]
    exact ⟨trivial, he1⟩
theorem refCells_r (x : Abs.Var) (v : Value) (l : List Abs.Scalar) (w : World) (hl : Abs.Scalars w v l) :
    Ret Tryd.prog F.lariatref12_Cells #[.agg x.enc.toArray, v] w fun v w' => v = .int .i64 (Abs.cells x l) ∧ Ext w w' := by
  obtain ⟨oa, cap, rfl, hlen⟩ := hl.form
  refine K.start hmix E.lariatref12_Cells (args := [_, _]) (Nat.le_of_ble_eq_true rfl) ?_
  dsimp only [C.lariatref12_Cells,yt,yi,yb,yp,yr,ye,yc,yv,yg,ym,yw,ya,yl,yx,ys,yn]
  simp -dsimp only [LL,B9,Nat.reduceAdd,Nat.reduceEqDiff,reduceIte,reduceCtorEq,Bool.false_eq_true]
  refine K.new fun w1 b hb he1 hc1 => ?_
  have c2 : w1.cell? (Addr.add ⟨b, 0, none⟩ 2) = some (.int .i64 x.over) := cell_blk hc1 rfl
  simp -dsimp only [LL,B9,Nat.reduceAdd,Nat.reduceEqDiff,reduceIte,reduceCtorEq,Bool.false_eq_true]
  refine K.ld c2 ?_
  simp -dsimp only [LL,B9,Nat.reduceAdd,Nat.reduceEqDiff,reduceIte,reduceCtorEq,Bool.false_eq_true]
  refine K.cond (fun h1 => ?_) (fun h1 => ?_)
  · simp -dsimp only [LL,B9,Nat.reduceAdd,Nat.reduceEqDiff,reduceIte,reduceCtorEq,Bool.false_eq_true]
    simp only [Abs.cells, h1, if_true]
    exact ⟨trivial, he1⟩
  · simp -dsimp only [LL,B9,Nat.reduceAdd,Nat.reduceEqDiff,reduceIte,reduceCtorEq,Bool.false_eq_true]
    refine K.ld c2 ?_
    simp -dsimp only [LL,B9,Nat.reduceAdd,Nat.reduceEqDiff,reduceIte,reduceCtorEq,Bool.false_eq_true]
    refine K.call (refSize_r x.over _ l w1 (SlR.ext Abs.RScalar.ext he1 hl)) ?_
    rintro _ _ ⟨rfl, rfl⟩
    simp -dsimp only [LL,B9,Nat.reduceAdd,Nat.reduceEqDiff,reduceIte,reduceCtorEq,Bool.false_eq_true]
    simp only [Abs.cells, h1, if_false]
    exact ⟨trivial, he1⟩
theorem lawCells_r (x : Abs.Var) (v : Value) (l : List Abs.Scalar) (w : World) (ho : OwnIs w) (hl : Abs.Scalars w v l) :
    Ret Tryd.prog F.lariatlaw12_DeclCells #[.agg x.enc.toArray, v] w fun v w' => v = .bool true ∧ Ext w w' := by
  obtain ⟨oa, cap, rfl, hlen⟩ := hl.form
  refine K.start hmix E.lariatlaw12_DeclCells (args := [_, _]) (Nat.le_of_ble_eq_true rfl) ?_
  dsimp only [C.lariatlaw12_DeclCells,yt,yi,yb,yp,yr,ye,yc,yv,yg,ym,yw,ya,yl,yx,ys,yn]
  simp -dsimp only [LL,B9,Nat.reduceAdd,Nat.reduceEqDiff,reduceIte,reduceCtorEq,Bool.false_eq_true]
  refine K.new fun w1 b hb he1 hc1 => ?_
  have hl1 := SlR.ext Abs.RScalar.ext he1 hl
  have hx := cellsAt_blk hc1
  simp -dsimp only [LL,B9,Nat.reduceAdd,Nat.reduceEqDiff,reduceIte,reduceCtorEq,Bool.false_eq_true]
  refine K.cond (fun h1 => ?_) (fun h1 => ?_)
  · simp -dsimp only [LL,B9,Nat.reduceAdd,Nat.reduceEqDiff,reduceIte,reduceCtorEq,Bool.false_eq_true]
    refine K.call (awake_r w1 (ho.ext he1)) ?_
    rintro _ w2 ⟨rfl, he2⟩
    simp -dsimp only [LL,B9,Nat.reduceAdd,Nat.reduceEqDiff,reduceIte,reduceCtorEq,Bool.false_eq_true]
    exact ⟨trivial, he1.trans he2⟩
  simp -dsimp only [LL,B9,Nat.reduceAdd,Nat.reduceEqDiff,reduceIte,reduceCtorEq,Bool.false_eq_true]
  refine K.ldA hx rfl ?_
  simp -dsimp only [LL,B9,Nat.reduceAdd,Nat.reduceEqDiff,reduceIte,reduceCtorEq,Bool.false_eq_true]
  refine K.call (bounds_r x _ l w1 hl1) ?_
  rintro _ w2 ⟨rfl, he2⟩
  simp -dsimp only [LL,B9,Nat.reduceAdd,Nat.reduceEqDiff,reduceIte,reduceCtorEq,Bool.false_eq_true]
  refine K.ldA (hx.ext he2) rfl ?_
  simp -dsimp only [LL,B9,Nat.reduceAdd,Nat.reduceEqDiff,reduceIte,reduceCtorEq,Bool.false_eq_true]
  have hl2 := SlR.ext Abs.RScalar.ext he2 hl1
  refine K.call (refBounds_r x _ l w2 hl2) ?_
  rintro _ w3 ⟨rfl, he3⟩
  have hl3 := SlR.ext Abs.RScalar.ext he3 hl2
  have he := (he1.trans he2).trans he3
  have hx3 := (hx.ext he2).ext he3
  simp -dsimp only [LL,B9,Nat.reduceAdd,Nat.reduceEqDiff,reduceIte,reduceCtorEq,Bool.false_eq_true]
  refine K.ldA hx3 rfl ?_
  simp -dsimp only [LL,B9,Nat.reduceAdd,Nat.reduceEqDiff,reduceIte,reduceCtorEq,Bool.false_eq_true]
  refine K.qfn _ (fun w' h => cells_r x _ l w' (SlR.ext Abs.RScalar.ext h hl3)) ?_
  simp -dsimp only [LL,B9,Nat.reduceAdd,Nat.reduceEqDiff,reduceIte,reduceCtorEq,Bool.false_eq_true]
  refine K.ldA hx3 rfl ?_
  simp -dsimp only [LL,B9,Nat.reduceAdd,Nat.reduceEqDiff,reduceIte,reduceCtorEq,Bool.false_eq_true]
  refine K.qfn _ (fun w' h => refCells_r x _ l w' (SlR.ext Abs.RScalar.ext h hl3)) ?_
  simp -dsimp only [LL,B9,Nat.reduceAdd,Nat.reduceEqDiff,reduceIte,reduceCtorEq,Bool.false_eq_true]
  refine K.qfn _ (fun w' h => awake_r w' (ho.ext (he.trans h))) ?_
  simp -dsimp only [LL,B9,Nat.reduceAdd,Nat.reduceEqDiff,reduceIte,reduceCtorEq,Bool.false_eq_true]
  intro w4 he4
  exact ⟨trivial, he.trans he4⟩
end Go.Proofs.YtoakjdilnkjcgaaDoor
