/- What the functions of num and the operations of expr compute. -/
import Derived.Test.YteaboocppcbkiaaCode
import Derived.Test.YteaboocppcbkiaaExprP
set_option linter.all false
set_option maxRecDepth 4000
set_option linter.unusedSimpArgs false
set_option maxHeartbeats 2000000
namespace Go.Proofs.Yteaboocppcbkiaa
open Go Go.RowKit Lite

abbrev RInt : World → Addr → Int → Prop := Flat fun n => [Value.int .i64 n]
abbrev Ints (w : World) (v : Value) (l : List Int) : Prop := SlR 1 RInt w v l
theorem Ints.ext {w w' : World} {v : Value} {l : List Int} (he : Ext w w') (h : Ints w v l) : Ints w' v l := SlR.ext Flat.ext he h
theorem Ints.blk {w : World} {b n : Nat} {e : TypeId} {f : Nat × Nat} {xs : List Int} (hb : w.heap[b]? = some (.cells (xs.flatMap fun n => [Value.int .i64 n]).toArray e f)) (hn : n = xs.length) (hm : xs.length ≤ maxLen) : Ints w (.slice (some ⟨b, 0, none⟩) n n) xs :=
  SlR.blk (enc := fun n => [Value.int .i64 n]) (fun _ => rfl) hb hn hm fun _ _ _ h => h
theorem within_r (v : Value) (l : List Int) (w : World) (hl : Ints w v l) : Ret Try.prog F.num_within #[v] w fun v w' => v = .bool (l.all Abs.within) ∧ w' = w := by
  obtain ⟨oa, cap, rfl, hlen⟩ := hl.form
  refine K.start hmix E.num_within (args := [_]) (Nat.le_of_ble_eq_true rfl) ?_
  dsimp only [C.num_within,yt,yi,yb,yp,yr,ye,yc,yv,yg,ym,yw,ya,yl,yx,ys,yn]
  simp -dsimp only [LL,B9,Nat.reduceAdd,Nat.reduceEqDiff,reduceIte,reduceCtorEq,Bool.false_eq_true]
  refine K.for1 7 l.length (fun k S w' => w' = w ∧ (l.take k).all Abs.within = true) (by simp -dsimp only [LL,B9,Nat.reduceAdd,Nat.reduceEqDiff,reduceIte,reduceCtorEq,Bool.false_eq_true]) ⟨rfl, by simp⟩ ?_
  rintro k S w' hS hk h7 ⟨rfl, hall⟩
  have h0 := hS 0 rfl; have h5 := hS 5 rfl; have h6 := hS 6 rfl; simp only [upd_at, Nat.reduceAdd, Nat.reduceEqDiff, reduceIte, fr0_cons, fr0_nil] at h0 h5 h6; clear hS
  simp -dsimp only [LL,B9,Nat.reduceAdd,Nat.reduceEqDiff,reduceIte,reduceCtorEq,Bool.false_eq_true,h0, h5, h6, h7]
  refine K.cond (fun h1 => ?_) (fun h1 => ?_)
  rotate_left
  · simp -dsimp only [LL,B9,Nat.reduceAdd,Nat.reduceEqDiff,reduceIte,reduceCtorEq,Bool.false_eq_true,h0, h5, h6, h7]
    rw [List.take_of_length_le (by omega)] at hall
    rw [hall]; (refine ⟨?_, ?_⟩ <;> first | trivial | rfl | (repeat' first | assumption | exact Ext.refl _ | refine Ext.trans ?_ (by assumption)))
  have hk' : k < l.length := by omega
  obtain ⟨a, rfl⟩ := hl.addr (by omega)
  have hsp : l.take (k + 1) = l.take k ++ [l[k]] := List.take_succ_eq_append_getElem hk'
  have hl2 : l.all Abs.within = ((l.take (k + 1)).all Abs.within && (l.drop (k + 1)).all Abs.within) := by rw [← List.all_append, List.take_append_drop]
  rw [hsp, List.all_append] at hl2
  (repeat' first
 | assumption
 | exact Ext.refl _
 | refine Ext.trans ?_ (by assumption)
 | refine K.wrap (by omega) ?_
 | refine K.ldb (by assumption) ?_ rfl ?_
 | refine K.ldb0 (by assumption) ?_ rfl ?_
 | refine K.ldE (by assumption) ?_ (by omega) rfl ?_
 | refine K.ldE0 (by assumption) ?_ (by omega) rfl ?_
 | refine K.ldAE (by assumption) ?_ (by omega) rfl ?_
 | refine K.iaC (by omega) ?_
 | refine K.condT (by first | assumption | omega) ?_
 | refine K.condF (by first | assumption | omega) ?_
 | refine K.condbT (by assumption) ?_
 | refine K.condbF (by assumption) ?_
 | simp -dsimp only [LL,B9,Nat.reduceAdd,Nat.reduceEqDiff,reduceIte,reduceCtorEq,Bool.false_eq_true,h5, h7])
  generalize l[k] = z at *
  refine K.cond (fun h2 => ?_) (fun h2 => ?_)
  · simp -dsimp only [LL,B9,Nat.reduceAdd,Nat.reduceEqDiff,reduceIte,reduceCtorEq,Bool.false_eq_true]
    rw [hl2]
    refine ⟨?_, trivial⟩
    have : Abs.within z = false := by simp [Abs.within]; omega
    simp [this]
  simp -dsimp only [LL,B9,Nat.reduceAdd,Nat.reduceEqDiff,reduceIte,reduceCtorEq,Bool.false_eq_true]
  refine K.cond (fun h3 => ?_) (fun h3 => ?_)
  · simp -dsimp only [LL,B9,Nat.reduceAdd,Nat.reduceEqDiff,reduceIte,reduceCtorEq,Bool.false_eq_true]
    rw [hl2]
    refine ⟨?_, trivial⟩
    have : Abs.within z = false := by simp [Abs.within]; omega
    simp [this]
  simp -dsimp only [LL,B9,Nat.reduceAdd,Nat.reduceEqDiff,reduceIte,reduceCtorEq,Bool.false_eq_true,h7]
  refine K.wrap (by omega) ?_
  simp -dsimp only [LL,B9,Nat.reduceAdd,Nat.reduceEqDiff,reduceIte,reduceCtorEq,Bool.false_eq_true]
  refine ⟨hk', trivial, trivial, ?_⟩
  rw [hsp]
  simp [hall, Abs.within]; omega
/-- A function of two numbers that gives a number, at any time. -/
def Fn2 (f : FuncId) (g : Int → Int → Int) : Prop := ∀ a b w, (Abs.within a && Abs.within b) = true → Ret Try.prog f #[.int .i64 a, .int .i64 b] w fun v w' => v = .int .i64 (g a b) ∧ w' = w
theorem add1_r : Fn2 F.num_Add_1 (· + ·) := by
  intro a b w h
  simp [Abs.within] at h
  refine K.start hmix E.num_Add_1 (args := [_, _]) (Nat.le_of_ble_eq_true rfl) ?_
  dsimp only [C.num_Add_1,yt,yi,yb,yp,yr,ye,yc,yv,yg,ym,yw,ya,yl,yx,ys,yn]
  (repeat' first
 | assumption
 | exact Ext.refl _
 | refine Ext.trans ?_ (by assumption)
 | refine K.wrap (by omega) ?_
 | refine K.ldb (by assumption) ?_ rfl ?_
 | refine K.ldb0 (by assumption) ?_ rfl ?_
 | refine K.ldE (by assumption) ?_ (by omega) rfl ?_
 | refine K.ldE0 (by assumption) ?_ (by omega) rfl ?_
 | refine K.ldAE (by assumption) ?_ (by omega) rfl ?_
 | refine K.iaC (by omega) ?_
 | refine K.condT (by first | assumption | omega) ?_
 | refine K.condF (by first | assumption | omega) ?_
 | refine K.condbT (by assumption) ?_
 | refine K.condbF (by assumption) ?_
 | simp -dsimp only [LL,B9,Nat.reduceAdd,Nat.reduceEqDiff,reduceIte,reduceCtorEq,Bool.false_eq_true])
  (refine ⟨?_, ?_⟩ <;> first | trivial | rfl | (repeat' first | assumption | exact Ext.refl _ | refine Ext.trans ?_ (by assumption)))
theorem sub1_r : Fn2 F.num_Sub_1 (· - ·) := by
  intro a b w h
  simp [Abs.within] at h
  refine K.start hmix E.num_Sub_1 (args := [_, _]) (Nat.le_of_ble_eq_true rfl) ?_
  dsimp only [C.num_Sub_1,yt,yi,yb,yp,yr,ye,yc,yv,yg,ym,yw,ya,yl,yx,ys,yn]
  (repeat' first
 | assumption
 | exact Ext.refl _
 | refine Ext.trans ?_ (by assumption)
 | refine K.wrap (by omega) ?_
 | refine K.ldb (by assumption) ?_ rfl ?_
 | refine K.ldb0 (by assumption) ?_ rfl ?_
 | refine K.ldE (by assumption) ?_ (by omega) rfl ?_
 | refine K.ldE0 (by assumption) ?_ (by omega) rfl ?_
 | refine K.ldAE (by assumption) ?_ (by omega) rfl ?_
 | refine K.iaC (by omega) ?_
 | refine K.condT (by first | assumption | omega) ?_
 | refine K.condF (by first | assumption | omega) ?_
 | refine K.condbT (by assumption) ?_
 | refine K.condbF (by assumption) ?_
 | simp -dsimp only [LL,B9,Nat.reduceAdd,Nat.reduceEqDiff,reduceIte,reduceCtorEq,Bool.false_eq_true])
  (refine ⟨?_, ?_⟩ <;> first | trivial | rfl | (repeat' first | assumption | exact Ext.refl _ | refine Ext.trans ?_ (by assumption)))
theorem mul_in {a b : Int} (ha : -1048576 ≤ a ∧ a ≤ 1048576) (hb : -1048576 ≤ b ∧ b ≤ 1048576) : -1099511627776 ≤ a * b ∧ a * b ≤ 1099511627776 := by
  have h : (a * b).natAbs ≤ 1048576 * 1048576 := by
    rw [Int.natAbs_mul]; exact Nat.mul_le_mul (by omega) (by omega)
  omega
theorem mul1_r : Fn2 F.num_Mul_1 (· * ·) := by
  intro a b w h
  simp [Abs.within] at h
  have hm := mul_in h.1 h.2
  refine K.start hmix E.num_Mul_1 (args := [_, _]) (Nat.le_of_ble_eq_true rfl) ?_
  dsimp only [C.num_Mul_1,yt,yi,yb,yp,yr,ye,yc,yv,yg,ym,yw,ya,yl,yx,ys,yn]
  (repeat' first
 | assumption
 | exact Ext.refl _
 | refine Ext.trans ?_ (by assumption)
 | refine K.wrap (by omega) ?_
 | refine K.ldb (by assumption) ?_ rfl ?_
 | refine K.ldb0 (by assumption) ?_ rfl ?_
 | refine K.ldE (by assumption) ?_ (by omega) rfl ?_
 | refine K.ldE0 (by assumption) ?_ (by omega) rfl ?_
 | refine K.ldAE (by assumption) ?_ (by omega) rfl ?_
 | refine K.iaC (by omega) ?_
 | refine K.condT (by first | assumption | omega) ?_
 | refine K.condF (by first | assumption | omega) ?_
 | refine K.condbT (by assumption) ?_
 | refine K.condbF (by assumption) ?_
 | simp -dsimp only [LL,B9,Nat.reduceAdd,Nat.reduceEqDiff,reduceIte,reduceCtorEq,Bool.false_eq_true])
  (refine ⟨?_, ?_⟩ <;> first | trivial | rfl | (repeat' first | assumption | exact Ext.refl _ | refine Ext.trans ?_ (by assumption)))
theorem tell_r (f : FuncId) (g : Int → Int → Int) (hf : okF Try.prog f = true) (hg : Fn2 f g) (a b : Int) (w : World) :
    Ret Try.prog F.num_op_tell #[.agg #[.func (.func f) #[] #[]], .int .i64 a, .int .i64 b] w fun v w' => v = .tuple #[.int .i64 (Abs.tell g a b).1, .bool (Abs.tell g a b).2] ∧ Ext w w' := by
  refine K.start hmix E.num_op_tell (args := [_, _, _]) (Nat.le_of_ble_eq_true rfl) ?_
  dsimp only [C.num_op_tell,yt,yi,yb,yp,yr,ye,yc,yv,yg,ym,yw,ya,yl,yx,ys,yn]
  simp -dsimp only [LL,B9,Nat.reduceAdd,Nat.reduceEqDiff,reduceIte,reduceCtorEq,Bool.false_eq_true]
  refine K.new fun w1 p hp he1 hc1 => ?_
  simp -dsimp only [LL,B9,Nat.reduceAdd,Nat.reduceEqDiff,reduceIte,reduceCtorEq,Bool.false_eq_true]
  refine K.bldSa (cs := [a, b].flatMap fun n => [Value.int .i64 n]) (by simp [List.range, List.range.loop, fillC, lay, ev_tmp, upd_at, fr0_cons, Value.cells]) fun w2 q hq he2 hc2 => ?_
  simp -dsimp only [LL,B9,Nat.reduceAdd,Nat.reduceEqDiff,reduceIte,reduceCtorEq,Bool.false_eq_true]
  refine K.call (within_r _ [a, b] w2 (Ints.blk hc2 rfl (by simp [maxLen]))) ?_
  rintro _ _ ⟨rfl, rfl⟩
  simp -dsimp only [LL,B9,Nat.reduceAdd,Nat.reduceEqDiff,reduceIte,reduceCtorEq,Bool.false_eq_true]
  refine K.condb (fun h1 => ?_) (fun h1 => ?_)
  rotate_left
  · simp -dsimp only [LL,B9,Nat.reduceAdd,Nat.reduceEqDiff,reduceIte,reduceCtorEq,Bool.false_eq_true]
    have : (Abs.within a && Abs.within b) = false := by simpa using h1
    refine ⟨?_, by (repeat' first | assumption | exact Ext.refl _ | refine Ext.trans ?_ (by assumption))⟩
    simp [Abs.tell, this]
  have hab : (Abs.within a && Abs.within b) = true := by simpa using h1
  (repeat' first
 | assumption
 | exact Ext.refl _
 | refine Ext.trans ?_ (by assumption)
 | refine K.wrap (by omega) ?_
 | refine K.ldb (by assumption) ?_ rfl ?_
 | refine K.ldb0 (by assumption) ?_ rfl ?_
 | refine K.ldE (by assumption) ?_ (by omega) rfl ?_
 | refine K.ldE0 (by assumption) ?_ (by omega) rfl ?_
 | refine K.ldAE (by assumption) ?_ (by omega) rfl ?_
 | refine K.iaC (by omega) ?_
 | refine K.condT (by first | assumption | omega) ?_
 | refine K.condF (by first | assumption | omega) ?_
 | refine K.condbT (by assumption) ?_
 | refine K.condbF (by assumption) ?_
 | simp -dsimp only [LL,B9,Nat.reduceAdd,Nat.reduceEqDiff,reduceIte,reduceCtorEq,Bool.false_eq_true])
  refine K.callV (first := []) (cap := []) hf (hg a b _ hab) ?_
  rintro _ _ ⟨rfl, rfl⟩
  simp -dsimp only [LL,B9,Nat.reduceAdd,Nat.reduceEqDiff,reduceIte,reduceCtorEq,Bool.false_eq_true]
  refine K.bldSa (cs := [g a b].flatMap fun n => [Value.int .i64 n]) (by simp [List.range, List.range.loop, fillC, lay, ev_tmp, upd_at, fr0_cons, Value.cells]) fun w3 q3 hq3 he3 hc3 => ?_
  simp -dsimp only [LL,B9,Nat.reduceAdd,Nat.reduceEqDiff,reduceIte,reduceCtorEq,Bool.false_eq_true]
  refine K.call (within_r _ [g a b] w3 (Ints.blk hc3 rfl (by simp [maxLen]))) ?_
  rintro _ _ ⟨rfl, rfl⟩
  simp -dsimp only [LL,B9,Nat.reduceAdd,Nat.reduceEqDiff,reduceIte,reduceCtorEq,Bool.false_eq_true]
  refine K.condb (fun h2 => ?_) (fun h2 => ?_)
  · simp -dsimp only [LL,B9,Nat.reduceAdd,Nat.reduceEqDiff,reduceIte,reduceCtorEq,Bool.false_eq_true]
    have : Abs.within (g a b) = true := by simpa using h2
    refine ⟨?_, by (repeat' first | assumption | exact Ext.refl _ | refine Ext.trans ?_ (by assumption))⟩
    simp [Abs.tell, hab, this]
  · simp -dsimp only [LL,B9,Nat.reduceAdd,Nat.reduceEqDiff,reduceIte,reduceCtorEq,Bool.false_eq_true]
    have : Abs.within (g a b) = false := by simpa using h2
    refine ⟨?_, by (repeat' first | assumption | exact Ext.refl _ | refine Ext.trans ?_ (by assumption))⟩
    simp [Abs.tell, this]
/-- A function of two numbers that gives a number, or none, at any time. -/
def Fn2b (f : FuncId) (g : Int → Int → Int × Bool) : Prop := ∀ a b w, Ret Try.prog f #[.int .i64 a, .int .i64 b] w fun v w' => v = .tuple #[.int .i64 (g a b).1, .bool (g a b).2] ∧ Ext w w'
theorem add_r : Fn2b F.num_Add (Abs.tell (· + ·)) := by
  intro a b w
  refine K.start hmix E.num_Add (args := [_, _]) (Nat.le_of_ble_eq_true rfl) ?_
  dsimp only [C.num_Add,yt,yi,yb,yp,yr,ye,yc,yv,yg,ym,yw,ya,yl,yx,ys,yn]
  simp -dsimp only [LL,B9,Nat.reduceAdd,Nat.reduceEqDiff,reduceIte,reduceCtorEq,Bool.false_eq_true]
  refine K.bld (cs := [.func (.func F.num_Add_1) #[] #[]]) (by simp [fillC, lay, ev_func, Value.cells]) ?_
  simp -dsimp only [LL,B9,Nat.reduceAdd,Nat.reduceEqDiff,reduceIte,reduceCtorEq,Bool.false_eq_true]
  refine K.call (tell_r _ _ (by kernel_rfl) add1_r a b w) ?_
  rintro _ w1 ⟨rfl, he⟩
  simp -dsimp only [LL,B9,Nat.reduceAdd,Nat.reduceEqDiff,reduceIte,reduceCtorEq,Bool.false_eq_true]
  (refine ⟨?_, ?_⟩ <;> first | trivial | rfl | (repeat' first | assumption | exact Ext.refl _ | refine Ext.trans ?_ (by assumption)))
theorem sub_r : Fn2b F.num_Sub (Abs.tell (· - ·)) := by
  intro a b w
  refine K.start hmix E.num_Sub (args := [_, _]) (Nat.le_of_ble_eq_true rfl) ?_
  dsimp only [C.num_Sub,yt,yi,yb,yp,yr,ye,yc,yv,yg,ym,yw,ya,yl,yx,ys,yn]
  simp -dsimp only [LL,B9,Nat.reduceAdd,Nat.reduceEqDiff,reduceIte,reduceCtorEq,Bool.false_eq_true]
  refine K.bld (cs := [.func (.func F.num_Sub_1) #[] #[]]) (by simp [fillC, lay, ev_func, Value.cells]) ?_
  simp -dsimp only [LL,B9,Nat.reduceAdd,Nat.reduceEqDiff,reduceIte,reduceCtorEq,Bool.false_eq_true]
  refine K.call (tell_r _ _ (by kernel_rfl) sub1_r a b w) ?_
  rintro _ w1 ⟨rfl, he⟩
  simp -dsimp only [LL,B9,Nat.reduceAdd,Nat.reduceEqDiff,reduceIte,reduceCtorEq,Bool.false_eq_true]
  (refine ⟨?_, ?_⟩ <;> first | trivial | rfl | (repeat' first | assumption | exact Ext.refl _ | refine Ext.trans ?_ (by assumption)))
theorem mul_r : Fn2b F.num_Mul (Abs.tell (· * ·)) := by
  intro a b w
  refine K.start hmix E.num_Mul (args := [_, _]) (Nat.le_of_ble_eq_true rfl) ?_
  dsimp only [C.num_Mul,yt,yi,yb,yp,yr,ye,yc,yv,yg,ym,yw,ya,yl,yx,ys,yn]
  simp -dsimp only [LL,B9,Nat.reduceAdd,Nat.reduceEqDiff,reduceIte,reduceCtorEq,Bool.false_eq_true]
  refine K.bld (cs := [.func (.func F.num_Mul_1) #[] #[]]) (by simp [fillC, lay, ev_func, Value.cells]) ?_
  simp -dsimp only [LL,B9,Nat.reduceAdd,Nat.reduceEqDiff,reduceIte,reduceCtorEq,Bool.false_eq_true]
  refine K.call (tell_r _ _ (by kernel_rfl) mul1_r a b w) ?_
  rintro _ w1 ⟨rfl, he⟩
  simp -dsimp only [LL,B9,Nat.reduceAdd,Nat.reduceEqDiff,reduceIte,reduceCtorEq,Bool.false_eq_true]
  (refine ⟨?_, ?_⟩ <;> first | trivial | rfl | (repeat' first | assumption | exact Ext.refl _ | refine Ext.trans ?_ (by assumption)))
theorem bit_r (b : Bool) (w : World) : Ret Try.prog F.expr_bit #[.bool b] w fun v w' => v = .int .i64 (Abs.bit b) ∧ w' = w := by
  refine K.start hmix E.expr_bit (args := [_]) (Nat.le_of_ble_eq_true rfl) ?_
  dsimp only [C.expr_bit,yt,yi,yb,yp,yr,ye,yc,yv,yg,ym,yw,ya,yl,yx,ys,yn]
  simp -dsimp only [LL,B9,Nat.reduceAdd,Nat.reduceEqDiff,reduceIte,reduceCtorEq,Bool.false_eq_true]
  refine K.condb (fun h => ?_) (fun h => ?_)
  all_goals
    subst h
    simp -dsimp only [LL,B9,Nat.reduceAdd,Nat.reduceEqDiff,reduceIte,reduceCtorEq,Bool.false_eq_true]
    (refine ⟨?_, ?_⟩ <;> first | trivial | rfl | (repeat' first | assumption | exact Ext.refl _ | refine Ext.trans ?_ (by assumption)))
theorem ops1_r : Fn2b F.expr_ops_1 fun a _ => (Abs.bit (decide (a = 0)), true) := by
  intro a b w
  refine K.start hmix E.expr_ops_1 (args := [_, _]) (Nat.le_of_ble_eq_true rfl) ?_
  dsimp only [C.expr_ops_1,yt,yi,yb,yp,yr,ye,yc,yv,yg,ym,yw,ya,yl,yx,ys,yn]
  simp -dsimp only [LL,B9,Nat.reduceAdd,Nat.reduceEqDiff,reduceIte,reduceCtorEq,Bool.false_eq_true]
  refine K.call (bit_r _ w) ?_
  rintro _ _ ⟨rfl, rfl⟩
  simp -dsimp only [LL,B9,Nat.reduceAdd,Nat.reduceEqDiff,reduceIte,reduceCtorEq,Bool.false_eq_true]
  (refine ⟨?_, ?_⟩ <;> first | trivial | rfl | (repeat' first | assumption | exact Ext.refl _ | refine Ext.trans ?_ (by assumption)))
theorem ops2_r : Fn2b F.expr_ops_2 fun a _ => Abs.tell (· - ·) 0 a := by
  intro a b w
  refine K.start hmix E.expr_ops_2 (args := [_, _]) (Nat.le_of_ble_eq_true rfl) ?_
  dsimp only [C.expr_ops_2,yt,yi,yb,yp,yr,ye,yc,yv,yg,ym,yw,ya,yl,yx,ys,yn]
  simp -dsimp only [LL,B9,Nat.reduceAdd,Nat.reduceEqDiff,reduceIte,reduceCtorEq,Bool.false_eq_true]
  refine K.call (sub_r 0 a w) ?_
  rintro _ w1 ⟨rfl, he⟩
  simp -dsimp only [LL,B9,Nat.reduceAdd,Nat.reduceEqDiff,reduceIte,reduceCtorEq,Bool.false_eq_true]
  (refine ⟨?_, ?_⟩ <;> first | trivial | rfl | (repeat' first | assumption | exact Ext.refl _ | refine Ext.trans ?_ (by assumption)))
/-- A test of two numbers, at any time. -/
def FnB (f : FuncId) (p : Int → Int → Bool) : Prop := ∀ a b w, Ret Try.prog f #[.int .i64 a, .int .i64 b] w fun v w' => v = .bool (p a b) ∧ w' = w
theorem ops3_r : FnB F.expr_ops_3 fun a b => decide (a = b) := by
  intro a b w
  refine K.start hmix E.expr_ops_3 (args := [_, _]) (Nat.le_of_ble_eq_true rfl) ?_
  dsimp only [C.expr_ops_3,yt,yi,yb,yp,yr,ye,yc,yv,yg,ym,yw,ya,yl,yx,ys,yn]
  simp -dsimp only [LL,B9,Nat.reduceAdd,Nat.reduceEqDiff,reduceIte,reduceCtorEq,Bool.false_eq_true]
  (refine ⟨?_, ?_⟩ <;> first | trivial | rfl | (repeat' first | assumption | exact Ext.refl _ | refine Ext.trans ?_ (by assumption)))
theorem ops4_r : FnB F.expr_ops_4 fun a b => !decide (a = b) := by
  intro a b w
  refine K.start hmix E.expr_ops_4 (args := [_, _]) (Nat.le_of_ble_eq_true rfl) ?_
  dsimp only [C.expr_ops_4,yt,yi,yb,yp,yr,ye,yc,yv,yg,ym,yw,ya,yl,yx,ys,yn]
  simp -dsimp only [LL,B9,Nat.reduceAdd,Nat.reduceEqDiff,reduceIte,reduceCtorEq,Bool.false_eq_true]
  (refine ⟨?_, ?_⟩ <;> first | trivial | rfl | (repeat' first | assumption | exact Ext.refl _ | refine Ext.trans ?_ (by assumption)))
theorem ops5_r : FnB F.expr_ops_5 fun a b => decide (a < b) := by
  intro a b w
  refine K.start hmix E.expr_ops_5 (args := [_, _]) (Nat.le_of_ble_eq_true rfl) ?_
  dsimp only [C.expr_ops_5,yt,yi,yb,yp,yr,ye,yc,yv,yg,ym,yw,ya,yl,yx,ys,yn]
  simp -dsimp only [LL,B9,Nat.reduceAdd,Nat.reduceEqDiff,reduceIte,reduceCtorEq,Bool.false_eq_true]
  (refine ⟨?_, ?_⟩ <;> first | trivial | rfl | (repeat' first | assumption | exact Ext.refl _ | refine Ext.trans ?_ (by assumption)))
theorem ops6_r : FnB F.expr_ops_6 fun a b => decide (a ≤ b) := by
  intro a b w
  refine K.start hmix E.expr_ops_6 (args := [_, _]) (Nat.le_of_ble_eq_true rfl) ?_
  dsimp only [C.expr_ops_6,yt,yi,yb,yp,yr,ye,yc,yv,yg,ym,yw,ya,yl,yx,ys,yn]
  simp -dsimp only [LL,B9,Nat.reduceAdd,Nat.reduceEqDiff,reduceIte,reduceCtorEq,Bool.false_eq_true]
  (refine ⟨?_, ?_⟩ <;> first | trivial | rfl | (repeat' first | assumption | exact Ext.refl _ | refine Ext.trans ?_ (by assumption)))
theorem ops7_r : FnB F.expr_ops_7 fun a b => !decide (a = 0) && !decide (b = 0) := by
  intro a b w
  refine K.start hmix E.expr_ops_7 (args := [_, _]) (Nat.le_of_ble_eq_true rfl) ?_
  dsimp only [C.expr_ops_7,yt,yi,yb,yp,yr,ye,yc,yv,yg,ym,yw,ya,yl,yx,ys,yn]
  simp -dsimp only [LL,B9,Nat.reduceAdd,Nat.reduceEqDiff,reduceIte,reduceCtorEq,Bool.false_eq_true]
  refine K.cond (fun h => ?_) (fun h => ?_)
  all_goals
    simp -dsimp only [LL,B9,Nat.reduceAdd,Nat.reduceEqDiff,reduceIte,reduceCtorEq,Bool.false_eq_true]
    exact ⟨by simp [h], trivial⟩
theorem ops8_r : FnB F.expr_ops_8 fun a b => !decide (a = 0) || !decide (b = 0) := by
  intro a b w
  refine K.start hmix E.expr_ops_8 (args := [_, _]) (Nat.le_of_ble_eq_true rfl) ?_
  dsimp only [C.expr_ops_8,yt,yi,yb,yp,yr,ye,yc,yv,yg,ym,yw,ya,yl,yx,ys,yn]
  simp -dsimp only [LL,B9,Nat.reduceAdd,Nat.reduceEqDiff,reduceIte,reduceCtorEq,Bool.false_eq_true]
  refine K.cond (fun h => ?_) (fun h => ?_)
  all_goals
    simp -dsimp only [LL,B9,Nat.reduceAdd,Nat.reduceEqDiff,reduceIte,reduceCtorEq,Bool.false_eq_true]
    exact ⟨by simp [h], trivial⟩
end Go.Proofs.Yteaboocppcbkiaa
