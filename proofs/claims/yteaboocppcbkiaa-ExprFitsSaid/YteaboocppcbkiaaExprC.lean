/- What the leaves of expressions are: kinds. -/
import Derived.Test.YteaboocppcbkiaaExprB
set_option linter.all false
set_option maxRecDepth 4000
set_option linter.unusedSimpArgs false
set_option maxHeartbeats 4000000
namespace Abs
open Go Go.RowKit Lite
/-- The six cells of a scope. -/
structure ScopeIs (w : World) (cs : List Value) (s : Scope) : Prop where
  sm : s.vars.length ≤ 1152921504606846976 ∧ s.chans.length ≤ 1152921504606846976 ∧ s.procs.length ≤ 1152921504606846976 ∧ s.locals.length ≤ 1152921504606846976 ∧ inI s.self
  ex : ∃ v0 v1 v2 v3 v4, cs = [v0, v1, v2, v3, v4, .int .i64 s.self] ∧ Scalars w v0 s.scalars ∧ Vars w v1 s.vars ∧ Chans w v2 s.chans ∧ Procs w v3 s.procs ∧ Vars w v4 s.locals ∧ s.scalars.length ≤ 4611686018427387904
theorem ScopeIs.ext {w w' : World} {cs : List Value} {s : Scope} (he : Ext w w') (h : ScopeIs w cs s) : ScopeIs w' cs s :=
  let ⟨v0, v1, v2, v3, v4, e, h0, h1, h2, h3, h4, h5⟩ := h.ex
  ⟨h.sm, v0, v1, v2, v3, v4, e, h0.ext he, h1.ext he, h2.ext he, h3.ext he, h4.ext he, h5⟩
/-- The slots of a scope, written out. -/
theorem ScopeIs.form {w : World} {cs : List Value} {s : Scope} (h : ScopeIs w cs s) : ∃ a0 c0 a1 c1 a2 c2 a3 c3 a4 c4, cs = [.slice a0 s.scalars.length c0, .slice a1 s.vars.length c1, .slice a2 s.chans.length c2, .slice a3 s.procs.length c3, .slice a4 s.locals.length c4, .int .i64 s.self] ∧
    Scalars w (.slice a0 s.scalars.length c0) s.scalars ∧ Vars w (.slice a1 s.vars.length c1) s.vars ∧ Chans w (.slice a2 s.chans.length c2) s.chans ∧ Procs w (.slice a3 s.procs.length c3) s.procs ∧ Vars w (.slice a4 s.locals.length c4) s.locals ∧
    s.scalars.length ≤ 4611686018427387904 ∧ s.vars.length ≤ 9223372036854775807 ∧ s.chans.length ≤ 9223372036854775807 ∧ s.procs.length ≤ 9223372036854775807 ∧ s.locals.length ≤ 9223372036854775807 := by
  obtain ⟨v0, v1, v2, v3, v4, rfl, h0, h1, h2, h3, h4, h5⟩ := h.ex
  obtain ⟨a0, c0, rfl, _⟩ := h0.form
  obtain ⟨a1, c1, rfl, l1⟩ := h1.form
  obtain ⟨a2, c2, rfl, l2⟩ := h2.form
  obtain ⟨a3, c3, rfl, l3⟩ := h3.form
  obtain ⟨a4, c4, rfl, l4⟩ := h4.form
  exact ⟨a0, c0, a1, c1, a2, c2, a3, c3, a4, c4, rfl, h0, h1, h2, h3, h4, h5, l1, l2, l3, l4⟩
end Abs
namespace Go.Proofs.Yteaboocppcbkiaa
open Go Go.RowKit Lite

theorem scalar_r (n : Int) (cs : List Value) (s : Abs.Scope) (w : World) (h : Abs.ScopeIs w cs s) :
    Ret Try.prog F.expr_scalar #[.int .i64 n, .agg cs.toArray] w fun v w' => v = .tuple #[.int .i64 (Abs.kscalar n s).1, .bool (Abs.kscalar n s).2] ∧ Ext w w' := by
  obtain ⟨a0, c0, a1, c1, a2, c2, a3, c3, a4, c4, rfl, h0, h1, h2, h3, h4, l0, l1, l2, l3, l4⟩ := h.form
  refine K.start hmix E.expr_scalar (args := [_, _]) (Nat.le_of_ble_eq_true rfl) ?_
  dsimp only [C.expr_scalar,yt,yi,yb,yp,yr,ye,yc,yv,yg,ym,yw,ya,yl,yx,ys,yn]
  simp -dsimp only [LL,B9,Nat.reduceAdd,Nat.reduceEqDiff,reduceIte,reduceCtorEq,Bool.false_eq_true]
  refine K.new fun w1 b hb he1 hc1 => ?_
  (repeat' first
 | (refine K.cond (fun _ => ?_) (fun _ => ?_) <;> try (exfalso; omega))
 | (refine K.condb (fun _ => ?_) (fun _ => ?_))
 | assumption
 | exact Ext.refl _
 | refine Ext.trans ?_ (by assumption)
 | refine K.wrap (by omega) ?_
 | refine K.ldb (by assumption) ?_ rfl ?_
 | refine K.ldb0 (by assumption) ?_ rfl ?_
 | refine K.ldE (by assumption) ?_ (by omega) rfl ?_
 | refine K.ldE0 (by assumption) ?_ (by omega) rfl ?_
 | refine K.ldAE (by assumption) ?_ (by omega) rfl ?_
 | refine K.iaC (by omega) ?_
 | refine K.condT (by first | assumption | omega) ?_
 | refine K.condF (by first | assumption | omega) ?_
 | refine K.condbT (by assumption) ?_
 | refine K.condbF (by assumption) ?_
 | simp -dsimp only [LL,B9,Nat.reduceAdd,Nat.reduceEqDiff,reduceIte,reduceCtorEq,Bool.false_eq_true])
  all_goals
    refine ⟨?_, by (repeat' first | assumption | exact Ext.refl _ | refine Ext.trans ?_ (by assumption))⟩
    unfold Abs.kscalar
    (repeat' split) <;> first | rfl | (exfalso; omega)
theorem variable_r (v : Value) (l : List Abs.Var) (n : Int) (cs : List Value) (s : Abs.Scope) (w : World) (hl : Abs.Vars w v l) (h : Abs.ScopeIs w cs s) :
    Ret Try.prog F.expr_variable #[v, .int .i64 n, .agg cs.toArray] w fun v w' => v = .tuple #[.int .i64 (Abs.kvar l n s).1, .int .i64 (Abs.kvar l n s).2.1, .bool (Abs.kvar l n s).2.2] ∧ Ext w w' := by
  obtain ⟨a0, c0, a1, c1, a2, c2, a3, c3, a4, c4, rfl, _⟩ := h.form
  obtain ⟨oa, cap, rfl, hlen⟩ := hl.form
  refine K.start hmix E.expr_variable (args := [_, _, _]) (Nat.le_of_ble_eq_true rfl) ?_
  dsimp only [C.expr_variable,yt,yi,yb,yp,yr,ye,yc,yv,yg,ym,yw,ya,yl,yx,ys,yn]
  simp -dsimp only [LL,B9,Nat.reduceAdd,Nat.reduceEqDiff,reduceIte,reduceCtorEq,Bool.false_eq_true]
  refine K.new fun w1 b hb he1 hc1 => ?_
  simp -dsimp only [LL,B9,Nat.reduceAdd,Nat.reduceEqDiff,reduceIte,reduceCtorEq,Bool.false_eq_true]
  refine K.cond (fun g1 => ?_) (fun g1 => ?_)
  · simp -dsimp only [LL,B9,Nat.reduceAdd,Nat.reduceEqDiff,reduceIte,reduceCtorEq,Bool.false_eq_true]
    rw [Abs.kvar, Abs.nth_none (.inl g1)]
    (refine ⟨?_, ?_⟩ <;> first | trivial | rfl | (repeat' first | assumption | exact Ext.refl _ | refine Ext.trans ?_ (by assumption)))
  simp -dsimp only [LL,B9,Nat.reduceAdd,Nat.reduceEqDiff,reduceIte,reduceCtorEq,Bool.false_eq_true]
  refine K.cond (fun g2 => ?_) (fun g2 => ?_)
  · simp -dsimp only [LL,B9,Nat.reduceAdd,Nat.reduceEqDiff,reduceIte,reduceCtorEq,Bool.false_eq_true]
    rw [Abs.kvar, Abs.nth_none (.inr (by omega))]
    (refine ⟨?_, ?_⟩ <;> first | trivial | rfl | (repeat' first | assumption | exact Ext.refl _ | refine Ext.trans ?_ (by assumption)))
  simp -dsimp only [LL,B9,Nat.reduceAdd,Nat.reduceEqDiff,reduceIte,reduceCtorEq,Bool.false_eq_true]
  obtain ⟨i, rfl⟩ := Int.eq_ofNat_of_zero_le (show 0 ≤ n by omega)
  have hi : i < l.length := by omega
  rw [Abs.kvar, Abs.nth_some (by omega) (by omega)]
  simp only [Int.toNat_natCast]
  obtain ⟨a, rfl⟩ := hl.addr (by omega)
  (repeat' first
 | assumption
 | exact Ext.refl _
 | refine Ext.trans ?_ (by assumption)
 | refine K.wrap (by omega) ?_
 | refine K.ldb (by assumption) ?_ rfl ?_
 | refine K.ldb0 (by assumption) ?_ rfl ?_
 | refine K.ldE (by assumption) ?_ (by omega) rfl ?_
 | refine K.ldE0 (by assumption) ?_ (by omega) rfl ?_
 | refine K.ldAE (by assumption) ?_ (by omega) rfl ?_
 | refine K.iaC (by omega) ?_
 | refine K.condT (by first | assumption | omega) ?_
 | refine K.condF (by first | assumption | omega) ?_
 | refine K.condbT (by assumption) ?_
 | refine K.condbF (by assumption) ?_
 | simp -dsimp only [LL,B9,Nat.reduceAdd,Nat.reduceEqDiff,reduceIte,reduceCtorEq,Bool.false_eq_true])
  refine K.ldAb (c := [_, _, _, _, _, _]) hc1 (Ext.refl _) rfl ?_
  simp -dsimp only [LL,B9,Nat.reduceAdd,Nat.reduceEqDiff,reduceIte,reduceCtorEq,Bool.false_eq_true]
  refine K.qfn _ (fun w' e => scalar_r _ _ s w' (h.ext (he1.trans e))) ?_
  simp -dsimp only [LL,B9,Nat.reduceAdd,Nat.reduceEqDiff,reduceIte,reduceCtorEq,Bool.false_eq_true]
  intro w2 he2
  (repeat' first
 | assumption
 | exact Ext.refl _
 | refine Ext.trans ?_ (by assumption)
 | refine K.wrap (by omega) ?_
 | refine K.ldb (by assumption) ?_ rfl ?_
 | refine K.ldb0 (by assumption) ?_ rfl ?_
 | refine K.ldE (by assumption) ?_ (by omega) rfl ?_
 | refine K.ldE0 (by assumption) ?_ (by omega) rfl ?_
 | refine K.ldAE (by assumption) ?_ (by omega) rfl ?_
 | refine K.iaC (by omega) ?_
 | refine K.condT (by first | assumption | omega) ?_
 | refine K.condF (by first | assumption | omega) ?_
 | refine K.condbT (by assumption) ?_
 | refine K.condbF (by assumption) ?_
 | simp -dsimp only [LL,B9,Nat.reduceAdd,Nat.reduceEqDiff,reduceIte,reduceCtorEq,Bool.false_eq_true])
  refine K.ldAb (c := [_, _, _, _, _, _]) hc1 he2 rfl ?_
  simp -dsimp only [LL,B9,Nat.reduceAdd,Nat.reduceEqDiff,reduceIte,reduceCtorEq,Bool.false_eq_true]
  refine K.qfn _ (fun w' e => scalar_r _ _ s w' (h.ext ((he1.trans he2).trans e))) ?_
  simp -dsimp only [LL,B9,Nat.reduceAdd,Nat.reduceEqDiff,reduceIte,reduceCtorEq,Bool.false_eq_true]
  intro w3 he3
  (repeat' first
 | assumption
 | exact Ext.refl _
 | refine Ext.trans ?_ (by assumption)
 | refine K.wrap (by omega) ?_
 | refine K.ldb (by assumption) ?_ rfl ?_
 | refine K.ldb0 (by assumption) ?_ rfl ?_
 | refine K.ldE (by assumption) ?_ (by omega) rfl ?_
 | refine K.ldE0 (by assumption) ?_ (by omega) rfl ?_
 | refine K.ldAE (by assumption) ?_ (by omega) rfl ?_
 | refine K.iaC (by omega) ?_
 | refine K.condT (by first | assumption | omega) ?_
 | refine K.condF (by first | assumption | omega) ?_
 | refine K.condbT (by assumption) ?_
 | refine K.condbF (by assumption) ?_
 | simp -dsimp only [LL,B9,Nat.reduceAdd,Nat.reduceEqDiff,reduceIte,reduceCtorEq,Bool.false_eq_true])
  refine K.condb (fun g3 => ?_) (fun g3 => ?_)
  all_goals
    simp -dsimp only [LL,B9,Nat.reduceAdd,Nat.reduceEqDiff,reduceIte,reduceCtorEq,Bool.false_eq_true]
    refine ⟨?_, by (repeat' first | assumption | exact Ext.refl _ | refine Ext.trans ?_ (by assumption))⟩
    simp [g3]
theorem knamed_r (x : Abs.Node) (cs : List Value) (s : Abs.Scope) (w : World) (hx : x.ok) (h : Abs.ScopeIs w cs s) :
    Ret Try.prog F.expr_named #[.agg x.enc.toArray, .agg cs.toArray] w fun v w' => v = .tuple #[.int .i64 (Abs.knamed x s).1, .int .i64 (Abs.knamed x s).2] ∧ Ext w w' := by
  obtain ⟨a0, c0, a1, c1, a2, c2, a3, c3, a4, c4, rfl, h0, h1, h2, h3, h4, l0, l1, l2, l3, l4⟩ := h.form
  refine K.start hmix E.expr_named (args := [_, _]) (Nat.le_of_ble_eq_true rfl) ?_
  dsimp only [C.expr_named,yt,yi,yb,yp,yr,ye,yc,yv,yg,ym,yw,ya,yl,yx,ys,yn]
  simp -dsimp only [LL,B9,Nat.reduceAdd,Nat.reduceEqDiff,reduceIte,reduceCtorEq,Bool.false_eq_true]
  refine K.new fun w1 b1 hb1 he1 hc1 => ?_
  simp -dsimp only [LL,B9,Nat.reduceAdd,Nat.reduceEqDiff,reduceIte,reduceCtorEq,Bool.false_eq_true]
  refine K.new fun w2 b2 hb2 he2 hc2 => ?_
  have k1 : w2.heap[b1]? = some (.cells #[.int .i64 x.op, .int .i64 x.n] T.api_Node) := he2.obj hc1
  clear hc1
  (repeat' first
 | assumption
 | exact Ext.refl _
 | refine Ext.trans ?_ (by assumption)
 | refine K.wrap (by omega) ?_
 | refine K.ldb (by assumption) ?_ rfl ?_
 | refine K.ldb0 (by assumption) ?_ rfl ?_
 | refine K.ldE (by assumption) ?_ (by omega) rfl ?_
 | refine K.ldE0 (by assumption) ?_ (by omega) rfl ?_
 | refine K.ldAE (by assumption) ?_ (by omega) rfl ?_
 | refine K.iaC (by omega) ?_
 | refine K.condT (by first | assumption | omega) ?_
 | refine K.condF (by first | assumption | omega) ?_
 | refine K.condbT (by assumption) ?_
 | refine K.condbF (by assumption) ?_
 | simp -dsimp only [LL,B9,Nat.reduceAdd,Nat.reduceEqDiff,reduceIte,reduceCtorEq,Bool.false_eq_true])
  refine K.cond (fun g5 => ?_) (fun g5 => ?_)
  · (repeat' first
 | (refine K.cond (fun _ => ?_) (fun _ => ?_) <;> try (exfalso; omega))
 | (refine K.condb (fun _ => ?_) (fun _ => ?_))
 | assumption
 | exact Ext.refl _
 | refine Ext.trans ?_ (by assumption)
 | refine K.wrap (by omega) ?_
 | refine K.ldb (by assumption) ?_ rfl ?_
 | refine K.ldb0 (by assumption) ?_ rfl ?_
 | refine K.ldE (by assumption) ?_ (by omega) rfl ?_
 | refine K.ldE0 (by assumption) ?_ (by omega) rfl ?_
 | refine K.ldAE (by assumption) ?_ (by omega) rfl ?_
 | refine K.iaC (by omega) ?_
 | refine K.condT (by first | assumption | omega) ?_
 | refine K.condF (by first | assumption | omega) ?_
 | refine K.condbT (by assumption) ?_
 | refine K.condbF (by assumption) ?_
 | simp -dsimp only [LL,B9,Nat.reduceAdd,Nat.reduceEqDiff,reduceIte,reduceCtorEq,Bool.false_eq_true])
    all_goals
      refine ⟨?_, by (repeat' first | assumption | exact Ext.refl _ | refine Ext.trans ?_ (by assumption))⟩
      rw [Abs.knamed, if_pos g5]
      split <;> first | rfl | (exfalso; omega)
  (repeat' first
 | assumption
 | exact Ext.refl _
 | refine Ext.trans ?_ (by assumption)
 | refine K.wrap (by omega) ?_
 | refine K.ldb (by assumption) ?_ rfl ?_
 | refine K.ldb0 (by assumption) ?_ rfl ?_
 | refine K.ldE (by assumption) ?_ (by omega) rfl ?_
 | refine K.ldE0 (by assumption) ?_ (by omega) rfl ?_
 | refine K.ldAE (by assumption) ?_ (by omega) rfl ?_
 | refine K.iaC (by omega) ?_
 | refine K.condT (by first | assumption | omega) ?_
 | refine K.condF (by first | assumption | omega) ?_
 | refine K.condbT (by assumption) ?_
 | refine K.condbF (by assumption) ?_
 | simp -dsimp only [LL,B9,Nat.reduceAdd,Nat.reduceEqDiff,reduceIte,reduceCtorEq,Bool.false_eq_true])
  refine K.cond (fun g6 => ?_) (fun g6 => ?_)
  · have hk : Abs.knamed x s = Abs.kLen x.n s := by rw [Abs.knamed, if_neg g5, if_pos g6]
    rw [hk, Abs.kLen]
    (repeat' first
 | assumption
 | exact Ext.refl _
 | refine Ext.trans ?_ (by assumption)
 | refine K.wrap (by omega) ?_
 | refine K.ldb (by assumption) ?_ rfl ?_
 | refine K.ldb0 (by assumption) ?_ rfl ?_
 | refine K.ldE (by assumption) ?_ (by omega) rfl ?_
 | refine K.ldE0 (by assumption) ?_ (by omega) rfl ?_
 | refine K.ldAE (by assumption) ?_ (by omega) rfl ?_
 | refine K.iaC (by omega) ?_
 | refine K.condT (by first | assumption | omega) ?_
 | refine K.condF (by first | assumption | omega) ?_
 | refine K.condbT (by assumption) ?_
 | refine K.condbF (by assumption) ?_
 | simp -dsimp only [LL,B9,Nat.reduceAdd,Nat.reduceEqDiff,reduceIte,reduceCtorEq,Bool.false_eq_true])
    refine K.cond (fun g1 => ?_) (fun g1 => ?_)
    rotate_left
    · (repeat' first
 | assumption
 | exact Ext.refl _
 | refine Ext.trans ?_ (by assumption)
 | refine K.wrap (by omega) ?_
 | refine K.ldb (by assumption) ?_ rfl ?_
 | refine K.ldb0 (by assumption) ?_ rfl ?_
 | refine K.ldE (by assumption) ?_ (by omega) rfl ?_
 | refine K.ldE0 (by assumption) ?_ (by omega) rfl ?_
 | refine K.ldAE (by assumption) ?_ (by omega) rfl ?_
 | refine K.iaC (by omega) ?_
 | refine K.condT (by first | assumption | omega) ?_
 | refine K.condF (by first | assumption | omega) ?_
 | refine K.condbT (by assumption) ?_
 | refine K.condbF (by assumption) ?_
 | simp -dsimp only [LL,B9,Nat.reduceAdd,Nat.reduceEqDiff,reduceIte,reduceCtorEq,Bool.false_eq_true])
      rw [Abs.nth_none (.inl (by omega))]
      (refine ⟨?_, ?_⟩ <;> first | trivial | rfl | (repeat' first | assumption | exact Ext.refl _ | refine Ext.trans ?_ (by assumption)))
    (repeat' first
 | assumption
 | exact Ext.refl _
 | refine Ext.trans ?_ (by assumption)
 | refine K.wrap (by omega) ?_
 | refine K.ldb (by assumption) ?_ rfl ?_
 | refine K.ldb0 (by assumption) ?_ rfl ?_
 | refine K.ldE (by assumption) ?_ (by omega) rfl ?_
 | refine K.ldE0 (by assumption) ?_ (by omega) rfl ?_
 | refine K.ldAE (by assumption) ?_ (by omega) rfl ?_
 | refine K.iaC (by omega) ?_
 | refine K.condT (by first | assumption | omega) ?_
 | refine K.condF (by first | assumption | omega) ?_
 | refine K.condbT (by assumption) ?_
 | refine K.condbF (by assumption) ?_
 | simp -dsimp only [LL,B9,Nat.reduceAdd,Nat.reduceEqDiff,reduceIte,reduceCtorEq,Bool.false_eq_true])
    refine K.cond (fun g2 => ?_) (fun g2 => ?_)
    rotate_left
    · (repeat' first
 | assumption
 | exact Ext.refl _
 | refine Ext.trans ?_ (by assumption)
 | refine K.wrap (by omega) ?_
 | refine K.ldb (by assumption) ?_ rfl ?_
 | refine K.ldb0 (by assumption) ?_ rfl ?_
 | refine K.ldE (by assumption) ?_ (by omega) rfl ?_
 | refine K.ldE0 (by assumption) ?_ (by omega) rfl ?_
 | refine K.ldAE (by assumption) ?_ (by omega) rfl ?_
 | refine K.iaC (by omega) ?_
 | refine K.condT (by first | assumption | omega) ?_
 | refine K.condF (by first | assumption | omega) ?_
 | refine K.condbT (by assumption) ?_
 | refine K.condbF (by assumption) ?_
 | simp -dsimp only [LL,B9,Nat.reduceAdd,Nat.reduceEqDiff,reduceIte,reduceCtorEq,Bool.false_eq_true])
      rw [Abs.nth_none (.inr (by omega))]
      (refine ⟨?_, ?_⟩ <;> first | trivial | rfl | (repeat' first | assumption | exact Ext.refl _ | refine Ext.trans ?_ (by assumption)))
    (repeat' first
 | assumption
 | exact Ext.refl _
 | refine Ext.trans ?_ (by assumption)
 | refine K.wrap (by omega) ?_
 | refine K.ldb (by assumption) ?_ rfl ?_
 | refine K.ldb0 (by assumption) ?_ rfl ?_
 | refine K.ldE (by assumption) ?_ (by omega) rfl ?_
 | refine K.ldE0 (by assumption) ?_ (by omega) rfl ?_
 | refine K.ldAE (by assumption) ?_ (by omega) rfl ?_
 | refine K.iaC (by omega) ?_
 | refine K.condT (by first | assumption | omega) ?_
 | refine K.condF (by first | assumption | omega) ?_
 | refine K.condbT (by assumption) ?_
 | refine K.condbF (by assumption) ?_
 | simp -dsimp only [LL,B9,Nat.reduceAdd,Nat.reduceEqDiff,reduceIte,reduceCtorEq,Bool.false_eq_true])
    rw [Abs.nth_some (by omega) (by omega)]
    obtain ⟨a, rfl⟩ := h2.addr (by omega)
    have hi : x.n.toNat < s.chans.length := by omega
    refine K.ian x.n.toNat (by omega) hi ?_
    (repeat' first
 | assumption
 | exact Ext.refl _
 | refine Ext.trans ?_ (by assumption)
 | refine K.wrap (by omega) ?_
 | refine K.ldb (by assumption) ?_ rfl ?_
 | refine K.ldb0 (by assumption) ?_ rfl ?_
 | refine K.ldE (by assumption) ?_ (by omega) rfl ?_
 | refine K.ldE0 (by assumption) ?_ (by omega) rfl ?_
 | refine K.ldAE (by assumption) ?_ (by omega) rfl ?_
 | refine K.iaC (by omega) ?_
 | refine K.condT (by first | assumption | omega) ?_
 | refine K.condF (by first | assumption | omega) ?_
 | refine K.condbT (by assumption) ?_
 | refine K.condbF (by assumption) ?_
 | simp -dsimp only [LL,B9,Nat.reduceAdd,Nat.reduceEqDiff,reduceIte,reduceCtorEq,Bool.false_eq_true])
    refine K.ldAb (c := [_, _, _, _, _, _]) hc2 (Ext.refl _) rfl ?_
    simp -dsimp only [LL,B9,Nat.reduceAdd,Nat.reduceEqDiff,reduceIte,reduceCtorEq,Bool.false_eq_true]
    refine K.qfn _ (fun w' e => scalar_r _ _ s w' (h.ext ((he1.trans he2).trans e))) ?_
    simp -dsimp only [LL,B9,Nat.reduceAdd,Nat.reduceEqDiff,reduceIte,reduceCtorEq,Bool.false_eq_true]
    intro w3 he3
    refine K.condb (fun g3 => ?_) (fun g3 => ?_)
    all_goals
      simp -dsimp only [LL,B9,Nat.reduceAdd,Nat.reduceEqDiff,reduceIte,reduceCtorEq,Bool.false_eq_true]
      refine ⟨?_, by (repeat' first | assumption | exact Ext.refl _ | refine Ext.trans ?_ (by assumption))⟩
      simp [g3]
  (repeat' first
 | assumption
 | exact Ext.refl _
 | refine Ext.trans ?_ (by assumption)
 | refine K.wrap (by omega) ?_
 | refine K.ldb (by assumption) ?_ rfl ?_
 | refine K.ldb0 (by assumption) ?_ rfl ?_
 | refine K.ldE (by assumption) ?_ (by omega) rfl ?_
 | refine K.ldE0 (by assumption) ?_ (by omega) rfl ?_
 | refine K.ldAE (by assumption) ?_ (by omega) rfl ?_
 | refine K.iaC (by omega) ?_
 | refine K.condT (by first | assumption | omega) ?_
 | refine K.condF (by first | assumption | omega) ?_
 | refine K.condbT (by assumption) ?_
 | refine K.condbF (by assumption) ?_
 | simp -dsimp only [LL,B9,Nat.reduceAdd,Nat.reduceEqDiff,reduceIte,reduceCtorEq,Bool.false_eq_true])
  refine K.cond (fun g7 => ?_) (fun g7 => ?_)
  · have hk : Abs.knamed x s = Abs.kAt x.n s := by rw [Abs.knamed, if_neg g5, if_neg g6, if_pos g7]
    rw [hk, Abs.kAt]
    (repeat' first
 | assumption
 | exact Ext.refl _
 | refine Ext.trans ?_ (by assumption)
 | refine K.wrap (by omega) ?_
 | refine K.ldb (by assumption) ?_ rfl ?_
 | refine K.ldb0 (by assumption) ?_ rfl ?_
 | refine K.ldE (by assumption) ?_ (by omega) rfl ?_
 | refine K.ldE0 (by assumption) ?_ (by omega) rfl ?_
 | refine K.ldAE (by assumption) ?_ (by omega) rfl ?_
 | refine K.iaC (by omega) ?_
 | refine K.condT (by first | assumption | omega) ?_
 | refine K.condF (by first | assumption | omega) ?_
 | refine K.condbT (by assumption) ?_
 | refine K.condbF (by assumption) ?_
 | simp -dsimp only [LL,B9,Nat.reduceAdd,Nat.reduceEqDiff,reduceIte,reduceCtorEq,Bool.false_eq_true])
    refine K.cond (fun g1 => ?_) (fun g1 => ?_)
    rotate_left
    · (repeat' first
 | assumption
 | exact Ext.refl _
 | refine Ext.trans ?_ (by assumption)
 | refine K.wrap (by omega) ?_
 | refine K.ldb (by assumption) ?_ rfl ?_
 | refine K.ldb0 (by assumption) ?_ rfl ?_
 | refine K.ldE (by assumption) ?_ (by omega) rfl ?_
 | refine K.ldE0 (by assumption) ?_ (by omega) rfl ?_
 | refine K.ldAE (by assumption) ?_ (by omega) rfl ?_
 | refine K.iaC (by omega) ?_
 | refine K.condT (by first | assumption | omega) ?_
 | refine K.condF (by first | assumption | omega) ?_
 | refine K.condbT (by assumption) ?_
 | refine K.condbF (by assumption) ?_
 | simp -dsimp only [LL,B9,Nat.reduceAdd,Nat.reduceEqDiff,reduceIte,reduceCtorEq,Bool.false_eq_true])
      intro w3 he3
      (repeat' first
 | assumption
 | exact Ext.refl _
 | refine Ext.trans ?_ (by assumption)
 | refine K.wrap (by omega) ?_
 | refine K.ldb (by assumption) ?_ rfl ?_
 | refine K.ldb0 (by assumption) ?_ rfl ?_
 | refine K.ldE (by assumption) ?_ (by omega) rfl ?_
 | refine K.ldE0 (by assumption) ?_ (by omega) rfl ?_
 | refine K.ldAE (by assumption) ?_ (by omega) rfl ?_
 | refine K.iaC (by omega) ?_
 | refine K.condT (by first | assumption | omega) ?_
 | refine K.condF (by first | assumption | omega) ?_
 | refine K.condbT (by assumption) ?_
 | refine K.condbF (by assumption) ?_
 | simp -dsimp only [LL,B9,Nat.reduceAdd,Nat.reduceEqDiff,reduceIte,reduceCtorEq,Bool.false_eq_true])
      rw [if_neg g1]
      (refine ⟨?_, ?_⟩ <;> first | trivial | rfl | (repeat' first | assumption | exact Ext.refl _ | refine Ext.trans ?_ (by assumption)))
    rw [if_pos g1]
    obtain ⟨i, hi⟩ := Int.eq_ofNat_of_zero_le g1
    obtain ⟨_, hx2⟩ := hx.n
    rw [hi] at hx2
    have hq : x.n.tdiv 16 = ((i / 16 : Nat) : Int) := by rw [hi]; rfl
    have hm : x.n.tmod 16 = ((i % 16 : Nat) : Int) := by rw [hi]; rfl
    (repeat' first
 | assumption
 | exact Ext.refl _
 | refine Ext.trans ?_ (by assumption)
 | refine K.wrap (by omega) ?_
 | refine K.ldb (by assumption) ?_ rfl ?_
 | refine K.ldb0 (by assumption) ?_ rfl ?_
 | refine K.ldE (by assumption) ?_ (by omega) rfl ?_
 | refine K.ldE0 (by assumption) ?_ (by omega) rfl ?_
 | refine K.ldAE (by assumption) ?_ (by omega) rfl ?_
 | refine K.iaC (by omega) ?_
 | refine K.condT (by first | assumption | omega) ?_
 | refine K.condF (by first | assumption | omega) ?_
 | refine K.condbT (by assumption) ?_
 | refine K.condbF (by assumption) ?_
 | simp -dsimp only [LL,B9,Nat.reduceAdd,Nat.reduceEqDiff,reduceIte,reduceCtorEq,Bool.false_eq_true])
    refine K.quo (by omega) ?_
    rw [hq]
    (repeat' first
 | assumption
 | exact Ext.refl _
 | refine Ext.trans ?_ (by assumption)
 | refine K.wrap (by omega) ?_
 | refine K.ldb (by assumption) ?_ rfl ?_
 | refine K.ldb0 (by assumption) ?_ rfl ?_
 | refine K.ldE (by assumption) ?_ (by omega) rfl ?_
 | refine K.ldE0 (by assumption) ?_ (by omega) rfl ?_
 | refine K.ldAE (by assumption) ?_ (by omega) rfl ?_
 | refine K.iaC (by omega) ?_
 | refine K.condT (by first | assumption | omega) ?_
 | refine K.condF (by first | assumption | omega) ?_
 | refine K.condbT (by assumption) ?_
 | refine K.condbF (by assumption) ?_
 | simp -dsimp only [LL,B9,Nat.reduceAdd,Nat.reduceEqDiff,reduceIte,reduceCtorEq,Bool.false_eq_true])
    refine K.cond (fun g2 => ?_) (fun g2 => ?_)
    rotate_left
    · (repeat' first
 | assumption
 | exact Ext.refl _
 | refine Ext.trans ?_ (by assumption)
 | refine K.wrap (by omega) ?_
 | refine K.ldb (by assumption) ?_ rfl ?_
 | refine K.ldb0 (by assumption) ?_ rfl ?_
 | refine K.ldE (by assumption) ?_ (by omega) rfl ?_
 | refine K.ldE0 (by assumption) ?_ (by omega) rfl ?_
 | refine K.ldAE (by assumption) ?_ (by omega) rfl ?_
 | refine K.iaC (by omega) ?_
 | refine K.condT (by first | assumption | omega) ?_
 | refine K.condF (by first | assumption | omega) ?_
 | refine K.condbT (by assumption) ?_
 | refine K.condbF (by assumption) ?_
 | simp -dsimp only [LL,B9,Nat.reduceAdd,Nat.reduceEqDiff,reduceIte,reduceCtorEq,Bool.false_eq_true])
      intro w3 he3
      (repeat' first
 | assumption
 | exact Ext.refl _
 | refine Ext.trans ?_ (by assumption)
 | refine K.wrap (by omega) ?_
 | refine K.ldb (by assumption) ?_ rfl ?_
 | refine K.ldb0 (by assumption) ?_ rfl ?_
 | refine K.ldE (by assumption) ?_ (by omega) rfl ?_
 | refine K.ldE0 (by assumption) ?_ (by omega) rfl ?_
 | refine K.ldAE (by assumption) ?_ (by omega) rfl ?_
 | refine K.iaC (by omega) ?_
 | refine K.condT (by first | assumption | omega) ?_
 | refine K.condF (by first | assumption | omega) ?_
 | refine K.condbT (by assumption) ?_
 | refine K.condbF (by assumption) ?_
 | simp -dsimp only [LL,B9,Nat.reduceAdd,Nat.reduceEqDiff,reduceIte,reduceCtorEq,Bool.false_eq_true])
      rw [Abs.nth_none (.inr (by omega))]
      (refine ⟨?_, ?_⟩ <;> first | trivial | rfl | (repeat' first | assumption | exact Ext.refl _ | refine Ext.trans ?_ (by assumption)))
    have hj : i / 16 < s.procs.length := by omega
    rw [Abs.nth_some (by omega) (by omega)]
    simp only [Int.toNat_natCast]
    (repeat' first
 | assumption
 | exact Ext.refl _
 | refine Ext.trans ?_ (by assumption)
 | refine K.wrap (by omega) ?_
 | refine K.ldb (by assumption) ?_ rfl ?_
 | refine K.ldb0 (by assumption) ?_ rfl ?_
 | refine K.ldE (by assumption) ?_ (by omega) rfl ?_
 | refine K.ldE0 (by assumption) ?_ (by omega) rfl ?_
 | refine K.ldAE (by assumption) ?_ (by omega) rfl ?_
 | refine K.iaC (by omega) ?_
 | refine K.condT (by first | assumption | omega) ?_
 | refine K.condF (by first | assumption | omega) ?_
 | refine K.condbT (by assumption) ?_
 | refine K.condbF (by assumption) ?_
 | simp -dsimp only [LL,B9,Nat.reduceAdd,Nat.reduceEqDiff,reduceIte,reduceCtorEq,Bool.false_eq_true])
    refine K.rem (by omega) ?_
    (repeat' first
 | assumption
 | exact Ext.refl _
 | refine Ext.trans ?_ (by assumption)
 | refine K.wrap (by omega) ?_
 | refine K.ldb (by assumption) ?_ rfl ?_
 | refine K.ldb0 (by assumption) ?_ rfl ?_
 | refine K.ldE (by assumption) ?_ (by omega) rfl ?_
 | refine K.ldE0 (by assumption) ?_ (by omega) rfl ?_
 | refine K.ldAE (by assumption) ?_ (by omega) rfl ?_
 | refine K.iaC (by omega) ?_
 | refine K.condT (by first | assumption | omega) ?_
 | refine K.condF (by first | assumption | omega) ?_
 | refine K.condbT (by assumption) ?_
 | refine K.condbF (by assumption) ?_
 | simp -dsimp only [LL,B9,Nat.reduceAdd,Nat.reduceEqDiff,reduceIte,reduceCtorEq,Bool.false_eq_true])
    refine K.quo (by omega) ?_
    rw [hq]
    obtain ⟨a, rfl⟩ := h3.addr (by omega)
    obtain ⟨_, vv, vc, hcp, _⟩ := h3.at (i / 16) hj
    have hcp2 : w.cell? ((a.add (i / 16 * 5)).add 2) = some (.int .i64 s.procs[i / 16].locs) := hcp 2 _ rfl
    (repeat' first
 | assumption
 | exact Ext.refl _
 | refine Ext.trans ?_ (by assumption)
 | refine K.wrap (by omega) ?_
 | refine K.ldb (by assumption) ?_ rfl ?_
 | refine K.ldb0 (by assumption) ?_ rfl ?_
 | refine K.ldE (by assumption) ?_ (by omega) rfl ?_
 | refine K.ldE0 (by assumption) ?_ (by omega) rfl ?_
 | refine K.ldAE (by assumption) ?_ (by omega) rfl ?_
 | refine K.iaC (by omega) ?_
 | refine K.condT (by first | assumption | omega) ?_
 | refine K.condF (by first | assumption | omega) ?_
 | refine K.condbT (by assumption) ?_
 | refine K.condbF (by assumption) ?_
 | simp -dsimp only [LL,B9,Nat.reduceAdd,Nat.reduceEqDiff,reduceIte,reduceCtorEq,Bool.false_eq_true])
    refine K.ld ((he1.trans he2).cell hcp2) ?_
    (repeat' first
 | assumption
 | exact Ext.refl _
 | refine Ext.trans ?_ (by assumption)
 | refine K.wrap (by omega) ?_
 | refine K.ldb (by assumption) ?_ rfl ?_
 | refine K.ldb0 (by assumption) ?_ rfl ?_
 | refine K.ldE (by assumption) ?_ (by omega) rfl ?_
 | refine K.ldE0 (by assumption) ?_ (by omega) rfl ?_
 | refine K.ldAE (by assumption) ?_ (by omega) rfl ?_
 | refine K.iaC (by omega) ?_
 | refine K.condT (by first | assumption | omega) ?_
 | refine K.condF (by first | assumption | omega) ?_
 | refine K.condbT (by assumption) ?_
 | refine K.condbF (by assumption) ?_
 | simp -dsimp only [LL,B9,Nat.reduceAdd,Nat.reduceEqDiff,reduceIte,reduceCtorEq,Bool.false_eq_true])
    rw [hm]
    intro w3 he3
    (repeat' first
 | assumption
 | exact Ext.refl _
 | refine Ext.trans ?_ (by assumption)
 | refine K.wrap (by omega) ?_
 | refine K.ldb (by assumption) ?_ rfl ?_
 | refine K.ldb0 (by assumption) ?_ rfl ?_
 | refine K.ldE (by assumption) ?_ (by omega) rfl ?_
 | refine K.ldE0 (by assumption) ?_ (by omega) rfl ?_
 | refine K.ldAE (by assumption) ?_ (by omega) rfl ?_
 | refine K.iaC (by omega) ?_
 | refine K.condT (by first | assumption | omega) ?_
 | refine K.condF (by first | assumption | omega) ?_
 | refine K.condbT (by assumption) ?_
 | refine K.condbF (by assumption) ?_
 | simp -dsimp only [LL,B9,Nat.reduceAdd,Nat.reduceEqDiff,reduceIte,reduceCtorEq,Bool.false_eq_true])
    refine K.cond (fun g3 => ?_) (fun g3 => ?_)
    all_goals
      (repeat' first
 | assumption
 | exact Ext.refl _
 | refine Ext.trans ?_ (by assumption)
 | refine K.wrap (by omega) ?_
 | refine K.ldb (by assumption) ?_ rfl ?_
 | refine K.ldb0 (by assumption) ?_ rfl ?_
 | refine K.ldE (by assumption) ?_ (by omega) rfl ?_
 | refine K.ldE0 (by assumption) ?_ (by omega) rfl ?_
 | refine K.ldAE (by assumption) ?_ (by omega) rfl ?_
 | refine K.iaC (by omega) ?_
 | refine K.condT (by first | assumption | omega) ?_
 | refine K.condF (by first | assumption | omega) ?_
 | refine K.condbT (by assumption) ?_
 | refine K.condbF (by assumption) ?_
 | simp -dsimp only [LL,B9,Nat.reduceAdd,Nat.reduceEqDiff,reduceIte,reduceCtorEq,Bool.false_eq_true])
      refine ⟨?_, by (repeat' first | assumption | exact Ext.refl _ | refine Ext.trans ?_ (by assumption))⟩
      first | rw [if_pos g3] | rw [if_neg g3]
  (repeat' first
 | assumption
 | exact Ext.refl _
 | refine Ext.trans ?_ (by assumption)
 | refine K.wrap (by omega) ?_
 | refine K.ldb (by assumption) ?_ rfl ?_
 | refine K.ldb0 (by assumption) ?_ rfl ?_
 | refine K.ldE (by assumption) ?_ (by omega) rfl ?_
 | refine K.ldE0 (by assumption) ?_ (by omega) rfl ?_
 | refine K.ldAE (by assumption) ?_ (by omega) rfl ?_
 | refine K.iaC (by omega) ?_
 | refine K.condT (by first | assumption | omega) ?_
 | refine K.condF (by first | assumption | omega) ?_
 | refine K.condbT (by assumption) ?_
 | refine K.condbF (by assumption) ?_
 | simp -dsimp only [LL,B9,Nat.reduceAdd,Nat.reduceEqDiff,reduceIte,reduceCtorEq,Bool.false_eq_true])
  refine K.cond (fun g8 => ?_) (fun g8 => ?_)
  · (repeat' first
 | (refine K.cond (fun _ => ?_) (fun _ => ?_) <;> try (exfalso; omega))
 | (refine K.condb (fun _ => ?_) (fun _ => ?_))
 | assumption
 | exact Ext.refl _
 | refine Ext.trans ?_ (by assumption)
 | refine K.wrap (by omega) ?_
 | refine K.ldb (by assumption) ?_ rfl ?_
 | refine K.ldb0 (by assumption) ?_ rfl ?_
 | refine K.ldE (by assumption) ?_ (by omega) rfl ?_
 | refine K.ldE0 (by assumption) ?_ (by omega) rfl ?_
 | refine K.ldAE (by assumption) ?_ (by omega) rfl ?_
 | refine K.iaC (by omega) ?_
 | refine K.condT (by first | assumption | omega) ?_
 | refine K.condF (by first | assumption | omega) ?_
 | refine K.condbT (by assumption) ?_
 | refine K.condbF (by assumption) ?_
 | simp -dsimp only [LL,B9,Nat.reduceAdd,Nat.reduceEqDiff,reduceIte,reduceCtorEq,Bool.false_eq_true])
    all_goals
      refine ⟨?_, by (repeat' first | assumption | exact Ext.refl _ | refine Ext.trans ?_ (by assumption))⟩
      rw [Abs.knamed, if_neg g5, if_neg g6, if_neg g7, if_pos g8]
      split <;> first | rfl | (exfalso; omega)
  (repeat' first
 | assumption
 | exact Ext.refl _
 | refine Ext.trans ?_ (by assumption)
 | refine K.wrap (by omega) ?_
 | refine K.ldb (by assumption) ?_ rfl ?_
 | refine K.ldb0 (by assumption) ?_ rfl ?_
 | refine K.ldE (by assumption) ?_ (by omega) rfl ?_
 | refine K.ldE0 (by assumption) ?_ (by omega) rfl ?_
 | refine K.ldAE (by assumption) ?_ (by omega) rfl ?_
 | refine K.iaC (by omega) ?_
 | refine K.condT (by first | assumption | omega) ?_
 | refine K.condF (by first | assumption | omega) ?_
 | refine K.condbT (by assumption) ?_
 | refine K.condbF (by assumption) ?_
 | simp -dsimp only [LL,B9,Nat.reduceAdd,Nat.reduceEqDiff,reduceIte,reduceCtorEq,Bool.false_eq_true])
  refine ⟨?_, by (repeat' first | assumption | exact Ext.refl _ | refine Ext.trans ?_ (by assumption))⟩
  rw [Abs.knamed, if_neg g5, if_neg g6, if_neg g7, if_neg g8]
end Go.Proofs.Yteaboocppcbkiaa
