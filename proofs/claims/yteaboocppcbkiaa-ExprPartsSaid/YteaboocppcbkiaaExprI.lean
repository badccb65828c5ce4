/- What the reference says of kinds: all. -/
import Derived.Test.YteaboocppcbkiaaExprH
set_option linter.all false
set_option maxRecDepth 4000
set_option linter.unusedSimpArgs false
set_option maxHeartbeats 1600000
namespace Go.Proofs.Yteaboocppcbkiaa
open Go Go.RowKit Lite

theorem ktwo1 (o : Abs.OpD) (k : Int) : Abs.ktwo o [k] = if o.takes = -1 ∨ k = o.takes then (o.makes, 0) else (0, 9) := by
  simp [Abs.ktwo]
theorem ktwo2 (o : Abs.OpD) (a b : Int) : Abs.ktwo o [a, b] = if (o.takes = -1 ∨ a = o.takes) ∧ a = b then (o.makes, 0) else (0, 9) := by
  simp only [Abs.ktwo, List.all_cons, List.all_nil, List.headD_cons, Bool.and_true, decide_true]
  by_cases h : a = b
  · subst h; simp
  · have h' : ¬ b = a := fun e => h e.symm
    simp [h, h']
def oneK (x : Abs.Node) (k : Int) (s : Abs.Scope) : Int × Int := match Abs.opOf x.op with | some o => Abs.ktwo o [k] | none => Abs.kleaf x s k
theorem rone_r (x : Abs.Node) (k : Int) (cs : List Value) (s : Abs.Scope) (w : World) (h : Abs.ScopeIs w cs s) (hop : x.op = 3 ∨ x.op = 9 ∨ x.op = 10) :
    Ret Try.prog F.lariatref10_one #[.agg x.enc.toArray, .int .i64 k, .agg cs.toArray] w fun v w' => v = .tuple #[.int .i64 (oneK x k s).1, .int .i64 (oneK x k s).2] ∧ Ext w w' := by
  obtain ⟨a0, c0, a1, c1, a2, c2, a3, c3, a4, c4, rfl, q0, q1, q2, q3, q4, l0, l1, l2, l3, l4⟩ := h.form
  refine K.start hmix E.lariatref10_one (args := [_, _, _]) (Nat.le_of_ble_eq_true rfl) ?_
  dsimp only [C.lariatref10_one,yt,yi,yb,yp,yr,ye,yc,yv,yg,ym,yw,ya,yl,yx,ys,yn]
  (repeat' first
 | assumption
 | exact Ext.refl _
 | refine Ext.trans ?_ (by assumption)
 | refine K.wrap (by omega) ?_
 | refine K.ldb (by assumption) ?_ rfl ?_
 | refine K.ldb0 (by assumption) ?_ rfl ?_
 | refine K.ldE (by assumption) ?_ (by omega) rfl ?_
 | refine K.ldE0 (by assumption) ?_ (by omega) rfl ?_
 | refine K.ldAE (by assumption) ?_ (by omega) rfl ?_
 | refine K.iaC (by omega) ?_
 | refine K.condT (by first | assumption | omega) ?_
 | refine K.condF (by first | assumption | omega) ?_
 | refine K.condbT (by assumption) ?_
 | refine K.condbF (by assumption) ?_
 | simp -dsimp only [LL,B9,Nat.reduceAdd,Nat.reduceEqDiff,reduceIte,reduceCtorEq,Bool.false_eq_true])
  refine K.new fun w1 b1 hb1 he1 hc1 => ?_
  (repeat' first
 | assumption
 | exact Ext.refl _
 | refine Ext.trans ?_ (by assumption)
 | refine K.wrap (by omega) ?_
 | refine K.ldb (by assumption) ?_ rfl ?_
 | refine K.ldb0 (by assumption) ?_ rfl ?_
 | refine K.ldE (by assumption) ?_ (by omega) rfl ?_
 | refine K.ldE0 (by assumption) ?_ (by omega) rfl ?_
 | refine K.ldAE (by assumption) ?_ (by omega) rfl ?_
 | refine K.iaC (by omega) ?_
 | refine K.condT (by first | assumption | omega) ?_
 | refine K.condF (by first | assumption | omega) ?_
 | refine K.condbT (by assumption) ?_
 | refine K.condbF (by assumption) ?_
 | simp -dsimp only [LL,B9,Nat.reduceAdd,Nat.reduceEqDiff,reduceIte,reduceCtorEq,Bool.false_eq_true])
  refine K.new fun w2 b2 hb2 he2 hc2 => ?_
  have he := he1.trans he2
  have k1 : w2.heap[b1]? = some (.cells #[.int .i64 x.op, .int .i64 x.n] T.api_Node) := he2.obj hc1
  clear hc1
  (repeat' first
 | assumption
 | exact Ext.refl _
 | refine Ext.trans ?_ (by assumption)
 | refine K.wrap (by omega) ?_
 | refine K.ldb (by assumption) ?_ rfl ?_
 | refine K.ldb0 (by assumption) ?_ rfl ?_
 | refine K.ldE (by assumption) ?_ (by omega) rfl ?_
 | refine K.ldE0 (by assumption) ?_ (by omega) rfl ?_
 | refine K.ldAE (by assumption) ?_ (by omega) rfl ?_
 | refine K.iaC (by omega) ?_
 | refine K.condT (by first | assumption | omega) ?_
 | refine K.condF (by first | assumption | omega) ?_
 | refine K.condbT (by assumption) ?_
 | refine K.condbF (by assumption) ?_
 | simp -dsimp only [LL,B9,Nat.reduceAdd,Nat.reduceEqDiff,reduceIte,reduceCtorEq,Bool.false_eq_true])
  refine K.cond (fun g1 => ?_) (fun g1 => ?_)
  · have ho : Abs.opOf x.op = none := by rw [g1]; rfl
    have hk : oneK x k s = (let q := Abs.kvar s.vars x.n s; if q.2.2 = false then (0, 8) else if (x.op = 3 ∧ (q.2.1 = 0 ∨ k ≠ q.2.1)) ∨ (x.op ≠ 3 ∧ q.2.1 ≠ 0) then (0, 9) else (q.1, 0)) := by
      rw [oneK, ho]
      simp only
      rw [Abs.kleaf, if_neg (by omega), if_pos (by omega)]
      simp only [show ¬ x.op = 4 from by omega, if_false]
    rw [hk]
    (repeat' first
 | assumption
 | exact Ext.refl _
 | refine Ext.trans ?_ (by assumption)
 | refine K.wrap (by omega) ?_
 | refine K.ldb (by assumption) ?_ rfl ?_
 | refine K.ldb0 (by assumption) ?_ rfl ?_
 | refine K.ldE (by assumption) ?_ (by omega) rfl ?_
 | refine K.ldE0 (by assumption) ?_ (by omega) rfl ?_
 | refine K.ldAE (by assumption) ?_ (by omega) rfl ?_
 | refine K.iaC (by omega) ?_
 | refine K.condT (by first | assumption | omega) ?_
 | refine K.condF (by first | assumption | omega) ?_
 | refine K.condbT (by assumption) ?_
 | refine K.condbF (by assumption) ?_
 | simp -dsimp only [LL,B9,Nat.reduceAdd,Nat.reduceEqDiff,reduceIte,reduceCtorEq,Bool.false_eq_true])
    refine K.ldAb (c := [_, _, _, _, _, _]) hc2 (Ext.refl _) rfl ?_
    (repeat' first
 | assumption
 | exact Ext.refl _
 | refine Ext.trans ?_ (by assumption)
 | refine K.wrap (by omega) ?_
 | refine K.ldb (by assumption) ?_ rfl ?_
 | refine K.ldb0 (by assumption) ?_ rfl ?_
 | refine K.ldE (by assumption) ?_ (by omega) rfl ?_
 | refine K.ldE0 (by assumption) ?_ (by omega) rfl ?_
 | refine K.ldAE (by assumption) ?_ (by omega) rfl ?_
 | refine K.iaC (by omega) ?_
 | refine K.condT (by first | assumption | omega) ?_
 | refine K.condF (by first | assumption | omega) ?_
 | refine K.condbT (by assumption) ?_
 | refine K.condbF (by assumption) ?_
 | simp -dsimp only [LL,B9,Nat.reduceAdd,Nat.reduceEqDiff,reduceIte,reduceCtorEq,Bool.false_eq_true])
    refine K.call (rvariable_r _ s.vars x.n _ s w2 (q1.ext he) (h.ext he)) ?_
    rintro _ w3 ⟨⟨y, rfl, hy⟩, he3⟩
    have hok : (Abs.kvar s.vars x.n s).2.2 = true → _ := fun g => kvar_ok g (hy g)
    clear hy hk
    generalize Abs.kvar s.vars x.n s = q at hok ⊢
    obtain ⟨qk, qo, qi⟩ := q
    (repeat' first
 | assumption
 | exact Ext.refl _
 | refine Ext.trans ?_ (by assumption)
 | refine K.wrap (by omega) ?_
 | refine K.ldb (by assumption) ?_ rfl ?_
 | refine K.ldb0 (by assumption) ?_ rfl ?_
 | refine K.ldE (by assumption) ?_ (by omega) rfl ?_
 | refine K.ldE0 (by assumption) ?_ (by omega) rfl ?_
 | refine K.ldAE (by assumption) ?_ (by omega) rfl ?_
 | refine K.iaC (by omega) ?_
 | refine K.condT (by first | assumption | omega) ?_
 | refine K.condF (by first | assumption | omega) ?_
 | refine K.condbT (by assumption) ?_
 | refine K.condbF (by assumption) ?_
 | simp -dsimp only [LL,B9,Nat.reduceAdd,Nat.reduceEqDiff,reduceIte,reduceCtorEq,Bool.false_eq_true])
    refine K.newst (vs := y.enc) (fun _ => by simp -dsimp only [LL,B9,Nat.reduceAdd,Nat.reduceEqDiff,reduceIte,reduceCtorEq,Bool.false_eq_true]) rfl rfl (by simp [Abs.Var.enc, Value.oneCell']) fun w4 b4 hb4 he4 hc4 => ?_
    have k4 : w4.heap[b4]? = some (.cells #[.string y.name, .int .i64 y.scalar, .int .i64 y.over, .int .i64 y.lo, .int .i64 y.hi, .int .i64 y.init] T.api_Var) := hc4
    clear hc4
    (repeat' first
 | assumption
 | exact Ext.refl _
 | refine Ext.trans ?_ (by assumption)
 | refine K.wrap (by omega) ?_
 | refine K.ldb (by assumption) ?_ rfl ?_
 | refine K.ldb0 (by assumption) ?_ rfl ?_
 | refine K.ldE (by assumption) ?_ (by omega) rfl ?_
 | refine K.ldE0 (by assumption) ?_ (by omega) rfl ?_
 | refine K.ldAE (by assumption) ?_ (by omega) rfl ?_
 | refine K.iaC (by omega) ?_
 | refine K.condT (by first | assumption | omega) ?_
 | refine K.condF (by first | assumption | omega) ?_
 | refine K.condbT (by assumption) ?_
 | refine K.condbF (by assumption) ?_
 | simp -dsimp only [LL,B9,Nat.reduceAdd,Nat.reduceEqDiff,reduceIte,reduceCtorEq,Bool.false_eq_true])
    refine K.condb (fun g5 => ?_) (fun g5 => ?_)
    rotate_left
    · (repeat' first
 | assumption
 | exact Ext.refl _
 | refine Ext.trans ?_ (by assumption)
 | refine K.wrap (by omega) ?_
 | refine K.ldb (by assumption) ?_ rfl ?_
 | refine K.ldb0 (by assumption) ?_ rfl ?_
 | refine K.ldE (by assumption) ?_ (by omega) rfl ?_
 | refine K.ldE0 (by assumption) ?_ (by omega) rfl ?_
 | refine K.ldAE (by assumption) ?_ (by omega) rfl ?_
 | refine K.iaC (by omega) ?_
 | refine K.condT (by first | assumption | omega) ?_
 | refine K.condF (by first | assumption | omega) ?_
 | refine K.condbT (by assumption) ?_
 | refine K.condbF (by assumption) ?_
 | simp -dsimp only [LL,B9,Nat.reduceAdd,Nat.reduceEqDiff,reduceIte,reduceCtorEq,Bool.false_eq_true])
      simp only [g5, if_true]
      (refine ⟨?_, ?_⟩ <;> first | trivial | rfl | (repeat' first | assumption | exact Ext.refl _ | refine Ext.trans ?_ (by assumption)))
    obtain ⟨z1, z2, z3, z4, z5, z6⟩ := hok g5
    have z1' : qk = kindOf y.scalar := z1
    have z2' : qo = kindOf y.over := z2
    have hko : qo = if y.over = 0 then 0 else 1 + y.over := z2'
    (repeat' first
 | assumption
 | exact Ext.refl _
 | refine Ext.trans ?_ (by assumption)
 | refine K.wrap (by omega) ?_
 | refine K.ldb (by assumption) ?_ rfl ?_
 | refine K.ldb0 (by assumption) ?_ rfl ?_
 | refine K.ldE (by assumption) ?_ (by omega) rfl ?_
 | refine K.ldE0 (by assumption) ?_ (by omega) rfl ?_
 | refine K.ldAE (by assumption) ?_ (by omega) rfl ?_
 | refine K.iaC (by omega) ?_
 | refine K.condT (by first | assumption | omega) ?_
 | refine K.condF (by first | assumption | omega) ?_
 | refine K.condbT (by assumption) ?_
 | refine K.condbF (by assumption) ?_
 | simp -dsimp only [LL,B9,Nat.reduceAdd,Nat.reduceEqDiff,reduceIte,reduceCtorEq,Bool.false_eq_true])
    refine K.cond (fun g6 => ?_) (fun g6 => ?_)
    · (repeat' first
 | assumption
 | exact Ext.refl _
 | refine Ext.trans ?_ (by assumption)
 | refine K.wrap (by omega) ?_
 | refine K.ldb (by assumption) ?_ rfl ?_
 | refine K.ldb0 (by assumption) ?_ rfl ?_
 | refine K.ldE (by assumption) ?_ (by omega) rfl ?_
 | refine K.ldE0 (by assumption) ?_ (by omega) rfl ?_
 | refine K.ldAE (by assumption) ?_ (by omega) rfl ?_
 | refine K.iaC (by omega) ?_
 | refine K.condT (by first | assumption | omega) ?_
 | refine K.condF (by first | assumption | omega) ?_
 | refine K.condbT (by assumption) ?_
 | refine K.condbF (by assumption) ?_
 | simp -dsimp only [LL,B9,Nat.reduceAdd,Nat.reduceEqDiff,reduceIte,reduceCtorEq,Bool.false_eq_true])
      simp only [g5, Bool.true_eq_false, if_false]
      rw [if_pos (.inl ⟨g1, .inl (by rw [hko, if_pos g6])⟩)]
      (refine ⟨?_, ?_⟩ <;> first | trivial | rfl | (repeat' first | assumption | exact Ext.refl _ | refine Ext.trans ?_ (by assumption)))
    rw [if_neg g6] at hko
    (repeat' first
 | assumption
 | exact Ext.refl _
 | refine Ext.trans ?_ (by assumption)
 | refine K.wrap (by omega) ?_
 | refine K.ldb (by assumption) ?_ rfl ?_
 | refine K.ldb0 (by assumption) ?_ rfl ?_
 | refine K.ldE (by assumption) ?_ (by omega) rfl ?_
 | refine K.ldE0 (by assumption) ?_ (by omega) rfl ?_
 | refine K.ldAE (by assumption) ?_ (by omega) rfl ?_
 | refine K.iaC (by omega) ?_
 | refine K.condT (by first | assumption | omega) ?_
 | refine K.condF (by first | assumption | omega) ?_
 | refine K.condbT (by assumption) ?_
 | refine K.condbF (by assumption) ?_
 | simp -dsimp only [LL,B9,Nat.reduceAdd,Nat.reduceEqDiff,reduceIte,reduceCtorEq,Bool.false_eq_true])
    refine K.cond (fun g7 => ?_) (fun g7 => ?_)
    rotate_left
    · (repeat' first
 | assumption
 | exact Ext.refl _
 | refine Ext.trans ?_ (by assumption)
 | refine K.wrap (by omega) ?_
 | refine K.ldb (by assumption) ?_ rfl ?_
 | refine K.ldb0 (by assumption) ?_ rfl ?_
 | refine K.ldE (by assumption) ?_ (by omega) rfl ?_
 | refine K.ldE0 (by assumption) ?_ (by omega) rfl ?_
 | refine K.ldAE (by assumption) ?_ (by omega) rfl ?_
 | refine K.iaC (by omega) ?_
 | refine K.condT (by first | assumption | omega) ?_
 | refine K.condF (by first | assumption | omega) ?_
 | refine K.condbT (by assumption) ?_
 | refine K.condbF (by assumption) ?_
 | simp -dsimp only [LL,B9,Nat.reduceAdd,Nat.reduceEqDiff,reduceIte,reduceCtorEq,Bool.false_eq_true])
      simp only [g5, Bool.true_eq_false, if_false]
      rw [if_pos (.inl ⟨g1, .inr (by omega)⟩)]
      (refine ⟨?_, ?_⟩ <;> first | trivial | rfl | (repeat' first | assumption | exact Ext.refl _ | refine Ext.trans ?_ (by assumption)))
    (repeat' first
 | assumption
 | exact Ext.refl _
 | refine Ext.trans ?_ (by assumption)
 | refine K.wrap (by omega) ?_
 | refine K.ldb (by assumption) ?_ rfl ?_
 | refine K.ldb0 (by assumption) ?_ rfl ?_
 | refine K.ldE (by assumption) ?_ (by omega) rfl ?_
 | refine K.ldE0 (by assumption) ?_ (by omega) rfl ?_
 | refine K.ldAE (by assumption) ?_ (by omega) rfl ?_
 | refine K.iaC (by omega) ?_
 | refine K.condT (by first | assumption | omega) ?_
 | refine K.condF (by first | assumption | omega) ?_
 | refine K.condbT (by assumption) ?_
 | refine K.condbF (by assumption) ?_
 | simp -dsimp only [LL,B9,Nat.reduceAdd,Nat.reduceEqDiff,reduceIte,reduceCtorEq,Bool.false_eq_true])
    refine K.call (kindOf_r y.scalar w4 (by omega)) ?_
    rintro _ _ ⟨rfl, rfl⟩
    (repeat' first
 | assumption
 | exact Ext.refl _
 | refine Ext.trans ?_ (by assumption)
 | refine K.wrap (by omega) ?_
 | refine K.ldb (by assumption) ?_ rfl ?_
 | refine K.ldb0 (by assumption) ?_ rfl ?_
 | refine K.ldE (by assumption) ?_ (by omega) rfl ?_
 | refine K.ldE0 (by assumption) ?_ (by omega) rfl ?_
 | refine K.ldAE (by assumption) ?_ (by omega) rfl ?_
 | refine K.iaC (by omega) ?_
 | refine K.condT (by first | assumption | omega) ?_
 | refine K.condF (by first | assumption | omega) ?_
 | refine K.condbT (by assumption) ?_
 | refine K.condbF (by assumption) ?_
 | simp -dsimp only [LL,B9,Nat.reduceAdd,Nat.reduceEqDiff,reduceIte,reduceCtorEq,Bool.false_eq_true])
    simp only [g5, Bool.true_eq_false, if_false, z1']
    rw [if_neg (by omega)]
    (refine ⟨?_, ?_⟩ <;> first | trivial | rfl | (repeat' first | assumption | exact Ext.refl _ | refine Ext.trans ?_ (by assumption)))
  have h9 : x.op = 9 → oneK x k s = if k = 1 then (1, 0) else (0, 9) := by
    intro e
    rw [oneK, e]
    show Abs.ktwo _ [k] = _
    rw [ktwo1]
    simp
  have h10 : x.op = 10 → oneK x k s = if k = 0 then (0, 0) else (0, 9) := by
    intro e
    rw [oneK, e]
    show Abs.ktwo _ [k] = _
    rw [ktwo1]
    simp
  (repeat' first
 | (refine K.cond (fun _ => ?_) (fun _ => ?_) <;> try (exfalso; omega))
 | (refine K.condb (fun _ => ?_) (fun _ => ?_))
 | assumption
 | exact Ext.refl _
 | refine Ext.trans ?_ (by assumption)
 | refine K.wrap (by omega) ?_
 | refine K.ldb (by assumption) ?_ rfl ?_
 | refine K.ldb0 (by assumption) ?_ rfl ?_
 | refine K.ldE (by assumption) ?_ (by omega) rfl ?_
 | refine K.ldE0 (by assumption) ?_ (by omega) rfl ?_
 | refine K.ldAE (by assumption) ?_ (by omega) rfl ?_
 | refine K.iaC (by omega) ?_
 | refine K.condT (by first | assumption | omega) ?_
 | refine K.condF (by first | assumption | omega) ?_
 | refine K.condbT (by assumption) ?_
 | refine K.condbF (by assumption) ?_
 | simp -dsimp only [LL,B9,Nat.reduceAdd,Nat.reduceEqDiff,reduceIte,reduceCtorEq,Bool.false_eq_true])
  all_goals
    refine ⟨?_, by (repeat' first | assumption | exact Ext.refl _ | refine Ext.trans ?_ (by assumption))⟩
    rcases hop with e | e | e
    · exact absurd e g1
    · rw [h9 e]; split <;> first | rfl | (exfalso; omega)
    · rw [h10 e]; split <;> first | rfl | (exfalso; omega)
def twoK (op a b : Int) : Int × Int := match Abs.opOf op with | some o => Abs.ktwo o [a, b] | none => (0, 9)
theorem rtwo_r (op a b : Int) (w : World) (hop : 11 ≤ op ∧ op ≤ 19) :
    Ret Try.prog F.lariatref10_two #[.int .i64 op, .int .i64 a, .int .i64 b] w fun v w' => v = .tuple #[.int .i64 (twoK op a b).1, .int .i64 (twoK op a b).2] ∧ w' = w := by
  have key : twoK op a b = if a ≠ b then (0, 9) else if op = 14 ∨ op = 15 then (1, 0) else if op = 18 ∨ op = 19 then (if a = 1 then (1, 0) else (0, 9)) else if op = 16 ∨ op = 17 then (if a = 0 then (1, 0) else (0, 9)) else (if a = 0 then (0, 0) else (0, 9)) := by
    have hc : op = 11 ∨ op = 12 ∨ op = 13 ∨ op = 14 ∨ op = 15 ∨ op = 16 ∨ op = 17 ∨ op = 18 ∨ op = 19 := by omega
    rcases hc with e | e | e | e | e | e | e | e | e <;> subst e <;> (show Abs.ktwo _ [a, b] = _) <;> rw [ktwo2] <;> by_cases hab : a = b <;> simp [hab, Abs.sayD]
  refine K.start hmix E.lariatref10_two (args := [_, _, _]) (Nat.le_of_ble_eq_true rfl) ?_
  dsimp only [C.lariatref10_two,yt,yi,yb,yp,yr,ye,yc,yv,yg,ym,yw,ya,yl,yx,ys,yn]
  (repeat' first
 | (refine K.cond (fun _ => ?_) (fun _ => ?_) <;> try (exfalso; omega))
 | (refine K.condb (fun _ => ?_) (fun _ => ?_))
 | assumption
 | exact Ext.refl _
 | refine Ext.trans ?_ (by assumption)
 | refine K.wrap (by omega) ?_
 | refine K.ldb (by assumption) ?_ rfl ?_
 | refine K.ldb0 (by assumption) ?_ rfl ?_
 | refine K.ldE (by assumption) ?_ (by omega) rfl ?_
 | refine K.ldE0 (by assumption) ?_ (by omega) rfl ?_
 | refine K.ldAE (by assumption) ?_ (by omega) rfl ?_
 | refine K.iaC (by omega) ?_
 | refine K.condT (by first | assumption | omega) ?_
 | refine K.condF (by first | assumption | omega) ?_
 | refine K.condbT (by assumption) ?_
 | refine K.condbF (by assumption) ?_
 | simp -dsimp only [LL,B9,Nat.reduceAdd,Nat.reduceEqDiff,reduceIte,reduceCtorEq,Bool.false_eq_true])
  all_goals
    refine ⟨?_, by first | trivial | rfl⟩
    rw [key]
    (repeat' split) <;> first | rfl | (exfalso; omega)
end Go.Proofs.Yteaboocppcbkiaa
