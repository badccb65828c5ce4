/- Texts joined: ExprK ExprL UseC ExprM Open1 Open2 Open3 Rep4 UseD. -/
import Derived.Test.YtfdohkdifdemeaaQc
import Derived.Test.YtfdohkdifdemeaaQd
import Derived.Test.YtfdohkdifdemeaaQe
import Derived.SizedLaws
set_option linter.all false
section
/- The value of an expression. -/
set_option maxRecDepth 4000
set_option linter.unusedSimpArgs false
set_option maxHeartbeats 1600000
namespace Go.Proofs.Ytfdohkdifdemeaa
open Go Go.RowKit Lite

theorem at_r (v : Value) (l : List Int) (n : Int) (w : World) (hl : IntsB w v l) : Ret Try.prog F.expr_at #[v, .int .i64 n] w fun v w' => v = .tuple #[.int .i64 (Abs.vat l n).1, .int .i64 (Abs.vat l n).2] ∧ w' = w := by
  obtain ⟨oa, cap, rfl, hlen⟩ := hl.form
  refine K.start hmix E.expr_at (args := [_, _]) (Nat.le_of_ble_eq_true rfl) ?_
  dsimp only [C.expr_at]; refine Yy ?_
  (repeat' first
 | assumption
 | exact Ext.refl _
 | refine Ext.trans ?_ (by assumption)
 | refine K.wrap (by omega) ?_
 | refine K.ldb (by assumption) ?_ rfl ?_
 | refine K.ldb0 (by assumption) ?_ rfl ?_
 | refine K.ldE (by assumption) ?_ (by omega) rfl ?_
 | refine K.ldE0 (by assumption) ?_ (by omega) rfl ?_
 | refine K.ldAE (by assumption) ?_ (by omega) rfl ?_
 | refine K.iaC (by omega) ?_
 | refine K.condT (by first | assumption | omega) ?_
 | refine K.condF (by first | assumption | omega) ?_
 | refine K.condbT (by assumption) ?_
 | refine K.condbF (by assumption) ?_
 | simp -dsimp only [LL,B9,Nat.reduceAdd,Nat.reduceEqDiff,reduceIte,reduceCtorEq,Bool.false_eq_true])
  refine K.cond (fun g1 => ?_) (fun g1 => ?_)
  · (repeat' first
 | assumption
 | exact Ext.refl _
 | refine Ext.trans ?_ (by assumption)
 | refine K.wrap (by omega) ?_
 | refine K.ldb (by assumption) ?_ rfl ?_
 | refine K.ldb0 (by assumption) ?_ rfl ?_
 | refine K.ldE (by assumption) ?_ (by omega) rfl ?_
 | refine K.ldE0 (by assumption) ?_ (by omega) rfl ?_
 | refine K.ldAE (by assumption) ?_ (by omega) rfl ?_
 | refine K.iaC (by omega) ?_
 | refine K.condT (by first | assumption | omega) ?_
 | refine K.condF (by first | assumption | omega) ?_
 | refine K.condbT (by assumption) ?_
 | refine K.condbF (by assumption) ?_
 | simp -dsimp only [LL,B9,Nat.reduceAdd,Nat.reduceEqDiff,reduceIte,reduceCtorEq,Bool.false_eq_true])
    rw [Abs.vat, Abs.nth_none (.inl g1)]
    exact ⟨rfl, trivial⟩
  (repeat' first
 | assumption
 | exact Ext.refl _
 | refine Ext.trans ?_ (by assumption)
 | refine K.wrap (by omega) ?_
 | refine K.ldb (by assumption) ?_ rfl ?_
 | refine K.ldb0 (by assumption) ?_ rfl ?_
 | refine K.ldE (by assumption) ?_ (by omega) rfl ?_
 | refine K.ldE0 (by assumption) ?_ (by omega) rfl ?_
 | refine K.ldAE (by assumption) ?_ (by omega) rfl ?_
 | refine K.iaC (by omega) ?_
 | refine K.condT (by first | assumption | omega) ?_
 | refine K.condF (by first | assumption | omega) ?_
 | refine K.condbT (by assumption) ?_
 | refine K.condbF (by assumption) ?_
 | simp -dsimp only [LL,B9,Nat.reduceAdd,Nat.reduceEqDiff,reduceIte,reduceCtorEq,Bool.false_eq_true])
  refine K.cond (fun g2 => ?_) (fun g2 => ?_)
  · (repeat' first
 | assumption
 | exact Ext.refl _
 | refine Ext.trans ?_ (by assumption)
 | refine K.wrap (by omega) ?_
 | refine K.ldb (by assumption) ?_ rfl ?_
 | refine K.ldb0 (by assumption) ?_ rfl ?_
 | refine K.ldE (by assumption) ?_ (by omega) rfl ?_
 | refine K.ldE0 (by assumption) ?_ (by omega) rfl ?_
 | refine K.ldAE (by assumption) ?_ (by omega) rfl ?_
 | refine K.iaC (by omega) ?_
 | refine K.condT (by first | assumption | omega) ?_
 | refine K.condF (by first | assumption | omega) ?_
 | refine K.condbT (by assumption) ?_
 | refine K.condbF (by assumption) ?_
 | simp -dsimp only [LL,B9,Nat.reduceAdd,Nat.reduceEqDiff,reduceIte,reduceCtorEq,Bool.false_eq_true])
    rw [Abs.vat, Abs.nth_none (.inr (by omega))]
    exact ⟨rfl, trivial⟩
  obtain ⟨i, rfl⟩ := Int.eq_ofNat_of_zero_le (show 0 ≤ n by omega)
  obtain ⟨a, rfl⟩ := hl.addr (by omega)
  (repeat' first
 | assumption
 | exact Ext.refl _
 | refine Ext.trans ?_ (by assumption)
 | refine K.wrap (by omega) ?_
 | refine K.ldb (by assumption) ?_ rfl ?_
 | refine K.ldb0 (by assumption) ?_ rfl ?_
 | refine K.ldE (by assumption) ?_ (by omega) rfl ?_
 | refine K.ldE0 (by assumption) ?_ (by omega) rfl ?_
 | refine K.ldAE (by assumption) ?_ (by omega) rfl ?_
 | refine K.iaC (by omega) ?_
 | refine K.condT (by first | assumption | omega) ?_
 | refine K.condF (by first | assumption | omega) ?_
 | refine K.condbT (by assumption) ?_
 | refine K.condbF (by assumption) ?_
 | simp -dsimp only [LL,B9,Nat.reduceAdd,Nat.reduceEqDiff,reduceIte,reduceCtorEq,Bool.false_eq_true])
  rw [Abs.vat, Abs.nth_some (by omega) (by omega)]
  simp only [Int.toNat_natCast]
  exact ⟨by first | trivial | rfl, trivial⟩
theorem vat_wrap (l : List Int) (hl : l.length ≤ 9223372036854775807) (n : Int) (h : Abs.inI n) : Abs.nth l (IntKind.i64.wrap (n - 1)) = Abs.nth l (n - 1) := by
  obtain ⟨h1, h2⟩ := h
  by_cases hn : n = -9223372036854775808
  · subst hn
    have : IntKind.i64.wrap (-9223372036854775808 - 1) = 9223372036854775807 := by decide
    rw [this, Abs.nth_none (.inr (by omega)), Abs.nth_none (.inl (by omega))]
  · rw [IntWalk.i64_in (n - 1) (by omega)]
theorem vleaf_r (x : Abs.Node) (cs : List Value) (v : Abs.Env) (base b : Nat) (w : World) (m : Value) (st : List Int) (hx : x.ok) (h : Abs.EnvIs w cs v) (hm : MachIs base b w m st) (h3 : x.op = 3 → 0 < st.length) (hg : ∀ z ∈ st, Abs.inI z) :
    Ret Try.prog F.p_expr_machine_value #[.pointer (some ⟨b, 0, none⟩), .agg x.enc.toArray, .agg cs.toArray] w fun u w' => u = .tuple #[.int .i64 (Abs.vleaf x v (st.getLastD 0)).1, .int .i64 (Abs.vleaf x v (st.getLastD 0)).2] ∧ Ext w w' := by
  obtain ⟨a0, c0, a1, c1, a2, c2, a3, c3, rfl, q0, q1, q2, q3, q4, l0, l1, l2, l3⟩ := h.form
  refine K.start hmix E.p_expr_machine_value (args := [_, _, _]) (Nat.le_of_ble_eq_true rfl) ?_
  dsimp only [C.p_expr_machine_value]; refine Yy ?_
  (repeat' first
 | assumption
 | exact Ext.refl _
 | refine Ext.trans ?_ (by assumption)
 | refine K.wrap (by omega) ?_
 | refine K.ldb (by assumption) ?_ rfl ?_
 | refine K.ldb0 (by assumption) ?_ rfl ?_
 | refine K.ldE (by assumption) ?_ (by omega) rfl ?_
 | refine K.ldE0 (by assumption) ?_ (by omega) rfl ?_
 | refine K.ldAE (by assumption) ?_ (by omega) rfl ?_
 | refine K.iaC (by omega) ?_
 | refine K.condT (by first | assumption | omega) ?_
 | refine K.condF (by first | assumption | omega) ?_
 | refine K.condbT (by assumption) ?_
 | refine K.condbF (by assumption) ?_
 | simp -dsimp only [LL,B9,Nat.reduceAdd,Nat.reduceEqDiff,reduceIte,reduceCtorEq,Bool.false_eq_true])
  refine K.new fun w1 b1 hb1 he1 hc1 => ?_
  (repeat' first
 | assumption
 | exact Ext.refl _
 | refine Ext.trans ?_ (by assumption)
 | refine K.wrap (by omega) ?_
 | refine K.ldb (by assumption) ?_ rfl ?_
 | refine K.ldb0 (by assumption) ?_ rfl ?_
 | refine K.ldE (by assumption) ?_ (by omega) rfl ?_
 | refine K.ldE0 (by assumption) ?_ (by omega) rfl ?_
 | refine K.ldAE (by assumption) ?_ (by omega) rfl ?_
 | refine K.iaC (by omega) ?_
 | refine K.condT (by first | assumption | omega) ?_
 | refine K.condF (by first | assumption | omega) ?_
 | refine K.condbT (by assumption) ?_
 | refine K.condbF (by assumption) ?_
 | simp -dsimp only [LL,B9,Nat.reduceAdd,Nat.reduceEqDiff,reduceIte,reduceCtorEq,Bool.false_eq_true])
  refine K.new fun w2 b2 hb2 he2 hc2 => ?_
  have he := he1.trans he2
  have k1 : w2.heap[b1]? = some (.cells #[.int .i64 x.op, .int .i64 x.n] T.api_Node) := he2.obj hc1
  clear hc1
  (repeat' first
 | assumption
 | exact Ext.refl _
 | refine Ext.trans ?_ (by assumption)
 | refine K.wrap (by omega) ?_
 | refine K.ldb (by assumption) ?_ rfl ?_
 | refine K.ldb0 (by assumption) ?_ rfl ?_
 | refine K.ldE (by assumption) ?_ (by omega) rfl ?_
 | refine K.ldE0 (by assumption) ?_ (by omega) rfl ?_
 | refine K.ldAE (by assumption) ?_ (by omega) rfl ?_
 | refine K.iaC (by omega) ?_
 | refine K.condT (by first | assumption | omega) ?_
 | refine K.condF (by first | assumption | omega) ?_
 | refine K.condbT (by assumption) ?_
 | refine K.condbF (by assumption) ?_
 | simp -dsimp only [LL,B9,Nat.reduceAdd,Nat.reduceEqDiff,reduceIte,reduceCtorEq,Bool.false_eq_true])
  refine K.cond (fun g1 => ?_) (fun g1 => ?_)
  · have hk : Abs.vleaf x v (st.getLastD 0) = if Abs.within x.n then (x.n, 0) else (0, 10) := by rw [Abs.vleaf, if_pos g1]
    have ht : (Abs.tell (· + ·) x.n 0).2 = Abs.within x.n := by
      unfold Abs.tell
      have : Abs.within 0 = true := rfl
      simp only [Int.add_zero, this, Bool.and_true, Bool.and_self]
      split <;> simp_all
    rw [hk]
    (repeat' first
 | assumption
 | exact Ext.refl _
 | refine Ext.trans ?_ (by assumption)
 | refine K.wrap (by omega) ?_
 | refine K.ldb (by assumption) ?_ rfl ?_
 | refine K.ldb0 (by assumption) ?_ rfl ?_
 | refine K.ldE (by assumption) ?_ (by omega) rfl ?_
 | refine K.ldE0 (by assumption) ?_ (by omega) rfl ?_
 | refine K.ldAE (by assumption) ?_ (by omega) rfl ?_
 | refine K.iaC (by omega) ?_
 | refine K.condT (by first | assumption | omega) ?_
 | refine K.condF (by first | assumption | omega) ?_
 | refine K.condbT (by assumption) ?_
 | refine K.condbF (by assumption) ?_
 | simp -dsimp only [LL,B9,Nat.reduceAdd,Nat.reduceEqDiff,reduceIte,reduceCtorEq,Bool.false_eq_true])
    refine K.call (add_r x.n 0 w2) ?_
    rintro _ w3 ⟨rfl, he3⟩
    rw [ht]
    (repeat' first
 | assumption
 | exact Ext.refl _
 | refine Ext.trans ?_ (by assumption)
 | refine K.wrap (by omega) ?_
 | refine K.ldb (by assumption) ?_ rfl ?_
 | refine K.ldb0 (by assumption) ?_ rfl ?_
 | refine K.ldE (by assumption) ?_ (by omega) rfl ?_
 | refine K.ldE0 (by assumption) ?_ (by omega) rfl ?_
 | refine K.ldAE (by assumption) ?_ (by omega) rfl ?_
 | refine K.iaC (by omega) ?_
 | refine K.condT (by first | assumption | omega) ?_
 | refine K.condF (by first | assumption | omega) ?_
 | refine K.condbT (by assumption) ?_
 | refine K.condbF (by assumption) ?_
 | simp -dsimp only [LL,B9,Nat.reduceAdd,Nat.reduceEqDiff,reduceIte,reduceCtorEq,Bool.false_eq_true])
    refine K.condb (fun g2 => ?_) (fun g2 => ?_)
    all_goals
      (repeat' first
 | assumption
 | exact Ext.refl _
 | refine Ext.trans ?_ (by assumption)
 | refine K.wrap (by omega) ?_
 | refine K.ldb (by assumption) ?_ rfl ?_
 | refine K.ldb0 (by assumption) ?_ rfl ?_
 | refine K.ldE (by assumption) ?_ (by omega) rfl ?_
 | refine K.ldE0 (by assumption) ?_ (by omega) rfl ?_
 | refine K.ldAE (by assumption) ?_ (by omega) rfl ?_
 | refine K.iaC (by omega) ?_
 | refine K.condT (by first | assumption | omega) ?_
 | refine K.condF (by first | assumption | omega) ?_
 | refine K.condbT (by assumption) ?_
 | refine K.condbF (by assumption) ?_
 | simp -dsimp only [LL,B9,Nat.reduceAdd,Nat.reduceEqDiff,reduceIte,reduceCtorEq,Bool.false_eq_true])
      rw [g2]
      (refine ⟨?_, ?_⟩ <;> first | trivial | rfl | (repeat' first | assumption | exact Ext.refl _ | refine Ext.trans ?_ (by assumption)))
  by_cases hv : x.op = 2 ∨ x.op = 3
  · have hk : Abs.vleaf x v (st.getLastD 0) = (match Abs.nth v.vars x.n with | some l => if x.op = 2 then Abs.vat l 0 else (match Abs.nth l (st.getLastD 0 - 1) with | some y => (y, 0) | none => (0, 10)) | none => (0, 8)) := by
      rw [Abs.vleaf, if_neg g1]
      split
      · rename_i e; cases Abs.nth v.vars x.n <;> simp [e]
      · rename_i e
        rw [if_pos (by omega)]
        cases Abs.nth v.vars x.n with
        | none => rfl
        | some l => simp only [e, if_false]; cases Abs.nth l (st.getLastD 0 - 1) <;> rfl
    by_cases gn : x.n < 0 ∨ (v.vars.length : Int) ≤ x.n
    · rw [hk, Abs.nth_none gn]
      (repeat' (refine St ?_; first | (refine K.cond (fun _ => ?_) (fun _ => ?_) <;> try (exfalso; omega)) | refine K.condb (fun _ => ?_) (fun _ => ?_))) <;> try refine St ?_
      all_goals (refine ⟨?_, ?_⟩ <;> first | trivial | rfl | (repeat' first | assumption | exact Ext.refl _ | refine Ext.trans ?_ (by assumption)))
    obtain ⟨i, hi⟩ := Int.eq_ofNat_of_zero_le (show 0 ≤ x.n by omega)
    have hil : i < v.vars.length := by omega
    obtain ⟨a, rfl⟩ := q0.addr (by omega)
    obtain ⟨vi, hci, hri⟩ := q0.at i hil
    have hn : Abs.nth v.vars x.n = some v.vars[i] := by rw [hi, Abs.nth_some (by omega) (by omega)]; simp only [Int.toNat_natCast]
    rw [hi] at k1
    by_cases g2 : x.op = 2
    · have hk2 : Abs.vleaf x v (st.getLastD 0) = Abs.vat v.vars[i] 0 := by rw [hk, hn]; simp only [g2, if_true]
      rw [hk2]
      (repeat' first
 | assumption
 | exact Ext.refl _
 | refine Ext.trans ?_ (by assumption)
 | refine K.wrap (by omega) ?_
 | refine K.ldb (by assumption) ?_ rfl ?_
 | refine K.ldb0 (by assumption) ?_ rfl ?_
 | refine K.ldE (by assumption) ?_ (by omega) rfl ?_
 | refine K.ldE0 (by assumption) ?_ (by omega) rfl ?_
 | refine K.ldAE (by assumption) ?_ (by omega) rfl ?_
 | refine K.iaC (by omega) ?_
 | refine K.condT (by first | assumption | omega) ?_
 | refine K.condF (by first | assumption | omega) ?_
 | refine K.condbT (by assumption) ?_
 | refine K.condbF (by assumption) ?_
 | simp -dsimp only [LL,B9,Nat.reduceAdd,Nat.reduceEqDiff,reduceIte,reduceCtorEq,Bool.false_eq_true])
      refine K.ld (he.cell hci) ?_
      (repeat' first
 | assumption
 | exact Ext.refl _
 | refine Ext.trans ?_ (by assumption)
 | refine K.wrap (by omega) ?_
 | refine K.ldb (by assumption) ?_ rfl ?_
 | refine K.ldb0 (by assumption) ?_ rfl ?_
 | refine K.ldE (by assumption) ?_ (by omega) rfl ?_
 | refine K.ldE0 (by assumption) ?_ (by omega) rfl ?_
 | refine K.ldAE (by assumption) ?_ (by omega) rfl ?_
 | refine K.iaC (by omega) ?_
 | refine K.condT (by first | assumption | omega) ?_
 | refine K.condF (by first | assumption | omega) ?_
 | refine K.condbT (by assumption) ?_
 | refine K.condbF (by assumption) ?_
 | simp -dsimp only [LL,B9,Nat.reduceAdd,Nat.reduceEqDiff,reduceIte,reduceCtorEq,Bool.false_eq_true])
      refine K.call (at_r _ v.vars[i] 0 w2 (hri.ext he)) ?_
      rintro _ _ ⟨rfl, rfl⟩
      (repeat' first
 | assumption
 | exact Ext.refl _
 | refine Ext.trans ?_ (by assumption)
 | refine K.wrap (by omega) ?_
 | refine K.ldb (by assumption) ?_ rfl ?_
 | refine K.ldb0 (by assumption) ?_ rfl ?_
 | refine K.ldE (by assumption) ?_ (by omega) rfl ?_
 | refine K.ldE0 (by assumption) ?_ (by omega) rfl ?_
 | refine K.ldAE (by assumption) ?_ (by omega) rfl ?_
 | refine K.iaC (by omega) ?_
 | refine K.condT (by first | assumption | omega) ?_
 | refine K.condF (by first | assumption | omega) ?_
 | refine K.condbT (by assumption) ?_
 | refine K.condbF (by assumption) ?_
 | simp -dsimp only [LL,B9,Nat.reduceAdd,Nat.reduceEqDiff,reduceIte,reduceCtorEq,Bool.false_eq_true])
      (refine ⟨?_, ?_⟩ <;> first | trivial | rfl | (repeat' first | assumption | exact Ext.refl _ | refine Ext.trans ?_ (by assumption)))
    · have g3 : x.op = 3 := by omega
      have hst := h3 g3
      have hk3 : Abs.vleaf x v (st.getLastD 0) = (match Abs.nth v.vars[i] (st.getLastD 0 - 1) with | some y => (y, 0) | none => (0, 10)) := by rw [hk, hn]; simp only [g2, if_false]
      rw [hk3]
      clear hk3 hk
      (repeat' first
 | assumption
 | exact Ext.refl _
 | refine Ext.trans ?_ (by assumption)
 | refine K.wrap (by omega) ?_
 | refine K.ldb (by assumption) ?_ rfl ?_
 | refine K.ldb0 (by assumption) ?_ rfl ?_
 | refine K.ldE (by assumption) ?_ (by omega) rfl ?_
 | refine K.ldE0 (by assumption) ?_ (by omega) rfl ?_
 | refine K.ldAE (by assumption) ?_ (by omega) rfl ?_
 | refine K.iaC (by omega) ?_
 | refine K.condT (by first | assumption | omega) ?_
 | refine K.condF (by first | assumption | omega) ?_
 | refine K.condbT (by assumption) ?_
 | refine K.condbF (by assumption) ?_
 | simp -dsimp only [LL,B9,Nat.reduceAdd,Nat.reduceEqDiff,reduceIte,reduceCtorEq,Bool.false_eq_true])
      refine K.ld (he.cell hci) ?_
      (repeat' first
 | assumption
 | exact Ext.refl _
 | refine Ext.trans ?_ (by assumption)
 | refine K.wrap (by omega) ?_
 | refine K.ldb (by assumption) ?_ rfl ?_
 | refine K.ldb0 (by assumption) ?_ rfl ?_
 | refine K.ldE (by assumption) ?_ (by omega) rfl ?_
 | refine K.ldE0 (by assumption) ?_ (by omega) rfl ?_
 | refine K.ldAE (by assumption) ?_ (by omega) rfl ?_
 | refine K.iaC (by omega) ?_
 | refine K.condT (by first | assumption | omega) ?_
 | refine K.condF (by first | assumption | omega) ?_
 | refine K.condbT (by assumption) ?_
 | refine K.condbF (by assumption) ?_
 | simp -dsimp only [LL,B9,Nat.reduceAdd,Nat.reduceEqDiff,reduceIte,reduceCtorEq,Bool.false_eq_true])
      refine K.qfn _ (fun w' e => top_r base b w' m st (hm.ext (he.trans e)) hst) ?_
      (repeat' first
 | assumption
 | exact Ext.refl _
 | refine Ext.trans ?_ (by assumption)
 | refine K.wrap (by omega) ?_
 | refine K.ldb (by assumption) ?_ rfl ?_
 | refine K.ldb0 (by assumption) ?_ rfl ?_
 | refine K.ldE (by assumption) ?_ (by omega) rfl ?_
 | refine K.ldE0 (by assumption) ?_ (by omega) rfl ?_
 | refine K.ldAE (by assumption) ?_ (by omega) rfl ?_
 | refine K.iaC (by omega) ?_
 | refine K.condT (by first | assumption | omega) ?_
 | refine K.condF (by first | assumption | omega) ?_
 | refine K.condbT (by assumption) ?_
 | refine K.condbF (by assumption) ?_
 | simp -dsimp only [LL,B9,Nat.reduceAdd,Nat.reduceEqDiff,reduceIte,reduceCtorEq,Bool.false_eq_true])
      refine K.wrapr ?_
      (repeat' first
 | assumption
 | exact Ext.refl _
 | refine Ext.trans ?_ (by assumption)
 | refine K.wrap (by omega) ?_
 | refine K.ldb (by assumption) ?_ rfl ?_
 | refine K.ldb0 (by assumption) ?_ rfl ?_
 | refine K.ldE (by assumption) ?_ (by omega) rfl ?_
 | refine K.ldE0 (by assumption) ?_ (by omega) rfl ?_
 | refine K.ldAE (by assumption) ?_ (by omega) rfl ?_
 | refine K.iaC (by omega) ?_
 | refine K.condT (by first | assumption | omega) ?_
 | refine K.condF (by first | assumption | omega) ?_
 | refine K.condbT (by assumption) ?_
 | refine K.condbF (by assumption) ?_
 | simp -dsimp only [LL,B9,Nat.reduceAdd,Nat.reduceEqDiff,reduceIte,reduceCtorEq,Bool.false_eq_true])
      refine K.qfn _ (fun w' e => (at_r _ v.vars[i] _ w' (hri.ext (he.trans e))).mono fun _ _ ⟨h1, h2⟩ => ⟨h1, h2 ▸ Ext.refl _⟩) ?_
      (repeat' first
 | assumption
 | exact Ext.refl _
 | refine Ext.trans ?_ (by assumption)
 | refine K.wrap (by omega) ?_
 | refine K.ldb (by assumption) ?_ rfl ?_
 | refine K.ldb0 (by assumption) ?_ rfl ?_
 | refine K.ldE (by assumption) ?_ (by omega) rfl ?_
 | refine K.ldE0 (by assumption) ?_ (by omega) rfl ?_
 | refine K.ldAE (by assumption) ?_ (by omega) rfl ?_
 | refine K.iaC (by omega) ?_
 | refine K.condT (by first | assumption | omega) ?_
 | refine K.condF (by first | assumption | omega) ?_
 | refine K.condbT (by assumption) ?_
 | refine K.condbF (by assumption) ?_
 | simp -dsimp only [LL,B9,Nat.reduceAdd,Nat.reduceEqDiff,reduceIte,reduceCtorEq,Bool.false_eq_true])
      intro w3 he3
      have hgl : Abs.inI (st.getLastD 0) := by rw [getLast_eq _ hst]; exact hg _ (List.getElem_mem _)
      obtain ⟨oi, ci, rfl, li⟩ := hri.form
      have hw := vat_wrap _ li _ hgl
      cases hq : Abs.nth v.vars[i] (IntKind.i64.wrap (st.getLastD 0 - 1)) with
      | none =>
        have e1 : Abs.vat v.vars[i] (IntKind.i64.wrap (st.getLastD 0 - 1)) = (0, 8) := by rw [Abs.vat, hq]
        rw [e1]
        (repeat' first
 | assumption
 | exact Ext.refl _
 | refine Ext.trans ?_ (by assumption)
 | refine K.wrap (by omega) ?_
 | refine K.ldb (by assumption) ?_ rfl ?_
 | refine K.ldb0 (by assumption) ?_ rfl ?_
 | refine K.ldE (by assumption) ?_ (by omega) rfl ?_
 | refine K.ldE0 (by assumption) ?_ (by omega) rfl ?_
 | refine K.ldAE (by assumption) ?_ (by omega) rfl ?_
 | refine K.iaC (by omega) ?_
 | refine K.condT (by first | assumption | omega) ?_
 | refine K.condF (by first | assumption | omega) ?_
 | refine K.condbT (by assumption) ?_
 | refine K.condbF (by assumption) ?_
 | simp -dsimp only [LL,B9,Nat.reduceAdd,Nat.reduceEqDiff,reduceIte,reduceCtorEq,Bool.false_eq_true])
        rw [← hw, hq]
        (refine ⟨?_, ?_⟩ <;> first | trivial | rfl | (repeat' first | assumption | exact Ext.refl _ | refine Ext.trans ?_ (by assumption)))
      | some y =>
        have e1 : Abs.vat v.vars[i] (IntKind.i64.wrap (st.getLastD 0 - 1)) = (y, 0) := by rw [Abs.vat, hq]
        rw [e1]
        (repeat' first
 | assumption
 | exact Ext.refl _
 | refine Ext.trans ?_ (by assumption)
 | refine K.wrap (by omega) ?_
 | refine K.ldb (by assumption) ?_ rfl ?_
 | refine K.ldb0 (by assumption) ?_ rfl ?_
 | refine K.ldE (by assumption) ?_ (by omega) rfl ?_
 | refine K.ldE0 (by assumption) ?_ (by omega) rfl ?_
 | refine K.ldAE (by assumption) ?_ (by omega) rfl ?_
 | refine K.iaC (by omega) ?_
 | refine K.condT (by first | assumption | omega) ?_
 | refine K.condF (by first | assumption | omega) ?_
 | refine K.condbT (by assumption) ?_
 | refine K.condbF (by assumption) ?_
 | simp -dsimp only [LL,B9,Nat.reduceAdd,Nat.reduceEqDiff,reduceIte,reduceCtorEq,Bool.false_eq_true])
        rw [← hw, hq]
        (refine ⟨?_, ?_⟩ <;> first | trivial | rfl | (repeat' first | assumption | exact Ext.refl _ | refine Ext.trans ?_ (by assumption)))
  rw [Abs.vleaf, if_neg g1, if_neg (by omega), if_neg (by omega)]
  (repeat' first
 | assumption
 | exact Ext.refl _
 | refine Ext.trans ?_ (by assumption)
 | refine K.wrap (by omega) ?_
 | refine K.ldb (by assumption) ?_ rfl ?_
 | refine K.ldb0 (by assumption) ?_ rfl ?_
 | refine K.ldE (by assumption) ?_ (by omega) rfl ?_
 | refine K.ldE0 (by assumption) ?_ (by omega) rfl ?_
 | refine K.ldAE (by assumption) ?_ (by omega) rfl ?_
 | refine K.iaC (by omega) ?_
 | refine K.condT (by first | assumption | omega) ?_
 | refine K.condF (by first | assumption | omega) ?_
 | refine K.condbT (by assumption) ?_
 | refine K.condbF (by assumption) ?_
 | simp -dsimp only [LL,B9,Nat.reduceAdd,Nat.reduceEqDiff,reduceIte,reduceCtorEq,Bool.false_eq_true])
  refine K.cond (fun g4 => ?_) (fun g4 => ?_)
  · rw [if_pos g4]
    (repeat' first
 | assumption
 | exact Ext.refl _
 | refine Ext.trans ?_ (by assumption)
 | refine K.wrap (by omega) ?_
 | refine K.ldb (by assumption) ?_ rfl ?_
 | refine K.ldb0 (by assumption) ?_ rfl ?_
 | refine K.ldE (by assumption) ?_ (by omega) rfl ?_
 | refine K.ldE0 (by assumption) ?_ (by omega) rfl ?_
 | refine K.ldAE (by assumption) ?_ (by omega) rfl ?_
 | refine K.iaC (by omega) ?_
 | refine K.condT (by first | assumption | omega) ?_
 | refine K.condF (by first | assumption | omega) ?_
 | refine K.condbT (by assumption) ?_
 | refine K.condbF (by assumption) ?_
 | simp -dsimp only [LL,B9,Nat.reduceAdd,Nat.reduceEqDiff,reduceIte,reduceCtorEq,Bool.false_eq_true])
    refine K.call (at_r _ v.locals x.n w2 (q2.ext he)) ?_
    rintro _ _ ⟨rfl, rfl⟩
    (repeat' first
 | assumption
 | exact Ext.refl _
 | refine Ext.trans ?_ (by assumption)
 | refine K.wrap (by omega) ?_
 | refine K.ldb (by assumption) ?_ rfl ?_
 | refine K.ldb0 (by assumption) ?_ rfl ?_
 | refine K.ldE (by assumption) ?_ (by omega) rfl ?_
 | refine K.ldE0 (by assumption) ?_ (by omega) rfl ?_
 | refine K.ldAE (by assumption) ?_ (by omega) rfl ?_
 | refine K.iaC (by omega) ?_
 | refine K.condT (by first | assumption | omega) ?_
 | refine K.condF (by first | assumption | omega) ?_
 | refine K.condbT (by assumption) ?_
 | refine K.condbF (by assumption) ?_
 | simp -dsimp only [LL,B9,Nat.reduceAdd,Nat.reduceEqDiff,reduceIte,reduceCtorEq,Bool.false_eq_true])
    (refine ⟨?_, ?_⟩ <;> first | trivial | rfl | (repeat' first | assumption | exact Ext.refl _ | refine Ext.trans ?_ (by assumption)))
  rw [if_neg g4]
  (repeat' first
 | assumption
 | exact Ext.refl _
 | refine Ext.trans ?_ (by assumption)
 | refine K.wrap (by omega) ?_
 | refine K.ldb (by assumption) ?_ rfl ?_
 | refine K.ldb0 (by assumption) ?_ rfl ?_
 | refine K.ldE (by assumption) ?_ (by omega) rfl ?_
 | refine K.ldE0 (by assumption) ?_ (by omega) rfl ?_
 | refine K.ldAE (by assumption) ?_ (by omega) rfl ?_
 | refine K.iaC (by omega) ?_
 | refine K.condT (by first | assumption | omega) ?_
 | refine K.condF (by first | assumption | omega) ?_
 | refine K.condbT (by assumption) ?_
 | refine K.condbF (by assumption) ?_
 | simp -dsimp only [LL,B9,Nat.reduceAdd,Nat.reduceEqDiff,reduceIte,reduceCtorEq,Bool.false_eq_true])
  refine K.cond (fun g6 => ?_) (fun g6 => ?_)
  · rw [if_pos g6]
    (repeat' first
 | assumption
 | exact Ext.refl _
 | refine Ext.trans ?_ (by assumption)
 | refine K.wrap (by omega) ?_
 | refine K.ldb (by assumption) ?_ rfl ?_
 | refine K.ldb0 (by assumption) ?_ rfl ?_
 | refine K.ldE (by assumption) ?_ (by omega) rfl ?_
 | refine K.ldE0 (by assumption) ?_ (by omega) rfl ?_
 | refine K.ldAE (by assumption) ?_ (by omega) rfl ?_
 | refine K.iaC (by omega) ?_
 | refine K.condT (by first | assumption | omega) ?_
 | refine K.condF (by first | assumption | omega) ?_
 | refine K.condbT (by assumption) ?_
 | refine K.condbF (by assumption) ?_
 | simp -dsimp only [LL,B9,Nat.reduceAdd,Nat.reduceEqDiff,reduceIte,reduceCtorEq,Bool.false_eq_true])
    refine K.call (at_r _ v.lens x.n w2 (q1.ext he)) ?_
    rintro _ _ ⟨rfl, rfl⟩
    (repeat' first
 | assumption
 | exact Ext.refl _
 | refine Ext.trans ?_ (by assumption)
 | refine K.wrap (by omega) ?_
 | refine K.ldb (by assumption) ?_ rfl ?_
 | refine K.ldb0 (by assumption) ?_ rfl ?_
 | refine K.ldE (by assumption) ?_ (by omega) rfl ?_
 | refine K.ldE0 (by assumption) ?_ (by omega) rfl ?_
 | refine K.ldAE (by assumption) ?_ (by omega) rfl ?_
 | refine K.iaC (by omega) ?_
 | refine K.condT (by first | assumption | omega) ?_
 | refine K.condF (by first | assumption | omega) ?_
 | refine K.condbT (by assumption) ?_
 | refine K.condbF (by assumption) ?_
 | simp -dsimp only [LL,B9,Nat.reduceAdd,Nat.reduceEqDiff,reduceIte,reduceCtorEq,Bool.false_eq_true])
    (refine ⟨?_, ?_⟩ <;> first | trivial | rfl | (repeat' first | assumption | exact Ext.refl _ | refine Ext.trans ?_ (by assumption)))
  rw [if_neg g6]
  (repeat' first
 | assumption
 | exact Ext.refl _
 | refine Ext.trans ?_ (by assumption)
 | refine K.wrap (by omega) ?_
 | refine K.ldb (by assumption) ?_ rfl ?_
 | refine K.ldb0 (by assumption) ?_ rfl ?_
 | refine K.ldE (by assumption) ?_ (by omega) rfl ?_
 | refine K.ldE0 (by assumption) ?_ (by omega) rfl ?_
 | refine K.ldAE (by assumption) ?_ (by omega) rfl ?_
 | refine K.iaC (by omega) ?_
 | refine K.condT (by first | assumption | omega) ?_
 | refine K.condF (by first | assumption | omega) ?_
 | refine K.condbT (by assumption) ?_
 | refine K.condbF (by assumption) ?_
 | simp -dsimp only [LL,B9,Nat.reduceAdd,Nat.reduceEqDiff,reduceIte,reduceCtorEq,Bool.false_eq_true])
  refine K.cond (fun g5 => ?_) (fun g5 => ?_)
  · rw [if_pos g5]
    (repeat' first
 | assumption
 | exact Ext.refl _
 | refine Ext.trans ?_ (by assumption)
 | refine K.wrap (by omega) ?_
 | refine K.ldb (by assumption) ?_ rfl ?_
 | refine K.ldb0 (by assumption) ?_ rfl ?_
 | refine K.ldE (by assumption) ?_ (by omega) rfl ?_
 | refine K.ldE0 (by assumption) ?_ (by omega) rfl ?_
 | refine K.ldAE (by assumption) ?_ (by omega) rfl ?_
 | refine K.iaC (by omega) ?_
 | refine K.condT (by first | assumption | omega) ?_
 | refine K.condF (by first | assumption | omega) ?_
 | refine K.condbT (by assumption) ?_
 | refine K.condbF (by assumption) ?_
 | simp -dsimp only [LL,B9,Nat.reduceAdd,Nat.reduceEqDiff,reduceIte,reduceCtorEq,Bool.false_eq_true])
    (refine ⟨?_, ?_⟩ <;> first | trivial | rfl | (repeat' first | assumption | exact Ext.refl _ | refine Ext.trans ?_ (by assumption)))
  rw [if_neg g5]
  (repeat' first
 | assumption
 | exact Ext.refl _
 | refine Ext.trans ?_ (by assumption)
 | refine K.wrap (by omega) ?_
 | refine K.ldb (by assumption) ?_ rfl ?_
 | refine K.ldb0 (by assumption) ?_ rfl ?_
 | refine K.ldE (by assumption) ?_ (by omega) rfl ?_
 | refine K.ldE0 (by assumption) ?_ (by omega) rfl ?_
 | refine K.ldAE (by assumption) ?_ (by omega) rfl ?_
 | refine K.iaC (by omega) ?_
 | refine K.condT (by first | assumption | omega) ?_
 | refine K.condF (by first | assumption | omega) ?_
 | refine K.condbT (by assumption) ?_
 | refine K.condbF (by assumption) ?_
 | simp -dsimp only [LL,B9,Nat.reduceAdd,Nat.reduceEqDiff,reduceIte,reduceCtorEq,Bool.false_eq_true])
  refine K.cond (fun g7 => ?_) (fun g7 => ?_)
  rotate_left
  · rw [if_neg g7]
    (repeat' first
 | assumption
 | exact Ext.refl _
 | refine Ext.trans ?_ (by assumption)
 | refine K.wrap (by omega) ?_
 | refine K.ldb (by assumption) ?_ rfl ?_
 | refine K.ldb0 (by assumption) ?_ rfl ?_
 | refine K.ldE (by assumption) ?_ (by omega) rfl ?_
 | refine K.ldE0 (by assumption) ?_ (by omega) rfl ?_
 | refine K.ldAE (by assumption) ?_ (by omega) rfl ?_
 | refine K.iaC (by omega) ?_
 | refine K.condT (by first | assumption | omega) ?_
 | refine K.condF (by first | assumption | omega) ?_
 | refine K.condbT (by assumption) ?_
 | refine K.condbF (by assumption) ?_
 | simp -dsimp only [LL,B9,Nat.reduceAdd,Nat.reduceEqDiff,reduceIte,reduceCtorEq,Bool.false_eq_true])
    (refine ⟨?_, ?_⟩ <;> first | trivial | rfl | (repeat' first | assumption | exact Ext.refl _ | refine Ext.trans ?_ (by assumption)))
  rw [if_pos g7]
  (repeat' first
 | assumption
 | exact Ext.refl _
 | refine Ext.trans ?_ (by assumption)
 | refine K.wrap (by omega) ?_
 | refine K.ldb (by assumption) ?_ rfl ?_
 | refine K.ldb0 (by assumption) ?_ rfl ?_
 | refine K.ldE (by assumption) ?_ (by omega) rfl ?_
 | refine K.ldE0 (by assumption) ?_ (by omega) rfl ?_
 | refine K.ldAE (by assumption) ?_ (by omega) rfl ?_
 | refine K.iaC (by omega) ?_
 | refine K.condT (by first | assumption | omega) ?_
 | refine K.condF (by first | assumption | omega) ?_
 | refine K.condbT (by assumption) ?_
 | refine K.condbF (by assumption) ?_
 | simp -dsimp only [LL,B9,Nat.reduceAdd,Nat.reduceEqDiff,reduceIte,reduceCtorEq,Bool.false_eq_true])
  refine K.cond (fun g8 => ?_) (fun g8 => ?_)
  · (repeat' first
 | assumption
 | exact Ext.refl _
 | refine Ext.trans ?_ (by assumption)
 | refine K.wrap (by omega) ?_
 | refine K.ldb (by assumption) ?_ rfl ?_
 | refine K.ldb0 (by assumption) ?_ rfl ?_
 | refine K.ldE (by assumption) ?_ (by omega) rfl ?_
 | refine K.ldE0 (by assumption) ?_ (by omega) rfl ?_
 | refine K.ldAE (by assumption) ?_ (by omega) rfl ?_
 | refine K.iaC (by omega) ?_
 | refine K.condT (by first | assumption | omega) ?_
 | refine K.condF (by first | assumption | omega) ?_
 | refine K.condbT (by assumption) ?_
 | refine K.condbF (by assumption) ?_
 | simp -dsimp only [LL,B9,Nat.reduceAdd,Nat.reduceEqDiff,reduceIte,reduceCtorEq,Bool.false_eq_true])
    rw [if_neg (by omega)]
    (refine ⟨?_, ?_⟩ <;> first | trivial | rfl | (repeat' first | assumption | exact Ext.refl _ | refine Ext.trans ?_ (by assumption)))
  rw [if_pos (by omega)]
  obtain ⟨i, hi⟩ := Int.eq_ofNat_of_zero_le (show 0 ≤ x.n by omega)
  obtain ⟨_, hx2⟩ := hx.n
  rw [hi] at hx2
  have hq : x.n.tdiv 16 = ((i / 16 : Nat) : Int) := by rw [hi]; rfl
  have hmd : x.n.tmod 16 = ((i % 16 : Nat) : Int) := by rw [hi]; rfl
  (repeat' first
 | assumption
 | exact Ext.refl _
 | refine Ext.trans ?_ (by assumption)
 | refine K.wrap (by omega) ?_
 | refine K.ldb (by assumption) ?_ rfl ?_
 | refine K.ldb0 (by assumption) ?_ rfl ?_
 | refine K.ldE (by assumption) ?_ (by omega) rfl ?_
 | refine K.ldE0 (by assumption) ?_ (by omega) rfl ?_
 | refine K.ldAE (by assumption) ?_ (by omega) rfl ?_
 | refine K.iaC (by omega) ?_
 | refine K.condT (by first | assumption | omega) ?_
 | refine K.condF (by first | assumption | omega) ?_
 | refine K.condbT (by assumption) ?_
 | refine K.condbF (by assumption) ?_
 | simp -dsimp only [LL,B9,Nat.reduceAdd,Nat.reduceEqDiff,reduceIte,reduceCtorEq,Bool.false_eq_true])
  refine K.quo (by omega) ?_
  rw [hq]
  (repeat' first
 | assumption
 | exact Ext.refl _
 | refine Ext.trans ?_ (by assumption)
 | refine K.wrap (by omega) ?_
 | refine K.ldb (by assumption) ?_ rfl ?_
 | refine K.ldb0 (by assumption) ?_ rfl ?_
 | refine K.ldE (by assumption) ?_ (by omega) rfl ?_
 | refine K.ldE0 (by assumption) ?_ (by omega) rfl ?_
 | refine K.ldAE (by assumption) ?_ (by omega) rfl ?_
 | refine K.iaC (by omega) ?_
 | refine K.condT (by first | assumption | omega) ?_
 | refine K.condF (by first | assumption | omega) ?_
 | refine K.condbT (by assumption) ?_
 | refine K.condbF (by assumption) ?_
 | simp -dsimp only [LL,B9,Nat.reduceAdd,Nat.reduceEqDiff,reduceIte,reduceCtorEq,Bool.false_eq_true])
  refine K.cond (fun g9 => ?_) (fun g9 => ?_)
  · (repeat' first
 | assumption
 | exact Ext.refl _
 | refine Ext.trans ?_ (by assumption)
 | refine K.wrap (by omega) ?_
 | refine K.ldb (by assumption) ?_ rfl ?_
 | refine K.ldb0 (by assumption) ?_ rfl ?_
 | refine K.ldE (by assumption) ?_ (by omega) rfl ?_
 | refine K.ldE0 (by assumption) ?_ (by omega) rfl ?_
 | refine K.ldAE (by assumption) ?_ (by omega) rfl ?_
 | refine K.iaC (by omega) ?_
 | refine K.condT (by first | assumption | omega) ?_
 | refine K.condF (by first | assumption | omega) ?_
 | refine K.condbT (by assumption) ?_
 | refine K.condbF (by assumption) ?_
 | simp -dsimp only [LL,B9,Nat.reduceAdd,Nat.reduceEqDiff,reduceIte,reduceCtorEq,Bool.false_eq_true])
    rw [Abs.nth_none (.inr (by omega))]
    (refine ⟨?_, ?_⟩ <;> first | trivial | rfl | (repeat' first | assumption | exact Ext.refl _ | refine Ext.trans ?_ (by assumption)))
  have hj : i / 16 < v.at_.length := by omega
  obtain ⟨a, rfl⟩ := q3.addr (by omega)
  obtain ⟨vi, hci, hri⟩ := q3.at (i / 16) hj
  rw [Abs.nth_some (by omega) (by omega)]
  simp only [Int.toNat_natCast]
  (repeat' first
 | assumption
 | exact Ext.refl _
 | refine Ext.trans ?_ (by assumption)
 | refine K.wrap (by omega) ?_
 | refine K.ldb (by assumption) ?_ rfl ?_
 | refine K.ldb0 (by assumption) ?_ rfl ?_
 | refine K.ldE (by assumption) ?_ (by omega) rfl ?_
 | refine K.ldE0 (by assumption) ?_ (by omega) rfl ?_
 | refine K.ldAE (by assumption) ?_ (by omega) rfl ?_
 | refine K.iaC (by omega) ?_
 | refine K.condT (by first | assumption | omega) ?_
 | refine K.condF (by first | assumption | omega) ?_
 | refine K.condbT (by assumption) ?_
 | refine K.condbF (by assumption) ?_
 | simp -dsimp only [LL,B9,Nat.reduceAdd,Nat.reduceEqDiff,reduceIte,reduceCtorEq,Bool.false_eq_true])
  refine K.quo (by omega) ?_
  rw [hq]
  (repeat' first
 | assumption
 | exact Ext.refl _
 | refine Ext.trans ?_ (by assumption)
 | refine K.wrap (by omega) ?_
 | refine K.ldb (by assumption) ?_ rfl ?_
 | refine K.ldb0 (by assumption) ?_ rfl ?_
 | refine K.ldE (by assumption) ?_ (by omega) rfl ?_
 | refine K.ldE0 (by assumption) ?_ (by omega) rfl ?_
 | refine K.ldAE (by assumption) ?_ (by omega) rfl ?_
 | refine K.iaC (by omega) ?_
 | refine K.condT (by first | assumption | omega) ?_
 | refine K.condF (by first | assumption | omega) ?_
 | refine K.condbT (by assumption) ?_
 | refine K.condbF (by assumption) ?_
 | simp -dsimp only [LL,B9,Nat.reduceAdd,Nat.reduceEqDiff,reduceIte,reduceCtorEq,Bool.false_eq_true])
  refine K.ld (he.cell hci) ?_
  (repeat' first
 | assumption
 | exact Ext.refl _
 | refine Ext.trans ?_ (by assumption)
 | refine K.wrap (by omega) ?_
 | refine K.ldb (by assumption) ?_ rfl ?_
 | refine K.ldb0 (by assumption) ?_ rfl ?_
 | refine K.ldE (by assumption) ?_ (by omega) rfl ?_
 | refine K.ldE0 (by assumption) ?_ (by omega) rfl ?_
 | refine K.ldAE (by assumption) ?_ (by omega) rfl ?_
 | refine K.iaC (by omega) ?_
 | refine K.condT (by first | assumption | omega) ?_
 | refine K.condF (by first | assumption | omega) ?_
 | refine K.condbT (by assumption) ?_
 | refine K.condbF (by assumption) ?_
 | simp -dsimp only [LL,B9,Nat.reduceAdd,Nat.reduceEqDiff,reduceIte,reduceCtorEq,Bool.false_eq_true])
  refine K.rem (by omega) ?_
  (repeat' first
 | assumption
 | exact Ext.refl _
 | refine Ext.trans ?_ (by assumption)
 | refine K.wrap (by omega) ?_
 | refine K.ldb (by assumption) ?_ rfl ?_
 | refine K.ldb0 (by assumption) ?_ rfl ?_
 | refine K.ldE (by assumption) ?_ (by omega) rfl ?_
 | refine K.ldE0 (by assumption) ?_ (by omega) rfl ?_
 | refine K.ldAE (by assumption) ?_ (by omega) rfl ?_
 | refine K.iaC (by omega) ?_
 | refine K.condT (by first | assumption | omega) ?_
 | refine K.condF (by first | assumption | omega) ?_
 | refine K.condbT (by assumption) ?_
 | refine K.condbF (by assumption) ?_
 | simp -dsimp only [LL,B9,Nat.reduceAdd,Nat.reduceEqDiff,reduceIte,reduceCtorEq,Bool.false_eq_true])
  refine K.qfn _ (fun w' e => (at_r _ v.at_[i / 16] _ w' (hri.ext (he.trans e))).mono fun _ _ ⟨h1, h2⟩ => ⟨h1, h2 ▸ Ext.refl _⟩) ?_
  (repeat' first
 | assumption
 | exact Ext.refl _
 | refine Ext.trans ?_ (by assumption)
 | refine K.wrap (by omega) ?_
 | refine K.ldb (by assumption) ?_ rfl ?_
 | refine K.ldb0 (by assumption) ?_ rfl ?_
 | refine K.ldE (by assumption) ?_ (by omega) rfl ?_
 | refine K.ldE0 (by assumption) ?_ (by omega) rfl ?_
 | refine K.ldAE (by assumption) ?_ (by omega) rfl ?_
 | refine K.iaC (by omega) ?_
 | refine K.condT (by first | assumption | omega) ?_
 | refine K.condF (by first | assumption | omega) ?_
 | refine K.condbT (by assumption) ?_
 | refine K.condbF (by assumption) ?_
 | simp -dsimp only [LL,B9,Nat.reduceAdd,Nat.reduceEqDiff,reduceIte,reduceCtorEq,Bool.false_eq_true])
  intro w3 he3
  (repeat' first
 | assumption
 | exact Ext.refl _
 | refine Ext.trans ?_ (by assumption)
 | refine K.wrap (by omega) ?_
 | refine K.ldb (by assumption) ?_ rfl ?_
 | refine K.ldb0 (by assumption) ?_ rfl ?_
 | refine K.ldE (by assumption) ?_ (by omega) rfl ?_
 | refine K.ldE0 (by assumption) ?_ (by omega) rfl ?_
 | refine K.ldAE (by assumption) ?_ (by omega) rfl ?_
 | refine K.iaC (by omega) ?_
 | refine K.condT (by first | assumption | omega) ?_
 | refine K.condF (by first | assumption | omega) ?_
 | refine K.condbT (by assumption) ?_
 | refine K.condbF (by assumption) ?_
 | simp -dsimp only [LL,B9,Nat.reduceAdd,Nat.reduceEqDiff,reduceIte,reduceCtorEq,Bool.false_eq_true])
  (refine ⟨?_, ?_⟩ <;> first | trivial | rfl | (repeat' first | assumption | exact Ext.refl _ | refine Ext.trans ?_ (by assumption)))
end Go.Proofs.Ytfdohkdifdemeaa
end
section
/- The value of an expression: the whole. -/
set_option maxRecDepth 4000
set_option linter.unusedSimpArgs false
set_option maxHeartbeats 1600000
namespace Abs
open Go Go.RowKit Lite
structure Env.ok (v : Env) : Prop where
  vars : ∀ l ∈ v.vars, ∀ z ∈ l, inI z
  lens : ∀ z ∈ v.lens, inI z
  locals : ∀ z ∈ v.locals, inI z
  at_ : ∀ l ∈ v.at_, ∀ z ∈ l, inI z
  self : inI v.self
theorem rowss_ok {w : World} {v : Value} {l : List (List Int)} (h : Rowss w v l) : ∀ r ∈ l, ∀ z ∈ r, inI z := by
  intro r hr
  obtain ⟨i, hi, rfl⟩ := List.mem_iff_getElem.1 hr
  obtain ⟨oa, cap, rfl, _⟩ := h.form
  obtain ⟨a, rfl⟩ := h.addr (by omega)
  obtain ⟨vi, _, h2⟩ := h.at i hi
  exact h2.ok
theorem EnvIs.ok {w : World} {cs : List Value} {v : Env} (h : EnvIs w cs v) : v.ok := by
  obtain ⟨v0, v1, v2, v3, _, h0, h1, h2, h3, h4⟩ := h.ex
  exact ⟨rowss_ok h0, h1.ok, h2.ok, rowss_ok h3, h4⟩
theorem nth_mem {α : Type} {l : List α} {n : Int} {x : α} (h : nth l n = some x) : x ∈ l := by
  unfold nth at h
  split at h
  · exact List.mem_of_getElem? h
  · cases h
theorem inI0 : inI 0 := ⟨by decide, by decide⟩
theorem within_inI {n : Int} (h : within n = true) : inI n := by simp [within] at h; exact ⟨by omega, by omega⟩
theorem tell_inI (f : Int → Int → Int) (a b : Int) : inI (tell f a b).1 := by
  unfold tell
  split
  · rename_i h; simp only [Bool.and_eq_true] at h; exact within_inI h.2
  · exact inI0
theorem bit_inI (b : Bool) : inI (bit b) := by cases b <;> exact ⟨by decide, by decide⟩
theorem does_inI {x : Int} {o : OpD} (h : opOf x = some o) (a b : Int) : inI (o.does a b).1 := by
  unfold opOf at h
  repeat' split at h
  all_goals first | (cases h; first | exact tell_inI _ _ _ | exact bit_inI _) | cases h
theorem vat_inI {l : List Int} {n : Int} (h : ∀ z ∈ l, inI z) : inI (vat l n).1 := by
  unfold vat
  split
  · rename_i x hx; exact h x (nth_mem hx)
  · exact inI0
theorem fEval_good {v : Env} (hv : v.ok) {x : Node} {st : List Int} (hx : x.ok) : inI (fEval v x st).1 := by
  unfold fEval
  split
  · rename_i o ho
    unfold vtwo
    simp only
    split
    · exact does_inI ho _ _
    · exact inI0
  · unfold vleaf
    (repeat' split)
    all_goals first
      | exact hx.n
      | exact inI0
      | exact hv.self
      | exact vat_inI hv.locals
      | exact vat_inI hv.lens
      | (rename_i hh; exact vat_inI (hv.vars _ (nth_mem hh)))
      | (rename_i hh; exact vat_inI (hv.at_ _ (nth_mem hh)))
      | (rename_i h1 _ _ h2; exact hv.vars _ (nth_mem h1) _ (nth_mem h2))
      | (rename_i h2; rename_i h1; exact hv.vars _ (nth_mem h1) _ (nth_mem h2))
end Abs
namespace Go.Proofs.Ytfdohkdifdemeaa
open Go Go.RowKit Lite
theorem vtwo_r (o : Abs.OpD) (u lv : Value) (l : List Int) (w : World) (hl : Ints w lv l) (h0 : 0 < l.length) (hd : DoesR w u o.does) :
    Ret Try.prog F.expr_Eval_2 #[.agg #[.int .i64 o.parts, .int .i64 o.takes, .int .i64 o.makes, u], lv] w fun v w' => v = .tuple #[.int .i64 (Abs.vtwo o l).1, .int .i64 (Abs.vtwo o l).2] ∧ Ext w w' := by
  obtain ⟨oa, cap, rfl, hlen⟩ := hl.form
  refine K.start hmix E.expr_Eval_2 (args := [_, _]) (Nat.le_of_ble_eq_true rfl) ?_
  dsimp only [C.expr_Eval_2]; refine Yy ?_
  (repeat' first
 | assumption
 | exact Ext.refl _
 | refine Ext.trans ?_ (by assumption)
 | refine K.wrap (by omega) ?_
 | refine K.ldb (by assumption) ?_ rfl ?_
 | refine K.ldb0 (by assumption) ?_ rfl ?_
 | refine K.ldE (by assumption) ?_ (by omega) rfl ?_
 | refine K.ldE0 (by assumption) ?_ (by omega) rfl ?_
 | refine K.ldAE (by assumption) ?_ (by omega) rfl ?_
 | refine K.iaC (by omega) ?_
 | refine K.condT (by first | assumption | omega) ?_
 | refine K.condF (by first | assumption | omega) ?_
 | refine K.condbT (by assumption) ?_
 | refine K.condbF (by assumption) ?_
 | simp -dsimp only [LL,B9,Nat.reduceAdd,Nat.reduceEqDiff,reduceIte,reduceCtorEq,Bool.false_eq_true])
  refine K.new fun w1 b hb he1 hc1 => ?_
  obtain ⟨a, rfl⟩ := hl.addr h0
  have hl1 : Ints w1 (.slice (some a) l.length cap) l := hl.ext he1
  (repeat' first
 | assumption
 | exact Ext.refl _
 | refine Ext.trans ?_ (by assumption)
 | refine K.wrap (by omega) ?_
 | refine K.ldb (by assumption) ?_ rfl ?_
 | refine K.ldb0 (by assumption) ?_ rfl ?_
 | refine K.ldE (by assumption) ?_ (by omega) rfl ?_
 | refine K.ldE0 (by assumption) ?_ (by omega) rfl ?_
 | refine K.ldAE (by assumption) ?_ (by omega) rfl ?_
 | refine K.iaC (by omega) ?_
 | refine K.condT (by first | assumption | omega) ?_
 | refine K.condF (by first | assumption | omega) ?_
 | refine K.condbT (by assumption) ?_
 | refine K.condbF (by assumption) ?_
 | simp -dsimp only [LL,B9,Nat.reduceAdd,Nat.reduceEqDiff,reduceIte,reduceCtorEq,Bool.false_eq_true])
  refine K.ian (l.length - 1) (by omega) (by omega) ?_
  (repeat' first
 | assumption
 | exact Ext.refl _
 | refine Ext.trans ?_ (by assumption)
 | refine K.wrap (by omega) ?_
 | refine K.ldb (by assumption) ?_ rfl ?_
 | refine K.ldb0 (by assumption) ?_ rfl ?_
 | refine K.ldE (by assumption) ?_ (by omega) rfl ?_
 | refine K.ldE0 (by assumption) ?_ (by omega) rfl ?_
 | refine K.ldAE (by assumption) ?_ (by omega) rfl ?_
 | refine K.iaC (by omega) ?_
 | refine K.condT (by first | assumption | omega) ?_
 | refine K.condF (by first | assumption | omega) ?_
 | refine K.condbT (by assumption) ?_
 | refine K.condbF (by assumption) ?_
 | simp -dsimp only [LL,B9,Nat.reduceAdd,Nat.reduceEqDiff,reduceIte,reduceCtorEq,Bool.false_eq_true])
  refine K.qval _ (fun w' e => K.does (hd.ext (he1.trans e)) fun w'' e2 => ⟨rfl, e2⟩) ?_
  have e0 : l[0] = l.headD 0 := by
    cases l with
    | nil => simp at h0
    | cons z l => rfl
  rw [e0, ← getLast_eq l h0]
  rw [Abs.vtwo]
  generalize o.does (l.headD 0) (l.getLastD 0) = q
  (repeat' first
 | assumption
 | exact Ext.refl _
 | refine Ext.trans ?_ (by assumption)
 | refine K.wrap (by omega) ?_
 | refine K.ldb (by assumption) ?_ rfl ?_
 | refine K.ldb0 (by assumption) ?_ rfl ?_
 | refine K.ldE (by assumption) ?_ (by omega) rfl ?_
 | refine K.ldE0 (by assumption) ?_ (by omega) rfl ?_
 | refine K.ldAE (by assumption) ?_ (by omega) rfl ?_
 | refine K.iaC (by omega) ?_
 | refine K.condT (by first | assumption | omega) ?_
 | refine K.condF (by first | assumption | omega) ?_
 | refine K.condbT (by assumption) ?_
 | refine K.condbF (by assumption) ?_
 | simp -dsimp only [LL,B9,Nat.reduceAdd,Nat.reduceEqDiff,reduceIte,reduceCtorEq,Bool.false_eq_true])
  intro w2 he2
  (repeat' first
 | assumption
 | exact Ext.refl _
 | refine Ext.trans ?_ (by assumption)
 | refine K.wrap (by omega) ?_
 | refine K.ldb (by assumption) ?_ rfl ?_
 | refine K.ldb0 (by assumption) ?_ rfl ?_
 | refine K.ldE (by assumption) ?_ (by omega) rfl ?_
 | refine K.ldE0 (by assumption) ?_ (by omega) rfl ?_
 | refine K.ldAE (by assumption) ?_ (by omega) rfl ?_
 | refine K.iaC (by omega) ?_
 | refine K.condT (by first | assumption | omega) ?_
 | refine K.condF (by first | assumption | omega) ?_
 | refine K.condbT (by assumption) ?_
 | refine K.condbF (by assumption) ?_
 | simp -dsimp only [LL,B9,Nat.reduceAdd,Nat.reduceEqDiff,reduceIte,reduceCtorEq,Bool.false_eq_true])
  refine K.condb (fun g => ?_) (fun g => ?_)
  all_goals
    (repeat' first
 | assumption
 | exact Ext.refl _
 | refine Ext.trans ?_ (by assumption)
 | refine K.wrap (by omega) ?_
 | refine K.ldb (by assumption) ?_ rfl ?_
 | refine K.ldb0 (by assumption) ?_ rfl ?_
 | refine K.ldE (by assumption) ?_ (by omega) rfl ?_
 | refine K.ldE0 (by assumption) ?_ (by omega) rfl ?_
 | refine K.ldAE (by assumption) ?_ (by omega) rfl ?_
 | refine K.iaC (by omega) ?_
 | refine K.condT (by first | assumption | omega) ?_
 | refine K.condF (by first | assumption | omega) ?_
 | refine K.condbT (by assumption) ?_
 | refine K.condbF (by assumption) ?_
 | simp -dsimp only [LL,B9,Nat.reduceAdd,Nat.reduceEqDiff,reduceIte,reduceCtorEq,Bool.false_eq_true])
    simp only [g, if_true, Bool.false_eq_true, if_false]
    (refine ⟨?_, ?_⟩ <;> first | trivial | rfl | (repeat' first | assumption | exact Ext.refl _ | refine Ext.trans ?_ (by assumption)))
theorem eval1_r (x : Abs.Node) (cs : List Value) (v : Abs.Env) (base b pm ps : Nat) (w : World) (m : Value) (st : List Int) (tm : TypeId) (hx : x.ok) (h : Abs.EnvIs w cs v) (hm : MachIs base b w m st) (h3 : x.op = 3 → 0 < st.length) (hg : ∀ z ∈ st, Abs.inI z)
    (hpm : w.heap[pm]? = some (.cells #[.pointer (some ⟨b, 0, none⟩)] tm)) (hps : w.heap[ps]? = some (.cells cs.toArray T.api_Env)) :
    Ret Try.prog F.expr_Eval_1 #[.agg x.enc.toArray, .pointer (some ⟨pm, 0, none⟩), .pointer (some ⟨ps, 0, none⟩)] w fun u w' =>
      u = .tuple #[.int .i64 (Abs.vleaf x v (st.getLastD 0)).1, .int .i64 (Abs.vleaf x v (st.getLastD 0)).2] ∧ Ext w w' := by
  obtain ⟨v0, v1, v2, v3, rfl, _⟩ := h.ex
  refine K.start hmix E.expr_Eval_1 (args := [_, _, _]) (Nat.le_of_ble_eq_true rfl) ?_
  dsimp only [C.expr_Eval_1]; refine Yy ?_
  (repeat' first
 | assumption
 | exact Ext.refl _
 | refine Ext.trans ?_ (by assumption)
 | refine K.wrap (by omega) ?_
 | refine K.ldb (by assumption) ?_ rfl ?_
 | refine K.ldb0 (by assumption) ?_ rfl ?_
 | refine K.ldE (by assumption) ?_ (by omega) rfl ?_
 | refine K.ldE0 (by assumption) ?_ (by omega) rfl ?_
 | refine K.ldAE (by assumption) ?_ (by omega) rfl ?_
 | refine K.iaC (by omega) ?_
 | refine K.condT (by first | assumption | omega) ?_
 | refine K.condF (by first | assumption | omega) ?_
 | refine K.condbT (by assumption) ?_
 | refine K.condbF (by assumption) ?_
 | simp -dsimp only [LL,B9,Nat.reduceAdd,Nat.reduceEqDiff,reduceIte,reduceCtorEq,Bool.false_eq_true])
  refine K.new fun w1 b1 hb1 he1 hc1 => ?_
  have k1 : w1.heap[b1]? = some (.cells x.enc.toArray T.api_Node) := hc1
  (repeat' first
 | assumption
 | exact Ext.refl _
 | refine Ext.trans ?_ (by assumption)
 | refine K.wrap (by omega) ?_
 | refine K.ldb (by assumption) ?_ rfl ?_
 | refine K.ldb0 (by assumption) ?_ rfl ?_
 | refine K.ldE (by assumption) ?_ (by omega) rfl ?_
 | refine K.ldE0 (by assumption) ?_ (by omega) rfl ?_
 | refine K.ldAE (by assumption) ?_ (by omega) rfl ?_
 | refine K.iaC (by omega) ?_
 | refine K.condT (by first | assumption | omega) ?_
 | refine K.condF (by first | assumption | omega) ?_
 | refine K.condbT (by assumption) ?_
 | refine K.condbF (by assumption) ?_
 | simp -dsimp only [LL,B9,Nat.reduceAdd,Nat.reduceEqDiff,reduceIte,reduceCtorEq,Bool.false_eq_true])
  refine K.ldAb (c := x.enc) k1 (Ext.refl _) rfl ?_
  (repeat' first
 | assumption
 | exact Ext.refl _
 | refine Ext.trans ?_ (by assumption)
 | refine K.wrap (by omega) ?_
 | refine K.ldb (by assumption) ?_ rfl ?_
 | refine K.ldb0 (by assumption) ?_ rfl ?_
 | refine K.ldE (by assumption) ?_ (by omega) rfl ?_
 | refine K.ldE0 (by assumption) ?_ (by omega) rfl ?_
 | refine K.ldAE (by assumption) ?_ (by omega) rfl ?_
 | refine K.iaC (by omega) ?_
 | refine K.condT (by first | assumption | omega) ?_
 | refine K.condF (by first | assumption | omega) ?_
 | refine K.condbT (by assumption) ?_
 | refine K.condbF (by assumption) ?_
 | simp -dsimp only [LL,B9,Nat.reduceAdd,Nat.reduceEqDiff,reduceIte,reduceCtorEq,Bool.false_eq_true])
  refine K.ldAb hps he1 rfl ?_
  (repeat' first
 | assumption
 | exact Ext.refl _
 | refine Ext.trans ?_ (by assumption)
 | refine K.wrap (by omega) ?_
 | refine K.ldb (by assumption) ?_ rfl ?_
 | refine K.ldb0 (by assumption) ?_ rfl ?_
 | refine K.ldE (by assumption) ?_ (by omega) rfl ?_
 | refine K.ldE0 (by assumption) ?_ (by omega) rfl ?_
 | refine K.ldAE (by assumption) ?_ (by omega) rfl ?_
 | refine K.iaC (by omega) ?_
 | refine K.condT (by first | assumption | omega) ?_
 | refine K.condF (by first | assumption | omega) ?_
 | refine K.condbT (by assumption) ?_
 | refine K.condbF (by assumption) ?_
 | simp -dsimp only [LL,B9,Nat.reduceAdd,Nat.reduceEqDiff,reduceIte,reduceCtorEq,Bool.false_eq_true])
  refine K.call (vleaf_r x _ v base b w1 m st hx (h.ext he1) (hm.ext he1) h3 hg) ?_
  rintro _ w2 ⟨rfl, he2⟩
  (repeat' first
 | assumption
 | exact Ext.refl _
 | refine Ext.trans ?_ (by assumption)
 | refine K.wrap (by omega) ?_
 | refine K.ldb (by assumption) ?_ rfl ?_
 | refine K.ldb0 (by assumption) ?_ rfl ?_
 | refine K.ldE (by assumption) ?_ (by omega) rfl ?_
 | refine K.ldE0 (by assumption) ?_ (by omega) rfl ?_
 | refine K.ldAE (by assumption) ?_ (by omega) rfl ?_
 | refine K.iaC (by omega) ?_
 | refine K.condT (by first | assumption | omega) ?_
 | refine K.condF (by first | assumption | omega) ?_
 | refine K.condbT (by assumption) ?_
 | refine K.condbF (by assumption) ?_
 | simp -dsimp only [LL,B9,Nat.reduceAdd,Nat.reduceEqDiff,reduceIte,reduceCtorEq,Bool.false_eq_true])
  (refine ⟨?_, ?_⟩ <;> first | trivial | rfl | (repeat' first | assumption | exact Ext.refl _ | refine Ext.trans ?_ (by assumption)))
theorem fEval_step (v : Abs.Env) : stepRes (Abs.fEval v) Abs.vtwo fun x st => Abs.vleaf x v (st.getLastD 0) := fun _ _ => rfl
theorem eval_r (ve : Value) (e : List Abs.Node) (cs : List Value) (v : Abs.Env) (w : World) (he : Abs.Nodes w ve e) (h : Abs.EnvIs w cs v) :
    Ret Try.prog F.expr_Eval #[ve, .agg cs.toArray] w fun u w' => u = .tuple #[.int .i64 (Abs.eval e v).1, .int .i64 (Abs.eval e v).2] ∧ Ext w w' := by
  have hok := h.ok
  obtain ⟨v0, v1, v2, v3, rfl, _⟩ := h.ex
  refine K.start hmix E.expr_Eval (args := [_, _]) (Nat.le_of_ble_eq_true rfl) ?_
  dsimp only [C.expr_Eval]; refine Yy ?_
  (repeat' first
 | assumption
 | exact Ext.refl _
 | refine Ext.trans ?_ (by assumption)
 | refine K.wrap (by omega) ?_
 | refine K.ldb (by assumption) ?_ rfl ?_
 | refine K.ldb0 (by assumption) ?_ rfl ?_
 | refine K.ldE (by assumption) ?_ (by omega) rfl ?_
 | refine K.ldE0 (by assumption) ?_ (by omega) rfl ?_
 | refine K.ldAE (by assumption) ?_ (by omega) rfl ?_
 | refine K.iaC (by omega) ?_
 | refine K.condT (by first | assumption | omega) ?_
 | refine K.condF (by first | assumption | omega) ?_
 | refine K.condbT (by assumption) ?_
 | refine K.condbF (by assumption) ?_
 | simp -dsimp only [LL,B9,Nat.reduceAdd,Nat.reduceEqDiff,reduceIte,reduceCtorEq,Bool.false_eq_true])
  refine K.new fun w1 ps hps he1 hc1 => ?_
  (repeat' first
 | assumption
 | exact Ext.refl _
 | refine Ext.trans ?_ (by assumption)
 | refine K.wrap (by omega) ?_
 | refine K.ldb (by assumption) ?_ rfl ?_
 | refine K.ldb0 (by assumption) ?_ rfl ?_
 | refine K.ldE (by assumption) ?_ (by omega) rfl ?_
 | refine K.ldE0 (by assumption) ?_ (by omega) rfl ?_
 | refine K.ldAE (by assumption) ?_ (by omega) rfl ?_
 | refine K.iaC (by omega) ?_
 | refine K.condT (by first | assumption | omega) ?_
 | refine K.condF (by first | assumption | omega) ?_
 | refine K.condbT (by assumption) ?_
 | refine K.condbF (by assumption) ?_
 | simp -dsimp only [LL,B9,Nat.reduceAdd,Nat.reduceEqDiff,reduceIte,reduceCtorEq,Bool.false_eq_true])
  refine K.bld (cs := [.slice none 0 0, .map none]) (by simp [fillC]) ?_
  (repeat' first
 | assumption
 | exact Ext.refl _
 | refine Ext.trans ?_ (by assumption)
 | refine K.wrap (by omega) ?_
 | refine K.ldb (by assumption) ?_ rfl ?_
 | refine K.ldb0 (by assumption) ?_ rfl ?_
 | refine K.ldE (by assumption) ?_ (by omega) rfl ?_
 | refine K.ldE0 (by assumption) ?_ (by omega) rfl ?_
 | refine K.ldAE (by assumption) ?_ (by omega) rfl ?_
 | refine K.iaC (by omega) ?_
 | refine K.condT (by first | assumption | omega) ?_
 | refine K.condF (by first | assumption | omega) ?_
 | refine K.condbT (by assumption) ?_
 | refine K.condbF (by assumption) ?_
 | simp -dsimp only [LL,B9,Nat.reduceAdd,Nat.reduceEqDiff,reduceIte,reduceCtorEq,Bool.false_eq_true])
  refine K.new fun w2 b hb he2 hc2 => ?_
  (repeat' first
 | assumption
 | exact Ext.refl _
 | refine Ext.trans ?_ (by assumption)
 | refine K.wrap (by omega) ?_
 | refine K.ldb (by assumption) ?_ rfl ?_
 | refine K.ldb0 (by assumption) ?_ rfl ?_
 | refine K.ldE (by assumption) ?_ (by omega) rfl ?_
 | refine K.ldE0 (by assumption) ?_ (by omega) rfl ?_
 | refine K.ldAE (by assumption) ?_ (by omega) rfl ?_
 | refine K.iaC (by omega) ?_
 | refine K.condT (by first | assumption | omega) ?_
 | refine K.condF (by first | assumption | omega) ?_
 | refine K.condbT (by assumption) ?_
 | refine K.condbF (by assumption) ?_
 | simp -dsimp only [LL,B9,Nat.reduceAdd,Nat.reduceEqDiff,reduceIte,reduceCtorEq,Bool.false_eq_true])
  refine K.new fun w3 pm hpm he3 hc3 => ?_
  (repeat' first
 | assumption
 | exact Ext.refl _
 | refine Ext.trans ?_ (by assumption)
 | refine K.wrap (by omega) ?_
 | refine K.ldb (by assumption) ?_ rfl ?_
 | refine K.ldb0 (by assumption) ?_ rfl ?_
 | refine K.ldE (by assumption) ?_ (by omega) rfl ?_
 | refine K.ldE0 (by assumption) ?_ (by omega) rfl ?_
 | refine K.ldAE (by assumption) ?_ (by omega) rfl ?_
 | refine K.iaC (by omega) ?_
 | refine K.condT (by first | assumption | omega) ?_
 | refine K.condF (by first | assumption | omega) ?_
 | refine K.condbT (by assumption) ?_
 | refine K.condbF (by assumption) ?_
 | simp -dsimp only [LL,B9,Nat.reduceAdd,Nat.reduceEqDiff,reduceIte,reduceCtorEq,Bool.false_eq_true])
  refine K.st0 hc3 (by decide) rfl fun w4 hw4 hc4 => ?_
  have hc4' : w4.heap[pm]? = some (.cells #[.pointer (some ⟨b, 0, none⟩)] T.p_expr_machine) := hc4
  have he4 : Ext w2 w4 := hw4.ext he3 hpm
  have hq2 := lt_of_heap hc2
  have hq1 := lt_of_heap hc1
  have hew : Ext w w4 := (he1.trans he2).trans he4
  clear hc4 hw4 he3 hc3
  have hb4 := he4.obj hc2
  have hs4 := he4.obj (he2.obj hc1)
  have z1 := he1.size
  (repeat' first
 | assumption
 | exact Ext.refl _
 | refine Ext.trans ?_ (by assumption)
 | refine K.wrap (by omega) ?_
 | refine K.ldb (by assumption) ?_ rfl ?_
 | refine K.ldb0 (by assumption) ?_ rfl ?_
 | refine K.ldE (by assumption) ?_ (by omega) rfl ?_
 | refine K.ldE0 (by assumption) ?_ (by omega) rfl ?_
 | refine K.ldAE (by assumption) ?_ (by omega) rfl ?_
 | refine K.iaC (by omega) ?_
 | refine K.condT (by first | assumption | omega) ?_
 | refine K.condF (by first | assumption | omega) ?_
 | refine K.condbT (by assumption) ?_
 | refine K.condbF (by assumption) ?_
 | simp -dsimp only [LL,B9,Nat.reduceAdd,Nat.reduceEqDiff,reduceIte,reduceCtorEq,Bool.false_eq_true])
  refine K.call (run_r (Abs.fEval v) Abs.vtwo (fun x st => Abs.vleaf x v (st.getLastD 0)) (fEval_step v) Abs.inI b w w4 hew (by omega) ve _ _ e he hb4 (fun x st hx _ _ _ _ => Abs.fEval_good hok hx) ?_ ?_) ?_
  · intro x st base m w' hx hm hmach hg q1 q2 q3 w1' KK t hw1 hk
    refine K.callV (first := []) (cap := [.pointer (some ⟨pm, 0, none⟩), .pointer (some ⟨ps, 0, none⟩)]) (by kernel_rfl)
      (eval1_r x _ v base b pm ps w1' m st _ hx (h.ext ((hm.ext hew (by intro k hk e; omega)).trans hw1)) (hmach.ext hw1) ?_ hg (hw1.obj (hm.obj (by omega) hc4')) (hw1.obj (hm.obj (by omega) hs4))) fun v w'' ⟨h1, h2⟩ => by subst h1; exact hk w'' h2
    intro h3
    have : Abs.nparts x.op = 1 := by rw [h3]; rfl
    omega
  · rintro o ov lv l w' KK t hm ⟨u, rfl, hd⟩ ⟨x, hx⟩ hl hi hk
    exact K.callV0 (first := []) (cap := []) (by kernel_rfl) (vtwo_r o u lv l w' hi (by have := nparts_op hx; omega) hd) fun v w'' ⟨h1, h2⟩ => by subst h1; exact hk w'' h2
  rintro _ w5 ⟨rfl, hm5⟩
  have he5 : Ext w w5 := hm5.ext hew (by intro k hk e; omega)
  (repeat' first
 | assumption
 | exact Ext.refl _
 | refine Ext.trans ?_ (by assumption)
 | refine K.wrap (by omega) ?_
 | refine K.ldb (by assumption) ?_ rfl ?_
 | refine K.ldb0 (by assumption) ?_ rfl ?_
 | refine K.ldE (by assumption) ?_ (by omega) rfl ?_
 | refine K.ldE0 (by assumption) ?_ (by omega) rfl ?_
 | refine K.ldAE (by assumption) ?_ (by omega) rfl ?_
 | refine K.iaC (by omega) ?_
 | refine K.condT (by first | assumption | omega) ?_
 | refine K.condF (by first | assumption | omega) ?_
 | refine K.condbT (by assumption) ?_
 | refine K.condbF (by assumption) ?_
 | simp -dsimp only [LL,B9,Nat.reduceAdd,Nat.reduceEqDiff,reduceIte,reduceCtorEq,Bool.false_eq_true])
  (refine ⟨?_, ?_⟩ <;> first | trivial | rfl | (repeat' first | assumption | exact Ext.refl _ | refine Ext.trans ?_ (by assumption)))
end Go.Proofs.Ytfdohkdifdemeaa
end
section
/- Uses: what expressions speak of: the program's. -/
set_option maxRecDepth 8000
set_option maxHeartbeats 6400000
namespace Abs
open Go
def spokenL (e : List Node) : List Node := e.filter fun x => spoken? x.op
theorem spokenL_take {e : List Node} {k : Nat} (h : k < e.length) : spokenL (e.take (k + 1)) = spokenL (e.take k) ++ if spoken? e[k].op then [e[k]] else [] := by
  unfold spokenL
  rw [List.take_succ_eq_append_getElem h, List.filter_append]
  cases hs : spoken? e[k].op <;> simp [hs]
theorem spokenL_len (e : List Node) : (spokenL e).length ≤ e.length := List.length_filter_le _ _
theorem uses_of {e s : List Node} (hp : s.Perm (spokenL e)) (hs : s.Pairwise fun x y => ¬ nodeLt y x) : UsesOf e (comp s) := by
  refine ⟨comp_pw s hs, fun x => ?_⟩
  rw [comp_mem, hp.mem_iff]
  unfold spokenL
  rw [List.mem_filter]
end Abs
namespace Go.Proofs.Ytfdohkdifdemeaa
open Go Go.RowKit Lite
theorem node_one (x : Abs.Node) : ∀ u ∈ x.enc, u.oneCell' = true := by simp [Abs.Node.enc, Value.oneCell']
theorem flat2 : ∀ (l : List Abs.Node) (i : Nat) (h : i < l.length), (l.flatMap Abs.Node.enc)[2 * i]? = some (.int .i64 l[i].op) ∧ (l.flatMap Abs.Node.enc)[2 * i + 1]? = some (.int .i64 l[i].n)
  | x :: l, 0, _ => ⟨rfl, rfl⟩
  | x :: l, i + 1, h => by
    have ih := flat2 l i (by simpa using h)
    rw [show 2 * (i + 1) = 2 * i + 2 from by omega, show 2 * i + 2 + 1 = (2 * i + 1) + 2 from by omega]
    exact ih
theorem nrow_of {w : World} {base : Nat} {v : Value} {l : List Abs.Node} (h : OwR Abs.Node.enc T.api_Node 2 base w v l) (hl : l ≠ []) : ∃ b c, v = .slice (some ⟨b, 0, none⟩) l.length c ∧ base ≤ b ∧ NRow w b l ∧ l.length ≤ c ∧ c ≤ maxLen := by
  rcases h.2 with ⟨_, h0⟩ | ⟨g, cap, cur, h1, h2, h3, h4, h5, h6, h7⟩
  · exact absurd (List.eq_nil_of_length_eq_zero h0) hl
  · refine ⟨g, cap, h1, h2, ⟨cur, h3, by omega, fun i hi => ?_⟩, h4, h5⟩
    have get : ∀ j, j < 2 * l.length → cur[j]? = (l.flatMap Abs.Node.enc)[j]? := fun j hj => by
      rw [← h7, List.getElem?_take_of_lt (by omega), Array.getElem?_toList]
    rw [get _ (by omega), get _ (by omega)]
    exact flat2 l i hi
/-- What Uses gives: nil, or a row of its own. -/
structure UsesAt (w : World) (base : Nat) (v : Value) (l : List Abs.Node) : Prop where
  ex : (l = [] ∧ ∃ p c, v = .slice p 0 c ∧ c ≤ maxLen) ∨ ∃ b c, v = .slice (some ⟨b, 0, none⟩) l.length c ∧ base ≤ b ∧ NRow w b l ∧ l.length ≤ c ∧ c ≤ maxLen
theorem sortN_r (p : Option Addr) (c : Nat) (w : World) : Ret Try.prog F.slices_SortFunc_sl_api_Node_api_Node #[.slice p 0 c, .func (.func F.expr_Uses_1) #[] #[]] w fun _ w' => Ext w w' := by
  have h := AnyF.slices_SortFunc_none Try.sortU p c (.func (.func F.expr_Uses_1) #[] #[]) w
  change Calls Try.prog F.slices_SortFunc_sl_api_Node_api_Node _ _ _ at h
  refine Calls.mono h ?_
  rintro e w' ⟨rfl, rfl⟩
  exact ⟨_, rfl, Ext.refl _⟩
theorem compactN_r (p : Option Addr) (c : Nat) (w : World) : Ret Try.prog F.slices_Compact_sl_api_Node_api_Node #[.slice p 0 c] w fun v w' => v = .slice p 0 c ∧ Ext w w' := by
  refine K.start hmix E.slices_Compact_sl_api_Node_api_Node (args := [_]) (Nat.le_of_ble_eq_true rfl) ?_; dsimp only [C.slices_Compact_sl_api_Node_api_Node]; refine Yy ?_
  refine Sr ?_
  exact ⟨by first | trivial | rfl, Ext.refl _⟩
theorem uses_r (v : Value) (e : List Abs.Node) (w : World) (h : Abs.Nodes w v e) (hl : e.length ≤ 1000000) :
    Ret Try.prog F.expr_Uses #[v] w fun u w' => (∃ r, Abs.UsesOf e r ∧ UsesAt w' w.heap.size u r) ∧ Ext w w' := by
  obtain ⟨oa, ca, rfl, _⟩ := h.form
  refine K.start hmix E.expr_Uses (args := [_]) (Nat.le_of_ble_eq_true rfl) ?_; dsimp only [C.expr_Uses]; refine Yy ?_
  refine Sr ?_
  refine K.forG 8 e.length [2, 6, 7] (fun u : Value => [(3, u)]) (.slice none 0 0) (fun k u W => OwR Abs.Node.enc T.api_Node 2 w.heap.size W u (Abs.spokenL (e.take k)) ∧ Ext w W) hZq hZq ⟨OwR.nil _ _ _ _ _, Ext.refl _⟩ ?_
  rintro k u S w1 hk ⟨hu, he1⟩
  refine Sr ?_
  refine K.cond (fun g1 => ?_) (fun g1 => ?_)
  · have hk2 : k < e.length := by omega
    obtain ⟨a, rfl⟩ := h.addr (by omega)
    have hx := (h.at k hk2).cells.ext he1
    obtain ⟨ou, cu, rfl, _⟩ := hu.form
    have hsl := Abs.spokenL_len (e.take k)
    have hst := Abs.spokenL_take hk2
    unfold Abs.Node.enc at hx
    rw [List.length_take] at hsl
    refine Su ?_
    simp -dsimp only [B9]
    refine Su ?_
    simp -dsimp only [B9]
    refine Su ?_
    intro w2 b5 hb5 he2 hc5
    have hu2 := hu.ext he2
    have e2 := he1.trans he2
    simp -dsimp only [B9]
    refine Su ?_
    refine K.cutG [2, 3, 5, 6, 7, 8] (fun t : Bool => [(14, .bool t)]) (fun t W => t = Abs.spoken? e[k].op ∧ W = w2) ?_ ?_
    · have sp : ∀ b, (b = true ↔ (e[k].op = 2 ∨ e[k].op = 3 ∨ e[k].op = 4 ∨ e[k].op = 6 ∨ e[k].op = 7)) → b = Abs.spoken? e[k].op := fun b hb => by
        unfold Abs.spoken?
        cases b with
        | true => exact (decide_eq_true (hb.1 rfl)).symm
        | false => exact (decide_eq_false fun q => by have := hb.2 q; cases this).symm
      refine Sr ?_
      refine K.cond (fun g2 => ?_) (fun g2 => ?_)
      · refine Sr ?_
        exact ⟨_, ⟨by first | trivial | rfl, trivial⟩, sp _ (by simp [g2]), by first | trivial | rfl⟩
      refine Sr ?_
      refine K.cond (fun g3 => ?_) (fun g3 => ?_)
      · refine Sr ?_
        exact ⟨_, ⟨by first | trivial | rfl, trivial⟩, sp _ (by simp [g3]), by first | trivial | rfl⟩
      refine Sr ?_
      refine K.cond (fun g4 => ?_) (fun g4 => ?_)
      · refine Sr ?_
        exact ⟨_, ⟨by first | trivial | rfl, trivial⟩, sp _ (by simp [g4]), by first | trivial | rfl⟩
      refine Sr ?_
      refine K.cond (fun g5 => ?_) (fun g5 => ?_)
      · refine Sr ?_
        exact ⟨_, ⟨by first | trivial | rfl, trivial⟩, sp _ (by simp [g5]), by first | trivial | rfl⟩
      refine Sr ?_
      exact ⟨_, ⟨by first | trivial | rfl, trivial⟩, sp _ (by simp [g2, g3, g4, g5]), by first | trivial | rfl⟩
    rintro t S2 w3 ⟨rfl, rfl⟩
    refine Sr ?_
    cases hsp : Abs.spoken? e[k].op with
    | true =>
      rw [hsp, if_pos rfl] at hst
      refine Sr ?_
      intro w4 b22 hb22 he4 hc22
      refine Sr ?_
      refine K.app1 (y := e[k]) (hu2.ext he4) hc22 rfl (fun _ => rfl) node_one (by omega) (by unfold maxLen; omega) (by have := he4.size; have := e2.size; omega) fun oa n c w5 ho5 hg5 => ?_
      have he5 := OwR.extG (hu2.ext he4) (e2.trans he4) hg5 (Nat.le_refl _)
      refine Sr ?_
      refine ⟨hk2, by first | trivial | rfl, _, ⟨rfl, trivial⟩, ?_, he5⟩
      rw [hst]
      exact ho5
    | false =>
      rw [hsp, if_neg (by simp), List.append_nil] at hst
      refine Sr ?_
      refine ⟨hk2, by first | trivial | rfl, _, ⟨by first | trivial | rfl, trivial⟩, ?_, e2⟩
      rw [hst]
      exact hu2
  · have hkn : k = e.length := by omega
    rw [hkn, List.take_length] at hu
    have hsl := Abs.spokenL_len e
    by_cases hn : Abs.spokenL e = []
    · rw [hn] at hu
      obtain ⟨ou, cu, rfl, _⟩ := hu.form
      have hcu : cu ≤ maxLen := by
        obtain ⟨oa', cap, h1, _, h3, _⟩ := (OwR.slr (enc := Abs.Node.enc) (fun _ => rfl) hu).ex
        injection h1 with _ _ h1
        omega
      have huse : Abs.UsesOf e (Abs.comp []) := Abs.uses_of (s := []) (by rw [hn]) List.Pairwise.nil
      refine Sr ?_
      refine K.call (sortN_r ou cu w1) ?_
      rintro _ w2 he2
      refine Sr ?_
      refine K.call (compactN_r ou cu w2) ?_
      rintro _ w3 ⟨rfl, he3⟩
      refine Sr ?_
      exact ⟨⟨_, huse, ⟨.inl ⟨rfl, ou, cu, rfl, hcu⟩⟩⟩, (he1.trans he2).trans he3⟩
    · obtain ⟨b, c, rfl, hb, hr, hc, hm⟩ := nrow_of hu hn
      refine Sr ?_
      refine K.call (sortU_r b c _ w1 hr (by omega)) ?_
      rintro _ w2 ⟨s, hp, hs, hr2, hm2⟩
      have hsl2 := hp.length_eq
      have hcl := Abs.comp_le s
      rw [← hsl2]
      refine Sr ?_
      refine K.call (compact_r b c s w2 hr2 (by omega) hm) ?_
      rintro _ w3 ⟨rfl, hr3, hm3⟩
      refine Sr ?_
      exact ⟨⟨_, Abs.uses_of hp hs, ⟨.inr ⟨b, c, rfl, hb, hr3, by omega, hm⟩⟩⟩, (hm2.trans hm3).ext he1 fun i hi e => by omega⟩
end Go.Proofs.Ytfdohkdifdemeaa
end
section
/- The example of the laws on expressions; the law on kinds. -/
set_option maxRecDepth 4000
set_option linter.unusedSimpArgs false
set_option maxHeartbeats 1600000
namespace Abs
open Go Go.RowKit Lite
theorem Nodes.blk {w : World} {b n : Nat} {e : TypeId} {f : Nat × Nat} {xs : List Node} (hb : w.heap[b]? = some (.cells (xs.flatMap Node.enc).toArray e f)) (hn : n = xs.length) (hm : xs.length ≤ maxLen) (hok : ∀ x ∈ xs, x.ok) :
    Nodes w (.slice (some ⟨b, 0, none⟩) n n) xs := SlR.blk (enc := Node.enc) (fun _ => rfl) hb hn hm fun _ x hx hc => ⟨hc, hok x hx⟩
def Scope.none : Scope := ⟨[], [], [], [], [], 0⟩
def Env.none : Env := ⟨[], [], [], [], 0⟩
theorem Scope.none_is (w : World) : ScopeIs w [.slice Option.none 0 0, .slice Option.none 0 0, .slice Option.none 0 0, .slice Option.none 0 0, .slice Option.none 0 0, .int .i64 0] Scope.none :=
  ⟨by simp [Scope.none, inI], _, _, _, _, _, rfl, SlR.nil, SlR.nil, SlR.nil, SlR.nil, SlR.nil, by simp [Scope.none]⟩
theorem Env.none_is (w : World) : EnvIs w [.slice Option.none 0 0, .slice Option.none 0 0, .slice Option.none 0 0, .slice Option.none 0 0, .int .i64 0] Env.none :=
  ⟨_, _, _, _, rfl, SlR.nil, SlR.nil, SlR.nil, SlR.nil, inI0⟩
def exA : List Node := [⟨1, 2⟩, ⟨1, 3⟩, ⟨11, 0⟩, ⟨1, 5⟩, ⟨14, 0⟩]
def exB : List Node := [⟨1, 1⟩, ⟨9, 0⟩]
theorem exA_ok : ∀ x ∈ exA, x.ok := by
  intro x hx
  simp only [exA, List.mem_cons, List.not_mem_nil, or_false] at hx
  rcases hx with rfl | rfl | rfl | rfl | rfl <;> exact ⟨⟨by decide, by decide⟩, ⟨by decide, by decide⟩⟩
theorem exB_ok : ∀ x ∈ exB, x.ok := by
  intro x hx
  simp only [exB, List.mem_cons, List.not_mem_nil, or_false] at hx
  rcases hx with rfl | rfl <;> exact ⟨⟨by decide, by decide⟩, ⟨by decide, by decide⟩⟩
theorem exA_kind : kind exA Scope.none = (1, 0) := by decide
theorem exA_eval : eval exA Env.none = (1, 0) := by decide
theorem exB_kind : kind exB Scope.none = (0, 9) := by decide
end Abs
namespace Go.Proofs.Ytfdohkdifdemeaa
open Go Go.RowKit Lite
theorem elives_r (w : World) : Ret Try.prog F.lariatlaw10_lives #[] w fun v w' => v = .bool true ∧ Ext w w' := by
  refine K.start hmix E.lariatlaw10_lives (args := []) (Nat.le_of_ble_eq_true rfl) ?_
  dsimp only [C.lariatlaw10_lives]; refine Yy ?_
  (repeat' first
 | assumption
 | exact Ext.refl _
 | refine Ext.trans ?_ (by assumption)
 | refine K.wrap (by omega) ?_
 | refine K.ldb (by assumption) ?_ rfl ?_
 | refine K.ldb0 (by assumption) ?_ rfl ?_
 | refine K.ldE (by assumption) ?_ (by omega) rfl ?_
 | refine K.ldE0 (by assumption) ?_ (by omega) rfl ?_
 | refine K.ldAE (by assumption) ?_ (by omega) rfl ?_
 | refine K.iaC (by omega) ?_
 | refine K.condT (by first | assumption | omega) ?_
 | refine K.condF (by first | assumption | omega) ?_
 | refine K.condbT (by assumption) ?_
 | refine K.condbF (by assumption) ?_
 | simp -dsimp only [LL,B9,Nat.reduceAdd,Nat.reduceEqDiff,reduceIte,reduceCtorEq,Bool.false_eq_true])
  refine K.bld (cs := [.int .i64 1, .int .i64 2]) (by simp [fillC, lay, ev_const, Value.cells]) ?_
  (repeat' first
 | assumption
 | exact Ext.refl _
 | refine Ext.trans ?_ (by assumption)
 | refine K.wrap (by omega) ?_
 | refine K.ldb (by assumption) ?_ rfl ?_
 | refine K.ldb0 (by assumption) ?_ rfl ?_
 | refine K.ldE (by assumption) ?_ (by omega) rfl ?_
 | refine K.ldE0 (by assumption) ?_ (by omega) rfl ?_
 | refine K.ldAE (by assumption) ?_ (by omega) rfl ?_
 | refine K.iaC (by omega) ?_
 | refine K.condT (by first | assumption | omega) ?_
 | refine K.condF (by first | assumption | omega) ?_
 | refine K.condbT (by assumption) ?_
 | refine K.condbF (by assumption) ?_
 | simp -dsimp only [LL,B9,Nat.reduceAdd,Nat.reduceEqDiff,reduceIte,reduceCtorEq,Bool.false_eq_true])
  refine K.bld (cs := [.int .i64 1, .int .i64 3]) (by simp [fillC, lay, ev_const, Value.cells]) ?_
  (repeat' first
 | assumption
 | exact Ext.refl _
 | refine Ext.trans ?_ (by assumption)
 | refine K.wrap (by omega) ?_
 | refine K.ldb (by assumption) ?_ rfl ?_
 | refine K.ldb0 (by assumption) ?_ rfl ?_
 | refine K.ldE (by assumption) ?_ (by omega) rfl ?_
 | refine K.ldE0 (by assumption) ?_ (by omega) rfl ?_
 | refine K.ldAE (by assumption) ?_ (by omega) rfl ?_
 | refine K.iaC (by omega) ?_
 | refine K.condT (by first | assumption | omega) ?_
 | refine K.condF (by first | assumption | omega) ?_
 | refine K.condbT (by assumption) ?_
 | refine K.condbF (by assumption) ?_
 | simp -dsimp only [LL,B9,Nat.reduceAdd,Nat.reduceEqDiff,reduceIte,reduceCtorEq,Bool.false_eq_true])
  refine K.bld (cs := [.int .i64 11, .int .i64 0]) (by simp [fillC, lay, ev_const, Value.cells]) ?_
  (repeat' first
 | assumption
 | exact Ext.refl _
 | refine Ext.trans ?_ (by assumption)
 | refine K.wrap (by omega) ?_
 | refine K.ldb (by assumption) ?_ rfl ?_
 | refine K.ldb0 (by assumption) ?_ rfl ?_
 | refine K.ldE (by assumption) ?_ (by omega) rfl ?_
 | refine K.ldE0 (by assumption) ?_ (by omega) rfl ?_
 | refine K.ldAE (by assumption) ?_ (by omega) rfl ?_
 | refine K.iaC (by omega) ?_
 | refine K.condT (by first | assumption | omega) ?_
 | refine K.condF (by first | assumption | omega) ?_
 | refine K.condbT (by assumption) ?_
 | refine K.condbF (by assumption) ?_
 | simp -dsimp only [LL,B9,Nat.reduceAdd,Nat.reduceEqDiff,reduceIte,reduceCtorEq,Bool.false_eq_true])
  refine K.bld (cs := [.int .i64 1, .int .i64 5]) (by simp [fillC, lay, ev_const, Value.cells]) ?_
  (repeat' first
 | assumption
 | exact Ext.refl _
 | refine Ext.trans ?_ (by assumption)
 | refine K.wrap (by omega) ?_
 | refine K.ldb (by assumption) ?_ rfl ?_
 | refine K.ldb0 (by assumption) ?_ rfl ?_
 | refine K.ldE (by assumption) ?_ (by omega) rfl ?_
 | refine K.ldE0 (by assumption) ?_ (by omega) rfl ?_
 | refine K.ldAE (by assumption) ?_ (by omega) rfl ?_
 | refine K.iaC (by omega) ?_
 | refine K.condT (by first | assumption | omega) ?_
 | refine K.condF (by first | assumption | omega) ?_
 | refine K.condbT (by assumption) ?_
 | refine K.condbF (by assumption) ?_
 | simp -dsimp only [LL,B9,Nat.reduceAdd,Nat.reduceEqDiff,reduceIte,reduceCtorEq,Bool.false_eq_true])
  refine K.bld (cs := [.int .i64 14, .int .i64 0]) (by simp [fillC, lay, ev_const, Value.cells]) ?_
  (repeat' first
 | assumption
 | exact Ext.refl _
 | refine Ext.trans ?_ (by assumption)
 | refine K.wrap (by omega) ?_
 | refine K.ldb (by assumption) ?_ rfl ?_
 | refine K.ldb0 (by assumption) ?_ rfl ?_
 | refine K.ldE (by assumption) ?_ (by omega) rfl ?_
 | refine K.ldE0 (by assumption) ?_ (by omega) rfl ?_
 | refine K.ldAE (by assumption) ?_ (by omega) rfl ?_
 | refine K.iaC (by omega) ?_
 | refine K.condT (by first | assumption | omega) ?_
 | refine K.condF (by first | assumption | omega) ?_
 | refine K.condbT (by assumption) ?_
 | refine K.condbF (by assumption) ?_
 | simp -dsimp only [LL,B9,Nat.reduceAdd,Nat.reduceEqDiff,reduceIte,reduceCtorEq,Bool.false_eq_true])
  refine K.bldSa (cs := Abs.exA.flatMap Abs.Node.enc) (by simp [List.range, List.range.loop, fillC, lay, ev_tmp, upd_at, Value.cells, Abs.exA, Abs.Node.enc]) fun w1 b1 hb1 he1 hc1 => ?_
  have hA := Abs.Nodes.blk hc1 (n := 5) rfl (by decide) Abs.exA_ok
  (repeat' first
 | assumption
 | exact Ext.refl _
 | refine Ext.trans ?_ (by assumption)
 | refine K.wrap (by omega) ?_
 | refine K.ldb (by assumption) ?_ rfl ?_
 | refine K.ldb0 (by assumption) ?_ rfl ?_
 | refine K.ldE (by assumption) ?_ (by omega) rfl ?_
 | refine K.ldE0 (by assumption) ?_ (by omega) rfl ?_
 | refine K.ldAE (by assumption) ?_ (by omega) rfl ?_
 | refine K.iaC (by omega) ?_
 | refine K.condT (by first | assumption | omega) ?_
 | refine K.condF (by first | assumption | omega) ?_
 | refine K.condbT (by assumption) ?_
 | refine K.condbF (by assumption) ?_
 | simp -dsimp only [LL,B9,Nat.reduceAdd,Nat.reduceEqDiff,reduceIte,reduceCtorEq,Bool.false_eq_true])
  refine K.bld (cs := [.slice none 0 0, .slice none 0 0, .slice none 0 0, .slice none 0 0, .slice none 0 0, .int .i64 0]) (by simp [fillC]) ?_
  (repeat' first
 | assumption
 | exact Ext.refl _
 | refine Ext.trans ?_ (by assumption)
 | refine K.wrap (by omega) ?_
 | refine K.ldb (by assumption) ?_ rfl ?_
 | refine K.ldb0 (by assumption) ?_ rfl ?_
 | refine K.ldE (by assumption) ?_ (by omega) rfl ?_
 | refine K.ldE0 (by assumption) ?_ (by omega) rfl ?_
 | refine K.ldAE (by assumption) ?_ (by omega) rfl ?_
 | refine K.iaC (by omega) ?_
 | refine K.condT (by first | assumption | omega) ?_
 | refine K.condF (by first | assumption | omega) ?_
 | refine K.condbT (by assumption) ?_
 | refine K.condbF (by assumption) ?_
 | simp -dsimp only [LL,B9,Nat.reduceAdd,Nat.reduceEqDiff,reduceIte,reduceCtorEq,Bool.false_eq_true])
  refine K.call (kind_r _ Abs.exA _ Abs.Scope.none w1 hA (Abs.Scope.none_is w1)) ?_
  rintro _ w2 ⟨rfl, he2⟩
  rw [Abs.exA_kind]
  (repeat' first
 | assumption
 | exact Ext.refl _
 | refine Ext.trans ?_ (by assumption)
 | refine K.wrap (by omega) ?_
 | refine K.ldb (by assumption) ?_ rfl ?_
 | refine K.ldb0 (by assumption) ?_ rfl ?_
 | refine K.ldE (by assumption) ?_ (by omega) rfl ?_
 | refine K.ldE0 (by assumption) ?_ (by omega) rfl ?_
 | refine K.ldAE (by assumption) ?_ (by omega) rfl ?_
 | refine K.iaC (by omega) ?_
 | refine K.condT (by first | assumption | omega) ?_
 | refine K.condF (by first | assumption | omega) ?_
 | refine K.condbT (by assumption) ?_
 | refine K.condbF (by assumption) ?_
 | simp -dsimp only [LL,B9,Nat.reduceAdd,Nat.reduceEqDiff,reduceIte,reduceCtorEq,Bool.false_eq_true])
  refine K.bld (cs := [.slice none 0 0, .slice none 0 0, .slice none 0 0, .slice none 0 0, .int .i64 0]) (by simp [fillC]) ?_
  (repeat' first
 | assumption
 | exact Ext.refl _
 | refine Ext.trans ?_ (by assumption)
 | refine K.wrap (by omega) ?_
 | refine K.ldb (by assumption) ?_ rfl ?_
 | refine K.ldb0 (by assumption) ?_ rfl ?_
 | refine K.ldE (by assumption) ?_ (by omega) rfl ?_
 | refine K.ldE0 (by assumption) ?_ (by omega) rfl ?_
 | refine K.ldAE (by assumption) ?_ (by omega) rfl ?_
 | refine K.iaC (by omega) ?_
 | refine K.condT (by first | assumption | omega) ?_
 | refine K.condF (by first | assumption | omega) ?_
 | refine K.condbT (by assumption) ?_
 | refine K.condbF (by assumption) ?_
 | simp -dsimp only [LL,B9,Nat.reduceAdd,Nat.reduceEqDiff,reduceIte,reduceCtorEq,Bool.false_eq_true])
  refine K.call (eval_r _ Abs.exA _ Abs.Env.none w2 (hA.ext he2) (Abs.Env.none_is w2)) ?_
  rintro _ w3 ⟨rfl, he3⟩
  rw [Abs.exA_eval]
  (repeat' first
 | assumption
 | exact Ext.refl _
 | refine Ext.trans ?_ (by assumption)
 | refine K.wrap (by omega) ?_
 | refine K.ldb (by assumption) ?_ rfl ?_
 | refine K.ldb0 (by assumption) ?_ rfl ?_
 | refine K.ldE (by assumption) ?_ (by omega) rfl ?_
 | refine K.ldE0 (by assumption) ?_ (by omega) rfl ?_
 | refine K.ldAE (by assumption) ?_ (by omega) rfl ?_
 | refine K.iaC (by omega) ?_
 | refine K.condT (by first | assumption | omega) ?_
 | refine K.condF (by first | assumption | omega) ?_
 | refine K.condbT (by assumption) ?_
 | refine K.condbF (by assumption) ?_
 | simp -dsimp only [LL,B9,Nat.reduceAdd,Nat.reduceEqDiff,reduceIte,reduceCtorEq,Bool.false_eq_true])
  refine K.bld (cs := [.int .i64 1, .int .i64 1]) (by simp [fillC, lay, ev_const, Value.cells]) ?_
  (repeat' first
 | assumption
 | exact Ext.refl _
 | refine Ext.trans ?_ (by assumption)
 | refine K.wrap (by omega) ?_
 | refine K.ldb (by assumption) ?_ rfl ?_
 | refine K.ldb0 (by assumption) ?_ rfl ?_
 | refine K.ldE (by assumption) ?_ (by omega) rfl ?_
 | refine K.ldE0 (by assumption) ?_ (by omega) rfl ?_
 | refine K.ldAE (by assumption) ?_ (by omega) rfl ?_
 | refine K.iaC (by omega) ?_
 | refine K.condT (by first | assumption | omega) ?_
 | refine K.condF (by first | assumption | omega) ?_
 | refine K.condbT (by assumption) ?_
 | refine K.condbF (by assumption) ?_
 | simp -dsimp only [LL,B9,Nat.reduceAdd,Nat.reduceEqDiff,reduceIte,reduceCtorEq,Bool.false_eq_true])
  refine K.bld (cs := [.int .i64 9, .int .i64 0]) (by simp [fillC, lay, ev_const, Value.cells]) ?_
  (repeat' first
 | assumption
 | exact Ext.refl _
 | refine Ext.trans ?_ (by assumption)
 | refine K.wrap (by omega) ?_
 | refine K.ldb (by assumption) ?_ rfl ?_
 | refine K.ldb0 (by assumption) ?_ rfl ?_
 | refine K.ldE (by assumption) ?_ (by omega) rfl ?_
 | refine K.ldE0 (by assumption) ?_ (by omega) rfl ?_
 | refine K.ldAE (by assumption) ?_ (by omega) rfl ?_
 | refine K.iaC (by omega) ?_
 | refine K.condT (by first | assumption | omega) ?_
 | refine K.condF (by first | assumption | omega) ?_
 | refine K.condbT (by assumption) ?_
 | refine K.condbF (by assumption) ?_
 | simp -dsimp only [LL,B9,Nat.reduceAdd,Nat.reduceEqDiff,reduceIte,reduceCtorEq,Bool.false_eq_true])
  refine K.bldSa (cs := Abs.exB.flatMap Abs.Node.enc) (by simp [List.range, List.range.loop, fillC, lay, ev_tmp, upd_at, Value.cells, Abs.exB, Abs.Node.enc]) fun w4 b4 hb4 he4 hc4 => ?_
  have hB := Abs.Nodes.blk hc4 (n := 2) rfl (by decide) Abs.exB_ok
  (repeat' first
 | assumption
 | exact Ext.refl _
 | refine Ext.trans ?_ (by assumption)
 | refine K.wrap (by omega) ?_
 | refine K.ldb (by assumption) ?_ rfl ?_
 | refine K.ldb0 (by assumption) ?_ rfl ?_
 | refine K.ldE (by assumption) ?_ (by omega) rfl ?_
 | refine K.ldE0 (by assumption) ?_ (by omega) rfl ?_
 | refine K.ldAE (by assumption) ?_ (by omega) rfl ?_
 | refine K.iaC (by omega) ?_
 | refine K.condT (by first | assumption | omega) ?_
 | refine K.condF (by first | assumption | omega) ?_
 | refine K.condbT (by assumption) ?_
 | refine K.condbF (by assumption) ?_
 | simp -dsimp only [LL,B9,Nat.reduceAdd,Nat.reduceEqDiff,reduceIte,reduceCtorEq,Bool.false_eq_true])
  refine K.bld (cs := [.slice none 0 0, .slice none 0 0, .slice none 0 0, .slice none 0 0, .slice none 0 0, .int .i64 0]) (by simp [fillC]) ?_
  (repeat' first
 | assumption
 | exact Ext.refl _
 | refine Ext.trans ?_ (by assumption)
 | refine K.wrap (by omega) ?_
 | refine K.ldb (by assumption) ?_ rfl ?_
 | refine K.ldb0 (by assumption) ?_ rfl ?_
 | refine K.ldE (by assumption) ?_ (by omega) rfl ?_
 | refine K.ldE0 (by assumption) ?_ (by omega) rfl ?_
 | refine K.ldAE (by assumption) ?_ (by omega) rfl ?_
 | refine K.iaC (by omega) ?_
 | refine K.condT (by first | assumption | omega) ?_
 | refine K.condF (by first | assumption | omega) ?_
 | refine K.condbT (by assumption) ?_
 | refine K.condbF (by assumption) ?_
 | simp -dsimp only [LL,B9,Nat.reduceAdd,Nat.reduceEqDiff,reduceIte,reduceCtorEq,Bool.false_eq_true])
  refine K.call (kind_r _ Abs.exB _ Abs.Scope.none w4 hB (Abs.Scope.none_is w4)) ?_
  rintro _ w5 ⟨rfl, he5⟩
  rw [Abs.exB_kind]
  (repeat' first
 | assumption
 | exact Ext.refl _
 | refine Ext.trans ?_ (by assumption)
 | refine K.wrap (by omega) ?_
 | refine K.ldb (by assumption) ?_ rfl ?_
 | refine K.ldb0 (by assumption) ?_ rfl ?_
 | refine K.ldE (by assumption) ?_ (by omega) rfl ?_
 | refine K.ldE0 (by assumption) ?_ (by omega) rfl ?_
 | refine K.ldAE (by assumption) ?_ (by omega) rfl ?_
 | refine K.iaC (by omega) ?_
 | refine K.condT (by first | assumption | omega) ?_
 | refine K.condF (by first | assumption | omega) ?_
 | refine K.condbT (by assumption) ?_
 | refine K.condbF (by assumption) ?_
 | simp -dsimp only [LL,B9,Nat.reduceAdd,Nat.reduceEqDiff,reduceIte,reduceCtorEq,Bool.false_eq_true])
  (refine ⟨?_, ?_⟩ <;> first | trivial | rfl | (repeat' first | assumption | exact Ext.refl _ | refine Ext.trans ?_ (by assumption)))
end Go.Proofs.Ytfdohkdifdemeaa
end
section
/- Arguments opened: nodes, acts, commands, processes, propositions, scopes, models. -/
set_option maxRecDepth 4000
namespace Lite
open Go Go.RowKit Go.ChangeShapes Go.WideShapes Go.Deep
section
variable {H : Type} {enc : TypeId × Value → H} {P : Program} {w : World} {base : Nat} {spare : Nat → Bool} {held : Bool}
/-- A struct of one-cell fields, read field by field, with each field's datum. -/
theorem fields2 {t : TypeId} {fs : Array Field} {n : Nat} {cs : List Value} {y : DataW H × List MemPlace} (ht : P.underlying t = some (.struct fs)) (hone : oneCellFields P fs = true) (hC : P.cellsOf t = fs.size)
    (h : DataW.trod enc P w base spare held n t cs = some y) : cs.length = fs.size ∧ ∃ n' ds, y.1 = .agg ds ∧ ∀ (j : Nat) (f : Field), fs[j]? = some f → ∃ v z, cs[j]? = some v ∧ DataW.trod enc P w base spare held n' f.type [v] = some z ∧ ds[j]? = some z.1 := by
  obtain ⟨ys, n', hn', hy, hlen, hyl, hf⟩ := DataW.trod_struct ht h
  refine ⟨by omega, n', _, by rw [hy], fun j f hj => ?_⟩
  obtain ⟨ho, hk⟩ := hone_of hone j f hj
  have hjl : j < fs.size := (Array.getElem?_eq_some_iff.1 hj).1
  have hv : cs[j]? = some (cs[j]'(by omega)) := List.getElem?_eq_getElem (by omega)
  have h1 := hf j f hj
  rw [ho, hk] at h1
  have hone' : (cs.drop j).take 1 = [cs[j]'(by omega)] := by
    rw [List.drop_eq_getElem_cons (by omega)]
    rfl
  rw [hone', List.getElem?_eq_getElem (l := ys) (by omega)] at h1
  exact ⟨_, _, hv, h1, by rw [List.getElem?_map, List.getElem?_eq_getElem (by omega)]; rfl⟩
/-- All that is read of a datum is no more than a machine holds. -/
def Small (P : Program) (t : TypeId) (d : DataW H) : Prop := ∀ q ∈ d.weights P t, q ≤ reachBytes
theorem Small.field {t u : TypeId} {fs : Array Field} {ds : List (DataW H)} {j : Nat} {d : DataW H} {f : Field} (h : Small P t (.agg ds)) (ht : P.underlying t = some (.struct fs)) (hf : fs[j]? = some f) (hu : f.type = u) (hd : ds[j]? = some d) : Small P u d := by
  subst hu
  intro q hq
  refine h q ?_
  simp only [DataW.weights, ht]
  exact DataW.weights_mem_each (j := j) (by simp [hf]) hd q hq
/-- A cell that holds a slice whose elements are read each by R. -/
theorem cell_sl {α : Type} {R : World → Addr → α → Prop} {t e : TypeId} {v : Value} {n : Nat} {z : DataW H × List MemPlace} (sz : Nat) (ht : P.underlying t = some (.slice e)) (hC : P.cellsOf e = sz) (hB : 0 < P.bytesOf e)
    (hR : ∀ (a : Addr) (cs : List Value) (n : Nat) (y : DataW H × List MemPlace), CellsAt w a cs → cs.length = sz → DataW.trod enc P w 0 (fun _ => true) true n e cs = some y → ∃ x, R w a x)
    (h : DataW.trod enc P w 0 (fun _ => true) true n t [v] = some z) : ∃ xs, SlR sz R w v xs ∧ (Small P t z.1 → xs.length ≤ 140737488355328) := by
  rcases open_slice ht h with ⟨hcs, _⟩ | ⟨a, len, cap, m, n, D, Pl, hcs, hb, hl, hm, hmm, hx, hi⟩
  · simp at hcs
    subst hcs
    exact ⟨[], SlR.nil, fun _ => by simp⟩
  · simp at hcs
    subst hcs
    simp only [if_true] at hmm
    subst hmm
    obtain ⟨xs, hxl, hxs⟩ := list_of len (fun i x => R w (a.add (i * sz)) x) fun i hi' => by
      obtain ⟨cs', hc, ht'⟩ := hi i (by omega)
      rw [hC] at hc
      obtain ⟨_, hcl, hat⟩ := World.cells?_some hc
      refine hR _ cs' n _ (fun j u hj => ?_) hcl ht'
      have hjl' : j < sz := hcl ▸ (List.getElem?_eq_some_iff.1 hj).1
      rw [← hj]
      exact hat j hjl'
    refine ⟨xs, ⟨some a, _, by rw [hxl], by omega, hm, fun _ => rfl, fun a' ha => by injection ha with ha; subst ha; exact hxs⟩, fun hs => ?_⟩
    have h1 := hs ((len + (m - len)) * P.bytesOf e) (by rw [hx]; simp [DataW.weights, ht])
    have h2 := reachBytes_lt
    have h3 : len ≤ (len + (m - len)) * P.bytesOf e := Nat.le_trans (Nat.le_add_right len _) (Nat.le_mul_of_pos_right _ hB)
    rw [hxl]
    omega
/-- A slice that came as an argument. -/
theorem arg_sl {r : Reach} {b0 : Nat} {t e : TypeId} {v : Value} {d : DataW H} {p : List MemPlace} (ht : P.underlying t = some (.slice e)) (hval : Value.okWide P w r b0 t v) (h : DataW.Trod enc P w 0 (fun _ => true) true t v d p) :
    ∃ n, DataW.trod enc P w 0 (fun _ => true) true n t [v] = some (d, p) := by
  obtain ⟨a0, len0, cap0, rfl⟩ := okWide_slice ht hval
  obtain ⟨n, hn⟩ := h
  exact ⟨n, hn⟩
end
end Lite
namespace Go.Proofs.Ytfdohkdifdemeaa
open Go Go.RowKit Lite Go.ChangeShapes
variable {H : Type} {enc : TypeId × Value → H} {w : World} {cs : List Value} {n : Nat} {y : DataW H × List MemPlace} {v : Value}
theorem wf_inI {z : Int} (h : (Lit.int .i64 z).wf = true) : Abs.inI z := by
  simp only [Lit.wf, Bool.and_eq_true, decide_eq_true_eq] at h
  exact ⟨h.1, h.2⟩
theorem node_el (h : DataW.trod enc Try.prog w 0 (fun _ => true) true n T.api_Node cs = some y) : ∃ x : Abs.Node, cs = x.enc ∧ x.ok := by
  obtain ⟨hl, n', ds, _, hf⟩ := fields2 (t := T.api_Node) rfl (by kernel_rfl) (by kernel_rfl) h
  match cs, hl with
  | [c0, c1], _ =>
    obtain ⟨_, _, e0, h0, _⟩ := hf 0 _ rfl
    obtain ⟨_, _, e1, h1, _⟩ := hf 1 _ rfl
    cases e0; cases e1
    obtain ⟨z0, e0, _, k0⟩ := DataW.trod_int (k := .i64) (by kernel_rfl) h0
    obtain ⟨z1, e1, _, k1⟩ := DataW.trod_int (k := .i64) (by kernel_rfl) h1
    cases e0; cases e1
    exact ⟨⟨z0, z1⟩, rfl, wf_inI k0, wf_inI k1⟩
theorem nodes_c (h : DataW.trod enc Try.prog w 0 (fun _ => true) true n T.sl_api_Node [v] = some y) : ∃ l, Abs.Nodes w v l ∧ (Small Try.prog T.sl_api_Node y.1 → l.length ≤ 140737488355328) :=
  cell_sl (e := T.api_Node) 2 (by kernel_rfl) (by kernel_rfl) (by decide +kernel) (fun a cs n y hc hl ht => by obtain ⟨x, rfl, hx⟩ := node_el ht; exact ⟨x, hc, hx⟩) h
end Go.Proofs.Ytfdohkdifdemeaa
end
section
/- Arguments opened: scopes, what expressions speak of. -/
set_option maxRecDepth 4000
namespace Lite
open Go Go.RowKit Go.ChangeShapes Go.WideShapes Go.Deep
end Lite
namespace Go.Proofs.Ytfdohkdifdemeaa
open Go Go.RowKit Lite Go.ChangeShapes
variable {H : Type} {enc : TypeId × Value → H} {w : World} {r : Reach} {b0 : Nat} {v : Value} {d : DataW H} {p : List MemPlace}
theorem open_nodes (hval : Value.okWide Try.prog w r b0 T.sl_api_Node v) (h : DataW.Trod enc Try.prog w 0 (fun _ => true) true T.sl_api_Node v d p) : ∃ l, Abs.Nodes w v l := by
  obtain ⟨n, hn⟩ := arg_sl (e := T.api_Node) (by kernel_rfl) hval h
  obtain ⟨l, hl, _⟩ := nodes_c hn
  exact ⟨l, hl⟩
end Go.Proofs.Ytfdohkdifdemeaa
end
section
/- Arguments opened: rows of numbers, what expressions speak of. -/
set_option maxRecDepth 4000
namespace Go.Proofs.Ytfdohkdifdemeaa
open Go Go.RowKit Lite Go.ChangeShapes
variable {H : Type} {enc : TypeId × Value → H} {w : World} {r : Reach} {b0 : Nat} {v : Value} {d : DataW H} {p : List MemPlace}
end Go.Proofs.Ytfdohkdifdemeaa
end
section
/- How models lie in memory: elements by their cells. -/
set_option maxRecDepth 4000
namespace Lite
open Go Go.RowKit
theorem SlR.one {α : Type} {sz : Nat} {R : World → Addr → α → Prop} {w : World} {v : Value} {xs : List α} (h : SlR sz R w v xs) : v.oneCell' = true := by
  obtain ⟨oa, c, rfl, _⟩ := h.form; rfl
def IntIs (_ : World) (cs : List Value) (n : Int) : Prop := cs = [Value.int .i64 n] ∧ Abs.inI n
instance instRelIntB : Rel RIntB IntIs 1 where
  out h := ⟨_, h.cells, rfl, h.ok⟩
  inn h k := by obtain ⟨rfl, k⟩ := k; exact ⟨h, k⟩
  len h := by rw [h.1]; rfl
  one h := by rw [h.1]; simp [Value.oneCell']
  ext _ h := h
def RowIs (w : World) (cs : List Value) (l : List Int) : Prop := ∃ v, cs = [v] ∧ IntsB w v l
instance instRelRow : Rel RRow RowIs 1 where
  out h := by
    obtain ⟨v, h1, h2⟩ := h
    exact ⟨[v], fun j u hj => by cases j with | zero => simp at hj; subst hj; rw [add_zero]; exact h1 | succ j => simp at hj, v, rfl, h2⟩
  inn h k := by
    obtain ⟨v, rfl, k⟩ := k
    have := h 0 v rfl
    rw [add_zero] at this
    exact ⟨v, this, k⟩
  len h := by obtain ⟨v, rfl, _⟩ := h; rfl
  one h := by obtain ⟨v, rfl, h⟩ := h; simpa using h.one
  ext e h := let ⟨v, h1, h2⟩ := h; ⟨v, h1, h2.ext e⟩
end Lite
namespace Abs
open Go Go.RowKit Lite
def ScalarIs (_ : World) (cs : List Value) (x : Scalar) : Prop := cs = x.enc ∧ strOk x.name
def VarIs (_ : World) (cs : List Value) (x : Var) : Prop := cs = x.enc ∧ strOk x.name
def ChanIs (_ : World) (cs : List Value) (x : Chan) : Prop := cs = x.enc ∧ strOk x.name
def NodeIs (_ : World) (cs : List Value) (x : Node) : Prop := cs = x.enc ∧ x.ok
instance instRelScalar : Rel RScalar ScalarIs 2 where
  out h := ⟨_, h.cells, rfl, h.ok⟩
  inn h k := by obtain ⟨rfl, k⟩ := k; exact ⟨h, k⟩
  len h := by rw [h.1]; rfl
  one h := by rw [h.1]; simp [Scalar.enc, Value.oneCell']
  ext _ h := h
instance instRelVar : Rel RVar VarIs 6 where
  out h := ⟨_, h.cells, rfl, h.ok⟩
  inn h k := by obtain ⟨rfl, k⟩ := k; exact ⟨h, k⟩
  len h := by rw [h.1]; rfl
  one h := by rw [h.1]; simp [Var.enc, Value.oneCell']
  ext _ h := h
instance instRelChan : Rel RChan ChanIs 6 where
  out h := ⟨_, h.cells, rfl, h.ok⟩
  inn h k := by obtain ⟨rfl, k⟩ := k; exact ⟨h, k⟩
  len h := by rw [h.1]; rfl
  one h := by rw [h.1]; simp [Chan.enc, Value.oneCell']
  ext _ h := h
instance instRelNode : Rel RNode NodeIs 2 where
  out h := ⟨_, h.cells, rfl, h.ok⟩
  inn h k := by obtain ⟨rfl, k⟩ := k; exact ⟨h, k⟩
  len h := by rw [h.1]; rfl
  one h := by rw [h.1]; simp [Node.enc, Value.oneCell']
  ext _ h := h
def ActIs (w : World) (cs : List Value) (x : Act) : Prop := ∃ vi vv, cs = x.enc vi vv ∧ Nodes w vi x.index ∧ Nodes w vv x.value
theorem ActIs.ext {w w' : World} {cs : List Value} {c : Act} (he : Ext w w') (h : ActIs w cs c) : ActIs w' cs c := let ⟨vi, vv, h1, h2, h3⟩ := h; ⟨vi, vv, h1, h2.ext he, h3.ext he⟩
instance instRelAct : Rel RAct ActIs 5 where
  out h := let ⟨vi, vv, h1, h2, h3⟩ := h; ⟨_, h1, vi, vv, rfl, h2, h3⟩
  inn h k := by obtain ⟨vi, vv, rfl, h2, h3⟩ := k; exact ⟨vi, vv, h, h2, h3⟩
  len h := by obtain ⟨vi, vv, rfl, h2, h3⟩ := h; rfl
  one h := by obtain ⟨vi, vv, rfl, h2, h3⟩ := h; simp [Act.enc, h2.one, h3.one]; simp [Value.oneCell']
  ext e h := h.ext e
instance instRelCmd : Rel RCmd CmdIs 6 where
  out h := let ⟨h0, vi, vv, h1, h2, h3⟩ := h; ⟨_, h1, h0, vi, vv, rfl, h2, h3⟩
  inn h k := by obtain ⟨h0, vi, vv, rfl, h2, h3⟩ := k; exact ⟨h0, vi, vv, h, h2, h3⟩
  len h := by obtain ⟨h0, vi, vv, rfl, h2, h3⟩ := h; rfl
  one h := by obtain ⟨h0, vi, vv, rfl, h2, h3⟩ := h; simp [Cmd.enc, h2.one, h3.one]; simp [Value.oneCell']
  ext e h := h.ext e
instance instRelProc : Rel RProc ProcIs 5 where
  out h := let ⟨h0, vi, vv, h1, h2, h3⟩ := h; ⟨_, h1, h0, vi, vv, rfl, h2, h3⟩
  inn h k := by obtain ⟨h0, vi, vv, rfl, h2, h3⟩ := k; exact ⟨h0, vi, vv, h, h2, h3⟩
  len h := by obtain ⟨h0, vi, vv, rfl, h2, h3⟩ := h; rfl
  one h := by obtain ⟨h0, vi, vv, rfl, h2, h3⟩ := h; simp [Proc.enc, h2.one, h3.one]; simp [Value.oneCell']
  ext e h := h.ext e
def PrpIs (w : World) (cs : List Value) (x : Prp) : Prop := strOk x.name ∧ ∃ ve, cs = x.enc ve ∧ Nodes w ve x.expr
theorem PrpIs.ext {w w' : World} {cs : List Value} {c : Prp} (he : Ext w w') (h : PrpIs w cs c) : PrpIs w' cs c := let ⟨h0, vi, h1, h2⟩ := h; ⟨h0, vi, h1, h2.ext he⟩
instance instRelPrp : Rel RPrp PrpIs 2 where
  out h := let ⟨h0, vi, h1, h2⟩ := h; ⟨_, h1, h0, vi, rfl, h2⟩
  inn h k := by obtain ⟨h0, vi, rfl, h2⟩ := k; exact ⟨h0, vi, h, h2⟩
  len h := by obtain ⟨h0, vi, rfl, h2⟩ := h; rfl
  one h := by obtain ⟨h0, vi, rfl, h2⟩ := h; simp [Prp.enc, h2.one]; simp [Value.oneCell']
  ext e h := h.ext e
def sigNode : List VK := [.i, .i]
theorem conf_node (x : Node) : conf sigNode x.enc := ⟨⟨_, rfl⟩, ⟨_, rfl⟩, trivial⟩
theorem node_inj (x y : Node) (h : x.enc = y.enc) : x = y := by cases x; cases y; simpa [Node.enc] using h
end Abs
end
section
/- Uses: what expressions speak of: the document's; the law. -/
set_option maxRecDepth 8000
set_option maxHeartbeats 6400000
namespace Lite
open Go Go.RowKit
/-- A row stays, when one of another type grows. -/
theorem OwR.grownO {α β : Type} {enc : α → List Value} {enc' : β → List Value} {e e' : TypeId} {sz sz' base base' : Nat} {w w' : World} {v s : Value} {xs : List α} {ys : List β} (h : OwR enc e sz base w v xs) (hs : OwR enc' e' sz' base' w s ys) (hg : w.grownBy w' s.ownBlock) (ht : e ≠ e') : OwR enc e sz base w' v xs :=
  h.mod (A := fun k => s.ownBlock = some k) (Mod.grown hg fun k e => e) fun k hk a => by
    obtain ⟨c1, h1⟩ := h.blk k hk
    obtain ⟨c2, h2⟩ := hs.blk k a
    rw [h1] at h2
    injection h2 with h2
    injection h2 with _ h2
    exact ht h2
end Lite
namespace Abs
open Go
theorem pw_drop_lt {l : List Int} (h : l.Pairwise (· < ·)) {i : Nat} (hi : i < l.length) : ∀ x ∈ l.drop (i + 1), l[i] < x := by
  intro x hx
  have := h.sublist (List.drop_sublist i l)
  rw [List.drop_eq_getElem_cons hi, List.pairwise_cons] at this
  exact this.1 x hx
end Abs
namespace Go.Proofs.Ytfdohkdifdemeaa
open Go Go.RowKit Lite Go.ChangeShapes
def encZ (n : Int) : List Value := [.int .i64 n]
abbrev SlP := Option Addr × Nat × Nat
abbrev OwI (base : Nat) (w : World) (v : Value) (l : List Int) : Prop := OwR encZ T.int 1 base w v l
theorem encZ_one (x : Int) : ∀ u ∈ encZ x, u.oneCell' = true := by simp [encZ, Value.oneCell']
theorem rput_r (v : Value) (l : List Int) (n : Int) (base : Nat) (w : World) (h : OwI base w v l) (hb : base ≤ w.heap.size) (hp : l.Pairwise (· < ·)) (hl : l.length ≤ 1000000) :
    Ret Try.prog F.lariatref10_put #[v, .int .i64 n] w fun u w' => (∃ r, Abs.InsOf l n r ∧ OwI base w' u r) ∧ Ext w w' := by
  obtain ⟨oa, ca, rfl, la⟩ := h.form
  have hS : SlR 1 (Flat encZ) w _ l := OwR.slr (enc := encZ) (fun _ => rfl) h
  refine K.start hmix E.lariatref10_put (args := [_, _]) (Nat.le_of_ble_eq_true rfl) ?_; dsimp only [C.lariatref10_put]; refine Yy ?_
  refine Sr ?_
  refine K.forG 7 l.length [0, 1] (fun x : Bool × SlP => [(5, .slice x.2.1 x.2.2.1 x.2.2.2), (6, .bool x.1)]) (false, none, 0, 0) (fun i x W => (∃ a b, l.take i = a ++ b ∧ (∀ y ∈ a, y < n) ∧ (∀ y ∈ b, n < y) ∧ (x.1 = true → (∀ y ∈ l.drop i, n < y) ∧ OwI w.heap.size W (.slice x.2.1 x.2.2.1 x.2.2.2) (a ++ n :: b)) ∧ (x.1 = false → b = [] ∧ OwI w.heap.size W (.slice x.2.1 x.2.2.1 x.2.2.2) a)) ∧ Ext w W) hZq hZq
    ⟨⟨[], [], rfl, (fun y h => by cases h), (fun y h => by cases h), (fun h => by cases h), fun _ => ⟨rfl, OwR.nil _ _ _ _ _⟩⟩, Ext.refl _⟩ ?_
  rintro i ⟨dn, oo, no, co⟩ S w1 hi ⟨⟨a, b, hab, ha, hbb, ht, hf⟩, he1⟩
  dsimp only at ht hf
  have hablen := congrArg List.length hab
  rw [List.length_take, List.length_append] at hablen
  have hS1 := hS.ext Flat.ext he1
  have z1 := he1.size
  refine Sr ?_
  refine K.cond (fun g1 => ?_) (fun g1 => ?_)
  rotate_left
  · have hie : i = l.length := by omega
    rw [hie, List.take_length] at hab
    cases dn with
    | true =>
      obtain ⟨_, ho⟩ := ht rfl
      refine Sr ?_
      refine ⟨⟨a ++ n :: b, ?_, ho.low hb⟩, he1⟩
      rw [hab]
      exact Abs.ins_mid (hab ▸ hp) ha hbb
    | false =>
      obtain ⟨rfl, ho⟩ := hf rfl
      refine Sr ?_
      intro w2 b2 hb2 he2 hc2
      refine Sr ?_
      refine K.app1 (y := n) (ho.ext he2) hc2 rfl (fun _ => rfl) encZ_one (by omega) (by unfold maxLen; omega) (by have := he2.size; omega) fun oa' n' c' w3 ho3 hg3 => ?_
      have he3 := OwR.extG (ho.ext he2) (he1.trans he2) hg3 (Nat.le_refl _)
      refine Sr ?_
      refine ⟨⟨a ++ [n], ?_, ho3.low hb⟩, he3⟩
      rw [List.append_nil] at hab
      rw [hab]
      exact Abs.ins_last (hab ▸ hp) ha
  have hi2 : i < l.length := by omega
  obtain ⟨aa, rfl⟩ := hS.addr (by omega)
  have htk := List.take_succ_eq_append_getElem hi2
  have hdr := Abs.pw_drop_lt hp hi2
  refine Sr ?_
  refine K.cond (fun g2 => ?_) (fun g2 => ?_)
  · refine Sr ?_
    exact ⟨⟨l, Abs.ins_there hp (by rw [← g2]; exact List.getElem_mem _), h.ext he1⟩, he1⟩
  cases dn with
  | true =>
    obtain ⟨hd, ho⟩ := ht rfl
    have hgt : n < l[i] := hd _ (by rw [List.drop_eq_getElem_cons hi2]; exact List.mem_cons_self ..)
    have hol := ho.form
    refine Sr ?_
    intro w2 b2 hb2 he2 hc2
    refine Sr ?_
    refine K.app1 (y := l[i]) (ho.ext he2) hc2 rfl (fun _ => rfl) encZ_one (by simp; omega) (by unfold maxLen; simp; omega) (by have := he2.size; omega) fun oa' n' c' w3 ho3 hg3 => ?_
    have he3 := OwR.extG (ho.ext he2) (he1.trans he2) hg3 (Nat.le_refl _)
    refine Sr ?_
    refine ⟨hi2, by first | trivial | rfl, (true, oa', n', c'), hZq, ⟨a, b ++ [l[i]], ?_, ha, ?_, fun _ => ⟨fun y hy => hd y ?_, ?_⟩, (fun h => by cases h)⟩, he3⟩
    · rw [htk, hab, List.append_assoc]
    · intro y hy
      rcases List.mem_append.1 hy with hy | hy
      · exact hbb y hy
      · rw [List.mem_singleton] at hy; subst hy; exact hgt
    · rw [List.drop_eq_getElem_cons hi2]; exact List.mem_cons_of_mem _ hy
    · simpa using ho3
  | false =>
    obtain ⟨rfl, ho⟩ := hf rfl
    rw [List.append_nil] at hab
    refine Sr ?_
    refine K.cond (fun g3 => ?_) (fun g3 => ?_)
    · refine Sr ?_
      intro w2 b2 hb2 he2 hc2
      refine Sr ?_
      refine K.app1 (y := n) (ho.ext he2) hc2 rfl (fun _ => rfl) encZ_one (by simp at hablen; omega) (by unfold maxLen; simp at hablen; omega) (by have := he2.size; omega) fun oa' n' c' w3 ho3 hg3 => ?_
      have he3 := OwR.extG (ho.ext he2) (he1.trans he2) hg3 (Nat.le_refl _)
      have hS3 := hS.ext Flat.ext he3
      have z3 := he3.size
      refine Sr ?_
      intro w4 b4 hb4 he4 hc4
      refine Sr ?_
      refine K.app1 (y := l[i]) (ho3.ext he4) hc4 rfl (fun _ => rfl) encZ_one (by simp at hablen ⊢; omega) (by unfold maxLen; simp at hablen ⊢; omega) (by have := he4.size; omega) fun oa'' n'' c'' w5 ho5 hg5 => ?_
      have he5 := OwR.extG (ho3.ext he4) (he3.trans he4) hg5 (Nat.le_refl _)
      refine Sr ?_
      refine ⟨hi2, by first | trivial | rfl, (true, oa'', n'', c''), hZq, ⟨a, [l[i]], ?_, ha, ?_, fun _ => ⟨fun y hy => ?_, ?_⟩, (fun h => by cases h)⟩, he5⟩
      · rw [htk, hab]
      · intro y hy
        rw [List.mem_singleton] at hy; subst hy; omega
      · have := hdr y hy; omega
      · simpa using ho5
    · have hlt : l[i] < n := by omega
      refine Sr ?_
      intro w2 b2 hb2 he2 hc2
      refine Sr ?_
      refine K.app1 (y := l[i]) (ho.ext he2) hc2 rfl (fun _ => rfl) encZ_one (by simp at hablen; omega) (by unfold maxLen; simp at hablen; omega) (by have := he2.size; omega) fun oa' n' c' w3 ho3 hg3 => ?_
      have he3 := OwR.extG (ho.ext he2) (he1.trans he2) hg3 (Nat.le_refl _)
      refine Sr ?_
      refine ⟨hi2, by first | trivial | rfl, (false, oa', n', c'), hZq, ⟨a ++ [l[i]], [], ?_, ?_, (fun y h => by cases h), (fun h => by cases h), fun _ => ⟨rfl, ho3⟩⟩, he3⟩
      · rw [htk, hab, List.append_nil]
      · intro y hy
        rcases List.mem_append.1 hy with hy | hy
        · exact ha y hy
        · rw [List.mem_singleton] at hy; subst hy; exact hlt
/-- What the program gives, as a row. -/
theorem usesAt_sl {w : World} {base : Nat} {v : Value} {l : List Abs.Node} (h : UsesAt w base v l) : SlR 2 (Flat Abs.Node.enc) w v l := by
  rcases h.ex with ⟨rfl, p, c, rfl, hc⟩ | ⟨b, c, rfl, _, hr, h1, h2⟩
  · exact ⟨p, c, rfl, Nat.zero_le _, hc, fun h => absurd rfl h, fun a _ i hi => absurd hi (Nat.not_lt_zero _)⟩
  · refine ⟨_, c, rfl, h1, h2, fun _ => rfl, fun a ha i hi => ?_⟩
    injection ha with ha
    subst ha
    have := hr.at_ hi
    rw [add_eq, Nat.zero_add, Nat.mul_comm]
    exact this
theorem rUses10_r (v : Value) (e : List Abs.Node) (w : World) (h : Abs.Nodes w v e) (hl : e.length ≤ 1000) :
    Ret Try.prog F.lariatref10_Uses #[v] w fun u w' => (∃ r, Abs.UsesOf e r ∧ OwR Abs.Node.enc T.api_Node 2 w.heap.size w' u r) ∧ Ext w w' := by
  obtain ⟨oa, ca, rfl, _⟩ := h.form
  refine K.start hmix E.lariatref10_Uses (args := [_]) (Nat.le_of_ble_eq_true rfl) ?_; dsimp only [C.lariatref10_Uses]; refine Yy ?_
  refine Sr ?_
  intro w1 b9 hb9 he1 hc9
  have z1 := he1.size
  refine Sr ?_
  refine K.forG 5 5 [0, 4] (fun x : SlP => [(3, .slice x.1 x.2.1 x.2.2)]) (none, 0, 0) (fun k x W => (∃ r, Abs.UsesUp e k r ∧ OwR Abs.Node.enc T.api_Node 2 w1.heap.size W (.slice x.1 x.2.1 x.2.2) r) ∧ Ext w1 W) hZq hZq ⟨⟨[], Abs.UsesUp.nil e, OwR.nil _ _ _ _ _⟩, Ext.refl _⟩ ?_
  rintro k ⟨xo, xn, xc⟩ S w2 hk ⟨⟨r, hup, hor⟩, he2⟩
  dsimp only at hor
  have hc92 := he2.obj hc9
  have e2 := he1.trans he2
  have hrl := hup.len
  refine Sr ?_
  refine K.cond (fun g1 => ?_) (fun g1 => ?_)
  rotate_left
  · have hk5 : k = 5 := by omega
    subst hk5
    refine Sr ?_
    exact ⟨⟨r, hup.done, hor.low z1⟩, e2⟩
  have hk2 : k < 5 := by omega
  obtain ⟨op, hop⟩ : ∃ op, Abs.opsL[k]? = some op := ⟨_, List.getElem?_eq_getElem (show k < Abs.opsL.length from hk2)⟩
  have hopc : ∀ {W}, Ext w1 W → W.cell? (Addr.add ⟨b9, 0, none⟩ (k * 1)) = some (.int .i64 op) := fun he => cell_blk (he.obj hc9) (by
    rw [Nat.mul_one]
    match k, hk2, hop with
    | 0, _, h | 1, _, h | 2, _, h | 3, _, h | 4, _, h => simp [Abs.opsL] at h; subst h; rfl)
  refine Sr ?_
  refine K.forG 7 e.length [0, 3, 4, 5] (fun y : SlP => [(6, .slice y.1 y.2.1 y.2.2)]) (none, 0, 0) (fun j y W => (∃ l, Abs.NumsOf (e.take j) op l ∧ OwI w1.heap.size W (.slice y.1 y.2.1 y.2.2) l) ∧ Ext w2 W) hZq hZq ⟨⟨[], by rw [List.take_zero]; exact Abs.NumsOf.nil op, OwR.nil _ _ _ _ _⟩, Ext.refl _⟩ ?_
  rintro j ⟨yo, yn, yc⟩ S2 w3 hj ⟨⟨l, hno, hol⟩, he3⟩
  dsimp only at hol
  have e3 := e2.trans he3
  have h3 := h.ext e3
  have hll := hno.len
  rw [List.length_take] at hll
  refine Sr ?_
  refine K.cond (fun g2 => ?_) (fun g2 => ?_)
  · have hj2 : j < e.length := by omega
    obtain ⟨a, rfl⟩ := h.addr (by omega)
    have hx := (h3.at j hj2).cells
    unfold Abs.Node.enc at hx
    have htk := List.take_succ_eq_append_getElem hj2
    have hcell := hopc (he2.trans he3)
    obtain rfl : yn = l.length := by
      obtain ⟨on, cn, h1, _⟩ := hol.form
      injection h1
    refine Sr ?_
    refine K.ld hcell ?_
    refine Sr ?_
    intro w4 he4
    have e4 := e3.trans he4
    have h4 := h3.ext he4
    have hx4 := hx.ext he4
    refine K.cond (fun g3 => ?_) (fun g3 => ?_)
    · refine Sr ?_
      refine K.call (rput_r _ l e[j].n w1.heap.size w4 (hol.ext he4) ((he2.trans he3).trans he4).size hno.pw (by omega)) ?_
      rintro u w5 ⟨⟨r', hins, ho'⟩, he5⟩
      obtain ⟨oa', ca', rfl, _⟩ := ho'.form
      refine Sr ?_
      exact ⟨hj2, by first | trivial | rfl, (oa', _, ca'), hZq, ⟨r', by rw [htk]; exact hno.put g3 hins, ho'⟩, (he3.trans he4).trans he5⟩
    · refine Sr ?_
      exact ⟨hj2, by first | trivial | rfl, (yo, l.length, yc), hZq, ⟨l, by rw [htk]; exact hno.skip g3, hol.ext he4⟩, he3.trans he4⟩
  have hje : j = e.length := by omega
  rw [hje, List.take_length] at hno
  obtain rfl : yn = l.length := by
    obtain ⟨on, cn, h1, _⟩ := hol.form
    injection h1
  have hor3 := hor.ext he3
  have E13 := he2.trans he3
  have hstep := hup.step hk2 hop hno
  refine Sr ?_
  refine K.forG 8 l.length [0, 4, 5, 6] (fun x : SlP => [(3, .slice x.1 x.2.1 x.2.2)]) (xo, xn, xc) (fun i x W => OwR Abs.Node.enc T.api_Node 2 w1.heap.size W (.slice x.1 x.2.1 x.2.2) (r ++ (l.take i).map fun n => (⟨op, n⟩ : Abs.Node)) ∧ OwI w1.heap.size W (.slice yo l.length yc) l ∧ Ext w1 W) hZq hZq ⟨by simpa using hor3, hol, E13⟩ ?_
  rintro i ⟨zo, zn, zc⟩ S3 w5 hi ⟨hor5, hol5, he5⟩
  dsimp only at hor5
  refine Sr ?_
  refine K.cond (fun g4 => ?_) (fun g4 => ?_)
  rotate_left
  · have hil : i = l.length := by omega
    rw [hil, List.take_length] at hor5
    refine Sr ?_
    exact ⟨hk2, by first | trivial | rfl, (zo, zn, zc), hZq, ⟨_, hstep, hor5⟩, he5⟩
  have hi2 : i < l.length := by omega
  have hS5 : SlR 1 (Flat encZ) w5 _ l := OwR.slr (enc := encZ) (fun _ => rfl) hol5
  obtain ⟨al, rfl⟩ := hS5.addr (by omega)
  obtain rfl : zn = (r ++ (l.take i).map fun n => (⟨op, n⟩ : Abs.Node)).length := by
    obtain ⟨on, cn, h1, _⟩ := hor5.form
    injection h1
  have hrr : (r ++ (l.take i).map fun n => (⟨op, n⟩ : Abs.Node)).length ≤ 10000 := by
    simp only [List.length_append, List.length_map, List.length_take]
    have : k * e.length ≤ 5 * 1000 := Nat.mul_le_mul (by omega) hl
    omega
  refine Sr ?_
  intro w6 he6
  have hS6 := hS5.ext Flat.ext he6
  have hcell := hopc (he5.trans he6)
  have hl6 : w6.cell? (al.add (i * 1)) = some (.int .i64 l[i]) := by
    have h0 : CellsAt w6 (al.add (i * 1)) (encZ l[i]) := hS6.at i hi2
    have := h0 0 _ rfl
    rwa [add_zero] at this
  refine Sr ?_
  refine K.ld hcell ?_
  refine Sr ?_
  intro w7 b7 hb7 he7 hc7
  have e17 := (he5.trans he6).trans he7
  have hor7 := hor5.ext (he6.trans he7)
  refine Sr ?_
  refine K.app1 (y := (⟨op, l[i]⟩ : Abs.Node)) hor7 hc7 rfl (fun _ => rfl) node_one (by omega) (by unfold maxLen; omega) e17.size fun oa' n' c' w8 ho8 hg8 => ?_
  have he8 := OwR.extG hor7 e17 hg8 (Nat.le_refl _)
  have hol8 := (hol5.ext (he6.trans he7)).grownO hor7 hg8 (by decide)
  refine Sr ?_
  refine ⟨hi2, by first | trivial | rfl, (oa', n', c'), hZq, ?_, hol8, he8⟩
  rw [List.take_succ_eq_append_getElem hi2, List.map_append, ← List.append_assoc]
  exact ho8
theorem rSame10_r (v1 v2 : Value) (l1 l2 : List Abs.Node) (w : World) (h1 : SlR 2 (Flat Abs.Node.enc) w v1 l1) (h2 : SlR 2 (Flat Abs.Node.enc) w v2 l2) :
    Ret Try.prog F.lariatref10_Same #[v1, v2] w fun v w' => (∃ b : Bool, v = .bool b ∧ (b = true ↔ l1 = l2)) ∧ Ext w w' := by
  obtain ⟨o1, c1, rfl, b1⟩ := h1.form
  obtain ⟨o2, c2, rfl, b2⟩ := h2.form
  refine K.start hmix E.lariatref10_Same (args := [_, _]) (Nat.le_of_ble_eq_true rfl) ?_; dsimp only [C.lariatref10_Same]; refine Yy ?_
  refine Sr ?_
  refine K.cond (fun g => ?_) (fun g => ?_)
  rotate_left
  · refine Sr ?_
    exact ⟨⟨false, rfl, by simp; intro e; subst e; exact g rfl⟩, Ext.refl _⟩
  have hlen : l1.length = l2.length := by omega
  refine Sr ?_
  refine K.forG 5 l1.length [0, 1] (fun _ => []) () (fun k _ w' => Ext w w' ∧ l1.take k = l2.take k) hZq hZq ⟨Ext.refl _, by simp⟩ ?_
  rintro k _ S w2 hk ⟨he2, hI⟩
  refine Sr ?_
  refine K.cond (fun g1 => ?_) (fun g1 => ?_)
  · have hk' : k < l1.length := by omega
    have hk2 : k < l2.length := by omega
    obtain ⟨a1, rfl⟩ := h1.addr (by omega)
    obtain ⟨a2, rfl⟩ := h2.addr (by omega)
    have q1 : CellsAt w2 (a1.add (k * 2)) l1[k].enc := CellsAt.ext he2 (h1.at k hk')
    have q2 : CellsAt w2 (a2.add (k * 2)) l2[k].enc := CellsAt.ext he2 (h2.at k hk2)
    refine Sr ?_
    refine K.neS (sig := Abs.sigNode) (by kernel_rfl) (Abs.conf_node _) (Abs.conf_node _) fun r hr => ?_
    refine Sr ?_
    intro w3 he3
    refine Sr ?_
    refine K.condb (fun g2 => ?_) (fun g2 => ?_)
    · refine Sr ?_
      refine ⟨⟨false, rfl, ?_⟩, he2.trans he3⟩
      simp
      intro e
      subst e
      exact (hr.1 g2) rfl
    · refine Sr ?_
      refine ⟨hk', by first | trivial | rfl, (), trivial, he2.trans he3, ?_⟩
      rw [List.take_succ_eq_append_getElem hk', List.take_succ_eq_append_getElem hk2, hI, Abs.node_inj l1[k] l2[k] (Classical.byContradiction fun hn => by rw [hr.2 hn] at g2; cases g2)]
  · refine Sr ?_
    refine ⟨⟨true, rfl, by simp; rw [List.take_of_length_le (by omega), List.take_of_length_le (by omega)] at hI; exact hI⟩, he2⟩
theorem lawUses_r (v : Value) (e : List Abs.Node) (w : World) (h : Abs.Nodes w v e) :
    Ret Try.prog F.lariatlaw10_ExprUses #[v] w fun u w' => u = .bool true ∧ Ext w w' := by
  have hN := h
  obtain ⟨oa, ca, rfl, _⟩ := h.form
  refine K.start hmix E.lariatlaw10_ExprUses (args := [_]) (Nat.le_of_ble_eq_true rfl) ?_; dsimp only [C.lariatlaw10_ExprUses]; refine Yy ?_
  refine Sr ?_
  refine K.cond (fun g => ?_) (fun g => ?_)
  · refine Sr ?_
    refine K.call (elives_r w) ?_
    rintro _ w1 ⟨rfl, he1⟩
    refine Sr ?_
    exact ⟨by first | trivial | rfl, he1⟩
  refine Sr ?_
  refine K.call (uses_r _ e w hN (by omega)) ?_
  rintro u1 w1 ⟨⟨r, hr, hu⟩, he1⟩
  have hs1 := usesAt_sl hu
  obtain ⟨o1, c1, rfl, _⟩ := hs1.form
  refine Sr ?_
  refine K.call (rUses10_r _ e w1 (hN.ext he1) (by omega)) ?_
  rintro u2 w2 ⟨⟨r2, hr2, hu2⟩, he2⟩
  obtain rfl := hr.eq hr2
  have hs2 : SlR 2 (Flat Abs.Node.enc) w2 u2 r := OwR.slr (enc := Abs.Node.enc) (fun _ => rfl) hu2
  obtain ⟨o2, c2, rfl, _⟩ := hs2.form
  have e2 := he1.trans he2
  refine Sr ?_
  refine K.call (rSame10_r _ _ r r w2 (hs1.ext Flat.ext he2) hs2) ?_
  rintro _ w3 ⟨⟨b, rfl, hb⟩, he3⟩
  obtain rfl := hb.2 rfl
  refine Sr ?_
  refine K.call (elives_r w3) ?_
  rintro _ w4 ⟨rfl, he4⟩
  refine Sr ?_
  exact ⟨by first | trivial | rfl, (e2.trans he3).trans he4⟩
theorem walk_ExprUses {H : Type} {enc : TypeId × Value → H} {r : Reach} {b0 : Nat} {d0 : DataW H} {p0 : List MemPlace} (v0 : Value) (W : World)
    (k0 : Value.okWide Try.prog W r b0 T.sl_api_Node v0) (h0 : DataW.Trod enc Try.prog W 0 (fun _ => true) true T.sl_api_Node v0 d0 p0) (_s0 : Small Try.prog T.sl_api_Node d0) :
    Ret Try.prog F.lariatlaw10_ExprUses #[v0] W fun v w' => v = .bool true ∧ Ext W w' := by
  obtain ⟨e, he⟩ := open_nodes k0 h0
  exact lawUses_r v0 e W he
end Go.Proofs.Ytfdohkdifdemeaa
end
