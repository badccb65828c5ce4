/- What the reference says of values: numbers, leaves, operations. -/
import Derived.Test.YteaboocppcbkiaaExprL
import Derived.Test.YteaboocppcbkiaaExprT
set_option linter.all false
set_option maxRecDepth 4000
set_option linter.unusedSimpArgs false
set_option maxHeartbeats 1600000
namespace Go.Proofs.Yteaboocppcbkiaa
open Go Go.RowKit Lite

theorem rat_r (v : Value) (l : List Int) (n : Int) (w : World) (hl : IntsB w v l) : Ret Try.prog F.lariatref10_at #[v, .int .i64 n] w fun v w' => v = .tuple #[.int .i64 (Abs.vat l n).1, .bool (decide ((Abs.vat l n).2 = 0))] ∧ Ext w w' := by
  obtain ⟨oa, cap, rfl, hlen⟩ := hl.form
  refine E.lariatref10_at (args := [_, _]) (Nat.le_of_ble_eq_true rfl) ?_
  dsimp only [C.lariatref10_at]
  (repeat' first
 | assumption
 | exact Ext.refl _
 | refine Ext.trans ?_ (by assumption)
 | refine K.wrap (by omega) ?_
 | refine K.ldb (by assumption) ?_ rfl ?_
 | refine K.ldb0 (by assumption) ?_ rfl ?_
 | refine K.ldE (by assumption) ?_ (by omega) rfl ?_
 | refine K.ldE0 (by assumption) ?_ (by omega) rfl ?_
 | refine K.ldAE (by assumption) ?_ (by omega) rfl ?_
 | refine K.iaC (by omega) ?_
 | refine K.condT (by first | assumption | omega) ?_
 | refine K.condF (by first | assumption | omega) ?_
 | refine K.condbT (by assumption) ?_
 | refine K.condbF (by assumption) ?_
 | simp -dsimp only [LL,B9,Nat.reduceAdd,Nat.reduceEqDiff,reduceIte,reduceCtorEq,Bool.false_eq_true])
  refine K.cond (fun g1 => ?_) (fun g1 => ?_)
  · (repeat' first
 | assumption
 | exact Ext.refl _
 | refine Ext.trans ?_ (by assumption)
 | refine K.wrap (by omega) ?_
 | refine K.ldb (by assumption) ?_ rfl ?_
 | refine K.ldb0 (by assumption) ?_ rfl ?_
 | refine K.ldE (by assumption) ?_ (by omega) rfl ?_
 | refine K.ldE0 (by assumption) ?_ (by omega) rfl ?_
 | refine K.ldAE (by assumption) ?_ (by omega) rfl ?_
 | refine K.iaC (by omega) ?_
 | refine K.condT (by first | assumption | omega) ?_
 | refine K.condF (by first | assumption | omega) ?_
 | refine K.condbT (by assumption) ?_
 | refine K.condbF (by assumption) ?_
 | simp -dsimp only [LL,B9,Nat.reduceAdd,Nat.reduceEqDiff,reduceIte,reduceCtorEq,Bool.false_eq_true])
    rw [Abs.vat, Abs.nth_none (.inl g1)]
    (refine ⟨?_, ?_⟩ <;> first | trivial | rfl | (repeat' first | assumption | exact Ext.refl _ | refine Ext.trans ?_ (by assumption)))
  (repeat' first
 | assumption
 | exact Ext.refl _
 | refine Ext.trans ?_ (by assumption)
 | refine K.wrap (by omega) ?_
 | refine K.ldb (by assumption) ?_ rfl ?_
 | refine K.ldb0 (by assumption) ?_ rfl ?_
 | refine K.ldE (by assumption) ?_ (by omega) rfl ?_
 | refine K.ldE0 (by assumption) ?_ (by omega) rfl ?_
 | refine K.ldAE (by assumption) ?_ (by omega) rfl ?_
 | refine K.iaC (by omega) ?_
 | refine K.condT (by first | assumption | omega) ?_
 | refine K.condF (by first | assumption | omega) ?_
 | refine K.condbT (by assumption) ?_
 | refine K.condbF (by assumption) ?_
 | simp -dsimp only [LL,B9,Nat.reduceAdd,Nat.reduceEqDiff,reduceIte,reduceCtorEq,Bool.false_eq_true])
  refine K.cond (fun g2 => ?_) (fun g2 => ?_)
  · (repeat' first
 | assumption
 | exact Ext.refl _
 | refine Ext.trans ?_ (by assumption)
 | refine K.wrap (by omega) ?_
 | refine K.ldb (by assumption) ?_ rfl ?_
 | refine K.ldb0 (by assumption) ?_ rfl ?_
 | refine K.ldE (by assumption) ?_ (by omega) rfl ?_
 | refine K.ldE0 (by assumption) ?_ (by omega) rfl ?_
 | refine K.ldAE (by assumption) ?_ (by omega) rfl ?_
 | refine K.iaC (by omega) ?_
 | refine K.condT (by first | assumption | omega) ?_
 | refine K.condF (by first | assumption | omega) ?_
 | refine K.condbT (by assumption) ?_
 | refine K.condbF (by assumption) ?_
 | simp -dsimp only [LL,B9,Nat.reduceAdd,Nat.reduceEqDiff,reduceIte,reduceCtorEq,Bool.false_eq_true])
    rw [Abs.vat, Abs.nth_none (.inr (by omega))]
    (refine ⟨?_, ?_⟩ <;> first | trivial | rfl | (repeat' first | assumption | exact Ext.refl _ | refine Ext.trans ?_ (by assumption)))
  obtain ⟨i, rfl⟩ := Int.eq_ofNat_of_zero_le (show 0 ≤ n by omega)
  obtain ⟨a, rfl⟩ := hl.addr (by omega)
  (repeat' first
 | assumption
 | exact Ext.refl _
 | refine Ext.trans ?_ (by assumption)
 | refine K.wrap (by omega) ?_
 | refine K.ldb (by assumption) ?_ rfl ?_
 | refine K.ldb0 (by assumption) ?_ rfl ?_
 | refine K.ldE (by assumption) ?_ (by omega) rfl ?_
 | refine K.ldE0 (by assumption) ?_ (by omega) rfl ?_
 | refine K.ldAE (by assumption) ?_ (by omega) rfl ?_
 | refine K.iaC (by omega) ?_
 | refine K.condT (by first | assumption | omega) ?_
 | refine K.condF (by first | assumption | omega) ?_
 | refine K.condbT (by assumption) ?_
 | refine K.condbF (by assumption) ?_
 | simp -dsimp only [LL,B9,Nat.reduceAdd,Nat.reduceEqDiff,reduceIte,reduceCtorEq,Bool.false_eq_true])
  rw [Abs.vat, Abs.nth_some (by omega) (by omega)]
  simp only [Int.toNat_natCast]
  (refine ⟨?_, ?_⟩ <;> first | trivial | rfl | (repeat' first | assumption | exact Ext.refl _ | refine Ext.trans ?_ (by assumption)))
theorem vat_err (l : List Int) (n : Int) : (Abs.vat l n).2 = 0 ∨ Abs.vat l n = (0, 8) := by
  unfold Abs.vat; split
  · exact .inl rfl
  · exact .inr rfl
theorem truth_r (b : Bool) (w : World) : Ret Try.prog F.lariatref10_Truth #[.bool b] w fun v w' => v = .int .i64 (Abs.bit b) ∧ w' = w := by
  refine E.lariatref10_Truth (args := [_]) (Nat.le_of_ble_eq_true rfl) ?_
  dsimp only [C.lariatref10_Truth]
  (repeat' first
 | assumption
 | exact Ext.refl _
 | refine Ext.trans ?_ (by assumption)
 | refine K.wrap (by omega) ?_
 | refine K.ldb (by assumption) ?_ rfl ?_
 | refine K.ldb0 (by assumption) ?_ rfl ?_
 | refine K.ldE (by assumption) ?_ (by omega) rfl ?_
 | refine K.ldE0 (by assumption) ?_ (by omega) rfl ?_
 | refine K.ldAE (by assumption) ?_ (by omega) rfl ?_
 | refine K.iaC (by omega) ?_
 | refine K.condT (by first | assumption | omega) ?_
 | refine K.condF (by first | assumption | omega) ?_
 | refine K.condbT (by assumption) ?_
 | refine K.condbF (by assumption) ?_
 | simp -dsimp only [LL,B9,Nat.reduceAdd,Nat.reduceEqDiff,reduceIte,reduceCtorEq,Bool.false_eq_true])
  refine K.condb (fun h => ?_) (fun h => ?_)
  all_goals
    subst h
    (repeat' first
 | assumption
 | exact Ext.refl _
 | refine Ext.trans ?_ (by assumption)
 | refine K.wrap (by omega) ?_
 | refine K.ldb (by assumption) ?_ rfl ?_
 | refine K.ldb0 (by assumption) ?_ rfl ?_
 | refine K.ldE (by assumption) ?_ (by omega) rfl ?_
 | refine K.ldE0 (by assumption) ?_ (by omega) rfl ?_
 | refine K.ldAE (by assumption) ?_ (by omega) rfl ?_
 | refine K.iaC (by omega) ?_
 | refine K.condT (by first | assumption | omega) ?_
 | refine K.condF (by first | assumption | omega) ?_
 | refine K.condbT (by assumption) ?_
 | refine K.condbF (by assumption) ?_
 | simp -dsimp only [LL,B9,Nat.reduceAdd,Nat.reduceEqDiff,reduceIte,reduceCtorEq,Bool.false_eq_true])
    exact ⟨rfl, trivial⟩
theorem rwithin_r (n : Int) (w : World) : Ret Try.prog F.lariatref01_within #[.int .i64 n] w fun v w' => v = .bool (Abs.within n) ∧ w' = w := by
  refine E.lariatref01_within (args := [_]) (Nat.le_of_ble_eq_true rfl) ?_
  dsimp only [C.lariatref01_within]
  (repeat' first
 | (refine K.cond (fun _ => ?_) (fun _ => ?_) <;> try (exfalso; omega))
 | (refine K.condb (fun _ => ?_) (fun _ => ?_))
 | assumption
 | exact Ext.refl _
 | refine Ext.trans ?_ (by assumption)
 | refine K.wrap (by omega) ?_
 | refine K.ldb (by assumption) ?_ rfl ?_
 | refine K.ldb0 (by assumption) ?_ rfl ?_
 | refine K.ldE (by assumption) ?_ (by omega) rfl ?_
 | refine K.ldE0 (by assumption) ?_ (by omega) rfl ?_
 | refine K.ldAE (by assumption) ?_ (by omega) rfl ?_
 | refine K.iaC (by omega) ?_
 | refine K.condT (by first | assumption | omega) ?_
 | refine K.condF (by first | assumption | omega) ?_
 | refine K.condbT (by assumption) ?_
 | refine K.condbF (by assumption) ?_
 | simp -dsimp only [LL,B9,Nat.reduceAdd,Nat.reduceEqDiff,reduceIte,reduceCtorEq,Bool.false_eq_true])
  all_goals
    refine ⟨?_, by first | trivial | rfl⟩
    congr 1
    first | (rw [Bool.eq_iff_iff]; simp [Abs.within]; omega) | (simp [Abs.within]; omega)
theorem told_r (a b n : Int) (w : World) : Ret Try.prog F.lariatref01_told #[.int .i64 a, .int .i64 b, .int .i64 n] w
    fun v w' => v = .tuple #[.int .i64 (if Abs.within a && Abs.within b && Abs.within n then n else 0), .bool (Abs.within a && Abs.within b && Abs.within n)] ∧ w' = w := by
  refine E.lariatref01_told (args := [_, _, _]) (Nat.le_of_ble_eq_true rfl) ?_
  dsimp only [C.lariatref01_told]
  (repeat' first
 | assumption
 | exact Ext.refl _
 | refine Ext.trans ?_ (by assumption)
 | refine K.wrap (by omega) ?_
 | refine K.ldb (by assumption) ?_ rfl ?_
 | refine K.ldb0 (by assumption) ?_ rfl ?_
 | refine K.ldE (by assumption) ?_ (by omega) rfl ?_
 | refine K.ldE0 (by assumption) ?_ (by omega) rfl ?_
 | refine K.ldAE (by assumption) ?_ (by omega) rfl ?_
 | refine K.iaC (by omega) ?_
 | refine K.condT (by first | assumption | omega) ?_
 | refine K.condF (by first | assumption | omega) ?_
 | refine K.condbT (by assumption) ?_
 | refine K.condbF (by assumption) ?_
 | simp -dsimp only [LL,B9,Nat.reduceAdd,Nat.reduceEqDiff,reduceIte,reduceCtorEq,Bool.false_eq_true])
  refine K.call (rwithin_r a w) ?_
  rintro _ _ ⟨rfl, rfl⟩
  (repeat' first
 | assumption
 | exact Ext.refl _
 | refine Ext.trans ?_ (by assumption)
 | refine K.wrap (by omega) ?_
 | refine K.ldb (by assumption) ?_ rfl ?_
 | refine K.ldb0 (by assumption) ?_ rfl ?_
 | refine K.ldE (by assumption) ?_ (by omega) rfl ?_
 | refine K.ldE0 (by assumption) ?_ (by omega) rfl ?_
 | refine K.ldAE (by assumption) ?_ (by omega) rfl ?_
 | refine K.iaC (by omega) ?_
 | refine K.condT (by first | assumption | omega) ?_
 | refine K.condF (by first | assumption | omega) ?_
 | refine K.condbT (by assumption) ?_
 | refine K.condbF (by assumption) ?_
 | simp -dsimp only [LL,B9,Nat.reduceAdd,Nat.reduceEqDiff,reduceIte,reduceCtorEq,Bool.false_eq_true])
  cases h1 : Abs.within a with
  | false =>
    (repeat' first
 | assumption
 | exact Ext.refl _
 | refine Ext.trans ?_ (by assumption)
 | refine K.wrap (by omega) ?_
 | refine K.ldb (by assumption) ?_ rfl ?_
 | refine K.ldb0 (by assumption) ?_ rfl ?_
 | refine K.ldE (by assumption) ?_ (by omega) rfl ?_
 | refine K.ldE0 (by assumption) ?_ (by omega) rfl ?_
 | refine K.ldAE (by assumption) ?_ (by omega) rfl ?_
 | refine K.iaC (by omega) ?_
 | refine K.condT (by first | assumption | omega) ?_
 | refine K.condF (by first | assumption | omega) ?_
 | refine K.condbT (by assumption) ?_
 | refine K.condbF (by assumption) ?_
 | simp -dsimp only [LL,B9,Nat.reduceAdd,Nat.reduceEqDiff,reduceIte,reduceCtorEq,Bool.false_eq_true])
    exact ⟨by simp, trivial⟩
  | true =>
    (repeat' first
 | assumption
 | exact Ext.refl _
 | refine Ext.trans ?_ (by assumption)
 | refine K.wrap (by omega) ?_
 | refine K.ldb (by assumption) ?_ rfl ?_
 | refine K.ldb0 (by assumption) ?_ rfl ?_
 | refine K.ldE (by assumption) ?_ (by omega) rfl ?_
 | refine K.ldE0 (by assumption) ?_ (by omega) rfl ?_
 | refine K.ldAE (by assumption) ?_ (by omega) rfl ?_
 | refine K.iaC (by omega) ?_
 | refine K.condT (by first | assumption | omega) ?_
 | refine K.condF (by first | assumption | omega) ?_
 | refine K.condbT (by assumption) ?_
 | refine K.condbF (by assumption) ?_
 | simp -dsimp only [LL,B9,Nat.reduceAdd,Nat.reduceEqDiff,reduceIte,reduceCtorEq,Bool.false_eq_true])
    refine K.call (rwithin_r b _) ?_
    rintro _ _ ⟨rfl, rfl⟩
    (repeat' first
 | assumption
 | exact Ext.refl _
 | refine Ext.trans ?_ (by assumption)
 | refine K.wrap (by omega) ?_
 | refine K.ldb (by assumption) ?_ rfl ?_
 | refine K.ldb0 (by assumption) ?_ rfl ?_
 | refine K.ldE (by assumption) ?_ (by omega) rfl ?_
 | refine K.ldE0 (by assumption) ?_ (by omega) rfl ?_
 | refine K.ldAE (by assumption) ?_ (by omega) rfl ?_
 | refine K.iaC (by omega) ?_
 | refine K.condT (by first | assumption | omega) ?_
 | refine K.condF (by first | assumption | omega) ?_
 | refine K.condbT (by assumption) ?_
 | refine K.condbF (by assumption) ?_
 | simp -dsimp only [LL,B9,Nat.reduceAdd,Nat.reduceEqDiff,reduceIte,reduceCtorEq,Bool.false_eq_true])
    cases h2 : Abs.within b with
    | false =>
      (repeat' first
 | assumption
 | exact Ext.refl _
 | refine Ext.trans ?_ (by assumption)
 | refine K.wrap (by omega) ?_
 | refine K.ldb (by assumption) ?_ rfl ?_
 | refine K.ldb0 (by assumption) ?_ rfl ?_
 | refine K.ldE (by assumption) ?_ (by omega) rfl ?_
 | refine K.ldE0 (by assumption) ?_ (by omega) rfl ?_
 | refine K.ldAE (by assumption) ?_ (by omega) rfl ?_
 | refine K.iaC (by omega) ?_
 | refine K.condT (by first | assumption | omega) ?_
 | refine K.condF (by first | assumption | omega) ?_
 | refine K.condbT (by assumption) ?_
 | refine K.condbF (by assumption) ?_
 | simp -dsimp only [LL,B9,Nat.reduceAdd,Nat.reduceEqDiff,reduceIte,reduceCtorEq,Bool.false_eq_true])
      exact ⟨by simp, trivial⟩
    | true =>
      (repeat' first
 | assumption
 | exact Ext.refl _
 | refine Ext.trans ?_ (by assumption)
 | refine K.wrap (by omega) ?_
 | refine K.ldb (by assumption) ?_ rfl ?_
 | refine K.ldb0 (by assumption) ?_ rfl ?_
 | refine K.ldE (by assumption) ?_ (by omega) rfl ?_
 | refine K.ldE0 (by assumption) ?_ (by omega) rfl ?_
 | refine K.ldAE (by assumption) ?_ (by omega) rfl ?_
 | refine K.iaC (by omega) ?_
 | refine K.condT (by first | assumption | omega) ?_
 | refine K.condF (by first | assumption | omega) ?_
 | refine K.condbT (by assumption) ?_
 | refine K.condbF (by assumption) ?_
 | simp -dsimp only [LL,B9,Nat.reduceAdd,Nat.reduceEqDiff,reduceIte,reduceCtorEq,Bool.false_eq_true])
      refine K.call (rwithin_r n _) ?_
      rintro _ _ ⟨rfl, rfl⟩
      (repeat' first
 | assumption
 | exact Ext.refl _
 | refine Ext.trans ?_ (by assumption)
 | refine K.wrap (by omega) ?_
 | refine K.ldb (by assumption) ?_ rfl ?_
 | refine K.ldb0 (by assumption) ?_ rfl ?_
 | refine K.ldE (by assumption) ?_ (by omega) rfl ?_
 | refine K.ldE0 (by assumption) ?_ (by omega) rfl ?_
 | refine K.ldAE (by assumption) ?_ (by omega) rfl ?_
 | refine K.iaC (by omega) ?_
 | refine K.condT (by first | assumption | omega) ?_
 | refine K.condF (by first | assumption | omega) ?_
 | refine K.condbT (by assumption) ?_
 | refine K.condbF (by assumption) ?_
 | simp -dsimp only [LL,B9,Nat.reduceAdd,Nat.reduceEqDiff,reduceIte,reduceCtorEq,Bool.false_eq_true])
      cases h3 : Abs.within n with
      | false =>
        (repeat' first
 | assumption
 | exact Ext.refl _
 | refine Ext.trans ?_ (by assumption)
 | refine K.wrap (by omega) ?_
 | refine K.ldb (by assumption) ?_ rfl ?_
 | refine K.ldb0 (by assumption) ?_ rfl ?_
 | refine K.ldE (by assumption) ?_ (by omega) rfl ?_
 | refine K.ldE0 (by assumption) ?_ (by omega) rfl ?_
 | refine K.ldAE (by assumption) ?_ (by omega) rfl ?_
 | refine K.iaC (by omega) ?_
 | refine K.condT (by first | assumption | omega) ?_
 | refine K.condF (by first | assumption | omega) ?_
 | refine K.condbT (by assumption) ?_
 | refine K.condbF (by assumption) ?_
 | simp -dsimp only [LL,B9,Nat.reduceAdd,Nat.reduceEqDiff,reduceIte,reduceCtorEq,Bool.false_eq_true])
        exact ⟨by simp, trivial⟩
      | true =>
        (repeat' first
 | assumption
 | exact Ext.refl _
 | refine Ext.trans ?_ (by assumption)
 | refine K.wrap (by omega) ?_
 | refine K.ldb (by assumption) ?_ rfl ?_
 | refine K.ldb0 (by assumption) ?_ rfl ?_
 | refine K.ldE (by assumption) ?_ (by omega) rfl ?_
 | refine K.ldE0 (by assumption) ?_ (by omega) rfl ?_
 | refine K.ldAE (by assumption) ?_ (by omega) rfl ?_
 | refine K.iaC (by omega) ?_
 | refine K.condT (by first | assumption | omega) ?_
 | refine K.condF (by first | assumption | omega) ?_
 | refine K.condbT (by assumption) ?_
 | refine K.condbF (by assumption) ?_
 | simp -dsimp only [LL,B9,Nat.reduceAdd,Nat.reduceEqDiff,reduceIte,reduceCtorEq,Bool.false_eq_true])
        exact ⟨by simp, trivial⟩
theorem told_tell (f : Int → Int → Int) (a b n : Int) (h : Abs.within a = true → Abs.within b = true → n = f a b) :
    (if (Abs.within a && Abs.within b && Abs.within n) = true then n else 0) = (Abs.tell f a b).1 ∧ (Abs.within a && Abs.within b && Abs.within n) = (Abs.tell f a b).2 := by
  unfold Abs.tell
  cases h1 : Abs.within a with
  | false => simp
  | true =>
    cases h2 : Abs.within b with
    | false => simp
    | true =>
      rw [h h1 h2]
      cases h3 : Abs.within (f a b) <;> simp
theorem radd_r : Fn2b F.lariatref01_Add (Abs.tell (· + ·)) := by
  intro a b w
  refine E.lariatref01_Add (args := [_, _]) (Nat.le_of_ble_eq_true rfl) ?_
  dsimp only [C.lariatref01_Add]
  (repeat' first
 | assumption
 | exact Ext.refl _
 | refine Ext.trans ?_ (by assumption)
 | refine K.wrap (by omega) ?_
 | refine K.ldb (by assumption) ?_ rfl ?_
 | refine K.ldb0 (by assumption) ?_ rfl ?_
 | refine K.ldE (by assumption) ?_ (by omega) rfl ?_
 | refine K.ldE0 (by assumption) ?_ (by omega) rfl ?_
 | refine K.ldAE (by assumption) ?_ (by omega) rfl ?_
 | refine K.iaC (by omega) ?_
 | refine K.condT (by first | assumption | omega) ?_
 | refine K.condF (by first | assumption | omega) ?_
 | refine K.condbT (by assumption) ?_
 | refine K.condbF (by assumption) ?_
 | simp -dsimp only [LL,B9,Nat.reduceAdd,Nat.reduceEqDiff,reduceIte,reduceCtorEq,Bool.false_eq_true])
  refine K.wrapr ?_
  (repeat' first
 | assumption
 | exact Ext.refl _
 | refine Ext.trans ?_ (by assumption)
 | refine K.wrap (by omega) ?_
 | refine K.ldb (by assumption) ?_ rfl ?_
 | refine K.ldb0 (by assumption) ?_ rfl ?_
 | refine K.ldE (by assumption) ?_ (by omega) rfl ?_
 | refine K.ldE0 (by assumption) ?_ (by omega) rfl ?_
 | refine K.ldAE (by assumption) ?_ (by omega) rfl ?_
 | refine K.iaC (by omega) ?_
 | refine K.condT (by first | assumption | omega) ?_
 | refine K.condF (by first | assumption | omega) ?_
 | refine K.condbT (by assumption) ?_
 | refine K.condbF (by assumption) ?_
 | simp -dsimp only [LL,B9,Nat.reduceAdd,Nat.reduceEqDiff,reduceIte,reduceCtorEq,Bool.false_eq_true])
  refine K.call (told_r a b _ w) ?_
  rintro _ _ ⟨rfl, rfl⟩
  obtain ⟨h1, h2⟩ := told_tell (· + ·) a b (IntKind.i64.wrap (a + b)) (fun h1 h2 => by simp [Abs.within] at h1 h2; exact IntWalk.i64_in _ (by omega))
  rw [h1, h2]
  (repeat' first
 | assumption
 | exact Ext.refl _
 | refine Ext.trans ?_ (by assumption)
 | refine K.wrap (by omega) ?_
 | refine K.ldb (by assumption) ?_ rfl ?_
 | refine K.ldb0 (by assumption) ?_ rfl ?_
 | refine K.ldE (by assumption) ?_ (by omega) rfl ?_
 | refine K.ldE0 (by assumption) ?_ (by omega) rfl ?_
 | refine K.ldAE (by assumption) ?_ (by omega) rfl ?_
 | refine K.iaC (by omega) ?_
 | refine K.condT (by first | assumption | omega) ?_
 | refine K.condF (by first | assumption | omega) ?_
 | refine K.condbT (by assumption) ?_
 | refine K.condbF (by assumption) ?_
 | simp -dsimp only [LL,B9,Nat.reduceAdd,Nat.reduceEqDiff,reduceIte,reduceCtorEq,Bool.false_eq_true])
  (refine ⟨?_, ?_⟩ <;> first | trivial | rfl | (repeat' first | assumption | exact Ext.refl _ | refine Ext.trans ?_ (by assumption)))
theorem rsub_r : Fn2b F.lariatref01_Sub (Abs.tell (· - ·)) := by
  intro a b w
  refine E.lariatref01_Sub (args := [_, _]) (Nat.le_of_ble_eq_true rfl) ?_
  dsimp only [C.lariatref01_Sub]
  (repeat' first
 | assumption
 | exact Ext.refl _
 | refine Ext.trans ?_ (by assumption)
 | refine K.wrap (by omega) ?_
 | refine K.ldb (by assumption) ?_ rfl ?_
 | refine K.ldb0 (by assumption) ?_ rfl ?_
 | refine K.ldE (by assumption) ?_ (by omega) rfl ?_
 | refine K.ldE0 (by assumption) ?_ (by omega) rfl ?_
 | refine K.ldAE (by assumption) ?_ (by omega) rfl ?_
 | refine K.iaC (by omega) ?_
 | refine K.condT (by first | assumption | omega) ?_
 | refine K.condF (by first | assumption | omega) ?_
 | refine K.condbT (by assumption) ?_
 | refine K.condbF (by assumption) ?_
 | simp -dsimp only [LL,B9,Nat.reduceAdd,Nat.reduceEqDiff,reduceIte,reduceCtorEq,Bool.false_eq_true])
  refine K.wrapr ?_
  (repeat' first
 | assumption
 | exact Ext.refl _
 | refine Ext.trans ?_ (by assumption)
 | refine K.wrap (by omega) ?_
 | refine K.ldb (by assumption) ?_ rfl ?_
 | refine K.ldb0 (by assumption) ?_ rfl ?_
 | refine K.ldE (by assumption) ?_ (by omega) rfl ?_
 | refine K.ldE0 (by assumption) ?_ (by omega) rfl ?_
 | refine K.ldAE (by assumption) ?_ (by omega) rfl ?_
 | refine K.iaC (by omega) ?_
 | refine K.condT (by first | assumption | omega) ?_
 | refine K.condF (by first | assumption | omega) ?_
 | refine K.condbT (by assumption) ?_
 | refine K.condbF (by assumption) ?_
 | simp -dsimp only [LL,B9,Nat.reduceAdd,Nat.reduceEqDiff,reduceIte,reduceCtorEq,Bool.false_eq_true])
  refine K.call (told_r a b _ w) ?_
  rintro _ _ ⟨rfl, rfl⟩
  obtain ⟨h1, h2⟩ := told_tell (· - ·) a b (IntKind.i64.wrap (a - b)) (fun h1 h2 => by simp [Abs.within] at h1 h2; exact IntWalk.i64_in _ (by omega))
  rw [h1, h2]
  (repeat' first
 | assumption
 | exact Ext.refl _
 | refine Ext.trans ?_ (by assumption)
 | refine K.wrap (by omega) ?_
 | refine K.ldb (by assumption) ?_ rfl ?_
 | refine K.ldb0 (by assumption) ?_ rfl ?_
 | refine K.ldE (by assumption) ?_ (by omega) rfl ?_
 | refine K.ldE0 (by assumption) ?_ (by omega) rfl ?_
 | refine K.ldAE (by assumption) ?_ (by omega) rfl ?_
 | refine K.iaC (by omega) ?_
 | refine K.condT (by first | assumption | omega) ?_
 | refine K.condF (by first | assumption | omega) ?_
 | refine K.condbT (by assumption) ?_
 | refine K.condbF (by assumption) ?_
 | simp -dsimp only [LL,B9,Nat.reduceAdd,Nat.reduceEqDiff,reduceIte,reduceCtorEq,Bool.false_eq_true])
  (refine ⟨?_, ?_⟩ <;> first | trivial | rfl | (repeat' first | assumption | exact Ext.refl _ | refine Ext.trans ?_ (by assumption)))
theorem rmul_r : Fn2b F.lariatref01_Mul (Abs.tell (· * ·)) := by
  intro a b w
  refine E.lariatref01_Mul (args := [_, _]) (Nat.le_of_ble_eq_true rfl) ?_
  dsimp only [C.lariatref01_Mul]
  (repeat' first
 | assumption
 | exact Ext.refl _
 | refine Ext.trans ?_ (by assumption)
 | refine K.wrap (by omega) ?_
 | refine K.ldb (by assumption) ?_ rfl ?_
 | refine K.ldb0 (by assumption) ?_ rfl ?_
 | refine K.ldE (by assumption) ?_ (by omega) rfl ?_
 | refine K.ldE0 (by assumption) ?_ (by omega) rfl ?_
 | refine K.ldAE (by assumption) ?_ (by omega) rfl ?_
 | refine K.iaC (by omega) ?_
 | refine K.condT (by first | assumption | omega) ?_
 | refine K.condF (by first | assumption | omega) ?_
 | refine K.condbT (by assumption) ?_
 | refine K.condbF (by assumption) ?_
 | simp -dsimp only [LL,B9,Nat.reduceAdd,Nat.reduceEqDiff,reduceIte,reduceCtorEq,Bool.false_eq_true])
  refine K.wrapr ?_
  (repeat' first
 | assumption
 | exact Ext.refl _
 | refine Ext.trans ?_ (by assumption)
 | refine K.wrap (by omega) ?_
 | refine K.ldb (by assumption) ?_ rfl ?_
 | refine K.ldb0 (by assumption) ?_ rfl ?_
 | refine K.ldE (by assumption) ?_ (by omega) rfl ?_
 | refine K.ldE0 (by assumption) ?_ (by omega) rfl ?_
 | refine K.ldAE (by assumption) ?_ (by omega) rfl ?_
 | refine K.iaC (by omega) ?_
 | refine K.condT (by first | assumption | omega) ?_
 | refine K.condF (by first | assumption | omega) ?_
 | refine K.condbT (by assumption) ?_
 | refine K.condbF (by assumption) ?_
 | simp -dsimp only [LL,B9,Nat.reduceAdd,Nat.reduceEqDiff,reduceIte,reduceCtorEq,Bool.false_eq_true])
  refine K.call (told_r a b _ w) ?_
  rintro _ _ ⟨rfl, rfl⟩
  obtain ⟨h1, h2⟩ := told_tell (· * ·) a b (IntKind.i64.wrap (a * b)) (fun h1 h2 => by simp [Abs.within] at h1 h2; have := mul_in h1 h2; exact IntWalk.i64_in _ (by omega))
  rw [h1, h2]
  (repeat' first
 | assumption
 | exact Ext.refl _
 | refine Ext.trans ?_ (by assumption)
 | refine K.wrap (by omega) ?_
 | refine K.ldb (by assumption) ?_ rfl ?_
 | refine K.ldb0 (by assumption) ?_ rfl ?_
 | refine K.ldE (by assumption) ?_ (by omega) rfl ?_
 | refine K.ldE0 (by assumption) ?_ (by omega) rfl ?_
 | refine K.ldAE (by assumption) ?_ (by omega) rfl ?_
 | refine K.iaC (by omega) ?_
 | refine K.condT (by first | assumption | omega) ?_
 | refine K.condF (by first | assumption | omega) ?_
 | refine K.condbT (by assumption) ?_
 | refine K.condbF (by assumption) ?_
 | simp -dsimp only [LL,B9,Nat.reduceAdd,Nat.reduceEqDiff,reduceIte,reduceCtorEq,Bool.false_eq_true])
  (refine ⟨?_, ?_⟩ <;> first | trivial | rfl | (repeat' first | assumption | exact Ext.refl _ | refine Ext.trans ?_ (by assumption)))
def twoV (op a b : Int) : Int × Int := match Abs.opOf op with | some o => Abs.vtwo o [a, b] | none => (0, 0)
theorem rboth_r (op a b : Int) (w : World) (hop : 11 ≤ op ∧ op ≤ 19) :
    Ret Try.prog F.lariatref10_both #[.int .i64 op, .int .i64 a, .int .i64 b] w fun v w' => v = .tuple #[.int .i64 (twoV op a b).1, .int .i64 (twoV op a b).2] ∧ Ext w w' := by
  have num : ∀ f : Int → Int → Int × Bool, (if (f a b).2 = true then ((f a b).1, (0 : Int)) else (0, 10)) = (let r := f a b; if r.2 = true then (r.1, 0) else (0, 10)) := fun _ => rfl
  have hc : op = 11 ∨ op = 12 ∨ op = 13 ∨ op = 14 ∨ op = 15 ∨ op = 16 ∨ op = 17 ∨ op = 18 ∨ op = 19 := by omega
  refine E.lariatref10_both (args := [_, _, _]) (Nat.le_of_ble_eq_true rfl) ?_
  dsimp only [C.lariatref10_both]
  rcases hc with e | e | e | e | e | e | e | e | e
  · have key : twoV op a b = if (Abs.tell (· + ·) a b).2 = true then ((Abs.tell (· + ·) a b).1, 0) else (0, 10) := by subst e; rfl
    rw [key]
    (repeat' first
 | assumption
 | exact Ext.refl _
 | refine Ext.trans ?_ (by assumption)
 | refine K.wrap (by omega) ?_
 | refine K.ldb (by assumption) ?_ rfl ?_
 | refine K.ldb0 (by assumption) ?_ rfl ?_
 | refine K.ldE (by assumption) ?_ (by omega) rfl ?_
 | refine K.ldE0 (by assumption) ?_ (by omega) rfl ?_
 | refine K.ldAE (by assumption) ?_ (by omega) rfl ?_
 | refine K.iaC (by omega) ?_
 | refine K.condT (by first | assumption | omega) ?_
 | refine K.condF (by first | assumption | omega) ?_
 | refine K.condbT (by assumption) ?_
 | refine K.condbF (by assumption) ?_
 | simp -dsimp only [LL,B9,Nat.reduceAdd,Nat.reduceEqDiff,reduceIte,reduceCtorEq,Bool.false_eq_true])
    refine K.call (radd_r a b w) ?_
    rintro _ w1 ⟨rfl, he1⟩
    (repeat' first
 | assumption
 | exact Ext.refl _
 | refine Ext.trans ?_ (by assumption)
 | refine K.wrap (by omega) ?_
 | refine K.ldb (by assumption) ?_ rfl ?_
 | refine K.ldb0 (by assumption) ?_ rfl ?_
 | refine K.ldE (by assumption) ?_ (by omega) rfl ?_
 | refine K.ldE0 (by assumption) ?_ (by omega) rfl ?_
 | refine K.ldAE (by assumption) ?_ (by omega) rfl ?_
 | refine K.iaC (by omega) ?_
 | refine K.condT (by first | assumption | omega) ?_
 | refine K.condF (by first | assumption | omega) ?_
 | refine K.condbT (by assumption) ?_
 | refine K.condbF (by assumption) ?_
 | simp -dsimp only [LL,B9,Nat.reduceAdd,Nat.reduceEqDiff,reduceIte,reduceCtorEq,Bool.false_eq_true])
    refine K.condb (fun h => ?_) (fun h => ?_)
    all_goals
      (repeat' first
 | assumption
 | exact Ext.refl _
 | refine Ext.trans ?_ (by assumption)
 | refine K.wrap (by omega) ?_
 | refine K.ldb (by assumption) ?_ rfl ?_
 | refine K.ldb0 (by assumption) ?_ rfl ?_
 | refine K.ldE (by assumption) ?_ (by omega) rfl ?_
 | refine K.ldE0 (by assumption) ?_ (by omega) rfl ?_
 | refine K.ldAE (by assumption) ?_ (by omega) rfl ?_
 | refine K.iaC (by omega) ?_
 | refine K.condT (by first | assumption | omega) ?_
 | refine K.condF (by first | assumption | omega) ?_
 | refine K.condbT (by assumption) ?_
 | refine K.condbF (by assumption) ?_
 | simp -dsimp only [LL,B9,Nat.reduceAdd,Nat.reduceEqDiff,reduceIte,reduceCtorEq,Bool.false_eq_true])
      rw [h]
      (refine ⟨?_, ?_⟩ <;> first | trivial | rfl | (repeat' first | assumption | exact Ext.refl _ | refine Ext.trans ?_ (by assumption)))
  · have key : twoV op a b = if (Abs.tell (· - ·) a b).2 = true then ((Abs.tell (· - ·) a b).1, 0) else (0, 10) := by subst e; rfl
    rw [key]
    (repeat' first
 | assumption
 | exact Ext.refl _
 | refine Ext.trans ?_ (by assumption)
 | refine K.wrap (by omega) ?_
 | refine K.ldb (by assumption) ?_ rfl ?_
 | refine K.ldb0 (by assumption) ?_ rfl ?_
 | refine K.ldE (by assumption) ?_ (by omega) rfl ?_
 | refine K.ldE0 (by assumption) ?_ (by omega) rfl ?_
 | refine K.ldAE (by assumption) ?_ (by omega) rfl ?_
 | refine K.iaC (by omega) ?_
 | refine K.condT (by first | assumption | omega) ?_
 | refine K.condF (by first | assumption | omega) ?_
 | refine K.condbT (by assumption) ?_
 | refine K.condbF (by assumption) ?_
 | simp -dsimp only [LL,B9,Nat.reduceAdd,Nat.reduceEqDiff,reduceIte,reduceCtorEq,Bool.false_eq_true])
    refine K.call (rsub_r a b w) ?_
    rintro _ w1 ⟨rfl, he1⟩
    (repeat' first
 | assumption
 | exact Ext.refl _
 | refine Ext.trans ?_ (by assumption)
 | refine K.wrap (by omega) ?_
 | refine K.ldb (by assumption) ?_ rfl ?_
 | refine K.ldb0 (by assumption) ?_ rfl ?_
 | refine K.ldE (by assumption) ?_ (by omega) rfl ?_
 | refine K.ldE0 (by assumption) ?_ (by omega) rfl ?_
 | refine K.ldAE (by assumption) ?_ (by omega) rfl ?_
 | refine K.iaC (by omega) ?_
 | refine K.condT (by first | assumption | omega) ?_
 | refine K.condF (by first | assumption | omega) ?_
 | refine K.condbT (by assumption) ?_
 | refine K.condbF (by assumption) ?_
 | simp -dsimp only [LL,B9,Nat.reduceAdd,Nat.reduceEqDiff,reduceIte,reduceCtorEq,Bool.false_eq_true])
    refine K.condb (fun h => ?_) (fun h => ?_)
    all_goals
      (repeat' first
 | assumption
 | exact Ext.refl _
 | refine Ext.trans ?_ (by assumption)
 | refine K.wrap (by omega) ?_
 | refine K.ldb (by assumption) ?_ rfl ?_
 | refine K.ldb0 (by assumption) ?_ rfl ?_
 | refine K.ldE (by assumption) ?_ (by omega) rfl ?_
 | refine K.ldE0 (by assumption) ?_ (by omega) rfl ?_
 | refine K.ldAE (by assumption) ?_ (by omega) rfl ?_
 | refine K.iaC (by omega) ?_
 | refine K.condT (by first | assumption | omega) ?_
 | refine K.condF (by first | assumption | omega) ?_
 | refine K.condbT (by assumption) ?_
 | refine K.condbF (by assumption) ?_
 | simp -dsimp only [LL,B9,Nat.reduceAdd,Nat.reduceEqDiff,reduceIte,reduceCtorEq,Bool.false_eq_true])
      rw [h]
      (refine ⟨?_, ?_⟩ <;> first | trivial | rfl | (repeat' first | assumption | exact Ext.refl _ | refine Ext.trans ?_ (by assumption)))
  · have key : twoV op a b = if (Abs.tell (· * ·) a b).2 = true then ((Abs.tell (· * ·) a b).1, 0) else (0, 10) := by subst e; rfl
    rw [key]
    (repeat' first
 | assumption
 | exact Ext.refl _
 | refine Ext.trans ?_ (by assumption)
 | refine K.wrap (by omega) ?_
 | refine K.ldb (by assumption) ?_ rfl ?_
 | refine K.ldb0 (by assumption) ?_ rfl ?_
 | refine K.ldE (by assumption) ?_ (by omega) rfl ?_
 | refine K.ldE0 (by assumption) ?_ (by omega) rfl ?_
 | refine K.ldAE (by assumption) ?_ (by omega) rfl ?_
 | refine K.iaC (by omega) ?_
 | refine K.condT (by first | assumption | omega) ?_
 | refine K.condF (by first | assumption | omega) ?_
 | refine K.condbT (by assumption) ?_
 | refine K.condbF (by assumption) ?_
 | simp -dsimp only [LL,B9,Nat.reduceAdd,Nat.reduceEqDiff,reduceIte,reduceCtorEq,Bool.false_eq_true])
    refine K.call (rmul_r a b w) ?_
    rintro _ w1 ⟨rfl, he1⟩
    (repeat' first
 | assumption
 | exact Ext.refl _
 | refine Ext.trans ?_ (by assumption)
 | refine K.wrap (by omega) ?_
 | refine K.ldb (by assumption) ?_ rfl ?_
 | refine K.ldb0 (by assumption) ?_ rfl ?_
 | refine K.ldE (by assumption) ?_ (by omega) rfl ?_
 | refine K.ldE0 (by assumption) ?_ (by omega) rfl ?_
 | refine K.ldAE (by assumption) ?_ (by omega) rfl ?_
 | refine K.iaC (by omega) ?_
 | refine K.condT (by first | assumption | omega) ?_
 | refine K.condF (by first | assumption | omega) ?_
 | refine K.condbT (by assumption) ?_
 | refine K.condbF (by assumption) ?_
 | simp -dsimp only [LL,B9,Nat.reduceAdd,Nat.reduceEqDiff,reduceIte,reduceCtorEq,Bool.false_eq_true])
    refine K.condb (fun h => ?_) (fun h => ?_)
    all_goals
      (repeat' first
 | assumption
 | exact Ext.refl _
 | refine Ext.trans ?_ (by assumption)
 | refine K.wrap (by omega) ?_
 | refine K.ldb (by assumption) ?_ rfl ?_
 | refine K.ldb0 (by assumption) ?_ rfl ?_
 | refine K.ldE (by assumption) ?_ (by omega) rfl ?_
 | refine K.ldE0 (by assumption) ?_ (by omega) rfl ?_
 | refine K.ldAE (by assumption) ?_ (by omega) rfl ?_
 | refine K.iaC (by omega) ?_
 | refine K.condT (by first | assumption | omega) ?_
 | refine K.condF (by first | assumption | omega) ?_
 | refine K.condbT (by assumption) ?_
 | refine K.condbF (by assumption) ?_
 | simp -dsimp only [LL,B9,Nat.reduceAdd,Nat.reduceEqDiff,reduceIte,reduceCtorEq,Bool.false_eq_true])
      rw [h]
      (refine ⟨?_, ?_⟩ <;> first | trivial | rfl | (repeat' first | assumption | exact Ext.refl _ | refine Ext.trans ?_ (by assumption)))
  · have key : twoV op a b = (Abs.bit (decide (a = b)), 0) := by subst e; rfl
    rw [key]
    (repeat' first
 | assumption
 | exact Ext.refl _
 | refine Ext.trans ?_ (by assumption)
 | refine K.wrap (by omega) ?_
 | refine K.ldb (by assumption) ?_ rfl ?_
 | refine K.ldb0 (by assumption) ?_ rfl ?_
 | refine K.ldE (by assumption) ?_ (by omega) rfl ?_
 | refine K.ldE0 (by assumption) ?_ (by omega) rfl ?_
 | refine K.ldAE (by assumption) ?_ (by omega) rfl ?_
 | refine K.iaC (by omega) ?_
 | refine K.condT (by first | assumption | omega) ?_
 | refine K.condF (by first | assumption | omega) ?_
 | refine K.condbT (by assumption) ?_
 | refine K.condbF (by assumption) ?_
 | simp -dsimp only [LL,B9,Nat.reduceAdd,Nat.reduceEqDiff,reduceIte,reduceCtorEq,Bool.false_eq_true])
    refine K.call (truth_r _ w) ?_
    rintro _ _ ⟨rfl, rfl⟩
    (repeat' first
 | assumption
 | exact Ext.refl _
 | refine Ext.trans ?_ (by assumption)
 | refine K.wrap (by omega) ?_
 | refine K.ldb (by assumption) ?_ rfl ?_
 | refine K.ldb0 (by assumption) ?_ rfl ?_
 | refine K.ldE (by assumption) ?_ (by omega) rfl ?_
 | refine K.ldE0 (by assumption) ?_ (by omega) rfl ?_
 | refine K.ldAE (by assumption) ?_ (by omega) rfl ?_
 | refine K.iaC (by omega) ?_
 | refine K.condT (by first | assumption | omega) ?_
 | refine K.condF (by first | assumption | omega) ?_
 | refine K.condbT (by assumption) ?_
 | refine K.condbF (by assumption) ?_
 | simp -dsimp only [LL,B9,Nat.reduceAdd,Nat.reduceEqDiff,reduceIte,reduceCtorEq,Bool.false_eq_true])
    (refine ⟨?_, ?_⟩ <;> first | trivial | rfl | (repeat' first | assumption | exact Ext.refl _ | refine Ext.trans ?_ (by assumption)))
  · have key : twoV op a b = (Abs.bit (!decide (a = b)), 0) := by subst e; rfl
    rw [key]
    (repeat' first
 | assumption
 | exact Ext.refl _
 | refine Ext.trans ?_ (by assumption)
 | refine K.wrap (by omega) ?_
 | refine K.ldb (by assumption) ?_ rfl ?_
 | refine K.ldb0 (by assumption) ?_ rfl ?_
 | refine K.ldE (by assumption) ?_ (by omega) rfl ?_
 | refine K.ldE0 (by assumption) ?_ (by omega) rfl ?_
 | refine K.ldAE (by assumption) ?_ (by omega) rfl ?_
 | refine K.iaC (by omega) ?_
 | refine K.condT (by first | assumption | omega) ?_
 | refine K.condF (by first | assumption | omega) ?_
 | refine K.condbT (by assumption) ?_
 | refine K.condbF (by assumption) ?_
 | simp -dsimp only [LL,B9,Nat.reduceAdd,Nat.reduceEqDiff,reduceIte,reduceCtorEq,Bool.false_eq_true])
    refine K.call (truth_r _ w) ?_
    rintro _ _ ⟨rfl, rfl⟩
    (repeat' first
 | assumption
 | exact Ext.refl _
 | refine Ext.trans ?_ (by assumption)
 | refine K.wrap (by omega) ?_
 | refine K.ldb (by assumption) ?_ rfl ?_
 | refine K.ldb0 (by assumption) ?_ rfl ?_
 | refine K.ldE (by assumption) ?_ (by omega) rfl ?_
 | refine K.ldE0 (by assumption) ?_ (by omega) rfl ?_
 | refine K.ldAE (by assumption) ?_ (by omega) rfl ?_
 | refine K.iaC (by omega) ?_
 | refine K.condT (by first | assumption | omega) ?_
 | refine K.condF (by first | assumption | omega) ?_
 | refine K.condbT (by assumption) ?_
 | refine K.condbF (by assumption) ?_
 | simp -dsimp only [LL,B9,Nat.reduceAdd,Nat.reduceEqDiff,reduceIte,reduceCtorEq,Bool.false_eq_true])
    (refine ⟨?_, ?_⟩ <;> first | trivial | rfl | (repeat' first | assumption | exact Ext.refl _ | refine Ext.trans ?_ (by assumption)))
  · have key : twoV op a b = (Abs.bit (decide (a < b)), 0) := by subst e; rfl
    rw [key]
    (repeat' first
 | assumption
 | exact Ext.refl _
 | refine Ext.trans ?_ (by assumption)
 | refine K.wrap (by omega) ?_
 | refine K.ldb (by assumption) ?_ rfl ?_
 | refine K.ldb0 (by assumption) ?_ rfl ?_
 | refine K.ldE (by assumption) ?_ (by omega) rfl ?_
 | refine K.ldE0 (by assumption) ?_ (by omega) rfl ?_
 | refine K.ldAE (by assumption) ?_ (by omega) rfl ?_
 | refine K.iaC (by omega) ?_
 | refine K.condT (by first | assumption | omega) ?_
 | refine K.condF (by first | assumption | omega) ?_
 | refine K.condbT (by assumption) ?_
 | refine K.condbF (by assumption) ?_
 | simp -dsimp only [LL,B9,Nat.reduceAdd,Nat.reduceEqDiff,reduceIte,reduceCtorEq,Bool.false_eq_true])
    refine K.call (truth_r _ w) ?_
    rintro _ _ ⟨rfl, rfl⟩
    (repeat' first
 | assumption
 | exact Ext.refl _
 | refine Ext.trans ?_ (by assumption)
 | refine K.wrap (by omega) ?_
 | refine K.ldb (by assumption) ?_ rfl ?_
 | refine K.ldb0 (by assumption) ?_ rfl ?_
 | refine K.ldE (by assumption) ?_ (by omega) rfl ?_
 | refine K.ldE0 (by assumption) ?_ (by omega) rfl ?_
 | refine K.ldAE (by assumption) ?_ (by omega) rfl ?_
 | refine K.iaC (by omega) ?_
 | refine K.condT (by first | assumption | omega) ?_
 | refine K.condF (by first | assumption | omega) ?_
 | refine K.condbT (by assumption) ?_
 | refine K.condbF (by assumption) ?_
 | simp -dsimp only [LL,B9,Nat.reduceAdd,Nat.reduceEqDiff,reduceIte,reduceCtorEq,Bool.false_eq_true])
    (refine ⟨?_, ?_⟩ <;> first | trivial | rfl | (repeat' first | assumption | exact Ext.refl _ | refine Ext.trans ?_ (by assumption)))
  · have key : twoV op a b = (Abs.bit (decide (a ≤ b)), 0) := by subst e; rfl
    rw [key]
    (repeat' first
 | assumption
 | exact Ext.refl _
 | refine Ext.trans ?_ (by assumption)
 | refine K.wrap (by omega) ?_
 | refine K.ldb (by assumption) ?_ rfl ?_
 | refine K.ldb0 (by assumption) ?_ rfl ?_
 | refine K.ldE (by assumption) ?_ (by omega) rfl ?_
 | refine K.ldE0 (by assumption) ?_ (by omega) rfl ?_
 | refine K.ldAE (by assumption) ?_ (by omega) rfl ?_
 | refine K.iaC (by omega) ?_
 | refine K.condT (by first | assumption | omega) ?_
 | refine K.condF (by first | assumption | omega) ?_
 | refine K.condbT (by assumption) ?_
 | refine K.condbF (by assumption) ?_
 | simp -dsimp only [LL,B9,Nat.reduceAdd,Nat.reduceEqDiff,reduceIte,reduceCtorEq,Bool.false_eq_true])
    refine K.call (truth_r _ w) ?_
    rintro _ _ ⟨rfl, rfl⟩
    (repeat' first
 | assumption
 | exact Ext.refl _
 | refine Ext.trans ?_ (by assumption)
 | refine K.wrap (by omega) ?_
 | refine K.ldb (by assumption) ?_ rfl ?_
 | refine K.ldb0 (by assumption) ?_ rfl ?_
 | refine K.ldE (by assumption) ?_ (by omega) rfl ?_
 | refine K.ldE0 (by assumption) ?_ (by omega) rfl ?_
 | refine K.ldAE (by assumption) ?_ (by omega) rfl ?_
 | refine K.iaC (by omega) ?_
 | refine K.condT (by first | assumption | omega) ?_
 | refine K.condF (by first | assumption | omega) ?_
 | refine K.condbT (by assumption) ?_
 | refine K.condbF (by assumption) ?_
 | simp -dsimp only [LL,B9,Nat.reduceAdd,Nat.reduceEqDiff,reduceIte,reduceCtorEq,Bool.false_eq_true])
    (refine ⟨?_, ?_⟩ <;> first | trivial | rfl | (repeat' first | assumption | exact Ext.refl _ | refine Ext.trans ?_ (by assumption)))
  · have key : twoV op a b = (Abs.bit (!decide (a = 0) && !decide (b = 0)), 0) := by subst e; rfl
    rw [key]
    (repeat' first
 | assumption
 | exact Ext.refl _
 | refine Ext.trans ?_ (by assumption)
 | refine K.wrap (by omega) ?_
 | refine K.ldb (by assumption) ?_ rfl ?_
 | refine K.ldb0 (by assumption) ?_ rfl ?_
 | refine K.ldE (by assumption) ?_ (by omega) rfl ?_
 | refine K.ldE0 (by assumption) ?_ (by omega) rfl ?_
 | refine K.ldAE (by assumption) ?_ (by omega) rfl ?_
 | refine K.iaC (by omega) ?_
 | refine K.condT (by first | assumption | omega) ?_
 | refine K.condF (by first | assumption | omega) ?_
 | refine K.condbT (by assumption) ?_
 | refine K.condbF (by assumption) ?_
 | simp -dsimp only [LL,B9,Nat.reduceAdd,Nat.reduceEqDiff,reduceIte,reduceCtorEq,Bool.false_eq_true])
    refine K.cond (fun h1 => ?_) (fun h1 => ?_)
    all_goals
      (repeat' first
 | assumption
 | exact Ext.refl _
 | refine Ext.trans ?_ (by assumption)
 | refine K.wrap (by omega) ?_
 | refine K.ldb (by assumption) ?_ rfl ?_
 | refine K.ldb0 (by assumption) ?_ rfl ?_
 | refine K.ldE (by assumption) ?_ (by omega) rfl ?_
 | refine K.ldE0 (by assumption) ?_ (by omega) rfl ?_
 | refine K.ldAE (by assumption) ?_ (by omega) rfl ?_
 | refine K.iaC (by omega) ?_
 | refine K.condT (by first | assumption | omega) ?_
 | refine K.condF (by first | assumption | omega) ?_
 | refine K.condbT (by assumption) ?_
 | refine K.condbF (by assumption) ?_
 | simp -dsimp only [LL,B9,Nat.reduceAdd,Nat.reduceEqDiff,reduceIte,reduceCtorEq,Bool.false_eq_true])
      refine K.call (truth_r _ w) ?_
      rintro _ _ ⟨rfl, rfl⟩
      (repeat' first
 | assumption
 | exact Ext.refl _
 | refine Ext.trans ?_ (by assumption)
 | refine K.wrap (by omega) ?_
 | refine K.ldb (by assumption) ?_ rfl ?_
 | refine K.ldb0 (by assumption) ?_ rfl ?_
 | refine K.ldE (by assumption) ?_ (by omega) rfl ?_
 | refine K.ldE0 (by assumption) ?_ (by omega) rfl ?_
 | refine K.ldAE (by assumption) ?_ (by omega) rfl ?_
 | refine K.iaC (by omega) ?_
 | refine K.condT (by first | assumption | omega) ?_
 | refine K.condF (by first | assumption | omega) ?_
 | refine K.condbT (by assumption) ?_
 | refine K.condbF (by assumption) ?_
 | simp -dsimp only [LL,B9,Nat.reduceAdd,Nat.reduceEqDiff,reduceIte,reduceCtorEq,Bool.false_eq_true])
      refine ⟨?_, by (repeat' first | assumption | exact Ext.refl _ | refine Ext.trans ?_ (by assumption))⟩
      simp [h1]
  · have key : twoV op a b = (Abs.bit (!decide (a = 0) || !decide (b = 0)), 0) := by subst e; rfl
    rw [key]
    (repeat' first
 | assumption
 | exact Ext.refl _
 | refine Ext.trans ?_ (by assumption)
 | refine K.wrap (by omega) ?_
 | refine K.ldb (by assumption) ?_ rfl ?_
 | refine K.ldb0 (by assumption) ?_ rfl ?_
 | refine K.ldE (by assumption) ?_ (by omega) rfl ?_
 | refine K.ldE0 (by assumption) ?_ (by omega) rfl ?_
 | refine K.ldAE (by assumption) ?_ (by omega) rfl ?_
 | refine K.iaC (by omega) ?_
 | refine K.condT (by first | assumption | omega) ?_
 | refine K.condF (by first | assumption | omega) ?_
 | refine K.condbT (by assumption) ?_
 | refine K.condbF (by assumption) ?_
 | simp -dsimp only [LL,B9,Nat.reduceAdd,Nat.reduceEqDiff,reduceIte,reduceCtorEq,Bool.false_eq_true])
    refine K.cond (fun h1 => ?_) (fun h1 => ?_)
    all_goals
      (repeat' first
 | assumption
 | exact Ext.refl _
 | refine Ext.trans ?_ (by assumption)
 | refine K.wrap (by omega) ?_
 | refine K.ldb (by assumption) ?_ rfl ?_
 | refine K.ldb0 (by assumption) ?_ rfl ?_
 | refine K.ldE (by assumption) ?_ (by omega) rfl ?_
 | refine K.ldE0 (by assumption) ?_ (by omega) rfl ?_
 | refine K.ldAE (by assumption) ?_ (by omega) rfl ?_
 | refine K.iaC (by omega) ?_
 | refine K.condT (by first | assumption | omega) ?_
 | refine K.condF (by first | assumption | omega) ?_
 | refine K.condbT (by assumption) ?_
 | refine K.condbF (by assumption) ?_
 | simp -dsimp only [LL,B9,Nat.reduceAdd,Nat.reduceEqDiff,reduceIte,reduceCtorEq,Bool.false_eq_true])
      refine K.call (truth_r _ w) ?_
      rintro _ _ ⟨rfl, rfl⟩
      (repeat' first
 | assumption
 | exact Ext.refl _
 | refine Ext.trans ?_ (by assumption)
 | refine K.wrap (by omega) ?_
 | refine K.ldb (by assumption) ?_ rfl ?_
 | refine K.ldb0 (by assumption) ?_ rfl ?_
 | refine K.ldE (by assumption) ?_ (by omega) rfl ?_
 | refine K.ldE0 (by assumption) ?_ (by omega) rfl ?_
 | refine K.ldAE (by assumption) ?_ (by omega) rfl ?_
 | refine K.iaC (by omega) ?_
 | refine K.condT (by first | assumption | omega) ?_
 | refine K.condF (by first | assumption | omega) ?_
 | refine K.condbT (by assumption) ?_
 | refine K.condbF (by assumption) ?_
 | simp -dsimp only [LL,B9,Nat.reduceAdd,Nat.reduceEqDiff,reduceIte,reduceCtorEq,Bool.false_eq_true])
      refine ⟨?_, by (repeat' first | assumption | exact Ext.refl _ | refine Ext.trans ?_ (by assumption))⟩
      simp [h1]
end Go.Proofs.Yteaboocppcbkiaa
