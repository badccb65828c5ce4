/- How many parts operations take; the ends of rows. -/
import Derived.Test.YteaboocppcbkiaaExprF
import Derived.Test.YteaboocppcbkiaaLite11
set_option linter.all false
set_option maxRecDepth 4000
set_option linter.unusedSimpArgs false
set_option maxHeartbeats 1600000
namespace Go.Proofs.Yteaboocppcbkiaa
open Go Go.RowKit Lite

theorem takes_r (op : Int) (w : World) : Ret Try.prog F.lariatref10_Takes #[.int .i64 op] w fun v w' => v = .int .i64 (Abs.nparts op) ∧ w' = w := by
  have key : ∀ n : Int, (if op = 3 then (1 : Int) else if 1 ≤ op ∧ op ≤ 8 then 0 else if op = 9 ∨ op = 10 then 1 else if 11 ≤ op ∧ op ≤ 19 then 2 else -1) = n → Abs.nparts op = n := fun _ h => h
  refine K.start hmix E.lariatref10_Takes (args := [_]) (Nat.le_of_ble_eq_true rfl) ?_
  dsimp only [C.lariatref10_Takes,yt,yi,yb,yp,yr,ye,yc,yv,yg,ym,yw,ya,yl,yx,ys,yn]
  (repeat' first
 | (refine K.cond (fun _ => ?_) (fun _ => ?_) <;> try (exfalso; omega))
 | (refine K.condb (fun _ => ?_) (fun _ => ?_))
 | assumption
 | exact Ext.refl _
 | refine Ext.trans ?_ (by assumption)
 | refine K.wrap (by omega) ?_
 | refine K.ldb (by assumption) ?_ rfl ?_
 | refine K.ldb0 (by assumption) ?_ rfl ?_
 | refine K.ldE (by assumption) ?_ (by omega) rfl ?_
 | refine K.ldE0 (by assumption) ?_ (by omega) rfl ?_
 | refine K.ldAE (by assumption) ?_ (by omega) rfl ?_
 | refine K.iaC (by omega) ?_
 | refine K.condT (by first | assumption | omega) ?_
 | refine K.condF (by first | assumption | omega) ?_
 | refine K.condbT (by assumption) ?_
 | refine K.condbF (by assumption) ?_
 | simp -dsimp only [LL,B9,Nat.reduceAdd,Nat.reduceEqDiff,reduceIte,reduceCtorEq,Bool.false_eq_true])
  all_goals
    refine ⟨?_, by first | trivial | rfl⟩
    congr 1
    refine (key _ ?_).symm
    (repeat' split) <;> first | rfl | (exfalso; omega)
theorem np0 {x : Int} (h : Abs.nparts x = 0) : 1 ≤ x ∧ x ≤ 8 ∧ x ≠ 3 ∧ Abs.opOf x = none := by
  have h1 : 1 ≤ x ∧ x ≤ 8 ∧ x ≠ 3 := by unfold Abs.nparts at h; (repeat' split at h) <;> omega
  exact ⟨h1.1, h1.2.1, h1.2.2, Abs.opOf_none (by simp [Abs.isOp]; omega)⟩
theorem np1 {x : Int} (h : Abs.nparts x = 1) : x = 3 ∨ x = 9 ∨ x = 10 := by unfold Abs.nparts at h; (repeat' split at h) <;> omega
theorem np2 {x : Int} (h : Abs.nparts x = 2) : 11 ≤ x ∧ x ≤ 19 := by unfold Abs.nparts at h; (repeat' split at h) <;> omega
theorem opOf_some {x : Int} (h : 9 ≤ x ∧ x ≤ 19) : ∃ o, Abs.opOf x = some o ∧ o.parts = Abs.nparts x := by
  cases ho : Abs.opOf x with
  | some o => exact ⟨o, rfl, (Abs.opOf_parts ho).1⟩
  | none =>
    exfalso
    unfold Abs.opOf at ho
    (repeat' split at ho)
    all_goals first | (cases ho; done) | omega
theorem drop1 {st : List Int} (h : 1 ≤ st.length) : st.drop (st.length - 1) = [st[st.length - 1]] := by
  rw [List.drop_eq_getElem_cons (by omega), List.drop_eq_nil_of_le (by omega)]
theorem drop2 {st : List Int} (h : 2 ≤ st.length) : st.drop (st.length - 2) = [st[st.length - 2], st[st.length - 1]] := by
  rw [List.drop_eq_getElem_cons (by omega)]
  have e : st.length - 2 + 1 = st.length - 1 := by omega
  congr 1
  rw [e]
  exact drop1 (by omega)
theorem encI1 : ∀ y, ∀ u ∈ encI y, u.oneCell' = true := fun y u h => by simp [encI] at h; subst h; rfl
end Go.Proofs.Yteaboocppcbkiaa
