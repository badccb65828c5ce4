/- The laws on kinds, walked. -/
import Derived.Test.YteaboocppcbkiaaExprM
import Derived.Test.YteaboocppcbkiaaExprJ
import Derived.Test.YteaboocppcbkiaaOpen2
set_option linter.all false
set_option maxRecDepth 4000
set_option linter.unusedSimpArgs false
set_option maxHeartbeats 1600000
namespace Go.Proofs.Yteaboocppcbkiaa
open Go Go.RowKit Lite Go.ChangeShapes
theorem lawKinds_r (ve : Value) (e : List Abs.Node) (cs : List Value) (s : Abs.Scope) (w : World) (he : Abs.Nodes w ve e) (h : Abs.ScopeIs w cs s) :
    Ret Try.prog F.lariatlaw10_ExprKinds #[ve, .agg cs.toArray] w fun v w' => v = .bool true ∧ Ext w w' := by
  obtain ⟨v0, v1, v2, v3, v4, rfl, _⟩ := h.ex
  refine K.start hmix E.lariatlaw10_ExprKinds (args := [_, _]) (Nat.le_of_ble_eq_true rfl) ?_
  dsimp only [C.lariatlaw10_ExprKinds,yt,yi,yb,yp,yr,ye,yc,yv,yg,ym,yw,ya,yl,yx,ys,yn]
  (repeat' first
 | assumption
 | exact Ext.refl _
 | refine Ext.trans ?_ (by assumption)
 | refine K.wrap (by omega) ?_
 | refine K.ldb (by assumption) ?_ rfl ?_
 | refine K.ldb0 (by assumption) ?_ rfl ?_
 | refine K.ldE (by assumption) ?_ (by omega) rfl ?_
 | refine K.ldE0 (by assumption) ?_ (by omega) rfl ?_
 | refine K.ldAE (by assumption) ?_ (by omega) rfl ?_
 | refine K.iaC (by omega) ?_
 | refine K.condT (by first | assumption | omega) ?_
 | refine K.condF (by first | assumption | omega) ?_
 | refine K.condbT (by assumption) ?_
 | refine K.condbF (by assumption) ?_
 | simp -dsimp only [LL,B9,Nat.reduceAdd,Nat.reduceEqDiff,reduceIte,reduceCtorEq,Bool.false_eq_true])
  refine K.new fun w1 ps hps he1 hc1 => ?_
  (repeat' first
 | assumption
 | exact Ext.refl _
 | refine Ext.trans ?_ (by assumption)
 | refine K.wrap (by omega) ?_
 | refine K.ldb (by assumption) ?_ rfl ?_
 | refine K.ldb0 (by assumption) ?_ rfl ?_
 | refine K.ldE (by assumption) ?_ (by omega) rfl ?_
 | refine K.ldE0 (by assumption) ?_ (by omega) rfl ?_
 | refine K.ldAE (by assumption) ?_ (by omega) rfl ?_
 | refine K.iaC (by omega) ?_
 | refine K.condT (by first | assumption | omega) ?_
 | refine K.condF (by first | assumption | omega) ?_
 | refine K.condbT (by assumption) ?_
 | refine K.condbF (by assumption) ?_
 | simp -dsimp only [LL,B9,Nat.reduceAdd,Nat.reduceEqDiff,reduceIte,reduceCtorEq,Bool.false_eq_true])
  refine K.ldAb (c := [_, _, _, _, _, _]) hc1 (Ext.refl _) rfl ?_
  (repeat' first
 | assumption
 | exact Ext.refl _
 | refine Ext.trans ?_ (by assumption)
 | refine K.wrap (by omega) ?_
 | refine K.ldb (by assumption) ?_ rfl ?_
 | refine K.ldb0 (by assumption) ?_ rfl ?_
 | refine K.ldE (by assumption) ?_ (by omega) rfl ?_
 | refine K.ldE0 (by assumption) ?_ (by omega) rfl ?_
 | refine K.ldAE (by assumption) ?_ (by omega) rfl ?_
 | refine K.iaC (by omega) ?_
 | refine K.condT (by first | assumption | omega) ?_
 | refine K.condF (by first | assumption | omega) ?_
 | refine K.condbT (by assumption) ?_
 | refine K.condbF (by assumption) ?_
 | simp -dsimp only [LL,B9,Nat.reduceAdd,Nat.reduceEqDiff,reduceIte,reduceCtorEq,Bool.false_eq_true])
  refine K.call (kind_r _ e _ s w1 (he.ext he1) (h.ext he1)) ?_
  rintro _ w2 ⟨rfl, he2⟩
  (repeat' first
 | assumption
 | exact Ext.refl _
 | refine Ext.trans ?_ (by assumption)
 | refine K.wrap (by omega) ?_
 | refine K.ldb (by assumption) ?_ rfl ?_
 | refine K.ldb0 (by assumption) ?_ rfl ?_
 | refine K.ldE (by assumption) ?_ (by omega) rfl ?_
 | refine K.ldE0 (by assumption) ?_ (by omega) rfl ?_
 | refine K.ldAE (by assumption) ?_ (by omega) rfl ?_
 | refine K.iaC (by omega) ?_
 | refine K.condT (by first | assumption | omega) ?_
 | refine K.condF (by first | assumption | omega) ?_
 | refine K.condbT (by assumption) ?_
 | refine K.condbF (by assumption) ?_
 | simp -dsimp only [LL,B9,Nat.reduceAdd,Nat.reduceEqDiff,reduceIte,reduceCtorEq,Bool.false_eq_true])
  refine K.ldAb (c := [_, _, _, _, _, _]) hc1 he2 rfl ?_
  (repeat' first
 | assumption
 | exact Ext.refl _
 | refine Ext.trans ?_ (by assumption)
 | refine K.wrap (by omega) ?_
 | refine K.ldb (by assumption) ?_ rfl ?_
 | refine K.ldb0 (by assumption) ?_ rfl ?_
 | refine K.ldE (by assumption) ?_ (by omega) rfl ?_
 | refine K.ldE0 (by assumption) ?_ (by omega) rfl ?_
 | refine K.ldAE (by assumption) ?_ (by omega) rfl ?_
 | refine K.iaC (by omega) ?_
 | refine K.condT (by first | assumption | omega) ?_
 | refine K.condF (by first | assumption | omega) ?_
 | refine K.condbT (by assumption) ?_
 | refine K.condbF (by assumption) ?_
 | simp -dsimp only [LL,B9,Nat.reduceAdd,Nat.reduceEqDiff,reduceIte,reduceCtorEq,Bool.false_eq_true])
  have he12 := he1.trans he2
  refine K.call (refKind_r _ e _ s w2 (he.ext he12) (h.ext he12)) ?_
  rintro _ w3 ⟨rfl, he3⟩
  (repeat' first
 | assumption
 | exact Ext.refl _
 | refine Ext.trans ?_ (by assumption)
 | refine K.wrap (by omega) ?_
 | refine K.ldb (by assumption) ?_ rfl ?_
 | refine K.ldb0 (by assumption) ?_ rfl ?_
 | refine K.ldE (by assumption) ?_ (by omega) rfl ?_
 | refine K.ldE0 (by assumption) ?_ (by omega) rfl ?_
 | refine K.ldAE (by assumption) ?_ (by omega) rfl ?_
 | refine K.iaC (by omega) ?_
 | refine K.condT (by first | assumption | omega) ?_
 | refine K.condF (by first | assumption | omega) ?_
 | refine K.condbT (by assumption) ?_
 | refine K.condbF (by assumption) ?_
 | simp -dsimp only [LL,B9,Nat.reduceAdd,Nat.reduceEqDiff,reduceIte,reduceCtorEq,Bool.false_eq_true])
  refine K.call (elives_r w3) ?_
  rintro _ w4 ⟨rfl, he4⟩
  (repeat' first
 | assumption
 | exact Ext.refl _
 | refine Ext.trans ?_ (by assumption)
 | refine K.wrap (by omega) ?_
 | refine K.ldb (by assumption) ?_ rfl ?_
 | refine K.ldb0 (by assumption) ?_ rfl ?_
 | refine K.ldE (by assumption) ?_ (by omega) rfl ?_
 | refine K.ldE0 (by assumption) ?_ (by omega) rfl ?_
 | refine K.ldAE (by assumption) ?_ (by omega) rfl ?_
 | refine K.iaC (by omega) ?_
 | refine K.condT (by first | assumption | omega) ?_
 | refine K.condF (by first | assumption | omega) ?_
 | refine K.condbT (by assumption) ?_
 | refine K.condbF (by assumption) ?_
 | simp -dsimp only [LL,B9,Nat.reduceAdd,Nat.reduceEqDiff,reduceIte,reduceCtorEq,Bool.false_eq_true])
  (refine ⟨?_, ?_⟩ <;> first | trivial | rfl | (repeat' first | assumption | exact Ext.refl _ | refine Ext.trans ?_ (by assumption)))
theorem walk_ExprKinds {H : Type} {enc : TypeId × Value → H} {r : Reach} {b0 : Nat} {d0 d1 : DataW H} {p0 p1 : List MemPlace} (v0 v1 : Value) (W : World)
    (k0 : Value.okWide Try.prog W r b0 T.sl_api_Node v0) (h0 : DataW.Trod enc Try.prog W 0 (fun _ => true) true T.sl_api_Node v0 d0 p0) (_s0 : Small Try.prog T.sl_api_Node d0)
    (k1 : Value.okWide Try.prog W r b0 T.api_Scope v1) (h1 : DataW.Trod enc Try.prog W 0 (fun _ => true) true T.api_Scope v1 d1 p1) (s1 : Small Try.prog T.api_Scope d1) :
    Ret Try.prog F.lariatlaw10_ExprKinds #[v0, v1] W fun v w' => v = .bool true ∧ Ext W w' := by
  obtain ⟨e, he⟩ := open_nodes k0 h0
  obtain ⟨cs, s, rfl, hs⟩ := open_scope k1 h1 s1
  exact lawKinds_r v0 e cs s W he hs
end Go.Proofs.Yteaboocppcbkiaa
