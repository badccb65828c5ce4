/- Commands: what an act, and a whole command, must be. -/
import Derived.Test.YteaboocppcbkiaaDoorCmdA
set_option linter.all false
set_option maxRecDepth 4000
set_option maxHeartbeats 1600000
namespace Abs
open Go Go.RowKit Lite
theorem actsE_cons {s : Scope} {l : List Act} {k : Nat} {t : Bool} (h : k < l.length) :
    actsE s (l.drop k) k t = if talks l[k] && t then (2 + (k : Int), 7) else if actE l[k] s ≠ 0 then (2 + (k : Int), actE l[k] s) else actsE s (l.drop (k + 1)) (k + 1) (t || talks l[k]) := by
  rw [List.drop_eq_getElem_cons h]; rfl
end Abs
namespace Go.Proofs.YteaboocppcbkiaaDoor
open Go Go.RowKit Lite

theorem act1_r (k : Int) (a : Abs.Act) (vi vv : Value) (cs : List Value) (s : Abs.Scope) (w : World) (b1 b2 : Nat) (hb1 : w.heap[b1]? = some (.cells (a.enc vi vv).toArray T.api_Act)) (hb2 : w.heap[b2]? = some (.cells cs.toArray T.api_Scope))
    (hv : Abs.Nodes w vv a.value) (h : Abs.ScopeIs w cs s) :
    Ret Tryd.prog F.cmd_act_1 #[.int .i64 k, .pointer (some ⟨b1, 0, none⟩), .pointer (some ⟨b2, 0, none⟩)] w fun v w' => v = .int .i64 (Abs.asked a.value k s) ∧ Ext w w' := by
  obtain ⟨v0, v1, v2, v3, v4, rfl, _⟩ := h.ex
  refine K.start hmix E.cmd_act_1 (args := [_, _, _]) (Nat.le_of_ble_eq_true rfl) ?_; dsimp only [C.cmd_act_1,yt,yi,yb,yp,yr,ye,yc,yv,yg,ym,yw,ya,yl,yx,ys,yn]
  refine Sg ?_
  refine K.call (asked_r vv a.value k _ s w hv h) ?_
  rintro _ w2 ⟨rfl, he2⟩
  refine Sg ?_
  (refine ⟨?_, ?_⟩ <;> first | trivial | rfl | (repeat' first | assumption | exact Ext.refl _ | refine Ext.trans ?_ (by assumption)))
theorem act_r (a : Abs.Act) (vi vv : Value) (cs : List Value) (s : Abs.Scope) (w : World) (hi : Abs.Nodes w vi a.index) (hv : Abs.Nodes w vv a.value) (h : Abs.ScopeIs w cs s) :
    Ret Tryd.prog F.cmd_act #[.agg (a.enc vi vv).toArray, .agg cs.toArray] w fun v w' => v = .int .i64 (Abs.actE a s) ∧ Ext w w' := by
  obtain ⟨v0, v1, v2, v3, v4, rfl, h0, h1, h2, h3, h4, l0⟩ := h.ex
  refine K.start hmix E.cmd_act (args := [_, _]) (Nat.le_of_ble_eq_true rfl) ?_; dsimp only [C.cmd_act,yt,yi,yb,yp,yr,ye,yc,yv,yg,ym,yw,ya,yl,yx,ys,yn]
  refine Sg ?_
  intro w1 b1 hb1 he1 hc1
  refine Sg ?_
  intro w2 b2 hb2 he2 hc2
  have he := he1.trans he2
  have hc1 := he2.obj hc1
  by_cases q : a.kind = 1 ∨ a.kind = 2 ∨ a.kind = 3
  · rw [Abs.actE, if_pos q]
    generalize hL : (if a.kind = 3 then s.locals else s.vars) = L
    have hcall : ∀ vl n, vl = (if a.kind = 3 then v4 else v1) → Ret Tryd.prog F.cmd_declared #[vl, .int .i64 n, .agg #[v0, v1, v2, v3, v4, .int .i64 s.self]] w2 fun v w' => Abs.DeclV v (Abs.declared L n s) ∧ Ext w2 w' := by
      rintro vl n rfl
      refine declared_r _ L n _ s w2 ?_ (h.ext he)
      rw [← hL]
      split
      · exact h4.ext he
      · exact h1.ext he
    by_cases q5 : a.kind = 2
    · refine Sg ?_
      refine K.call (hcall _ _ (by simp [q5])) ?_
      rintro u w3 ⟨hq, he3⟩
      have hc1 := he3.obj hc1
      have hc2 := he3.obj hc2
      have he03 := he.trans he3
      cases hd : Abs.declared L a.to s with
      | none =>
        rw [hd] at hq
        obtain ⟨x, k', rfl⟩ := hq
        refine Sg ?_
        intro w4 b4 hb4 he4 hc4
        refine Sg ?_
        (refine ⟨?_, ?_⟩ <;> first | trivial | rfl | (repeat' first | assumption | exact Ext.refl _ | refine Ext.trans ?_ (by assumption)))
      | some u =>
        obtain ⟨x, k'⟩ := u
        rw [hd] at hq
        subst hq
        have hov := Abs.declared_over hd
        simp only at hov
        refine Sg ?_
        intro w4 b4 hb4 he4 hc4
        have hc1 := he4.obj hc1
        have hc2 := he4.obj hc2
        have he04 := he03.trans he4
        refine Sg ?_
        refine K.neb (by kernel_rfl) ?_
        refine Sg ?_
        by_cases q2 : x.over = 0
        · refine K.condbT (by simp [q5, q2]) ?_
          refine Sg ?_
          exact ⟨by simp [q5, q2], by (repeat' first | assumption | exact Ext.refl _ | refine Ext.trans ?_ (by assumption))⟩
        refine K.condbF (by simp [q5, q2]) ?_
        refine Sg ?_
        refine K.call (asked_r vi a.index _ _ s w4 (hi.ext he04) (h.ext he04)) ?_
        rintro _ w5 ⟨rfl, he5⟩
        have hc1 := he5.obj hc1
        have hc2 := he5.obj hc2
        have he05 := he04.trans he5
        refine Sg ?_
        refine K.cond (fun q3 => ?_) (fun q3 => ?_)
        · refine Sg ?_
          refine K.callV (first := []) (cap := [_, _]) (by kernel_rfl) (act1_r k' a vi vv _ s w5 b1 b2 hc1 hc2 (hv.ext he05) (h.ext he05)) ?_
          rintro _ w6 ⟨rfl, he6⟩
          refine Sg ?_
          exact ⟨by simp [q5, q2, q3], by (repeat' first | assumption | exact Ext.refl _ | refine Ext.trans ?_ (by assumption))⟩
        · refine Sg ?_
          exact ⟨by simp [q5, q2, q3], by (repeat' first | assumption | exact Ext.refl _ | refine Ext.trans ?_ (by assumption))⟩
    have q6 : a.kind = 1 ∨ a.kind = 3 := by omega
    clear q
    rcases q6 with q | q
    all_goals
      refine Sg ?_
      refine K.call (hcall _ _ (by simp [q])) ?_
      rintro u w3 ⟨hq, he3⟩
      have hc1 := he3.obj hc1
      have hc2 := he3.obj hc2
      have he03 := he.trans he3
      cases hd : Abs.declared L a.to s with
      | none =>
        rw [hd] at hq
        obtain ⟨x, k', rfl⟩ := hq
        refine Sg ?_
        intro w4 b4 hb4 he4 hc4
        refine Sg ?_
        (refine ⟨?_, ?_⟩ <;> first | trivial | rfl | (repeat' first | assumption | exact Ext.refl _ | refine Ext.trans ?_ (by assumption)))
      | some u =>
        obtain ⟨x, k'⟩ := u
        rw [hd] at hq
        subst hq
        refine Sg ?_
        intro w4 b4 hb4 he4 hc4
        have hc1 := he4.obj hc1
        have hc2 := he4.obj hc2
        have he04 := he03.trans he4
        refine Sg ?_
        refine K.neb (by kernel_rfl) ?_
        refine Sg ?_
        by_cases q2 : x.over = 0
        · refine K.condbF (by simp [q, q2]) ?_
          refine Sg ?_
          refine K.callV (first := []) (cap := [_, _]) (by kernel_rfl) (act1_r k' a vi vv _ s w4 b1 b2 hc1 hc2 (hv.ext he04) (h.ext he04)) ?_
          rintro _ w6 ⟨rfl, he6⟩
          refine Sg ?_
          exact ⟨by simp [q, q2], by (repeat' first | assumption | exact Ext.refl _ | refine Ext.trans ?_ (by assumption))⟩
        · refine K.condbT (by simp [q, q2]) ?_
          refine Sg ?_
          exact ⟨by simp [q, q2], by (repeat' first | assumption | exact Ext.refl _ | refine Ext.trans ?_ (by assumption))⟩
  by_cases q4 : a.kind = 4 ∨ a.kind = 5
  · rw [Abs.actE, if_neg q, if_pos q4]
    have q7 : a.kind ≠ 3 := by omega
    have q8 : a.kind ≠ 1 := by omega
    have q9 : a.kind ≠ 2 := by omega
    have step : ∀ (w' : World), Ext w2 w' → Ret Tryd.prog F.cmd_channel #[.int .i64 a.to, .agg #[v0, v1, v2, v3, v4, .int .i64 s.self]] w' fun v w'' => v = .tuple #[.int .i64 ((Abs.channel a.to s).getD 0), .bool (Abs.channel a.to s).isSome] ∧ Ext w' w'' :=
      fun w' e => channel_r a.to _ s w' (h.ext (he.trans e))
    rcases q4 with q4 | q4
    · refine Sg ?_
      refine K.call (step w2 (Ext.refl _)) ?_
      rintro _ w3 ⟨rfl, he3⟩
      have hc1 := he3.obj hc1
      have hc2 := he3.obj hc2
      have he03 := he.trans he3
      cases hd : Abs.channel a.to s with
      | none =>
        simp only [Option.isSome_none, Option.getD_none]
        refine Sg ?_
        (refine ⟨?_, ?_⟩ <;> first | trivial | rfl | (repeat' first | assumption | exact Ext.refl _ | refine Ext.trans ?_ (by assumption)))
      | some k =>
        simp only [Option.isSome_some, Option.getD_some]
        refine Sg ?_
        refine K.callV (first := []) (cap := [_, _]) (by kernel_rfl) (act1_r k a vi vv _ s w3 b1 b2 hc1 hc2 (hv.ext he03) (h.ext he03)) ?_
        rintro _ w6 ⟨rfl, he6⟩
        refine Sg ?_
        exact ⟨by simp [q4], by (repeat' first | assumption | exact Ext.refl _ | refine Ext.trans ?_ (by assumption))⟩
    · refine Sg ?_
      refine K.call (step w2 (Ext.refl _)) ?_
      rintro _ w3 ⟨rfl, he3⟩
      have hc1 := he3.obj hc1
      have hc2 := he3.obj hc2
      have he03 := he.trans he3
      cases hd : Abs.channel a.to s with
      | none =>
        simp only [Option.isSome_none, Option.getD_none]
        refine Sg ?_
        (refine ⟨?_, ?_⟩ <;> first | trivial | rfl | (repeat' first | assumption | exact Ext.refl _ | refine Ext.trans ?_ (by assumption)))
      | some k =>
        simp only [Option.isSome_some, Option.getD_some]
        refine Sg ?_
        refine K.call (receives_r a vi vv k _ s w3 (h.ext he03)) ?_
        rintro _ w6 ⟨rfl, he6⟩
        refine Sg ?_
        exact ⟨by simp [q4], by (repeat' first | assumption | exact Ext.refl _ | refine Ext.trans ?_ (by assumption))⟩
  rw [Abs.actE, if_neg q, if_neg q4]
  have q7 : a.kind ≠ 3 := by omega
  have q8 : a.kind ≠ 1 := by omega
  have q9 : a.kind ≠ 2 := by omega
  have q10 : a.kind ≠ 4 := by omega
  have q11 : a.kind ≠ 5 := by omega
  refine Sg ?_
  (refine ⟨?_, ?_⟩ <;> first | trivial | rfl | (repeat' first | assumption | exact Ext.refl _ | refine Ext.trans ?_ (by assumption)))
end Go.Proofs.YteaboocppcbkiaaDoor
