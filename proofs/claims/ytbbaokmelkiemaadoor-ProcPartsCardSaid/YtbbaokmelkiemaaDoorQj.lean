/- Texts joined: CmdA CmdB CmdQ CmdC DeclC DeclD ProcI ProcJ ProcK Open1. -/
import Derived.Test.YtbbaokmelkiemaaDoorQc
import Derived.Test.YtbbaokmelkiemaaDoorQd
import Derived.Test.YtbbaokmelkiemaaDoorQe
import Derived.Test.YtbbaokmelkiemaaDoorQf
import Derived.Test.YtbbaokmelkiemaaDoorQg
import Derived.Test.YtbbaokmelkiemaaDoorQh
import Derived.Test.YtbbaokmelkiemaaDoorQi
import Derived.SizedLaws
set_option linter.all false
section
/- Commands: what each function of cmd computes. -/
set_option maxRecDepth 4000
set_option maxHeartbeats 1600000
namespace Abs
open Go Go.RowKit Lite
/-- What declared tells. -/
def DeclV (v : Value) : Option (Var × Int) → Prop
  | some q => v = .tuple #[.agg q.1.enc.toArray, .int .i64 q.2, .bool true]
  | none => ∃ (x : Var) (k : Int), v = .tuple #[.agg x.enc.toArray, .int .i64 k, .bool false]
end Abs
namespace Go.Proofs.YtbbaokmelkiemaaDoor
open Go Go.RowKit Lite

theorem cthing_r (a b : Int) (cs : List Value) (s : Abs.Scope) (w : World) (h : Abs.ScopeIs w cs s) :
    Ret Tryd.prog F.cmd_thing #[.int .i64 a, .int .i64 b, .agg cs.toArray] w fun v w' => v = .tuple #[.int .i64 (Abs.thing a b s).1, .bool (Abs.thing a b s).2] ∧ Ext w w' := by
  obtain ⟨a0, c0, a1, c1, a2, c2, a3, c3, a4, c4, rfl, h0, h1, h2, h3, h4, l0, l1, l2, l3, l4⟩ := h.form
  refine K.start hmix E.cmd_thing (args := [_, _, _]) (Nat.le_of_ble_eq_true rfl) ?_; dsimp only [C.cmd_thing,yt,yi,yb,yp,yr,ye,yc,yv,yg,ym,yw,ya,yl,yx,ys,yn]
  refine Sg ?_
  intro w1 b hb he1 hc1
  refine Sg ?_
  (repeat' first
 | (refine K.cond (fun _ => ?_) (fun _ => ?_) <;> try (exfalso; omega))
 | (refine K.condb (fun _ => ?_) (fun _ => ?_))
 | assumption
 | exact Ext.refl _
 | refine Ext.trans ?_ (by assumption)
 | refine K.wrap (by omega) ?_
 | refine K.ldb (by assumption) ?_ rfl ?_
 | refine K.ldb0 (by assumption) ?_ rfl ?_
 | refine K.ldE (by assumption) ?_ (by omega) rfl ?_
 | refine K.ldE0 (by assumption) ?_ (by omega) rfl ?_
 | refine K.ldAE (by assumption) ?_ (by omega) rfl ?_
 | refine K.iaC (by omega) ?_
 | refine K.condT (by first | assumption | omega) ?_
 | refine K.condF (by first | assumption | omega) ?_
 | refine K.condbT (by assumption) ?_
 | refine K.condbF (by assumption) ?_
 | simp -dsimp only [LL,B9,Nat.reduceAdd,Nat.reduceEqDiff,reduceIte,reduceCtorEq,Bool.false_eq_true])
  all_goals
    refine ⟨?_, by (repeat' first | assumption | exact Ext.refl _ | refine Ext.trans ?_ (by assumption))⟩
    unfold Abs.thing
    (repeat' split) <;> first | rfl | (exfalso; omega)
theorem declared_r (v : Value) (l : List Abs.Var) (n : Int) (cs : List Value) (s : Abs.Scope) (w : World) (hl : Abs.Vars w v l) (h : Abs.ScopeIs w cs s) :
    Ret Tryd.prog F.cmd_declared #[v, .int .i64 n, .agg cs.toArray] w fun v w' => Abs.DeclV v (Abs.declared l n s) ∧ Ext w w' := by
  obtain ⟨v0, v1, v2, v3, v4, rfl, _⟩ := h.ex
  obtain ⟨oa, cap, rfl, hlen⟩ := hl.form
  refine K.start hmix E.cmd_declared (args := [_, _, _]) (Nat.le_of_ble_eq_true rfl) ?_; dsimp only [C.cmd_declared,yt,yi,yb,yp,yr,ye,yc,yv,yg,ym,yw,ya,yl,yx,ys,yn]
  refine Sg ?_
  intro w1 b1 hb1 he1 hc1
  refine Sg ?_
  intro w2 b2 hb2 he2 hc2
  have he := he1.trans he2
  refine Sg ?_
  refine K.cond (fun g1 => ?_) (fun g1 => ?_)
  · refine Sg ?_
    intro w3 hw3 hc3
    refine Sg ?_
    rw [Abs.declared, Abs.nth_none (.inl g1)]
    exact ⟨⟨(⟨⟨#[]⟩, 0, 0, 0, 0, 0⟩ : Abs.Var), 0, rfl⟩, hw3.ext he (by have := he1.size; omega)⟩
  refine Sg ?_
  refine K.cond (fun g2 => ?_) (fun g2 => ?_)
  · refine Sg ?_
    intro w3 hw3 hc3
    refine Sg ?_
    rw [Abs.declared, Abs.nth_none (.inr (by omega))]
    exact ⟨⟨(⟨⟨#[]⟩, 0, 0, 0, 0, 0⟩ : Abs.Var), 0, rfl⟩, hw3.ext he (by have := he1.size; omega)⟩
  obtain ⟨i, rfl⟩ := Int.eq_ofNat_of_zero_le (show 0 ≤ n by omega)
  have hi : i < l.length := by omega
  rw [Abs.declared, Abs.nth_some (by omega) (by omega)]
  simp only [Int.toNat_natCast]
  obtain ⟨a, rfl⟩ := hl.addr (by omega)
  refine Sg ?_
  refine K.qfn _ (fun w' e => cthing_r _ _ _ s w' (h.ext (he.trans e))) ?_
  refine Sg ?_
  intro w3 he3
  have hc2 := he3.obj hc2
  refine Sg ?_
  intro w4 hw4 hc4
  refine Sg ?_
  refine ⟨?_, hw4.ext (he.trans he3) (by have := he1.size; omega)⟩
  by_cases hb : (Abs.thing l[i].scalar l[i].over s).2 = true
  · rw [if_pos hb, hb]; rfl
  · rw [if_neg hb, Bool.eq_false_iff.2 hb]; exact ⟨_, _, rfl⟩
theorem channel_r (n : Int) (cs : List Value) (s : Abs.Scope) (w : World) (h : Abs.ScopeIs w cs s) :
    Ret Tryd.prog F.cmd_channel #[.int .i64 n, .agg cs.toArray] w fun v w' => v = .tuple #[.int .i64 ((Abs.channel n s).getD 0), .bool (Abs.channel n s).isSome] ∧ Ext w w' := by
  obtain ⟨a0, c0, a1, c1, a2, c2, a3, c3, a4, c4, rfl, h0, h1, h2, h3, h4, l0, l1, l2, l3, l4⟩ := h.form
  refine K.start hmix E.cmd_channel (args := [_, _]) (Nat.le_of_ble_eq_true rfl) ?_; dsimp only [C.cmd_channel,yt,yi,yb,yp,yr,ye,yc,yv,yg,ym,yw,ya,yl,yx,ys,yn]
  refine Sg ?_
  intro w1 b1 hb1 he1 hc1
  refine Sg ?_
  refine K.cond (fun g1 => ?_) (fun g1 => ?_)
  · refine Sg ?_
    rw [Abs.channel, Abs.nth_none (.inl g1)]
    (refine ⟨?_, ?_⟩ <;> first | trivial | rfl | (repeat' first | assumption | exact Ext.refl _ | refine Ext.trans ?_ (by assumption)))
  refine Sg ?_
  refine K.cond (fun g2 => ?_) (fun g2 => ?_)
  · refine Sg ?_
    rw [Abs.channel, Abs.nth_none (.inr (by omega))]
    (refine ⟨?_, ?_⟩ <;> first | trivial | rfl | (repeat' first | assumption | exact Ext.refl _ | refine Ext.trans ?_ (by assumption)))
  obtain ⟨i, rfl⟩ := Int.eq_ofNat_of_zero_le (show 0 ≤ n by omega)
  have hi : i < s.chans.length := by omega
  rw [Abs.channel, Abs.nth_some (by omega) (by omega)]
  simp only [Int.toNat_natCast]
  obtain ⟨a, rfl⟩ := h2.addr (by omega)
  refine Sg ?_
  refine K.qfn _ (fun w' e => cthing_r _ _ _ s w' (h.ext (he1.trans e))) ?_
  refine Sg ?_
  intro w2 he2
  refine Sg ?_
  refine ⟨?_, by (repeat' first | assumption | exact Ext.refl _ | refine Ext.trans ?_ (by assumption))⟩
  by_cases hb : (Abs.thing s.chans[i].scalar 0 s).2 = true
  · rw [if_pos hb, hb]; rfl
  · rw [if_neg hb, Bool.eq_false_iff.2 hb]
    rw [Abs.thing_false (Bool.eq_false_iff.2 hb)]; rfl
theorem asked_r (ve : Value) (e : List Abs.Node) (k : Int) (cs : List Value) (s : Abs.Scope) (w : World) (hn : Abs.Nodes w ve e) (h : Abs.ScopeIs w cs s) :
    Ret Tryd.prog F.cmd_asked #[ve, .int .i64 k, .agg cs.toArray] w fun v w' => v = .int .i64 (Abs.asked e k s) ∧ Ext w w' := by
  obtain ⟨v0, v1, v2, v3, v4, rfl, _⟩ := h.ex
  refine K.start hmix E.cmd_asked (args := [_, _, _]) (Nat.le_of_ble_eq_true rfl) ?_; dsimp only [C.cmd_asked,yt,yi,yb,yp,yr,ye,yc,yv,yg,ym,yw,ya,yl,yx,ys,yn]
  refine Sg ?_
  intro w1 b1 hb1 he1 hc1
  refine Sg ?_
  refine K.call (kind_r ve e _ s w1 (hn.ext he1) (h.ext he1)) ?_
  rintro _ w2 ⟨rfl, he2⟩
  refine Sg ?_
  rw [Abs.asked]
  refine K.cond (fun g1 => ?_) (fun g1 => ?_)
  · rw [if_neg (by simpa using g1)]
    refine Sg ?_
    refine K.cond (fun g2 => ?_) (fun g2 => ?_)
    · refine Sg ?_
      rw [if_neg (by simpa using g2)]
      (refine ⟨?_, ?_⟩ <;> first | trivial | rfl | (repeat' first | assumption | exact Ext.refl _ | refine Ext.trans ?_ (by assumption)))
    refine Sg ?_
    rw [if_pos g2]
    (refine ⟨?_, ?_⟩ <;> first | trivial | rfl | (repeat' first | assumption | exact Ext.refl _ | refine Ext.trans ?_ (by assumption)))
  refine Sg ?_
  rw [if_pos g1]
  (refine ⟨?_, ?_⟩ <;> first | trivial | rfl | (repeat' first | assumption | exact Ext.refl _ | refine Ext.trans ?_ (by assumption)))
theorem talks_r (a : Abs.Act) (vi vv : Value) (w : World) : Ret Tryd.prog F.cmd_talks #[.agg (a.enc vi vv).toArray] w fun v w' => v = .bool (Abs.talks a) ∧ Ext w w' := by
  refine K.start hmix E.cmd_talks (args := [_]) (Nat.le_of_ble_eq_true rfl) ?_; dsimp only [C.cmd_talks,yt,yi,yb,yp,yr,ye,yc,yv,yg,ym,yw,ya,yl,yx,ys,yn]
  refine Sg ?_
  intro w1 b1 hb1 he1 hc1
  refine Sg ?_
  rw [Abs.talks]
  refine K.cond (fun g1 => ?_) (fun g1 => ?_)
  · refine Sg ?_
    refine ⟨?_, by (repeat' first | assumption | exact Ext.refl _ | refine Ext.trans ?_ (by assumption))⟩
    congr 1; simp [g1]
  refine Sg ?_
  refine ⟨?_, by (repeat' first | assumption | exact Ext.refl _ | refine Ext.trans ?_ (by assumption))⟩
  congr 1; simp [g1]
theorem receives_r (a : Abs.Act) (vi vv : Value) (k : Int) (cs : List Value) (s : Abs.Scope) (w : World) (h : Abs.ScopeIs w cs s) :
    Ret Tryd.prog F.cmd_receives #[.agg (a.enc vi vv).toArray, .int .i64 k, .agg cs.toArray] w fun v w' => v = .int .i64 (Abs.receives a k s) ∧ Ext w w' := by
  obtain ⟨v0, v1, v2, v3, v4, rfl, h0, h1, h2, h3, h4, _⟩ := h.ex
  refine K.start hmix E.cmd_receives (args := [_, _, _]) (Nat.le_of_ble_eq_true rfl) ?_; dsimp only [C.cmd_receives,yt,yi,yb,yp,yr,ye,yc,yv,yg,ym,yw,ya,yl,yx,ys,yn]
  refine Sg ?_
  intro w1 b1 hb1 he1 hc1
  refine Sg ?_
  intro w2 b2 hb2 he2 hc2
  have he := he1.trans he2
  refine Sg ?_
  refine K.call (declared_r v4 s.locals a.loc _ s w2 (h4.ext he) (h.ext he)) ?_
  rintro q w3 ⟨hq, he3⟩
  rw [Abs.receives]
  cases hd : Abs.declared s.locals a.loc s with
  | none =>
    rw [hd] at hq
    obtain ⟨x, k', rfl⟩ := hq
    refine Sg ?_
    intro w4 b4 hb4 he4 hc4
    refine Sg ?_
    (refine ⟨?_, ?_⟩ <;> first | trivial | rfl | (repeat' first | assumption | exact Ext.refl _ | refine Ext.trans ?_ (by assumption)))
  | some q =>
    obtain ⟨x, k'⟩ := q
    rw [hd] at hq
    subst hq
    refine Sg ?_
    intro w4 b4 hb4 he4 hc4
    refine Sg ?_
    refine K.cond (fun g1 => ?_) (fun g1 => ?_)
    · refine Sg ?_
      refine K.cond (fun g2 => ?_) (fun g2 => ?_)
      · refine Sg ?_
        simp only [g1, g2, ne_eq, not_true_eq_false, or_self, if_false]
        (refine ⟨?_, ?_⟩ <;> first | trivial | rfl | (repeat' first | assumption | exact Ext.refl _ | refine Ext.trans ?_ (by assumption)))
      refine Sg ?_
      simp only [g2, ne_eq, not_false_eq_true, or_true, if_true]
      (refine ⟨?_, ?_⟩ <;> first | trivial | rfl | (repeat' first | assumption | exact Ext.refl _ | refine Ext.trans ?_ (by assumption)))
    refine Sg ?_
    simp only [g1, ne_eq, not_false_eq_true, true_or, if_true]
    (refine ⟨?_, ?_⟩ <;> first | trivial | rfl | (repeat' first | assumption | exact Ext.refl _ | refine Ext.trans ?_ (by assumption)))
end Go.Proofs.YtbbaokmelkiemaaDoor
end
section
/- Commands: what an act, and a whole command, must be. -/
set_option maxRecDepth 4000
set_option maxHeartbeats 1600000
namespace Abs
open Go Go.RowKit Lite
theorem actsE_cons {s : Scope} {l : List Act} {k : Nat} {t : Bool} (h : k < l.length) :
    actsE s (l.drop k) k t = if talks l[k] && t then (2 + (k : Int), 7) else if actE l[k] s ≠ 0 then (2 + (k : Int), actE l[k] s) else actsE s (l.drop (k + 1)) (k + 1) (t || talks l[k]) := by
  rw [List.drop_eq_getElem_cons h]; rfl
end Abs
namespace Go.Proofs.YtbbaokmelkiemaaDoor
open Go Go.RowKit Lite

theorem act1_r (k : Int) (a : Abs.Act) (vi vv : Value) (cs : List Value) (s : Abs.Scope) (w : World) (b1 b2 : Nat) (hb1 : w.heap[b1]? = some (.cells (a.enc vi vv).toArray T.api_Act)) (hb2 : w.heap[b2]? = some (.cells cs.toArray T.api_Scope))
    (hv : Abs.Nodes w vv a.value) (h : Abs.ScopeIs w cs s) :
    Ret Tryd.prog F.cmd_act_1 #[.int .i64 k, .pointer (some ⟨b1, 0, none⟩), .pointer (some ⟨b2, 0, none⟩)] w fun v w' => v = .int .i64 (Abs.asked a.value k s) ∧ Ext w w' := by
  obtain ⟨v0, v1, v2, v3, v4, rfl, _⟩ := h.ex
  refine K.start hmix E.cmd_act_1 (args := [_, _, _]) (Nat.le_of_ble_eq_true rfl) ?_; dsimp only [C.cmd_act_1,yt,yi,yb,yp,yr,ye,yc,yv,yg,ym,yw,ya,yl,yx,ys,yn]
  refine Sg ?_
  refine K.call (asked_r vv a.value k _ s w hv h) ?_
  rintro _ w2 ⟨rfl, he2⟩
  refine Sg ?_
  (refine ⟨?_, ?_⟩ <;> first | trivial | rfl | (repeat' first | assumption | exact Ext.refl _ | refine Ext.trans ?_ (by assumption)))
theorem act_r (a : Abs.Act) (vi vv : Value) (cs : List Value) (s : Abs.Scope) (w : World) (hi : Abs.Nodes w vi a.index) (hv : Abs.Nodes w vv a.value) (h : Abs.ScopeIs w cs s) :
    Ret Tryd.prog F.cmd_act #[.agg (a.enc vi vv).toArray, .agg cs.toArray] w fun v w' => v = .int .i64 (Abs.actE a s) ∧ Ext w w' := by
  obtain ⟨v0, v1, v2, v3, v4, rfl, h0, h1, h2, h3, h4, l0⟩ := h.ex
  refine K.start hmix E.cmd_act (args := [_, _]) (Nat.le_of_ble_eq_true rfl) ?_; dsimp only [C.cmd_act,yt,yi,yb,yp,yr,ye,yc,yv,yg,ym,yw,ya,yl,yx,ys,yn]
  refine Sg ?_
  intro w1 b1 hb1 he1 hc1
  refine Sg ?_
  intro w2 b2 hb2 he2 hc2
  have he := he1.trans he2
  have hc1 := he2.obj hc1
  by_cases q : a.kind = 1 ∨ a.kind = 2 ∨ a.kind = 3
  · rw [Abs.actE, if_pos q]
    generalize hL : (if a.kind = 3 then s.locals else s.vars) = L
    have hcall : ∀ vl n, vl = (if a.kind = 3 then v4 else v1) → Ret Tryd.prog F.cmd_declared #[vl, .int .i64 n, .agg #[v0, v1, v2, v3, v4, .int .i64 s.self]] w2 fun v w' => Abs.DeclV v (Abs.declared L n s) ∧ Ext w2 w' := by
      rintro vl n rfl
      refine declared_r _ L n _ s w2 ?_ (h.ext he)
      rw [← hL]
      split
      · exact h4.ext he
      · exact h1.ext he
    by_cases q5 : a.kind = 2
    · refine Sg ?_
      refine K.call (hcall _ _ (by simp [q5])) ?_
      rintro u w3 ⟨hq, he3⟩
      have hc1 := he3.obj hc1
      have hc2 := he3.obj hc2
      have he03 := he.trans he3
      cases hd : Abs.declared L a.to s with
      | none =>
        rw [hd] at hq
        obtain ⟨x, k', rfl⟩ := hq
        refine Sg ?_
        intro w4 b4 hb4 he4 hc4
        refine Sg ?_
        (refine ⟨?_, ?_⟩ <;> first | trivial | rfl | (repeat' first | assumption | exact Ext.refl _ | refine Ext.trans ?_ (by assumption)))
      | some u =>
        obtain ⟨x, k'⟩ := u
        rw [hd] at hq
        subst hq
        have hov := Abs.declared_over hd
        simp only at hov
        refine Sg ?_
        intro w4 b4 hb4 he4 hc4
        have hc1 := he4.obj hc1
        have hc2 := he4.obj hc2
        have he04 := he03.trans he4
        refine Sg ?_
        refine K.neb (by kernel_rfl) ?_
        refine Sg ?_
        by_cases q2 : x.over = 0
        · refine K.condbT (by simp [q5, q2]) ?_
          refine Sg ?_
          exact ⟨by simp [q5, q2], by (repeat' first | assumption | exact Ext.refl _ | refine Ext.trans ?_ (by assumption))⟩
        refine K.condbF (by simp [q5, q2]) ?_
        refine Sg ?_
        refine K.call (asked_r vi a.index _ _ s w4 (hi.ext he04) (h.ext he04)) ?_
        rintro _ w5 ⟨rfl, he5⟩
        have hc1 := he5.obj hc1
        have hc2 := he5.obj hc2
        have he05 := he04.trans he5
        refine Sg ?_
        refine K.cond (fun q3 => ?_) (fun q3 => ?_)
        · refine Sg ?_
          refine K.callV (first := []) (cap := [_, _]) (by kernel_rfl) (act1_r k' a vi vv _ s w5 b1 b2 hc1 hc2 (hv.ext he05) (h.ext he05)) ?_
          rintro _ w6 ⟨rfl, he6⟩
          refine Sg ?_
          exact ⟨by simp [q5, q2, q3], by (repeat' first | assumption | exact Ext.refl _ | refine Ext.trans ?_ (by assumption))⟩
        · refine Sg ?_
          exact ⟨by simp [q5, q2, q3], by (repeat' first | assumption | exact Ext.refl _ | refine Ext.trans ?_ (by assumption))⟩
    have q6 : a.kind = 1 ∨ a.kind = 3 := by omega
    clear q
    rcases q6 with q | q
    all_goals
      refine Sg ?_
      refine K.call (hcall _ _ (by simp [q])) ?_
      rintro u w3 ⟨hq, he3⟩
      have hc1 := he3.obj hc1
      have hc2 := he3.obj hc2
      have he03 := he.trans he3
      cases hd : Abs.declared L a.to s with
      | none =>
        rw [hd] at hq
        obtain ⟨x, k', rfl⟩ := hq
        refine Sg ?_
        intro w4 b4 hb4 he4 hc4
        refine Sg ?_
        (refine ⟨?_, ?_⟩ <;> first | trivial | rfl | (repeat' first | assumption | exact Ext.refl _ | refine Ext.trans ?_ (by assumption)))
      | some u =>
        obtain ⟨x, k'⟩ := u
        rw [hd] at hq
        subst hq
        refine Sg ?_
        intro w4 b4 hb4 he4 hc4
        have hc1 := he4.obj hc1
        have hc2 := he4.obj hc2
        have he04 := he03.trans he4
        refine Sg ?_
        refine K.neb (by kernel_rfl) ?_
        refine Sg ?_
        by_cases q2 : x.over = 0
        · refine K.condbF (by simp [q, q2]) ?_
          refine Sg ?_
          refine K.callV (first := []) (cap := [_, _]) (by kernel_rfl) (act1_r k' a vi vv _ s w4 b1 b2 hc1 hc2 (hv.ext he04) (h.ext he04)) ?_
          rintro _ w6 ⟨rfl, he6⟩
          refine Sg ?_
          exact ⟨by simp [q, q2], by (repeat' first | assumption | exact Ext.refl _ | refine Ext.trans ?_ (by assumption))⟩
        · refine K.condbT (by simp [q, q2]) ?_
          refine Sg ?_
          exact ⟨by simp [q, q2], by (repeat' first | assumption | exact Ext.refl _ | refine Ext.trans ?_ (by assumption))⟩
  by_cases q4 : a.kind = 4 ∨ a.kind = 5
  · rw [Abs.actE, if_neg q, if_pos q4]
    have q7 : a.kind ≠ 3 := by omega
    have q8 : a.kind ≠ 1 := by omega
    have q9 : a.kind ≠ 2 := by omega
    have step : ∀ (w' : World), Ext w2 w' → Ret Tryd.prog F.cmd_channel #[.int .i64 a.to, .agg #[v0, v1, v2, v3, v4, .int .i64 s.self]] w' fun v w'' => v = .tuple #[.int .i64 ((Abs.channel a.to s).getD 0), .bool (Abs.channel a.to s).isSome] ∧ Ext w' w'' :=
      fun w' e => channel_r a.to _ s w' (h.ext (he.trans e))
    rcases q4 with q4 | q4
    · refine Sg ?_
      refine K.call (step w2 (Ext.refl _)) ?_
      rintro _ w3 ⟨rfl, he3⟩
      have hc1 := he3.obj hc1
      have hc2 := he3.obj hc2
      have he03 := he.trans he3
      cases hd : Abs.channel a.to s with
      | none =>
        simp only [Option.isSome_none, Option.getD_none]
        refine Sg ?_
        (refine ⟨?_, ?_⟩ <;> first | trivial | rfl | (repeat' first | assumption | exact Ext.refl _ | refine Ext.trans ?_ (by assumption)))
      | some k =>
        simp only [Option.isSome_some, Option.getD_some]
        refine Sg ?_
        refine K.callV (first := []) (cap := [_, _]) (by kernel_rfl) (act1_r k a vi vv _ s w3 b1 b2 hc1 hc2 (hv.ext he03) (h.ext he03)) ?_
        rintro _ w6 ⟨rfl, he6⟩
        refine Sg ?_
        exact ⟨by simp [q4], by (repeat' first | assumption | exact Ext.refl _ | refine Ext.trans ?_ (by assumption))⟩
    · refine Sg ?_
      refine K.call (step w2 (Ext.refl _)) ?_
      rintro _ w3 ⟨rfl, he3⟩
      have hc1 := he3.obj hc1
      have hc2 := he3.obj hc2
      have he03 := he.trans he3
      cases hd : Abs.channel a.to s with
      | none =>
        simp only [Option.isSome_none, Option.getD_none]
        refine Sg ?_
        (refine ⟨?_, ?_⟩ <;> first | trivial | rfl | (repeat' first | assumption | exact Ext.refl _ | refine Ext.trans ?_ (by assumption)))
      | some k =>
        simp only [Option.isSome_some, Option.getD_some]
        refine Sg ?_
        refine K.call (receives_r a vi vv k _ s w3 (h.ext he03)) ?_
        rintro _ w6 ⟨rfl, he6⟩
        refine Sg ?_
        exact ⟨by simp [q4], by (repeat' first | assumption | exact Ext.refl _ | refine Ext.trans ?_ (by assumption))⟩
  rw [Abs.actE, if_neg q, if_neg q4]
  have q7 : a.kind ≠ 3 := by omega
  have q8 : a.kind ≠ 1 := by omega
  have q9 : a.kind ≠ 2 := by omega
  have q10 : a.kind ≠ 4 := by omega
  have q11 : a.kind ≠ 5 := by omega
  refine Sg ?_
  (refine ⟨?_, ?_⟩ <;> first | trivial | rfl | (repeat' first | assumption | exact Ext.refl _ | refine Ext.trans ?_ (by assumption)))
end Go.Proofs.YtbbaokmelkiemaaDoor
end
section
/- Plain: what commands that are right have. No program in sight. -/
namespace Abs
open Go
theorem actsE_take {s : Scope} : ∀ (l : List Act) (i : Nat) (t : Bool) (k : Nat), (actsE s l i t).2 = 0 → actsE s (l.take k) i t = (0, 0)
  | [], i, t, k, _ => by simp [actsE]
  | a :: r, i, t, 0, _ => by simp [actsE]
  | a :: r, i, t, k + 1, h => by
    simp only [List.take_succ_cons, actsE] at h ⊢
    by_cases h1 : (talks a && t) = true
    · rw [if_pos h1] at h; cases h
    rw [if_neg h1] at h ⊢
    by_cases h2 : actE a s ≠ 0
    · rw [if_pos h2] at h; exact absurd h h2
    rw [if_neg h2] at h ⊢
    exact actsE_take r _ _ k h
theorem actE_kind {a : Act} {s : Scope} (h : actE a s = 0) : 1 ≤ a.kind ∧ a.kind ≤ 5 := by
  unfold actE at h
  by_cases h1 : a.kind = 1 ∨ a.kind = 2 ∨ a.kind = 3
  · omega
  · rw [if_neg h1] at h
    by_cases h2 : a.kind = 4 ∨ a.kind = 5
    · omega
    · rw [if_neg h2] at h; cases h
theorem actsE_each {s : Scope} : ∀ (l : List Act) (i : Nat) (t : Bool), (actsE s l i t).2 = 0 → ∀ a ∈ l, actE a s = 0
  | [], i, t, _ => by simp
  | a :: r, i, t, h => by
    simp only [actsE] at h
    by_cases h1 : (talks a && t) = true
    · rw [if_pos h1] at h; cases h
    rw [if_neg h1] at h
    by_cases h2 : actE a s ≠ 0
    · rw [if_pos h2] at h; exact absurd h h2
    rw [if_neg h2] at h
    intro b hb
    rcases List.mem_cons.1 hb with rfl | hb
    · simpa using h2
    · exact actsE_each r _ _ h b hb
/-- How many send or receive, as the law counts. -/
def nTalk (l : List Act) : Nat := (l.filter fun a => decide (4 ≤ a.kind)).length
theorem actsE_count {s : Scope} : ∀ (l : List Act) (i : Nat) (t : Bool), (actsE s l i t).2 = 0 → nTalk l + (if t then 1 else 0) ≤ 1
  | [], i, t, _ => by cases t <;> simp [nTalk]
  | a :: r, i, t, h => by
    simp only [actsE] at h
    by_cases h1 : (talks a && t) = true
    · rw [if_pos h1] at h; cases h
    rw [if_neg h1] at h
    by_cases h2 : actE a s ≠ 0
    · rw [if_pos h2] at h; exact absurd h h2
    rw [if_neg h2] at h
    have ih := actsE_count r _ _ h
    have hk := actE_kind (show actE a s = 0 by simpa using h2)
    have ht : talks a = decide (4 ≤ a.kind) := by unfold talks; congr 1; apply propext; omega
    rw [ht] at h1 ih
    by_cases h4 : 4 ≤ a.kind
    · have htf : t = false := by simpa [h4] using h1
      subst htf
      simp only [nTalk, List.filter_cons, h4, decide_true, if_true, List.length_cons] at ih ⊢
      simp at ih ⊢
      omega
    · simp only [nTalk, List.filter_cons, h4, decide_false, Bool.or_false] at ih ⊢
      simpa using ih
theorem nTalk_take {l : List Act} {k : Nat} (h : k < l.length) : nTalk (l.take (k + 1)) = nTalk (l.take k) + (if 4 ≤ l[k].kind then 1 else 0) := by
  rw [List.take_succ_eq_append_getElem h]
  unfold nTalk
  rw [List.filter_append, List.length_append]
  by_cases h4 : 4 ≤ l[k].kind <;> simp [h4]
theorem cmdCheck_ok {c : Cmd} {n : Int} {s : Scope} (h : (cmdCheck c n s).2 = 0) : head c n = 0 ∧ (c.guard.length > 0 → asked c.guard 1 s = 0) ∧ (actsE s c.acts 0 false).2 = 0 := by
  unfold cmdCheck at h
  by_cases h1 : head c n ≠ 0
  · rw [if_pos h1] at h; exact absurd h h1
  rw [if_neg h1] at h
  by_cases h2 : c.guard.length > 0 ∧ asked c.guard 1 s ≠ 0
  · rw [if_pos h2] at h; exact absurd h h2.2
  rw [if_neg h2] at h
  exact ⟨by simpa using h1, fun hg => Classical.byContradiction fun hn => h2 ⟨hg, hn⟩, h⟩
theorem head_ok {c : Cmd} {n : Int} (h : head c n = 0) : isName c.name = true ∧ 0 ≤ c.from_ ∧ c.from_ < n ∧ 0 ≤ c.to ∧ c.to < n ∧ c.acts.length ≤ 6 := by
  unfold head at h
  by_cases h1 : isName c.name = false
  · rw [if_pos h1] at h; cases h
  rw [if_neg h1] at h
  by_cases h2 : c.from_ < 0 ∨ n ≤ c.from_ ∨ c.to < 0 ∨ n ≤ c.to
  · rw [if_pos h2] at h; cases h
  rw [if_neg h2] at h
  by_cases h3 : c.acts.length > 6
  · rw [if_pos h3] at h; cases h
  exact ⟨by simpa using h1, by omega, by omega, by omega, by omega, by omega⟩
theorem head_mk {c : Cmd} {n : Int} (h1 : isName c.name = true) (h2 : 0 ≤ c.from_ ∧ c.from_ < n ∧ 0 ≤ c.to ∧ c.to < n) (h3 : c.acts.length ≤ 6) : head c n = 0 := by
  unfold head
  rw [if_neg (by simp [h1]), if_neg (by omega), if_neg (by omega)]
/-- Fewer acts, and no guard: as right. -/
theorem check_take {c : Cmd} {n : Int} {s : Scope} (h : (cmdCheck c n s).2 = 0) (k : Nat) : cmdCheck { c with acts := c.acts.take k } n s = (0, 0) ∧ cmdCheck { c with acts := c.acts.take k, guard := [] } n s = (0, 0) := by
  obtain ⟨h1, h2, h3⟩ := cmdCheck_ok h
  obtain ⟨a1, a2, a3, a4, a5, a6⟩ := head_ok h1
  have hl : (c.acts.take k).length ≤ 6 := by rw [List.length_take]; omega
  have ht := actsE_take c.acts 0 false k h3
  constructor
  · unfold cmdCheck
    rw [if_neg (by rw [head_mk (c := { c with acts := c.acts.take k }) a1 ⟨a2, a3, a4, a5⟩ hl]; simp), if_neg (fun hh => hh.2 (h2 hh.1))]
    exact ht
  · unfold cmdCheck
    rw [if_neg (by rw [head_mk (c := { c with acts := c.acts.take k, guard := [] }) a1 ⟨a2, a3, a4, a5⟩ hl]; simp), if_neg (by simp)]
    exact ht
theorem check_spoilt {c : Cmd} {n : Int} {s : Scope} (h : (cmdCheck c n s).2 = 0) : cmdCheck { c with to := n } n s = (0, 10) ∧ cmdCheck { c with from_ := -1 } n s = (0, 10) ∧ cmdCheck { c with name := ⟨#[]⟩ } n s = (0, 6) := by
  obtain ⟨h1, h2, h3⟩ := cmdCheck_ok h
  obtain ⟨a1, a2, a3, a4, a5, a6⟩ := head_ok h1
  have e1 : head { c with to := n } n = 10 := by
    unfold head
    simp only
    rw [if_neg (by simp [a1]), if_pos (by omega)]
  have e2 : head { c with from_ := -1 } n = 10 := by
    unfold head
    simp only
    rw [if_neg (by simp [a1]), if_pos (by omega)]
  have e3 : head { c with name := ⟨#[]⟩ } n = 6 := by
    unfold head
    simp only
    rw [if_pos (by decide)]
  refine ⟨?_, ?_, ?_⟩
  · unfold cmdCheck; rw [e1]; rfl
  · unfold cmdCheck; rw [e2]; rfl
  · unfold cmdCheck; rw [e3]; rfl
theorem asked_ok {e : List Node} {k : Int} {s : Scope} (h : asked e k s = 0) : kind e s = (k, 0) := by
  unfold asked at h
  by_cases h1 : (kind e s).2 ≠ 0
  · rw [if_pos h1] at h; exact absurd h h1
  rw [if_neg h1] at h
  by_cases h2 : (kind e s).1 ≠ k
  · rw [if_pos h2] at h; cases h
  exact Prod.ext (by simpa using h2) (by simpa using h1)
theorem kind_one {op n : Int} {s : Scope} (h : nparts op = 0) (h2 : opOf op = none) : kind [⟨op, n⟩] s = if (kleaf ⟨op, n⟩ s 0).2 ≠ 0 then (0, (kleaf ⟨op, n⟩ s 0).2) else ((kleaf ⟨op, n⟩ s 0).1, 0) := by
  have hf : fKind s ⟨op, n⟩ [] = kleaf ⟨op, n⟩ s 0 := by unfold fKind; simp only [h2]; rfl
  unfold kind runE
  simp only [List.length_cons, List.length_nil, runL, stepG, h, hf]
  by_cases h3 : (kleaf ⟨op, n⟩ s 0).2 = 0
  · simp [h3]
  · simp [h3]
theorem declared_var {l : List Var} {n : Int} {s : Scope} {v : Var} {k : Int} (h : declared l n s = some (v, k)) : nth l n = some v ∧ kvar l n s = (k, (kscalar v.over s).1, true) ∧ (kscalar v.over s).1 = (if v.over = 0 then 0 else 1 + v.over) := by
  unfold declared at h
  cases hn : nth l n with
  | none => rw [hn] at h; cases h
  | some u =>
    rw [hn] at h
    simp only at h
    by_cases ht : (thing u.scalar u.over s).2 = true
    · rw [if_pos ht] at h
      cases h
      refine ⟨rfl, ?_⟩
      unfold thing at ht
      by_cases q1 : v.scalar < 0 ∨ (s.scalars.length : Int) < v.scalar ∨ v.over < 0 ∨ (s.scalars.length : Int) < v.over
      · rw [if_pos q1] at ht; cases ht
      have e1 : kscalar v.over s = (if v.over = 0 then 0 else 1 + v.over, true) := by
        unfold kscalar
        by_cases q2 : v.over = 0
        · rw [if_pos q2, if_pos q2]
        · rw [if_neg q2, if_neg (by omega), if_neg q2]
      have e2 : kscalar v.scalar s = thing v.scalar v.over s := by
        unfold kscalar thing
        rw [if_neg q1]
        by_cases q2 : v.scalar = 0
        · rw [if_pos q2, if_pos q2]
        · rw [if_neg q2, if_neg (by omega), if_neg q2]
      have e3 : (thing v.scalar v.over s).2 = true := by
        unfold thing; rw [if_neg q1]; split <;> rfl
      rw [e1]
      refine ⟨?_, rfl⟩
      unfold kvar
      rw [hn]
      simp only [e1, e2, e3, Bool.and_self]
    · rw [if_neg ht] at h; cases h
/-- What a plain variable or a local is set to is of its kind. -/
theorem act_values {a : Act} {s : Scope} (h : actE a s = 0) (hk : a.kind = 1 ∨ a.kind = 3) : ∃ k, kind [⟨if a.kind = 1 then 2 else 4, a.to⟩] s = (k, 0) ∧ kind a.value s = (k, 0) := by
  unfold actE at h
  rw [if_pos (by omega)] at h
  have hl : (if a.kind = 3 then s.locals else s.vars) = (if (if a.kind = 1 then (2 : Int) else 4) = 4 then s.locals else s.vars) := by
    rcases hk with e | e <;> simp [e]
  rw [hl] at h
  generalize hop : (if a.kind = 1 then (2 : Int) else 4) = op at *
  have hop' : op = 2 ∨ op = 4 := by split at hop <;> omega
  cases hd : declared (if op = 4 then s.locals else s.vars) a.to s with
  | none => rw [hd] at h; cases h
  | some q =>
    obtain ⟨v, k⟩ := q
    rw [hd] at h
    simp only at h
    by_cases g1 : (v.over ≠ 0) ≠ (a.kind = 2)
    · rw [if_pos g1] at h; cases h
    rw [if_neg g1] at h
    have g2 : v.over = 0 := by
      have : ¬ a.kind = 2 := by omega
      simpa [this] using g1
    rw [if_neg (by omega)] at h
    obtain ⟨_, h1, h2⟩ := declared_var hd
    refine ⟨k, ?_, asked_ok h⟩
    have hle : kleaf ⟨op, a.to⟩ s 0 = (k, 0) := by
      unfold kleaf
      simp only
      rw [if_neg (by omega), if_pos (by omega), h1, h2]
      simp [g2]
      omega
    rw [kind_one (by rcases hop' with e | e <;> subst e <;> rfl) (by rcases hop' with e | e <;> subst e <;> decide), hle]
    rfl
theorem kind_in1 {op n : Int} {s : Scope} {k : Int} (hop : op = 2 ∨ op = 4) (hs : s.vars.length ≤ 1152921504606846976 ∧ s.chans.length ≤ 1152921504606846976 ∧ s.procs.length ≤ 1152921504606846976 ∧ s.locals.length ≤ 1152921504606846976 ∧ inI s.self) (h : kind [⟨op, n⟩] s = (k, 0)) : inI n := by
  rw [kind_one (by rcases hop with e | e <;> subst e <;> rfl) (by rcases hop with e | e <;> subst e <;> decide)] at h
  by_cases h0 : (kleaf ⟨op, n⟩ s 0).2 ≠ 0
  · rw [if_pos h0] at h
    injection h with _ h
    exact absurd h h0
  have h1 : (kleaf ⟨op, n⟩ s 0).2 = 0 := by simpa using h0
  unfold kleaf at h1
  simp only at h1
  rw [if_neg (by omega), if_pos (by omega)] at h1
  by_cases h2 : (kvar (if op = 4 then s.locals else s.vars) n s).2.2 = false
  · rw [if_pos h2] at h1; cases h1
  have h3 : ∃ v, nth (if op = 4 then s.locals else s.vars) n = some v := by
    unfold kvar at h2
    cases hn : nth (if op = 4 then s.locals else s.vars) n with
    | none => rw [hn] at h2; exact absurd rfl h2
    | some v => exact ⟨v, rfl⟩
  obtain ⟨v, hv⟩ := h3
  unfold nth at hv
  by_cases h4 : 0 ≤ n
  · rw [if_pos h4] at hv
    have := (List.getElem?_eq_some_iff.1 hv).1
    have h5 : n.toNat < 1152921504606846976 := by
      split at this <;> omega
    unfold inI
    omega
  · rw [if_neg h4] at hv; cases hv
end Abs
end
section
/- Commands: what a whole command must be; what it sends or receives by. -/
set_option maxRecDepth 4000
set_option maxHeartbeats 1600000
namespace Abs
open Go Go.RowKit Lite
theorem comm_cons {l : List Act} {k : Nat} (h : k < l.length) : comm (l.drop k) = if talks l[k] then (l[k].kind, l[k].to) else comm (l.drop (k + 1)) := by
  rw [List.drop_eq_getElem_cons h]; rfl
end Abs
namespace Go.Proofs.YtbbaokmelkiemaaDoor
open Go Go.RowKit Lite
theorem head1_r (n : Int) (p : Abs.Proc) (pv pc : Value) (w : World) (b : Nat) (hb : w.heap[b]? = some (.cells (p.enc pv pc).toArray T.api_Proc)) :
    Ret Tryd.prog F.cmd_head_1 #[.int .i64 n, .pointer (some ⟨b, 0, none⟩)] w fun v w' => v = .bool (decide (n < 0 ∨ p.locs ≤ n)) ∧ w' = w := by
  refine K.start hmix E.cmd_head_1 (args := [_, _]) (Nat.le_of_ble_eq_true rfl) ?_; dsimp only [C.cmd_head_1,yt,yi,yb,yp,yr,ye,yc,yv,yg,ym,yw,ya,yl,yx,ys,yn]
  refine Sg ?_
  refine K.cond (fun g1 => ?_) (fun g1 => ?_)
  · refine Sg ?_
    exact ⟨by simp [g1], by first | trivial | rfl⟩
  refine Sg ?_
  exact ⟨by simp [g1], by first | trivial | rfl⟩
theorem head_r (c : Abs.Cmd) (vg va : Value) (p : Abs.Proc) (pv pc : Value) (w : World) (ho : OwnIs w) (hn : Abs.strOk c.name) (ha : Abs.Acts w va c.acts) :
    Ret Tryd.prog F.cmd_head #[.agg (c.enc vg va).toArray, .agg (p.enc pv pc).toArray] w fun v w' => v = .int .i64 (Abs.head c p.locs) ∧ Ext w w' := by
  obtain ⟨oa, cap, rfl, hlen⟩ := ha.form
  refine K.start hmix E.cmd_head (args := [_, _]) (Nat.le_of_ble_eq_true rfl) ?_; dsimp only [C.cmd_head,yt,yi,yb,yp,yr,ye,yc,yv,yg,ym,yw,ya,yl,yx,ys,yn]
  refine Sg ?_
  intro w1 b1 hb1 he1 hc1
  refine Sg ?_
  intro w2 b2 hb2 he2 hc2
  have he := he1.trans he2
  have hc1 := he2.obj hc1
  refine Sg ?_
  refine K.call (name_r c.name w2 (ho.ext he) hn) ?_
  rintro _ w3 ⟨rfl, he3⟩
  have hc1 := he3.obj hc1
  have hc2 := he3.obj hc2
  have he03 := he.trans he3
  rw [Abs.head]
  refine Sg ?_
  refine K.condb (fun g1 => ?_) (fun g1 => ?_)
  rotate_left
  · refine Sg ?_
    exact ⟨by simp [g1], by (repeat' first | assumption | exact Ext.refl _ | refine Ext.trans ?_ (by assumption))⟩
  refine Sg ?_
  refine K.callV (first := []) (cap := [_]) (by kernel_rfl) (head1_r c.from_ p pv pc w3 b2 hc2) ?_
  rintro _ _ ⟨rfl, rfl⟩
  refine Sg ?_
  refine K.cond (fun g2 => ?_) (fun g2 => ?_)
  · refine Sg ?_
    refine ⟨?_, by (repeat' first | assumption | exact Ext.refl _ | refine Ext.trans ?_ (by assumption))⟩
    rw [if_neg (by simp [g1]), if_pos (by omega)]
  refine Sg ?_
  refine K.callV (first := []) (cap := [_]) (by kernel_rfl) (head1_r c.to p pv pc _ b2 hc2) ?_
  rintro _ _ ⟨rfl, rfl⟩
  refine Sg ?_
  refine K.cond (fun g3 => ?_) (fun g3 => ?_)
  · refine Sg ?_
    refine ⟨?_, by (repeat' first | assumption | exact Ext.refl _ | refine Ext.trans ?_ (by assumption))⟩
    rw [if_neg (by simp [g1]), if_pos (by omega)]
  refine Sg ?_
  refine K.cond (fun g4 => ?_) (fun g4 => ?_)
  · refine Sg ?_
    refine ⟨?_, by (repeat' first | assumption | exact Ext.refl _ | refine Ext.trans ?_ (by assumption))⟩
    rw [if_neg (by simp [g1]), if_neg (by omega), if_pos (by omega)]
  · refine Sg ?_
    refine ⟨?_, by (repeat' first | assumption | exact Ext.refl _ | refine Ext.trans ?_ (by assumption))⟩
    rw [if_neg (by simp [g1]), if_neg (by omega), if_neg (by omega)]
theorem check_r (c : Abs.Cmd) (vg va : Value) (p : Abs.Proc) (pv pc : Value) (cs : List Value) (s : Abs.Scope) (w : World) (ho : OwnIs w) (hn : Abs.strOk c.name) (hg : Abs.Nodes w vg c.guard) (ha : Abs.Acts w va c.acts)
    (hv : Abs.Vars w pv p.vars) (hc : Abs.Cmds w pc p.cmds) (h : Abs.ScopeIs w cs s) :
    Ret Tryd.prog F.cmd_Check #[.agg (c.enc vg va).toArray, .agg (p.enc pv pc).toArray, .agg cs.toArray] w fun v w' =>
      v = .tuple #[.int .i64 (Abs.cmdCheck c p.locs s).1, .int .i64 (Abs.cmdCheck c p.locs s).2] ∧ Ext w w' := by
  obtain ⟨a0, c0, a1, c1, a2, c2, a3, c3, a4, c4, rfl, _⟩ := h.form
  obtain ⟨oa, cap, rfl, hlen⟩ := ha.form
  obtain ⟨og, capg, rfl, hleng⟩ := hg.form
  obtain ⟨_, _, rfl, _⟩ := hv.form
  obtain ⟨_, _, rfl, _⟩ := hc.form
  refine K.start hmix E.cmd_Check (args := [_, _, _]) (Nat.le_of_ble_eq_true rfl) ?_; dsimp only [C.cmd_Check,yt,yi,yb,yp,yr,ye,yc,yv,yg,ym,yw,ya,yl,yx,ys,yn]
  refine Sg ?_
  intro w1 b1 hb1 he1 hc1
  refine Sg ?_
  intro w2 b2 hb2 he2 hc2
  refine Sg ?_
  intro w3 b3 hb3 he3 hc3
  have he := (he1.trans he2).trans he3
  have hc1 := (he2.trans he3).obj hc1
  have hc2 := he3.obj hc2
  refine Sg ?_
  refine K.call (head_r c _ _ p _ _ w3 (ho.ext he) hn (ha.ext he)) ?_
  rintro _ w4 ⟨rfl, he4⟩
  have hc1 := he4.obj hc1
  have hc3 := he4.obj hc3
  have he04 := he.trans he4
  rw [Abs.cmdCheck]
  refine Sg ?_
  refine K.cond (fun g1 => ?_) (fun g1 => ?_)
  rotate_left
  · refine Sg ?_
    exact ⟨by simp [g1], by (repeat' first | assumption | exact Ext.refl _ | refine Ext.trans ?_ (by assumption))⟩
  rw [if_neg (by simpa using g1)]
  have h6 := (Abs.head_ok g1).2.2.2.2.2
  refine Su ?_
  refine K.cutG [3, 4, 5] (fun _ => []) (fun (_ : Unit) w' => Ext w4 w' ∧ ¬ (c.guard.length > 0 ∧ Abs.asked c.guard 1 s ≠ 0)) ?_ ?_
  · refine Sg ?_
    refine K.cond (fun g2 => ?_) (fun g2 => ?_)
    · refine Sg ?_
      refine K.call (asked_r _ c.guard 1 _ s w4 (hg.ext he04) (h.ext he04)) ?_
      rintro _ w5 ⟨rfl, he5⟩
      refine Sg ?_
      refine K.cond (fun g3 => ?_) (fun g3 => ?_)
      · refine Sg ?_
        exact ⟨(), trivial, by (repeat' first | assumption | exact Ext.refl _ | refine Ext.trans ?_ (by assumption)), fun hh => hh.2 g3⟩
      · refine Sg ?_
        rw [if_pos ⟨by omega, g3⟩]
        (refine ⟨?_, ?_⟩ <;> first | trivial | rfl | (repeat' first | assumption | exact Ext.refl _ | refine Ext.trans ?_ (by assumption)))
    · refine Sg ?_
      exact ⟨(), trivial, by (repeat' first | assumption | exact Ext.refl _ | refine Ext.trans ?_ (by assumption)), fun hh => g2 (by omega)⟩
  rintro _ S w5 ⟨he5, hgd⟩
  have hc1 := he5.obj hc1
  have hc3 := he5.obj hc3
  have he05 := he04.trans he5
  rw [if_neg hgd]
  refine Sg ?_
  refine K.forG 34 c.acts.length [3, 4, 5, 32, 33] (fun b => [(10, .bool b)]) false (fun k b w' => Ext w5 w' ∧ Abs.actsE s c.acts 0 false = Abs.actsE s (c.acts.drop k) k b) (by first | trivial | rfl | exact ⟨rfl, trivial⟩ | (simp -dsimp only [LL,slots_nil,slots_cons,keepV_nil,keepV_cons,has_nil,has_cons,Nat.reduceAdd,Nat.reduceEqDiff,reduceIte,and_self]; done) | (simp -dsimp only [LL,slots_nil,slots_cons,keepV_nil,keepV_cons,has_nil,has_cons,Nat.reduceAdd,Nat.reduceEqDiff,reduceIte,and_self]; exact ⟨rfl, trivial⟩)) (by first | trivial | rfl | exact ⟨rfl, trivial⟩ | (simp -dsimp only [LL,slots_nil,slots_cons,keepV_nil,keepV_cons,has_nil,has_cons,Nat.reduceAdd,Nat.reduceEqDiff,reduceIte,and_self]; done) | (simp -dsimp only [LL,slots_nil,slots_cons,keepV_nil,keepV_cons,has_nil,has_cons,Nat.reduceAdd,Nat.reduceEqDiff,reduceIte,and_self]; exact ⟨rfl, trivial⟩)) ⟨Ext.refl _, by simp⟩ ?_
  rintro k b S w6 hk ⟨he6, hI⟩
  have he06 := he05.trans he6
  refine Sg ?_
  refine K.cond (fun g1 => ?_) (fun g1 => ?_)
  · have hk' : k < c.acts.length := by omega
    obtain ⟨a, rfl⟩ := ha.addr (by omega)
    obtain ⟨vi, vv, hcell, hvi, hvv⟩ := ha.at k hk'
    obtain ⟨_, _, rfl, _⟩ := hvi.form
    obtain ⟨_, _, rfl, _⟩ := hvv.form
    rw [Abs.actsE_cons hk'] at hI
    refine Sg ?_
    intro w7 b7 hb7 he7 hc7
    refine Su ?_
    intro w8 hw8 hc8
    have he68 := hw8.ext he7 hb7
    have he08 := he06.trans he68
    have hc3 := (he6.trans he68).obj hc3
    refine Su ?_
    refine K.cutG [3, 5, 10, 11, 12, 32, 33, 34] (fun _ => []) (fun (_ : Unit) w' => Ext w8 w' ∧ ¬ (Abs.talks c.acts[k] && b) = true) ?_ ?_
    · refine Sg ?_
      refine K.call (talks_r c.acts[k] _ _ w8) ?_
      rintro _ w9 ⟨rfl, he9⟩
      refine Sg ?_
      refine K.condb (fun g2 => ?_) (fun g2 => ?_)
      · refine Sg ?_
        refine K.condb (fun g3 => ?_) (fun g3 => ?_)
        · refine Sg ?_
          rw [hI, if_pos (by simp [g2, g3])]
          (refine ⟨?_, ?_⟩ <;> first | trivial | rfl | (repeat' first | assumption | exact Ext.refl _ | refine Ext.trans ?_ (by assumption)))
        · refine Sg ?_
          exact ⟨(), trivial, by (repeat' first | assumption | exact Ext.refl _ | refine Ext.trans ?_ (by assumption)), by simp [g3]⟩
      · refine Sg ?_
        exact ⟨(), trivial, by (repeat' first | assumption | exact Ext.refl _ | refine Ext.trans ?_ (by assumption)), by simp [g2]⟩
    rintro _ S w9 ⟨he9, g2⟩
    rw [if_neg g2] at hI
    have hc8 := he9.obj hc8
    have hc3 := he9.obj hc3
    refine Su ?_
    refine K.cutG [3, 5, 11, 12, 32, 33, 34] (fun u => [(10, .bool u)]) (fun u w' => Ext w9 w' ∧ u = (b || Abs.talks c.acts[k])) ?_ ?_
    · refine Sg ?_
      refine K.condb (fun g3 => ?_) (fun g3 => ?_)
      · refine Sg ?_
        exact ⟨true, (by first | trivial | rfl | exact ⟨rfl, trivial⟩ | (simp -dsimp only [LL,slots_nil,slots_cons,keepV_nil,keepV_cons,has_nil,has_cons,Nat.reduceAdd,Nat.reduceEqDiff,reduceIte,and_self]; done) | (simp -dsimp only [LL,slots_nil,slots_cons,keepV_nil,keepV_cons,has_nil,has_cons,Nat.reduceAdd,Nat.reduceEqDiff,reduceIte,and_self]; exact ⟨rfl, trivial⟩)), by (repeat' first | assumption | exact Ext.refl _ | refine Ext.trans ?_ (by assumption)), by simp [g3]⟩
      · refine Sg ?_
        refine K.call (talks_r c.acts[k] _ _ w9) ?_
        rintro _ w10 ⟨rfl, he10⟩
        refine Sg ?_
        exact ⟨Abs.talks c.acts[k], (by first | trivial | rfl | exact ⟨rfl, trivial⟩ | (simp -dsimp only [LL,slots_nil,slots_cons,keepV_nil,keepV_cons,has_nil,has_cons,Nat.reduceAdd,Nat.reduceEqDiff,reduceIte,and_self]; done) | (simp -dsimp only [LL,slots_nil,slots_cons,keepV_nil,keepV_cons,has_nil,has_cons,Nat.reduceAdd,Nat.reduceEqDiff,reduceIte,and_self]; exact ⟨rfl, trivial⟩)), by (repeat' first | assumption | exact Ext.refl _ | refine Ext.trans ?_ (by assumption)), by simp [g3]⟩
    rintro _ S w10 ⟨he10, rfl⟩
    have hc8 := he10.obj hc8
    have hc3 := he10.obj hc3
    have he010 := (he08.trans he9).trans he10
    have he510 := ((he6.trans he68).trans he9).trans he10
    refine Sg ?_
    refine K.call (act_r c.acts[k] _ _ _ s w10 (hvi.ext he010) (hvv.ext he010) (h.ext he010)) ?_
    rintro _ w11 ⟨rfl, he11⟩
    refine Sg ?_
    refine K.cond (fun g3 => ?_) (fun g3 => ?_)
    · refine Sg ?_
      rw [if_neg (by simpa using g3)] at hI
      exact ⟨hk', by first | trivial | rfl, _, (by first | trivial | rfl | exact ⟨rfl, trivial⟩ | (simp -dsimp only [LL,slots_nil,slots_cons,keepV_nil,keepV_cons,has_nil,has_cons,Nat.reduceAdd,Nat.reduceEqDiff,reduceIte,and_self]; done) | (simp -dsimp only [LL,slots_nil,slots_cons,keepV_nil,keepV_cons,has_nil,has_cons,Nat.reduceAdd,Nat.reduceEqDiff,reduceIte,and_self]; exact ⟨rfl, trivial⟩)), by (repeat' first | assumption | exact Ext.refl _ | refine Ext.trans ?_ (by assumption)), hI⟩
    · refine Sg ?_
      rw [hI, if_pos g3]
      (refine ⟨?_, ?_⟩ <;> first | trivial | rfl | (repeat' first | assumption | exact Ext.refl _ | refine Ext.trans ?_ (by assumption)))
  · refine Sg ?_
    rw [hI, List.drop_eq_nil_of_le (by omega)]
    (refine ⟨?_, ?_⟩ <;> first | trivial | rfl | (repeat' first | assumption | exact Ext.refl _ | refine Ext.trans ?_ (by assumption)))
end Go.Proofs.YtbbaokmelkiemaaDoor
end
section
/- What the functions of decl compute. -/
set_option maxRecDepth 4000
set_option linter.unusedSimpArgs false
namespace Go.Proofs.YtbbaokmelkiemaaDoor
open Go Go.RowKit Lite

theorem narrow_r (lo hi : Int) (w : World) : Ret Tryd.prog F.decl_narrow #[.int .i64 lo, .int .i64 hi] w fun v w' => v = .bool (Abs.narrow lo hi) ∧ w' = w := by
  refine K.start hmix E.decl_narrow (args := [_, _]) (Nat.le_of_ble_eq_true rfl) ?_
  dsimp only [C.decl_narrow,yt,yi,yb,yp,yr,ye,yc,yv,yg,ym,yw,ya,yl,yx,ys,yn]
  (repeat' first
    | (refine K.cond (fun _ => ?_) (fun _ => ?_) <;> try (exfalso; omega))
    | (refine K.condb (fun _ => ?_) (fun _ => ?_))
    | (refine K.wrap (by omega) ?_)
    | (refine K.ld (by assumption) ?_)
    | (refine K.ia (by omega) ?_)
    | simp -dsimp only [LL,B9,Nat.reduceAdd,Nat.reduceEqDiff,reduceIte,reduceCtorEq,Bool.false_eq_true])
  all_goals (refine ⟨?_, by first | rfl | trivial⟩; congr 1; rw [Bool.eq_iff_iff]; simp [Abs.narrow]; omega)
theorem size_at {k : Int} {l : List Abs.Scalar} (h1 : 1 ≤ k) (h2 : k ≤ l.length) : Abs.size k l = if 1 ≤ (l[k.toNat - 1]'(by omega)).size ∧ (l[k.toNat - 1]'(by omega)).size ≤ 4 then (l[k.toNat - 1]'(by omega)).size else 0 := by
  have e : (k - 1).toNat = k.toNat - 1 := by omega
  have hlt : k.toNat - 1 < l.length := by omega
  simp only [Abs.size, e, List.getElem?_eq_getElem hlt, h1, true_and]
theorem size_no {k : Int} {l : List Abs.Scalar} (h : k < 1 ∨ l.length < k) : Abs.size k l = 0 := by
  unfold Abs.size
  split
  · rename_i x hx
    rw [if_neg]
    rintro ⟨h1, _⟩
    have := (List.getElem?_eq_some_iff.1 hx).1
    omega
  · rfl
theorem size_r (k : Int) (v : Value) (l : List Abs.Scalar) (w : World) (hl : Abs.Scalars w v l) :
    Ret Tryd.prog F.decl_size #[.int .i64 k, v] w fun v w' => v = .tuple #[.int .i64 (Abs.size k l), .bool (decide (Abs.size k l ≠ 0))] ∧ w' = w := by
  obtain ⟨oa, cap, rfl, hlen⟩ := hl.form
  refine K.start hmix E.decl_size (args := [_, _]) (Nat.le_of_ble_eq_true rfl) ?_
  dsimp only [C.decl_size,yt,yi,yb,yp,yr,ye,yc,yv,yg,ym,yw,ya,yl,yx,ys,yn]
  simp -dsimp only [LL,B9,Nat.reduceAdd,Nat.reduceEqDiff,reduceIte,reduceCtorEq,Bool.false_eq_true]
  refine K.cond (fun h1 => ?_) (fun h1 => ?_)
  · simp -dsimp only [LL,B9,Nat.reduceAdd,Nat.reduceEqDiff,reduceIte,reduceCtorEq,Bool.false_eq_true]
    rw [size_no (.inl h1)]; exact ⟨rfl, trivial⟩
  simp -dsimp only [LL,B9,Nat.reduceAdd,Nat.reduceEqDiff,reduceIte,reduceCtorEq,Bool.false_eq_true]
  refine K.cond (fun h2 => ?_) (fun h2 => ?_)
  · simp -dsimp only [LL,B9,Nat.reduceAdd,Nat.reduceEqDiff,reduceIte,reduceCtorEq,Bool.false_eq_true]
    rw [size_no (.inr h2)]; exact ⟨rfl, trivial⟩
  simp -dsimp only [LL,B9,Nat.reduceAdd,Nat.reduceEqDiff,reduceIte,reduceCtorEq,Bool.false_eq_true]
  refine K.wrap (by omega) ?_
  simp -dsimp only [LL,B9,Nat.reduceAdd,Nat.reduceEqDiff,reduceIte,reduceCtorEq,Bool.false_eq_true]
  obtain ⟨a, rfl⟩ := hl.addr (by omega)
  have hc := (hl.at (k.toNat - 1) (by omega)).cells 1 _ rfl
  refine K.ian (k.toNat - 1) (by omega) (by omega) ?_
  simp -dsimp only [LL,B9,Nat.reduceAdd,Nat.reduceEqDiff,reduceIte,reduceCtorEq,Bool.false_eq_true]
  refine K.ld hc ?_
  rw [size_at (by omega) (by omega)]
  generalize l[k.toNat - 1].size = z at hc
  simp -dsimp only [LL,B9,Nat.reduceAdd,Nat.reduceEqDiff,reduceIte,reduceCtorEq,Bool.false_eq_true]
  refine K.cond (fun h3 => ?_) (fun h3 => ?_)
  · simp -dsimp only [LL,B9,Nat.reduceAdd,Nat.reduceEqDiff,reduceIte,reduceCtorEq,Bool.false_eq_true]
    rw [if_neg (by omega)]; exact ⟨rfl, trivial⟩
  simp -dsimp only [LL,B9,Nat.reduceAdd,Nat.reduceEqDiff,reduceIte,reduceCtorEq,Bool.false_eq_true]
  refine K.wrap (by omega) ?_
  simp -dsimp only [LL,B9,Nat.reduceAdd,Nat.reduceEqDiff,reduceIte,reduceCtorEq,Bool.false_eq_true]
  refine K.ian (k.toNat - 1) (by omega) (by omega) ?_
  simp -dsimp only [LL,B9,Nat.reduceAdd,Nat.reduceEqDiff,reduceIte,reduceCtorEq,Bool.false_eq_true]
  refine K.ld hc ?_
  simp -dsimp only [LL,B9,Nat.reduceAdd,Nat.reduceEqDiff,reduceIte,reduceCtorEq,Bool.false_eq_true]
  refine K.cond (fun h4 => ?_) (fun h4 => ?_)
  · simp -dsimp only [LL,B9,Nat.reduceAdd,Nat.reduceEqDiff,reduceIte,reduceCtorEq,Bool.false_eq_true]
    rw [if_neg (by omega)]; exact ⟨rfl, trivial⟩
  simp -dsimp only [LL,B9,Nat.reduceAdd,Nat.reduceEqDiff,reduceIte,reduceCtorEq,Bool.false_eq_true]
  refine K.wrap (by omega) ?_
  simp -dsimp only [LL,B9,Nat.reduceAdd,Nat.reduceEqDiff,reduceIte,reduceCtorEq,Bool.false_eq_true]
  refine K.ian (k.toNat - 1) (by omega) (by omega) ?_
  simp -dsimp only [LL,B9,Nat.reduceAdd,Nat.reduceEqDiff,reduceIte,reduceCtorEq,Bool.false_eq_true]
  refine K.ld hc ?_
  simp -dsimp only [LL,B9,Nat.reduceAdd,Nat.reduceEqDiff,reduceIte,reduceCtorEq,Bool.false_eq_true]
  rw [if_pos (by omega)]
  refine ⟨?_, by trivial⟩
  have : z ≠ 0 := by omega
  simp [this]
theorem there_r (k : Int) (v : Value) (l : List Abs.Scalar) (w : World) (hl : Abs.Scalars w v l) :
    Ret Tryd.prog F.decl_there #[.int .i64 k, v] w fun v w' => v = .bool (Abs.there k l) ∧ w' = w := by
  refine K.start hmix E.decl_there (args := [_, _]) (Nat.le_of_ble_eq_true rfl) ?_
  dsimp only [C.decl_there,yt,yi,yb,yp,yr,ye,yc,yv,yg,ym,yw,ya,yl,yx,ys,yn]
  simp -dsimp only [LL,B9,Nat.reduceAdd,Nat.reduceEqDiff,reduceIte,reduceCtorEq,Bool.false_eq_true]
  refine K.call (size_r k v l w hl) ?_
  rintro _ _ ⟨rfl, rfl⟩
  simp -dsimp only [LL,B9,Nat.reduceAdd,Nat.reduceEqDiff,reduceIte,reduceCtorEq,Bool.false_eq_true]
  refine K.cond (fun h1 => ?_) (fun h1 => ?_)
  · simp -dsimp only [LL,B9,Nat.reduceAdd,Nat.reduceEqDiff,reduceIte,reduceCtorEq,Bool.false_eq_true]
    refine ⟨?_, by trivial⟩; simp [Abs.there, h1]
  · simp -dsimp only [LL,B9,Nat.reduceAdd,Nat.reduceEqDiff,reduceIte,reduceCtorEq,Bool.false_eq_true]
    refine ⟨?_, by trivial⟩; simp [Abs.there, h1]

def seen (l : List ByteArray) : List (ByteArray × Value) := l.map fun x => (x, .bool true)
theorem seen_find (l : List ByteArray) (x : ByteArray) : ((seen l).find? (fun p => decide (x = p.1))).map (·.2) = if x ∈ l then some (.bool true) else none := by
  induction l with
  | nil => rfl
  | cons y l ih =>
    simp only [seen, List.map_cons, List.find?_cons, List.mem_cons]
    by_cases h : x = y
    · simp [h]
    · simp only [h, decide_false, false_or]
      exact ih
set_option maxHeartbeats 2000000 in
theorem named_r (n most : Int) (hn : 0 ≤ n ∧ n ≤ 9223372036854775807) (nm : Nat → ByteArray) (mo : Nat → Int) (f1 f2 : FuncId) (c1 c2 : List Value) (hf1 : okF Tryd.prog f1 = true) (hf2 : okF Tryd.prog f2 = true) (w : World) (ho : OwnIs w)
    (hnm : ∀ i : Nat, i < n → Abs.strOk (nm i))
    (k1 : ∀ (i : Nat) (w' : World), i < n → Ext w w' → Ret Tryd.prog f1 (.int .i64 i :: c1).toArray w' fun v w'' => v = .string (nm i) ∧ Ext w' w'')
    (k2 : ∀ (i : Nat) (w' : World), i < n → Ext w w' → Ret Tryd.prog f2 (.int .i64 i :: c2).toArray w' fun v w'' => v = .int .i64 (mo i) ∧ Ext w' w'') :
    Ret Tryd.prog F.decl_named #[.int .i64 n, .int .i64 most, .func (.func f1) #[] c1.toArray, .func (.func f2) #[] c2.toArray] w
      fun v w' => v = .tuple #[.int .i64 (Abs.first n.toNat (Abs.err most nm mo)).1, .int .i64 (Abs.first n.toNat (Abs.err most nm mo)).2] ∧ Ext w w' := by
  refine K.start hmix E.decl_named (args := [_, _, _, _]) (Nat.le_of_ble_eq_true rfl) ?_
  dsimp only [C.decl_named,yt,yi,yb,yp,yr,ye,yc,yv,yg,ym,yw,ya,yl,yx,ys,yn]
  simp -dsimp only [LL,B9,Nat.reduceAdd,Nat.reduceEqDiff,reduceIte,reduceCtorEq,Bool.false_eq_true]
  refine K.newM fun w1 b hb he1 hm1 => ?_
  simp -dsimp only [LL,B9,Nat.reduceAdd,Nat.reduceEqDiff,reduceIte,reduceCtorEq,Bool.false_eq_true]
  refine K.loop (fun S w' => ∃ i : Nat, i ≤ n ∧ S 16 = .int .i64 i ∧ (∀ j, j < i → Abs.err most nm mo j = 0) ∧ Ext w w' ∧
      ∃ es c, w'.heap[b]? = some (.map es c) ∧ KV Value.string es.toList (seen ((List.range i).map nm)))
    (fun S _ => (n - intOf (S 16)).toNat) ⟨0, by omega, by simp -dsimp only [LL,B9,Nat.reduceAdd,Nat.reduceEqDiff,reduceIte,reduceCtorEq,Bool.false_eq_true]; rfl, fun _ h => absurd h (Nat.not_lt_zero _), he1, _, _, hm1, rfl⟩ ?_
  rintro S w2 hS ⟨i, hi, h16, hz, he, es, c, hm, hkv⟩
  have h0 := hS 0 rfl; have h1 := hS 1 rfl; have h2 := hS 2 rfl; have h3 := hS 3 rfl; have h10 := hS 10 rfl; have h15 := hS 15 rfl; simp only [upd_at, Nat.reduceAdd, Nat.reduceEqDiff, reduceIte, fr0_cons, fr0_nil] at h0 h1 h2 h3 h10 h15; clear hS
  simp -dsimp only [LL,B9,Nat.reduceAdd,Nat.reduceEqDiff,reduceIte,reduceCtorEq,Bool.false_eq_true,h0, h1, h2, h3, h10, h15, h16]
  refine K.cond (fun hlt => ?_) (fun hge => ?_)
  rotate_left
  · simp -dsimp only [LL,B9,Nat.reduceAdd,Nat.reduceEqDiff,reduceIte,reduceCtorEq,Bool.false_eq_true]
    refine ⟨?_, he⟩
    rw [Abs.first_none fun j hj => hz j (by omega)]
  have stop : ∀ e : Int, Abs.err most nm mo i = e → e ≠ 0 → Abs.first n.toNat (Abs.err most nm mo) = ((i : Int), e) := fun e h hne => by
    rw [Abs.first_stop (by omega) hz (by rw [h]; exact hne), h]
  simp -dsimp only [LL,B9,Nat.reduceAdd,Nat.reduceEqDiff,reduceIte,reduceCtorEq,Bool.false_eq_true,h0, h1, h2, h3, h10, h15, h16]
  refine K.callV (first := []) hf1 (k1 i w2 hlt he) ?_
  rintro _ w3 ⟨rfl, he3⟩
  simp -dsimp only [LL,B9,Nat.reduceAdd,Nat.reduceEqDiff,reduceIte,reduceCtorEq,Bool.false_eq_true,h0, h1, h2, h3, h10, h15, h16]
  refine K.cond (fun ha => ?_) (fun ha => ?_)
  · simp -dsimp only [LL,B9,Nat.reduceAdd,Nat.reduceEqDiff,reduceIte,reduceCtorEq,Bool.false_eq_true,h0, h1, h2, h3, h10, h15, h16]
    refine K.cond (fun h => absurd h (by decide)) (fun _ => ?_)
    simp -dsimp only [LL,B9,Nat.reduceAdd,Nat.reduceEqDiff,reduceIte,reduceCtorEq,Bool.false_eq_true]
    rw [stop 11 (by simp [Abs.err, ha]) (by decide)]
    exact ⟨rfl, he.trans he3⟩
  simp -dsimp only [LL,B9,Nat.reduceAdd,Nat.reduceEqDiff,reduceIte,reduceCtorEq,Bool.false_eq_true,h0, h1, h2, h3, h10, h15, h16]
  refine K.call (name_r (nm i) w3 (ho.ext (he.trans he3)) (hnm i hlt)) ?_
  rintro _ w4 ⟨rfl, he4⟩
  simp -dsimp only [LL,B9,Nat.reduceAdd,Nat.reduceEqDiff,reduceIte,reduceCtorEq,Bool.false_eq_true,h0, h1, h2, h3, h10, h15, h16]
  refine K.condb (fun hn1 => ?_) (fun hn1 => ?_)
  rotate_left
  · simp -dsimp only [LL,B9,Nat.reduceAdd,Nat.reduceEqDiff,reduceIte,reduceCtorEq,Bool.false_eq_true,h0, h1, h2, h3, h10, h15, h16]
    refine K.cond (fun h => absurd h (by decide)) (fun _ => ?_)
    simp -dsimp only [LL,B9,Nat.reduceAdd,Nat.reduceEqDiff,reduceIte,reduceCtorEq,Bool.false_eq_true]
    rw [stop 6 (by simp [Abs.err, ha, hn1]) (by decide)]
    exact ⟨rfl, (he.trans he3).trans he4⟩
  simp -dsimp only [LL,B9,Nat.reduceAdd,Nat.reduceEqDiff,reduceIte,reduceCtorEq,Bool.false_eq_true,h0, h1, h2, h3, h10, h15, h16]
  have hm4 : w4.heap[b]? = some (.map es c) := he4.obj (he3.obj hm)
  obtain ⟨r, hr1, hr2⟩ := findNow_kv same_str (nm i) es.toList _ 0 hkv
  rw [seen_find] at hr2
  refine K.lkp (.inr ⟨b, c, rfl, hm4⟩) hr1 ?_
  have hmem : nm i ∈ (List.range i).map nm ↔ ∃ j, j < i ∧ nm j = nm i := by simp
  by_cases hin : ∃ j, j < i ∧ nm j = nm i
  · rw [if_pos (hmem.2 hin)] at hr2
    have hv : lkpV (.bool false) false r = .bool true := by simp [lkpV, hr2]
    rw [hv]
    simp -dsimp only [LL,B9,Nat.reduceAdd,Nat.reduceEqDiff,reduceIte,reduceCtorEq,Bool.false_eq_true,h0, h1, h2, h3, h10, h15, h16]
    refine K.cond (fun h => absurd h (by decide)) (fun _ => ?_)
    simp -dsimp only [LL,B9,Nat.reduceAdd,Nat.reduceEqDiff,reduceIte,reduceCtorEq,Bool.false_eq_true]
    rw [stop 7 (by simp [Abs.err, ha, hn1, hin]) (by decide)]
    exact ⟨rfl, (he.trans he3).trans he4⟩
  rw [if_neg (fun h => hin (hmem.1 h))] at hr2
  have hr0 : r = none := by cases r <;> simp at hr2 ⊢
  subst hr0
  have hv : lkpV (.bool false) false none = .bool false := rfl
  rw [hv]
  simp -dsimp only [LL,B9,Nat.reduceAdd,Nat.reduceEqDiff,reduceIte,reduceCtorEq,Bool.false_eq_true,h0, h1, h2, h3, h10, h15, h16]
  refine K.callV (first := []) hf2 (k2 i w4 hlt ((he.trans he3).trans he4)) ?_
  rintro _ w5 ⟨rfl, he5⟩
  have herr : Abs.err most nm mo i = mo i := by simp [Abs.err, ha, hn1, hin]
  simp -dsimp only [LL,B9,Nat.reduceAdd,Nat.reduceEqDiff,reduceIte,reduceCtorEq,Bool.false_eq_true,h0, h1, h2, h3, h10, h15, h16]
  refine K.cond (fun h => ?_) (fun h => ?_)
  rotate_left
  · simp -dsimp only [LL,B9,Nat.reduceAdd,Nat.reduceEqDiff,reduceIte,reduceCtorEq,Bool.false_eq_true]
    rw [stop (mo i) herr h]
    exact ⟨rfl, ((he.trans he3).trans he4).trans he5⟩
  simp -dsimp only [LL,B9,Nat.reduceAdd,Nat.reduceEqDiff,reduceIte,reduceCtorEq,Bool.false_eq_true,h0, h1, h2, h3, h10, h15, h16]
  have hm5 := he5.obj hm4
  refine K.mup hm5 hr1 ?_
  have hs : (setO w5 b (mupO es c (.string (nm i)) (.bool true) none)).heap[b]? = some (mupO es c (.string (nm i)) (.bool true) none) := setO_same (lt_of_heap hm5)
  have he6 : Ext w (setO w5 b (mupO es c (.string (nm i)) (.bool true) none)) := (((he.trans he3).trans he4).trans he5).setO hb _
  generalize setO w5 b (mupO es c (.string (nm i)) (.bool true) none) = w6 at hs he6
  simp -dsimp only [LL,B9,Nat.reduceAdd,Nat.reduceEqDiff,reduceIte,reduceCtorEq,Bool.false_eq_true,h0, h1, h2, h3, h10, h15, h16]
  refine K.wrap (by omega) ?_
  simp -dsimp only [LL,B9,Nat.reduceAdd,Nat.reduceEqDiff,reduceIte,reduceCtorEq,Bool.false_eq_true,h0, h1, h2, h3, h10, h15, h16]
  refine ⟨⟨i + 1, by omega, rfl, fun j hj => ?_, he6, _, _, hs, ?_⟩, by simp [intOf]; omega⟩
  · by_cases h' : j < i
    · exact hz j h'
    · have : j = i := by omega
      subst this; rw [herr, h]
  · have := KV.push hkv (nm i) (.bool true) c
    simpa [seen, List.range_succ] using this
end Go.Proofs.YtbbaokmelkiemaaDoor
end
section
/- What the functions of decl compute: scalars, variables, channels. -/
set_option maxRecDepth 4000
set_option linter.unusedSimpArgs false
set_option maxHeartbeats 1000000
namespace Go.Proofs.YtbbaokmelkiemaaDoor
open Go Go.RowKit Lite

theorem nameAt_lt {α : Type} (f : α → ByteArray) (l : List α) (i : Nat) (h : i < l.length) : Abs.nameAt f l i = f l[i] := by simp [Abs.nameAt, h]
theorem bounds_r (x : Abs.Var) (v : Value) (l : List Abs.Scalar) (w : World) (hl : Abs.Scalars w v l) :
    Ret Tryd.prog F.decl_Bounds #[.agg x.enc.toArray, v] w fun v w' => v = .tuple #[.int .i64 (Abs.bounds x l).1, .int .i64 (Abs.bounds x l).2] ∧ Ext w w' := by
  obtain ⟨oa, cap, rfl, hlen⟩ := hl.form
  refine K.start hmix E.decl_Bounds (args := [_, _]) (Nat.le_of_ble_eq_true rfl) ?_
  dsimp only [C.decl_Bounds,yt,yi,yb,yp,yr,ye,yc,yv,yg,ym,yw,ya,yl,yx,ys,yn]
  simp -dsimp only [LL,B9,Nat.reduceAdd,Nat.reduceEqDiff,reduceIte,reduceCtorEq,Bool.false_eq_true]
  refine K.new fun w1 b hb he1 hc1 => ?_
  have c1 : w1.cell? (Addr.add ⟨b, 0, none⟩ 1) = some (.int .i64 x.scalar) := cell_blk hc1 rfl
  have c3 : w1.cell? (Addr.add ⟨b, 0, none⟩ 3) = some (.int .i64 x.lo) := cell_blk hc1 rfl
  have c4 : w1.cell? (Addr.add ⟨b, 0, none⟩ 4) = some (.int .i64 x.hi) := cell_blk hc1 rfl
  simp -dsimp only [LL,B9,Nat.reduceAdd,Nat.reduceEqDiff,reduceIte,reduceCtorEq,Bool.false_eq_true]
  refine K.ld c1 ?_
  simp -dsimp only [LL,B9,Nat.reduceAdd,Nat.reduceEqDiff,reduceIte,reduceCtorEq,Bool.false_eq_true]
  refine K.cond (fun h1 => ?_) (fun h1 => ?_)
  · simp -dsimp only [LL,B9,Nat.reduceAdd,Nat.reduceEqDiff,reduceIte,reduceCtorEq,Bool.false_eq_true]
    refine K.ld c3 ?_
    simp -dsimp only [LL,B9,Nat.reduceAdd,Nat.reduceEqDiff,reduceIte,reduceCtorEq,Bool.false_eq_true]
    refine K.ld c4 ?_
    simp -dsimp only [LL,B9,Nat.reduceAdd,Nat.reduceEqDiff,reduceIte,reduceCtorEq,Bool.false_eq_true]
    intro w2 he2
    simp only [Abs.bounds, h1, if_true]
    exact ⟨trivial, he1.trans he2⟩
  · simp -dsimp only [LL,B9,Nat.reduceAdd,Nat.reduceEqDiff,reduceIte,reduceCtorEq,Bool.false_eq_true]
    refine K.ld c1 ?_
    simp -dsimp only [LL,B9,Nat.reduceAdd,Nat.reduceEqDiff,reduceIte,reduceCtorEq,Bool.false_eq_true]
    refine K.call (size_r x.scalar _ l w1 (SlR.ext Abs.RScalar.ext he1 hl)) ?_
    rintro _ _ ⟨rfl, rfl⟩
    simp -dsimp only [LL,B9,Nat.reduceAdd,Nat.reduceEqDiff,reduceIte,reduceCtorEq,Bool.false_eq_true]
    simp only [Abs.bounds, h1, if_false]
    exact ⟨trivial, he1⟩
theorem vars1_r (i : Nat) (b : Nat) (v : Value) (l : List Abs.Var) (w : World) (hl : Abs.Vars w v l) (hb : w.cell? ⟨b, 0, none⟩ = some v) (hi : i < l.length) :
    Ret Tryd.prog F.decl_Vars_1 #[.int .i64 i, .pointer (some ⟨b, 0, none⟩)] w fun v w' => v = .string (Abs.nameAt (·.name) l i) ∧ Ext w w' := by
  obtain ⟨oa, cap, rfl, hlen⟩ := hl.form
  refine K.start hmix E.decl_Vars_1 (args := [_, _]) (Nat.le_of_ble_eq_true rfl) ?_
  dsimp only [C.decl_Vars_1,yt,yi,yb,yp,yr,ye,yc,yv,yg,ym,yw,ya,yl,yx,ys,yn]
  simp -dsimp only [LL,B9,Nat.reduceAdd,Nat.reduceEqDiff,reduceIte,reduceCtorEq,Bool.false_eq_true]
  refine K.ld hb ?_
  simp -dsimp only [LL,B9,Nat.reduceAdd,Nat.reduceEqDiff,reduceIte,reduceCtorEq,Bool.false_eq_true]
  obtain ⟨a, rfl⟩ := hl.addr (by omega)
  have hc := (hl.at i hi).cells 0 _ rfl
  refine K.ian i rfl hi ?_
  simp -dsimp only [LL,B9,Nat.reduceAdd,Nat.reduceEqDiff,reduceIte,reduceCtorEq,Bool.false_eq_true]
  refine K.ld hc ?_
  simp -dsimp only [LL,B9,Nat.reduceAdd,Nat.reduceEqDiff,reduceIte,reduceCtorEq,Bool.false_eq_true]
  rw [nameAt_lt _ _ _ hi]
  exact ⟨rfl, Ext.refl w⟩
theorem vars2_r (i : Nat) (b b2 : Nat) (v v2 : Value) (l : List Abs.Var) (s : List Abs.Scalar) (w : World) (hl : Abs.Vars w v l) (hs : Abs.Scalars w v2 s) (hb : w.cell? ⟨b, 0, none⟩ = some v) (hb2 : w.cell? ⟨b2, 0, none⟩ = some v2)
    (hi : i < l.length) : Ret Tryd.prog F.decl_Vars_2 #[.int .i64 i, .pointer (some ⟨b, 0, none⟩), .pointer (some ⟨b2, 0, none⟩)] w fun v w' => v = .int .i64 (Abs.varErr l s i) ∧ Ext w w' := by
  obtain ⟨oa, cap, rfl, hlen⟩ := hl.form
  obtain ⟨ob, cap2, rfl, hlen2⟩ := hs.form
  refine K.start hmix E.decl_Vars_2 (args := [_, _, _]) (Nat.le_of_ble_eq_true rfl) ?_
  dsimp only [C.decl_Vars_2,yt,yi,yb,yp,yr,ye,yc,yv,yg,ym,yw,ya,yl,yx,ys,yn]
  simp -dsimp only [LL,B9,Nat.reduceAdd,Nat.reduceEqDiff,reduceIte,reduceCtorEq,Bool.false_eq_true]
  refine K.ld hb ?_
  simp -dsimp only [LL,B9,Nat.reduceAdd,Nat.reduceEqDiff,reduceIte,reduceCtorEq,Bool.false_eq_true]
  obtain ⟨a, rfl⟩ := hl.addr (by omega)
  have hc := (hl.at i hi).cells
  have hr : Abs.varErr l s i = if Abs.there l[i].scalar s = false ∨ Abs.there l[i].over s = false then 8
    else if (l[i].scalar = 0 ∧ Abs.narrow l[i].lo l[i].hi = false) ∨ l[i].init < (Abs.bounds l[i] s).1 ∨ l[i].init > (Abs.bounds l[i] s).2 then 10 else 0 := by simp [Abs.varErr, hi]
  rw [hr]
  clear hr
  generalize l[i] = x at hc
  refine K.ian i rfl hi ?_
  simp -dsimp only [LL,B9,Nat.reduceAdd,Nat.reduceEqDiff,reduceIte,reduceCtorEq,Bool.false_eq_true]
  refine K.ldA hc rfl ?_
  simp -dsimp only [LL,B9,Nat.reduceAdd,Nat.reduceEqDiff,reduceIte,reduceCtorEq,Bool.false_eq_true]
  refine K.new fun w1 q hq he1 hc1 => ?_
  simp -dsimp only [LL,B9,Nat.reduceAdd,Nat.reduceEqDiff,reduceIte,reduceCtorEq,Bool.false_eq_true]
  refine K.stAb hc1 rfl rfl (by simp [Abs.Var.enc, Value.oneCell']) fun w2 hw hc2 => ?_
  have he2 : Ext w w2 := hw.ext he1 hq
  clear hw hc1 he1 w1
  have c1 : w2.cell? (Addr.add ⟨q, 0, none⟩ 1) = some (.int .i64 x.scalar) := cell_blk hc2 rfl
  have c2 : w2.cell? (Addr.add ⟨q, 0, none⟩ 2) = some (.int .i64 x.over) := cell_blk hc2 rfl
  have c5 : w2.cell? (Addr.add ⟨q, 0, none⟩ 5) = some (.int .i64 x.init) := cell_blk hc2 rfl
  have d2 := he2.cell hb2
  have hs2 := SlR.ext Abs.RScalar.ext he2 hs
  simp -dsimp only [LL,B9,Nat.reduceAdd,Nat.reduceEqDiff,reduceIte,reduceCtorEq,Bool.false_eq_true]
  refine K.ld c1 ?_
  simp -dsimp only [LL,B9,Nat.reduceAdd,Nat.reduceEqDiff,reduceIte,reduceCtorEq,Bool.false_eq_true]
  refine K.ld d2 ?_
  simp -dsimp only [LL,B9,Nat.reduceAdd,Nat.reduceEqDiff,reduceIte,reduceCtorEq,Bool.false_eq_true]
  refine K.call (there_r x.scalar _ s w2 hs2) ?_
  rintro _ _ ⟨rfl, rfl⟩
  simp -dsimp only [LL,B9,Nat.reduceAdd,Nat.reduceEqDiff,reduceIte,reduceCtorEq,Bool.false_eq_true]
  refine K.condb (fun h1 => ?_) (fun h1 => ?_)
  rotate_left
  · simp -dsimp only [LL,B9,Nat.reduceAdd,Nat.reduceEqDiff,reduceIte,reduceCtorEq,Bool.false_eq_true]
    simp only [h1, true_or, if_true]; exact ⟨trivial, he2⟩
  simp -dsimp only [LL,B9,Nat.reduceAdd,Nat.reduceEqDiff,reduceIte,reduceCtorEq,Bool.false_eq_true]
  refine K.ld c2 ?_
  simp -dsimp only [LL,B9,Nat.reduceAdd,Nat.reduceEqDiff,reduceIte,reduceCtorEq,Bool.false_eq_true]
  refine K.ld d2 ?_
  simp -dsimp only [LL,B9,Nat.reduceAdd,Nat.reduceEqDiff,reduceIte,reduceCtorEq,Bool.false_eq_true]
  refine K.call (there_r x.over _ s _ hs2) ?_
  rintro _ _ ⟨rfl, rfl⟩
  simp -dsimp only [LL,B9,Nat.reduceAdd,Nat.reduceEqDiff,reduceIte,reduceCtorEq,Bool.false_eq_true]
  refine K.condb (fun h2 => ?_) (fun h2 => ?_)
  rotate_left
  · simp -dsimp only [LL,B9,Nat.reduceAdd,Nat.reduceEqDiff,reduceIte,reduceCtorEq,Bool.false_eq_true]
    simp only [h2, or_true, if_true]; exact ⟨trivial, he2⟩
  simp -dsimp only [LL,B9,Nat.reduceAdd,Nat.reduceEqDiff,reduceIte,reduceCtorEq,Bool.false_eq_true]
  refine K.ldA (cellsAt_blk hc2) rfl ?_
  simp -dsimp only [LL,B9,Nat.reduceAdd,Nat.reduceEqDiff,reduceIte,reduceCtorEq,Bool.false_eq_true]
  refine K.ld d2 ?_
  simp -dsimp only [LL,B9,Nat.reduceAdd,Nat.reduceEqDiff,reduceIte,reduceCtorEq,Bool.false_eq_true]
  refine K.call (bounds_r x _ s _ hs2) ?_
  rintro _ w3 ⟨rfl, he3⟩
  rename_i w2'
  have e1 := he3.cell c1
  have e5 := he3.cell c5
  have he := he2.trans he3
  simp -dsimp only [LL,B9,Nat.reduceAdd,Nat.reduceEqDiff,reduceIte,reduceCtorEq,Bool.false_eq_true]
  refine K.ld e1 ?_
  have hA : ¬ (Abs.there x.scalar s = false ∨ Abs.there x.over s = false) := by simp [h1, h2]
  simp -dsimp only [LL,B9,Nat.reduceAdd,Nat.reduceEqDiff,reduceIte,reduceCtorEq,Bool.false_eq_true]
  refine K.cond (fun h3 => ?_) (fun h3 => ?_)
  · simp -dsimp only [LL,B9,Nat.reduceAdd,Nat.reduceEqDiff,reduceIte,reduceCtorEq,Bool.false_eq_true]
    have hbd : Abs.bounds x s = (x.lo, x.hi) := by simp [Abs.bounds, h3]
    rw [hbd]
    refine K.call (narrow_r x.lo x.hi w3) ?_
    rintro _ _ ⟨rfl, rfl⟩
    simp -dsimp only [LL,B9,Nat.reduceAdd,Nat.reduceEqDiff,reduceIte,reduceCtorEq,Bool.false_eq_true]
    refine K.condb (fun h4 => ?_) (fun h4 => ?_)
    rotate_left
    · simp -dsimp only [LL,B9,Nat.reduceAdd,Nat.reduceEqDiff,reduceIte,reduceCtorEq,Bool.false_eq_true]
      rw [if_neg hA, if_pos (.inl ⟨h3, h4⟩)]; exact ⟨rfl, he⟩
    simp -dsimp only [LL,B9,Nat.reduceAdd,Nat.reduceEqDiff,reduceIte,reduceCtorEq,Bool.false_eq_true]
    refine K.ld e5 ?_
    simp -dsimp only [LL,B9,Nat.reduceAdd,Nat.reduceEqDiff,reduceIte,reduceCtorEq,Bool.false_eq_true]
    refine K.cond (fun h5 => ?_) (fun h5 => ?_)
    · simp -dsimp only [LL,B9,Nat.reduceAdd,Nat.reduceEqDiff,reduceIte,reduceCtorEq,Bool.false_eq_true]
      rw [if_neg hA, if_pos (.inr (.inl h5))]; exact ⟨rfl, he⟩
    simp -dsimp only [LL,B9,Nat.reduceAdd,Nat.reduceEqDiff,reduceIte,reduceCtorEq,Bool.false_eq_true]
    refine K.ld e5 ?_
    simp -dsimp only [LL,B9,Nat.reduceAdd,Nat.reduceEqDiff,reduceIte,reduceCtorEq,Bool.false_eq_true]
    refine K.cond (fun h6 => ?_) (fun h6 => ?_)
    · simp -dsimp only [LL,B9,Nat.reduceAdd,Nat.reduceEqDiff,reduceIte,reduceCtorEq,Bool.false_eq_true]
      rw [if_neg hA, if_pos (.inr (.inr h6))]; exact ⟨rfl, he⟩
    · simp -dsimp only [LL,B9,Nat.reduceAdd,Nat.reduceEqDiff,reduceIte,reduceCtorEq,Bool.false_eq_true]
      rw [if_neg hA, if_neg (by rw [h4]; simp; omega)]; exact ⟨rfl, he⟩
  · simp -dsimp only [LL,B9,Nat.reduceAdd,Nat.reduceEqDiff,reduceIte,reduceCtorEq,Bool.false_eq_true]
    refine K.ld e5 ?_
    simp -dsimp only [LL,B9,Nat.reduceAdd,Nat.reduceEqDiff,reduceIte,reduceCtorEq,Bool.false_eq_true]
    refine K.cond (fun h5 => ?_) (fun h5 => ?_)
    · simp -dsimp only [LL,B9,Nat.reduceAdd,Nat.reduceEqDiff,reduceIte,reduceCtorEq,Bool.false_eq_true]
      rw [if_neg hA, if_pos (.inr (.inl h5))]; exact ⟨rfl, he⟩
    simp -dsimp only [LL,B9,Nat.reduceAdd,Nat.reduceEqDiff,reduceIte,reduceCtorEq,Bool.false_eq_true]
    refine K.ld e5 ?_
    simp -dsimp only [LL,B9,Nat.reduceAdd,Nat.reduceEqDiff,reduceIte,reduceCtorEq,Bool.false_eq_true]
    refine K.cond (fun h6 => ?_) (fun h6 => ?_)
    · simp -dsimp only [LL,B9,Nat.reduceAdd,Nat.reduceEqDiff,reduceIte,reduceCtorEq,Bool.false_eq_true]
      rw [if_neg hA, if_pos (.inr (.inr h6))]; exact ⟨rfl, he⟩
    · simp -dsimp only [LL,B9,Nat.reduceAdd,Nat.reduceEqDiff,reduceIte,reduceCtorEq,Bool.false_eq_true]
      rw [if_neg hA, if_neg (by simp [h3]; omega)]; exact ⟨rfl, he⟩
theorem vars_r (v v2 : Value) (l : List Abs.Var) (s : List Abs.Scalar) (most : Int) (w : World) (ho : OwnIs w) (hl : Abs.Vars w v l) (hs : Abs.Scalars w v2 s) :
    Ret Tryd.prog F.decl_Vars #[v, v2, .int .i64 most] w fun v w' => v = .tuple #[.int .i64 (Abs.vars l s most).1, .int .i64 (Abs.vars l s most).2] ∧ Ext w w' := by
  obtain ⟨oa, cap, rfl, hlen⟩ := hl.form
  obtain ⟨ob, cap2, rfl, hlen2⟩ := hs.form
  refine K.start hmix E.decl_Vars (args := [_, _, _]) (Nat.le_of_ble_eq_true rfl) ?_
  dsimp only [C.decl_Vars,yt,yi,yb,yp,yr,ye,yc,yv,yg,ym,yw,ya,yl,yx,ys,yn]
  simp -dsimp only [LL,B9,Nat.reduceAdd,Nat.reduceEqDiff,reduceIte,reduceCtorEq,Bool.false_eq_true]
  refine K.new fun w1 b hb he1 hc1 => ?_
  simp -dsimp only [LL,B9,Nat.reduceAdd,Nat.reduceEqDiff,reduceIte,reduceCtorEq,Bool.false_eq_true]
  refine K.new fun w2 b2 hb2 he2 hc2 => ?_
  have he := he1.trans he2
  have hl1 := SlR.ext Abs.RVar.ext he hl
  have hs1 := SlR.ext Abs.RScalar.ext he hs
  have d1 : w2.cell? ⟨b, 0, none⟩ = some (.slice oa l.length cap) := cell_blk0 (he2.obj hc1) rfl
  have d2 : w2.cell? ⟨b2, 0, none⟩ = some (.slice ob s.length cap2) := cell_blk0 hc2 rfl
  simp -dsimp only [LL,B9,Nat.reduceAdd,Nat.reduceEqDiff,reduceIte,reduceCtorEq,Bool.false_eq_true]
  refine K.ld d1 ?_
  simp -dsimp only [LL,B9,Nat.reduceAdd,Nat.reduceEqDiff,reduceIte,reduceCtorEq,Bool.false_eq_true]
  refine K.call (named_r l.length (max most 0) (by omega) (Abs.nameAt (·.name) l) (Abs.varErr l s) F.decl_Vars_1 F.decl_Vars_2 [_] [_, _] (by kernel_rfl) (by kernel_rfl) w2 (ho.ext he)
    (fun i hi => by rw [nameAt_lt _ _ _ (by omega)]; obtain ⟨a, rfl⟩ := hl.addr (by omega); exact (hl.at i (by omega)).ok)
    (fun i w' hi he => vars1_r i b _ l w' (SlR.ext Abs.RVar.ext he hl1) (he.cell d1) (by omega))
    (fun i w' hi he => vars2_r i b b2 _ _ l s w' (SlR.ext Abs.RVar.ext he hl1) (SlR.ext Abs.RScalar.ext he hs1) (he.cell d1) (he.cell d2) (by omega))) ?_
  rintro _ w3 ⟨rfl, he3⟩
  simp -dsimp only [LL,B9,Nat.reduceAdd,Nat.reduceEqDiff,reduceIte,reduceCtorEq,Bool.false_eq_true]
  exact ⟨rfl, he.trans he3⟩
end Go.Proofs.YtbbaokmelkiemaaDoor
end
section
/- Processes: what one must be. -/
set_option maxRecDepth 4000
set_option maxHeartbeats 3200000
namespace Abs
theorem localsE_drop {s : Scope} {l : List Var} {k : Nat} (h : k < l.length) : localsE s (l.drop k) k = if l[k].over ≠ 0 then ((k : Int), 9) else if s.vars.any (fun x => decide (x.name = l[k].name)) then ((k : Int), 7) else localsE s (l.drop (k + 1)) (k + 1) := by
  rw [List.drop_eq_getElem_cons h]; rfl
theorem cmdsE_drop {own : Scope} {locs : Int} {all l : List Cmd} {k : Nat} (h : k < l.length) : cmdsE own locs all (l.drop k) k = if (cmdCheck l[k] locs own).2 ≠ 0 then (2 + (k : Int), (cmdCheck l[k] locs own).1, (cmdCheck l[k] locs own).2)
    else if (all.take k).any (fun x => decide (x.name = l[k].name)) then (2 + (k : Int), 0, 7) else cmdsE own locs all (l.drop (k + 1)) (k + 1) := by
  rw [List.drop_eq_getElem_cons h]; rfl
end Abs
namespace Go.Proofs.YtbbaokmelkiemaaDoor
open Go Go.RowKit Lite
theorem whole_r (p : Abs.Proc) (o3 o4 : Option Addr) (n3 c3 c4 : Nat) (cs : List Value) (s : Abs.Scope) (w : World) (ho : OwnIs w) (hn : Abs.strOk p.name) (h : Abs.ScopeIs w cs s) :
    Ret Tryd.prog F.proc_whole #[.agg (p.enc (.slice o3 n3 c3) (.slice o4 p.cmds.length c4)).toArray, .agg cs.toArray] w fun v w' => v = .int .i64 (Abs.whole p s) ∧ Ext w w' := by
  obtain ⟨a0, c0, a1, c1, a2, c2, a3, d3, a4, d4, rfl, h0, h1, h2, h3, h4, l0, l1, l2, l3, l4⟩ := h.form
  refine K.start hmix E.proc_whole (args := [_, _]) (Nat.le_of_ble_eq_true rfl) ?_; dsimp only [C.proc_whole,yt,yi,yb,yp,yr,ye,yc,yv,yg,ym,yw,ya,yl,yx,ys,yn]
  refine Sg ?_
  intro w1 b1 hb1 he1 hc1
  refine Sg ?_
  intro w2 b2 hb2 he2 hc2
  have E2 : ∀ {w'}, Ext w2 w' → Ext w w' := fun e => (he1.trans he2).trans e
  have hc1 := he2.obj hc1
  refine Sg ?_
  refine K.call (name_r p.name w2 (ho.ext (E2 (Ext.refl _))) hn) ?_
  rintro _ w3 ⟨rfl, he3⟩
  have hc1 := he3.obj hc1
  have hc2 := he3.obj hc2
  rw [Abs.whole]
  refine Sg ?_
  refine K.condb (fun g1 => ?_) (fun g1 => ?_)
  rotate_left
  · refine Sg ?_
    exact ⟨by rw [if_pos g1], E2 he3⟩
  rw [if_neg (by simp [g1])]
  refine Sg ?_
  refine K.cond (fun g2 => ?_) (fun g2 => ?_)
  · refine Sg ?_
    exact ⟨by rw [if_pos (.inl g2)], E2 he3⟩
  refine Sg ?_
  refine K.cond (fun g3 => ?_) (fun g3 => ?_)
  · refine Sg ?_
    exact ⟨by rw [if_pos (.inr (by omega))], E2 he3⟩
  rw [if_neg (by omega)]
  refine Sg ?_
  refine K.cond (fun g4 => ?_) (fun g4 => ?_)
  · refine Sg ?_
    exact ⟨by rw [if_pos (.inl g4)], E2 he3⟩
  refine Sg ?_
  refine K.cond (fun g5 => ?_) (fun g5 => ?_)
  · refine Sg ?_
    exact ⟨by rw [if_pos (.inr (by omega))], E2 he3⟩
  rw [if_neg (by omega)]
  refine Sg ?_
  refine K.cond (fun g6 => ?_) (fun g6 => ?_)
  · refine Sg ?_
    exact ⟨by rw [if_pos (by omega)], E2 he3⟩
  refine Sg ?_
  exact ⟨by rw [if_neg (by omega)], E2 he3⟩
theorem locals1_r (x v : Abs.Var) (b : Nat) (w : World) (hc : w.heap[b]? = some (.cells v.enc.toArray T.api_Var)) :
    Ret Tryd.prog F.proc_locals_1 #[.agg x.enc.toArray, .pointer (some ⟨b, 0, none⟩)] w fun u w' => u = .bool (decide (x.name = v.name)) ∧ Ext w w' := by
  refine K.start hmix E.proc_locals_1 (args := [_, _]) (Nat.le_of_ble_eq_true rfl) ?_; dsimp only [C.proc_locals_1,yt,yi,yb,yp,yr,ye,yc,yv,yg,ym,yw,ya,yl,yx,ys,yn]
  refine Sg ?_
  intro w1 b1 hb1 he1 hc1
  refine Sg ?_
  (refine ⟨?_, ?_⟩ <;> first | trivial | rfl | (repeat' first | assumption | exact Ext.refl _ | refine Ext.trans ?_ (by assumption)))
theorem check1_r (x c : Abs.Cmd) (o1 o2 o3 o4 : Option Addr) (n1 n2 n3 n4 c1 c2 c3 c4 : Nat) (b : Nat) (w : World) (hc : w.heap[b]? = some (.cells (c.enc (.slice o3 n3 c3) (.slice o4 n4 c4)).toArray T.api_Cmd)) :
    Ret Tryd.prog F.proc_Check_1 #[.agg (x.enc (.slice o1 n1 c1) (.slice o2 n2 c2)).toArray, .pointer (some ⟨b, 0, none⟩)] w fun u w' => u = .bool (decide (x.name = c.name)) ∧ Ext w w' := by
  refine K.start hmix E.proc_Check_1 (args := [_, _]) (Nat.le_of_ble_eq_true rfl) ?_; dsimp only [C.proc_Check_1,yt,yi,yb,yp,yr,ye,yc,yv,yg,ym,yw,ya,yl,yx,ys,yn]
  refine Sg ?_
  intro w1 b1 hb1 he1 hc1
  refine Sg ?_
  (refine ⟨?_, ?_⟩ <;> first | trivial | rfl | (repeat' first | assumption | exact Ext.refl _ | refine Ext.trans ?_ (by assumption)))
theorem locals_r (p : Abs.Proc) (o3 o4 : Option Addr) (c3 n4 c4 : Nat) (cs : List Value) (s : Abs.Scope) (w : World) (ho : OwnIs w) (hv : Abs.Vars w (.slice o3 p.vars.length c3) p.vars) (h : Abs.ScopeIs w cs s) :
    Ret Tryd.prog F.proc_locals #[.agg (p.enc (.slice o3 p.vars.length c3) (.slice o4 n4 c4)).toArray, .agg cs.toArray] w fun v w' => v = .tuple #[.int .i64 (Abs.plocals p s).1, .int .i64 (Abs.plocals p s).2] ∧ Ext w w' := by
  obtain ⟨a0, c0, a1, c1, a2, c2, a3, d3, a4, d4, rfl, h0, h1, h2, h3, h4, l0, l1, l2, l3, l4⟩ := h.form
  have lv : p.vars.length ≤ 9223372036854775807 := by have := (SlR.len hv).2; unfold maxLen at this; omega
  refine K.start hmix E.proc_locals (args := [_, _]) (Nat.le_of_ble_eq_true rfl) ?_; dsimp only [C.proc_locals,yt,yi,yb,yp,yr,ye,yc,yv,yg,ym,yw,ya,yl,yx,ys,yn]
  refine Sg ?_
  intro w1 b1 hb1 he1 hc1
  refine Sg ?_
  intro w2 b2 hb2 he2 hc2
  have E2 : ∀ {w'}, Ext w2 w' → Ext w w' := fun e => (he1.trans he2).trans e
  have hc1 := he2.obj hc1
  refine Sg ?_
  refine K.call (vars_r _ _ p.vars s.scalars 4 w2 (ho.ext (E2 (Ext.refl _))) (hv.ext (E2 (Ext.refl _))) (h0.ext (E2 (Ext.refl _)))) ?_
  rintro _ w3 ⟨rfl, he3⟩
  have hc1 := he3.obj hc1
  have hc2 := he3.obj hc2
  rw [Abs.plocals]
  refine Sg ?_
  refine K.cond (fun g1 => ?_) (fun g1 => ?_)
  rotate_left
  · refine Sg ?_
    exact ⟨by rw [if_pos g1], E2 he3⟩
  rw [if_neg (by simpa using g1)]
  have E3 : ∀ {w'}, Ext w3 w' → Ext w w' := fun e => E2 (he3.trans e)
  refine Sg ?_
  refine K.forG 25 p.vars.length [3, 23, 24] (fun _ => []) () (fun k _ w' => Ext w3 w' ∧ Abs.localsE s p.vars 0 = Abs.localsE s (p.vars.drop k) k) (by first | trivial | rfl | exact ⟨rfl, trivial⟩ | (simp -dsimp only [LL,slots_nil,slots_cons,keepV_nil,keepV_cons,has_nil,has_cons,Nat.reduceAdd,Nat.reduceEqDiff,reduceIte,and_self]; done) | (simp -dsimp only [LL,slots_nil,slots_cons,keepV_nil,keepV_cons,has_nil,has_cons,Nat.reduceAdd,Nat.reduceEqDiff,reduceIte,and_self]; exact ⟨rfl, trivial⟩)) (by first | trivial | rfl | exact ⟨rfl, trivial⟩ | (simp -dsimp only [LL,slots_nil,slots_cons,keepV_nil,keepV_cons,has_nil,has_cons,Nat.reduceAdd,Nat.reduceEqDiff,reduceIte,and_self]; done) | (simp -dsimp only [LL,slots_nil,slots_cons,keepV_nil,keepV_cons,has_nil,has_cons,Nat.reduceAdd,Nat.reduceEqDiff,reduceIte,and_self]; exact ⟨rfl, trivial⟩)) ⟨Ext.refl _, by simp⟩ ?_
  rintro k _ S w4 hk ⟨he4, hI⟩
  refine Sg ?_
  refine K.cond (fun g2 => ?_) (fun g2 => ?_)
  · have hk' : k < p.vars.length := by omega
    obtain ⟨a, rfl⟩ := hv.addr (by omega)
    replace hv := hv.ext (E3 (Ext.refl _))
    rw [Abs.localsE_drop hk'] at hI
    refine Sg ?_
    intro wN b9 hb9 heN hcN
    refine Sg ?_
    intro w5 hw5 hc5
    have he5 := hw5.ext heN hb9
    refine Sg ?_
    refine K.cond (fun g3 => ?_) (fun g3 => ?_)
    rotate_left
    · refine Sg ?_
      exact ⟨by rw [hI, if_pos g3], E3 (he4.trans he5)⟩
    rw [if_neg (by simpa using g3)] at hI
    refine Sg ?_
    refine K.call (containsFunc_r hmix E.slices_ContainsFunc_sl_api_Var_api_Var E.slices_IndexFunc_sl_api_Var_api_Var _ s.vars w5 (h1.ext (E3 (he4.trans he5))) F.proc_locals_1 (by kernel_rfl) [] [_] (fun x => decide (x.name = p.vars[k].name)) ?_) ?_
    · rintro i hi cs' w' e ⟨rfl, _⟩
      exact locals1_r _ _ b9 w' (e.obj hc5)
    rintro _ w6 ⟨rfl, he6⟩
    refine Sg ?_
    refine K.condb (fun g4 => ?_) (fun g4 => ?_)
    · refine Sg ?_
      exact ⟨by rw [hI, if_pos g4], E3 ((he4.trans he5).trans he6)⟩
    · refine Sg ?_
      exact ⟨hk', by first | trivial | rfl, (), trivial, (he4.trans he5).trans he6, by rw [hI, if_neg (by simp [g4])]⟩
  · refine Sg ?_
    exact ⟨by rw [hI, List.drop_eq_nil_of_le (by omega)]; rfl, E3 he4⟩
theorem pcheck_r (p : Abs.Proc) (pcs cs : List Value) (s : Abs.Scope) (w : World) (ho : OwnIs w) (hp : Abs.ProcIs w pcs p) (h : Abs.ScopeIs w cs s) (hg : s.good) (hpg : p.good) :
    Ret Tryd.prog F.proc_Check #[.agg pcs.toArray, .agg cs.toArray] w fun v w' => v = .tuple #[.int .i64 (Abs.procCheck p s).1, .int .i64 (Abs.procCheck p s).2.1, .int .i64 (Abs.procCheck p s).2.2] ∧ Ext w w' := by
  obtain ⟨a0, c0, a1, c1, a2, c2, a3, d3, a4, d4, rfl, h0, h1, h2, h3, h4, l0, l1, l2, l3, l4⟩ := h.form
  obtain ⟨hn, pv, pc, rfl, hv, hcm⟩ := hp
  obtain ⟨o3, c3, rfl, lv⟩ := hv.form
  obtain ⟨o4, c4, rfl, lc⟩ := hcm.form
  have hcb : p.cmds.length ≤ 140737488351232 := by have := hpg.cmds; unfold Abs.big at this; omega
  refine K.start hmix E.proc_Check (args := [_, _]) (Nat.le_of_ble_eq_true rfl) ?_; dsimp only [C.proc_Check,yt,yi,yb,yp,yr,ye,yc,yv,yg,ym,yw,ya,yl,yx,ys,yn]
  refine Sg ?_
  intro w1 b1 hb1 he1 hc1
  refine Sg ?_
  intro w2 b2 hb2 he2 hc2
  have E2 : ∀ {w'}, Ext w2 w' → Ext w w' := fun e => (he1.trans he2).trans e
  replace hc1 := he2.obj hc1
  refine Sg ?_
  refine K.call (whole_r p _ _ _ _ _ _ s w2 (ho.ext (E2 (Ext.refl _))) hn (h.ext (E2 (Ext.refl _)))) ?_
  rintro _ w3 ⟨rfl, he3⟩
  replace hc1 := he3.obj hc1
  replace hc2 := he3.obj hc2
  have E3 : ∀ {w'}, Ext w3 w' → Ext w w' := fun e => E2 (he3.trans e)
  rw [Abs.procCheck]
  refine Sg ?_
  refine K.cond (fun g1 => ?_) (fun g1 => ?_)
  rotate_left
  · refine Sg ?_
    exact ⟨by rw [if_pos g1], E3 (Ext.refl _)⟩
  rw [if_neg (by simpa using g1)]
  refine Sg ?_
  refine K.call (locals_r p _ _ _ _ _ _ s w3 (ho.ext (E3 (Ext.refl _))) (hv.ext (E3 (Ext.refl _))) (h.ext (E3 (Ext.refl _)))) ?_
  rintro _ w4 ⟨rfl, he4⟩
  replace hc1 := he4.obj hc1
  replace hc2 := he4.obj hc2
  have E4 : ∀ {w'}, Ext w4 w' → Ext w w' := fun e => E3 (he4.trans e)
  refine Sg ?_
  refine K.cond (fun g2 => ?_) (fun g2 => ?_)
  rotate_left
  · refine Sg ?_
    exact ⟨by rw [if_pos g2], E4 (Ext.refl _)⟩
  rw [if_neg (by simpa using g2)]
  refine Sg ?_
  refine K.call (inner_r p _ _ _ _ _ _ _ _ _ _ _ _ _ _ _ _ _ _ _ _ _ _ w4) ?_
  rintro _ w5 ⟨rfl, he5⟩
  replace hc1 := he5.obj hc1
  have E5 : ∀ {w'}, Ext w5 w' → Ext w w' := fun e => E4 (he5.trans e)
  refine Sg ?_
  intro w6 b10 hb10 he6 hc6
  replace hc1 := he6.obj hc1
  have E6 : ∀ {w'}, Ext w6 w' → Ext w w' := fun e => E5 (he6.trans e)
  have hin : ∀ w', Ext w w' → Abs.ScopeIs w' [.slice a0 s.scalars.length c0, .slice a1 s.vars.length c1, .slice a2 s.chans.length c2, .slice a3 s.procs.length d3, .slice o3 p.vars.length c3, .int .i64 p.over] (Abs.inner p s) := fun w' e =>
    ⟨(hg.inner hpg).sm.1, _, _, _, _, _, rfl, h0.ext e, h1.ext e, h2.ext e, h3.ext e, hv.ext e, (hg.inner hpg).sm.2⟩
  refine Sg ?_
  refine K.forG 37 p.cmds.length [2, 10, 35, 36] (fun _ => []) () (fun k _ w' => Ext w6 w' ∧ Abs.cmdsE (Abs.inner p s) p.locs p.cmds p.cmds 0 = Abs.cmdsE (Abs.inner p s) p.locs p.cmds (p.cmds.drop k) k) (by first | trivial | rfl | exact ⟨rfl, trivial⟩ | (simp -dsimp only [LL,slots_nil,slots_cons,keepV_nil,keepV_cons,has_nil,has_cons,Nat.reduceAdd,Nat.reduceEqDiff,reduceIte,and_self]; done) | (simp -dsimp only [LL,slots_nil,slots_cons,keepV_nil,keepV_cons,has_nil,has_cons,Nat.reduceAdd,Nat.reduceEqDiff,reduceIte,and_self]; exact ⟨rfl, trivial⟩)) (by first | trivial | rfl | exact ⟨rfl, trivial⟩ | (simp -dsimp only [LL,slots_nil,slots_cons,keepV_nil,keepV_cons,has_nil,has_cons,Nat.reduceAdd,Nat.reduceEqDiff,reduceIte,and_self]; done) | (simp -dsimp only [LL,slots_nil,slots_cons,keepV_nil,keepV_cons,has_nil,has_cons,Nat.reduceAdd,Nat.reduceEqDiff,reduceIte,and_self]; exact ⟨rfl, trivial⟩)) ⟨Ext.refl _, by simp⟩ ?_
  rintro k _ S w7 hk ⟨he7, hI⟩
  replace hc1 := he7.obj hc1
  replace hc6 := he7.obj hc6
  refine Sg ?_
  refine K.cond (fun g3 => ?_) (fun g3 => ?_)
  · have hk' : k < p.cmds.length := by omega
    obtain ⟨a, rfl⟩ := hcm.addr (by omega)
    obtain ⟨hs, vg, va, hcc, hvg, hva⟩ := hcm.at k hk'
    obtain ⟨og, cg, rfl, lg⟩ := hvg.form
    obtain ⟨oa, ca, rfl, la⟩ := hva.form
    rw [Abs.cmdsE_drop hk'] at hI
    replace hcc := hcc.ext (E6 (Ext.refl _))
    refine Sg ?_
    intro wN b12 hb12 heN hcN
    refine Sg ?_
    intro w8 hw8 hc8
    have he8 := hw8.ext heN hb12
    replace hc1 := he8.obj hc1
    replace hc6 := he8.obj hc6
    have E8 : ∀ {w'}, Ext w8 w' → Ext w w' := fun e => E6 ((he7.trans he8).trans e)
    clear hcN heN
    refine Sg ?_
    refine K.call (check_r p.cmds[k] _ _ p _ _ _ (Abs.inner p s) w8 (ho.ext (E8 (Ext.refl _))) hs (hvg.ext (E8 (Ext.refl _))) (hva.ext (E8 (Ext.refl _))) (hv.ext (E8 (Ext.refl _))) (hcm.ext (E8 (Ext.refl _))) (hin _ (E8 (Ext.refl _)))) ?_
    rintro _ w9 ⟨rfl, he9⟩
    replace hc1 := he9.obj hc1
    replace hc8 := he9.obj hc8
    have E9 : ∀ {w'}, Ext w9 w' → Ext w w' := fun e => E8 (he9.trans e)
    refine Sg ?_
    refine K.cond (fun g4 => ?_) (fun g4 => ?_)
    rotate_left
    · refine Sg ?_
      exact ⟨by rw [hI, if_pos g4], E9 (Ext.refl _)⟩
    rw [if_neg (by simpa using g4)] at hI
    have hcap := (SlR.len hcm).2.1
    refine Sg ?_
    refine K.slcT (k := .i64) k (by rfl) (by omega) ?_
    refine Sg ?_
    refine K.call (containsFunc_r hmix E.slices_ContainsFunc_sl_api_Cmd_api_Cmd E.slices_IndexFunc_sl_api_Cmd_api_Cmd _ (p.cmds.take k) w9 ((hcm.head k (by omega)).ext Abs.RCmd.ext (E9 (Ext.refl _))) F.proc_Check_1 (by kernel_rfl) [] [_] (fun x => decide (x.name = p.cmds[k].name)) ?_) ?_
    · rintro i hi cs' w' e ⟨_, xg, xa, rfl, hxg, hxa⟩
      obtain ⟨_, _, rfl, _⟩ := hxg.form
      obtain ⟨_, _, rfl, _⟩ := hxa.form
      exact check1_r _ _ _ _ _ _ _ _ _ _ _ _ _ _ b12 w' (e.obj hc8)
    rintro _ w10 ⟨rfl, he10⟩
    refine Sg ?_
    refine K.condb (fun g5 => ?_) (fun g5 => ?_)
    · refine Sg ?_
      exact ⟨by rw [hI, if_pos g5], E9 he10⟩
    · refine Sg ?_
      exact ⟨hk', by first | trivial | rfl, (), trivial, ((he7.trans he8).trans he9).trans he10, by rw [hI, if_neg (by simp [g5])]⟩
  · refine Sg ?_
    exact ⟨by rw [hI, List.drop_eq_nil_of_le (by omega)]; rfl, E6 he7⟩
end Go.Proofs.YtbbaokmelkiemaaDoor
end
section
/- Processes: the chapter's example. -/
set_option maxRecDepth 8000
set_option maxHeartbeats 3200000
namespace Lite
open Go Go.RowKit
/-- A list in a block of one's own. -/
theorem SlR.blkC {α : Type} {R : World → Addr → α → Prop} {C : World → List Value → α → Prop} {sz : Nat} [Rel R C sz] {w : World} {b n : Nat} {e : TypeId} {cells : List Value} {xs : List α} (css : List (Cs sz)) (hb : w.heap[b]? = some (.cells cells.toArray e)) (hcells : cells = css.flatMap encC)
    (hl : css.length = xs.length) (hn : n = xs.length) (hm : xs.length ≤ maxLen) (hc : ∀ i (h1 : i < css.length) (h2 : i < xs.length), C w css[i].1 xs[i]) : SlR sz R w (.slice (some ⟨b, 0, none⟩) n n) xs := by
  subst hcells
  exact SlR.ofCells hl (SlR.blk (enc := encC) encC_len hb (by omega) (by omega) fun _ _ _ h => h) hc
end Lite
namespace Abs
open Go
def exGo : Cmd := ⟨⟨#[103, 111]⟩, 0, 0, [], [], false⟩
def exOn : Cmd := ⟨⟨#[111, 110]⟩, 0, 0, [], [], true⟩
def exPa : Proc := ⟨⟨#[97]⟩, 1, 1, [], [exGo]⟩
def exPb : Proc := ⟨⟨#[98]⟩, 0, 1, [], [exGo, exOn]⟩
def exS : Scalar := ⟨⟨#[83]⟩, 2⟩
def exTwo : Model := ⟨[exS], [], [], [exPa, exPb], []⟩
theorem exTwo_check : procCheck exPa (mscope exTwo) = (0, 0, 0) := by decide +kernel
theorem exTwo_insts : insts exTwo = [⟨0, 1⟩, ⟨0, 2⟩, ⟨1, 0⟩] := by decide +kernel
theorem exTwo_refs : (refs exTwo).length = 4 := by decide +kernel
theorem exTwo_fairs : fairs exTwo = [3] := by decide +kernel
theorem exTwo_self : (pscope exTwo 0).self = 1 := by decide +kernel
theorem exTwo_none : pscope exTwo (-1) = mscope exTwo := pscope_none (.inl (by decide))
theorem exTwo_lim : Lim exTwo := ⟨by decide, by intro p hp; simp [exTwo] at hp; rcases hp with rfl | rfl <;> decide⟩
theorem inI_small {n : Int} (h : -1000 ≤ n ∧ n ≤ 1000) : inI n := by unfold inI; omega
theorem exCmd_good (b f t) (c : Cmd) (h : c = ⟨b, 0, 0, [], [], f⟩ ∨ c = t) (ht : t = ⟨b, 0, 0, [], [], f⟩) : c.good := by
  have : c = ⟨b, 0, 0, [], [], f⟩ := by rcases h with h | h; exact h; rw [h, ht]
  subst this
  exact ⟨inI_small (by simp), inI_small (by simp), by simp [big], by simp [big], by simp⟩
theorem exTwo_good : exTwo.good := by
  refine ⟨by simp [exTwo, big], by simp [exTwo, big], by simp [exTwo, big], by simp [exTwo, big], by simp [exTwo, big], ?_, by simp [exTwo], by simp [exTwo], ?_, by simp [exTwo]⟩
  · intro a ha
    simp [exTwo] at ha
    subst ha
    exact ⟨inI_small (by simp [exS])⟩
  · intro a ha
    simp [exTwo] at ha
    rcases ha with rfl | rfl
    · exact ⟨inI_small (by simp [exPa]), inI_small (by simp [exPa]), by simp [exPa, big], by simp [exPa, big], by simp [exPa], by
        intro c hc
        simp [exPa] at hc
        exact exCmd_good _ _ _ c (.inr hc) rfl⟩
    · exact ⟨inI_small (by simp [exPb]), inI_small (by simp [exPb]), by simp [exPb, big], by simp [exPb, big], by simp [exPb], by
        intro c hc
        simp [exPb] at hc
        rcases hc with hc | hc
        · exact exCmd_good _ _ _ c (.inr hc) rfl
        · exact exCmd_good _ _ _ c (.inr hc) rfl⟩
end Abs
namespace Go.Proofs.YtbbaokmelkiemaaDoor
open Go Go.RowKit Lite
theorem two_r (w : World) : Ret Tryd.prog F.lariatlaw14_two #[] w fun v w' => (∃ cs, v = .agg cs.toArray ∧ Abs.ModelIs w' cs Abs.exTwo) ∧ Ext w w' := by
  refine K.start hmix E.lariatlaw14_two (args := []) (Nat.le_of_ble_eq_true rfl) ?_; dsimp only [C.lariatlaw14_two,yt,yi,yb,yp,yr,ye,yc,yv,yg,ym,yw,ya,yl,yx,ys,yn]
  refine Sg ?_
  intro w1 b1 hb1 he1 hc1
  refine Sg ?_
  intro w2 b2 hb2 he2 hc2
  refine Sg ?_
  intro w3 b3 hb3 he3 hc3
  refine Sg ?_
  intro w4 b4 hb4 he4 hc4
  refine Sg ?_
  intro w5 b5 hb5 he5 hc5
  have q := lt_of_heap hc1
  have hc1' := (((he2.trans he3).trans he4).trans he5).obj hc1
  refine Sg ?_
  intro w6 hw6 hc6
  have z1 := lt_of_heap hc1
  have z2 := lt_of_heap hc2
  have z3 := lt_of_heap hc3
  have z4 := lt_of_heap hc4
  have k2 := hw6.obj (((he3.trans he4).trans he5).obj hc2) (by omega)
  have k3 := hw6.obj ((he4.trans he5).obj hc3) (by have := he2.size; omega)
  have k4 := hw6.obj (he5.obj hc4) (by have := he2.size; have := he3.size; omega)
  have k5 := hw6.obj hc5 (by have := he2.size; have := he3.size; have := he4.size; omega)
  have kS : Abs.Scalars w6 (.slice (some ⟨b2, 0, none⟩) 1 1) [Abs.exS] := Abs.Scalars.blk k2 rfl (by decide) (by intro x hx; simp only [List.mem_singleton] at hx; subst hx; decide)
  have kA : Abs.Cmds w6 (.slice (some ⟨b3, 0, none⟩) 1 1) [Abs.exGo] := SlR.blkC [⟨Abs.exGo.enc (.slice none 0 0) (.slice none 0 0), rfl, by simp [Abs.Cmd.enc, Value.oneCell']⟩] k3 rfl rfl rfl (by decide) (by
    intro i h1 h2
    have : i = 0 := by simp at h1; omega
    subst this
    exact ⟨(show Abs.strOk Abs.exGo.name by decide), _, _, rfl, SlR.nil, SlR.nil⟩)
  have kB : Abs.Cmds w6 (.slice (some ⟨b4, 0, none⟩) 2 2) [Abs.exGo, Abs.exOn] := SlR.blkC [⟨Abs.exGo.enc (.slice none 0 0) (.slice none 0 0), rfl, by simp [Abs.Cmd.enc, Value.oneCell']⟩, ⟨Abs.exOn.enc (.slice none 0 0) (.slice none 0 0), rfl, by simp [Abs.Cmd.enc, Value.oneCell']⟩] k4 rfl rfl rfl (by decide) (by
    intro i h1 h2
    have : i = 0 ∨ i = 1 := by simp at h1; omega
    rcases this with rfl | rfl
    · exact ⟨(show Abs.strOk Abs.exGo.name by decide), _, _, rfl, SlR.nil, SlR.nil⟩
    · exact ⟨(show Abs.strOk Abs.exOn.name by decide), _, _, rfl, SlR.nil, SlR.nil⟩)
  have kP : Abs.Procs w6 (.slice (some ⟨b5, 0, none⟩) 2 2) [Abs.exPa, Abs.exPb] := SlR.blkC [⟨Abs.exPa.enc (.slice none 0 0) (.slice (some ⟨b3, 0, none⟩) 1 1), rfl, by simp [Abs.Proc.enc, Value.oneCell']⟩, ⟨Abs.exPb.enc (.slice none 0 0) (.slice (some ⟨b4, 0, none⟩) 2 2), rfl, by simp [Abs.Proc.enc, Value.oneCell']⟩] k5 rfl rfl rfl (by decide) (by
    intro i h1 h2
    have : i = 0 ∨ i = 1 := by simp at h1; omega
    rcases this with rfl | rfl
    · exact ⟨(show Abs.strOk Abs.exPa.name by decide), _, _, rfl, SlR.nil, kA⟩
    · exact ⟨(show Abs.strOk Abs.exPb.name by decide), _, _, rfl, SlR.nil, kB⟩)
  refine Sg ?_
  exact ⟨⟨_, rfl, ⟨_, _, _, _, _, rfl, kS, SlR.nil, SlR.nil, kP, SlR.nil⟩⟩, hw6.ext ((((he1.trans he2).trans he3).trans he4).trans he5) hb1⟩
theorem pworks_r (w : World) (ho : OwnIs w) : Ret Tryd.prog F.lariatlaw14_works #[] w fun v w' => v = .bool true ∧ Ext w w' := by
  refine K.start hmix E.lariatlaw14_works (args := []) (Nat.le_of_ble_eq_true rfl) ?_; dsimp only [C.lariatlaw14_works,yt,yi,yb,yp,yr,ye,yc,yv,yg,ym,yw,ya,yl,yx,ys,yn]
  refine Sg ?_
  refine K.call (two_r w) ?_
  rintro _ w1 ⟨⟨cs, rfl, hM⟩, he1⟩
  obtain ⟨o0, c0, o1, c1, o2, c2, o3, c3, o4, c4, rfl, h0, h1, h2, h3, h4, _⟩ := hM.form
  refine Sg ?_
  intro w2 b1 hb1 he2 hc2
  replace hM := hM.ext he2
  refine Sg ?_
  intro w3 he3
  replace hM := hM.ext he3
  obtain ⟨a, rfl⟩ := h3.addr (by decide)
  obtain ⟨hs, vv, vc, hpc, hpv, hpcm⟩ := h3.at 0 (by decide)
  replace hc2 := he3.obj hc2
  refine Sg ?_
  refine K.ian 0 rfl (by decide) ?_
  refine Sg ?_
  refine K.call (scope_r _ Abs.exTwo (-1) w3 hM Abs.exTwo_good) ?_
  rintro _ w4 ⟨⟨cs4, rfl, hn⟩, he4⟩
  have hsc := hn.here
  rw [Abs.exTwo_none] at hsc
  refine ⟨he4, ?_⟩
  replace hc2 := he4.obj hc2
  replace hM := hM.ext he4
  have e14 := (he2.trans he3).trans he4
  refine Sg ?_
  refine K.call (pcheck_r Abs.exPa _ _ _ w4 (ho.ext (he1.trans e14)) ⟨hs, _, _, rfl, hpv.ext e14, hpcm.ext e14⟩ hsc Abs.exTwo_good.scope (Abs.exTwo_good.proc _ (by simp [Abs.exTwo]))) ?_
  rintro _ w5 ⟨rfl, he5⟩
  rw [Abs.exTwo_check]
  replace hc2 := he5.obj hc2
  replace hM := hM.ext he5
  clear e14 hsc hn
  have E5 : ∀ {w'}, Ext w5 w' → Ext w w' := fun e => ((((he1.trans he2).trans he3).trans he4).trans he5).trans e
  refine Sg ?_
  refine K.call (insts_r _ Abs.exTwo w5 hM Abs.exTwo_good) ?_
  rintro vi w6 ⟨hi, he6⟩
  replace hc2 := he6.obj hc2
  replace hM := hM.ext he6
  rw [Abs.exTwo_insts] at hi
  obtain ⟨oi, ci, rfl, _⟩ := hi.form
  refine Sg ?_
  refine K.condT (by rfl) ?_
  refine Sg ?_
  refine K.call (refs_r _ Abs.exTwo w6 hM Abs.exTwo_lim) ?_
  rintro vi w7 ⟨hr, he7⟩
  replace hc2 := he7.obj hc2
  replace hM := hM.ext he7
  obtain ⟨or, cr, rfl, _⟩ := hr.form
  rw [Abs.exTwo_refs]
  refine Sg ?_
  refine K.call (fair_r _ Abs.exTwo w7 hM Abs.exTwo_good Abs.exTwo_lim) ?_
  rintro vi w8 ⟨hf, he8⟩
  replace hc2 := he8.obj hc2
  replace hM := hM.ext he8
  rw [Abs.exTwo_fairs] at hf
  obtain ⟨of, cf, rfl, _⟩ := hf.form
  refine Sg ?_
  intro w9 b30 hb30 he9 hc9
  replace hc2 := he9.obj hc2
  replace hM := hM.ext he9
  refine Sg ?_
  refine K.call (equal1_r hmix E.slices_Equal_sl_int_int _ _ [3] [3] w9 (OwR.slF (enc := encN) (fun _ => rfl) (hf.ext he9)) (SlR.blk (enc := encN) (R := Flat encN) (fun _ => rfl) hc9 rfl (by decide) fun _ _ _ h => h)) ?_
  rintro _ w10 ⟨⟨b, rfl, hb⟩, he10⟩
  obtain rfl := hb.2 rfl
  replace hc2 := he10.obj hc2
  replace hM := hM.ext he10
  refine Sg ?_
  refine K.call (scope_r _ Abs.exTwo 0 w10 hM Abs.exTwo_good) ?_
  rintro _ w11 ⟨⟨cs11, rfl, hn⟩, he11⟩
  have hsc := hn.here
  obtain ⟨x0, y0, x1, y1, x2, y2, x3, y3, x4, y4, rfl, _⟩ := hsc.form
  rw [Abs.exTwo_self]
  replace hc2 := he11.obj hc2
  replace hM := hM.ext he11
  refine Sg ?_
  refine K.fld (v := .int .i64 1) rfl ?_
  refine Sg ?_
  refine K.call (insts_r _ Abs.exTwo w11 hM Abs.exTwo_good) ?_
  rintro vi w12 ⟨hi2, he12⟩
  rw [Abs.exTwo_insts] at hi2
  have hsl : InstsAt w12 vi _ := OwR.slF (enc := Abs.Inst.enc) (fun _ => rfl) hi2
  obtain ⟨oi2, ci2, rfl, _⟩ := hi2.form
  obtain ⟨ai, rfl⟩ := hsl.addr (by simp)
  refine Sg ?_
  refine K.ian 1 rfl (by simp) ?_
  refine Sg ?_
  refine K.ldA (hsl.at 1 (by simp)) rfl ?_
  refine Sg ?_
  refine K.eqS (sig := Abs.sigNode) (xs := (⟨0, 2⟩ : Abs.Inst).enc) (ys := (⟨0, 2⟩ : Abs.Inst).enc) (by kernel_rfl) (Abs.conf_inst _) (Abs.conf_inst _) fun r hr => ?_
  obtain rfl := hr.2 rfl
  refine Sg ?_
  exact ⟨by first | trivial | rfl, E5 ((((((he6.trans he7).trans he8).trans he9).trans he10).trans he11).trans he12)⟩
end Go.Proofs.YtbbaokmelkiemaaDoor
end
section
/- Processes: the laws on scopes and on instances, walked. -/
set_option maxRecDepth 8000
set_option maxHeartbeats 3200000
namespace Abs
theorem HeavyOk.lim {m : Model} (h : HeavyOk m) : Lim m := ⟨by have := h.p; omega, fun p hp => (h.i p hp).2.1⟩
end Abs
namespace Go.Proofs.YtbbaokmelkiemaaDoor
open Go Go.RowKit Lite
theorem lawScopes_r (cs : List Value) (m : Abs.Model) (i : Int) (w : World) (h : Abs.ModelIs w cs m) (hg : m.good) (ho : OwnIs w) :
    Ret Tryd.prog F.lariatlaw14_ProcScopes #[.agg cs.toArray, .int .i64 i] w fun v w' => v = .bool true ∧ Ext w w' := by
  obtain ⟨o0, c0, o1, c1, o2, c2, o3, c3, o4, c4, rfl, _⟩ := h.form
  refine K.start hmix E.lariatlaw14_ProcScopes (args := [_, _]) (Nat.le_of_ble_eq_true rfl) ?_; dsimp only [C.lariatlaw14_ProcScopes,yt,yi,yb,yp,yr,ye,yc,yv,yg,ym,yw,ya,yl,yx,ys,yn]
  refine Sg ?_
  intro w1 b1 hb1 he1 hc1
  refine Sg ?_
  refine K.call (heavy_r _ m w1 (h.ext he1)) ?_
  rintro _ w2 ⟨hv, he2⟩
  replace hc1 := he2.obj hc1
  rcases hv with rfl | ⟨rfl, hH⟩
  · refine Sg ?_
    refine K.call (pworks_r w2 (ho.ext (he1.trans he2))) ?_
    rintro _ w3 ⟨rfl, he3⟩
    refine Sg ?_
    exact ⟨by first | trivial | rfl, (he1.trans he2).trans he3⟩
  have E2 : ∀ {w'}, Ext w2 w' → Ext w w' := fun e => (he1.trans he2).trans e
  refine Su ?_
  refine K.twoC _ F.proc_Scope F.lariatref14_Scope _ _ 5 _ _ 6 13 6 _ _ 6 16 (by rfl) rfl (by rfl) (by rfl) (by rfl) (by rfl) ?_
  intro w3 he3
  dsimp only [strip]
  refine Sg ?_
  refine ⟨fun x w => Abs.ScopeIs w x (Abs.pscope m i), fun x w => Abs.ScopeIs w x (Abs.pscope m i), ?_, ?_, ?_⟩
  · intro w4 he4
    refine (scope_r _ m i w4 (h.ext (E2 (he3.trans he4))) hg).mono ?_
    rintro _ w5 ⟨⟨cs', rfl, hn⟩, he5⟩
    obtain ⟨x0, y0, x1, y1, x2, y2, x3, y3, x4, y4, rfl, _⟩ := hn.here.form
    exact ⟨he5, _, rfl, rfl, by simp [Value.oneCell'], hn.kp he4 he5⟩
  · intro w4 he4
    refine (refScope_r (w0 := w) _ m i w4 h (E2 (he3.trans he4)) hg).mono ?_
    rintro _ w5 ⟨⟨cs', rfl, hn⟩, he5⟩
    obtain ⟨x0, y0, x1, y1, x2, y2, x3, y3, x4, y4, rfl, _⟩ := (hn _ (E2 (he3.trans he4))).form
    exact ⟨he5, _, rfl, rfl, by simp [Value.oneCell'], Kp.of fun w'' e => hn w'' (E2 (he3.trans e))⟩
  intro w4 xa xb ba bb he4 hba hbb hne hca hcb hsa hsb
  obtain ⟨x0, y0, x1, y1, x2, y2, x3, y3, x4, y4, rfl, p0, p1, p2, p3, p4, _⟩ := hsa.form
  obtain ⟨z0, t0, z1, t1, z2, t2, z3, t3, z4, t4, rfl, q0, q1, q2, q3, q4, _⟩ := hsb.form
  refine Sg ?_
  refine K.call (seq_r _ _ _ _ w4 p0 q0) ?_
  rintro _ w5 ⟨⟨b, rfl, hb⟩, he5⟩
  obtain rfl := hb.2 rfl
  refine Sg ?_
  refine K.call (veq_r _ _ _ _ w5 (p1.ext he5) (q1.ext he5)) ?_
  rintro _ w6 ⟨⟨b, rfl, hb⟩, he6⟩
  obtain rfl := hb.2 rfl
  refine Sg ?_
  refine K.call (cheq_r _ _ _ _ w6 (p2.ext (he5.trans he6)) (q2.ext (he5.trans he6))) ?_
  rintro _ w7 ⟨⟨b, rfl, hb⟩, he7⟩
  obtain rfl := hb.2 rfl
  refine Sg ?_
  refine K.call (procs_r _ _ _ w7 (p3.ext ((he5.trans he6).trans he7)) (q3.ext ((he5.trans he6).trans he7))) ?_
  rintro _ w8 ⟨rfl, he8⟩
  refine Sg ?_
  refine K.call (veq_r _ _ _ _ w8 (p4.ext (((he5.trans he6).trans he7).trans he8)) (q4.ext (((he5.trans he6).trans he7).trans he8))) ?_
  rintro _ w9 ⟨⟨b, rfl, hb⟩, he9⟩
  obtain rfl := hb.2 rfl
  have E9 : ∀ {w'}, Ext w9 w' → Ext w w' := fun e => E2 ((he3.trans he4).trans (((((he5.trans he6).trans he7).trans he8).trans he9).trans e))
  refine Sg ?_
  refine K.call (pworks_r w9 (ho.ext (E9 (Ext.refl _)))) ?_
  rintro _ w10 ⟨rfl, he10⟩
  refine Sg ?_
  exact ⟨by first | trivial | rfl, E9 he10⟩
theorem ieq_r (v1 v2 : Value) (l1 l2 : List Abs.Inst) (w : World) (h1 : InstsAt w v1 l1) (h2 : InstsAt w v2 l2) :
    Ret Tryd.prog F.slices_Equal_sl_api_Inst_api_Inst #[v1, v2] w fun v w' => (∃ b : Bool, v = .bool b ∧ (b = true ↔ l1 = l2)) ∧ Ext w w' :=
  equalA_r hmix E.slices_Equal_sl_api_Inst_api_Inst (sig := Abs.sigNode) (by kernel_rfl) Abs.conf_inst rfl Abs.inst_inj v1 v2 l1 l2 w h1 h2
theorem req_r (v1 v2 : Value) (l1 l2 : List Abs.Ref) (w : World) (h1 : RefsAt w v1 l1) (h2 : RefsAt w v2 l2) :
    Ret Tryd.prog F.slices_Equal_sl_api_Ref_api_Ref #[v1, v2] w fun v w' => (∃ b : Bool, v = .bool b ∧ (b = true ↔ l1 = l2)) ∧ Ext w w' :=
  equalA_r hmix E.slices_Equal_sl_api_Ref_api_Ref (sig := Abs.sigNode) (by kernel_rfl) Abs.conf_ref rfl Abs.ref_inj v1 v2 l1 l2 w h1 h2
theorem lawInsts_r (cs : List Value) (m : Abs.Model) (w : World) (h : Abs.ModelIs w cs m) (hg : m.good) (ho : OwnIs w) :
    Ret Tryd.prog F.lariatlaw14_ProcInsts #[.agg cs.toArray] w fun v w' => v = .bool true ∧ Ext w w' := by
  obtain ⟨o0, c0, o1, c1, o2, c2, o3, c3, o4, c4, rfl, _⟩ := h.form
  refine K.start hmix E.lariatlaw14_ProcInsts (args := [_]) (Nat.le_of_ble_eq_true rfl) ?_; dsimp only [C.lariatlaw14_ProcInsts,yt,yi,yb,yp,yr,ye,yc,yv,yg,ym,yw,ya,yl,yx,ys,yn]
  refine Sg ?_
  intro w1 b1 hb1 he1 hc1
  refine Sg ?_
  refine K.call (heavy_r _ m w1 (h.ext he1)) ?_
  rintro _ w2 ⟨hv, he2⟩
  replace hc1 := he2.obj hc1
  rcases hv with rfl | ⟨rfl, hH⟩
  · refine Sg ?_
    refine K.call (pworks_r w2 (ho.ext (he1.trans he2))) ?_
    rintro _ w3 ⟨rfl, he3⟩
    refine Sg ?_
    exact ⟨by first | trivial | rfl, (he1.trans he2).trans he3⟩
  have E2 : ∀ {w'}, Ext w2 w' → Ext w w' := fun e => (he1.trans he2).trans e
  have hL := hH.lim
  refine Sg ?_
  intro w3 he3
  replace hc1 := he3.obj hc1
  have E3 : ∀ {w'}, Ext w3 w' → Ext w w' := fun e => E2 (he3.trans e)
  refine Sg ?_
  refine K.call (insts_r _ m w3 (h.ext (E3 (Ext.refl _))) hg) ?_
  rintro va w4 ⟨ha, he4⟩
  refine ⟨he4, ?_⟩
  have E4 : ∀ {w'}, Ext w4 w' → Ext w3 w' := fun e => he4.trans e
  have sa : InstsAt w4 va _ := OwR.slF (enc := Abs.Inst.enc) (fun _ => rfl) ha
  obtain ⟨oa, ca, rfl, _⟩ := sa.form
  refine Sg ?_
  refine K.call (refInsts_r _ m w4 (h.ext (E3 (E4 (Ext.refl _)))) hg) ?_
  rintro vb w5 ⟨hb, he5⟩
  refine ⟨E4 he5, ?_⟩
  have E5 : ∀ {w'}, Ext w5 w' → Ext w3 w' := fun e => E4 (he5.trans e)
  have sb : InstsAt w5 vb _ := OwR.slF (enc := Abs.Inst.enc) (fun _ => rfl) hb
  obtain ⟨ob, cb, rfl, _⟩ := sb.form
  refine Sg ?_
  refine K.call (ieq_r _ _ _ _ w5 (sa.ext Flat.ext he5) sb) ?_
  rintro _ w6 ⟨⟨b, rfl, hbb⟩, he6⟩
  obtain rfl := hbb.2 rfl
  refine ⟨E5 he6, ?_⟩
  have E6 : ∀ {w'}, Ext w6 w' → Ext w3 w' := fun e => E5 (he6.trans e)
  clear sa sb ha hb
  refine Sg ?_
  refine K.call (refs_r _ m w6 (h.ext (E3 (E6 (Ext.refl _)))) hL) ?_
  rintro va w7 ⟨ha, he7⟩
  refine ⟨E6 he7, ?_⟩
  have E7 : ∀ {w'}, Ext w7 w' → Ext w3 w' := fun e => E6 (he7.trans e)
  have sa : RefsAt w7 va _ := OwR.slF (enc := Abs.Ref.enc) (fun _ => rfl) ha
  obtain ⟨oa, ca, rfl, _⟩ := sa.form
  refine Sg ?_
  refine K.call (refRefs_r _ m w7 (h.ext (E3 (E7 (Ext.refl _)))) hg hL) ?_
  rintro vb w8 ⟨hb, he8⟩
  refine ⟨E7 he8, ?_⟩
  have E8 : ∀ {w'}, Ext w8 w' → Ext w3 w' := fun e => E7 (he8.trans e)
  have sb : RefsAt w8 vb _ := OwR.slF (enc := Abs.Ref.enc) (fun _ => rfl) hb
  obtain ⟨ob, cb, rfl, _⟩ := sb.form
  refine Sg ?_
  refine K.call (req_r _ _ _ _ w8 (sa.ext Flat.ext he8) sb) ?_
  rintro _ w9 ⟨⟨b, rfl, hbb⟩, he9⟩
  obtain rfl := hbb.2 rfl
  refine ⟨E8 he9, ?_⟩
  have E9 : ∀ {w'}, Ext w9 w' → Ext w3 w' := fun e => E8 (he9.trans e)
  clear sa sb ha hb
  refine Sg ?_
  refine K.call (fair_r _ m w9 (h.ext (E3 (E9 (Ext.refl _)))) hg hL) ?_
  rintro va w10 ⟨ha, he10⟩
  refine ⟨E9 he10, ?_⟩
  have E10 : ∀ {w'}, Ext w10 w' → Ext w3 w' := fun e => E9 (he10.trans e)
  have sa : SlR 1 (Flat encN) w10 va _ := OwR.slF (enc := encN) (fun _ => rfl) ha
  obtain ⟨oa, ca, rfl, _⟩ := sa.form
  refine Sg ?_
  refine K.call (refFair_r _ m w10 (h.ext (E3 (E10 (Ext.refl _)))) hg hL) ?_
  rintro vb w11 ⟨hb, he11⟩
  have E11 : ∀ {w'}, Ext w11 w' → Ext w3 w' := fun e => E10 (he11.trans e)
  have sb : SlR 1 (Flat encN) w11 vb _ := OwR.slF (enc := encN) (fun _ => rfl) hb
  obtain ⟨ob, cb, rfl, _⟩ := sb.form
  refine Sg ?_
  refine K.call (equal1_r hmix E.slices_Equal_sl_int_int _ _ _ _ w11 (sa.ext Flat.ext he11) sb) ?_
  rintro _ w12 ⟨⟨b, rfl, hbb⟩, he12⟩
  obtain rfl := hbb.2 rfl
  have E12 : ∀ {w'}, Ext w12 w' → Ext w w' := fun e => E3 (E11 (he12.trans e))
  clear sa sb ha hb
  refine Sg ?_
  refine K.call (pworks_r w12 (ho.ext (E12 (Ext.refl _)))) ?_
  rintro _ w13 ⟨rfl, he13⟩
  refine Sg ?_
  exact ⟨by first | trivial | rfl, E12 he13⟩
end Go.Proofs.YtbbaokmelkiemaaDoor
end
section
/- Arguments opened: nodes, acts, commands, processes, propositions, scopes, models. -/
set_option maxRecDepth 4000
namespace Lite
open Go Go.RowKit Go.ChangeShapes Go.WideShapes Go.Deep
section
variable {H : Type} {enc : TypeId × Value → H} {P : Program} {w : World} {base : Nat} {spare : Nat → Bool} {held : Bool}
/-- A struct of one-cell fields, read field by field, with each field's datum. -/
theorem fields2 {t : TypeId} {fs : Array Field} {n : Nat} {cs : List Value} {y : DataW H × List MemPlace} (ht : P.underlying t = some (.struct fs)) (hone : oneCellFields P fs = true) (hC : P.cellsOf t = fs.size)
    (h : DataW.trod enc P w base spare held n t cs = some y) : cs.length = fs.size ∧ ∃ n' ds, y.1 = .agg ds ∧ ∀ (j : Nat) (f : Field), fs[j]? = some f → ∃ v z, cs[j]? = some v ∧ DataW.trod enc P w base spare held n' f.type [v] = some z ∧ ds[j]? = some z.1 := by
  obtain ⟨ys, n', hn', hy, hlen, hyl, hf⟩ := DataW.trod_struct ht h
  refine ⟨by omega, n', _, by rw [hy], fun j f hj => ?_⟩
  obtain ⟨ho, hk⟩ := hone_of hone j f hj
  have hjl : j < fs.size := (Array.getElem?_eq_some_iff.1 hj).1
  have hv : cs[j]? = some (cs[j]'(by omega)) := List.getElem?_eq_getElem (by omega)
  have h1 := hf j f hj
  rw [ho, hk] at h1
  have hone' : (cs.drop j).take 1 = [cs[j]'(by omega)] := by
    rw [List.drop_eq_getElem_cons (by omega)]
    rfl
  rw [hone', List.getElem?_eq_getElem (l := ys) (by omega)] at h1
  exact ⟨_, _, hv, h1, by rw [List.getElem?_map, List.getElem?_eq_getElem (by omega)]; rfl⟩
/-- All that is read of a datum is no more than a machine holds. -/
def Small (P : Program) (t : TypeId) (d : DataW H) : Prop := ∀ q ∈ d.weights P t, q ≤ reachBytes
theorem Small.field {t u : TypeId} {fs : Array Field} {ds : List (DataW H)} {j : Nat} {d : DataW H} {f : Field} (h : Small P t (.agg ds)) (ht : P.underlying t = some (.struct fs)) (hf : fs[j]? = some f) (hu : f.type = u) (hd : ds[j]? = some d) : Small P u d := by
  subst hu
  intro q hq
  refine h q ?_
  simp only [DataW.weights, ht]
  exact DataW.weights_mem_each (j := j) (by simp [hf]) hd q hq
/-- A cell that holds a slice whose elements are read each by R. -/
theorem cell_sl {α : Type} {R : World → Addr → α → Prop} {t e : TypeId} {v : Value} {n : Nat} {z : DataW H × List MemPlace} (sz : Nat) (ht : P.underlying t = some (.slice e)) (hC : P.cellsOf e = sz) (hB : 0 < P.bytesOf e)
    (hR : ∀ (a : Addr) (cs : List Value) (n : Nat) (y : DataW H × List MemPlace), CellsAt w a cs → cs.length = sz → DataW.trod enc P w 0 (fun _ => true) true n e cs = some y → ∃ x, R w a x)
    (h : DataW.trod enc P w 0 (fun _ => true) true n t [v] = some z) : ∃ xs, SlR sz R w v xs ∧ (Small P t z.1 → xs.length ≤ 140737488355328) := by
  rcases open_slice ht h with ⟨hcs, _⟩ | ⟨a, len, cap, m, n, D, Pl, hcs, hb, hl, hm, hmm, hx, hi⟩
  · simp at hcs
    subst hcs
    exact ⟨[], SlR.nil, fun _ => by simp⟩
  · simp at hcs
    subst hcs
    simp only [if_true] at hmm
    subst hmm
    obtain ⟨xs, hxl, hxs⟩ := list_of len (fun i x => R w (a.add (i * sz)) x) fun i hi' => by
      obtain ⟨cs', hc, ht'⟩ := hi i (by omega)
      rw [hC] at hc
      obtain ⟨_, hcl, hat⟩ := World.cells?_some hc
      refine hR _ cs' n _ (fun j u hj => ?_) hcl ht'
      have hjl' : j < sz := hcl ▸ (List.getElem?_eq_some_iff.1 hj).1
      rw [← hj]
      exact hat j hjl'
    refine ⟨xs, ⟨some a, _, by rw [hxl], by omega, hm, fun _ => rfl, fun a' ha => by injection ha with ha; subst ha; exact hxs⟩, fun hs => ?_⟩
    have h1 := hs ((len + (m - len)) * P.bytesOf e) (by rw [hx]; simp [DataW.weights, ht])
    have h2 := reachBytes_lt
    have h3 : len ≤ (len + (m - len)) * P.bytesOf e := Nat.le_trans (Nat.le_add_right len _) (Nat.le_mul_of_pos_right _ hB)
    rw [hxl]
    omega
/-- A slice that came as an argument. -/
theorem arg_sl {r : Reach} {b0 : Nat} {t e : TypeId} {v : Value} {d : DataW H} {p : List MemPlace} (ht : P.underlying t = some (.slice e)) (hval : Value.okWide P w r b0 t v) (h : DataW.Trod enc P w 0 (fun _ => true) true t v d p) :
    ∃ n, DataW.trod enc P w 0 (fun _ => true) true n t [v] = some (d, p) := by
  obtain ⟨a0, len0, cap0, rfl⟩ := okWide_slice ht hval
  obtain ⟨n, hn⟩ := h
  exact ⟨n, hn⟩
end
end Lite
namespace Go.Proofs.YtbbaokmelkiemaaDoor
open Go Go.RowKit Lite Go.ChangeShapes
variable {H : Type} {enc : TypeId × Value → H} {w : World} {cs : List Value} {n : Nat} {y : DataW H × List MemPlace} {v : Value}
theorem wf_inI {z : Int} (h : (Lit.int .i64 z).wf = true) : Abs.inI z := by
  simp only [Lit.wf, Bool.and_eq_true, decide_eq_true_eq] at h
  exact ⟨h.1, h.2⟩
theorem node_el (h : DataW.trod enc Tryd.prog w 0 (fun _ => true) true n T.api_Node cs = some y) : ∃ x : Abs.Node, cs = x.enc ∧ x.ok := by
  obtain ⟨hl, n', ds, _, hf⟩ := fields2 (t := T.api_Node) rfl (by kernel_rfl) (by kernel_rfl) h
  match cs, hl with
  | [c0, c1], _ =>
    obtain ⟨_, _, e0, h0, _⟩ := hf 0 _ rfl
    obtain ⟨_, _, e1, h1, _⟩ := hf 1 _ rfl
    cases e0; cases e1
    obtain ⟨z0, e0, _, k0⟩ := DataW.trod_int (k := .i64) (by kernel_rfl) h0
    obtain ⟨z1, e1, _, k1⟩ := DataW.trod_int (k := .i64) (by kernel_rfl) h1
    cases e0; cases e1
    exact ⟨⟨z0, z1⟩, rfl, wf_inI k0, wf_inI k1⟩
theorem scalar_el (h : DataW.trod enc Tryd.prog w 0 (fun _ => true) true n T.api_Scalar cs = some y) : ∃ x : Abs.Scalar, cs = x.enc ∧ Abs.strOk x.name := by
  obtain ⟨hl, n', ds, _, hf⟩ := fields2 (t := T.api_Scalar) rfl (by kernel_rfl) (by kernel_rfl) h
  match cs, hl with
  | [c0, c1], _ =>
    obtain ⟨_, _, e0, h0, _⟩ := hf 0 _ rfl
    obtain ⟨_, _, e1, h1, _⟩ := hf 1 _ rfl
    cases e0; cases e1
    obtain ⟨s, e0, _, hs⟩ := DataW.trod_string (by kernel_rfl) h0
    obtain ⟨z, e1, _, _⟩ := DataW.trod_int (k := .i64) (by kernel_rfl) h1
    cases e0; cases e1
    exact ⟨⟨s, z⟩, rfl, hs⟩
theorem var_el (h : DataW.trod enc Tryd.prog w 0 (fun _ => true) true n T.api_Var cs = some y) : ∃ x : Abs.Var, cs = x.enc ∧ Abs.strOk x.name := by
  obtain ⟨hl, n', ds, _, hf⟩ := fields2 (t := T.api_Var) rfl (by kernel_rfl) (by kernel_rfl) h
  match cs, hl with
  | [c0, c1, c2, c3, c4, c5], _ =>
    obtain ⟨_, _, e0, h0, _⟩ := hf 0 _ rfl
    obtain ⟨_, _, e1, h1, _⟩ := hf 1 _ rfl
    obtain ⟨_, _, e2, h2, _⟩ := hf 2 _ rfl
    obtain ⟨_, _, e3, h3, _⟩ := hf 3 _ rfl
    obtain ⟨_, _, e4, h4, _⟩ := hf 4 _ rfl
    obtain ⟨_, _, e5, h5, _⟩ := hf 5 _ rfl
    cases e0; cases e1; cases e2; cases e3; cases e4; cases e5
    obtain ⟨s, e0, _, hs⟩ := DataW.trod_string (by kernel_rfl) h0
    obtain ⟨z1, e1, _, _⟩ := DataW.trod_int (k := .i64) (by kernel_rfl) h1
    obtain ⟨z2, e2, _, _⟩ := DataW.trod_int (k := .i64) (by kernel_rfl) h2
    obtain ⟨z3, e3, _, _⟩ := DataW.trod_int (k := .i64) (by kernel_rfl) h3
    obtain ⟨z4, e4, _, _⟩ := DataW.trod_int (k := .i64) (by kernel_rfl) h4
    obtain ⟨z5, e5, _, _⟩ := DataW.trod_int (k := .i64) (by kernel_rfl) h5
    cases e0; cases e1; cases e2; cases e3; cases e4; cases e5
    exact ⟨⟨s, z1, z2, z3, z4, z5⟩, rfl, hs⟩
theorem chan_el (h : DataW.trod enc Tryd.prog w 0 (fun _ => true) true n T.api_Chan cs = some y) : ∃ x : Abs.Chan, cs = x.enc ∧ Abs.strOk x.name := by
  obtain ⟨hl, n', ds, _, hf⟩ := fields2 (t := T.api_Chan) rfl (by kernel_rfl) (by kernel_rfl) h
  match cs, hl with
  | [c0, c1, c2, c3, c4, c5], _ =>
    obtain ⟨_, _, e0, h0, _⟩ := hf 0 _ rfl
    obtain ⟨_, _, e1, h1, _⟩ := hf 1 _ rfl
    obtain ⟨_, _, e2, h2, _⟩ := hf 2 _ rfl
    obtain ⟨_, _, e3, h3, _⟩ := hf 3 _ rfl
    obtain ⟨_, _, e4, h4, _⟩ := hf 4 _ rfl
    obtain ⟨_, _, e5, h5, _⟩ := hf 5 _ rfl
    cases e0; cases e1; cases e2; cases e3; cases e4; cases e5
    obtain ⟨s, e0, _, hs⟩ := DataW.trod_string (by kernel_rfl) h0
    obtain ⟨z1, e1, _, _⟩ := DataW.trod_int (k := .i64) (by kernel_rfl) h1
    obtain ⟨z2, e2, _, _⟩ := DataW.trod_int (k := .i64) (by kernel_rfl) h2
    obtain ⟨z3, e3, _, _⟩ := DataW.trod_int (k := .i64) (by kernel_rfl) h3
    obtain ⟨z4, e4, _, _⟩ := DataW.trod_int (k := .i64) (by kernel_rfl) h4
    obtain ⟨z5, e5, _⟩ := DataW.trod_bool (by kernel_rfl) h5
    cases e0; cases e1; cases e2; cases e3; cases e4; cases e5
    exact ⟨⟨s, z1, z2, z3, z4, z5⟩, rfl, hs⟩
theorem nodes_c (h : DataW.trod enc Tryd.prog w 0 (fun _ => true) true n T.sl_api_Node [v] = some y) : ∃ l, Abs.Nodes w v l ∧ (Small Tryd.prog T.sl_api_Node y.1 → l.length ≤ 140737488355328) :=
  cell_sl (e := T.api_Node) 2 (by kernel_rfl) (by kernel_rfl) (by decide +kernel) (fun a cs n y hc hl ht => by obtain ⟨x, rfl, hx⟩ := node_el ht; exact ⟨x, hc, hx⟩) h
theorem scalars_c (h : DataW.trod enc Tryd.prog w 0 (fun _ => true) true n T.sl_api_Scalar [v] = some y) : ∃ l, Abs.Scalars w v l ∧ (Small Tryd.prog T.sl_api_Scalar y.1 → l.length ≤ 140737488355328) :=
  cell_sl (e := T.api_Scalar) 2 (by kernel_rfl) (by kernel_rfl) (by decide +kernel) (fun a cs n y hc hl ht => by obtain ⟨x, rfl, hx⟩ := scalar_el ht; exact ⟨x, hc, hx⟩) h
theorem vars_c (h : DataW.trod enc Tryd.prog w 0 (fun _ => true) true n T.sl_api_Var [v] = some y) : ∃ l, Abs.Vars w v l ∧ (Small Tryd.prog T.sl_api_Var y.1 → l.length ≤ 140737488355328) :=
  cell_sl (e := T.api_Var) 6 (by kernel_rfl) (by kernel_rfl) (by decide +kernel) (fun a cs n y hc hl ht => by obtain ⟨x, rfl, hx⟩ := var_el ht; exact ⟨x, hc, hx⟩) h
theorem chans_c (h : DataW.trod enc Tryd.prog w 0 (fun _ => true) true n T.sl_api_Chan [v] = some y) : ∃ l, Abs.Chans w v l ∧ (Small Tryd.prog T.sl_api_Chan y.1 → l.length ≤ 140737488355328) :=
  cell_sl (e := T.api_Chan) 6 (by kernel_rfl) (by kernel_rfl) (by decide +kernel) (fun a cs n y hc hl ht => by obtain ⟨x, rfl, hx⟩ := chan_el ht; exact ⟨x, hc, hx⟩) h
theorem act_el {a : Addr} (hc : CellsAt w a cs) (h : DataW.trod enc Tryd.prog w 0 (fun _ => true) true n T.api_Act cs = some y) : ∃ x : Abs.Act, Abs.RAct w a x := by
  obtain ⟨hl, n', ds, _, hf⟩ := fields2 (t := T.api_Act) rfl (by kernel_rfl) (by kernel_rfl) h
  match cs, hl with
  | [c0, c1, c2, c3, c4], _ =>
    obtain ⟨_, _, e0, h0, _⟩ := hf 0 _ rfl
    obtain ⟨_, _, e1, h1, _⟩ := hf 1 _ rfl
    obtain ⟨_, _, e2, h2, _⟩ := hf 2 _ rfl
    obtain ⟨_, _, e3, h3, _⟩ := hf 3 _ rfl
    obtain ⟨_, _, e4, h4, _⟩ := hf 4 _ rfl
    cases e0; cases e1; cases e2; cases e3; cases e4
    obtain ⟨z0, e0, _, _⟩ := DataW.trod_int (k := .i64) (by kernel_rfl) h0
    obtain ⟨z1, e1, _, _⟩ := DataW.trod_int (k := .i64) (by kernel_rfl) h1
    obtain ⟨z2, e2, _, _⟩ := DataW.trod_int (k := .i64) (by kernel_rfl) h2
    cases e0; cases e1; cases e2
    obtain ⟨l3, h3, _⟩ := nodes_c h3
    obtain ⟨l4, h4, _⟩ := nodes_c h4
    exact ⟨⟨z0, z1, z2, l3, l4⟩, c3, c4, hc, h3, h4⟩
theorem acts_c (h : DataW.trod enc Tryd.prog w 0 (fun _ => true) true n T.sl_api_Act [v] = some y) : ∃ l, Abs.Acts w v l ∧ (Small Tryd.prog T.sl_api_Act y.1 → l.length ≤ 140737488355328) :=
  cell_sl (e := T.api_Act) 5 (by kernel_rfl) (by kernel_rfl) (by decide +kernel) (fun a cs n y hc hl ht => act_el hc ht) h
theorem cmd_cs (h : DataW.trod enc Tryd.prog w 0 (fun _ => true) true n T.api_Cmd cs = some y) : ∃ x : Abs.Cmd, Abs.CmdIs w cs x := by
  obtain ⟨hl, n', ds, _, hf⟩ := fields2 (t := T.api_Cmd) rfl (by kernel_rfl) (by kernel_rfl) h
  match cs, hl with
  | [c0, c1, c2, c3, c4, c5], _ =>
    obtain ⟨_, _, e0, h0, _⟩ := hf 0 _ rfl
    obtain ⟨_, _, e1, h1, _⟩ := hf 1 _ rfl
    obtain ⟨_, _, e2, h2, _⟩ := hf 2 _ rfl
    obtain ⟨_, _, e3, h3, _⟩ := hf 3 _ rfl
    obtain ⟨_, _, e4, h4, _⟩ := hf 4 _ rfl
    obtain ⟨_, _, e5, h5, _⟩ := hf 5 _ rfl
    cases e0; cases e1; cases e2; cases e3; cases e4; cases e5
    obtain ⟨s, e0, _, hs⟩ := DataW.trod_string (by kernel_rfl) h0
    obtain ⟨z1, e1, _, _⟩ := DataW.trod_int (k := .i64) (by kernel_rfl) h1
    obtain ⟨z2, e2, _, _⟩ := DataW.trod_int (k := .i64) (by kernel_rfl) h2
    obtain ⟨z5, e5, _⟩ := DataW.trod_bool (by kernel_rfl) h5
    cases e0; cases e1; cases e2; cases e5
    obtain ⟨l3, h3, _⟩ := nodes_c h3
    obtain ⟨l4, h4, _⟩ := acts_c h4
    exact ⟨⟨s, z1, z2, l3, l4, z5⟩, hs, c3, c4, rfl, h3, h4⟩
theorem cmd_el {a : Addr} (hc : CellsAt w a cs) (h : DataW.trod enc Tryd.prog w 0 (fun _ => true) true n T.api_Cmd cs = some y) : ∃ x : Abs.Cmd, Abs.RCmd w a x := by
  obtain ⟨x, h0, vg, va, rfl, h1, h2⟩ := cmd_cs h
  exact ⟨x, h0, vg, va, hc, h1, h2⟩
theorem cmds_c (h : DataW.trod enc Tryd.prog w 0 (fun _ => true) true n T.sl_api_Cmd [v] = some y) : ∃ l, Abs.Cmds w v l ∧ (Small Tryd.prog T.sl_api_Cmd y.1 → l.length ≤ 140737488355328) :=
  cell_sl (e := T.api_Cmd) 6 (by kernel_rfl) (by kernel_rfl) (by decide +kernel) (fun a cs n y hc hl ht => cmd_el hc ht) h
theorem proc_cs (h : DataW.trod enc Tryd.prog w 0 (fun _ => true) true n T.api_Proc cs = some y) : ∃ x : Abs.Proc, Abs.ProcIs w cs x := by
  obtain ⟨hl, n', ds, _, hf⟩ := fields2 (t := T.api_Proc) rfl (by kernel_rfl) (by kernel_rfl) h
  match cs, hl with
  | [c0, c1, c2, c3, c4], _ =>
    obtain ⟨_, _, e0, h0, _⟩ := hf 0 _ rfl
    obtain ⟨_, _, e1, h1, _⟩ := hf 1 _ rfl
    obtain ⟨_, _, e2, h2, _⟩ := hf 2 _ rfl
    obtain ⟨_, _, e3, h3, _⟩ := hf 3 _ rfl
    obtain ⟨_, _, e4, h4, _⟩ := hf 4 _ rfl
    cases e0; cases e1; cases e2; cases e3; cases e4
    obtain ⟨s, e0, _, hs⟩ := DataW.trod_string (by kernel_rfl) h0
    obtain ⟨z1, e1, _, _⟩ := DataW.trod_int (k := .i64) (by kernel_rfl) h1
    obtain ⟨z2, e2, _, _⟩ := DataW.trod_int (k := .i64) (by kernel_rfl) h2
    cases e0; cases e1; cases e2
    obtain ⟨l3, h3, _⟩ := vars_c h3
    obtain ⟨l4, h4, _⟩ := cmds_c h4
    exact ⟨⟨s, z1, z2, l3, l4⟩, hs, c3, c4, rfl, h3, h4⟩
theorem proc_el {a : Addr} (hc : CellsAt w a cs) (h : DataW.trod enc Tryd.prog w 0 (fun _ => true) true n T.api_Proc cs = some y) : ∃ x : Abs.Proc, Abs.RProc w a x := by
  obtain ⟨x, h0, vg, va, rfl, h1, h2⟩ := proc_cs h
  exact ⟨x, h0, vg, va, hc, h1, h2⟩
theorem procs_c (h : DataW.trod enc Tryd.prog w 0 (fun _ => true) true n T.sl_api_Proc [v] = some y) : ∃ l, Abs.Procs w v l ∧ (Small Tryd.prog T.sl_api_Proc y.1 → l.length ≤ 140737488355328) :=
  cell_sl (e := T.api_Proc) 5 (by kernel_rfl) (by kernel_rfl) (by decide +kernel) (fun a cs n y hc hl ht => proc_el hc ht) h
end Go.Proofs.YtbbaokmelkiemaaDoor
end
