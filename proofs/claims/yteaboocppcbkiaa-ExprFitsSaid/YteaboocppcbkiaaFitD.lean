/- The law on fits. -/
import Derived.Test.YteaboocppcbkiaaFitC
import Derived.Test.YteaboocppcbkiaaExprM
import Derived.Test.YteaboocppcbkiaaOpen3
set_option linter.all false
set_option maxRecDepth 4000
set_option maxHeartbeats 3200000
namespace Go.Proofs.Yteaboocppcbkiaa
open Go Go.RowKit Lite Go.ChangeShapes
theorem lawFits_r (ve : Value) (e : List Abs.Node) (cs : List Value) (s : Abs.Scope) (vr : Value) (raw : List Int) (w : World) (he : Abs.Nodes w ve e) (h : Abs.ScopeIs w cs s) (hr : IntsB w vr raw)
    (b1 : s.vars.length ≤ 140737488355328) (b2 : s.chans.length ≤ 140737488355328) (b3 : s.procs.length ≤ 140737488355328) (b4 : s.locals.length ≤ 140737488355328) :
    Ret Try.prog F.lariatlaw10_ExprFits #[ve, .agg cs.toArray, vr] w fun v w' => v = .bool true ∧ Ext w w' := by
  obtain ⟨a0, c0, a1, c1, a2, c2, a3, c3, a4, c4, rfl, h0, h1, h2, h3, h4, l0, l1, l2, l3, l4⟩ := h.form
  obtain ⟨oe, ce, rfl, hle⟩ := he.form
  obtain ⟨oa, cap, rfl, hlen⟩ := hr.form
  refine K.start hmix E.lariatlaw10_ExprFits (args := [_, _, _]) (Nat.le_of_ble_eq_true rfl) ?_; dsimp only [C.lariatlaw10_ExprFits,yt,yi,yb,yp,yr,ye,yc,yv,yg,ym,yw,ya,yl,yx,ys,yn]
  refine Sg ?_
  intro w5 p5 hp5 he5 hc5
  refine Sg ?_
  refine K.cond (fun g1 => ?_) (fun g1 => ?_)
  · refine Sg ?_
    refine K.call (elives_r w5) ?_
    rintro _ w6 ⟨rfl, he6⟩
    refine Sg ?_
    exact ⟨trivial, he5.trans he6⟩
  refine Sg ?_
  refine K.call (env_r _ s _ raw w5 (h.ext he5) (hr.ext he5) (by omega)) ?_
  rintro _ w6 ⟨⟨⟨q0, m0, n0⟩, ⟨q1, m1, n1⟩, ⟨q2, m2, n2⟩, ⟨q3, m3, n3⟩, z, ok, rfl, hok⟩, he6⟩
  dsimp only at hok
  have he56 := he5.trans he6
  have hc6 := he6.obj hc5
  refine Sg ?_
  intro w7 p7 hp7 he7 hc7
  have he57 := he56.trans he7
  have hc57 := he7.obj hc6
  refine Sg ?_
  refine K.call (kind_r _ e _ s w7 (he.ext he57) (h.ext he57)) ?_
  rintro _ w8 ⟨rfl, he8⟩
  have he58 := he57.trans he8
  have hc8 := he8.obj hc7
  have hc58 := he8.obj hc57
  generalize hk : Abs.kind e s = kk at *
  obtain ⟨k, why⟩ := kk
  cases ok with
  | false =>
    refine Sg ?_
    refine K.call (elives_r w8) ?_
    rintro _ w9 ⟨rfl, he9⟩
    refine Sg ?_
    exact ⟨trivial, he58.trans he9⟩
  | true =>
    obtain ⟨x, hx, hF⟩ := hok rfl
    refine Sg ?_
    refine K.cond (fun g2 => ?_) (fun g2 => ?_)
    rotate_left
    · refine Sg ?_
      refine K.call (elives_r w8) ?_
      rintro _ w9 ⟨rfl, he9⟩
      refine Sg ?_
      exact ⟨trivial, he58.trans he9⟩
    have hfit := Abs.fits_law hF (e := e) (by rw [hk]; exact g2)
    refine Sg ?_
    refine K.call (eval_r _ e _ x w8 (he.ext he58) (hx.ext (he7.trans he8))) ?_
    rintro _ w9 ⟨rfl, he9⟩
    have he59 := he58.trans he9
    have hc9 := he9.obj hc58
    rw [hk] at hfit
    generalize hv : Abs.eval e x = ev at *
    obtain ⟨y, why2⟩ := ev
    dsimp only at hfit
    rcases hfit with ⟨rfl, hf⟩ | ⟨rfl, rfl⟩
    · rcases hf with ⟨rfl, f1, f2⟩ | ⟨rfl, f1⟩ | ⟨f1, f2, f3, f4⟩
      · refine Sg ?_
        refine K.call (elives_r w9) ?_
        rintro _ w10 ⟨rfl, he10⟩
        refine Sg ?_
        exact ⟨trivial, he59.trans he10⟩
      · rcases f1 with rfl | rfl
        · refine Sg ?_
          refine K.call (elives_r w9) ?_
          rintro _ w10 ⟨rfl, he10⟩
          refine Sg ?_
          exact ⟨trivial, he59.trans he10⟩
        · refine Sg ?_
          refine K.call (elives_r w9) ?_
          rintro _ w10 ⟨rfl, he10⟩
          refine Sg ?_
          exact ⟨trivial, he59.trans he10⟩
      · obtain ⟨j, hj⟩ := Int.eq_ofNat_of_zero_le (show 0 ≤ k - 2 by omega)
        have hj' : j < s.scalars.length := by omega
        obtain ⟨a, rfl⟩ := h0.addr (by omega)
        rw [Abs.ssize_get (by omega) (by omega)] at f4
        have : (k - 1 - 1).toNat = j := by omega
        simp only [this] at f4
        refine Sg ?_
        rw [hj]
        refine Sg ?_
        refine K.call (elives_r w9) ?_
        rintro _ w10 ⟨rfl, he10⟩
        refine Sg ?_
        exact ⟨trivial, he59.trans he10⟩
    · refine Sg ?_
      refine K.call (elives_r w9) ?_
      rintro _ w10 ⟨rfl, he10⟩
      refine Sg ?_
      exact ⟨trivial, he59.trans he10⟩
variable {H : Type} {enc : TypeId × Value → H} {w : World} {r : Reach} {b0 : Nat} {v : Value} {d : DataW H} {p : List MemPlace}
theorem open_scopeS (hval : Value.okWide Try.prog w r b0 T.api_Scope v) (h : DataW.Trod enc Try.prog w 0 (fun _ => true) true T.api_Scope v d p) (hs : Small Try.prog T.api_Scope d) : ∃ cs s, v = .agg cs.toArray ∧ Abs.ScopeIs w cs s ∧
    s.vars.length ≤ 140737488355328 ∧ s.chans.length ≤ 140737488355328 ∧ s.procs.length ≤ 140737488355328 ∧ s.locals.length ≤ 140737488355328 := by
  obtain ⟨cs, n, rfl, ht⟩ := open_st2 (t := T.api_Scope) rfl hval h
  obtain ⟨hl, n', ds, rfl, hf⟩ := fields2 (t := T.api_Scope) rfl (by kernel_rfl) (by kernel_rfl) ht
  obtain ⟨cs⟩ := cs
  match cs, hl with
  | [c0, c1, c2, c3, c4, c5], _ =>
    obtain ⟨_, _, e0, h0, d0⟩ := hf 0 _ rfl
    obtain ⟨_, _, e1, h1, d1⟩ := hf 1 _ rfl
    obtain ⟨_, _, e2, h2, d2⟩ := hf 2 _ rfl
    obtain ⟨_, _, e3, h3, d3⟩ := hf 3 _ rfl
    obtain ⟨_, _, e4, h4, d4⟩ := hf 4 _ rfl
    obtain ⟨_, _, e5, h5, _⟩ := hf 5 _ rfl
    cases e0; cases e1; cases e2; cases e3; cases e4; cases e5
    obtain ⟨z, e5, _, kz⟩ := DataW.trod_int (k := .i64) (by kernel_rfl) h5
    cases e5
    obtain ⟨l0, r0, b0⟩ := scalars_c h0
    obtain ⟨l1, r1, b1⟩ := vars_c h1
    obtain ⟨l2, r2, b2⟩ := chans_c h2
    obtain ⟨l3, r3, b3⟩ := procs_c h3
    obtain ⟨l4, r4, b4⟩ := vars_c h4
    have k0 := b0 (hs.field rfl rfl rfl d0)
    have k1 := b1 (hs.field rfl rfl rfl d1)
    have k2 := b2 (hs.field rfl rfl rfl d2)
    have k3 := b3 (hs.field rfl rfl rfl d3)
    have k4 := b4 (hs.field rfl rfl rfl d4)
    exact ⟨[c0, c1, c2, c3, c4, .int .i64 z], ⟨l0, l1, l2, l3, l4, z⟩, rfl, ⟨⟨by show l1.length ≤ _; omega, by show l2.length ≤ _; omega, by show l3.length ≤ _; omega, by show l4.length ≤ _; omega, wf_inI kz⟩,
      c0, c1, c2, c3, c4, rfl, r0, r1, r2, r3, r4, by show l0.length ≤ _; omega⟩, k1, k2, k3, k4⟩
theorem walk_ExprFits {H : Type} {enc : TypeId × Value → H} {r : Reach} {b0 : Nat} {d0 d1 d2 : DataW H} {p0 p1 p2 : List MemPlace} (v0 v1 v2 : Value) (W : World)
    (k0 : Value.okWide Try.prog W r b0 T.sl_api_Node v0) (h0 : DataW.Trod enc Try.prog W 0 (fun _ => true) true T.sl_api_Node v0 d0 p0) (_s0 : Small Try.prog T.sl_api_Node d0)
    (k1 : Value.okWide Try.prog W r b0 T.api_Scope v1) (h1 : DataW.Trod enc Try.prog W 0 (fun _ => true) true T.api_Scope v1 d1 p1) (s1 : Small Try.prog T.api_Scope d1)
    (k2 : Value.okWide Try.prog W r b0 T.sl_int v2) (h2 : DataW.Trod enc Try.prog W 0 (fun _ => true) true T.sl_int v2 d2 p2) (_s2 : Small Try.prog T.sl_int d2) :
    Ret Try.prog F.lariatlaw10_ExprFits #[v0, v1, v2] W fun v w' => v = .bool true ∧ Ext W w' := by
  obtain ⟨e, he⟩ := open_nodes k0 h0
  obtain ⟨cs, s, rfl, hs, b1, b2, b3, b4⟩ := open_scopeS k1 h1 s1
  obtain ⟨l, hl⟩ := open_ints k2 h2
  exact lawFits_r v0 e cs s v2 l W he hs hl b1 b2 b3 b4
end Go.Proofs.Yteaboocppcbkiaa
