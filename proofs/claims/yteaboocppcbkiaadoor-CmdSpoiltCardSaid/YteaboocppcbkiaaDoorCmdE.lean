/- The laws on commands, walked. -/
import Derived.Test.YteaboocppcbkiaaDoorCmdD
set_option linter.all false
set_option maxRecDepth 4000
set_option maxHeartbeats 1600000
namespace Go.Proofs.YteaboocppcbkiaaDoor
open Go Go.RowKit Lite Go.ChangeShapes
theorem open_cmd {H : Type} {enc : TypeId × Value → H} {w : World} {r : Reach} {b0 : Nat} {v : Value} {d : DataW H} {p : List MemPlace} (hval : Value.okWide Tryd.prog w r b0 T.api_Cmd v) (h : DataW.Trod enc Tryd.prog w 0 (fun _ => true) true T.api_Cmd v d p) :
    ∃ cs c, v = .agg cs.toArray ∧ Abs.CmdIs w cs c := by
  obtain ⟨cs, n, rfl, ht⟩ := open_st2 (t := T.api_Cmd) rfl hval h
  obtain ⟨x, hx⟩ := cmd_cs ht
  exact ⟨cs.toList, x, rfl, hx⟩
theorem open_proc {H : Type} {enc : TypeId × Value → H} {w : World} {r : Reach} {b0 : Nat} {v : Value} {d : DataW H} {p : List MemPlace} (hval : Value.okWide Tryd.prog w r b0 T.api_Proc v) (h : DataW.Trod enc Tryd.prog w 0 (fun _ => true) true T.api_Proc v d p) :
    ∃ cs c, v = .agg cs.toArray ∧ Abs.ProcIs w cs c := by
  obtain ⟨cs, n, rfl, ht⟩ := open_st2 (t := T.api_Proc) rfl hval h
  obtain ⟨x, hx⟩ := proc_cs ht
  exact ⟨cs.toList, x, rfl, hx⟩
theorem open_chans {H : Type} {enc : TypeId × Value → H} {w : World} {r : Reach} {b0 : Nat} {v : Value} {d : DataW H} {p : List MemPlace} (hval : Value.okWide Tryd.prog w r b0 T.sl_api_Chan v) (h : DataW.Trod enc Tryd.prog w 0 (fun _ => true) true T.sl_api_Chan v d p) : ∃ l, Abs.Chans w v l := by
  obtain ⟨n, hn⟩ := arg_sl (e := T.api_Chan) (by kernel_rfl) hval h
  obtain ⟨l, hl, _⟩ := chans_c hn
  exact ⟨l, hl⟩
theorem lawComms_r (c : Abs.Cmd) (vg va vc : Value) (l : List Abs.Chan) (w : World) (ho : OwnIs w) (ha : Abs.Acts w va c.acts) (hg : Abs.Nodes w vg c.guard) (hl : Abs.Chans w vc l) :
    Ret Tryd.prog F.lariatlaw13_CmdComms #[.agg (c.enc vg va).toArray, vc] w fun v w' => v = .bool true ∧ Ext w w' := by
  obtain ⟨oa, cap, rfl, hlen⟩ := ha.form
  obtain ⟨og, capg, rfl, hleng⟩ := hg.form
  refine K.start hmix E.lariatlaw13_CmdComms (args := [_, _]) (Nat.le_of_ble_eq_true rfl) ?_; dsimp only [C.lariatlaw13_CmdComms,yt,yi,yb,yp,yr,ye,yc,yv,yg,ym,yw,ya,yl,yx,ys,yn]
  refine Sg ?_
  intro w1 b1 hb1 he1 hc1
  refine Sg ?_
  refine K.call (comm_r c _ _ w1 (ha.ext he1)) ?_
  rintro _ w2 ⟨rfl, he2⟩
  refine Sg ?_
  refine K.call (rcomm_r c _ _ w2 (ha.ext (he1.trans he2))) ?_
  rintro _ w3 ⟨rfl, he3⟩
  have he03 := (he1.trans he2).trans he3
  have hc1 := (he2.trans he3).obj hc1
  refine Sg ?_
  refine K.qfn _ (fun w' e => ways_r c _ _ _ l w' (ha.ext (he03.trans e)) (hl.ext (he03.trans e))) ?_
  refine Sg ?_
  refine K.qfn _ (fun w' e => rways_r c _ _ _ l w' (ha.ext (he03.trans e)) (hl.ext (he03.trans e))) ?_
  refine Sg ?_
  refine K.qfn _ (fun w' e => clives_r w' (ho.ext (he03.trans e))) ?_
  refine Sg ?_
  intro w4 he4
  refine Sg ?_
  (refine ⟨?_, ?_⟩ <;> first | trivial | rfl | (repeat' first | assumption | exact Ext.refl _ | refine Ext.trans ?_ (by assumption)))
theorem lawSpoilt_r (c : Abs.Cmd) (vg va : Value) (p : Abs.Proc) (pv pc : Value) (cs : List Value) (s : Abs.Scope) (w : World) (ho : OwnIs w) (hn : Abs.strOk c.name) (hg : Abs.Nodes w vg c.guard) (ha : Abs.Acts w va c.acts)
    (hv : Abs.Vars w pv p.vars) (hc : Abs.Cmds w pc p.cmds) (h : Abs.ScopeIs w cs s) :
    Ret Tryd.prog F.lariatlaw13_CmdSpoilt #[.agg (c.enc vg va).toArray, .agg (p.enc pv pc).toArray, .agg cs.toArray] w fun v w' => v = .bool true ∧ Ext w w' := by
  obtain ⟨a0, c0, a1, c1, a2, c2, a3, c3, a4, c4, rfl, _⟩ := h.form
  obtain ⟨oa, cap, rfl, hlen⟩ := ha.form
  obtain ⟨og, capg, rfl, hleng⟩ := hg.form
  obtain ⟨_, _, rfl, _⟩ := hv.form
  obtain ⟨_, _, rfl, _⟩ := hc.form
  refine K.start hmix E.lariatlaw13_CmdSpoilt (args := [_, _, _]) (Nat.le_of_ble_eq_true rfl) ?_; dsimp only [C.lariatlaw13_CmdSpoilt,yt,yi,yb,yp,yr,ye,yc,yv,yg,ym,yw,ya,yl,yx,ys,yn]
  refine Sg ?_
  intro w1 b1 hb1 he1 hc1
  refine Sg ?_
  intro w2 b2 hb2 he2 hc2
  refine Sg ?_
  intro w3 b3 hb3 he3 hc3
  have he := (he1.trans he2).trans he3
  have hc1 := (he2.trans he3).obj hc1
  have hc2 := he3.obj hc2
  have chk : ∀ (c' : Abs.Cmd) (w' : World), Ext w w' → Abs.strOk c'.name → c'.guard = c.guard → c'.acts = c.acts → Ret Tryd.prog F.cmd_Check #[.agg (c'.enc (.slice og c.guard.length capg) (.slice oa c.acts.length cap)).toArray, .agg (p.enc _ _).toArray, .agg _] w' fun v w'' =>
      v = .tuple #[.int .i64 (Abs.cmdCheck c' p.locs s).1, .int .i64 (Abs.cmdCheck c' p.locs s).2] ∧ Ext w' w'' :=
    fun c' w' e h1 h2 h3 => check_r c' _ _ p _ _ _ s w' (ho.ext e) h1 (by rw [h2]; exact hg.ext e) (by rw [h3]; exact ha.ext e) (hv.ext e) (hc.ext e) (h.ext e)
  refine Sg ?_
  refine K.call (chk c w3 he hn rfl rfl) ?_
  rintro _ w4 ⟨rfl, he4⟩
  have he04 := he.trans he4
  refine Sg ?_
  refine K.cond (fun g1 => ?_) (fun g1 => ?_)
  rotate_left
  · refine Sg ?_
    refine K.call (clives_r w4 (ho.ext he04)) ?_
    rintro _ w5 ⟨rfl, he5⟩
    refine Sg ?_
    (refine ⟨?_, ?_⟩ <;> first | trivial | rfl | (repeat' first | assumption | exact Ext.refl _ | refine Ext.trans ?_ (by assumption)))
  obtain ⟨sp1, sp2, sp3⟩ := Abs.check_spoilt g1
  have hc1 := he4.obj hc1
  have hc2 := he4.obj hc2
  have hc3 := he4.obj hc3
  refine Sg ?_
  intro w5 b5 hb5 he5 hc5
  have hc1' := hc1
  have hc2' := hc2
  have hc3' := hc3
  have hc1 := he5.obj hc1
  have hc2 := he5.obj hc2
  have hc3 := he5.obj hc3
  have he05 := he04.trans he5
  have hb05 : w.heap.size ≤ b5 := by have := he04.size; omega
  refine Sg ?_
  refine K.st1 (j := 2) hc5 (Nat.le_of_ble_eq_true rfl) rfl fun w6 hw6 hc6 => ?_
  have he06 := hw6.ext he05 hb05
  have hc6 : w6.heap[b5]? = some (.cells (Abs.Cmd.enc { c with to := p.locs } (.slice og c.guard.length capg) (.slice oa c.acts.length cap)).toArray T.api_Cmd) := hc6
  have hne1 : b1 ≠ b5 := by have := lt_of_heap (hc1'); omega
  have hne2 : b2 ≠ b5 := by have := lt_of_heap (hc2'); omega
  have hne3 : b3 ≠ b5 := by have := lt_of_heap (hc3'); omega
  have hc1 := hw6.obj hc1 hne1
  have hc2 := hw6.obj hc2 hne2
  have hc3 := hw6.obj hc3 hne3
  refine Sg ?_
  refine K.call (chk { c with to := p.locs } w6 he06 hn rfl rfl) ?_
  rintro _ w7 ⟨rfl, he7⟩
  have he07 := he06.trans he7
  have hc1 := he7.obj hc1
  have hc2 := he7.obj hc2
  have hc3 := he7.obj hc3
  have hc5 := he7.obj hc6
  refine Sg ?_
  intro w8 hw8 hc8
  have he08 := hw8.ext he07 hb05
  have hc1 := hw8.obj hc1 hne1
  have hc2 := hw8.obj hc2 hne2
  have hc3 := hw8.obj hc3 hne3
  refine Sg ?_
  refine K.st1 (j := 1) hc8 (Nat.le_of_ble_eq_true rfl) rfl fun w9 hw9 hc9 => ?_
  have hc9 : w9.heap[b5]? = some (.cells (Abs.Cmd.enc { c with from_ := -1 } (.slice og c.guard.length capg) (.slice oa c.acts.length cap)).toArray T.api_Cmd) := hc9
  have he09 := hw9.ext he08 hb05
  have hc1 := hw9.obj hc1 hne1
  have hc2 := hw9.obj hc2 hne2
  have hc3 := hw9.obj hc3 hne3
  refine Sg ?_
  refine K.call (chk { c with from_ := -1 } w9 he09 hn rfl rfl) ?_
  rintro _ w10 ⟨rfl, he10⟩
  have he010 := he09.trans he10
  have hc1 := he10.obj hc1
  have hc2 := he10.obj hc2
  have hc3 := he10.obj hc3
  have hc5 := he10.obj hc9
  refine Sg ?_
  intro w11 hw11 hc11
  have he011 := hw11.ext he010 hb05
  have hc1 := hw11.obj hc1 hne1
  have hc2 := hw11.obj hc2 hne2
  have hc3 := hw11.obj hc3 hne3
  refine Sg ?_
  refine K.st1 (j := 0) hc11 (Nat.le_of_ble_eq_true rfl) rfl fun w12 hw12 hc12 => ?_
  have hc12 : w12.heap[b5]? = some (.cells (Abs.Cmd.enc { c with name := ⟨#[]⟩ } (.slice og c.guard.length capg) (.slice oa c.acts.length cap)).toArray T.api_Cmd) := hc12
  have he012 := hw12.ext he011 hb05
  have hc1 := hw12.obj hc1 hne1
  have hc2 := hw12.obj hc2 hne2
  have hc3 := hw12.obj hc3 hne3
  refine Sg ?_
  refine K.call (chk { c with name := ⟨#[]⟩ } w12 he012 (by show Abs.strOk ⟨#[]⟩; decide) rfl rfl) ?_
  rintro _ w13 ⟨rfl, he13⟩
  have he013 := he012.trans he13
  rw [sp1, sp2, sp3]
  refine Sg ?_
  refine K.call (clives_r w13 (ho.ext he013)) ?_
  rintro _ w14 ⟨rfl, he14⟩
  refine Sg ?_
  (refine ⟨?_, ?_⟩ <;> first | trivial | rfl | (repeat' first | assumption | exact Ext.refl _ | refine Ext.trans ?_ (by assumption)))
end Go.Proofs.YteaboocppcbkiaaDoor
