/- The law on a command's parts, walked. -/
import Derived.Test.YteaboocppcbkiaaDoorCmdE
set_option linter.all false
set_option maxRecDepth 4000
set_option maxHeartbeats 1600000
namespace Go.Proofs.YteaboocppcbkiaaDoor
open Go Go.RowKit Lite Go.ChangeShapes
theorem lawParts_r (c : Abs.Cmd) (vg va : Value) (p : Abs.Proc) (pv pc : Value) (cs : List Value) (s : Abs.Scope) (w : World) (ho : OwnIs w) (hn : Abs.strOk c.name) (hg : Abs.Nodes w vg c.guard) (ha : Abs.Acts w va c.acts)
    (hv : Abs.Vars w pv p.vars) (hc : Abs.Cmds w pc p.cmds) (h : Abs.ScopeIs w cs s) :
    Ret Tryd.prog F.lariatlaw13_CmdParts #[.agg (c.enc vg va).toArray, .agg (p.enc pv pc).toArray, .agg cs.toArray] w fun v w' => v = .bool true ∧ Ext w w' := by
  obtain ⟨a0, c0, a1, c1, a2, c2, a3, c3, a4, c4, rfl, _⟩ := h.form
  obtain ⟨oa, cap, rfl, hlen⟩ := ha.form
  obtain ⟨og, capg, rfl, hleng⟩ := hg.form
  obtain ⟨pa1, pc1, rfl, _⟩ := hv.form
  obtain ⟨pa2, pc2, rfl, _⟩ := hc.form
  refine K.start hmix E.lariatlaw13_CmdParts (args := [_, _, _]) (Nat.le_of_ble_eq_true rfl) ?_; dsimp only [C.lariatlaw13_CmdParts,yt,yi,yb,yp,yr,ye,yc,yv,yg,ym,yw,ya,yl,yx,ys,yn]
  refine Sg ?_
  intro w1 b1 hb1 he1 hc1
  refine Sg ?_
  intro w2 b2 hb2 he2 hc2
  refine Sg ?_
  intro w3 b3 hb3 he3 hc3
  have he := (he1.trans he2).trans he3
  have hc1 := (he2.trans he3).obj hc1
  have hc2 := he3.obj hc2
  have chk : ∀ (c' : Abs.Cmd) (vg va : Value) (w' : World), Ext w w' → Abs.strOk c'.name → Abs.Nodes w' vg c'.guard → Abs.Acts w' va c'.acts → Ret Tryd.prog F.cmd_Check #[.agg (c'.enc vg va).toArray, .agg (p.enc _ _).toArray, .agg _] w' fun v w'' =>
      v = .tuple #[.int .i64 (Abs.cmdCheck c' p.locs s).1, .int .i64 (Abs.cmdCheck c' p.locs s).2] ∧ Ext w' w'' :=
    fun c' vg va w' e h1 h2 h3 => check_r c' _ _ p _ _ _ s w' (ho.ext e) h1 h2 h3 (hv.ext e) (hc.ext e) (h.ext e)
  refine Sg ?_
  refine K.call (chk c _ _ w3 he hn (hg.ext he) (ha.ext he)) ?_
  rintro _ w4 ⟨rfl, he4⟩
  have he04 := he.trans he4
  refine Sg ?_
  refine K.cond (fun g1 => ?_) (fun g1 => ?_)
  rotate_left
  · refine Sg ?_
    refine K.call (clives_r w4 (ho.ext he04)) ?_
    rintro _ w5 ⟨rfl, he5⟩
    refine Sg ?_
    (refine ⟨?_, ?_⟩ <;> first | trivial | rfl | (repeat' first | assumption | exact Ext.refl _ | refine Ext.trans ?_ (by assumption)))
  obtain ⟨k1, k2, k3⟩ := Abs.cmdCheck_ok g1
  have h6 := (Abs.head_ok k1).2.2.2.2.2
  have hcnt := Abs.actsE_count c.acts 0 false k3
  have hc1 := he4.obj hc1
  have hc2 := he4.obj hc2
  have hc3 := he4.obj hc3
  refine Sg ?_
  refine K.forG 29 c.acts.length [3, 4, 5, 27, 28] (fun (n : Nat) => [(9, .int .i64 n)]) 0 (fun k n w' => Ext w w' ∧ Ext w4 w' ∧ n = Abs.nTalk (c.acts.take k)) (by first | trivial | rfl | exact ⟨rfl, trivial⟩ | (simp -dsimp only [LL,slots_nil,slots_cons,keepV_nil,keepV_cons,has_nil,has_cons,Nat.reduceAdd,Nat.reduceEqDiff,reduceIte,and_self]; done) | (simp -dsimp only [LL,slots_nil,slots_cons,keepV_nil,keepV_cons,has_nil,has_cons,Nat.reduceAdd,Nat.reduceEqDiff,reduceIte,and_self]; exact ⟨rfl, trivial⟩)) (by first | trivial | rfl | exact ⟨rfl, trivial⟩ | (simp -dsimp only [LL,slots_nil,slots_cons,keepV_nil,keepV_cons,has_nil,has_cons,Nat.reduceAdd,Nat.reduceEqDiff,reduceIte,and_self]; done) | (simp -dsimp only [LL,slots_nil,slots_cons,keepV_nil,keepV_cons,has_nil,has_cons,Nat.reduceAdd,Nat.reduceEqDiff,reduceIte,and_self]; exact ⟨rfl, trivial⟩)) ⟨he04, Ext.refl _, rfl⟩ ?_
  rintro k n S w5 hk ⟨he05, he45, hn5⟩
  have hc1 := he45.obj hc1
  have hc2 := he45.obj hc2
  have hc3 := he45.obj hc3
  refine Sg ?_
  refine K.cond (fun g2 => ?_) (fun g2 => ?_)
  · have hk' : k < c.acts.length := by omega
    obtain ⟨a, rfl⟩ := ha.addr (by omega)
    obtain ⟨vi, vv, hcell, hvi, hvv⟩ := ha.at k hk'
    have hnt := Abs.nTalk_take hk'
    obtain ⟨sp1, sp2⟩ := Abs.check_take g1 k
    refine Sg ?_
    intro w6 b6 hb6 he6 hc6
    have hb06 : w.heap.size ≤ b6 := by have := he05.size; omega
    have hb46 : w4.heap.size ≤ b6 := by have := he45.size; omega
    have he06 := he05.trans he6
    have he46 := he45.trans he6
    have hne1 : b1 ≠ b6 := by have := lt_of_heap hc1; omega
    have hne2 : b2 ≠ b6 := by have := lt_of_heap hc2; omega
    have hne3 : b3 ≠ b6 := by have := lt_of_heap hc3; omega
    have hc1 := he6.obj hc1
    have hc2 := he6.obj hc2
    have hc3 := he6.obj hc3
    refine Sg ?_
    refine K.slcT (k := .i64) k (by first | trivial | rfl | exact ⟨rfl, trivial⟩ | (simp -dsimp only [LL,slots_nil,slots_cons,keepV_nil,keepV_cons,has_nil,has_cons,Nat.reduceAdd,Nat.reduceEqDiff,reduceIte,and_self]; done) | (simp -dsimp only [LL,slots_nil,slots_cons,keepV_nil,keepV_cons,has_nil,has_cons,Nat.reduceAdd,Nat.reduceEqDiff,reduceIte,and_self]; exact ⟨rfl, trivial⟩)) (by have := ha.cap; omega) ?_
    refine Sg ?_
    refine K.st1 (j := 4) hc6 (Nat.le_of_ble_eq_true rfl) rfl fun w7 hw7 hc7 => ?_
    have he07 := hw7.ext he06 hb06
    have he47 := hw7.ext he46 hb46
    have hc7 : w7.heap[b6]? = some (.cells (Abs.Cmd.enc { c with acts := c.acts.take k } (.slice og c.guard.length capg) (.slice (some a) k cap)).toArray T.api_Cmd) := hc7
    have hc1 := hw7.obj hc1 hne1
    have hc2 := hw7.obj hc2 hne2
    have hc3 := hw7.obj hc3 hne3
    have ha7 : Abs.Acts w (.slice (some a) k cap) (c.acts.take k) := ha.head k (by omega)
    refine Sg ?_
    refine K.call (chk { c with acts := c.acts.take k } _ _ w7 he07 hn (hg.ext he07) (ha7.ext he07)) ?_
    rintro _ w8 ⟨rfl, he8⟩
    have he08 := he07.trans he8
    have he48 := he47.trans he8
    have hc1 := he8.obj hc1
    have hc2 := he8.obj hc2
    have hc3 := he8.obj hc3
    have hc7 := he8.obj hc7
    rw [sp1]
    refine Sg ?_
    refine K.st1 (j := 3) hc7 (Nat.le_of_ble_eq_true rfl) rfl fun w9 hw9 hc9 => ?_
    have he09 := hw9.ext he08 hb06
    have he49 := hw9.ext he48 hb46
    have hc9 : w9.heap[b6]? = some (.cells (Abs.Cmd.enc { c with acts := c.acts.take k, guard := [] } (.slice none 0 0) (.slice (some a) k cap)).toArray T.api_Cmd) := hc9
    have hc1 := hw9.obj hc1 hne1
    have hc2 := hw9.obj hc2 hne2
    have hc3 := hw9.obj hc3 hne3
    refine Sg ?_
    refine K.call (chk { c with acts := c.acts.take k, guard := [] } _ _ w9 he09 hn SlR.nil (ha7.ext he09)) ?_
    rintro _ w10 ⟨rfl, he10⟩
    have he010 := he09.trans he10
    have he410 := he49.trans he10
    have hc1 := he10.obj hc1
    rw [sp2]
    have hkind : w10.cell? (a.add (k * 5)) = some (.int .i64 c.acts[k].kind) := by have := (hcell.ext he010) 0 _ rfl; rwa [add_zero] at this
    refine Sg ?_
    refine K.ld hkind ?_
    refine Sg ?_
    refine K.cond (fun g3 => ?_) (fun g3 => ?_)
    · have hn6 : n ≤ 6 := by
        have : Abs.nTalk (c.acts.take k) ≤ c.acts.length := by
          unfold Abs.nTalk
          exact Nat.le_trans (List.length_filter_le _ _) (by rw [List.length_take]; omega)
        omega
      refine Sg ?_
      exact ⟨hk', by first | trivial | rfl, n + 1, (by first | trivial | rfl | exact ⟨rfl, trivial⟩ | (simp -dsimp only [LL,slots_nil,slots_cons,keepV_nil,keepV_cons,has_nil,has_cons,Nat.reduceAdd,Nat.reduceEqDiff,reduceIte,and_self]; done) | (simp -dsimp only [LL,slots_nil,slots_cons,keepV_nil,keepV_cons,has_nil,has_cons,Nat.reduceAdd,Nat.reduceEqDiff,reduceIte,and_self]; exact ⟨rfl, trivial⟩)), by (repeat' first | assumption | exact Ext.refl _ | refine Ext.trans ?_ (by assumption)), by (repeat' first | assumption | exact Ext.refl _ | refine Ext.trans ?_ (by assumption)), by rw [hnt, if_pos g3, hn5]⟩
    · refine Sg ?_
      exact ⟨hk', by first | trivial | rfl, n, (by first | trivial | rfl | exact ⟨rfl, trivial⟩ | (simp -dsimp only [LL,slots_nil,slots_cons,keepV_nil,keepV_cons,has_nil,has_cons,Nat.reduceAdd,Nat.reduceEqDiff,reduceIte,and_self]; done) | (simp -dsimp only [LL,slots_nil,slots_cons,keepV_nil,keepV_cons,has_nil,has_cons,Nat.reduceAdd,Nat.reduceEqDiff,reduceIte,and_self]; exact ⟨rfl, trivial⟩)), by (repeat' first | assumption | exact Ext.refl _ | refine Ext.trans ?_ (by assumption)), by (repeat' first | assumption | exact Ext.refl _ | refine Ext.trans ?_ (by assumption)), by rw [hnt, if_neg g3, hn5]; rfl⟩
  · have hle : n ≤ 1 := by
      rw [hn5, List.take_of_length_le (by omega)]
      simpa using hcnt
    refine Sg ?_
    refine K.call (clives_r w5 (ho.ext he05)) ?_
    rintro _ w6 ⟨rfl, he6⟩
    refine Sg ?_
    (refine ⟨?_, ?_⟩ <;> first | trivial | rfl | (repeat' first | assumption | exact Ext.refl _ | refine Ext.trans ?_ (by assumption)))
end Go.Proofs.YteaboocppcbkiaaDoor
