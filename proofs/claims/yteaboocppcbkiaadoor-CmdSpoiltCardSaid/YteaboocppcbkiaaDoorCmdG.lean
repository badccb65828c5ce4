/- The law on a command's values, walked. -/
import Derived.Test.YteaboocppcbkiaaDoorCmdE
set_option linter.all false
set_option maxRecDepth 4000
set_option maxHeartbeats 1600000
namespace Go.Proofs.YteaboocppcbkiaaDoor
open Go Go.RowKit Lite Go.ChangeShapes
theorem one_node {w : World} {b : Nat} {e : TypeId} {op n : Int} (h : w.heap[b]? = some (.cells #[.int .i64 op, .int .i64 n] e)) (h1 : Abs.inI op) (h2 : Abs.inI n) : Abs.Nodes w (.slice (some ⟨b, 0, none⟩) 1 1) [⟨op, n⟩] :=
  Abs.Nodes.blk h rfl (by show 1 ≤ maxLen; decide) (by
    intro x hx
    simp only [List.mem_cons, List.not_mem_nil, or_false] at hx
    subst hx
    exact ⟨h1, h2⟩)
theorem lawValues_r (c : Abs.Cmd) (vg va : Value) (p : Abs.Proc) (pv pc : Value) (cs : List Value) (s : Abs.Scope) (w : World) (ho : OwnIs w) (hn : Abs.strOk c.name) (hg : Abs.Nodes w vg c.guard) (ha : Abs.Acts w va c.acts)
    (hv : Abs.Vars w pv p.vars) (hc : Abs.Cmds w pc p.cmds) (h : Abs.ScopeIs w cs s) :
    Ret Tryd.prog F.lariatlaw13_CmdValues #[.agg (c.enc vg va).toArray, .agg (p.enc pv pc).toArray, .agg cs.toArray] w fun v w' => v = .bool true ∧ Ext w w' := by
  have hsm := h.sm
  obtain ⟨a0, c0, a1, c1, a2, c2, a3, c3, a4, c4, rfl, _⟩ := h.form
  obtain ⟨oa, cap, rfl, hlen⟩ := ha.form
  obtain ⟨og, capg, rfl, hleng⟩ := hg.form
  obtain ⟨pa1, pc1, rfl, _⟩ := hv.form
  obtain ⟨pa2, pc2, rfl, _⟩ := hc.form
  refine K.start hmix E.lariatlaw13_CmdValues (args := [_, _, _]) (Nat.le_of_ble_eq_true rfl) ?_; dsimp only [C.lariatlaw13_CmdValues,yt,yi,yb,yp,yr,ye,yc,yv,yg,ym,yw,ya,yl,yx,ys,yn]
  refine Sg ?_
  intro w1 b1 hb1 he1 hc1
  refine Sg ?_
  intro w2 b2 hb2 he2 hc2
  refine Sg ?_
  intro w3 b3 hb3 he3 hc3
  have he := (he1.trans he2).trans he3
  have hc1 := (he2.trans he3).obj hc1
  have hc2 := he3.obj hc2
  refine Sg ?_
  refine K.call (check_r c _ _ p _ _ _ s w3 (ho.ext he) hn (hg.ext he) (ha.ext he) (hv.ext he) (hc.ext he) (h.ext he)) ?_
  rintro _ w4 ⟨rfl, he4⟩
  have he04 := he.trans he4
  refine Sg ?_
  refine K.cond (fun g1 => ?_) (fun g1 => ?_)
  rotate_left
  · refine Sg ?_
    refine K.call (clives_r w4 (ho.ext he04)) ?_
    rintro _ w5 ⟨rfl, he5⟩
    refine Sg ?_
    (refine ⟨?_, ?_⟩ <;> first | trivial | rfl | (repeat' first | assumption | exact Ext.refl _ | refine Ext.trans ?_ (by assumption)))
  obtain ⟨k1, k2, k3⟩ := Abs.cmdCheck_ok g1
  have hev := Abs.actsE_each c.acts 0 false k3
  have hc1 := he4.obj hc1
  have hc3 := he4.obj hc3
  refine Su ?_
  refine K.cutG [3, 5] (fun _ => []) (fun (_ : Unit) w' => Ext w4 w') ?_ ?_
  · refine Sg ?_
    refine K.cond (fun g2 => ?_) (fun g2 => ?_)
    · refine Sg ?_
      refine K.call (kind_r _ c.guard _ s w4 (hg.ext he04) (h.ext he04)) ?_
      rintro _ w5 ⟨rfl, he5⟩
      rw [Abs.asked_ok (k2 (by omega))]
      refine Sg ?_
      exact ⟨(), trivial, he5⟩
    · refine Sg ?_
      exact ⟨(), trivial, Ext.refl _⟩
  rintro _ S w5 he5
  have hc1 := he5.obj hc1
  have hc3 := he5.obj hc3
  have he05 := he04.trans he5
  refine Sg ?_
  refine K.forG 48 c.acts.length [3, 5, 46, 47] (fun _ => []) () (fun k _ w' => Ext w w' ∧ Ext w5 w') (by first | trivial | rfl | exact ⟨rfl, trivial⟩ | (simp -dsimp only [LL,slots_nil,slots_cons,keepV_nil,keepV_cons,has_nil,has_cons,Nat.reduceAdd,Nat.reduceEqDiff,reduceIte,and_self]; done) | (simp -dsimp only [LL,slots_nil,slots_cons,keepV_nil,keepV_cons,has_nil,has_cons,Nat.reduceAdd,Nat.reduceEqDiff,reduceIte,and_self]; exact ⟨rfl, trivial⟩)) (by first | trivial | rfl | exact ⟨rfl, trivial⟩ | (simp -dsimp only [LL,slots_nil,slots_cons,keepV_nil,keepV_cons,has_nil,has_cons,Nat.reduceAdd,Nat.reduceEqDiff,reduceIte,and_self]; done) | (simp -dsimp only [LL,slots_nil,slots_cons,keepV_nil,keepV_cons,has_nil,has_cons,Nat.reduceAdd,Nat.reduceEqDiff,reduceIte,and_self]; exact ⟨rfl, trivial⟩)) ⟨he05, Ext.refl _⟩ ?_
  rintro k _ S w6 hk ⟨he06, he56⟩
  have hc1 := he56.obj hc1
  have hc3 := he56.obj hc3
  refine Sg ?_
  refine K.cond (fun g2 => ?_) (fun g2 => ?_)
  · have hk' : k < c.acts.length := by omega
    obtain ⟨a, rfl⟩ := ha.addr (by omega)
    obtain ⟨vi, vv, hcell, hvi, hvv⟩ := ha.at k hk'
    obtain ⟨_, _, rfl, _⟩ := hvi.form
    obtain ⟨_, _, rfl, _⟩ := hvv.form
    have he' := hev _ (List.getElem_mem hk')
    refine Sg ?_
    refine K.ldA (hcell.ext he06) rfl ?_
    refine Sg ?_
    intro w7 b7 hb7 he7 hc7
    have he07 := he06.trans he7
    have he57 := he56.trans he7
    have hc3 := he7.obj hc3
    refine Sg ?_
    refine K.cond (fun g3 => ?_) (fun g3 => ?_)
    · obtain ⟨kd, q1, q2⟩ := Abs.act_values he' (.inl g3)
      rw [if_pos g3] at q1
      have hto : Abs.inI c.acts[k].to := Abs.kind_in1 (by first | exact Or.inl rfl | exact Or.inr rfl) hsm q1
      refine Sg ?_
      intro w8 b8 hb8 he8 hc8
      have he08 := he07.trans he8
      have he58 := he57.trans he8
      have hc3 := he8.obj hc3
      have hc7 := he8.obj hc7
      refine Sg ?_
      refine K.call (kind_r _ _ _ s w8 (one_node hc8 ⟨by decide, by decide⟩ hto) (h.ext he08)) ?_
      rintro _ w9 ⟨rfl, he9⟩
      have he09 := he08.trans he9
      have he59 := he58.trans he9
      have hc3 := he9.obj hc3
      have hc7 := he9.obj hc7
      rw [q1]
      refine Sg ?_
      refine K.call (kind_r _ _ _ s w9 (hvv.ext he09) (h.ext he09)) ?_
      rintro _ w10 ⟨rfl, he10⟩
      rw [q2]
      refine Sg ?_
      exact ⟨hk', by first | trivial | rfl, (), trivial, by (repeat' first | assumption | exact Ext.refl _ | refine Ext.trans ?_ (by assumption)), by (repeat' first | assumption | exact Ext.refl _ | refine Ext.trans ?_ (by assumption))⟩
    refine Sg ?_
    refine K.cond (fun g4 => ?_) (fun g4 => ?_)
    · obtain ⟨kd, q1, q2⟩ := Abs.act_values he' (.inr g4)
      rw [if_neg g3] at q1
      have hto : Abs.inI c.acts[k].to := Abs.kind_in1 (by first | exact Or.inl rfl | exact Or.inr rfl) hsm q1
      refine Sg ?_
      intro w8 b8 hb8 he8 hc8
      have he08 := he07.trans he8
      have he58 := he57.trans he8
      have hc3 := he8.obj hc3
      have hc7 := he8.obj hc7
      refine Sg ?_
      refine K.call (kind_r _ _ _ s w8 (one_node hc8 ⟨by decide, by decide⟩ hto) (h.ext he08)) ?_
      rintro _ w9 ⟨rfl, he9⟩
      have he09 := he08.trans he9
      have he59 := he58.trans he9
      have hc3 := he9.obj hc3
      have hc7 := he9.obj hc7
      rw [q1]
      refine Sg ?_
      refine K.call (kind_r _ _ _ s w9 (hvv.ext he09) (h.ext he09)) ?_
      rintro _ w10 ⟨rfl, he10⟩
      rw [q2]
      refine Sg ?_
      exact ⟨hk', by first | trivial | rfl, (), trivial, by (repeat' first | assumption | exact Ext.refl _ | refine Ext.trans ?_ (by assumption)), by (repeat' first | assumption | exact Ext.refl _ | refine Ext.trans ?_ (by assumption))⟩
    refine Sg ?_
    exact ⟨hk', by first | trivial | rfl, (), trivial, by (repeat' first | assumption | exact Ext.refl _ | refine Ext.trans ?_ (by assumption)), by (repeat' first | assumption | exact Ext.refl _ | refine Ext.trans ?_ (by assumption))⟩
  · refine Sg ?_
    refine K.call (clives_r w6 (ho.ext he06)) ?_
    rintro _ w7 ⟨rfl, he7⟩
    refine Sg ?_
    (refine ⟨?_, ?_⟩ <;> first | trivial | rfl | (repeat' first | assumption | exact Ext.refl _ | refine Ext.trans ?_ (by assumption)))
end Go.Proofs.YteaboocppcbkiaaDoor
