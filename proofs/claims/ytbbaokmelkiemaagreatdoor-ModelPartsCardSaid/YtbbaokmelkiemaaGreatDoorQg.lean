/- Texts joined: ProcA ProcB Lite16 ProcC ProcD LiteR CodeR ProcE ProcQ LibR ProcF ProcG ProcH ExprD. -/
import Derived.Test.YtbbaokmelkiemaaGreatDoorQd
import Derived.Test.YtbbaokmelkiemaaGreatDoorQe
import Derived.Test.YtbbaokmelkiemaaGreatDoorQf
import Derived.RangeFuncLeaves
import Derived.RangeFuncWrites
set_option linter.all false
section
/- Processes: scopes and their copies. -/
set_option maxRecDepth 4000
set_option maxHeartbeats 1600000
namespace Abs
open Go Go.RowKit Lite
structure Scope.good (s : Scope) : Prop where
  scalars : big s.scalars.length 24
  vars : big s.vars.length 56
  chans : big s.chans.length 56
  procs : big s.procs.length 80
  locals : big s.locals.length 56
  proc : ∀ a ∈ s.procs, a.good
  self : inI s.self
theorem Model.good.scope {m : Model} (h : m.good) : (mscope m).good := ⟨h.scalars, h.vars, h.chans, h.procs, by simp [mscope, big], h.proc, by simp [mscope, inI]⟩
theorem Scope.good.inner {s : Scope} {p : Proc} (h : s.good) (hp : p.good) : (inner p s).good := ⟨h.scalars, h.vars, h.chans, h.procs, hp.vars, h.proc, hp.over⟩
theorem Scope.good.sm {s : Scope} (h : s.good) : (s.vars.length ≤ 1152921504606846976 ∧ s.chans.length ≤ 1152921504606846976 ∧ s.procs.length ≤ 1152921504606846976 ∧ s.locals.length ≤ 1152921504606846976 ∧ inI s.self) ∧ s.scalars.length ≤ 4611686018427387904 := by
  have h0 := h.scalars
  have h1 := h.vars
  have h2 := h.chans
  have h3 := h.procs
  have h4 := h.locals
  unfold big at h0 h1 h2 h3 h4
  exact ⟨⟨by omega, by omega, by omega, by omega, h.self⟩, by omega⟩
end Abs
namespace Go.Proofs.YtbbaokmelkiemaaGreatDoor
open Go Go.RowKit Lite
theorem nclone_r (v : Value) (xs : List Abs.Node) (w : World) (h : Abs.Nodes w v xs) (hb : Abs.big xs.length 16) :
    Ret Tryz.prog F.slices_Clone_sl_api_Node_api_Node #[v] w fun v' w' => (∃ oa c, v' = .slice oa xs.length c) ∧ New w (fun w => Abs.Nodes w v' xs) w' ∧ Ext w w' :=
  cloneF_r hmix E.slices_Clone_sl_api_Node_api_Node (by kernel_rfl) (fun h => h) v xs w h (by unfold Abs.big at hb; omega)
theorem vclone_r (v : Value) (xs : List Abs.Var) (w : World) (h : Abs.Vars w v xs) (hb : Abs.big xs.length 56) :
    Ret Tryz.prog F.slices_Clone_sl_api_Var_api_Var #[v] w fun v' w' => (∃ oa c, v' = .slice oa xs.length c) ∧ New w (fun w => Abs.Vars w v' xs) w' ∧ Ext w w' :=
  cloneF_r hmix E.slices_Clone_sl_api_Var_api_Var (by kernel_rfl) (fun h => h) v xs w h (by unfold Abs.big at hb; omega)
theorem sclone_r (v : Value) (xs : List Abs.Scalar) (w : World) (h : Abs.Scalars w v xs) (hb : Abs.big xs.length 24) :
    Ret Tryz.prog F.slices_Clone_sl_api_Scalar_api_Scalar #[v] w fun v' w' => (∃ oa c, v' = .slice oa xs.length c) ∧ New w (fun w => Abs.Scalars w v' xs) w' ∧ Ext w w' :=
  cloneF_r hmix E.slices_Clone_sl_api_Scalar_api_Scalar (by kernel_rfl) (fun h => h) v xs w h (by unfold Abs.big at hb; omega)
theorem chclone_r (v : Value) (xs : List Abs.Chan) (w : World) (h : Abs.Chans w v xs) (hb : Abs.big xs.length 56) :
    Ret Tryz.prog F.slices_Clone_sl_api_Chan_api_Chan #[v] w fun v' w' => (∃ oa c, v' = .slice oa xs.length c) ∧ New w (fun w => Abs.Chans w v' xs) w' ∧ Ext w w' :=
  cloneF_r hmix E.slices_Clone_sl_api_Chan_api_Chan (by kernel_rfl) (fun h => h) v xs w h (by unfold Abs.big at hb; omega)
/-- A slice's word. -/
abbrev SlP := Option Addr × Nat × Nat
theorem commands_r (v : Value) (l : List Abs.Cmd) (w : World) (h : Abs.Cmds w v l) (hb : Abs.big l.length 88) (hg : ∀ c ∈ l, c.good) :
    Ret Tryz.prog F.proc_commands #[v] w fun v' w' => (∃ oa c, v' = .slice oa l.length c) ∧ New w (fun w => Abs.Cmds w v' l) w' ∧ Ext w w' := by
  obtain ⟨o1, c1, rfl, b1⟩ := h.form
  refine K.start hmix E.proc_commands (args := [_]) (Nat.le_of_ble_eq_true rfl) ?_; dsimp only [C.proc_commands,yt,yi,yb,yp,yr,ye,yc,yv,yg,ym,yw,ya,yl,yx,ys,yn]
  refine Sg ?_
  refine K.forG 11 l.length [9, 10] (fun v : SlP => [(3, .slice v.1 v.2.1 v.2.2)]) (none, 0, 0) (fun k v w' => Ext w w' ∧ RowC Abs.CmdIs T.api_Cmd 6 w.heap.size w' (.slice v.1 v.2.1 v.2.2) (l.take k)) (by first | trivial | rfl | exact ⟨rfl, trivial⟩ | (simp -dsimp only [LL,slots_nil,slots_cons,keepV_nil,keepV_cons,has_nil,has_cons,Nat.reduceAdd,Nat.reduceEqDiff,reduceIte,and_self]; done) | (simp -dsimp only [LL,slots_nil,slots_cons,keepV_nil,keepV_cons,has_nil,has_cons,Nat.reduceAdd,Nat.reduceEqDiff,reduceIte,and_self]; exact ⟨rfl, trivial⟩)) (by first | trivial | rfl | exact ⟨rfl, trivial⟩ | (simp -dsimp only [LL,slots_nil,slots_cons,keepV_nil,keepV_cons,has_nil,has_cons,Nat.reduceAdd,Nat.reduceEqDiff,reduceIte,and_self]; done) | (simp -dsimp only [LL,slots_nil,slots_cons,keepV_nil,keepV_cons,has_nil,has_cons,Nat.reduceAdd,Nat.reduceEqDiff,reduceIte,and_self]; exact ⟨rfl, trivial⟩)) ⟨Ext.refl _, by simpa using RowC.nil _ _ _ _ _⟩ ?_
  rintro k v S w1 hk ⟨he1, ho1⟩
  refine Sg ?_
  refine K.cond (fun g1 => ?_) (fun g1 => ?_)
  · have hk' : k < l.length := by omega
    have hgc := hg l[k] (List.getElem_mem _)
    obtain ⟨a, rfl⟩ := h.addr (by omega)
    obtain ⟨hs, vg, va, hc, hvg, hva⟩ := h.at k hk'
    obtain ⟨_, _, rfl, _⟩ := hvg.form
    obtain ⟨oa, ca, rfl, bla⟩ := hva.form
    refine Sg ?_
    intro w2 b2 hb2 he2 hc2
    have hlb2 := lt_of_heap hc2
    refine Sg ?_
    refine K.call (nclone_r _ _ w2 (hvg.ext (he1.trans he2)) hgc.guard) ?_
    rintro _ w4 ⟨⟨og, cg, rfl⟩, hn4, he4⟩
    have hc4 := he4.obj hc2
    have he14 := he2.trans he4
    refine Sg ?_
    intro w5 hw5 hc5
    have he15 := hw5.ext he14 hb2
    have he5 := he1.trans he15
    have hn5 := hn4.wr hw5 hlb2
    have hl5 := lt_of_heap hc5
    refine Sg ?_
    refine K.forG 22 l[k].acts.length [3, 5, 9, 10, 11, 20, 21] (fun v : SlP => [(6, .slice v.1 v.2.1 v.2.2)]) (none, 0, 0) (fun j v w' => Ext w5 w' ∧ RowC Abs.ActIs T.api_Act 5 w5.heap.size w' (.slice v.1 v.2.1 v.2.2) (l[k].acts.take j)) (by first | trivial | rfl | exact ⟨rfl, trivial⟩ | (simp -dsimp only [LL,slots_nil,slots_cons,keepV_nil,keepV_cons,has_nil,has_cons,Nat.reduceAdd,Nat.reduceEqDiff,reduceIte,and_self]; done) | (simp -dsimp only [LL,slots_nil,slots_cons,keepV_nil,keepV_cons,has_nil,has_cons,Nat.reduceAdd,Nat.reduceEqDiff,reduceIte,and_self]; exact ⟨rfl, trivial⟩)) (by first | trivial | rfl | exact ⟨rfl, trivial⟩ | (simp -dsimp only [LL,slots_nil,slots_cons,keepV_nil,keepV_cons,has_nil,has_cons,Nat.reduceAdd,Nat.reduceEqDiff,reduceIte,and_self]; done) | (simp -dsimp only [LL,slots_nil,slots_cons,keepV_nil,keepV_cons,has_nil,has_cons,Nat.reduceAdd,Nat.reduceEqDiff,reduceIte,and_self]; exact ⟨rfl, trivial⟩)) ⟨Ext.refl _, by simpa using RowC.nil _ _ _ _ _⟩ ?_
    rintro j va' S w6 hj ⟨he6, ho6⟩
    have hc6 := he6.obj hc5
    refine Sg ?_
    refine K.cond (fun g2 => ?_) (fun g2 => ?_)
    · have hj' : j < l[k].acts.length := by omega
      have hga := hgc.act l[k].acts[j] (List.getElem_mem _)
      obtain ⟨a2, rfl⟩ := hva.addr (by omega)
      obtain ⟨vi, vv, hac, hvi, hvv⟩ := hva.at j hj'
      obtain ⟨_, _, rfl, _⟩ := hvi.form
      obtain ⟨_, _, rfl, _⟩ := hvv.form
      have he06 := he5.trans he6
      refine Sg ?_
      intro w7 b7 hb7 he7 hc7
      have he07 := he06.trans he7
      have hlb7 := lt_of_heap hc7
      refine Sg ?_
      intro w8 he8
      have hc8 := he8.obj hc7
      have he08 := he07.trans he8
      refine Sg ?_
      refine K.call (nclone_r _ _ w8 (hvi.ext he08) hga.index) ?_
      rintro _ w9 ⟨⟨oi, ci, rfl⟩, hn9, he9⟩
      refine ⟨he9, ?_⟩
      have hc9 := he9.obj hc8
      have he09 := he08.trans he9
      refine Sg ?_
      refine K.call (nclone_r _ _ w9 (hvv.ext he09) hga.value) ?_
      rintro _ w10 ⟨⟨ox, cx, rfl⟩, hn10, he10⟩
      have hc10 := he10.obj hc9
      have hx9 := hn9.ext he10 he9.size
      refine Sg ?_
      intro w11 hw11 hc11
      refine Sg ?_
      intro w12 hw12 hc12
      refine Sg ?_
      intro w13 b13 hb13 he13 hc13
      have hlb8 := lt_of_heap hc8
      have hlb9 := lt_of_heap hc9
      have z89 := he9.size
      have z910 := he10.size
      have z1011 := hw11.size
      have z1112 := hw12.size
      have hx13 := ((hx9.wr hw11 hlb8).wr hw12 hlb8).ext he13 (by omega)
      have hy13 := ((hn10.wr hw11 hlb9).wr hw12 hlb9).ext he13 (by omega)
      have e610 := ((he7.trans he8).trans he9).trans he10
      have e613 := (hw12.ext (hw11.ext e610 hb7) hb7).trans he13
      have z68 := (he7.trans he8).size
      have e513 := he6.trans e613
      have ro13 := ho6.ext e613
      have hq := row_sz hj' hgc.acts bla
      refine Sg ?_
      refine K.appC (x := l[k].acts[j]) (cs := l[k].acts[j].enc (.slice oi l[k].acts[j].index.length ci) (.slice ox l[k].acts[j].value.length cx)) ro13 (cellsAt_blk hc13)
        (New.own (((hx13.low z68).and (hy13.low (by omega))).imp fun w h => ⟨_, _, rfl, h.1, h.2⟩) ho6 he6.size) rfl (by simp [Abs.Act.enc, Value.oneCell']) hq.1 hq.2 e513.size fun v' w' hr hgw => ?_
      obtain ⟨oa', cap', rfl, _⟩ := hr.form
      refine Sg ?_
      exact ⟨hj', by first | trivial | rfl, (oa', _, cap'), (by first | trivial | rfl | exact ⟨rfl, trivial⟩ | (simp -dsimp only [LL,slots_nil,slots_cons,keepV_nil,keepV_cons,has_nil,has_cons,Nat.reduceAdd,Nat.reduceEqDiff,reduceIte,and_self]; done) | (simp -dsimp only [LL,slots_nil,slots_cons,keepV_nil,keepV_cons,has_nil,has_cons,Nat.reduceAdd,Nat.reduceEqDiff,reduceIte,and_self]; exact ⟨rfl, trivial⟩)), ro13.extG e513 hgw (Nat.le_refl _), hr.snoc hj'⟩
    · have hfin := ho6.done (by omega)
      have hN6 : New w5 (fun w => Abs.Acts w (.slice va'.1 va'.2.1 va'.2.2) l[k].acts) w6 := hfin.new
      obtain ⟨oa6, ca6, e6, _⟩ := hN6.here.form
      rw [e6] at hN6
      refine Sg ?_
      intro w7 hw7 hc7
      refine Sg ?_
      intro w8 b8 hb8 he8 hc8
      have z25 : w2.heap.size ≤ w5.heap.size := by have := he4.size; have := hw5.size; omega
      have z56 := he6.size
      have z67 := hw7.size
      have hx8 := ((hn5.ext he6 z25).wr hw7 hlb2).ext he8 (by omega)
      have hy8 := (hN6.wr hw7 hl5).ext he8 (by omega)
      have e18 := (hw7.ext (he15.trans he6) hb2).trans he8
      have e08 := he1.trans e18
      have ro8 := ho1.ext e18
      have z12 := he2.size
      have hq := row_sz hk' hb b1
      refine Sg ?_
      refine K.appC (x := l[k]) (cs := l[k].enc (.slice og l[k].guard.length cg) (.slice oa6 l[k].acts.length ca6)) ro8 (by have := cellsAt_blk hc8; rw [e6] at this; exact this)
        (New.own (((hx8.low z12).and (hy8.low he15.size)).imp fun w h => ⟨hs, _, _, rfl, h.1, h.2⟩) ho1 he1.size) rfl (by simp [Abs.Cmd.enc, Value.oneCell']) hq.1 hq.2 e08.size fun v' w' hr hgw => ?_
      obtain ⟨oa', cap', rfl, _⟩ := hr.form
      refine Sg ?_
      exact ⟨hk', by first | trivial | rfl, (oa', _, cap'), (by first | trivial | rfl | exact ⟨rfl, trivial⟩ | (simp -dsimp only [LL,slots_nil,slots_cons,keepV_nil,keepV_cons,has_nil,has_cons,Nat.reduceAdd,Nat.reduceEqDiff,reduceIte,and_self]; done) | (simp -dsimp only [LL,slots_nil,slots_cons,keepV_nil,keepV_cons,has_nil,has_cons,Nat.reduceAdd,Nat.reduceEqDiff,reduceIte,and_self]; exact ⟨rfl, trivial⟩)), ro8.extG e08 hgw (Nat.le_refl _), hr.snoc hk'⟩
  · refine Sg ?_
    have hfin := ho1.done (by omega)
    have hN : New w (fun w => Abs.Cmds w (.slice v.1 v.2.1 v.2.2) l) w1 := hfin.new
    obtain ⟨oa6, ca6, e6, _⟩ := hN.here.form
    exact ⟨⟨oa6, ca6, e6⟩, hN, he1⟩
end Go.Proofs.YtbbaokmelkiemaaGreatDoor
namespace Go.Proofs.YtbbaokmelkiemaaGreatDoor
open Go Go.RowKit Lite
theorem inner_r (p : Abs.Proc) (o0 o1 o2 o3 o4 ov oc : Option Addr) (n0 n1 n2 n3 n4 nv nc c0 c1 c2 c3 c4 cv cc : Nat) (n : Int) (w : World) :
    Ret Tryz.prog F.proc_inner #[.agg (p.enc (.slice ov nv cv) (.slice oc nc cc)).toArray, .agg #[.slice o0 n0 c0, .slice o1 n1 c1, .slice o2 n2 c2, .slice o3 n3 c3, .slice o4 n4 c4, .int .i64 n]] w fun v w' =>
      v = .agg #[.slice o0 n0 c0, .slice o1 n1 c1, .slice o2 n2 c2, .slice o3 n3 c3, .slice ov nv cv, .int .i64 p.over] ∧ Ext w w' := by
  refine K.start hmix E.proc_inner (args := [_, _]) (Nat.le_of_ble_eq_true rfl) ?_; dsimp only [C.proc_inner,yt,yi,yb,yp,yr,ye,yc,yv,yg,ym,yw,ya,yl,yx,ys,yn]
  simp -dsimp only [B9]
  refine Su ?_
  intro w1 b1 hb1 he1 hc1
  refine Su ?_
  intro w2 b2 hb2 he2 hc2
  refine Su ?_
  intro w3 b3 hb3 he3 hc3
  refine Su ?_
  have q2 : b2 ≠ b1 := by have := lt_of_heap hc1; omega
  have q3 : b3 ≠ b2 := by have := lt_of_heap hc2; omega
  refine K.cutG [2, 3, 4] (fun _ => []) (fun (_ : Unit) w' => (Ext w w' ∧ w3.heap.size ≤ w'.heap.size) ∧ w'.heap[b2]? = some (.cells #[.slice o0 n0 c0, .slice o1 n1 c1, .slice o2 n2 c2, .slice o3 n3 c3, .slice ov nv cv, .int .i64 p.over] T.api_Scope) ∧ w'.heap[b3]? = w3.heap[b3]?) ?_ ?_
  · refine Sg ?_
    intro w4 he4
    have hc1 := ((he2.trans he3).trans he4).obj hc1
    have hc2 := (he3.trans he4).obj hc2
    have hc3 := he4.obj hc3
    have he04 := ((he1.trans he2).trans he3).trans he4
    have z01 := he1.size
    have z34 := he4.size
    have fin : ∀ w5 w6, Wr b2 w4 w5 → Wr b2 w5 w6 → w6.heap[b2]? = some (.cells #[.slice o0 n0 c0, .slice o1 n1 c1, .slice o2 n2 c2, .slice o3 n3 c3, .slice ov nv cv, .int .i64 p.over] T.api_Scope) →
        (Ext w w6 ∧ w3.heap.size ≤ w6.heap.size) ∧ w6.heap[b2]? = some (.cells #[.slice o0 n0 c0, .slice o1 n1 c1, .slice o2 n2 c2, .slice o3 n3 c3, .slice ov nv cv, .int .i64 p.over] T.api_Scope) ∧ w6.heap[b3]? = w3.heap[b3]? := fun w5 w6 a b c => by
      have := a.size
      have := b.size
      refine ⟨⟨b.ext (a.ext he04 (by omega)) (by omega), by omega⟩, c, ?_⟩
      rw [b.block b3 q3, a.block b3 q3, hc3]
      symm
      assumption
    refine Sg ?_
    refine ⟨?_, ?_⟩
    · refine Sg ?_
      refine ⟨?_, ?_⟩
      · refine Sg ?_
        intro w5 hw5 hc5
        refine Sg ?_
        intro w6 hw6 hc6
        refine Sg ?_
        exact ⟨(), trivial, fin w5 w6 hw5 hw6 hc6⟩
      · refine Sg ?_
        intro w5 hw5 hc5
        have hc1 := hw5.obj hc1 (Ne.symm q2)
        refine Sg ?_
        intro w6 hw6 hc6
        refine Sg ?_
        exact ⟨(), trivial, fin w5 w6 hw5 hw6 hc6⟩
    · refine Sg ?_
      intro w5 hw5 hc5
      refine Sg ?_
      intro w6 hw6 hc6
      refine Sg ?_
      exact ⟨(), trivial, fin w5 w6 hw5 hw6 hc6⟩
  rintro _ S w4 ⟨⟨he4, z4⟩, hc4, hd4⟩
  rw [hc3] at hd4
  have hlt := lt_of_heap hc3
  refine Sg ?_
  intro w5 hw5 hc5
  refine Sg ?_
  exact ⟨by first | trivial | rfl, hw5.ext he4 (by have := he1.size; have := he2.size; omega)⟩
theorem copied_r (cs : List Value) (s : Abs.Scope) (w : World) (h : Abs.ScopeIs w cs s) (hg : s.good) :
    Ret Tryz.prog F.proc_copied #[.agg cs.toArray] w fun v w' => (∃ cs', v = .agg cs'.toArray ∧ New w (fun w => Abs.ScopeIs w cs' s) w') ∧ Ext w w' := by
  have hsm := hg.sm
  obtain ⟨o0, c0, o1, c1, o2, c2, o3, c3, o4, c4, rfl, h0, h1, h2, h3, h4, _, l1, l2, l3, l4⟩ := h.form
  refine K.start hmix E.proc_copied (args := [_]) (Nat.le_of_ble_eq_true rfl) ?_; dsimp only [C.proc_copied,yt,yi,yb,yp,yr,ye,yc,yv,yg,ym,yw,ya,yl,yx,ys,yn]
  refine Sg ?_
  intro w1 b1 hb1 he1 hc1
  refine Sg ?_
  intro w2 b2 hb2 he2 hc2
  have hb12 : b2 ≠ b1 := by have := lt_of_heap hc1; omega
  refine Sg ?_
  intro w3 he3
  have e03 := (he1.trans he2).trans he3
  have hc1 := (he2.trans he3).obj hc1
  have hc2 := he3.obj hc2
  have hlb1 := lt_of_heap hc1
  have hlb2 := lt_of_heap hc2
  refine Sg ?_
  refine K.call (sclone_r _ _ w3 (h0.ext e03) hg.scalars) ?_
  rintro _ w4 ⟨⟨x0, y0, rfl⟩, n0, he4⟩
  refine ⟨he4, ?_⟩
  refine Sg ?_
  refine K.call (vclone_r _ _ w4 (h1.ext (e03.trans he4)) hg.vars) ?_
  rintro _ w5 ⟨⟨x1, y1, rfl⟩, n1, he5⟩
  refine ⟨he4.trans he5, ?_⟩
  refine Sg ?_
  refine K.call (chclone_r _ _ w5 (h2.ext ((e03.trans he4).trans he5)) hg.chans) ?_
  rintro _ w6 ⟨⟨x2, y2, rfl⟩, n2, he6⟩
  have hc1 := ((he4.trans he5).trans he6).obj hc1
  have hc2 := ((he4.trans he5).trans he6).obj hc2
  have e06 := ((e03.trans he4).trans he5).trans he6
  have n36 := (n0.ext (he5.trans he6) he4.size).and (((n1.ext he6 he5.size).low he4.size).and (n2.low (he4.trans he5).size))
  refine Sg ?_
  intro w7 hw7 hc7
  refine Sg ?_
  intro w8 hw8 hc8
  refine Sg ?_
  intro w9 hw9 hc9
  have e09 := hw9.ext (hw8.ext (hw7.ext e06 hb1) hb1) hb1
  have n39 := ((n36.wr hw7 hlb1).wr hw8 hlb1).wr hw9 hlb1
  have z36 := ((he4.trans he5).trans he6).size
  have z69 : w9.heap.size = w6.heap.size := by rw [hw9.size, hw8.size, hw7.size]
  have hc2 := hw9.obj (hw8.obj (hw7.obj hc2 hb12) hb12) hb12
  refine Sg ?_
  refine K.call (vclone_r _ _ w9 (h4.ext e09) hg.locals) ?_
  rintro _ w10 ⟨⟨x4, y4, rfl⟩, n4, he10⟩
  have hc10 := he10.obj hc9
  have hc2 := he10.obj hc2
  refine Sg ?_
  intro w11 hw11 hc11
  have hc2 := hw11.obj hc2 hb12
  have e011 := hw11.ext (e09.trans he10) hb1
  have z910 := he10.size
  have z1011 := hw11.size
  have n311 := ((n39.ext he10 (by omega)).wr hw11 hlb1).and ((n4.wr hw11 (lt_of_heap hc9)).low (w0 := w3) (by omega))
  have hl11 := lt_of_heap hc11
  refine Sg ?_
  refine K.forG 25 s.procs.length [1, 2, 23, 24] (fun v : SlP => [(3, .slice v.1 v.2.1 v.2.2)]) (none, 0, 0) (fun k v w' => Ext w11 w' ∧ RowC Abs.ProcIs T.api_Proc 5 w11.heap.size w' (.slice v.1 v.2.1 v.2.2) (s.procs.take k)) (by first | trivial | rfl | exact ⟨rfl, trivial⟩ | (simp -dsimp only [LL,slots_nil,slots_cons,keepV_nil,keepV_cons,has_nil,has_cons,Nat.reduceAdd,Nat.reduceEqDiff,reduceIte,and_self]; done) | (simp -dsimp only [LL,slots_nil,slots_cons,keepV_nil,keepV_cons,has_nil,has_cons,Nat.reduceAdd,Nat.reduceEqDiff,reduceIte,and_self]; exact ⟨rfl, trivial⟩)) (by first | trivial | rfl | exact ⟨rfl, trivial⟩ | (simp -dsimp only [LL,slots_nil,slots_cons,keepV_nil,keepV_cons,has_nil,has_cons,Nat.reduceAdd,Nat.reduceEqDiff,reduceIte,and_self]; done) | (simp -dsimp only [LL,slots_nil,slots_cons,keepV_nil,keepV_cons,has_nil,has_cons,Nat.reduceAdd,Nat.reduceEqDiff,reduceIte,and_self]; exact ⟨rfl, trivial⟩)) ⟨Ext.refl _, by simpa using RowC.nil _ _ _ _ _⟩ ?_
  rintro k v S w12 hk ⟨he12, ho12⟩
  have hc12 := he12.obj hc11
  refine Sg ?_
  refine K.cond (fun g1 => ?_) (fun g1 => ?_)
  · have hk' : k < s.procs.length := by omega
    have hgp := hg.proc s.procs[k] (List.getElem_mem _)
    obtain ⟨a, rfl⟩ := h3.addr (by omega)
    obtain ⟨hs, vv, vc, hpc, hpv, hpcm⟩ := h3.at k hk'
    obtain ⟨_, _, rfl, _⟩ := hpv.form
    obtain ⟨_, _, rfl, _⟩ := hpcm.form
    have e012 := e011.trans he12
    refine Sg ?_
    intro wA bA hbA heA hcA
    have e0A := e012.trans heA
    refine Sg ?_
    refine K.call (vclone_r _ _ wA (hpv.ext e0A) hgp.vars) ?_
    rintro _ wB ⟨⟨ov, cv, rfl⟩, nv, heB⟩
    have hcB := heB.obj hcA
    refine Sg ?_
    intro wC hwC hcC
    have e12C := hwC.ext (heA.trans heB) hbA
    have e0C := e012.trans e12C
    refine Sg ?_
    refine K.call (commands_r _ _ wC (hpcm.ext e0C) hgp.cmds hgp.cmd) ?_
    rintro _ wD ⟨⟨oc, cc, rfl⟩, nc, heD⟩
    have hcD := heD.obj hcC
    refine Sg ?_
    intro wE hwE hcE
    have e12E := hwE.ext (e12C.trans heD) hbA
    refine Sg ?_
    intro wF bF hbF heF hcF
    have e12F := e12E.trans heF
    have zA := lt_of_heap hcA
    have zAB := heB.size
    have zBC := hwC.size
    have zCD := heD.size
    have zDE := hwE.size
    have nvF := (((nv.wr hwC zA).ext heD (by omega)).wr hwE zA).ext heF (by omega)
    have ncF := (nc.wr hwE (lt_of_heap hcC)).ext heF (by omega)
    have roF := ho12.ext e12F
    have hq := row_sz hk' hg.procs l3
    have e11F := he12.trans e12F
    refine Sg ?_
    refine K.appC (x := s.procs[k]) (cs := s.procs[k].enc (.slice ov s.procs[k].vars.length cv) (.slice oc s.procs[k].cmds.length cc)) roF (cellsAt_blk hcF)
      (New.own (((nvF.low heA.size).and (ncF.low e12C.size)).imp fun w h => ⟨hs, _, _, rfl, h.1, h.2⟩) ho12 he12.size) rfl (by simp [Abs.Proc.enc, Value.oneCell']) hq.1 hq.2 e11F.size fun v' w' hr hgw => ?_
    obtain ⟨oa', cap', rfl, _⟩ := hr.form
    refine Sg ?_
    exact ⟨hk', by first | trivial | rfl, (oa', _, cap'), (by first | trivial | rfl | exact ⟨rfl, trivial⟩ | (simp -dsimp only [LL,slots_nil,slots_cons,keepV_nil,keepV_cons,has_nil,has_cons,Nat.reduceAdd,Nat.reduceEqDiff,reduceIte,and_self]; done) | (simp -dsimp only [LL,slots_nil,slots_cons,keepV_nil,keepV_cons,has_nil,has_cons,Nat.reduceAdd,Nat.reduceEqDiff,reduceIte,and_self]; exact ⟨rfl, trivial⟩)), roF.extG e11F hgw (Nat.le_refl _), hr.snoc hk'⟩
  · have hfin := ho12.done (by omega)
    have hN : New w11 (fun w => Abs.Procs w (.slice v.1 v.2.1 v.2.2) s.procs) w12 := hfin.new
    obtain ⟨oa6, ca6, e6, _⟩ := hN.here.form
    rw [e6] at hN
    have hc2 := he12.obj hc2
    refine Sg ?_
    intro w13 hw13 hc13
    have hc2 := hw13.obj hc2 hb12
    refine Sg ?_
    intro w14 hw14 hc14
    have z1112 := he12.size
    have n14 := (((n311.ext he12 (by omega)).wr hw13 hlb1).wr hw14 hlb2).and (((hN.wr hw13 hl11).wr hw14 (Nat.lt_of_lt_of_le hlb2 (by omega))).low (w0 := w3) (by omega))
    have z12 := he1.size
    have e0 := hw14.ext (hw13.ext (e011.trans he12) hb1) (by omega)
    refine Sg ?_
    refine ⟨⟨[.slice x0 s.scalars.length y0, .slice x1 s.vars.length y1, .slice x2 s.chans.length y2, .slice oa6 s.procs.length ca6, .slice x4 s.locals.length y4, .int .i64 s.self], ?_,
      (n14.low e03.size).imp fun w h => ⟨hsm.1, _, _, _, _, _, rfl, h.1.1.1, h.1.1.2.1, h.1.1.2.2, h.2, h.1.2, hsm.2⟩⟩, e0⟩
    rw [e6]
    first | trivial | rfl
end Go.Proofs.YtbbaokmelkiemaaGreatDoor
end
section
/- Processes: scopes; the reference's. -/
set_option maxRecDepth 4000
set_option maxHeartbeats 1600000
namespace Abs
open Go Go.RowKit Lite
/-- The slots of a model, written out. -/
theorem ModelIs.form {w : World} {cs : List Value} {m : Model} (h : ModelIs w cs m) : ∃ a0 c0 a1 c1 a2 c2 a3 c3 a4 c4, cs = [.slice a0 m.scalars.length c0, .slice a1 m.vars.length c1, .slice a2 m.chans.length c2, .slice a3 m.procs.length c3, .slice a4 m.props.length c4] ∧
    Scalars w (.slice a0 m.scalars.length c0) m.scalars ∧ Vars w (.slice a1 m.vars.length c1) m.vars ∧ Chans w (.slice a2 m.chans.length c2) m.chans ∧ Procs w (.slice a3 m.procs.length c3) m.procs ∧ Prps w (.slice a4 m.props.length c4) m.props ∧
    m.scalars.length ≤ 9223372036854775807 ∧ m.vars.length ≤ 9223372036854775807 ∧ m.chans.length ≤ 9223372036854775807 ∧ m.procs.length ≤ 9223372036854775807 ∧ m.props.length ≤ 9223372036854775807 := by
  obtain ⟨v0, v1, v2, v3, v4, rfl, h0, h1, h2, h3, h4⟩ := h.ex
  obtain ⟨a0, c0, rfl, l0⟩ := h0.form
  obtain ⟨a1, c1, rfl, l1⟩ := h1.form
  obtain ⟨a2, c2, rfl, l2⟩ := h2.form
  obtain ⟨a3, c3, rfl, l3⟩ := h3.form
  obtain ⟨a4, c4, rfl, l4⟩ := h4.form
  exact ⟨a0, c0, a1, c1, a2, c2, a3, c3, a4, c4, rfl, h0, h1, h2, h3, h4, l0, l1, l2, l3, l4⟩
theorem pscope_some {m : Model} {k : Nat} (h : k < m.procs.length) : pscope m (k : Int) = inner m.procs[k] (mscope m) := by
  unfold pscope
  rw [nth_some (by omega) (by omega)]
  simp
theorem pscope_none {m : Model} {i : Int} (h : i < 0 ∨ (m.procs.length : Int) ≤ i) : pscope m i = mscope m := by
  unfold pscope
  rw [nth_none h]
theorem Model.good.pscope {m : Model} (h : m.good) (i : Int) : (pscope m i).good := by
  unfold Abs.pscope
  cases hn : nth m.procs i with
  | none => exact h.scope
  | some p =>
    refine h.scope.inner (h.proc p ?_)
    unfold nth at hn
    by_cases h0 : 0 ≤ i
    · rw [if_pos h0] at hn; exact List.mem_of_getElem? hn
    · rw [if_neg h0] at hn; cases hn
end Abs
namespace Go.Proofs.YtbbaokmelkiemaaGreatDoor
open Go Go.RowKit Lite
theorem scope_r (cs : List Value) (m : Abs.Model) (i : Int) (w : World) (h : Abs.ModelIs w cs m) (hg : m.good) :
    Ret Tryz.prog F.proc_Scope #[.agg cs.toArray, .int .i64 i] w fun v w' => (∃ cs', v = .agg cs'.toArray ∧ New w (fun w => Abs.ScopeIs w cs' (Abs.pscope m i)) w') ∧ Ext w w' := by
  obtain ⟨o0, c0, o1, c1, o2, c2, o3, c3, o4, c4, rfl, h0, h1, h2, h3, h4, l0, l1, l2, l3, l4⟩ := h.form
  have hsm := hg.scope.sm
  refine K.start hmix E.proc_Scope (args := [_, _]) (Nat.le_of_ble_eq_true rfl) ?_; dsimp only [C.proc_Scope,yt,yi,yb,yp,yr,ye,yc,yv,yg,ym,yw,ya,yl,yx,ys,yn]
  simp -dsimp only [B9]
  refine Su ?_
  intro w1 b1 hb1 he1 hc1
  refine Su ?_
  intro w2 b2 hb2 he2 hc2
  simp -dsimp only [B9]
  refine Su ?_
  intro w3 b3 hb3 he3 hc3
  refine Su ?_
  have E03 : ∀ {w' : World}, Ext w3 w' → Ext w w' := fun e => ((he1.trans he2).trans he3).trans e
  have hS : ∀ w', Ext w w' → Abs.ScopeIs w' [.slice o0 m.scalars.length c0, .slice o1 m.vars.length c1, .slice o2 m.chans.length c2, .slice o3 m.procs.length c3, .slice none 0 0, .int .i64 0] (Abs.mscope m) := fun w' e =>
    ⟨hsm.1, _, _, _, _, _, rfl, h0.ext e, h1.ext e, h2.ext e, h3.ext e, SlR.nil, hsm.2⟩
  refine K.cutG [2, 4, 5] (fun _ => []) (fun (x : List Value) w' => Ext w w' ∧ Ext w2 w' ∧ w'.heap[b3]? = some (.cells x.toArray T.api_Scope) ∧ Abs.ScopeIs w' x (Abs.pscope m i)) ?_ ?_
  · refine Sg ?_
    refine K.cond (fun g1 => ?_) (fun g1 => ?_)
    rotate_left
    · refine Sg ?_
      exact ⟨_, trivial, E03 (Ext.refl _), he3, hc3, by rw [Abs.pscope_none (.inl (by omega))]; exact hS _ (E03 (Ext.refl _))⟩
    refine Sg ?_
    refine K.cond (fun g2 => ?_) (fun g2 => ?_)
    rotate_left
    · refine Sg ?_
      exact ⟨_, trivial, E03 (Ext.refl _), he3, hc3, by rw [Abs.pscope_none (.inr (by omega))]; exact hS _ (E03 (Ext.refl _))⟩
    obtain ⟨k, rfl⟩ := Int.eq_ofNat_of_zero_le (show 0 ≤ i by omega)
    have hk : k < m.procs.length := by omega
    obtain ⟨a, rfl⟩ := h3.addr (by omega)
    obtain ⟨hs, vv, vc, hpc, hpv, hpcm⟩ := h3.at k hk
    obtain ⟨ov, cv, rfl, _⟩ := hpv.form
    obtain ⟨_, _, rfl, _⟩ := hpcm.form
    refine Sg ?_
    intro w4 he4
    have hc4 := he4.obj hc3
    refine Sg ?_
    refine K.call (inner_r m.procs[k] _ _ _ _ _ _ _ _ _ _ _ _ _ _ _ _ _ _ _ _ _ _ w4) ?_
    rintro _ w5 ⟨rfl, he5⟩
    have hc5 := he5.obj hc4
    refine Sg ?_
    intro w6 hw6 hc6
    refine Sg ?_
    have e06 := hw6.ext (E03 (he4.trans he5)) (by have := he1.size; have := he2.size; omega)
    exact ⟨_, trivial, e06, hw6.ext ((he3.trans he4).trans he5) hb3, hc6, by
      rw [Abs.pscope_some hk]
      exact ⟨(hg.scope.inner (hg.proc _ (List.getElem_mem hk))).sm.1, _, _, _, _, _, rfl, h0.ext e06, h1.ext e06, h2.ext e06, h3.ext e06, hpv.ext e06, hsm.2⟩⟩
  rintro x S w4 ⟨e04, e24, hc4, hx⟩
  have hc2 := e24.obj hc2
  refine Sg ?_
  refine K.ldA (cellsAt_blk hc4) ?_ ?_
  · obtain ⟨_, _, _, _, _, rfl, _⟩ := hx.ex; rfl
  refine Sg ?_
  refine K.call (copied_r _ _ w4 hx (hg.pscope i)) ?_
  rintro _ w5 ⟨⟨cs', rfl, hn⟩, he5⟩
  have hc5 := he5.obj hc2
  obtain ⟨y0, d0, y1, d1, y2, d2, y3, d3, y4, d4, rfl, _⟩ := hn.here.form
  refine Sg ?_
  intro w6 hw6 hc6
  refine Sg ?_
  have := lt_of_heap hc2
  exact ⟨⟨_, rfl, (hn.wr hw6 this).low e04.size⟩, hw6.ext (e04.trans he5) (by have := he1.size; omega)⟩
end Go.Proofs.YtbbaokmelkiemaaGreatDoor
end
section
/- Lite, part 16: regions whose order is open, of a few known shapes: two variables made of two structs; of what two calls give. -/
set_option maxRecDepth 4000
namespace Lite
open Go Go.RowKit
section
variable {P : Program} {w0 w : World} {S : Fr} {K : Fr → World → Prop}
/-- What is drawn ahead. -/
def strip : Sch → List Step × Sch
  | .take s r => (s :: (strip r).1, (strip r).2)
  | t => ([], t)
theorem svc_strip : ∀ (t : Sch) (S : Fr), qsteps P (strip t).1 S w0 (fun S' => svc P w0 (strip t).2 S' w K) → svc P w0 t S w K
  | .take ⟨d, none, i⟩ r, S, h => by
    show QVC P i S w0 fun v => svc P w0 r (put S d v) w K
    have h' : QVC P i S w0 fun v => qsteps P (strip r).1 (put S d v) w0 (fun S' => svc P w0 (strip r).2 S' w K) := h
    exact QVC.mono (fun v hv => svc_strip r _ hv) h'
  | .take ⟨d, some (j, b), i⟩ r, S, h => by
    rcases h with ⟨t, ht, h1, h2⟩ | ⟨hu, h3⟩
    · exact .inl ⟨t, ht, fun e => QVC.mono (fun v hv => svc_strip r _ hv) (h1 e), fun e => svc_strip r _ (h2 e)⟩
    · exact .inr ⟨hu, svc_strip r _ h3⟩
  | .done, S, h => h
  | .nil, S, h => h
  | .alt _ _ _, S, h => h
  | .fre _ _ _, S, h => h
theorem stAb_ok {b n : Nat} {c cs : Array Value} {e : TypeId} {KW : World → Prop} (hb : w.heap[b]? = some (.cells c e)) (hc : c.size = n) (hn : cs.size = n) (h1 : ∀ x ∈ cs.toList, x.oneCell' = true)
    (hk : ∀ w1, Wr b w w1 → w1.heap[b]? = some (.cells cs e) → KW w1) : StAVC n (.pointer (some ⟨b, 0, none⟩)) (.agg cs) w KW :=
  stA_ok hn (fun j hj => ⟨⟨_, cell_blk hb (Array.getElem?_eq_getElem (by omega))⟩, by rw [add_eq]; simp [World.frozen?, hb]⟩) h1 (hk _ (Wr.setAll cs.toList w ⟨b, 0, none⟩ 0) (setAll_blk hb (by omega)))
/-- A variable that is made, and then stored to. -/
structure VarS where
  d : Nat
  ty : TypeId
  z : Array Value
  n : Nat
  x : Nat
def VarS.new (v : VarS) : Step := ⟨some v.d, none, .e (.new v.ty (.agg v.z))⟩
def VarS.st (v : VarS) : Step := ⟨none, none, .e (.stA v.n (.tmp v.d) (.tmp v.x))⟩
theorem altS_st (v : VarS) (k : Fr → World → Prop) : altS P w0 v.st S w k = StAVC v.n (S v.d) (S v.x) w (fun w' => Ext w0 w' ∧ k S w') := rfl
theorem freS_st (v : VarS) (k : Fr → World → Prop) : freS P v.st S w k = StAVC v.n (S v.d) (S v.x) w (fun w' => k S w') := rfl
def twoT (a b : VarS) : Sch :=
  .alt a.new (.alt b.new (.alt a.st (.fre b.st .done .nil) .nil) .nil) (.alt b.new (.alt a.new (.alt a.st (.fre b.st .done .nil) .nil) .nil) .nil)
theorem upd_comm (S : Fr) {a b : Nat} (h : a ≠ b) (x y : Value) : upd (upd S a x) b y = upd (upd S b y) a x := by
  funext t; unfold upd; split <;> split <;> simp_all
theorem two_sv (a b : VarS) {xa xb : List Value} (hd : (a.d != b.d && a.x != a.d && a.x != b.d && b.x != a.d && b.x != b.d) = true) (hza : a.z.size = a.n) (hzb : b.z.size = b.n) (ha : S a.x = .agg xa.toArray) (hb : S b.x = .agg xb.toArray) (hla : xa.length = a.n) (hlb : xb.length = b.n)
    (h1a : ∀ u ∈ xa, u.oneCell' = true) (h1b : ∀ u ∈ xb, u.oneCell' = true)
    (hk : ∀ w' ba bb, Ext w0 w' → w0.heap.size ≤ ba → w0.heap.size ≤ bb → ba ≠ bb → w'.heap[ba]? = some (.cells xa.toArray a.ty) → w'.heap[bb]? = some (.cells xb.toArray b.ty) →
      K (upd (upd S a.d (.pointer (some ⟨ba, 0, none⟩))) b.d (.pointer (some ⟨bb, 0, none⟩))) w') : svc P w0 (twoT a b) S w0 K := by
  simp only [Bool.and_eq_true, bne_iff_ne, ne_eq] at hd
  obtain ⟨⟨⟨⟨d1, d2⟩, d3⟩, d4⟩, d5⟩ := hd
  have fin : ∀ (S' : Fr) (w2 : World) (ba bb : Nat), S' = upd (upd S a.d (.pointer (some ⟨ba, 0, none⟩))) b.d (.pointer (some ⟨bb, 0, none⟩)) → Ext w0 w2 → w0.heap.size ≤ ba → w0.heap.size ≤ bb → ba ≠ bb →
      w2.heap[ba]? = some (.cells a.z a.ty) → w2.heap[bb]? = some (.cells b.z b.ty) → svc P w0 (.alt a.st (.fre b.st .done .nil) .nil) S' w2 K := by
    rintro S' w2 ba bb rfl he h1 h2 hne hca hcb
    refine ⟨?_, trivial⟩
    have e1 : upd (upd S a.d (.pointer (some ⟨ba, 0, none⟩))) b.d (.pointer (some ⟨bb, 0, none⟩)) a.d = .pointer (some ⟨ba, 0, none⟩) := by simp [upd, d1]
    have e2 : upd (upd S a.d (.pointer (some ⟨ba, 0, none⟩))) b.d (.pointer (some ⟨bb, 0, none⟩)) a.x = .agg xa.toArray := by simp [upd, d2, d3, ha]
    have e3 : upd (upd S a.d (.pointer (some ⟨ba, 0, none⟩))) b.d (.pointer (some ⟨bb, 0, none⟩)) b.d = .pointer (some ⟨bb, 0, none⟩) := by simp [upd]
    have e4 : upd (upd S a.d (.pointer (some ⟨ba, 0, none⟩))) b.d (.pointer (some ⟨bb, 0, none⟩)) b.x = .agg xb.toArray := by simp [upd, d4, d5, hb]
    rw [altS_st, e1, e2]
    refine stAb_ok hca hza (by simpa using hla) (by simpa using h1a) fun w3 hw3 hc3 => ⟨hw3.ext he h1, ?_⟩
    refine ⟨?_, trivial⟩
    rw [freS_st, e3, e4]
    refine stAb_ok (hw3.obj hcb (Ne.symm hne)) hzb (by simpa using hlb) (by simpa using h1b) fun w4 hw4 hc4 => ?_
    exact hk w4 ba bb (hw4.ext (hw3.ext he h1) h2) h1 h2 hne (hw4.obj hc3 hne) hc4
  have m1 : ∀ (o o' : Obj), ((w0.alloc o).alloc o').heap[w0.heap.size]? = some o := fun o o' => ((Ext.refl (w0.alloc o)).alloc o').obj (heap_alloc_new w0 o)
  have m2 : ∀ (o o' : Obj), ((w0.alloc o).alloc o').heap[w0.heap.size + 1]? = some o' := fun o o' => by
    have := heap_alloc_new (w0.alloc o) o'
    rwa [World.size_alloc] at this
  refine ⟨⟨(Ext.refl _).alloc _, ⟨((Ext.refl _).alloc _).alloc _, ?_⟩, trivial⟩, ⟨(Ext.refl _).alloc _, ⟨((Ext.refl _).alloc _).alloc _, ?_⟩, trivial⟩, trivial⟩
  · refine fin _ _ w0.heap.size (w0.heap.size + 1) ?_ (((Ext.refl _).alloc _).alloc _) (Nat.le_refl _) (by omega) (by omega) (m1 _ _) (m2 _ _)
    show upd (upd S a.d _) b.d (.pointer (some ⟨(w0.alloc _).heap.size, 0, none⟩)) = _
    rw [World.size_alloc]
  · refine fin _ _ (w0.heap.size + 1) w0.heap.size ?_ (((Ext.refl _).alloc _).alloc _) (by omega) (Nat.le_refl _) (by omega) (m2 _ _) (m1 _ _)
    show upd (upd S b.d _) a.d (.pointer (some ⟨(w0.alloc _).heap.size, 0, none⟩)) = _
    rw [World.size_alloc, upd_comm S (Ne.symm d1)]
/-- Two variables are made of two structs, in whichever order. -/
theorem K.two {Q : LX → Fr → World → Prop} {t : Sch} {b' : LC} {tk} (l : List Step) (da : Nat) (ta : TypeId) (za : Array Value) (na pa db : Nat) (tb : TypeId) (zb : Array Value) (nb pb : Nat) (ht : strip t = (l, twoT ⟨da, ta, za, na, pa⟩ ⟨db, tb, zb, nb, pb⟩)) (hd : (da != db && pa != da && pa != db && pb != da && pb != db) = true) (hza : za.size = na) (hzb : zb.size = nb)
    (hk : ∀ w1, Ext w w1 → qstepsh P l S w1 (fun S' => ∃ xa xb : List Value, S' pa = .agg xa.toArray ∧ S' pb = .agg xb.toArray ∧ xa.length = na ∧ xb.length = nb ∧ (∀ u ∈ xa, u.oneCell' = true) ∧ (∀ u ∈ xb, u.oneCell' = true) ∧
      ∀ w' ba bb, Ext w1 w' → w1.heap.size ≤ ba → w1.heap.size ≤ bb → ba ≠ bb → w'.heap[ba]? = some (.cells xa.toArray ta) → w'.heap[bb]? = some (.cells xb.toArray tb) →
        vch P b' Q (upd (upd S' da (.pointer (some ⟨ba, 0, none⟩))) db (.pointer (some ⟨bb, 0, none⟩))) w' ⟨⟩) ⟨⟩) : vch P (.seq (.sch t) b') Q S w tk := by
  unfold vch qstepsh at *
  show vc P (.sch t) _ S w
  intro w1 he
  refine svc_strip t S ?_
  have h := hk w1 he
  rw [ht]
  refine qsteps_keep l S w1 _ _ (fun S' _ h' => ?_) h
  obtain ⟨xa, xb, h1, h2, h3, h4, h5, h6, h7⟩ := h'
  exact two_sv ⟨da, ta, za, na, pa⟩ ⟨db, tb, zb, nb, pb⟩ hd hza hzb h1 h2 h3 h4 h5 h6 fun w' ba bb e1 e2 e3 e4 e5 e6 => h7 w' ba bb e1 e2 e3 e4 e5 e6
/-! ### Two variables made of what two calls give -/
/-- It holds in each world in which what the call laid is as it was. -/
def Kp (w0 w w' : World) (p : World → Prop) : Prop := ∀ w'', Ext w0 w'' → w'.heap.size ≤ w''.heap.size → (∀ k, w.heap.size ≤ k → k < w'.heap.size → w''.heap[k]? = w'.heap[k]?) → p w''
theorem Kp.of {w0 w w' : World} {p : World → Prop} (h : ∀ w'', Ext w0 w'' → p w'') : Kp w0 w w' p := fun w'' he _ _ => h w'' he
def twoTl (a b : VarS) : Sch := .fre a.st (.fre b.st .done .nil) .nil
structure TwoSt (w0 : World) (a b : VarS) (S : Fr) (pa pb : List Value → World → Prop) (fa fb na nb : Bool) (S' : Fr) (w : World) (xa xb : List Value) (la ha lb hb qa qb : Nat) : Prop where
  ext : Ext w0 w
  fr : ∀ t, t ≠ a.d → t ≠ b.d → t ≠ a.x → t ≠ b.x → S' t = S t
  a1 : fa = true → S' a.x = .agg xa.toArray ∧ xa.length = a.n ∧ (∀ u ∈ xa, u.oneCell' = true) ∧ ha ≤ w.heap.size ∧ ∀ w'', Ext w0 w'' → w.heap.size ≤ w''.heap.size → (∀ k, la ≤ k → k < ha → w''.heap[k]? = w.heap[k]?) → pa xa w''
  b1 : fb = true → S' b.x = .agg xb.toArray ∧ xb.length = b.n ∧ (∀ u ∈ xb, u.oneCell' = true) ∧ hb ≤ w.heap.size ∧ ∀ w'', Ext w0 w'' → w.heap.size ≤ w''.heap.size → (∀ k, lb ≤ k → k < hb → w''.heap[k]? = w.heap[k]?) → pb xb w''
  a2 : na = true → S' a.d = .pointer (some ⟨qa, 0, none⟩) ∧ w0.heap.size ≤ qa ∧ qa < w.heap.size ∧ w.heap[qa]? = some (.cells a.z a.ty)
  b2 : nb = true → S' b.d = .pointer (some ⟨qb, 0, none⟩) ∧ w0.heap.size ≤ qb ∧ qb < w.heap.size ∧ w.heap[qb]? = some (.cells b.z b.ty)
  aa : fa = true → na = true → qa < la ∨ ha ≤ qa
  ab : fa = true → nb = true → qb < la ∨ ha ≤ qb
  ba : fb = true → na = true → qa < lb ∨ hb ≤ qa
  bb : fb = true → nb = true → qb < lb ∨ hb ≤ qb
  nn : na = true → nb = true → qa ≠ qb
structure Slots4 (a b : VarS) : Prop where
  d12 : a.d ≠ b.d
  d13 : a.d ≠ a.x
  d14 : a.d ≠ b.x
  d23 : b.d ≠ a.x
  d24 : b.d ≠ b.x
  d34 : a.x ≠ b.x
section
variable {a b : VarS} {pa pb : List Value → World → Prop} {fa fb na nb : Bool} {S' : Fr} {xa xb : List Value} {la ha lb hb qa qb : Nat}
theorem TwoSt.call (hs : Slots4 a b) (h : TwoSt w0 a b S pa pb false fb na nb S' w xa xb la ha lb hb qa qb) {w1 : World} {x : List Value} (he : Ext w w1) (hl : x.length = a.n) (h1 : ∀ u ∈ x, u.oneCell' = true) (hp : Kp w0 w w1 (pa x)) :
    TwoSt w0 a b S pa pb true fb na nb (upd S' a.x (.agg x.toArray)) w1 x xb w.heap.size w1.heap.size lb hb qa qb := by
  refine ⟨h.ext.trans he, fun t t1 t2 t3 t4 => by rw [upd_at, if_neg t3]; exact h.fr t t1 t2 t3 t4, fun _ => ⟨by simp [upd], hl, h1, Nat.le_refl _, fun w'' e1 e2 e3 => hp w'' e1 e2 e3⟩, fun f => ?_, fun f => ?_, fun f => ?_, fun _ f => .inl (h.a2 f).2.2.1, fun _ f => .inl (h.b2 f).2.2.1, h.ba, h.bb, h.nn⟩
  · obtain ⟨k1, k2, k3, k4, k5⟩ := h.b1 f
    refine ⟨by rw [upd_at, if_neg hs.d34.symm]; exact k1, k2, k3, Nat.le_trans k4 he.size, fun w'' e1 e2 e3 => k5 w'' e1 (Nat.le_trans he.size e2) fun k g1 g2 => ?_⟩
    rw [e3 k g1 g2, he.heap (by omega)]
  · obtain ⟨k1, k2, k3, k4⟩ := h.a2 f
    exact ⟨by rw [upd_at, if_neg hs.d13]; exact k1, k2, Nat.lt_of_lt_of_le k3 he.size, he.obj k4⟩
  · obtain ⟨k1, k2, k3, k4⟩ := h.b2 f
    exact ⟨by rw [upd_at, if_neg hs.d23]; exact k1, k2, Nat.lt_of_lt_of_le k3 he.size, he.obj k4⟩
theorem TwoSt.new (hs : Slots4 a b) (h : TwoSt w0 a b S pa pb fa fb false nb S' w xa xb la ha lb hb qa qb) :
    TwoSt w0 a b S pa pb fa fb true nb (upd S' a.d (.pointer (some ⟨w.heap.size, 0, none⟩))) (w.alloc (.cells a.z a.ty)) xa xb la ha lb hb w.heap.size qb := by
  have he : Ext w (w.alloc (.cells a.z a.ty)) := (Ext.refl w).alloc _
  have hz : (w.alloc (.cells a.z a.ty)).heap.size = w.heap.size + 1 := World.size_alloc _ _
  refine ⟨h.ext.trans he, fun t t1 t2 t3 t4 => by rw [upd_at, if_neg t1]; exact h.fr t t1 t2 t3 t4, fun f => ?_, fun f => ?_, fun _ => ⟨by simp [upd], h.ext.size, by omega, heap_alloc_new w _⟩, fun f => ?_, fun f _ => .inr (h.a1 f).2.2.2.1, h.ab, fun f _ => .inr (h.b1 f).2.2.2.1, h.bb, fun _ f => by have := (h.b2 f).2.2.1; omega⟩
  · obtain ⟨k1, k2, k3, k4, k5⟩ := h.a1 f
    refine ⟨by rw [upd_at, if_neg hs.d13.symm]; exact k1, k2, k3, by omega, fun w'' e1 e2 e3 => k5 w'' e1 (by omega) fun k g1 g2 => ?_⟩
    rw [e3 k g1 g2, he.heap (by omega)]
  · obtain ⟨k1, k2, k3, k4, k5⟩ := h.b1 f
    refine ⟨by rw [upd_at, if_neg hs.d14.symm]; exact k1, k2, k3, by omega, fun w'' e1 e2 e3 => k5 w'' e1 (by omega) fun k g1 g2 => ?_⟩
    rw [e3 k g1 g2, he.heap (by omega)]
  · obtain ⟨k1, k2, k3, k4⟩ := h.b2 f
    exact ⟨by rw [upd_at, if_neg hs.d12.symm]; exact k1, k2, by omega, he.obj k4⟩
theorem TwoSt.fin (hs : Slots4 a b) (hza : a.z.size = a.n) (hzb : b.z.size = b.n) (h : TwoSt w0 a b S pa pb true true true true S' w xa xb la ha lb hb qa qb)
    (hk : ∀ w' xa xb ba bb, Ext w0 w' → w0.heap.size ≤ ba → w0.heap.size ≤ bb → ba ≠ bb → w'.heap[ba]? = some (.cells xa.toArray a.ty) → w'.heap[bb]? = some (.cells xb.toArray b.ty) → pa xa w' → pb xb w' →
      K (upd (upd (upd (upd S a.x (.agg xa.toArray)) b.x (.agg xb.toArray)) a.d (.pointer (some ⟨ba, 0, none⟩))) b.d (.pointer (some ⟨bb, 0, none⟩))) w') : svc P w0 (twoTl a b) S' w K := by
  obtain ⟨k1, k2, k3, k4, k5⟩ := h.a1 rfl
  obtain ⟨m1, m2, m3, m4, m5⟩ := h.b1 rfl
  obtain ⟨j1, j2, j3, j4⟩ := h.a2 rfl
  obtain ⟨n1, n2, n3, n4⟩ := h.b2 rfl
  have hne := h.nn rfl rfl
  have raa := h.aa rfl rfl
  have rab := h.ab rfl rfl
  have rba := h.ba rfl rfl
  have rbb := h.bb rfl rfl
  have e : S' = upd (upd (upd (upd S a.x (.agg xa.toArray)) b.x (.agg xb.toArray)) a.d (.pointer (some ⟨qa, 0, none⟩))) b.d (.pointer (some ⟨qb, 0, none⟩)) := by
    funext t
    simp only [upd_at]
    by_cases t1 : t = b.d
    · rw [if_pos t1, t1, n1]
    rw [if_neg t1]
    by_cases t2 : t = a.d
    · rw [if_pos t2, t2, j1]
    rw [if_neg t2]
    by_cases t3 : t = b.x
    · rw [if_pos t3, t3, m1]
    rw [if_neg t3]
    by_cases t4 : t = a.x
    · rw [if_pos t4, t4, k1]
    rw [if_neg t4]
    exact h.fr t t2 t1 t4 t3
  refine ⟨?_, trivial⟩
  rw [freS_st, j1, k1]
  refine stAb_ok j4 hza (by simpa using k2) (by simpa using k3) fun w1 hw1 hc1 => ?_
  refine ⟨?_, trivial⟩
  rw [freS_st, n1, m1]
  refine stAb_ok (hw1.obj n4 (Ne.symm hne)) hzb (by simpa using m2) (by simpa using m3) fun w2 hw2 hc2 => ?_
  have e02 := hw2.ext (hw1.ext h.ext j2) n2
  have hsz : w.heap.size ≤ w2.heap.size := by rw [hw2.size, hw1.size]; exact Nat.le_refl _
  have hold : ∀ k, k ≠ qa → k ≠ qb → w2.heap[k]? = w.heap[k]? := fun k g1 g2 => by rw [hw2.block k g2, hw1.block k g1]
  rw [e]
  exact hk w2 xa xb qa qb e02 j2 n2 hne (hw2.obj hc1 hne) hc2 (k5 w2 e02 hsz fun k g1 g2 => hold k (by omega) (by omega)) (m5 w2 e02 hsz fun k g1 g2 => hold k (by omega) (by omega))
end
end
end Lite
end
section
/- Processes: what the laws ask: heavy models, the same processes. -/
set_option maxRecDepth 4000
set_option maxHeartbeats 3200000
namespace Go.Proofs.YtbbaokmelkiemaaGreatDoor
open Go Go.RowKit Lite
theorem neq_r (v1 v2 : Value) (l1 l2 : List Abs.Node) (w : World) (h1 : Abs.Nodes w v1 l1) (h2 : Abs.Nodes w v2 l2) :
    Ret Tryz.prog F.slices_Equal_sl_api_Node_api_Node #[v1, v2] w fun v w' => (∃ b : Bool, v = .bool b ∧ (b = true ↔ l1 = l2)) ∧ Ext w w' :=
  equalA_r hmix E.slices_Equal_sl_api_Node_api_Node (sig := Abs.sigNode) (by kernel_rfl) Abs.conf_node rfl Abs.node_inj v1 v2 l1 l2 w h1 h2
theorem veq_r (v1 v2 : Value) (l1 l2 : List Abs.Var) (w : World) (h1 : Abs.Vars w v1 l1) (h2 : Abs.Vars w v2 l2) :
    Ret Tryz.prog F.slices_Equal_sl_api_Var_api_Var #[v1, v2] w fun v w' => (∃ b : Bool, v = .bool b ∧ (b = true ↔ l1 = l2)) ∧ Ext w w' :=
  equalA_r hmix E.slices_Equal_sl_api_Var_api_Var (sig := Abs.sigVar) (by kernel_rfl) Abs.conf_var rfl Abs.var_inj v1 v2 l1 l2 w h1 h2
theorem seq_r (v1 v2 : Value) (l1 l2 : List Abs.Scalar) (w : World) (h1 : Abs.Scalars w v1 l1) (h2 : Abs.Scalars w v2 l2) :
    Ret Tryz.prog F.slices_Equal_sl_api_Scalar_api_Scalar #[v1, v2] w fun v w' => (∃ b : Bool, v = .bool b ∧ (b = true ↔ l1 = l2)) ∧ Ext w w' :=
  equalA_r hmix E.slices_Equal_sl_api_Scalar_api_Scalar (sig := Abs.sigScalar) (by kernel_rfl) Abs.conf_scalar rfl Abs.scalar_inj v1 v2 l1 l2 w h1 h2
theorem cheq_r (v1 v2 : Value) (l1 l2 : List Abs.Chan) (w : World) (h1 : Abs.Chans w v1 l1) (h2 : Abs.Chans w v2 l2) :
    Ret Tryz.prog F.slices_Equal_sl_api_Chan_api_Chan #[v1, v2] w fun v w' => (∃ b : Bool, v = .bool b ∧ (b = true ↔ l1 = l2)) ∧ Ext w w' :=
  equalA_r hmix E.slices_Equal_sl_api_Chan_api_Chan (sig := Abs.sigChan) (by kernel_rfl) Abs.conf_chan rfl Abs.chan_inj v1 v2 l1 l2 w h1 h2
end Go.Proofs.YtbbaokmelkiemaaGreatDoor
end
section
/- Processes: what the laws ask: heavy models. -/
set_option maxRecDepth 4000
set_option maxHeartbeats 3200000
namespace Abs
/-- A model that may be gone through. -/
structure HeavyOk (m : Model) : Prop where
  s : m.scalars.length ≤ 10
  v : m.vars.length ≤ 30
  c : m.chans.length ≤ 20
  p : m.procs.length ≤ 20
  q : m.props.length ≤ 20
  i : ∀ p ∈ m.procs, p.vars.length ≤ 20 ∧ p.cmds.length ≤ 30 ∧ ∀ c ∈ p.cmds, c.acts.length ≤ 20 ∧ c.guard.length ≤ 60
end Abs
namespace Go.Proofs.YtbbaokmelkiemaaGreatDoor
open Go Go.RowKit Lite
end Go.Proofs.YtbbaokmelkiemaaGreatDoor
end
section
/- Lite: functions with a range over a function in them. -/
set_option maxRecDepth 4000
namespace Lite
open Go Go.RowKit
/-- Code with one range over a function in it. -/
inductive RC where
  | rng (g : Operand) (p : Nat) (a b : LC)
  | seqL (x : RC) (y : LC)
  | seqR (x : LC) (y : RC)
  | blk (id : Nat) (x : RC)
def compRC (P : Program) (n : Nat) : Code → Option RC
  | .rangeFunc g ps a b => match ps.toList, comp P n a, comp P n b with
    | [p], some la, some lb => if p < n then some (.rng g p la lb) else none
    | _, _, _ => none
  | .seq x y => match comp P n x with
    | some lx => (compRC P n y).map (.seqR lx)
    | none => match compRC P n x, comp P n y with
      | some rx, some ly => some (.seqL rx ly)
      | _, _ => none
  | .block id x => (compRC P n x).map (.blk id)
  | _ => none
structure RFn where
  n : Nat
  res : List LRes
  code : RC
def compRF (P : Program) (f : FuncId) : Option RFn :=
  match P.funcs[f]? with
  | some fn => match fn.body with
    | some c => match compRC P fn.ntmps c, compResL P fn.results.toList with
      | some lc, some r => some ⟨fn.ntmps, r, lc⟩
      | _, _ => none
    | none => none
  | none => none
/-- What each round keeps. -/
structure KpOk (Kp : World → World → Prop) (B : Nat) : Prop where
  trans : ∀ {a b c : World}, Kp a b → Kp b c → Kp a c
  put : ∀ (W : World) (l : Nat) (o o' : Obj), B ≤ l → W.heap[l]? = some o → o.isCells = false → Kp W (W.putObj l o')
/-- What stood below is as it was, and all cells of these types. -/
def KT (n0 : Nat) (ts : List TypeId) (W W' : World) : Prop := Below n0 W W' ∧ ∀ (k : Nat) (c : Array Value) (t : TypeId) (f : Nat × Nat), W.heap[k]? = some (.cells c t f) → t ∈ ts → W'.heap[k]? = W.heap[k]?
theorem KT.ok {n0 B : Nat} (ts : List TypeId) (h : n0 ≤ B) : KpOk (KT n0 ts) B where
  trans h k := ⟨h.1.trans k.1, fun i c t f hi ht => by rw [← h.2 i c t f hi ht]; exact k.2 i c t f ((h.2 i c t f hi ht).trans hi) ht⟩
  put W l o o' hl ho hc := ⟨(Below.refl n0 W).grown (grownBy_putObj' W l o') (by have := (Array.getElem?_eq_some_iff.1 ho).1; omega) (fun k e => by cases e; omega), fun k c t f hk _ => by
    have hne : l ≠ k := fun e => by subst e; rw [ho] at hk; injection hk with hk; subst hk; cases hc
    exact World.putObj_heap_other (Ne.symm hne)⟩
theorem Ext.kt {n0 : Nat} {ts : List TypeId} {W W' : World} (h : Ext W W') (hn : n0 ≤ W.heap.size) : KT n0 ts W W' := ⟨Below.mono h hn, fun k c t f hk _ => h.heap (lt_of_heap hk)⟩
/-- How a round may be left. -/
def rngPost {α : Type} (Kp : World → World → Prop) (B : Nat) (I : List α → World → Prop) (Ix : LX → List α → World → Prop) (xs : List α) (W : World) : LX → Fr → World → Prop
  | .normal, _, W' => KeepsFrom B W W' ∧ Kp W W' ∧ I xs W'
  | .pan _, _, _ => False
  | e, _, W' => KeepsFrom B W W' ∧ Ix e xs W'
/-- The loop's own record is written. -/
def RecPut (B : Nat) (W W' : World) : Prop := ∃ l, B ≤ l ∧ (∃ o, W.heap[l]? = some o ∧ o.isCells = false) ∧ W.grownBy W' (some l)
def RngVC (P : Program) (g : Value) (p : Nat) (a b : LC) (Q : Nat → LX → Fr → World → Prop) (S : Fr) (w : World) : Prop :=
  ∃ (α : Type) (enc : α → Value) (gf : Nat) (lb : Array Value) (Kp : World → World → Prop) (Sx Sp : List α → Prop) (N : Nat) (w0 : World), g = .func (.func gf) #[] lb ∧ okF P gf = true ∧ SeqStopsK Fence.wide 0 P gf lb (fun x => #[enc x]) Kp Sx Sp N w0 ∧ Ext w0 w ∧ KpOk Kp w.heap.size ∧
  ∃ (I : List α → World → Prop) (Ix : LX → List α → World → Prop), OwnFrom w.heap.size I ∧ (∀ e, OwnFrom w.heap.size (Ix e)) ∧ I [] w ∧
    (∀ pre x W, I pre W → pre.length < N → vc P a (thenQ (fun S1 W1 => KeepsFrom w.heap.size W W1 ∧ Kp W W1 ∧ ∀ W2, RecPut w.heap.size W1 W2 → vc P b (rngPost Kp w.heap.size I Ix (pre ++ [x]) W2) S1 W2) (fun _ _ _ => False)) (upd S p (enc x)) W) ∧
    (∀ D xs W, w.heap.size ≤ D → Sx xs → I xs W → W.heap[D]? = some (.deferred (some [])) → Q D .normal S W) ∧
    (∀ D e pre W, e ≠ .normal → w.heap.size ≤ D → Sp pre → Ix e pre W → W.heap[D]? = some (.deferred (some [])) → Q D e S W)
/-- The statement, where what a round begins with may lay new blocks. -/
theorem rng_law {α : Type} {enc : α → Value} {P : Program} {g : Operand} {p : Nat} {asc body : Code} {Q : Exit → Act → World → Prop} {a : Act} {w w0 : World} {gf : Nat} {lb : Array Value} {Kp : World → World → Prop} {N : Nat} {Sx Sp : List α → Prop}
    (hg : a.eval g = .func (.func gf) #[] lb) (hok : okF P gf = true) (hseq : SeqStopsK Fence.wide 0 P gf lb (fun x => #[enc x]) Kp Sx Sp N w0) (he : Ext w0 w) (hKp : KpOk Kp w.heap.size)
    (I : List α → World → Prop) (Ix : Code → List α → World → Prop) (hI : OwnFrom w.heap.size I) (hIx : ∀ c, OwnFrom w.heap.size (Ix c)) (h0 : I [] w)
    (hround : ∀ l pre x W, I pre W → pre.length < N → asc.wpIn (FR (some l)) 1 P (Exit.then (fun a1 W1 => KeepsFrom w.heap.size W W1 ∧ Kp W W1 ∧
      ∀ W2, RecPut w.heap.size W1 W2 → body.wpIn (FR (some l)) 1 P (ownPostG w.heap.size Kp I Ix (pre ++ [x]) W2) a1 W2) (fun _ _ _ => False)) { tmps := a.tmps.setIfInBounds p (enc x), defers := [] } W)
    (hdone : ∀ D xs W, w.heap.size ≤ D → Sx xs → I xs W → W.heap[D]? = some (.deferred (some [])) → Q .normal { a with defers := { target := .collected D, args := #[] } :: a.defers } W)
    (hstop : ∀ D c pre W, w.heap.size ≤ D → Sp pre → Ix c pre W → W.heap[D]? = some (.deferred (some [])) → c.wpIn Fence.wide 3 P Q { a with defers := { target := .collected D, args := #[] } :: a.defers } W) :
    (Code.rangeFunc g #[p] asc body).wpIn Fence.wide 3 P Q a w := by
  refine wpIn_rangeFunc fun fn hfn => ?_
  obtain ⟨lp, hlp⟩ : ∃ lp : LoopState → Option Code → Loop, lp = fun st pe => { state := st, pending := pe, fn, tmps := a.tmps, params := #[p], assign := asc, body, defers := w.heap.size } := ⟨_, rfl⟩
  obtain ⟨w1, hw1⟩ : ∃ w1, (w.alloc (.deferred (some []))).alloc (.loop (lp .ready none)) = w1 := ⟨_, rfl⟩
  have hz1 : w1.heap.size = w.heap.size + 2 := by rw [← hw1]; simp
  have hr1 : w1.heap[w.heap.size + 1]? = some (.loop (lp .ready none)) := by
    rw [← hw1]
    have := World.alloc_heap_new (w.alloc (.deferred (some []))) (.loop (lp .ready none))
    rwa [World.size_alloc] at this
  have hd1 : w1.heap[w.heap.size]? = some (.deferred (some [])) := by rw [← hw1]; exact (Below.heap_alloc _ _ _ (by simp)).trans (World.alloc_heap_new w _)
  have hi1 : I [] w1 := by rw [← hw1]; exact hI.alloc _ (hI.alloc _ h0)
  have hb1 : Below w0.heap.size w0 w1 := by rw [← hw1]; exact (he.alloc _).alloc _
  have low : ∀ {A B : World} {row : Option Nat}, (∀ r, row = some r → w1.heap.size ≤ r ∧ ∃ o : Obj, A.heap[r]? = some o ∧ o.isWalk = true) → (∀ r, row = some r → w.heap.size ≤ r ∧ ∃ o : Obj, A.heap[r]? = some o ∧ o.isCells = false) :=
    fun hr r e => by obtain ⟨h2, o, ho, hw⟩ := hr r e; exact ⟨by omega, o, ho, Obj.not_cells_of_walk hw⟩
  refine ⟨w.heap.size + 1, [{ target := .collected w.heap.size, args := #[] }], w1, { target := .fn (.func gf) lb, args := #[.func (.yield (w.heap.size + 1)) #[] #[]] }, w1, gf,
    #[.func (.yield (w.heap.size + 1)) #[] #[]] ++ lb, w1, ?_, ?_, fun _ _ => trivial, ?_, fun _ => by decide, ?_⟩
  · rw [← hw1, hlp]; exact run_enterLoop_outer _ _ _ _ _
  · simp only [resolve, hg]
    simp [go_sem]
  · simp [invoke, go_sem, run_callFunc hok]
  refine CallsIn.mono (callsIn_FR (r := none) (callsIn_wide.1 (hseq (w.heap.size + 1)
    (fun pre W => I pre W ∧ W.heap[w.heap.size + 1]? = some (.loop (lp .ready none)) ∧ W.heap[w.heap.size]? = some (.deferred (some [])))
    (fun pre W => ∃ c, Ix c pre W ∧ W.heap[w.heap.size + 1]? = some (.loop (lp .done (some c))) ∧ W.heap[w.heap.size]? = some (.deferred (some [])))
    w1 hb1 ?_ ?_ ?_ ⟨hi1, hr1, hd1⟩))) ?_
  · exact fun s A B row hs hgr hr => ⟨hI s A B row hs.1 hgr (low (B := B) hr), (grownBy_keeps hgr (fun r e => (hr r e).2) hs.2.1 rfl).trans hs.2.1, (grownBy_keeps hgr (fun r e => (hr r e).2) hs.2.2 rfl).trans hs.2.2⟩
  · intro s A B row hs hgr hr
    obtain ⟨c, hc, h2, h3⟩ := hs
    exact ⟨c, hIx c s A B row hc hgr (low (B := B) hr), (grownBy_keeps hgr (fun r e => (hr r e).2) h2 rfl).trans h2, (grownBy_keeps hgr (fun r e => (hr r e).2) h3 rfl).trans h3⟩
  · rintro pre x W ⟨hi, h2, h3⟩ hlen
    have hy := run_yield (P := P) (args := #[enc x]) h2 (by rw [hlp]; rfl)
    rw [hlp] at hy
    refine ⟨fn, _, asc, body, hy, roundIn_FR (r := none) (m := 0 - 1) ?_⟩
    refine (roundIn_of_wpIn (F := Fence.wide) (n := 1) (l := w.heap.size + 1) hfn ?_) |> fun h => ⟨trivial, fun c cs _ => h.2 c cs (room_wide _)⟩
    have hz : (#[p] : Array Tmp).zip #[enc x] = #[(p, enc x)] := by apply Array.ext'; simp [Array.toList_zip]
    have hasg := hround (w.heap.size + 1) pre x W hi hlen
    simp only [hz]
    refine wpIn_mono hasg fun e a1 W1 h => ?_
    cases e with
    | normal =>
      obtain ⟨k1, k2, k3⟩ := h
      have r1 := k1.same _ _ (by omega) h2 rfl
      have d1 := k1.same _ _ (Nat.le_refl _) h3 rfl
      refine ⟨_, run_beginRound r1 (by rw [hlp]), ?_⟩
      have hlt := (Array.getElem?_eq_some_iff.1 r1).1
      have r2 : (W1.putObj (w.heap.size + 1) (.loop { lp .ready none with state := .busy })).heap[w.heap.size + 1]? = some (.loop { lp .ready none with state := .busy }) := World.putObj_heap_same hlt
      have d2 : (W1.putObj (w.heap.size + 1) (.loop { lp .ready none with state := .busy })).heap[w.heap.size]? = some (.deferred (some [])) := (World.putObj_heap_other (by omega)).trans d1
      have b2 : Kp W1 (W1.putObj (w.heap.size + 1) (.loop { lp .ready none with state := .busy })) := hKp.put _ _ _ _ (by omega) r1 rfl
      refine wpIn_mono (k3 _ ⟨_, by omega, ⟨_, r1, rfl⟩, grownBy_putObj' _ _ _⟩) fun e a3 W3 hp => ?_
      have fin : ∀ (jump : Option Code), KeepsFrom w.heap.size (W1.putObj (w.heap.size + 1) (.loop { lp .ready none with state := .busy })) W3 →
          (Instr.endRound (w.heap.size + 1) jump).run P W3 = .ok (.bool jump.isNone) (W3.putObj (w.heap.size + 1) (.loop (lp (if jump.isNone then .ready else .done) jump))) ∧
          W3.heap[w.heap.size + 1]? = some (.loop { lp .ready none with state := .busy }) ∧
          (W3.putObj (w.heap.size + 1) (.loop (lp (if jump.isNone then .ready else .done) jump))).heap[w.heap.size + 1]? = some (.loop (lp (if jump.isNone then .ready else .done) jump)) ∧
          (W3.putObj (w.heap.size + 1) (.loop (lp (if jump.isNone then .ready else .done) jump))).heap[w.heap.size]? = some (.deferred (some [])) := fun jump k4 => by
        have r3 := k4.same _ _ (by omega) r2 rfl
        have := run_endRound (P := P) jump r3
        rw [hlp] at this ⊢
        exact ⟨this, by rw [hlp] at r3; exact r3, World.putObj_heap_same (Array.getElem?_eq_some_iff.1 r3).1, (World.putObj_heap_other (by omega)).trans (k4.same _ _ (Nat.le_refl _) d2 rfl)⟩
      cases e with
      | normal =>
        obtain ⟨q1, q2, q3⟩ := hp
        obtain ⟨f1, f2, f3, f4⟩ := fin none q1
        exact ⟨_, _, f1, .inl ⟨rfl, ⟨hI.putObj _ q3 (by omega) f2 rfl, f3, f4⟩, hKp.trans (hKp.trans (hKp.trans k2 b2) q2) (hKp.put _ _ _ _ (by omega) f2 rfl)⟩⟩
      | ret =>
        obtain ⟨q1, q3⟩ := hp
        obtain ⟨f1, f2, f3, f4⟩ := fin (some .ret) q1
        exact ⟨_, _, f1, .inr ⟨rfl, .ret, (hIx _).putObj _ q3 (by omega) f2 rfl, f3, f4⟩⟩
      | exit id =>
        obtain ⟨q1, q3⟩ := hp
        obtain ⟨f1, f2, f3, f4⟩ := fin (some (.exit id)) q1
        exact ⟨_, _, f1, .inr ⟨rfl, .exit id, (hIx _).putObj _ q3 (by omega) f2 rfl, f3, f4⟩⟩
      | goto t =>
        obtain ⟨q1, q3⟩ := hp
        obtain ⟨f1, f2, f3, f4⟩ := fin (some (.goto t)) q1
        exact ⟨_, _, f1, .inr ⟨rfl, .goto t, (hIx _).putObj _ q3 (by omega) f2 rfl, f3, f4⟩⟩
      | _ => exact hp.elim
    | _ => exact h.elim
  · rintro e W2 ⟨⟨v, rfl⟩, (⟨xs, hS, hi, h2, h3⟩ | ⟨pre, hSp, c, hi, h2, h3⟩)⟩
    · exact ⟨none, _, by have := run_endLoop (P := P) h2 (by rw [hlp]; simp); rw [hlp] at this; exact this, hdone _ xs _ (Nat.le_refl _) hS (hI.putObj _ hi (by omega) h2 rfl) ((World.putObj_heap_other (by omega)).trans h3)⟩
    · exact ⟨some c, _, by have := run_endLoop (P := P) h2 (by rw [hlp]; simp); rw [hlp] at this; exact this, hstop _ c pre _ (Nat.le_refl _) hSp ((hIx c).putObj _ hi (by omega) h2 rfl) ((World.putObj_heap_other (by omega)).trans h3)⟩
def vcR (P : Program) : RC → (Option Nat → LX → Fr → World → Prop) → Fr → World → Prop
  | .rng g p a b, Q, S, w => RngVC P (ev S g) p a b (fun D => Q (some D)) S w
  | .seqL x y, Q, S, w => vcR P x (fun o => thenQ (fun S w => vc P y (Q o) S w) (Q o)) S w
  | .seqR x y, Q, S, w => vc P x (thenQ (fun S w => vcR P y Q S w) (Q none)) S w
  | .blk id x, Q, S, w => vcR P x (fun o => blkQ id (Q o)) S w
def marks : Option Nat → List Deferred
  | none => []
  | some D => [{ target := .collected D, args := #[] }]
def liftRQ (n : Nat) (Q : Option Nat → LX → Fr → World → Prop) : Exit → Act → World → Prop
  | .normal, a, w => ∃ o S, Fits (marks o) a S n ∧ Q o .normal S w
  | .exit i, a, w => ∃ o S, Fits (marks o) a S n ∧ Q o (.exit i) S w
  | .ret, a, w => ∃ o S, Fits (marks o) a S n ∧ Q o .ret S w
  | .panic c, a, w => ∃ o S, Fits (marks o) a S n ∧ Q o (.pan c) S w
  | _, _, _ => False
theorem liftRQ_of {n : Nat} {Q : Option Nat → LX → Fr → World → Prop} {o : Option Nat} {e : Exit} {a : Act} {w : World} (h : liftQ (marks o) n (Q o) e a w) : liftRQ n Q e a w := by
  cases e with
  | normal => obtain ⟨S, h1, h2⟩ := h; exact ⟨o, S, h1, h2⟩
  | exit i => obtain ⟨S, h1, h2⟩ := h; exact ⟨o, S, h1, h2⟩
  | ret => obtain ⟨S, h1, h2⟩ := h; exact ⟨o, S, h1, h2⟩
  | panic c => obtain ⟨S, h1, h2⟩ := h; exact ⟨o, S, h1, h2⟩
  | _ => exact h.elim
theorem soundRC {P : Program} (hm : P.follows .mixedOrders = true) {n : Nat} : ∀ (c : Code) (rc : RC), compRC P n c = some rc → ∀ (Q : Option Nat → LX → Fr → World → Prop) (a : Act) (S : Fr) (w : World), Fits [] a S n → vcR P rc Q S w → c.wpIn Fence.wide 3 P (liftRQ n Q) a w
  | .rangeFunc g ps asc b, rc, h, Q, a, S, w, hf, hv => by
    simp only [compRC] at h
    split at h
    · rename_i p la lb hps ha hb
      split at h
      · rename_i hp
        injection h with h; subst h
        obtain ⟨α, enc, gf, lbs, Kp, Sx, Sp, N, w0, hg, hok, hseq, he, hKp, I, Ix, hI, hIx, h0, hbody, hdone, hstop⟩ := hv
        have hps' : ps = #[p] := by rw [← Array.toArray_toList (xs := ps), hps]
        subst hps'
        refine rng_law (by rw [hf.eval]; exact hg) hok hseq he hKp I (fun c => match c with | .ret => Ix .ret | .exit id => Ix (.exit id) | _ => fun _ _ => False) hI ?_ h0 ?_ ?_ ?_
        · intro c
          split
          · exact hIx _
          · exact hIx _
          · exact fun s W W' row h _ _ => h.elim
        · intro l pre x W hi hl
          have hfx : Fits [] ({ tmps := a.tmps.setIfInBounds p (enc x), defers := [] } : Act) (upd S p (enc x)) n := by
            refine ⟨rfl, by simp [hf.2.1], fun t => ?_⟩
            have := hf.2.2 t
            simp only [upd]
            by_cases ht : t = p
            · subst ht; simp [hf.2.1, hp]
            · have h2 : (a.tmps.setIfInBounds p (enc x))[t]? = a.tmps[t]? := Array.getElem?_setIfInBounds_ne (Ne.symm ht)
              rw [if_neg ht, ← this]
              simp [Array.getD_eq_getD_getElem?, h2]
          refine wpIn_mono (sound (ds := []) (r := some l) hm asc la ha _ _ _ W hfx (hbody pre x W hi hl)) fun e a' W' hq => ?_
          cases e with
          | normal =>
            obtain ⟨S', hf', h1, h2, h3⟩ := hq
            refine ⟨h1, h2, fun W2 h4 => ?_⟩
            refine wpIn_mono (sound (ds := []) (r := some l) hm b lb hb _ _ _ W2 hf' (h3 W2 h4)) fun e a2 W3 hq => ?_
            cases e with
            | normal => obtain ⟨S', _, h1, h2, h3⟩ := hq; exact ⟨h1, h2, h3⟩
            | ret => obtain ⟨S', _, h1, h2⟩ := hq; exact ⟨h1, h2⟩
            | exit id => obtain ⟨S', _, h1, h2⟩ := hq; exact ⟨h1, h2⟩
            | panic c => obtain ⟨S', _, h1⟩ := hq; exact h1.elim
            | _ => exact hq.elim
          | ret => obtain ⟨S', _, h1⟩ := hq; exact h1.elim
          | exit id => obtain ⟨S', _, h1⟩ := hq; exact h1.elim
          | panic c => obtain ⟨S', _, h1⟩ := hq; exact h1.elim
          | _ => exact hq.elim
        · intro D xs W hD hS hi hd
          exact ⟨some D, S, ⟨by rw [hf.1]; rfl, hf.2⟩, hdone D xs W hD hS hi hd⟩
        · intro D c pre W hD hS hi hd
          have hfd : Fits (marks (some D)) { a with defers := { target := .collected D, args := #[] } :: a.defers } S n := ⟨by rw [hf.1]; rfl, hf.2⟩
          split at hi
          · exact wpIn_ret ⟨some D, S, hfd, hstop D .ret pre W (by simp) hD hS hi hd⟩
          · exact wpIn_exit ⟨some D, S, hfd, hstop D (.exit _) pre W (by simp) hD hS hi hd⟩
          · exact hi.elim
      · cases h
    · cases h
  | .seq x y, rc, h, Q, a, S, w, hf, hv => by
    simp only [compRC] at h
    split at h
    · rename_i lx hx
      obtain ⟨ry, hy, rfl⟩ := Option.map_eq_some_iff.1 h
      refine wpIn_seq (wpIn_mono (sound (ds := []) (r := none) (m := 3) hm x lx hx _ a S w hf hv) fun e a' w' hq => ?_)
      cases e with
      | normal => obtain ⟨S', hf', hq⟩ := hq; exact soundRC hm y ry hy Q a' S' w' hf' hq
      | exit i => obtain ⟨S', hf', hq⟩ := hq; exact ⟨none, S', hf', hq⟩
      | ret => obtain ⟨S', hf', hq⟩ := hq; exact ⟨none, S', hf', hq⟩
      | panic c => obtain ⟨S', hf', hq⟩ := hq; exact ⟨none, S', hf', hq⟩
      | _ => exact hq.elim
    · split at h
      · rename_i rx ly hx hy
        injection h with h; subst h
        refine wpIn_seq (wpIn_mono (soundRC hm x rx hx _ a S w hf hv) fun e a' w' hq => ?_)
        cases e with
        | normal =>
          obtain ⟨o, S', hf', hq⟩ := hq
          exact wpIn_mono (sound (ds := marks o) (r := none) (m := 3) hm y ly hy (Q o) a' S' w' hf' hq) fun e a'' w'' h => liftRQ_of h
        | exit i => obtain ⟨o, S', hf', hq⟩ := hq; exact ⟨o, S', hf', hq⟩
        | ret => obtain ⟨o, S', hf', hq⟩ := hq; exact ⟨o, S', hf', hq⟩
        | panic c => obtain ⟨o, S', hf', hq⟩ := hq; exact ⟨o, S', hf', hq⟩
        | _ => exact hq.elim
      · cases h
  | .block id b, rc, h, Q, a, S, w, hf, hv => by
    simp only [compRC] at h
    obtain ⟨rb, hb, rfl⟩ := Option.map_eq_some_iff.1 h
    refine wpIn_block (wpIn_mono (soundRC hm b rb hb _ a S w hf hv) fun e a' w' hq => ?_)
    cases e with
    | normal => obtain ⟨o, S', hf', hq⟩ := hq; exact ⟨o, S', hf', hq⟩
    | ret => obtain ⟨o, S', hf', hq⟩ := hq; exact ⟨o, S', hf', hq⟩
    | panic c => obtain ⟨o, S', hf', hq⟩ := hq; exact ⟨o, S', hf', hq⟩
    | exit i =>
      obtain ⟨o, S', hf', hq⟩ := hq
      simp only [blkQ] at hq
      simp only [Exit.inBlock]
      split at hq
      · rename_i hi; rw [if_pos hi]; exact ⟨o, S', hf', hq⟩
      · rename_i hi; rw [if_neg hi]; exact ⟨o, S', hf', hq⟩
    | _ => exact hq.elim
  | .skip, rc, h, _, _, _, _, _, _ => by simp [compRC] at h
  | .region _ _ _, rc, h, _, _, _, _, _, _ => by simp [compRC] at h
  | .cond _ _ _, rc, h, _, _, _, _, _, _ => by simp [compRC] at h
  | .loop _, rc, h, _, _, _, _, _, _ => by simp [compRC] at h
  | .exit _, rc, h, _, _, _, _, _, _ => by simp [compRC] at h
  | .ret, rc, h, _, _, _, _, _, _ => by simp [compRC] at h
  | .scope _, rc, h, _, _, _, _, _, _ => by simp [compRC] at h
  | .label _, rc, h, _, _, _, _, _, _ => by simp [compRC] at h
  | .goto _, rc, h, _, _, _, _, _, _ => by simp [compRC] at h
  | .refuse _, rc, h, _, _, _, _, _, _ => by simp [compRC] at h
/-- What is asked at the body's end: the mark's calls are taken (there are none). -/
def endRQ (res : List LRes) (R : Value → World → Prop) : Option Nat → LX → Fr → World → Prop
  | none, e, S, w => endQ res R e S w
  | some D, .normal, S, w => w.heap[D]? = some (.deferred (some [])) ∧ resVC res S (setO w D (.deferred none)) fun vs => R (tup vs) (setO w D (.deferred none))
  | some D, .ret, S, w => w.heap[D]? = some (.deferred (some [])) ∧ resVC res S (setO w D (.deferred none)) fun vs => R (tup vs) (setO w D (.deferred none))
  | some _, .exit _, _, _ => False
  | some _, .pan _, _, _ => False
theorem run_take {P : Program} {D : Nat} {w : World} (h : w.heap[D]? = some (.deferred (some []))) : (Instr.takeDeferred D).run P w = .ok [] (setO w D (.deferred none)) := by
  simp [Instr.takeDeferred, Sem.run_bind, getObj, setObj, Sem.run, h, Result.andThen, setO]
theorem enterR {P : Program} {f : FuncId} {L : RFn} (hm : P.follows .mixedOrders = true) (hc : compRF P f = some L) {args : List Value} {w : World} {R : Value → World → Prop} (ha : args.length ≤ L.n)
    (h : vcR P L.code (endRQ L.res R) (fr0 args 0) w) : Ret P f args.toArray w R := by
  unfold compRF at hc
  split at hc
  · rename_i fn hfn
    split at hc
    · rename_i c hb
      split at hc
      · rename_i lc r h1 h2
        injection hc with hc; subst hc
        refine (callsIn_wide (n := 3)).1 (callsIn_of_wp_marks (F := Fence.wide) hfn hb trivial (wpIn_mono (soundRC hm c lc h1 _ _ (fr0 args 0) w ?_ h) ?_))
        · refine ⟨rfl, ?_, fun t => ?_⟩
          · have := ha; simp only at this; simp; omega
          · rw [fr0_at]
            simp only [Nat.zero_le, if_true, Nat.sub_zero]
            by_cases ht : t < args.length
            · simp [Array.getD_eq_getD_getElem?, Array.getElem?_append, ht]
            · simp only [Array.getD_eq_getD_getElem?, Array.getElem?_append, List.size_toArray, if_neg ht, List.getElem?_eq_none (Nat.le_of_not_lt ht), Option.getD_none]
              rw [Array.getElem?_replicate]
              split <;> rfl
        · have fin : ∀ (o : Option Nat) (S : Fr) (a' : Act) (w' : World), Fits (marks o) a' S fn.ntmps → (endRQ r R o .normal S w') → LeavesInM Fence.wide 3 P fn a'.tmps (fun e w' => ∃ v, e = .returned v ∧ R v w') a'.defers .returning w' := by
            intro o S a' w' hf hq
            rw [hf.1]
            cases o with
            | none =>
              obtain ⟨vs, h3, h4⟩ := sound_res hf _ _ _ h2 hq
              exact ⟨_, results_run h3, _, rfl, h4⟩
            | some D =>
              obtain ⟨hd, hq⟩ := hq
              obtain ⟨vs, h3, h4⟩ := sound_res hf _ _ _ h2 hq
              exact ⟨by simp, .inl ⟨D, _, rfl, run_take hd, ⟨_, results_run h3, _, rfl, h4⟩⟩⟩
          intro e a' w' hq
          cases e with
          | normal => obtain ⟨o, S, hf, hq⟩ := hq; exact fin o S a' w' hf hq
          | ret =>
            obtain ⟨o, S, hf, hq⟩ := hq
            refine fin o S a' w' hf ?_
            cases o <;> exact hq
          | exit i => obtain ⟨o, S, hf, hq⟩ := hq; cases o <;> exact hq.elim
          | panic c => obtain ⟨o, S, hf, hq⟩ := hq; cases o <;> exact hq.elim
          | _ => exact hq.elim
      · cases hc
    · cases hc
  · cases hc
end Lite
namespace Lite
open Go Go.RowKit
section
variable {P : Program} {S : Fr} {w : World}
theorem KR.start {f : FuncId} {L : RFn} (hm : P.follows .mixedOrders = true) (hc : compRF P f = some L) {args : List Value} {w : World} {R : Value → World → Prop} (ha : args.length ≤ L.n) (h : vcR P L.code (endRQ L.res R) (fr0 args 0) w) : Ret P f args.toArray w R := enterR hm hc ha h
theorem KR.seqR {x : LC} {y : RC} {Q : Option Nat → LX → Fr → World → Prop} (h : vch P x (thenQh (fun S w => vcR P y Q S w) (Q none) ⟨⟩) S w ⟨⟩) : vcR P (.seqR x y) Q S w := by unfold vch thenQh at h; exact h
theorem KR.seqL {x : RC} {y : LC} {Q : Option Nat → LX → Fr → World → Prop} (h : vcR P x (fun o => thenQh (fun S w => vch P y (Q o) S w ⟨⟩) (Q o) ⟨⟩) S w) : vcR P (.seqL x y) Q S w := by unfold vch thenQh at h; exact h
theorem KR.blk {id : Nat} {x : RC} {Q : Option Nat → LX → Fr → World → Prop} (h : vcR P x (fun o => blkQh id (Q o) ⟨⟩) S w) : vcR P (.blk id x) Q S w := by unfold blkQh at h; exact h
theorem KR.ret {res : List LRes} {R : Value → World → Prop} {D : Nat} (hd : w.heap[D]? = some (.deferred (some []))) (h : resVCh res S (setO w D (.deferred none)) (fun vs => R (tup vs) (setO w D (.deferred none))) ⟨⟩) : endRQ res R (some D) .ret S w := by
  unfold resVCh at h; exact ⟨hd, h⟩
/-- A range over a function, each round going on. -/
theorem KR.rng {α : Type} {enc : α → Value} {g : Operand} {p : Nat} {a b : LC} {Q : Option Nat → LX → Fr → World → Prop} {gf : Nat} {lb : Array Value} {Kp : World → World → Prop} {Sx Sp : List α → Prop} {N : Nat} {w0 : World}
    (hg : ev S g = .func (.func gf) #[] lb) (hok : okF P gf = true) (hseq : SeqStopsK Fence.wide 0 P gf lb (fun x => #[enc x]) Kp Sx Sp N w0) (he : Ext w0 w) (hKp : KpOk Kp w.heap.size)
    (I : List α → World → Prop) (hI : OwnFrom w.heap.size I) (h0 : I [] w)
    (hround : ∀ pre x W, I pre W → pre.length < N → vch P a (thenQh (fun S1 W1 => KeepsFrom w.heap.size W W1 ∧ Kp W W1 ∧ ∀ W2, RecPut w.heap.size W1 W2 →
      vch P b (thenQh (fun _ W' => KeepsFrom w.heap.size W2 W' ∧ Kp W2 W' ∧ I (pre ++ [x]) W') (fun _ _ _ => False) ⟨⟩) S1 W2 ⟨⟩) (fun _ _ _ => False) ⟨⟩) (upd S p (enc x)) W ⟨⟩)
    (hdone : ∀ D xs W, w.heap.size ≤ D → Sx xs → I xs W → W.heap[D]? = some (.deferred (some [])) → Q (some D) .normal S W) : vcR P (.rng g p a b) Q S w := by
  refine ⟨α, enc, gf, lb, Kp, Sx, Sp, N, w0, hg, hok, hseq, he, hKp, I, fun _ _ _ => False, hI, fun _ _ _ _ _ h _ _ => h.elim, h0, fun pre x W hi hl => ?_, hdone, fun D e pre W _ _ _ h _ => h.elim⟩
  have h := hround pre x W hi hl
  unfold vch thenQh at h
  refine vc_keep a _ _ _ W (fun e S1 W1 _ h1 => ?_) h
  cases e with
  | normal =>
    obtain ⟨k1, k2, k3⟩ := h1
    refine ⟨k1, k2, fun W2 hr => ?_⟩
    have h2 := k3 W2 hr
    refine vc_keep b _ _ _ W2 (fun e S2 W3 _ h3 => ?_) h2
    cases e with
    | normal => exact h3
    | exit _ => exact h3.elim
    | ret => exact h3.elim
    | pan _ => exact h3.elim
  | exit _ => exact h1.elim
  | ret => exact h1.elim
  | pan _ => exact h1.elim
/-! ### Worlds in rounds -/
theorem RecPut.cells {B : Nat} {W W' : World} (h : RecPut B W W') {k : Nat} {c : Array Value} {t : TypeId} {f : Nat × Nat} (hk : W.heap[k]? = some (.cells c t f)) : W'.heap[k]? = some (.cells c t f) := by
  obtain ⟨l, hl, ⟨o, ho, hc⟩, hg⟩ := h
  rw [hg.block k (lt_of_heap hk) fun e => by injection e with e; subst e; rw [ho] at hk; injection hk with hk; subst hk; cases hc]
  exact hk
theorem RecPut.mod {B : Nat} {W W' : World} (h : RecPut B W W') : ∃ l, B ≤ l ∧ (∀ c t f, W.heap[l]? ≠ some (.cells c t f)) ∧ Mod (fun k => k = l) W W' := by
  obtain ⟨l, hl, ⟨o, ho, hc⟩, hg⟩ := h
  exact ⟨l, hl, (fun c t f e => by rw [ho] at e; injection e with e; subst e; cases hc), Mod.grown hg fun k e => by injection e with e; exact e.symm⟩
theorem RecPut.ext {B : Nat} {w W W' : World} (h : RecPut B W W') (he : Ext w W) (hB : w.heap.size ≤ B) : Ext w W' := by
  obtain ⟨l, hl, _, hm⟩ := h.mod
  exact hm.ext he fun k hk e => by omega
theorem Mod.kt {A : Nat → Prop} {n0 : Nat} {ts : List TypeId} {W W' : World} (h : Mod A W W') (hn : n0 ≤ W.heap.size) (h0 : ∀ k, k < n0 → ¬ A k) (hA : ∀ k c t f, A k → W.heap[k]? = some (.cells c t f) → t ∉ ts) : KT n0 ts W W' :=
  ⟨⟨h.os, h.tape, h.output, h.size, fun k hk => h.block k (by omega) (h0 k hk)⟩, fun k c t f hk ht => h.block k (lt_of_heap hk) fun a => hA k c t f a hk ht⟩
/-- Some blocks may have been written, and cells of some types from some block on. -/
def Chg (lo : Nat) (bs : List Nat) (ts : List TypeId) (W W' : World) : Prop := Mod (fun k => k ∈ bs ∨ (lo ≤ k ∧ ∃ c t f, t ∈ ts ∧ W.heap[k]? = some (.cells c t f))) W W'
theorem Ext.chg {lo : Nat} {bs : List Nat} {ts : List TypeId} {W W' : World} (h : Ext W W') : Chg lo bs ts W W' := h.mod
theorem Chg.trans {lo : Nat} {bs : List Nat} {ts : List TypeId} {a b c : World} (h : Chg lo bs ts a b) (k : Chg lo bs ts b c) : Chg lo bs ts a c :=
  ⟨k.os.trans h.os, k.tape.trans h.tape, k.output.trans h.output, Nat.le_trans h.size k.size, fun i hi hn => by
    have e := h.block i hi hn
    refine (k.block i (Nat.lt_of_lt_of_le hi h.size) fun a => hn ?_).trans e
    rcases a with a | ⟨a1, c, t, f, a2, a3⟩
    · exact .inl a
    · exact .inr ⟨a1, c, t, f, a2, by rw [← e]; exact a3⟩⟩
theorem Wr.chg {lo b : Nat} {bs : List Nat} {ts : List TypeId} {W W' : World} (h : Wr b W W') (hb : b ∈ bs) : Chg lo bs ts W W' := (h.mod (A := fun k => k = b) rfl).weak fun k e => .inl (e ▸ hb)
theorem Chg.grown {α : Type} {enc : α → List Value} {sz lo : Nat} {e : TypeId} {bs : List Nat} {ts : List TypeId} {W W' : World} {v : Value} {xs : List α} (ho : OwR enc e sz lo W v xs) (hg : W.grownBy W' v.ownBlock) (he : e ∈ ts) : Chg lo bs ts W W' :=
  (Mod.grown (A := fun k => v.ownBlock = some k) hg fun k e => e).weak fun k hk => by
    obtain ⟨cur, h⟩ := ho.blk k hk
    exact .inr ⟨(ho.lt k hk).1, _, _, _, he, h⟩
theorem Chg.kt {lo n0 : Nat} {bs : List Nat} {ts tys : List TypeId} {W W' : World} (h : Chg lo bs ts W W') (hn : n0 ≤ W.heap.size) (h0 : n0 ≤ lo) (hb : ∀ b ∈ bs, n0 ≤ b ∧ ∀ c t f, W.heap[b]? = some (.cells c t f) → t ∉ tys) (ht : ∀ t ∈ ts, t ∉ tys) : KT n0 tys W W' :=
  Mod.kt h hn (fun k hk a => by
    rcases a with a | ⟨a, _⟩
    · have := (hb k a).1; omega
    · omega) fun k c t f a hk => by
    rcases a with a | ⟨_, c', t', f', a1, a2⟩
    · exact (hb k a).2 c t f hk
    · rw [hk] at a2; injection a2 with a2; injection a2 with _ a2; subst a2; exact ht _ a1
theorem Chg.from {bs : List Nat} {ts : List TypeId} {w W W' : World} (h : Mod (fun k => k ∈ bs) w W) (c : Chg w.heap.size bs ts W W') : Mod (fun k => k ∈ bs) w W' :=
  h.comp c (fun _ _ a => a) fun k hk a => by
    rcases a with a | ⟨a, _⟩
    · exact a
    · omega
theorem Chg.obj {lo : Nat} {bs : List Nat} {ts : List TypeId} {W W' : World} (h : Chg lo bs ts W W') {k : Nat} {c : Array Value} {t : TypeId} {f : Nat × Nat} (hk : W.heap[k]? = some (.cells c t f)) (hb : k ∉ bs) (ht : t ∉ ts) : W'.heap[k]? = some (.cells c t f) := by
  rw [Mod.block h k (lt_of_heap hk) fun a => ?_]
  · exact hk
  · rcases a with a | ⟨_, c', t', f', a1, a2⟩
    · exact hb a
    · rw [hk] at a2; injection a2 with a2; injection a2 with _ a2; subst a2; exact ht a1
theorem Chg.ext {lo : Nat} {bs : List Nat} {ts : List TypeId} {w W W' : World} (h : Chg lo bs ts W W') (he : Ext w W) (h0 : w.heap.size ≤ lo) (hb : ∀ b ∈ bs, w.heap.size ≤ b) : Ext w W' :=
  Mod.ext h he fun k hk a => by
    rcases a with a | ⟨a, _⟩
    · have := hb k a; omega
    · omega
end
end Lite
end
section
/- The light code of the functions that range over a function. -/
set_option maxRecDepth 100000
namespace Go.Proofs.YtbbaokmelkiemaaGreatDoor
open Go Lite Go.Proofs
end Go.Proofs.YtbbaokmelkiemaaGreatDoor
end
section
/- Processes: their instances, gone through. -/
set_option maxRecDepth 4000
set_option maxHeartbeats 3200000
namespace Abs
open Go Go.RowKit Lite
end Abs
namespace Lite
open Go Go.RowKit
end Lite
namespace Go.Proofs.YtbbaokmelkiemaaGreatDoor
open Go Go.RowKit Lite
end Go.Proofs.YtbbaokmelkiemaaGreatDoor
end
section
/- Plain: what goes through the instances finds the refs. No program in sight. -/
namespace Abs
open Go
def Inst.key (x : Inst) : Int := 5 * x.proc + x.elem
/-- Few commands: few refs. -/
structure Lim (m : Model) : Prop where
  procs : m.procs.length ≤ 30
  cmds : ∀ p ∈ m.procs, p.cmds.length ≤ 30
/-- Where a ref is. -/
structure RefAt (m : Model) (r : Ref) (i p k : Nat) : Prop where
  hi : i < (insts m).length
  ri : r.inst = i
  ip : (insts m)[i].proc = p
  hp : p < m.procs.length
  rk : r.cmd = k
  hk : k < m.procs[p].cmds.length
theorem RefAt.cmd {m : Model} {r : Ref} {i p k : Nat} (h : RefAt m r i p k) : cmdOf m r = some ((m.procs[p]'(h.hp)).cmds[k]'(h.hk)) := by
  have h1 := h.hi
  have h2 := h.hp
  have h3 := h.hk
  unfold cmdOf
  rw [h.ri, nth_some (by omega) (by omega)]
  simp only [Int.toNat_natCast]
  rw [h.ip, nth_some (by omega) (by omega)]
  simp only [Int.toNat_natCast]
  rw [h.rk, nth_some (by omega) (by omega)]
  simp only [Int.toNat_natCast]
theorem RefAt.fair {m : Model} {r : Ref} {i p k : Nat} (h : RefAt m r i p k) : isFair m r = ((m.procs[p]'(h.hp)).cmds[k]'(h.hk)).fair := by
  unfold isFair; rw [h.cmd]
end Abs
end
section
/- Functions of Go's library that range over functions, by the shape of their code. -/
set_option maxRecDepth 4000
set_option maxHeartbeats 1600000
namespace Lite
open Go Go.RowKit
section
variable {α : Type} {P : Program} {f : FuncId} {t ts : TypeId} {sz b : Nat} {enc : α → List Value} {z : Array Value}
end
end Lite
end
section
/- Processes: the instances, the refs. -/
set_option maxRecDepth 4000
set_option maxHeartbeats 3200000
namespace Lite
open Go Go.RowKit
theorem OwR.map {α β : Type} {enc : β → List Value} {g : α → β} {e : TypeId} {sz base : Nat} {w : World} {v : Value} {xs : List α} (h : OwR (fun x => enc (g x)) e sz base w v xs) : OwR enc e sz base w v (xs.map g) := by
  unfold OwR at *
  rw [List.length_map, List.flatMap_map]
  exact h
/-- A row of one's own is new. -/
theorem OwR.new {α : Type} {enc : α → List Value} {e : TypeId} {sz : Nat} {w w' : World} {v : Value} {xs : List α} (hsz : ∀ x, (enc x).length = sz) (h : OwR enc e sz w.heap.size w' v xs) : New w (fun w => SlR sz (Flat enc) w v xs) w' := fun w2 m =>
  OwR.slr hsz (OwR.mod h m fun k hk a => by have := (h.lt k hk).1; omega)
end Lite
namespace Go.Proofs.YtbbaokmelkiemaaGreatDoor
open Go Go.RowKit Lite
/-- What stands while the refs are found. -/
structure RSt (w1 : World) (b3 b4 b5 : Nat) (s : Int × Abs.Inst × List Abs.Ref) (W : World) : Prop where
  mod : Mod (fun k => k ∈ [b3, b4, b5]) w1 W
  ex : ∃ oa n c, W.heap[b3]? = some (.cells #[.slice oa n c] T.sl_api_Ref) ∧ OwR Abs.Ref.enc T.api_Ref 2 w1.heap.size W (.slice oa n c) s.2.2
  h4 : W.heap[b4]? = some (.cells #[.int .i64 s.1] T.int)
  h5 : W.heap[b5]? = some (.cells s.2.1.enc.toArray T.api_Inst)
theorem RSt.move {w1 : World} {b3 b4 b5 : Nat} {s : Int × Abs.Inst × List Abs.Ref} {W W' : World} {A : Nat → Prop} (h : RSt w1 b3 b4 b5 s W) (m : Mod A W W') (hA : ∀ k c t f, W.heap[k]? = some (.cells c t f) → ¬ A k) (hlo : ∀ k, A k → w1.heap.size ≤ k) : RSt w1 b3 b4 b5 s W' := by
  obtain ⟨oa, n, c, e, ho⟩ := h.ex
  refine ⟨h.mod.comp m (fun _ _ a => a) fun k hk a => absurd (hlo k a) (by omega), ⟨oa, n, c, m.obj (hA _ _ _ _ e) e, ho.mod m fun k hk a => ?_⟩, m.obj (hA _ _ _ _ h.h4) h.h4, m.obj (hA _ _ _ _ h.h5) h.h5⟩
  obtain ⟨cur, h3⟩ := ho.blk k hk
  exact hA _ _ _ _ h3 a
theorem RSt.ext {w1 : World} {b3 b4 b5 : Nat} {s : Int × Abs.Inst × List Abs.Ref} {W W' : World} (h : RSt w1 b3 b4 b5 s W) (e : Ext W W') : RSt w1 b3 b4 b5 s W' := h.move (A := fun _ => False) e.mod (fun _ _ _ _ _ h => h) fun _ h => h.elim
theorem cells_type {W : World} {k : Nat} {c c' : Array Value} {t t' : TypeId} {f f' : Nat × Nat} (h : W.heap[k]? = some (.cells c t f)) (h' : W.heap[k]? = some (.cells c' t' f')) : t = t' := by
  rw [h] at h'; injection h' with h'; injection h'
theorem RSt.st4 {w1 : World} {b3 b4 b5 : Nat} {s : Int × Abs.Inst × List Abs.Ref} {W W' : World} {n : Int} (h : RSt w1 b3 b4 b5 s W) (hw : Wr b4 W W') (hc : W'.heap[b4]? = some (.cells #[.int .i64 n] T.int)) (n34 : b3 ≠ b4) (n45 : b5 ≠ b4) : RSt w1 b3 b4 b5 (n, s.2) W' := by
  obtain ⟨oa, k, c, e, ho⟩ := h.ex
  refine ⟨h.mod.comp (A' := fun k => k = b4) (hw.mod rfl) (fun _ _ a => a) fun k hk a => by simp [a], ⟨oa, k, c, hw.obj e n34, ho.mod (hw.mod (A := fun k => k = b4) rfl) fun k hk a => ?_⟩, hc, hw.obj h.h5 n45⟩
  subst a
  obtain ⟨cur, h3⟩ := ho.blk k hk
  exact absurd (cells_type h3 h.h4) (by decide)
theorem RSt.st5 {w1 : World} {b3 b4 b5 : Nat} {s : Int × Abs.Inst × List Abs.Ref} {W W' : World} {x : Abs.Inst} (h : RSt w1 b3 b4 b5 s W) (hw : Wr b5 W W') (hc : W'.heap[b5]? = some (.cells x.enc.toArray T.api_Inst)) (n35 : b3 ≠ b5) (n45 : b5 ≠ b4) : RSt w1 b3 b4 b5 (s.1, x, s.2.2) W' := by
  obtain ⟨oa, k, c, e, ho⟩ := h.ex
  refine ⟨h.mod.comp (A' := fun k => k = b5) (hw.mod rfl) (fun _ _ a => a) fun k hk a => by simp [a], ⟨oa, k, c, hw.obj e n35, ho.mod (hw.mod (A := fun k => k = b5) rfl) fun k hk a => ?_⟩, hw.obj h.h4 (Ne.symm n45), hc⟩
  subst a
  obtain ⟨cur, h3⟩ := ho.blk k hk
  exact absurd (cells_type h3 h.h5) (by decide)
theorem RSt.app {w1 : World} {b3 b4 b5 : Nat} {s : Int × Abs.Inst × List Abs.Ref} {W W' W'' : World} {oa oa' : Option Addr} {n c n' c' : Nat} {l : List Abs.Ref} (h : RSt w1 b3 b4 b5 s W) (he : W.heap[b3]? = some (.cells #[.slice oa n c] T.sl_api_Ref))
    (ho : OwR Abs.Ref.enc T.api_Ref 2 w1.heap.size W (.slice oa n c) s.2.2) (ho' : OwR Abs.Ref.enc T.api_Ref 2 w1.heap.size W' (.slice oa' n' c') l) (hg : W.grownBy W' (Value.slice oa n c).ownBlock) (hw : Wr b3 W' W'')
    (hc : W''.heap[b3]? = some (.cells #[.slice oa' n' c'] T.sl_api_Ref)) (n34 : b3 ≠ b4) (n35 : b3 ≠ b5) : RSt w1 b3 b4 b5 (s.1, s.2.1, l) W'' ∧ Chg w1.heap.size [b3, b4, b5] [T.api_Ref] W W'' := by
  have hC : Chg w1.heap.size [b3, b4, b5] [T.api_Ref] W W' := Chg.grown ho hg (by simp)
  have keep : ∀ {k : Nat} {c : Array Value} {t : TypeId}, W.heap[k]? = some (.cells c t) → t ≠ T.api_Ref → W'.heap[k]? = some (.cells c t) := fun {k c t} hk ht => by
    rw [hg.block k (lt_of_heap hk) fun e => ?_]
    · exact hk
    · obtain ⟨cur, h3⟩ := ho.blk k e.symm
      exact ht (cells_type hk h3)
  have hC2 := hC.trans (hw.chg (by simp))
  refine ⟨⟨Chg.from h.mod hC2, ⟨oa', n', c', hc, ho'.mod (hw.mod (A := fun k => k = b3) rfl) fun k hk a => ?_⟩, hw.obj (keep h.h4 (by decide)) (Ne.symm n34), hw.obj (keep h.h5 (by decide)) (Ne.symm n35)⟩, hC2⟩
  subst a
  obtain ⟨cur, h3⟩ := ho'.blk k hk
  exact absurd (cells_type h3 (keep he (by decide))) (by decide)
end Go.Proofs.YtbbaokmelkiemaaGreatDoor
end
section
/- Processes: the reference's instances, refs; those that are fair. -/
set_option maxRecDepth 4000
set_option maxHeartbeats 3200000
namespace Abs
end Abs
namespace Go.Proofs.YtbbaokmelkiemaaGreatDoor
open Go Go.RowKit Lite
end Go.Proofs.YtbbaokmelkiemaaGreatDoor
end
section
/- Processes: those that are fair. -/
set_option maxRecDepth 4000
set_option maxHeartbeats 3200000
namespace Lite
open Go
def encN (n : Int) : List Value := [.int .i64 n]
instance instCelN : Cel (Flat encN) (fun n => [Value.int .i64 n]) := ⟨fun _ _ _ h => h⟩
end Lite
namespace Go.Proofs.YtbbaokmelkiemaaGreatDoor
open Go Go.RowKit Lite
end Go.Proofs.YtbbaokmelkiemaaGreatDoor
end
section
/- The machine that works expressions off. -/
set_option maxRecDepth 4000
set_option linter.unusedSimpArgs false
set_option maxHeartbeats 4000000
namespace Go.Proofs.YtbbaokmelkiemaaGreatDoor
open Go Go.RowKit Lite

abbrev encI : Int → List Value := fun n => [Value.int .i64 n]
abbrev OwnI (base : Nat) (w : World) (v : Value) (xs : List Int) : Prop := OwR encI T.int 1 base w v xs
structure MachIs (base b : Nat) (w : World) (m : Value) (st : List Int) : Prop where
  ex : ∃ sv, w.heap[b]? = some (.cells #[sv, m] T.expr_machine) ∧ OwnI base w sv st
  lt : b < base
  le : base ≤ w.heap.size
theorem MachIs.ext {base b : Nat} {w w' : World} {m : Value} {st : List Int} (h : MachIs base b w m st) (he : Ext w w') : MachIs base b w' m st :=
  let ⟨sv, h1, h2⟩ := h.ex
  ⟨⟨sv, he.obj h1, h2.ext he⟩, h.lt, Nat.le_trans h.le he.size⟩
theorem getLast_eq (st : List Int) (h : 0 < st.length) : st.getLastD 0 = st[st.length - 1] := by
  rw [List.getLastD_eq_getLast?, List.getLast?_eq_getElem?, List.getElem?_eq_getElem (by omega)]; rfl
theorem top_r (base b : Nat) (w : World) (m : Value) (st : List Int) (h : MachIs base b w m st) (h0 : 0 < st.length) :
    Ret Tryz.prog F.p_expr_machine_top #[.pointer (some ⟨b, 0, none⟩)] w fun v w' => v = .int .i64 (st.getLastD 0) ∧ Ext w w' := by
  obtain ⟨sv, hh, ho⟩ := h.ex
  obtain ⟨oa, cap, rfl, hc, hm⟩ := ho.form
  have hi : Ints w _ st := OwR.slr (enc := encI) (sz := 1) (fun _ => rfl) ho
  obtain ⟨a, rfl⟩ := hi.addr h0
  unfold maxLen at hm
  refine K.start hmix E.p_expr_machine_top (args := [_]) (Nat.le_of_ble_eq_true rfl) ?_
  dsimp only [C.p_expr_machine_top,yt,yi,yb,yp,yr,ye,yc,yv,yg,ym,yw,ya,yl,yx,ys,yn]
  refine St ?_
  refine K.ian (st.length - 1) (by omega) (by omega) ?_
  refine St ?_
  intro w1 he
  refine St ?_
  rw [getLast_eq _ h0]
  (refine ⟨?_, ?_⟩ <;> first | trivial | rfl | (repeat' first | assumption | exact Ext.refl _ | refine Ext.trans ?_ (by assumption)))
/-- What a leaf asks. -/
theorem kleaf_r (x : Abs.Node) (cs : List Value) (s : Abs.Scope) (base b : Nat) (w : World) (m : Value) (st : List Int) (hx : x.ok) (h : Abs.ScopeIs w cs s) (hm : MachIs base b w m st) (h3 : x.op = 3 → 0 < st.length) :
    Ret Tryz.prog F.p_expr_machine_kind #[.pointer (some ⟨b, 0, none⟩), .agg x.enc.toArray, .agg cs.toArray] w fun v w' => v = .tuple #[.int .i64 (Abs.kleaf x s (st.getLastD 0)).1, .int .i64 (Abs.kleaf x s (st.getLastD 0)).2] ∧ Ext w w' := by
  obtain ⟨a0, c0, a1, c1, a2, c2, a3, c3, a4, c4, rfl, q0, q1, q2, q3, q4, l0, l1, l2, l3, l4⟩ := h.form
  refine K.start hmix E.p_expr_machine_kind (args := [_, _, _]) (Nat.le_of_ble_eq_true rfl) ?_
  dsimp only [C.p_expr_machine_kind,yt,yi,yb,yp,yr,ye,yc,yv,yg,ym,yw,ya,yl,yx,ys,yn]
  simp -dsimp only [B9]
  (repeat' first
 | assumption
 | exact Ext.refl _
 | refine Ext.trans ?_ (by assumption)
 | refine K.wrap (by omega) ?_
 | refine K.ldb (by assumption) ?_ rfl ?_
 | refine K.ldb0 (by assumption) ?_ rfl ?_
 | refine K.ldE (by assumption) ?_ (by omega) rfl ?_
 | refine K.ldE0 (by assumption) ?_ (by omega) rfl ?_
 | refine K.ldAE (by assumption) ?_ (by omega) rfl ?_
 | refine K.iaC (by omega) ?_
 | refine K.condT (by first | assumption | omega) ?_
 | refine K.condF (by first | assumption | omega) ?_
 | refine K.condbT (by assumption) ?_
 | refine K.condbF (by assumption) ?_
 | simp -dsimp only [LL,Nat.reduceAdd,Nat.reduceEqDiff,reduceIte,reduceCtorEq,Bool.false_eq_true])
  refine K.new fun w1 b1 hb1 he1 hc1 => ?_
  (repeat' first
 | assumption
 | exact Ext.refl _
 | refine Ext.trans ?_ (by assumption)
 | refine K.wrap (by omega) ?_
 | refine K.ldb (by assumption) ?_ rfl ?_
 | refine K.ldb0 (by assumption) ?_ rfl ?_
 | refine K.ldE (by assumption) ?_ (by omega) rfl ?_
 | refine K.ldE0 (by assumption) ?_ (by omega) rfl ?_
 | refine K.ldAE (by assumption) ?_ (by omega) rfl ?_
 | refine K.iaC (by omega) ?_
 | refine K.condT (by first | assumption | omega) ?_
 | refine K.condF (by first | assumption | omega) ?_
 | refine K.condbT (by assumption) ?_
 | refine K.condbF (by assumption) ?_
 | simp -dsimp only [LL,Nat.reduceAdd,Nat.reduceEqDiff,reduceIte,reduceCtorEq,Bool.false_eq_true])
  refine K.new fun w2 b2 hb2 he2 hc2 => ?_
  have he := he1.trans he2
  have k1 : w2.heap[b1]? = some (.cells #[.int .i64 x.op, .int .i64 x.n] T.api_Node) := he2.obj hc1
  clear hc1
  (repeat' first
 | assumption
 | exact Ext.refl _
 | refine Ext.trans ?_ (by assumption)
 | refine K.wrap (by omega) ?_
 | refine K.ldb (by assumption) ?_ rfl ?_
 | refine K.ldb0 (by assumption) ?_ rfl ?_
 | refine K.ldE (by assumption) ?_ (by omega) rfl ?_
 | refine K.ldE0 (by assumption) ?_ (by omega) rfl ?_
 | refine K.ldAE (by assumption) ?_ (by omega) rfl ?_
 | refine K.iaC (by omega) ?_
 | refine K.condT (by first | assumption | omega) ?_
 | refine K.condF (by first | assumption | omega) ?_
 | refine K.condbT (by assumption) ?_
 | refine K.condbF (by assumption) ?_
 | simp -dsimp only [LL,Nat.reduceAdd,Nat.reduceEqDiff,reduceIte,reduceCtorEq,Bool.false_eq_true])
  simp -dsimp only [B9]
  (repeat' first
 | assumption
 | exact Ext.refl _
 | refine Ext.trans ?_ (by assumption)
 | refine K.wrap (by omega) ?_
 | refine K.ldb (by assumption) ?_ rfl ?_
 | refine K.ldb0 (by assumption) ?_ rfl ?_
 | refine K.ldE (by assumption) ?_ (by omega) rfl ?_
 | refine K.ldE0 (by assumption) ?_ (by omega) rfl ?_
 | refine K.ldAE (by assumption) ?_ (by omega) rfl ?_
 | refine K.iaC (by omega) ?_
 | refine K.condT (by first | assumption | omega) ?_
 | refine K.condF (by first | assumption | omega) ?_
 | refine K.condbT (by assumption) ?_
 | refine K.condbF (by assumption) ?_
 | simp -dsimp only [LL,Nat.reduceAdd,Nat.reduceEqDiff,reduceIte,reduceCtorEq,Bool.false_eq_true])
  refine K.cut (fun S' w' => S' 0 = .pointer (some ⟨b, 0, none⟩) ∧ S' 4 = .pointer (some ⟨b1, 0, none⟩) ∧ S' 5 = .pointer (some ⟨b2, 0, none⟩) ∧ w' = w2 ∧ (x.op = 2 ∨ x.op = 3 ∨ x.op = 4) ∧
    S' 8 = if x.op = 4 then .slice a4 s.locals.length c4 else .slice a1 s.vars.length c1) ?_ ?_
  · refine St ?_
    refine K.cond (fun g1 => ?_) (fun g1 => ?_)
    · refine St ?_
      refine K.call (add_r x.n 0 w2) ?_
      rintro _ w3 ⟨rfl, he3⟩
      have hk : Abs.kleaf x s (st.getLastD 0) = if Abs.within x.n then (0, 0) else (0, 10) := by rw [Abs.kleaf, if_pos g1]
      have ht : (Abs.tell (· + ·) x.n 0).2 = Abs.within x.n := by
        unfold Abs.tell
        have : Abs.within 0 = true := rfl
        simp only [Int.add_zero, this, Bool.and_true, Bool.and_self]
        split <;> simp_all
      rw [hk, ht]
      refine St ?_
      refine K.condb (fun g2 => ?_) (fun g2 => ?_)
      all_goals
        refine St ?_
        rw [g2]
        (refine ⟨?_, ?_⟩ <;> first | trivial | rfl | (repeat' first | assumption | exact Ext.refl _ | refine Ext.trans ?_ (by assumption)))
    refine St ?_
    refine K.cond (fun g4 => ?_) (fun g4 => ?_)
    · refine St ?_
      refine ⟨trivial, trivial, trivial, trivial, .inr (.inr g4), by rw [if_pos g4]⟩
    refine St ?_
    refine K.cond (fun g2 => ?_) (fun g2 => ?_)
    · refine St ?_
      refine ⟨trivial, trivial, trivial, trivial, .inl g2, by rw [if_neg g4]⟩
    refine St ?_
    refine K.cond (fun g3 => ?_) (fun g3 => ?_)
    · refine St ?_
      refine ⟨trivial, trivial, trivial, trivial, .inr (.inl g3), by rw [if_neg g4]⟩
    refine St ?_
    refine K.ldAb (c := [_, _]) k1 (Ext.refl _) rfl ?_
    refine St ?_
    refine K.ldAb (c := [_, _, _, _, _, _]) hc2 (Ext.refl _) rfl ?_
    refine St ?_
    refine K.call (knamed_r x _ s w2 hx (h.ext he)) ?_
    rintro _ w3 ⟨rfl, he3⟩
    refine St ?_
    have hk : Abs.kleaf x s (st.getLastD 0) = Abs.knamed x s := by rw [Abs.kleaf, if_neg g1, if_neg (by omega)]
    rw [hk]
    (refine ⟨?_, ?_⟩ <;> first | trivial | rfl | (repeat' first | assumption | exact Ext.refl _ | refine Ext.trans ?_ (by assumption)))
  · rintro S w' hS ⟨s0, s4, s5, rfl, hop, s8⟩
    have hk : Abs.kleaf x s (st.getLastD 0) = (let q := Abs.kvar (if x.op = 4 then s.locals else s.vars) x.n s; if q.2.2 = false then (0, 8) else if (x.op = 3 ∧ (q.2.1 = 0 ∨ st.getLastD 0 ≠ q.2.1)) ∨ (x.op ≠ 3 ∧ q.2.1 ≠ 0) then (0, 9) else (q.1, 0)) := by
      rw [Abs.kleaf, if_neg (by omega), if_pos hop]
    rw [hk]
    clear hk
    have hv : Abs.Vars w' (S 8) (if x.op = 4 then s.locals else s.vars) := by
      rw [s8]; split
      · exact q4.ext he
      · exact q1.ext he
    generalize (if x.op = 4 then s.locals else s.vars) = l at hv ⊢
    obtain ⟨v8, e8⟩ : ∃ v8, S 8 = v8 := ⟨_, rfl⟩
    rw [e8] at hv
    clear s8
    (repeat' first
 | assumption
 | exact Ext.refl _
 | refine Ext.trans ?_ (by assumption)
 | refine K.wrap (by omega) ?_
 | refine K.ldb (by assumption) ?_ rfl ?_
 | refine K.ldb0 (by assumption) ?_ rfl ?_
 | refine K.ldE (by assumption) ?_ (by omega) rfl ?_
 | refine K.ldE0 (by assumption) ?_ (by omega) rfl ?_
 | refine K.ldAE (by assumption) ?_ (by omega) rfl ?_
 | refine K.iaC (by omega) ?_
 | refine K.condT (by first | assumption | omega) ?_
 | refine K.condF (by first | assumption | omega) ?_
 | refine K.condbT (by assumption) ?_
 | refine K.condbF (by assumption) ?_
 | simp -dsimp only [LL,B9,Nat.reduceAdd,Nat.reduceEqDiff,reduceIte,reduceCtorEq,Bool.false_eq_true,s0, s4, s5, e8])
    refine K.ldAb (c := [_, _, _, _, _, _]) hc2 (Ext.refl _) rfl ?_
    (repeat' first
 | assumption
 | exact Ext.refl _
 | refine Ext.trans ?_ (by assumption)
 | refine K.wrap (by omega) ?_
 | refine K.ldb (by assumption) ?_ rfl ?_
 | refine K.ldb0 (by assumption) ?_ rfl ?_
 | refine K.ldE (by assumption) ?_ (by omega) rfl ?_
 | refine K.ldE0 (by assumption) ?_ (by omega) rfl ?_
 | refine K.ldAE (by assumption) ?_ (by omega) rfl ?_
 | refine K.iaC (by omega) ?_
 | refine K.condT (by first | assumption | omega) ?_
 | refine K.condF (by first | assumption | omega) ?_
 | refine K.condbT (by assumption) ?_
 | refine K.condbF (by assumption) ?_
 | simp -dsimp only [LL,B9,Nat.reduceAdd,Nat.reduceEqDiff,reduceIte,reduceCtorEq,Bool.false_eq_true,s0, s4, s5])
    refine K.call (variable_r _ l x.n _ s w' hv (h.ext he)) ?_
    rintro _ w3 ⟨rfl, he3⟩
    generalize Abs.kvar l x.n s = q
    obtain ⟨qk, qo, qi⟩ := q
    (repeat' first
 | assumption
 | exact Ext.refl _
 | refine Ext.trans ?_ (by assumption)
 | refine K.wrap (by omega) ?_
 | refine K.ldb (by assumption) ?_ rfl ?_
 | refine K.ldb0 (by assumption) ?_ rfl ?_
 | refine K.ldE (by assumption) ?_ (by omega) rfl ?_
 | refine K.ldE0 (by assumption) ?_ (by omega) rfl ?_
 | refine K.ldAE (by assumption) ?_ (by omega) rfl ?_
 | refine K.iaC (by omega) ?_
 | refine K.condT (by first | assumption | omega) ?_
 | refine K.condF (by first | assumption | omega) ?_
 | refine K.condbT (by assumption) ?_
 | refine K.condbF (by assumption) ?_
 | simp -dsimp only [LL,B9,Nat.reduceAdd,Nat.reduceEqDiff,reduceIte,reduceCtorEq,Bool.false_eq_true,s0, s4, s5])
    refine K.condb (fun g1 => ?_) (fun g1 => ?_)
    rotate_left
    · refine St ?_
      simp only [g1, if_true]
      (refine ⟨?_, ?_⟩ <;> first | trivial | rfl | (repeat' first | assumption | exact Ext.refl _ | refine Ext.trans ?_ (by assumption)))
    have m3 := (hm.ext he).ext he3
    (repeat' first
 | assumption
 | exact Ext.refl _
 | refine Ext.trans ?_ (by assumption)
 | refine K.wrap (by omega) ?_
 | refine K.ldb (by assumption) ?_ rfl ?_
 | refine K.ldb0 (by assumption) ?_ rfl ?_
 | refine K.ldE (by assumption) ?_ (by omega) rfl ?_
 | refine K.ldE0 (by assumption) ?_ (by omega) rfl ?_
 | refine K.ldAE (by assumption) ?_ (by omega) rfl ?_
 | refine K.iaC (by omega) ?_
 | refine K.condT (by first | assumption | omega) ?_
 | refine K.condF (by first | assumption | omega) ?_
 | refine K.condbT (by assumption) ?_
 | refine K.condbF (by assumption) ?_
 | simp -dsimp only [LL,B9,Nat.reduceAdd,Nat.reduceEqDiff,reduceIte,reduceCtorEq,Bool.false_eq_true,s0, s4, s5])
    refine K.cond (fun g2 => ?_) (fun g2 => ?_)
    · (repeat' first
 | assumption
 | exact Ext.refl _
 | refine Ext.trans ?_ (by assumption)
 | refine K.wrap (by omega) ?_
 | refine K.ldb (by assumption) ?_ rfl ?_
 | refine K.ldb0 (by assumption) ?_ rfl ?_
 | refine K.ldE (by assumption) ?_ (by omega) rfl ?_
 | refine K.ldE0 (by assumption) ?_ (by omega) rfl ?_
 | refine K.ldAE (by assumption) ?_ (by omega) rfl ?_
 | refine K.iaC (by omega) ?_
 | refine K.condT (by first | assumption | omega) ?_
 | refine K.condF (by first | assumption | omega) ?_
 | refine K.condbT (by assumption) ?_
 | refine K.condbF (by assumption) ?_
 | simp -dsimp only [LL,B9,Nat.reduceAdd,Nat.reduceEqDiff,reduceIte,reduceCtorEq,Bool.false_eq_true,s0, s4, s5])
      refine K.cond (fun g3 => ?_) (fun g3 => ?_)
      · (repeat' first
 | assumption
 | exact Ext.refl _
 | refine Ext.trans ?_ (by assumption)
 | refine K.wrap (by omega) ?_
 | refine K.ldb (by assumption) ?_ rfl ?_
 | refine K.ldb0 (by assumption) ?_ rfl ?_
 | refine K.ldE (by assumption) ?_ (by omega) rfl ?_
 | refine K.ldE0 (by assumption) ?_ (by omega) rfl ?_
 | refine K.ldAE (by assumption) ?_ (by omega) rfl ?_
 | refine K.iaC (by omega) ?_
 | refine K.condT (by first | assumption | omega) ?_
 | refine K.condF (by first | assumption | omega) ?_
 | refine K.condbT (by assumption) ?_
 | refine K.condbF (by assumption) ?_
 | simp -dsimp only [LL,B9,Nat.reduceAdd,Nat.reduceEqDiff,reduceIte,reduceCtorEq,Bool.false_eq_true,s0, s4, s5])
        simp only [g1, Bool.true_eq_false, if_false]
        rw [if_pos (.inl ⟨g2, .inl g3⟩)]
        (refine ⟨?_, ?_⟩ <;> first | trivial | rfl | (repeat' first | assumption | exact Ext.refl _ | refine Ext.trans ?_ (by assumption)))
      (repeat' first
 | assumption
 | exact Ext.refl _
 | refine Ext.trans ?_ (by assumption)
 | refine K.wrap (by omega) ?_
 | refine K.ldb (by assumption) ?_ rfl ?_
 | refine K.ldb0 (by assumption) ?_ rfl ?_
 | refine K.ldE (by assumption) ?_ (by omega) rfl ?_
 | refine K.ldE0 (by assumption) ?_ (by omega) rfl ?_
 | refine K.ldAE (by assumption) ?_ (by omega) rfl ?_
 | refine K.iaC (by omega) ?_
 | refine K.condT (by first | assumption | omega) ?_
 | refine K.condF (by first | assumption | omega) ?_
 | refine K.condbT (by assumption) ?_
 | refine K.condbF (by assumption) ?_
 | simp -dsimp only [LL,B9,Nat.reduceAdd,Nat.reduceEqDiff,reduceIte,reduceCtorEq,Bool.false_eq_true,s0, s4, s5])
      refine K.call (top_r base b w3 m st m3 (h3 g2)) ?_
      rintro _ w4 ⟨rfl, he4⟩
      (repeat' first
 | assumption
 | exact Ext.refl _
 | refine Ext.trans ?_ (by assumption)
 | refine K.wrap (by omega) ?_
 | refine K.ldb (by assumption) ?_ rfl ?_
 | refine K.ldb0 (by assumption) ?_ rfl ?_
 | refine K.ldE (by assumption) ?_ (by omega) rfl ?_
 | refine K.ldE0 (by assumption) ?_ (by omega) rfl ?_
 | refine K.ldAE (by assumption) ?_ (by omega) rfl ?_
 | refine K.iaC (by omega) ?_
 | refine K.condT (by first | assumption | omega) ?_
 | refine K.condF (by first | assumption | omega) ?_
 | refine K.condbT (by assumption) ?_
 | refine K.condbF (by assumption) ?_
 | simp -dsimp only [LL,B9,Nat.reduceAdd,Nat.reduceEqDiff,reduceIte,reduceCtorEq,Bool.false_eq_true,s0, s4, s5])
      refine K.cond (fun g4 => ?_) (fun g4 => ?_)
      · (repeat' first
 | assumption
 | exact Ext.refl _
 | refine Ext.trans ?_ (by assumption)
 | refine K.wrap (by omega) ?_
 | refine K.ldb (by assumption) ?_ rfl ?_
 | refine K.ldb0 (by assumption) ?_ rfl ?_
 | refine K.ldE (by assumption) ?_ (by omega) rfl ?_
 | refine K.ldE0 (by assumption) ?_ (by omega) rfl ?_
 | refine K.ldAE (by assumption) ?_ (by omega) rfl ?_
 | refine K.iaC (by omega) ?_
 | refine K.condT (by first | assumption | omega) ?_
 | refine K.condF (by first | assumption | omega) ?_
 | refine K.condbT (by assumption) ?_
 | refine K.condbF (by assumption) ?_
 | simp -dsimp only [LL,B9,Nat.reduceAdd,Nat.reduceEqDiff,reduceIte,reduceCtorEq,Bool.false_eq_true,s0, s4, s5])
        simp only [g1, Bool.true_eq_false, if_false]
        rw [if_neg (by omega)]
        (refine ⟨?_, ?_⟩ <;> first | trivial | rfl | (repeat' first | assumption | exact Ext.refl _ | refine Ext.trans ?_ (by assumption)))
      · refine St ?_
        simp only [g1, Bool.true_eq_false, if_false]
        rw [if_pos (.inl ⟨g2, .inr g4⟩)]
        (refine ⟨?_, ?_⟩ <;> first | trivial | rfl | (repeat' first | assumption | exact Ext.refl _ | refine Ext.trans ?_ (by assumption)))
    · (repeat' first
 | assumption
 | exact Ext.refl _
 | refine Ext.trans ?_ (by assumption)
 | refine K.wrap (by omega) ?_
 | refine K.ldb (by assumption) ?_ rfl ?_
 | refine K.ldb0 (by assumption) ?_ rfl ?_
 | refine K.ldE (by assumption) ?_ (by omega) rfl ?_
 | refine K.ldE0 (by assumption) ?_ (by omega) rfl ?_
 | refine K.ldAE (by assumption) ?_ (by omega) rfl ?_
 | refine K.iaC (by omega) ?_
 | refine K.condT (by first | assumption | omega) ?_
 | refine K.condF (by first | assumption | omega) ?_
 | refine K.condbT (by assumption) ?_
 | refine K.condbF (by assumption) ?_
 | simp -dsimp only [LL,B9,Nat.reduceAdd,Nat.reduceEqDiff,reduceIte,reduceCtorEq,Bool.false_eq_true,s0, s4, s5])
      refine K.cond (fun g4 => ?_) (fun g4 => ?_)
      all_goals
        refine St ?_
        simp only [g1, Bool.true_eq_false, if_false]
      · rw [if_neg (by omega)]
        (refine ⟨?_, ?_⟩ <;> first | trivial | rfl | (repeat' first | assumption | exact Ext.refl _ | refine Ext.trans ?_ (by assumption)))
      · rw [if_pos (.inr ⟨g2, g4⟩)]
        (refine ⟨?_, ?_⟩ <;> first | trivial | rfl | (repeat' first | assumption | exact Ext.refl _ | refine Ext.trans ?_ (by assumption)))
end Go.Proofs.YtbbaokmelkiemaaGreatDoor
end
