/- Texts joined: ProcI ProcJ ProcK Open1 Open5 ProcW LiteI ModM ModP LiteM ModA ModD DeclA DeclR. -/
import Derived.Test.YtbbaokmelkiemaaGreatDoorQc
import Derived.Test.YtbbaokmelkiemaaGreatDoorQd
import Derived.Test.YtbbaokmelkiemaaGreatDoorQe
import Derived.Test.YtbbaokmelkiemaaGreatDoorQf
import Derived.Test.YtbbaokmelkiemaaGreatDoorQg
import Derived.Test.YtbbaokmelkiemaaGreatDoorQh
import Derived.SizedLaws
import Derived.OpenShut
import Derived.Maps.RangeRun
set_option linter.all false
section
/- Processes: what one must be. -/
set_option maxRecDepth 4000
set_option maxHeartbeats 3200000
namespace Abs
theorem localsE_drop {s : Scope} {l : List Var} {k : Nat} (h : k < l.length) : localsE s (l.drop k) k = if l[k].over ≠ 0 then ((k : Int), 9) else if s.vars.any (fun x => decide (x.name = l[k].name)) then ((k : Int), 7) else localsE s (l.drop (k + 1)) (k + 1) := by
  rw [List.drop_eq_getElem_cons h]; rfl
theorem cmdsE_drop {own : Scope} {locs : Int} {all l : List Cmd} {k : Nat} (h : k < l.length) : cmdsE own locs all (l.drop k) k = if (cmdCheck l[k] locs own).2 ≠ 0 then (2 + (k : Int), (cmdCheck l[k] locs own).1, (cmdCheck l[k] locs own).2)
    else if (all.take k).any (fun x => decide (x.name = l[k].name)) then (2 + (k : Int), 0, 7) else cmdsE own locs all (l.drop (k + 1)) (k + 1) := by
  rw [List.drop_eq_getElem_cons h]; rfl
end Abs
namespace Go.Proofs.YtbbaokmelkiemaaGreatDoor
open Go Go.RowKit Lite
theorem whole_r (p : Abs.Proc) (o3 o4 : Option Addr) (n3 c3 c4 : Nat) (cs : List Value) (s : Abs.Scope) (w : World) (ho : OwnIs w) (hn : Abs.strOk p.name) (h : Abs.ScopeIs w cs s) :
    Ret Tryz.prog F.proc_whole #[.agg (p.enc (.slice o3 n3 c3) (.slice o4 p.cmds.length c4)).toArray, .agg cs.toArray] w fun v w' => v = .int .i64 (Abs.whole p s) ∧ Ext w w' := by
  obtain ⟨a0, c0, a1, c1, a2, c2, a3, d3, a4, d4, rfl, h0, h1, h2, h3, h4, l0, l1, l2, l3, l4⟩ := h.form
  refine K.start hmix E.proc_whole (args := [_, _]) (Nat.le_of_ble_eq_true rfl) ?_; dsimp only [C.proc_whole,yt,yi,yb,yp,yr,ye,yc,yv,yg,ym,yw,ya,yl,yx,ys,yn]
  refine Sg ?_
  intro w1 b1 hb1 he1 hc1
  refine Sg ?_
  intro w2 b2 hb2 he2 hc2
  have E2 : ∀ {w'}, Ext w2 w' → Ext w w' := fun e => (he1.trans he2).trans e
  have hc1 := he2.obj hc1
  refine Sg ?_
  refine K.call (name_r p.name w2 (ho.ext (E2 (Ext.refl _))) hn) ?_
  rintro _ w3 ⟨rfl, he3⟩
  have hc1 := he3.obj hc1
  have hc2 := he3.obj hc2
  rw [Abs.whole]
  refine Sg ?_
  refine K.condb (fun g1 => ?_) (fun g1 => ?_)
  rotate_left
  · refine Sg ?_
    exact ⟨by rw [if_pos g1], E2 he3⟩
  rw [if_neg (by simp [g1])]
  refine Sg ?_
  refine K.cond (fun g2 => ?_) (fun g2 => ?_)
  · refine Sg ?_
    exact ⟨by rw [if_pos (.inl g2)], E2 he3⟩
  refine Sg ?_
  refine K.cond (fun g3 => ?_) (fun g3 => ?_)
  · refine Sg ?_
    exact ⟨by rw [if_pos (.inr (by omega))], E2 he3⟩
  rw [if_neg (by omega)]
  refine Sg ?_
  refine K.cond (fun g4 => ?_) (fun g4 => ?_)
  · refine Sg ?_
    exact ⟨by rw [if_pos (.inl g4)], E2 he3⟩
  refine Sg ?_
  refine K.cond (fun g5 => ?_) (fun g5 => ?_)
  · refine Sg ?_
    exact ⟨by rw [if_pos (.inr (by omega))], E2 he3⟩
  rw [if_neg (by omega)]
  refine Sg ?_
  refine K.cond (fun g6 => ?_) (fun g6 => ?_)
  · refine Sg ?_
    exact ⟨by rw [if_pos (by omega)], E2 he3⟩
  refine Sg ?_
  exact ⟨by rw [if_neg (by omega)], E2 he3⟩
theorem locals1_r (x v : Abs.Var) (b : Nat) (w : World) (hc : w.heap[b]? = some (.cells v.enc.toArray T.api_Var)) :
    Ret Tryz.prog F.proc_locals_1 #[.agg x.enc.toArray, .pointer (some ⟨b, 0, none⟩)] w fun u w' => u = .bool (decide (x.name = v.name)) ∧ Ext w w' := by
  refine K.start hmix E.proc_locals_1 (args := [_, _]) (Nat.le_of_ble_eq_true rfl) ?_; dsimp only [C.proc_locals_1,yt,yi,yb,yp,yr,ye,yc,yv,yg,ym,yw,ya,yl,yx,ys,yn]
  refine Sg ?_
  intro w1 b1 hb1 he1 hc1
  refine Sg ?_
  (refine ⟨?_, ?_⟩ <;> first | trivial | rfl | (repeat' first | assumption | exact Ext.refl _ | refine Ext.trans ?_ (by assumption)))
theorem check1_r (x c : Abs.Cmd) (o1 o2 o3 o4 : Option Addr) (n1 n2 n3 n4 c1 c2 c3 c4 : Nat) (b : Nat) (w : World) (hc : w.heap[b]? = some (.cells (c.enc (.slice o3 n3 c3) (.slice o4 n4 c4)).toArray T.api_Cmd)) :
    Ret Tryz.prog F.proc_Check_1 #[.agg (x.enc (.slice o1 n1 c1) (.slice o2 n2 c2)).toArray, .pointer (some ⟨b, 0, none⟩)] w fun u w' => u = .bool (decide (x.name = c.name)) ∧ Ext w w' := by
  refine K.start hmix E.proc_Check_1 (args := [_, _]) (Nat.le_of_ble_eq_true rfl) ?_; dsimp only [C.proc_Check_1,yt,yi,yb,yp,yr,ye,yc,yv,yg,ym,yw,ya,yl,yx,ys,yn]
  refine Sg ?_
  intro w1 b1 hb1 he1 hc1
  refine Sg ?_
  (refine ⟨?_, ?_⟩ <;> first | trivial | rfl | (repeat' first | assumption | exact Ext.refl _ | refine Ext.trans ?_ (by assumption)))
theorem locals_r (p : Abs.Proc) (o3 o4 : Option Addr) (c3 n4 c4 : Nat) (cs : List Value) (s : Abs.Scope) (w : World) (ho : OwnIs w) (hv : Abs.Vars w (.slice o3 p.vars.length c3) p.vars) (h : Abs.ScopeIs w cs s) :
    Ret Tryz.prog F.proc_locals #[.agg (p.enc (.slice o3 p.vars.length c3) (.slice o4 n4 c4)).toArray, .agg cs.toArray] w fun v w' => v = .tuple #[.int .i64 (Abs.plocals p s).1, .int .i64 (Abs.plocals p s).2] ∧ Ext w w' := by
  obtain ⟨a0, c0, a1, c1, a2, c2, a3, d3, a4, d4, rfl, h0, h1, h2, h3, h4, l0, l1, l2, l3, l4⟩ := h.form
  have lv : p.vars.length ≤ 9223372036854775807 := by have := (SlR.len hv).2; unfold maxLen at this; omega
  refine K.start hmix E.proc_locals (args := [_, _]) (Nat.le_of_ble_eq_true rfl) ?_; dsimp only [C.proc_locals,yt,yi,yb,yp,yr,ye,yc,yv,yg,ym,yw,ya,yl,yx,ys,yn]
  refine Sg ?_
  intro w1 b1 hb1 he1 hc1
  refine Sg ?_
  intro w2 b2 hb2 he2 hc2
  have E2 : ∀ {w'}, Ext w2 w' → Ext w w' := fun e => (he1.trans he2).trans e
  have hc1 := he2.obj hc1
  refine Sg ?_
  refine K.call (vars_r _ _ p.vars s.scalars 4 w2 (ho.ext (E2 (Ext.refl _))) (hv.ext (E2 (Ext.refl _))) (h0.ext (E2 (Ext.refl _)))) ?_
  rintro _ w3 ⟨rfl, he3⟩
  have hc1 := he3.obj hc1
  have hc2 := he3.obj hc2
  rw [Abs.plocals]
  refine Sg ?_
  refine K.cond (fun g1 => ?_) (fun g1 => ?_)
  rotate_left
  · refine Sg ?_
    exact ⟨by rw [if_pos g1], E2 he3⟩
  rw [if_neg (by simpa using g1)]
  have E3 : ∀ {w'}, Ext w3 w' → Ext w w' := fun e => E2 (he3.trans e)
  refine Sg ?_
  refine K.forG 25 p.vars.length [3, 23, 24] (fun _ => []) () (fun k _ w' => Ext w3 w' ∧ Abs.localsE s p.vars 0 = Abs.localsE s (p.vars.drop k) k) (by first | trivial | rfl | exact ⟨rfl, trivial⟩ | (simp -dsimp only [LL,slots_nil,slots_cons,keepV_nil,keepV_cons,has_nil,has_cons,Nat.reduceAdd,Nat.reduceEqDiff,reduceIte,and_self]; done) | (simp -dsimp only [LL,slots_nil,slots_cons,keepV_nil,keepV_cons,has_nil,has_cons,Nat.reduceAdd,Nat.reduceEqDiff,reduceIte,and_self]; exact ⟨rfl, trivial⟩)) (by first | trivial | rfl | exact ⟨rfl, trivial⟩ | (simp -dsimp only [LL,slots_nil,slots_cons,keepV_nil,keepV_cons,has_nil,has_cons,Nat.reduceAdd,Nat.reduceEqDiff,reduceIte,and_self]; done) | (simp -dsimp only [LL,slots_nil,slots_cons,keepV_nil,keepV_cons,has_nil,has_cons,Nat.reduceAdd,Nat.reduceEqDiff,reduceIte,and_self]; exact ⟨rfl, trivial⟩)) ⟨Ext.refl _, by simp⟩ ?_
  rintro k _ S w4 hk ⟨he4, hI⟩
  refine Sg ?_
  refine K.cond (fun g2 => ?_) (fun g2 => ?_)
  · have hk' : k < p.vars.length := by omega
    obtain ⟨a, rfl⟩ := hv.addr (by omega)
    replace hv := hv.ext (E3 (Ext.refl _))
    rw [Abs.localsE_drop hk'] at hI
    refine Sg ?_
    intro wN b9 hb9 heN hcN
    refine Sg ?_
    intro w5 hw5 hc5
    have he5 := hw5.ext heN hb9
    refine Sg ?_
    refine K.cond (fun g3 => ?_) (fun g3 => ?_)
    rotate_left
    · refine Sg ?_
      exact ⟨by rw [hI, if_pos g3], E3 (he4.trans he5)⟩
    rw [if_neg (by simpa using g3)] at hI
    refine Sg ?_
    refine K.call (containsFunc_r hmix E.slices_ContainsFunc_sl_api_Var_api_Var E.slices_IndexFunc_sl_api_Var_api_Var _ s.vars w5 (h1.ext (E3 (he4.trans he5))) F.proc_locals_1 (by kernel_rfl) [] [_] (fun x => decide (x.name = p.vars[k].name)) ?_) ?_
    · rintro i hi cs' w' e ⟨rfl, _⟩
      exact locals1_r _ _ b9 w' (e.obj hc5)
    rintro _ w6 ⟨rfl, he6⟩
    refine Sg ?_
    refine K.condb (fun g4 => ?_) (fun g4 => ?_)
    · refine Sg ?_
      exact ⟨by rw [hI, if_pos g4], E3 ((he4.trans he5).trans he6)⟩
    · refine Sg ?_
      exact ⟨hk', by first | trivial | rfl, (), trivial, (he4.trans he5).trans he6, by rw [hI, if_neg (by simp [g4])]⟩
  · refine Sg ?_
    exact ⟨by rw [hI, List.drop_eq_nil_of_le (by omega)]; rfl, E3 he4⟩
theorem pcheck_r (p : Abs.Proc) (pcs cs : List Value) (s : Abs.Scope) (w : World) (ho : OwnIs w) (hp : Abs.ProcIs w pcs p) (h : Abs.ScopeIs w cs s) (hg : s.good) (hpg : p.good) :
    Ret Tryz.prog F.proc_Check #[.agg pcs.toArray, .agg cs.toArray] w fun v w' => v = .tuple #[.int .i64 (Abs.procCheck p s).1, .int .i64 (Abs.procCheck p s).2.1, .int .i64 (Abs.procCheck p s).2.2] ∧ Ext w w' := by
  obtain ⟨a0, c0, a1, c1, a2, c2, a3, d3, a4, d4, rfl, h0, h1, h2, h3, h4, l0, l1, l2, l3, l4⟩ := h.form
  obtain ⟨hn, pv, pc, rfl, hv, hcm⟩ := hp
  obtain ⟨o3, c3, rfl, lv⟩ := hv.form
  obtain ⟨o4, c4, rfl, lc⟩ := hcm.form
  have hcb : p.cmds.length ≤ 140737488351232 := by have := hpg.cmds; unfold Abs.big at this; omega
  refine K.start hmix E.proc_Check (args := [_, _]) (Nat.le_of_ble_eq_true rfl) ?_; dsimp only [C.proc_Check,yt,yi,yb,yp,yr,ye,yc,yv,yg,ym,yw,ya,yl,yx,ys,yn]
  refine Sg ?_
  intro w1 b1 hb1 he1 hc1
  refine Sg ?_
  intro w2 b2 hb2 he2 hc2
  have E2 : ∀ {w'}, Ext w2 w' → Ext w w' := fun e => (he1.trans he2).trans e
  replace hc1 := he2.obj hc1
  refine Sg ?_
  refine K.call (whole_r p _ _ _ _ _ _ s w2 (ho.ext (E2 (Ext.refl _))) hn (h.ext (E2 (Ext.refl _)))) ?_
  rintro _ w3 ⟨rfl, he3⟩
  replace hc1 := he3.obj hc1
  replace hc2 := he3.obj hc2
  have E3 : ∀ {w'}, Ext w3 w' → Ext w w' := fun e => E2 (he3.trans e)
  rw [Abs.procCheck]
  refine Sg ?_
  refine K.cond (fun g1 => ?_) (fun g1 => ?_)
  rotate_left
  · refine Sg ?_
    exact ⟨by rw [if_pos g1], E3 (Ext.refl _)⟩
  rw [if_neg (by simpa using g1)]
  refine Sg ?_
  refine K.call (locals_r p _ _ _ _ _ _ s w3 (ho.ext (E3 (Ext.refl _))) (hv.ext (E3 (Ext.refl _))) (h.ext (E3 (Ext.refl _)))) ?_
  rintro _ w4 ⟨rfl, he4⟩
  replace hc1 := he4.obj hc1
  replace hc2 := he4.obj hc2
  have E4 : ∀ {w'}, Ext w4 w' → Ext w w' := fun e => E3 (he4.trans e)
  refine Sg ?_
  refine K.cond (fun g2 => ?_) (fun g2 => ?_)
  rotate_left
  · refine Sg ?_
    exact ⟨by rw [if_pos g2], E4 (Ext.refl _)⟩
  rw [if_neg (by simpa using g2)]
  refine Sg ?_
  refine K.call (inner_r p _ _ _ _ _ _ _ _ _ _ _ _ _ _ _ _ _ _ _ _ _ _ w4) ?_
  rintro _ w5 ⟨rfl, he5⟩
  replace hc1 := he5.obj hc1
  have E5 : ∀ {w'}, Ext w5 w' → Ext w w' := fun e => E4 (he5.trans e)
  refine Sg ?_
  intro w6 b10 hb10 he6 hc6
  replace hc1 := he6.obj hc1
  have E6 : ∀ {w'}, Ext w6 w' → Ext w w' := fun e => E5 (he6.trans e)
  have hin : ∀ w', Ext w w' → Abs.ScopeIs w' [.slice a0 s.scalars.length c0, .slice a1 s.vars.length c1, .slice a2 s.chans.length c2, .slice a3 s.procs.length d3, .slice o3 p.vars.length c3, .int .i64 p.over] (Abs.inner p s) := fun w' e =>
    ⟨(hg.inner hpg).sm.1, _, _, _, _, _, rfl, h0.ext e, h1.ext e, h2.ext e, h3.ext e, hv.ext e, (hg.inner hpg).sm.2⟩
  refine Sg ?_
  refine K.forG 37 p.cmds.length [2, 10, 35, 36] (fun _ => []) () (fun k _ w' => Ext w6 w' ∧ Abs.cmdsE (Abs.inner p s) p.locs p.cmds p.cmds 0 = Abs.cmdsE (Abs.inner p s) p.locs p.cmds (p.cmds.drop k) k) (by first | trivial | rfl | exact ⟨rfl, trivial⟩ | (simp -dsimp only [LL,slots_nil,slots_cons,keepV_nil,keepV_cons,has_nil,has_cons,Nat.reduceAdd,Nat.reduceEqDiff,reduceIte,and_self]; done) | (simp -dsimp only [LL,slots_nil,slots_cons,keepV_nil,keepV_cons,has_nil,has_cons,Nat.reduceAdd,Nat.reduceEqDiff,reduceIte,and_self]; exact ⟨rfl, trivial⟩)) (by first | trivial | rfl | exact ⟨rfl, trivial⟩ | (simp -dsimp only [LL,slots_nil,slots_cons,keepV_nil,keepV_cons,has_nil,has_cons,Nat.reduceAdd,Nat.reduceEqDiff,reduceIte,and_self]; done) | (simp -dsimp only [LL,slots_nil,slots_cons,keepV_nil,keepV_cons,has_nil,has_cons,Nat.reduceAdd,Nat.reduceEqDiff,reduceIte,and_self]; exact ⟨rfl, trivial⟩)) ⟨Ext.refl _, by simp⟩ ?_
  rintro k _ S w7 hk ⟨he7, hI⟩
  replace hc1 := he7.obj hc1
  replace hc6 := he7.obj hc6
  refine Sg ?_
  refine K.cond (fun g3 => ?_) (fun g3 => ?_)
  · have hk' : k < p.cmds.length := by omega
    obtain ⟨a, rfl⟩ := hcm.addr (by omega)
    obtain ⟨hs, vg, va, hcc, hvg, hva⟩ := hcm.at k hk'
    obtain ⟨og, cg, rfl, lg⟩ := hvg.form
    obtain ⟨oa, ca, rfl, la⟩ := hva.form
    rw [Abs.cmdsE_drop hk'] at hI
    replace hcc := hcc.ext (E6 (Ext.refl _))
    refine Sg ?_
    intro wN b12 hb12 heN hcN
    refine Sg ?_
    intro w8 hw8 hc8
    have he8 := hw8.ext heN hb12
    replace hc1 := he8.obj hc1
    replace hc6 := he8.obj hc6
    have E8 : ∀ {w'}, Ext w8 w' → Ext w w' := fun e => E6 ((he7.trans he8).trans e)
    clear hcN heN
    refine Sg ?_
    refine K.call (check_r p.cmds[k] _ _ p _ _ _ (Abs.inner p s) w8 (ho.ext (E8 (Ext.refl _))) hs (hvg.ext (E8 (Ext.refl _))) (hva.ext (E8 (Ext.refl _))) (hv.ext (E8 (Ext.refl _))) (hcm.ext (E8 (Ext.refl _))) (hin _ (E8 (Ext.refl _)))) ?_
    rintro _ w9 ⟨rfl, he9⟩
    replace hc1 := he9.obj hc1
    replace hc8 := he9.obj hc8
    have E9 : ∀ {w'}, Ext w9 w' → Ext w w' := fun e => E8 (he9.trans e)
    refine Sg ?_
    refine K.cond (fun g4 => ?_) (fun g4 => ?_)
    rotate_left
    · refine Sg ?_
      exact ⟨by rw [hI, if_pos g4], E9 (Ext.refl _)⟩
    rw [if_neg (by simpa using g4)] at hI
    have hcap := (SlR.len hcm).2.1
    refine Sg ?_
    refine K.slcT (k := .i64) k (by rfl) (by omega) ?_
    refine Sg ?_
    refine K.call (containsFunc_r hmix E.slices_ContainsFunc_sl_api_Cmd_api_Cmd E.slices_IndexFunc_sl_api_Cmd_api_Cmd _ (p.cmds.take k) w9 ((hcm.head k (by omega)).ext Abs.RCmd.ext (E9 (Ext.refl _))) F.proc_Check_1 (by kernel_rfl) [] [_] (fun x => decide (x.name = p.cmds[k].name)) ?_) ?_
    · rintro i hi cs' w' e ⟨_, xg, xa, rfl, hxg, hxa⟩
      obtain ⟨_, _, rfl, _⟩ := hxg.form
      obtain ⟨_, _, rfl, _⟩ := hxa.form
      exact check1_r _ _ _ _ _ _ _ _ _ _ _ _ _ _ b12 w' (e.obj hc8)
    rintro _ w10 ⟨rfl, he10⟩
    refine Sg ?_
    refine K.condb (fun g5 => ?_) (fun g5 => ?_)
    · refine Sg ?_
      exact ⟨by rw [hI, if_pos g5], E9 he10⟩
    · refine Sg ?_
      exact ⟨hk', by first | trivial | rfl, (), trivial, ((he7.trans he8).trans he9).trans he10, by rw [hI, if_neg (by simp [g5])]⟩
  · refine Sg ?_
    exact ⟨by rw [hI, List.drop_eq_nil_of_le (by omega)]; rfl, E6 he7⟩
end Go.Proofs.YtbbaokmelkiemaaGreatDoor
end
section
/- Processes: the chapter's example. -/
set_option maxRecDepth 8000
set_option maxHeartbeats 3200000
namespace Lite
open Go Go.RowKit
/-- A list in a block of one's own. -/
theorem SlR.blkC {α : Type} {R : World → Addr → α → Prop} {C : World → List Value → α → Prop} {sz : Nat} [Rel R C sz] {w : World} {b n : Nat} {e : TypeId} {cells : List Value} {xs : List α} (css : List (Cs sz)) (hb : w.heap[b]? = some (.cells cells.toArray e)) (hcells : cells = css.flatMap encC)
    (hl : css.length = xs.length) (hn : n = xs.length) (hm : xs.length ≤ maxLen) (hc : ∀ i (h1 : i < css.length) (h2 : i < xs.length), C w css[i].1 xs[i]) : SlR sz R w (.slice (some ⟨b, 0, none⟩) n n) xs := by
  subst hcells
  exact SlR.ofCells hl (SlR.blk (enc := encC) encC_len hb (by omega) (by omega) fun _ _ _ h => h) hc
end Lite
namespace Abs
open Go
end Abs
namespace Go.Proofs.YtbbaokmelkiemaaGreatDoor
open Go Go.RowKit Lite
end Go.Proofs.YtbbaokmelkiemaaGreatDoor
end
section
/- Processes: the laws on scopes and on instances, walked. -/
set_option maxRecDepth 8000
set_option maxHeartbeats 3200000
namespace Abs
end Abs
namespace Go.Proofs.YtbbaokmelkiemaaGreatDoor
open Go Go.RowKit Lite
end Go.Proofs.YtbbaokmelkiemaaGreatDoor
end
section
/- Arguments opened: nodes, acts, commands, processes, propositions, scopes, models. -/
set_option maxRecDepth 4000
namespace Lite
open Go Go.RowKit Go.ChangeShapes Go.WideShapes Go.Deep
section
variable {H : Type} {enc : TypeId × Value → H} {P : Program} {w : World} {base : Nat} {spare : Nat → Bool} {held : Bool}
/-- A struct of one-cell fields, read field by field, with each field's datum. -/
theorem fields2 {t : TypeId} {fs : Array Field} {n : Nat} {cs : List Value} {y : DataW H × List MemPlace} (ht : P.underlying t = some (.struct fs)) (hone : oneCellFields P fs = true) (hC : P.cellsOf t = fs.size)
    (h : DataW.trod enc P w base spare held n t cs = some y) : cs.length = fs.size ∧ ∃ n' ds, y.1 = .agg ds ∧ ∀ (j : Nat) (f : Field), fs[j]? = some f → ∃ v z, cs[j]? = some v ∧ DataW.trod enc P w base spare held n' f.type [v] = some z ∧ ds[j]? = some z.1 := by
  obtain ⟨ys, n', hn', hy, hlen, hyl, hf⟩ := DataW.trod_struct ht h
  refine ⟨by omega, n', _, by rw [hy], fun j f hj => ?_⟩
  obtain ⟨ho, hk⟩ := hone_of hone j f hj
  have hjl : j < fs.size := (Array.getElem?_eq_some_iff.1 hj).1
  have hv : cs[j]? = some (cs[j]'(by omega)) := List.getElem?_eq_getElem (by omega)
  have h1 := hf j f hj
  rw [ho, hk] at h1
  have hone' : (cs.drop j).take 1 = [cs[j]'(by omega)] := by
    rw [List.drop_eq_getElem_cons (by omega)]
    rfl
  rw [hone', List.getElem?_eq_getElem (l := ys) (by omega)] at h1
  exact ⟨_, _, hv, h1, by rw [List.getElem?_map, List.getElem?_eq_getElem (by omega)]; rfl⟩
/-- All that is read of a datum is no more than a machine holds. -/
def Small (P : Program) (t : TypeId) (d : DataW H) : Prop := ∀ q ∈ d.weights P t, q ≤ reachBytes
theorem Small.field {t u : TypeId} {fs : Array Field} {ds : List (DataW H)} {j : Nat} {d : DataW H} {f : Field} (h : Small P t (.agg ds)) (ht : P.underlying t = some (.struct fs)) (hf : fs[j]? = some f) (hu : f.type = u) (hd : ds[j]? = some d) : Small P u d := by
  subst hu
  intro q hq
  refine h q ?_
  simp only [DataW.weights, ht]
  exact DataW.weights_mem_each (j := j) (by simp [hf]) hd q hq
end
end Lite
namespace Go.Proofs.YtbbaokmelkiemaaGreatDoor
open Go Go.RowKit Lite Go.ChangeShapes
variable {H : Type} {enc : TypeId × Value → H} {w : World} {cs : List Value} {n : Nat} {y : DataW H × List MemPlace} {v : Value}
theorem wf_inI {z : Int} (h : (Lit.int .i64 z).wf = true) : Abs.inI z := by
  simp only [Lit.wf, Bool.and_eq_true, decide_eq_true_eq] at h
  exact ⟨h.1, h.2⟩
theorem node_el (h : DataW.trod enc Tryz.prog w 0 (fun _ => true) true n T.api_Node cs = some y) : ∃ x : Abs.Node, cs = x.enc ∧ x.ok := by
  obtain ⟨hl, n', ds, _, hf⟩ := fields2 (t := T.api_Node) rfl (by kernel_rfl) (by kernel_rfl) h
  match cs, hl with
  | [c0, c1], _ =>
    obtain ⟨_, _, e0, h0, _⟩ := hf 0 _ rfl
    obtain ⟨_, _, e1, h1, _⟩ := hf 1 _ rfl
    cases e0; cases e1
    obtain ⟨z0, e0, _, k0⟩ := DataW.trod_int (k := .i64) (by kernel_rfl) h0
    obtain ⟨z1, e1, _, k1⟩ := DataW.trod_int (k := .i64) (by kernel_rfl) h1
    cases e0; cases e1
    exact ⟨⟨z0, z1⟩, rfl, wf_inI k0, wf_inI k1⟩
end Go.Proofs.YtbbaokmelkiemaaGreatDoor
end
section
/- Arguments opened: models, with what their sizes tell. -/
set_option maxRecDepth 4000
namespace Lite
open Go Go.RowKit Go.ChangeShapes Go.WideShapes Go.Deep
section
variable {H : Type} {enc : TypeId × Value → H} {P : Program} {w : World} {base : Nat} {spare : Nat → Bool} {held : Bool}
theorem weights_mem_all {e : TypeId} : ∀ {ds : List (DataW H)} {d : DataW H}, d ∈ ds → ∀ n ∈ d.weights P e, n ∈ DataW.weightsAll P e ds
  | [], _, h => by cases h
  | x :: r, d, h => fun n hn => by
    simp only [DataW.weightsAll]
    rcases List.mem_cons.1 h with rfl | h
    · exact List.mem_append_left _ hn
    · exact List.mem_append_right _ (weights_mem_all h n hn)
/-- A cell that holds a slice whose elements are read each by R, and are good where the datum is small. -/
theorem cell_slG {α : Type} {R : World → Addr → α → Prop} {G : α → Prop} {t e : TypeId} {v : Value} {n : Nat} {z : DataW H × List MemPlace} (sz B : Nat) (ht : P.underlying t = some (.slice e)) (hC : P.cellsOf e = sz) (hB : P.bytesOf e = B)
    (hR : ∀ (a : Addr) (cs : List Value) (n : Nat) (y : DataW H × List MemPlace), CellsAt w a cs → cs.length = sz → DataW.trod enc P w 0 (fun _ => true) true n e cs = some y → ∃ x, R w a x ∧ (Small P e y.1 → G x))
    (h : DataW.trod enc P w 0 (fun _ => true) true n t [v] = some z) : ∃ xs, SlR sz R w v xs ∧ (Small P t z.1 → Abs.big xs.length B ∧ ∀ x ∈ xs, G x) := by
  rcases open_slice ht h with ⟨hcs, _⟩ | ⟨a, len, cap, m, n, D, Pl, hcs, hb, hl, hm, hmm, hx, hi⟩
  · simp at hcs
    subst hcs
    exact ⟨[], SlR.nil, fun _ => ⟨by simp [Abs.big], fun x hx => by cases hx⟩⟩
  · simp at hcs
    subst hcs
    simp only [if_true] at hmm
    subst hmm
    obtain ⟨xs, hxl, hxs⟩ := list_of len (fun i x => R w (a.add (i * sz)) x ∧ (Small P e (D i) → G x)) fun i hi' => by
      obtain ⟨cs', hc, ht'⟩ := hi i (by omega)
      rw [hC] at hc
      obtain ⟨_, hcl, hat⟩ := World.cells?_some hc
      refine hR _ cs' n _ (fun j u hj => ?_) hcl ht'
      have hjl' : j < sz := hcl ▸ (List.getElem?_eq_some_iff.1 hj).1
      rw [← hj]
      exact hat j hjl'
    refine ⟨xs, ⟨some a, _, by rw [hxl], by omega, hm, fun _ => rfl, fun a' ha i hi => by injection ha with ha; subst ha; exact (hxs i hi).1⟩, fun hs => ⟨?_, fun x hx' => ?_⟩⟩
    · have h1 := hs ((len + (m - len)) * P.bytesOf e) (by rw [hx]; simp [DataW.weights, ht])
      have h2 : len * B ≤ (len + (m - len)) * P.bytesOf e := by rw [hB]; exact Nat.mul_le_mul_right _ (by omega)
      have h3 : reachBytes = 140737488351232 := rfl
      unfold Abs.big
      rw [hxl]
      omega
    · obtain ⟨i, hi', rfl⟩ := List.mem_iff_getElem.1 hx'
      refine (hxs i hi').2 fun q hq => hs q ?_
      rw [hx]
      simp only [DataW.weights, ht]
      refine List.mem_cons_of_mem _ (List.mem_append_left _ (weights_mem_all ?_ q hq))
      exact List.mem_map.2 ⟨i, by simp; omega, rfl⟩
theorem open_stG {r : Reach} {b0 : Nat} {t : TypeId} {fs : Array Field} {v : Value} {d : DataW H} {p : List MemPlace} (ht : P.underlying t = some (.struct fs))
    (hval : Value.okWide P w r b0 t v) (h : DataW.Trod enc P w base spare held t v d p) : ∃ cs n, v = .agg cs ∧ DataW.trod enc P w base spare held n t cs.toList = some (d, p) := by
  obtain ⟨cs, rfl, hsz⟩ := okWide_struct ht hval
  obtain ⟨fuel, hf⟩ := h
  exact ⟨cs, fuel, rfl, hf⟩
end
end Lite
namespace Go.Proofs.YtbbaokmelkiemaaGreatDoor
open Go Go.RowKit Lite Go.ChangeShapes
variable {H : Type} {enc : TypeId × Value → H} {w : World} {cs : List Value} {n : Nat} {y : DataW H × List MemPlace} {v : Value}
theorem gscalar (h : DataW.trod enc Tryz.prog w 0 (fun _ => true) true n T.api_Scalar cs = some y) : ∃ x : Abs.Scalar, cs = x.enc ∧ Abs.strOk x.name ∧ x.good := by
  obtain ⟨hl, n', ds, _, hf⟩ := fields2 (t := T.api_Scalar) rfl (by kernel_rfl) (by kernel_rfl) h
  match cs, hl with
  | [c0, c1], _ =>
    obtain ⟨_, _, e0, h0, _⟩ := hf 0 _ rfl
    obtain ⟨_, _, e1, h1, _⟩ := hf 1 _ rfl
    cases e0; cases e1
    obtain ⟨s, e0, _, hs⟩ := DataW.trod_string (by kernel_rfl) h0
    obtain ⟨z, e1, _, k1⟩ := DataW.trod_int (k := .i64) (by kernel_rfl) h1
    cases e0; cases e1
    exact ⟨⟨s, z⟩, rfl, hs, ⟨wf_inI k1⟩⟩
theorem gvar (h : DataW.trod enc Tryz.prog w 0 (fun _ => true) true n T.api_Var cs = some y) : ∃ x : Abs.Var, cs = x.enc ∧ Abs.strOk x.name ∧ x.good := by
  obtain ⟨hl, n', ds, _, hf⟩ := fields2 (t := T.api_Var) rfl (by kernel_rfl) (by kernel_rfl) h
  match cs, hl with
  | [c0, c1, c2, c3, c4, c5], _ =>
    obtain ⟨_, _, e0, h0, _⟩ := hf 0 _ rfl
    obtain ⟨_, _, e1, h1, _⟩ := hf 1 _ rfl
    obtain ⟨_, _, e2, h2, _⟩ := hf 2 _ rfl
    obtain ⟨_, _, e3, h3, _⟩ := hf 3 _ rfl
    obtain ⟨_, _, e4, h4, _⟩ := hf 4 _ rfl
    obtain ⟨_, _, e5, h5, _⟩ := hf 5 _ rfl
    cases e0; cases e1; cases e2; cases e3; cases e4; cases e5
    obtain ⟨s, e0, _, hs⟩ := DataW.trod_string (by kernel_rfl) h0
    obtain ⟨z1, e1, _, k1⟩ := DataW.trod_int (k := .i64) (by kernel_rfl) h1
    obtain ⟨z2, e2, _, k2⟩ := DataW.trod_int (k := .i64) (by kernel_rfl) h2
    obtain ⟨z3, e3, _, k3⟩ := DataW.trod_int (k := .i64) (by kernel_rfl) h3
    obtain ⟨z4, e4, _, k4⟩ := DataW.trod_int (k := .i64) (by kernel_rfl) h4
    obtain ⟨z5, e5, _, k5⟩ := DataW.trod_int (k := .i64) (by kernel_rfl) h5
    cases e0; cases e1; cases e2; cases e3; cases e4; cases e5
    exact ⟨⟨s, z1, z2, z3, z4, z5⟩, rfl, hs, ⟨wf_inI k1, wf_inI k2, wf_inI k3, wf_inI k4, wf_inI k5⟩⟩
theorem gchan (h : DataW.trod enc Tryz.prog w 0 (fun _ => true) true n T.api_Chan cs = some y) : ∃ x : Abs.Chan, cs = x.enc ∧ Abs.strOk x.name ∧ x.good := by
  obtain ⟨hl, n', ds, _, hf⟩ := fields2 (t := T.api_Chan) rfl (by kernel_rfl) (by kernel_rfl) h
  match cs, hl with
  | [c0, c1, c2, c3, c4, c5], _ =>
    obtain ⟨_, _, e0, h0, _⟩ := hf 0 _ rfl
    obtain ⟨_, _, e1, h1, _⟩ := hf 1 _ rfl
    obtain ⟨_, _, e2, h2, _⟩ := hf 2 _ rfl
    obtain ⟨_, _, e3, h3, _⟩ := hf 3 _ rfl
    obtain ⟨_, _, e4, h4, _⟩ := hf 4 _ rfl
    obtain ⟨_, _, e5, h5, _⟩ := hf 5 _ rfl
    cases e0; cases e1; cases e2; cases e3; cases e4; cases e5
    obtain ⟨s, e0, _, hs⟩ := DataW.trod_string (by kernel_rfl) h0
    obtain ⟨z1, e1, _, k1⟩ := DataW.trod_int (k := .i64) (by kernel_rfl) h1
    obtain ⟨z2, e2, _, k2⟩ := DataW.trod_int (k := .i64) (by kernel_rfl) h2
    obtain ⟨z3, e3, _, k3⟩ := DataW.trod_int (k := .i64) (by kernel_rfl) h3
    obtain ⟨z4, e4, _, k4⟩ := DataW.trod_int (k := .i64) (by kernel_rfl) h4
    obtain ⟨z5, e5, _⟩ := DataW.trod_bool (by kernel_rfl) h5
    cases e0; cases e1; cases e2; cases e3; cases e4; cases e5
    exact ⟨⟨s, z1, z2, z3, z4, z5⟩, rfl, hs, ⟨wf_inI k1, wf_inI k2, wf_inI k3, wf_inI k4⟩⟩
theorem gnodes (h : DataW.trod enc Tryz.prog w 0 (fun _ => true) true n T.sl_api_Node [v] = some y) : ∃ l, Abs.Nodes w v l ∧ (Small Tryz.prog T.sl_api_Node y.1 → Abs.big l.length 16 ∧ ∀ x ∈ l, True) :=
  cell_slG (G := fun _ => True) (e := T.api_Node) 2 16 (by kernel_rfl) (by kernel_rfl) (by kernel_rfl) (fun a cs n y hc hl ht => by obtain ⟨x, rfl, hx⟩ := node_el ht; exact ⟨x, ⟨hc, hx⟩, fun _ => trivial⟩) h
theorem gscalars (h : DataW.trod enc Tryz.prog w 0 (fun _ => true) true n T.sl_api_Scalar [v] = some y) : ∃ l, Abs.Scalars w v l ∧ (Small Tryz.prog T.sl_api_Scalar y.1 → Abs.big l.length 24 ∧ ∀ x ∈ l, x.good) :=
  cell_slG (e := T.api_Scalar) 2 24 (by kernel_rfl) (by kernel_rfl) (by kernel_rfl) (fun a cs n y hc hl ht => by obtain ⟨x, rfl, hx, hg⟩ := gscalar ht; exact ⟨x, ⟨hc, hx⟩, fun _ => hg⟩) h
theorem gvars (h : DataW.trod enc Tryz.prog w 0 (fun _ => true) true n T.sl_api_Var [v] = some y) : ∃ l, Abs.Vars w v l ∧ (Small Tryz.prog T.sl_api_Var y.1 → Abs.big l.length 56 ∧ ∀ x ∈ l, x.good) :=
  cell_slG (e := T.api_Var) 6 56 (by kernel_rfl) (by kernel_rfl) (by kernel_rfl) (fun a cs n y hc hl ht => by obtain ⟨x, rfl, hx, hg⟩ := gvar ht; exact ⟨x, ⟨hc, hx⟩, fun _ => hg⟩) h
theorem gchans (h : DataW.trod enc Tryz.prog w 0 (fun _ => true) true n T.sl_api_Chan [v] = some y) : ∃ l, Abs.Chans w v l ∧ (Small Tryz.prog T.sl_api_Chan y.1 → Abs.big l.length 56 ∧ ∀ x ∈ l, x.good) :=
  cell_slG (e := T.api_Chan) 6 56 (by kernel_rfl) (by kernel_rfl) (by kernel_rfl) (fun a cs n y hc hl ht => by obtain ⟨x, rfl, hx, hg⟩ := gchan ht; exact ⟨x, ⟨hc, hx⟩, fun _ => hg⟩) h
theorem gact {a : Addr} (hc : CellsAt w a cs) (h : DataW.trod enc Tryz.prog w 0 (fun _ => true) true n T.api_Act cs = some y) : ∃ x : Abs.Act, Abs.RAct w a x ∧ (Small Tryz.prog T.api_Act y.1 → x.good) := by
  obtain ⟨hl, n', ds, he, hf⟩ := fields2 (t := T.api_Act) rfl (by kernel_rfl) (by kernel_rfl) h
  match cs, hl with
  | [c0, c1, c2, c3, c4], _ =>
    obtain ⟨_, _, e0, h0, _⟩ := hf 0 _ rfl
    obtain ⟨_, _, e1, h1, _⟩ := hf 1 _ rfl
    obtain ⟨_, _, e2, h2, _⟩ := hf 2 _ rfl
    obtain ⟨_, _, e3, h3, d3⟩ := hf 3 _ rfl
    obtain ⟨_, _, e4, h4, d4⟩ := hf 4 _ rfl
    cases e0; cases e1; cases e2; cases e3; cases e4
    obtain ⟨z0, e0, _, k0⟩ := DataW.trod_int (k := .i64) (by kernel_rfl) h0
    obtain ⟨z1, e1, _, k1⟩ := DataW.trod_int (k := .i64) (by kernel_rfl) h1
    obtain ⟨z2, e2, _, k2⟩ := DataW.trod_int (k := .i64) (by kernel_rfl) h2
    cases e0; cases e1; cases e2
    obtain ⟨l3, h3, g3⟩ := gnodes h3
    obtain ⟨l4, h4, g4⟩ := gnodes h4
    exact ⟨⟨z0, z1, z2, l3, l4⟩, ⟨c3, c4, hc, h3, h4⟩, fun hs => by
      rw [he] at hs
      exact ⟨wf_inI k0, wf_inI k1, wf_inI k2, (g3 (hs.field rfl rfl rfl d3)).1, (g4 (hs.field rfl rfl rfl d4)).1⟩⟩
theorem gacts (h : DataW.trod enc Tryz.prog w 0 (fun _ => true) true n T.sl_api_Act [v] = some y) : ∃ l, Abs.Acts w v l ∧ (Small Tryz.prog T.sl_api_Act y.1 → Abs.big l.length 72 ∧ ∀ x ∈ l, x.good) :=
  cell_slG (e := T.api_Act) 5 72 (by kernel_rfl) (by kernel_rfl) (by kernel_rfl) (fun a cs n y hc hl ht => gact hc ht) h
theorem gcmd (h : DataW.trod enc Tryz.prog w 0 (fun _ => true) true n T.api_Cmd cs = some y) : ∃ x : Abs.Cmd, Abs.CmdIs w cs x ∧ (Small Tryz.prog T.api_Cmd y.1 → x.good) := by
  obtain ⟨hl, n', ds, he, hf⟩ := fields2 (t := T.api_Cmd) rfl (by kernel_rfl) (by kernel_rfl) h
  match cs, hl with
  | [c0, c1, c2, c3, c4, c5], _ =>
    obtain ⟨_, _, e0, h0, _⟩ := hf 0 _ rfl
    obtain ⟨_, _, e1, h1, _⟩ := hf 1 _ rfl
    obtain ⟨_, _, e2, h2, _⟩ := hf 2 _ rfl
    obtain ⟨_, _, e3, h3, d3⟩ := hf 3 _ rfl
    obtain ⟨_, _, e4, h4, d4⟩ := hf 4 _ rfl
    obtain ⟨_, _, e5, h5, _⟩ := hf 5 _ rfl
    cases e0; cases e1; cases e2; cases e3; cases e4; cases e5
    obtain ⟨s, e0, _, hs⟩ := DataW.trod_string (by kernel_rfl) h0
    obtain ⟨z1, e1, _, k1⟩ := DataW.trod_int (k := .i64) (by kernel_rfl) h1
    obtain ⟨z2, e2, _, k2⟩ := DataW.trod_int (k := .i64) (by kernel_rfl) h2
    obtain ⟨z5, e5, _⟩ := DataW.trod_bool (by kernel_rfl) h5
    cases e0; cases e1; cases e2; cases e5
    obtain ⟨l3, h3, g3⟩ := gnodes h3
    obtain ⟨l4, h4, g4⟩ := gacts h4
    exact ⟨⟨s, z1, z2, l3, l4, z5⟩, ⟨hs, c3, c4, rfl, h3, h4⟩, fun hs => by
      rw [he] at hs
      exact ⟨wf_inI k1, wf_inI k2, (g3 (hs.field rfl rfl rfl d3)).1, (g4 (hs.field rfl rfl rfl d4)).1, (g4 (hs.field rfl rfl rfl d4)).2⟩⟩
theorem gcmds (h : DataW.trod enc Tryz.prog w 0 (fun _ => true) true n T.sl_api_Cmd [v] = some y) : ∃ l, Abs.Cmds w v l ∧ (Small Tryz.prog T.sl_api_Cmd y.1 → Abs.big l.length 88 ∧ ∀ x ∈ l, x.good) :=
  cell_slG (e := T.api_Cmd) 6 88 (by kernel_rfl) (by kernel_rfl) (by kernel_rfl) (fun a cs n y hc hl ht => by
    obtain ⟨x, ⟨h0, vg, va, rfl, h1, h2⟩, hg⟩ := gcmd ht
    exact ⟨x, ⟨h0, vg, va, hc, h1, h2⟩, hg⟩) h
theorem gproc (h : DataW.trod enc Tryz.prog w 0 (fun _ => true) true n T.api_Proc cs = some y) : ∃ x : Abs.Proc, Abs.ProcIs w cs x ∧ (Small Tryz.prog T.api_Proc y.1 → x.good) := by
  obtain ⟨hl, n', ds, he, hf⟩ := fields2 (t := T.api_Proc) rfl (by kernel_rfl) (by kernel_rfl) h
  match cs, hl with
  | [c0, c1, c2, c3, c4], _ =>
    obtain ⟨_, _, e0, h0, _⟩ := hf 0 _ rfl
    obtain ⟨_, _, e1, h1, _⟩ := hf 1 _ rfl
    obtain ⟨_, _, e2, h2, _⟩ := hf 2 _ rfl
    obtain ⟨_, _, e3, h3, d3⟩ := hf 3 _ rfl
    obtain ⟨_, _, e4, h4, d4⟩ := hf 4 _ rfl
    cases e0; cases e1; cases e2; cases e3; cases e4
    obtain ⟨s, e0, _, hs⟩ := DataW.trod_string (by kernel_rfl) h0
    obtain ⟨z1, e1, _, k1⟩ := DataW.trod_int (k := .i64) (by kernel_rfl) h1
    obtain ⟨z2, e2, _, k2⟩ := DataW.trod_int (k := .i64) (by kernel_rfl) h2
    cases e0; cases e1; cases e2
    obtain ⟨l3, h3, g3⟩ := gvars h3
    obtain ⟨l4, h4, g4⟩ := gcmds h4
    exact ⟨⟨s, z1, z2, l3, l4⟩, ⟨hs, c3, c4, rfl, h3, h4⟩, fun hs => by
      rw [he] at hs
      exact ⟨wf_inI k1, wf_inI k2, (g3 (hs.field rfl rfl rfl d3)).1, (g4 (hs.field rfl rfl rfl d4)).1, (g3 (hs.field rfl rfl rfl d3)).2, (g4 (hs.field rfl rfl rfl d4)).2⟩⟩
theorem gprocs (h : DataW.trod enc Tryz.prog w 0 (fun _ => true) true n T.sl_api_Proc [v] = some y) : ∃ l, Abs.Procs w v l ∧ (Small Tryz.prog T.sl_api_Proc y.1 → Abs.big l.length 80 ∧ ∀ x ∈ l, x.good) :=
  cell_slG (e := T.api_Proc) 5 80 (by kernel_rfl) (by kernel_rfl) (by kernel_rfl) (fun a cs n y hc hl ht => by
    obtain ⟨x, ⟨h0, vg, va, rfl, h1, h2⟩, hg⟩ := gproc ht
    exact ⟨x, ⟨h0, vg, va, hc, h1, h2⟩, hg⟩) h
theorem gprps (h : DataW.trod enc Tryz.prog w 0 (fun _ => true) true n T.sl_api_Prop [v] = some y) : ∃ l, Abs.Prps w v l ∧ (Small Tryz.prog T.sl_api_Prop y.1 → Abs.big l.length 40 ∧ ∀ x ∈ l, x.good) :=
  cell_slG (e := T.api_Prop) 2 40 (by kernel_rfl) (by kernel_rfl) (by kernel_rfl) (fun a cs n y hc hl ht => by
    obtain ⟨hl, n', ds, he, hf⟩ := fields2 (t := T.api_Prop) rfl (by kernel_rfl) (by kernel_rfl) ht
    match cs, hl with
    | [c0, c1], _ =>
      obtain ⟨_, _, e0, h0, _⟩ := hf 0 _ rfl
      obtain ⟨_, _, e1, h1, d1⟩ := hf 1 _ rfl
      cases e0; cases e1
      obtain ⟨s, e0, _, hs⟩ := DataW.trod_string (by kernel_rfl) h0
      cases e0
      obtain ⟨l1, h1, g1⟩ := gnodes h1
      exact ⟨⟨s, l1⟩, ⟨hs, c1, hc, h1⟩, fun hs => by rw [he] at hs; exact ⟨(g1 (hs.field rfl rfl rfl d1)).1⟩⟩) h
theorem open_modelG {r : Reach} {b0 : Nat} {v : Value} {d : DataW H} {p : List MemPlace} (hval : Value.okWide Tryz.prog w r b0 T.api_Model v) (h : DataW.Trod enc Tryz.prog w 0 (fun _ => true) true T.api_Model v d p) (hs : Small Tryz.prog T.api_Model d) :
    ∃ cs m, v = .agg cs.toArray ∧ Abs.ModelIs w cs m ∧ m.good := by
  obtain ⟨cs, n, rfl, ht⟩ := open_stG (t := T.api_Model) rfl hval h
  obtain ⟨hl, n', ds, rfl, hf⟩ := fields2 (t := T.api_Model) rfl (by kernel_rfl) (by kernel_rfl) ht
  obtain ⟨cs⟩ := cs
  match cs, hl with
  | [c0, c1, c2, c3, c4], _ =>
    obtain ⟨_, _, e0, h0, d0⟩ := hf 0 _ rfl
    obtain ⟨_, _, e1, h1, d1⟩ := hf 1 _ rfl
    obtain ⟨_, _, e2, h2, d2⟩ := hf 2 _ rfl
    obtain ⟨_, _, e3, h3, d3⟩ := hf 3 _ rfl
    obtain ⟨_, _, e4, h4, d4⟩ := hf 4 _ rfl
    cases e0; cases e1; cases e2; cases e3; cases e4
    obtain ⟨l0, r0, b0⟩ := gscalars h0
    obtain ⟨l1, r1, b1⟩ := gvars h1
    obtain ⟨l2, r2, b2⟩ := gchans h2
    obtain ⟨l3, r3, b3⟩ := gprocs h3
    obtain ⟨l4, r4, b4⟩ := gprps h4
    have k0 := b0 (hs.field rfl rfl rfl d0)
    have k1 := b1 (hs.field rfl rfl rfl d1)
    have k2 := b2 (hs.field rfl rfl rfl d2)
    have k3 := b3 (hs.field rfl rfl rfl d3)
    have k4 := b4 (hs.field rfl rfl rfl d4)
    exact ⟨[c0, c1, c2, c3, c4], ⟨l0, l1, l2, l3, l4⟩, rfl, ⟨⟨c0, c1, c2, c3, c4, rfl, r0, r1, r2, r3, r4⟩⟩, ⟨k0.1, k1.1, k2.1, k3.1, k4.1, k0.2, k1.2, k2.2, k3.2, k4.2⟩⟩
end Go.Proofs.YtbbaokmelkiemaaGreatDoor
end
section
/- The walks of the laws on processes, from what their arguments are. -/
set_option maxRecDepth 4000
namespace Go.Proofs.YtbbaokmelkiemaaGreatDoor
open Go Go.RowKit Lite Go.ChangeShapes Go.WideShapes Go.Deep
end Go.Proofs.YtbbaokmelkiemaaGreatDoor
end
section
/- Lite: rows of one's own that are written in place, slot by slot. -/
set_option maxRecDepth 4000
set_option maxHeartbeats 1600000
namespace Lite
open Go Go.RowKit
/-- One slot of an element. -/
def Cs.put {sz : Nat} (c : Cs sz) (f : Nat) (v : Value) (hv : v.oneCell' = true) : Cs sz := ⟨c.1.set f v, by rw [List.length_set]; exact c.2.1, fun u hu => by
  rcases List.mem_or_eq_of_mem_set hu with h | h
  · exact c.2.2 u h
  · rw [h]; exact hv⟩
theorem encC_put {sz : Nat} (c : Cs sz) (f : Nat) (v : Value) (hv : v.oneCell' = true) : encC (c.put f v hv) = (encC c).set f v := rfl
theorem flat_put {sz : Nat} {v : Value} {hv : v.oneCell' = true} {f : Nat} (hf : f < sz) : ∀ (css : List (Cs sz)) (i : Nat) (h : i < css.length), (css.flatMap encC).set (i * sz + f) v = (css.set i (css[i].put f v hv)).flatMap encC
  | c :: r, 0, _ => by
    simp only [List.flatMap_cons, List.set_cons_zero, Nat.zero_mul, Nat.zero_add, List.getElem_cons_zero, encC_put]
    rw [List.set_append_left _ _ (by rw [encC_len]; exact hf)]
  | c :: r, i + 1, h => by
    simp only [List.flatMap_cons, List.set_cons_succ, List.getElem_cons_succ]
    rw [List.set_append_right _ _ (by rw [encC_len, Nat.add_mul]; omega), encC_len, show (i + 1) * sz + f - sz = i * sz + f from by rw [Nat.add_mul]; omega, flat_put hf r i (by simpa using h)]
section
variable {e : TypeId} {sz base : Nat} {w w' : World} {css : List (Cs sz)}
theorem OwC.put_ok {a : Addr} {n c i f : Nat} {v : Value} (h : OwC e sz base w (.slice (some a) n c) css) (hi : i < css.length) (hf : f < sz) (hv : v.oneCell' = true) :
    (∃ old, w.cell? ((a.add (i * sz)).add f) = some old) ∧ w.frozen? ((a.add (i * sz)).add f) = false ∧ ((a.add (i * sz)).add f).block = a.block ∧
    OwC e sz base (w.setCell ((a.add (i * sz)).add f) v) (.slice (some a) n c) (css.set i (css[i].put f v hv)) := by
  rcases h.2 with ⟨hn, h0⟩ | ⟨g, cap, cur, h1, h2, h3, h4, h5, h6, h7⟩
  · cases hn
  · injection h1 with e1 e2 e3
    injection e1 with e1
    subst e1 e3
    have hlt : i * sz + f < cur.size := by
      rw [h6]
      have : (i + 1) * sz ≤ c * sz := Nat.mul_le_mul_right _ (by omega)
      rw [Nat.add_mul] at this
      omega
    have hlt2 : i * sz + f < css.length * sz := by
      have : (i + 1) * sz ≤ css.length * sz := Nat.mul_le_mul_right _ (by omega)
      rw [Nat.add_mul] at this
      omega
    have ea : ((Addr.add ⟨g, 0, none⟩ (i * sz)).add f) = Addr.add ⟨g, 0, none⟩ (i * sz + f) := add_add _ _ _
    rw [ea]
    refine ⟨⟨_, cell_blk h3 (Array.getElem?_eq_getElem hlt)⟩, by rw [add_eq]; simp [World.frozen?, h3], by rw [add_block], ?_⟩
    refine ⟨?_, .inr ⟨g, c, _, ?_, h2, setCell_blk h3 hlt v, ?_, h5, by rw [Array.size_set]; exact h6, ?_⟩⟩
    · rw [flat_len encC_len]
    · rw [List.length_set, e2]
    · rw [List.length_set]; exact h4
    · rw [List.length_set, ← flat_put hf, ← h7, Array.toList_set, List.take_set]
/-- A slot of an element is written. -/
theorem K.stO {a : Addr} {n c i f : Nat} {v : Value} {KW : World → Prop} {t} (h : OwC e sz base w (.slice (some a) n c) css) (hi : i < css.length) (hf : f < sz) (hv : v.oneCell' = true)
    (hk : ∀ w1, Wr a.block w w1 → OwC e sz base w1 (.slice (some a) n c) (css.set i (css[i].put f v hv)) → KW w1) : StVCh (.pointer (some ((a.add (i * sz)).add f))) v w KW t := by
  obtain ⟨⟨old, h1⟩, h2, h3, h4⟩ := OwC.put_ok h hi hf hv
  refine K.st h1 h2 hv (hk _ ?_ h4)
  have := Wr.setCell w ((a.add (i * sz)).add f) v
  rwa [h3] at this
/-- The block of such a row. -/
theorem OwC.blk1 {a : Addr} {n c : Nat} (h : OwC e sz base w (.slice (some a) n c) css) : base ≤ a.block ∧ a.block < w.heap.size ∧ ∃ cur, w.heap[a.block]? = some (.cells cur e) :=
  ⟨(OwR.lt h a.block rfl).1, (OwR.lt h a.block rfl).2, OwR.blk h a.block rfl⟩
theorem OwC.ne {a : Addr} {n c b : Nat} {t : TypeId} {cs : Array Value} (h : OwC e sz base w (.slice (some a) n c) css) (hb : w.heap[b]? = some (.cells cs t)) (ht : t ≠ e) : b ≠ a.block := fun he => by
  obtain ⟨cur, h1⟩ := h.blk1.2.2
  rw [he, h1] at hb
  injection hb with hb
  injection hb with _ hb
  exact ht hb.symm
theorem OwC.at {a : Addr} {n c : Nat} (h : OwC e sz base w (.slice (some a) n c) css) {i : Nat} (hi : i < css.length) : CellsAt w (a.add (i * sz)) css[i].1 := (OwR.slr encC_len h).at i hi
end
end Lite
end
section
/- Models copied: model.Copy. -/
set_option maxRecDepth 4000
set_option maxHeartbeats 16000000
namespace Lite
open Go Go.RowKit
/-- It hangs on neither what was, nor on one box. -/
abbrev NB (w : World) (b : Nat) (p : World → Prop) (w' : World) : Prop := Stab (fun i => i < w.heap.size ∨ i = b) p w'
theorem New.box {w w1 w2 : World} {p : World → Prop} {b : Nat} (h : New w p w1) (e : Ext w1 w2) (hb : w1.heap.size ≤ b) : NB w b p w2 :=
  Stab.move h (A := fun _ => False) e.mod (fun _ _ h => h.elim) fun i hi hk => by rcases hk with hk | hk <;> omega
theorem NB.of {w wk w1 : World} {p : World → Prop} {b : Nat} (h : New wk p w1) (h0 : w.heap.size ≤ wk.heap.size) (hb : b < wk.heap.size) : NB w b p w1 := Stab.mono h fun i _ hi => by rcases hi with hi | hi <;> omega
theorem NB.ext {w w1 w2 : World} {p : World → Prop} {b : Nat} (h : NB w b p w1) (e : Ext w1 w2) (h0 : w.heap.size ≤ w1.heap.size) (hb : b < w1.heap.size) : NB w b p w2 :=
  Stab.ext h e fun i hi hk => by rcases hk with hk | hk <;> omega
theorem NB.wr {w w1 w2 : World} {p : World → Prop} {b : Nat} (h : NB w b p w1) (hw : Wr b w1 w2) : New w p w2 :=
  Stab.move h (A := fun k => k = b) (hw.mod rfl) (fun i _ e => .inr e) (fun i _ e => .inl e)
theorem Mod.mono {A B : Nat → Prop} {a b : World} (h : Mod A a b) (h1 : ∀ i, A i → B i) : Mod B a b := ⟨h.os, h.tape, h.output, h.size, fun i hi hn => h.block i hi fun e => hn (h1 i e)⟩
theorem New.at {w w1 : World} {p : World → Prop} {b : Nat} (h : New w p w1) (hb : w1.heap.size ≤ b) : NB w b p w1 := Stab.mono h fun i hi hk => by rcases hk with hk | hk <;> omega
theorem Ext.wrm {w0 w1 w2 : World} {b : Nat} (h : Ext w0 w1) (hw : Wr b w1 w2) : Mod (fun i => i = b) w0 w2 := (h.mod (A := fun _ => False)).comp (hw.mod (A := fun i => i = b) rfl) (fun _ _ h => h.elim) fun _ _ h => h
theorem OwC.wrT {e t : TypeId} {sz base b : Nat} {w w' : World} {v : Value} {css : List (Cs sz)} {c : Array Value} (h : OwC e sz base w v css) (hw : Wr b w w') (hc : w.heap[b]? = some (.cells c t)) (ht : t ≠ e) : OwC e sz base w' v css :=
  OwR.mod h (hw.mod (A := fun k => k = b) rfl) fun k hk a => by
    subst a
    obtain ⟨cur, h1⟩ := OwR.blk h k hk
    rw [hc] at h1
    injection h1 with h1
    injection h1 with _ h1
    exact ht h1
theorem clone0_r {α : Type} {P : Program} {f : FuncId} {t : TypeId} {sz : Nat} {R : World → Addr → α → Prop} {C : World → List Value → α → Prop} [Rel R C sz] {ts : TypeId} {b : Nat} (hm : P.follows .mixedOrders = true) (hE : compF P f = some (cloneCode ts t sz b)) (hts : P.underlying ts = some (.slice t))
    (v : Value) (xs : List α) {w0 : World} (w : World) (h : SlR sz R w0 v xs) (e0 : Ext w0 w) (hb : xs.length * b ≤ 140737488355328) :
    Ret P f #[v] w fun v' w' => (∃ css : List (Cs sz), css.length = xs.length ∧ OwC t sz w.heap.size w' v' css ∧ ∀ i (h1 : i < css.length) (h2 : i < xs.length), C w0 css[i].1 xs[i]) ∧ Ext w w' := by
  obtain ⟨o1, c1, rfl, b1⟩ := h.form
  refine K.start hm hE (args := [_]) (Nat.le_of_ble_eq_true rfl) ?_
  dsimp only [cloneCode,yt,yi,yb,yp,yr,ye,yc,yv,yg,ym,yw,ya,yl,yx,ys,yn]
  refine Sg ?_
  refine K.eqNil hts ?_
  refine Sg ?_
  refine K.condb (fun g => ?_) (fun g => ?_)
  · refine Sg ?_
    have : xs = [] := by
      obtain ⟨oa, cap, e, h2, h3, h4, h5⟩ := h.ex
      injection e with e1 e2 e3
      subst e1
      by_cases hx : xs = []
      · exact hx
      · have := h4 hx
        cases o1 <;> simp_all
    subst this
    exact ⟨⟨[], rfl, OwR.nil _ _ _ _ _, fun i h => by cases h⟩, Ext.refl _⟩
  obtain ⟨a, rfl⟩ : ∃ a, o1 = some a := by cases o1 with | none => cases g | some a => exact ⟨a, rfl⟩
  obtain ⟨css, hl, hcs, hC⟩ := h.cells
  refine Sg ?_
  intro w1 b1 hb1 he1 hc1
  refine Sg ?_
  have ho : OwC t sz w.heap.size w1 (.slice (some ⟨b1, 0, none⟩) 0 0) [] := OwR.empty hb1 hc1
  refine K.appAt (ys := css) ho encC_len (SlR.flat encC_len (fun _ _ h => h) (SlR.ext Flat.ext (e0.trans he1) hcs)) (by rw [hl]) encC_one (by rw [List.length_nil, Nat.zero_add, hl]; exact hb) (by have := hcs.len; have e := h.len; rw [List.length_nil, hl]; omega) (by exact he1.size) fun v' w' ho' hg _ => ?_
  obtain ⟨oa, cap, rfl, _⟩ := ho'.form
  have he2 : Ext w w' := he1.grown hg fun k hk => by injection hk with hk; subst hk; exact hb1
  refine Sg ?_
  exact ⟨⟨css, hl, by simpa using ho', hC⟩, he2⟩
end Lite
namespace Go.Proofs.YtbbaokmelkiemaaGreatDoor
open Go Go.RowKit Lite
theorem mnodes_r (v : Value) (xs : List Abs.Node) (w : World) (h : Abs.Nodes w v xs) (hb : Abs.big xs.length 16) :
    Ret Tryz.prog F.model_nodes #[v] w fun v' w' => (∃ oa c, v' = .slice oa xs.length c) ∧ New w (fun w => Abs.Nodes w v' xs) w' ∧ Ext w w' := by
  obtain ⟨_, _, rfl, _⟩ := id h.form
  refine K.start hmix E.model_nodes (args := [_]) (Nat.le_of_ble_eq_true rfl) ?_; dsimp only [C.model_nodes,yt,yi,yb,yp,yr,ye,yc,yv,yg,ym,yw,ya,yl,yx,ys,yn]
  refine Sg ?_
  refine K.call (nclone_r _ xs w h hb) ?_
  rintro _ w1 ⟨⟨o, c, rfl⟩, hn, he⟩
  refine Sg ?_
  exact ⟨⟨_, _, rfl⟩, hn, he⟩
theorem pclone0_r (v : Value) (xs : List Abs.Proc) {w0 : World} (w : World) (h : Abs.Procs w0 v xs) (e0 : Ext w0 w) (hb : Abs.big xs.length 80) :
    Ret Tryz.prog F.slices_Clone_sl_api_Proc_api_Proc #[v] w fun v' w' => (∃ css : List (Cs 5), css.length = xs.length ∧ OwC T.api_Proc 5 w.heap.size w' v' css ∧ ∀ i (h1 : i < css.length) (h2 : i < xs.length), Abs.ProcIs w0 css[i].1 xs[i]) ∧ Ext w w' :=
  clone0_r hmix E.slices_Clone_sl_api_Proc_api_Proc (by kernel_rfl) v xs w h e0 (by unfold Abs.big at hb; omega)
theorem prclone0_r (v : Value) (xs : List Abs.Prp) {w0 : World} (w : World) (h : Abs.Prps w0 v xs) (e0 : Ext w0 w) (hb : Abs.big xs.length 40) :
    Ret Tryz.prog F.slices_Clone_sl_api_Prop_api_Prop #[v] w fun v' w' => (∃ css : List (Cs 2), css.length = xs.length ∧ OwC T.api_Prop 2 w.heap.size w' v' css ∧ ∀ i (h1 : i < css.length) (h2 : i < xs.length), Abs.PrpIs w0 css[i].1 xs[i]) ∧ Ext w w' :=
  clone0_r hmix E.slices_Clone_sl_api_Prop_api_Prop (by kernel_rfl) v xs w h e0 (by unfold Abs.big at hb; omega)
abbrev slv (s : SlP) : Value := .slice s.1 s.2.1 s.2.2
theorem copy_r (cs : List Value) (m : Abs.Model) (w : World) (h : Abs.ModelIs w cs m) (hg : m.good) (hp0 : m.procs = []) :
    Ret Tryz.prog F.model_Copy #[.agg cs.toArray] w fun v w' => (∃ cs', v = .agg cs'.toArray ∧ New w (fun w => Abs.ModelIs w cs' m) w') ∧ Ext w w' := by
  obtain ⟨o0, c0, o1, c1, o2, c2, o3, c3, o4, c4, rfl, h0, h1, h2, h3, h4, l0, l1, l2, l3, l4⟩ := h.form
  refine K.start hmix E.model_Copy (args := [_]) (Nat.le_of_ble_eq_true rfl) ?_; dsimp only [C.model_Copy,yt,yi,yb,yp,yr,ye,yc,yv,yg,ym,yw,ya,yl,yx,ys,yn]
  simp -dsimp only [B9]
  refine Su ?_
  intro w1 b1 hb1 he1 hc1
  refine Su ?_
  intro w2 b2 hb2 he2 hc2
  replace hc1 := he2.obj hc1
  have e2 := he1.trans he2
  have r2 := Ext.refl w2
  have z1 := lt_of_heap hc1
  have z2 := lt_of_heap hc2
  have z3 := he1.size
  have z4 := he2.size
  refine Su ?_
  refine K.cutG [1, 2] (fun b3 => [(3, .pointer (some ⟨b3, 0, none⟩))]) (fun b3 w' => ∃ wa, w2.heap.size ≤ b3 ∧ Ext w2 w' ∧ w.heap.size ≤ wa.heap.size ∧ w2.heap.size ≤ wa.heap.size ∧ Mod (fun i => i = b3) wa w' ∧ ∃ s0 s1 s2 s3 s4 : SlP, w'.heap[b3]? = some (.cells #[slv s0, slv s1, slv s2, slv s3, slv s4] T.api_Model) ∧
    NB w2 b3 (fun w => Abs.Scalars w (slv s0) m.scalars) wa ∧ NB w2 b3 (fun w => Abs.Vars w (slv s1) m.vars) wa ∧ NB w2 b3 (fun w => Abs.Chans w (slv s2) m.chans) wa ∧
    (∃ ps : List (Cs 5), ps.length = m.procs.length ∧ OwC T.api_Proc 5 wa.heap.size w' (slv s3) ps ∧ ∀ i (h1 : i < ps.length) (h2 : i < m.procs.length), Abs.ProcIs w ps[i].1 m.procs[i]) ∧
    (∃ qs : List (Cs 2), qs.length = m.props.length ∧ OwC T.api_Prop 2 wa.heap.size w' (slv s4) qs ∧ ∀ i (h1 : i < qs.length) (h2 : i < m.props.length), Abs.PrpIs w qs[i].1 m.props[i])) ?_ ?_
  · refine Sg ?_
    intro w3 he3
    replace hc1 := he3.obj hc1
    have e3 := e2.trans he3
    have r3 := Ext.refl w3
    have z5 := he3.size
    refine Sg ?_
    refine ⟨?_, ?_⟩
    · refine Sg ?_
      refine K.call (sclone_r _ m.scalars w3 (h0.ext e3) hg.scalars) ?_
      rintro _ w4 ⟨⟨s0, d0, rfl⟩, n0, x⟩
      replace n0 := n0.low (he3.trans r3).size
      have r4 := r3.trans x
      have e4 := e3.trans x
      refine ⟨r4, ?_⟩
      refine Sg ?_
      refine ⟨?_, ?_⟩
      · refine Sg ?_
        refine K.call (vclone_r _ m.vars w4 (h1.ext e4) hg.vars) ?_
        rintro _ w5 ⟨⟨s1, d1, rfl⟩, n1, x⟩
        replace n1 := n1.low (he3.trans r4).size
        replace n0 := n0.ext x (he3.trans r4).size
        have r5 := r4.trans x
        have e5 := e4.trans x
        refine ⟨r5, ?_⟩
        refine Sg ?_
        refine ⟨?_, ?_⟩
        · refine Sg ?_
          refine K.call (chclone_r _ m.chans w5 (h2.ext e5) hg.chans) ?_
          rintro _ w6 ⟨⟨s2, d2, rfl⟩, n2, x⟩
          replace n2 := n2.low (he3.trans r5).size
          replace n0 := n0.ext x (he3.trans r5).size
          replace n1 := n1.ext x (he3.trans r5).size
          have r6 := r5.trans x
          have e6 := e5.trans x
          refine ⟨r6, ?_⟩
          refine Sg ?_
          refine ⟨?_, ?_⟩
          · refine Sg ?_
            have r3a := he3.trans r6
            refine K.call (pclone0_r _ m.procs w6 h3 e6 hg.procs) ?_
            rintro _ w7 ⟨⟨ps, pl, po, pc⟩, x⟩
            obtain ⟨s3, d3, rfl, _⟩ := OwR.form po
            have ya := x
            have r7 := r6.trans x
            have e7 := e6.trans x
            refine ⟨r7, ?_⟩
            refine Sg ?_
            refine ⟨?_, ?_⟩
            · refine Sg ?_
              refine K.call (prclone0_r _ m.props w7 h4 e7 hg.props) ?_
              rintro _ w8 ⟨⟨qs, ql, qo, qc⟩, x⟩
              obtain ⟨s4, d4, rfl, _⟩ := OwR.form qo
              replace qo := OwR.low ya.size qo
              replace ya := ya.trans x
              replace po := po.ext x
              have r8 := r7.trans x
              have e8 := e7.trans x
              refine Sg ?_
              intro w9 b3 hb3 x hc0
              have zw := r8.size
              have zv := e8.size
              have zu := (he3.trans r8).size
              have hb3a := Nat.le_trans ya.size hb3
              replace ya := ya.trans x
              replace po := po.ext x
              replace qo := qo.ext x
              have r9 := r8.trans x
              have e9 := e8.trans x
              refine ⟨r9, ?_⟩
              refine Sg ?_
              refine Sg ?_
              intro w10 hw hc3
              have es := hw.ext (he3.trans r9) (by omega)
              exact ⟨b3, by first | trivial | rfl, w6, by omega, es, e6.size, r3a.size, (Ext.wrm ya hw), (_, _, _), (_, _, _), (_, _, _), (_, _, _), (_, _, _), hc3, n0.at hb3a, n1.at hb3a, n2.at hb3a, ⟨ps, pl, OwC.wrT po hw hc0 (by decide), pc⟩, qs, ql, OwC.wrT qo hw hc0 (by decide), qc⟩
            · refine Sg ?_
              intro w8 b3 hb3 x hc0
              have zw := r7.size
              have zv := e7.size
              have zu := (he3.trans r7).size
              have hb3a := Nat.le_trans ya.size hb3
              replace ya := ya.trans x
              replace po := po.ext x
              have r8 := r7.trans x
              have e8 := e7.trans x
              refine ⟨r8, ?_⟩
              refine Sg ?_
              have zb := lt_of_heap hc0
              refine K.call (prclone0_r _ m.props w8 h4 e8 hg.props) ?_
              rintro _ w9 ⟨⟨qs, ql, qo, qc⟩, x⟩
              obtain ⟨s4, d4, rfl, _⟩ := OwR.form qo
              replace qo := OwR.low ya.size qo
              replace ya := ya.trans x
              replace po := po.ext x
              replace hc0 := x.obj hc0
              have r9 := r8.trans x
              have e9 := e8.trans x
              refine Sg ?_
              refine Sg ?_
              intro w10 hw hc3
              have es := hw.ext (he3.trans r9) (by omega)
              exact ⟨b3, by first | trivial | rfl, w6, by omega, es, e6.size, r3a.size, (Ext.wrm ya hw), (_, _, _), (_, _, _), (_, _, _), (_, _, _), (_, _, _), hc3, n0.at hb3a, n1.at hb3a, n2.at hb3a, ⟨ps, pl, OwC.wrT po hw hc0 (by decide), pc⟩, qs, ql, OwC.wrT qo hw hc0 (by decide), qc⟩
          · refine Sg ?_
            intro w7 b3 hb3 x hc0
            have zw := r6.size
            have zv := e6.size
            have zu := (he3.trans r6).size
            replace n0 := New.box n0 x hb3
            replace n1 := New.box n1 x hb3
            replace n2 := New.box n2 x hb3
            have r7 := r6.trans x
            have e7 := e6.trans x
            refine ⟨r7, ?_⟩
            refine Sg ?_
            have zb := lt_of_heap hc0
            have r3a := he3.trans r7
            refine K.call (pclone0_r _ m.procs w7 h3 e7 hg.procs) ?_
            rintro _ w8 ⟨⟨ps, pl, po, pc⟩, x⟩
            obtain ⟨s3, d3, rfl, _⟩ := OwR.form po
            have ya := x
            replace hc0 := x.obj hc0
            have r8 := r7.trans x
            have e8 := e7.trans x
            refine ⟨r8, ?_⟩
            refine Sg ?_
            have zb := lt_of_heap hc0
            refine K.call (prclone0_r _ m.props w8 h4 e8 hg.props) ?_
            rintro _ w9 ⟨⟨qs, ql, qo, qc⟩, x⟩
            obtain ⟨s4, d4, rfl, _⟩ := OwR.form qo
            replace qo := OwR.low ya.size qo
            replace ya := ya.trans x
            replace po := po.ext x
            replace hc0 := x.obj hc0
            have r9 := r8.trans x
            have e9 := e8.trans x
            refine Sg ?_
            refine Sg ?_
            intro w10 hw hc3
            have es := hw.ext (he3.trans r9) (by omega)
            exact ⟨b3, by first | trivial | rfl, w7, by omega, es, e7.size, r3a.size, (Ext.wrm ya hw), (_, _, _), (_, _, _), (_, _, _), (_, _, _), (_, _, _), hc3, n0, n1, n2, ⟨ps, pl, OwC.wrT po hw hc0 (by decide), pc⟩, qs, ql, OwC.wrT qo hw hc0 (by decide), qc⟩
        · refine Sg ?_
          intro w6 b3 hb3 x hc0
          have zw := r5.size
          have zv := e5.size
          have zu := (he3.trans r5).size
          replace n0 := New.box n0 x hb3
          replace n1 := New.box n1 x hb3
          have r6 := r5.trans x
          have e6 := e5.trans x
          refine ⟨r6, ?_⟩
          refine Sg ?_
          have zb := lt_of_heap hc0
          refine K.call (chclone_r _ m.chans w6 (h2.ext e6) hg.chans) ?_
          rintro _ w7 ⟨⟨s2, d2, rfl⟩, n2, x⟩
          replace n2 := NB.of n2 (he3.trans r6).size zb
          replace n0 := n0.ext x (he3.trans r6).size (by omega)
          replace n1 := n1.ext x (he3.trans r6).size (by omega)
          replace hc0 := x.obj hc0
          have r7 := r6.trans x
          have e7 := e6.trans x
          refine ⟨r7, ?_⟩
          refine Sg ?_
          have zb := lt_of_heap hc0
          have r3a := he3.trans r7
          refine K.call (pclone0_r _ m.procs w7 h3 e7 hg.procs) ?_
          rintro _ w8 ⟨⟨ps, pl, po, pc⟩, x⟩
          obtain ⟨s3, d3, rfl, _⟩ := OwR.form po
          have ya := x
          replace hc0 := x.obj hc0
          have r8 := r7.trans x
          have e8 := e7.trans x
          refine ⟨r8, ?_⟩
          refine Sg ?_
          have zb := lt_of_heap hc0
          refine K.call (prclone0_r _ m.props w8 h4 e8 hg.props) ?_
          rintro _ w9 ⟨⟨qs, ql, qo, qc⟩, x⟩
          obtain ⟨s4, d4, rfl, _⟩ := OwR.form qo
          replace qo := OwR.low ya.size qo
          replace ya := ya.trans x
          replace po := po.ext x
          replace hc0 := x.obj hc0
          have r9 := r8.trans x
          have e9 := e8.trans x
          refine Sg ?_
          refine Sg ?_
          intro w10 hw hc3
          have es := hw.ext (he3.trans r9) (by omega)
          exact ⟨b3, by first | trivial | rfl, w7, by omega, es, e7.size, r3a.size, (Ext.wrm ya hw), (_, _, _), (_, _, _), (_, _, _), (_, _, _), (_, _, _), hc3, n0, n1, n2, ⟨ps, pl, OwC.wrT po hw hc0 (by decide), pc⟩, qs, ql, OwC.wrT qo hw hc0 (by decide), qc⟩
      · refine Sg ?_
        intro w5 b3 hb3 x hc0
        have zw := r4.size
        have zv := e4.size
        have zu := (he3.trans r4).size
        replace n0 := New.box n0 x hb3
        have r5 := r4.trans x
        have e5 := e4.trans x
        refine ⟨r5, ?_⟩
        refine Sg ?_
        have zb := lt_of_heap hc0
        refine K.call (vclone_r _ m.vars w5 (h1.ext e5) hg.vars) ?_
        rintro _ w6 ⟨⟨s1, d1, rfl⟩, n1, x⟩
        replace n1 := NB.of n1 (he3.trans r5).size zb
        replace n0 := n0.ext x (he3.trans r5).size (by omega)
        replace hc0 := x.obj hc0
        have r6 := r5.trans x
        have e6 := e5.trans x
        refine ⟨r6, ?_⟩
        refine Sg ?_
        have zb := lt_of_heap hc0
        refine K.call (chclone_r _ m.chans w6 (h2.ext e6) hg.chans) ?_
        rintro _ w7 ⟨⟨s2, d2, rfl⟩, n2, x⟩
        replace n2 := NB.of n2 (he3.trans r6).size zb
        replace n0 := n0.ext x (he3.trans r6).size (by omega)
        replace n1 := n1.ext x (he3.trans r6).size (by omega)
        replace hc0 := x.obj hc0
        have r7 := r6.trans x
        have e7 := e6.trans x
        refine ⟨r7, ?_⟩
        refine Sg ?_
        have zb := lt_of_heap hc0
        have r3a := he3.trans r7
        refine K.call (pclone0_r _ m.procs w7 h3 e7 hg.procs) ?_
        rintro _ w8 ⟨⟨ps, pl, po, pc⟩, x⟩
        obtain ⟨s3, d3, rfl, _⟩ := OwR.form po
        have ya := x
        replace hc0 := x.obj hc0
        have r8 := r7.trans x
        have e8 := e7.trans x
        refine ⟨r8, ?_⟩
        refine Sg ?_
        have zb := lt_of_heap hc0
        refine K.call (prclone0_r _ m.props w8 h4 e8 hg.props) ?_
        rintro _ w9 ⟨⟨qs, ql, qo, qc⟩, x⟩
        obtain ⟨s4, d4, rfl, _⟩ := OwR.form qo
        replace qo := OwR.low ya.size qo
        replace ya := ya.trans x
        replace po := po.ext x
        replace hc0 := x.obj hc0
        have r9 := r8.trans x
        have e9 := e8.trans x
        refine Sg ?_
        refine Sg ?_
        intro w10 hw hc3
        have es := hw.ext (he3.trans r9) (by omega)
        exact ⟨b3, by first | trivial | rfl, w7, by omega, es, e7.size, r3a.size, (Ext.wrm ya hw), (_, _, _), (_, _, _), (_, _, _), (_, _, _), (_, _, _), hc3, n0, n1, n2, ⟨ps, pl, OwC.wrT po hw hc0 (by decide), pc⟩, qs, ql, OwC.wrT qo hw hc0 (by decide), qc⟩
    · refine Sg ?_
      intro w4 b3 hb3 x hc0
      have zw := r3.size
      have zv := e3.size
      have zu := (he3.trans r3).size
      have r4 := r3.trans x
      have e4 := e3.trans x
      refine ⟨r4, ?_⟩
      refine Sg ?_
      have zb := lt_of_heap hc0
      refine K.call (sclone_r _ m.scalars w4 (h0.ext e4) hg.scalars) ?_
      rintro _ w5 ⟨⟨s0, d0, rfl⟩, n0, x⟩
      replace n0 := NB.of n0 (he3.trans r4).size zb
      replace hc0 := x.obj hc0
      have r5 := r4.trans x
      have e5 := e4.trans x
      refine ⟨r5, ?_⟩
      refine Sg ?_
      have zb := lt_of_heap hc0
      refine K.call (vclone_r _ m.vars w5 (h1.ext e5) hg.vars) ?_
      rintro _ w6 ⟨⟨s1, d1, rfl⟩, n1, x⟩
      replace n1 := NB.of n1 (he3.trans r5).size zb
      replace n0 := n0.ext x (he3.trans r5).size (by omega)
      replace hc0 := x.obj hc0
      have r6 := r5.trans x
      have e6 := e5.trans x
      refine ⟨r6, ?_⟩
      refine Sg ?_
      have zb := lt_of_heap hc0
      refine K.call (chclone_r _ m.chans w6 (h2.ext e6) hg.chans) ?_
      rintro _ w7 ⟨⟨s2, d2, rfl⟩, n2, x⟩
      replace n2 := NB.of n2 (he3.trans r6).size zb
      replace n0 := n0.ext x (he3.trans r6).size (by omega)
      replace n1 := n1.ext x (he3.trans r6).size (by omega)
      replace hc0 := x.obj hc0
      have r7 := r6.trans x
      have e7 := e6.trans x
      refine ⟨r7, ?_⟩
      refine Sg ?_
      have zb := lt_of_heap hc0
      have r3a := he3.trans r7
      refine K.call (pclone0_r _ m.procs w7 h3 e7 hg.procs) ?_
      rintro _ w8 ⟨⟨ps, pl, po, pc⟩, x⟩
      obtain ⟨s3, d3, rfl, _⟩ := OwR.form po
      have ya := x
      replace hc0 := x.obj hc0
      have r8 := r7.trans x
      have e8 := e7.trans x
      refine ⟨r8, ?_⟩
      refine Sg ?_
      have zb := lt_of_heap hc0
      refine K.call (prclone0_r _ m.props w8 h4 e8 hg.props) ?_
      rintro _ w9 ⟨⟨qs, ql, qo, qc⟩, x⟩
      obtain ⟨s4, d4, rfl, _⟩ := OwR.form qo
      replace qo := OwR.low ya.size qo
      replace ya := ya.trans x
      replace po := po.ext x
      replace hc0 := x.obj hc0
      have r9 := r8.trans x
      have e9 := e8.trans x
      refine Sg ?_
      refine Sg ?_
      intro w10 hw hc3
      have es := hw.ext (he3.trans r9) (by omega)
      exact ⟨b3, by first | trivial | rfl, w7, by omega, es, e7.size, r3a.size, (Ext.wrm ya hw), (_, _, _), (_, _, _), (_, _, _), (_, _, _), (_, _, _), hc3, n0, n1, n2, ⟨ps, pl, OwC.wrT po hw hc0 (by decide), pc⟩, qs, ql, OwC.wrT qo hw hc0 (by decide), qc⟩
  · rintro b3 S3 w4 ⟨wa, hb3, e4, za, za2, ma, s0, s1, s2, s3, ⟨o4', n4', d4'⟩, hc3, n0, n1, n2, ⟨ps, pl, po, pc⟩, qs, ql, qo, qc⟩
    obtain ⟨_, _, ev, _, _⟩ := OwR.form qo
    unfold slv at ev
    injection ev with e1 e2' e3
    obtain ⟨_, _, ev, _, _⟩ := OwR.form po
    unfold slv at ev
    injection ev with e5 e6 e7
    dsimp only at e2' e6
    subst e2'
    have e6' : s3.2.1 = 0 := by rw [e6, pl, hp0]; rfl
    replace hc1 := e4.obj hc1
    replace hc2 := e4.obj hc2
    unfold slv at hc3
    obtain ⟨o3', n3', d3'⟩ := s3
    dsimp only at e6' hc3
    subst e6'
    obtain rfl : ps = [] := List.eq_nil_of_length_eq_zero (by rw [pl, hp0]; rfl)
    have hc3' := hc3
    have hc2' := hc2
    refine Sg ?_
    refine K.forG 29 0 [1, 2, 3, 28] (fun _ => []) () (fun k _ w' => w' = w4) (by first | trivial | rfl | exact ⟨rfl, trivial⟩ | (simp -dsimp only [LL,slots_nil,slots_cons,keepV_nil,keepV_cons,has_nil,has_cons,Nat.reduceAdd,Nat.reduceEqDiff,reduceIte,and_self]; done) | (simp -dsimp only [LL,slots_nil,slots_cons,keepV_nil,keepV_cons,has_nil,has_cons,Nat.reduceAdd,Nat.reduceEqDiff,reduceIte,and_self]; exact ⟨rfl, trivial⟩)) (by first | trivial | rfl | exact ⟨rfl, trivial⟩ | (simp -dsimp only [LL,slots_nil,slots_cons,keepV_nil,keepV_cons,has_nil,has_cons,Nat.reduceAdd,Nat.reduceEqDiff,reduceIte,and_self]; done) | (simp -dsimp only [LL,slots_nil,slots_cons,keepV_nil,keepV_cons,has_nil,has_cons,Nat.reduceAdd,Nat.reduceEqDiff,reduceIte,and_self]; exact ⟨rfl, trivial⟩)) rfl ?_
    rintro k _ S w5 hk rfl
    refine Sg ?_
    refine K.forG 128 qs.length [1, 2, 3, 127] (fun _ : List (Cs 2) => []) qs (fun k x w' => Mod (fun i => (slv (o4', qs.length, d4')).ownBlock = some i) w5 w' ∧ x.length = qs.length ∧ OwC T.api_Prop 2 wa.heap.size w' (slv (o4', qs.length, d4')) x ∧
      (∀ i (h1 : i < x.length) (h2 : i < m.props.length), i < k → Stab (fun j => j < w5.heap.size) (fun w => Abs.PrpIs w x[i].1 m.props[i]) w') ∧ (∀ i (h1 : i < x.length) (h2 : i < m.props.length), k ≤ i → Abs.PrpIs w x[i].1 m.props[i])) (by first | trivial | rfl | exact ⟨rfl, trivial⟩ | (simp -dsimp only [LL,slots_nil,slots_cons,keepV_nil,keepV_cons,has_nil,has_cons,Nat.reduceAdd,Nat.reduceEqDiff,reduceIte,and_self]; done) | (simp -dsimp only [LL,slots_nil,slots_cons,keepV_nil,keepV_cons,has_nil,has_cons,Nat.reduceAdd,Nat.reduceEqDiff,reduceIte,and_self]; exact ⟨rfl, trivial⟩)) (by first | trivial | rfl | exact ⟨rfl, trivial⟩ | (simp -dsimp only [LL,slots_nil,slots_cons,keepV_nil,keepV_cons,has_nil,has_cons,Nat.reduceAdd,Nat.reduceEqDiff,reduceIte,and_self]; done) | (simp -dsimp only [LL,slots_nil,slots_cons,keepV_nil,keepV_cons,has_nil,has_cons,Nat.reduceAdd,Nat.reduceEqDiff,reduceIte,and_self]; exact ⟨rfl, trivial⟩)) ⟨Mod.refl _ _, rfl, qo, fun _ _ _ h => absurd h (Nat.not_lt_zero _), fun i h1 h2 _ => qc i h1 h2⟩ ?_
    clear hc1 hc2 hc3
    rintro k x S w6 hk ⟨m6, xl, xo, xn, xc⟩
    have hown : ∀ i, (slv (o4', qs.length, d4')).ownBlock = some i → wa.heap.size ≤ i ∧ ∃ cur, w5.heap[i]? = some (.cells cur T.api_Prop) := fun i hi => ⟨(OwR.lt qo i hi).1, OwR.blk qo i hi⟩
    have hno : ∀ {i : Nat} {c : Array Value} {t : TypeId}, w5.heap[i]? = some (.cells c t) → t ≠ T.api_Prop → w6.heap[i]? = some (.cells c t) := fun {i} {c} {t} hi ht => m6.obj (fun e => by
      obtain ⟨cur, h1⟩ := (hown i e).2
      rw [hi] at h1
      injection h1 with h1
      injection h1 with _ h1
      exact ht h1) hi
    have hc3 := hno hc3' (by decide)
    have hc2 := hno hc2' (by decide)
    have e6 : Ext w w6 := m6.ext (e2.trans e4) fun i hi e => by have := (hown i e).1; omega
    refine Sg ?_
    refine K.cond (fun g1 => ?_) (fun g1 => ?_)
    · have hk' : k < qs.length := by omega
      obtain ⟨a, rfl⟩ : ∃ a, o4' = some a := by
        cases o4' with
        | some a => exact ⟨a, rfl⟩
        | none => rcases qo.2 with ⟨_, h0⟩ | ⟨_, _, _, h1, _⟩
                  · omega
                  · cases h1
      obtain ⟨hsn, ve, hxe, hve⟩ := xc k (by omega) (by omega) (Nat.le_refl _)
      have hce := OwC.at xo (i := k) (by omega)
      rw [hxe] at hce
      obtain ⟨ov, cv, rfl, _⟩ := hve.form
      unfold slv at xo
      refine Sg ?_
      intro w7 he7
      replace hc3 := he7.obj hc3
      replace hce := hce.ext he7
      have e7 := e6.trans he7
      have zb := (hown a.block rfl).1
      have zc := lt_of_heap (hown a.block rfl).2.choose_spec
      have zd := m6.size
      have ze := he7.size
      refine Sg ?_
      refine K.call (mnodes_r _ m.props[k].expr w7 (hve.ext e7) (hg.prop _ (List.getElem_mem _)).expr) ?_
      rintro _ w8 ⟨⟨o8, d8, rfl⟩, n8, he8⟩
      refine ⟨he8, ?_⟩
      refine Sg ?_
      refine K.stO ((xo.ext he7).ext he8) (by omega) (by decide) rfl fun w9 hw9 xo9 => ?_
      have e9 := hw9.ext (e7.trans he8) (by omega)
      have m9 : Mod (fun i => (slv (some a, qs.length, d4')).ownBlock = some i) w6 w9 := (Ext.wrm (he7.trans he8) hw9).mono fun i e => by subst e; rfl
      refine Sg ?_
      refine ⟨hk', by first | trivial | rfl, _, trivial, m6.trans m9, by rw [List.length_set]; exact xl, xo9, fun i h1 h2 hik => ?_, fun i h1 h2 hik => ?_⟩
      · by_cases hi : i = k
        · subst hi
          rw [List.getElem_set_self]
          have n9 := n8.wr hw9 (by omega)
          refine (n9.mono fun j _ hj => by omega).imp fun W hW => ⟨hsn, _, ?_, hW⟩
          simp only [Cs.put, hxe, Abs.Prp.enc, List.set_cons_succ, List.set_cons_zero]
        · rw [List.length_set] at h1
          rw [List.getElem_set_ne (by omega)]
          exact (xn i h1 h2 (by omega)).move m9 (fun j hj e => by injection e with e; omega) fun _ _ h => h
      · rw [List.length_set] at h1
        rw [List.getElem_set_ne (by omega)]
        exact xc i h1 h2 (by omega)
    · have hkl : qs.length ≤ k := by omega
      refine Sg ?_
      intro w7 hw7 hc7
      have e7 := hw7.ext e6 (by omega)
      refine Sg ?_
      refine ⟨⟨_, rfl, ?_⟩, e7⟩
      intro W mW
      have M1 : Mod (fun i => i < w2.heap.size ∨ i = b3) wa w6 := ma.comp m6 (fun i _ e => .inr e) fun i hi e => by have := (hown i e).1; omega
      have M2 : Mod (fun i => i < w2.heap.size ∨ i = b3) wa w7 := M1.comp (hw7.mod (A := fun i => i = b2) rfl) (fun _ _ h => h) fun i hi e => by omega
      have M3 : Mod (fun i => i < w2.heap.size ∨ i = b3) wa W := M2.comp mW (fun _ _ h => h) fun i hi e => by omega
      have M4 : Mod (fun i => i < w2.heap.size) w6 W := (hw7.mod (A := fun i => i = b2) rfl).comp mW (fun i _ e => by omega) fun i _ e => by omega
      have z5 := m6.size
      have z6 := ma.size
      refine ⟨⟨_, _, _, _, _, rfl, n0 W M3, n1 W M3, n2 W M3, ?_, ?_⟩⟩
      · obtain ⟨oa, cap, e, h1, h2, _⟩ := (OwR.slr encC_len po).ex
        rw [hp0]
        exact ⟨oa, cap, e, h1, h2, fun h => absurd rfl h, fun a _ i hi => absurd hi (Nat.not_lt_zero _)⟩
      · have x1 := OwR.mod xo M4 fun i hi e => by have := (OwR.lt xo i hi).1; omega
        have x2 := OwR.slr encC_len x1
        refine SlR.ofCells (R := Abs.RPrp) (by omega) x2 fun i h1 h2 => xn i h1 h2 (by omega) W (M4.mono fun i e => by omega)
end Go.Proofs.YtbbaokmelkiemaaGreatDoor
end
section
/- Plain: whole models. No program in sight. -/
namespace Abs
open Go
structure Fault where
  why : Int
  part : Int
  item : Int
  sub : Int
deriving DecidableEq
def fine : Fault := ⟨0, 0, 0, 0⟩
abbrev nS (m : Model) : List ByteArray := m.scalars.map (·.name)
abbrev nV (m : Model) (i : Nat) : List ByteArray := (m.vars.take i).map (·.name)
abbrev nC (m : Model) (i : Nat) : List ByteArray := (m.chans.take i).map (·.name)
abbrev nP (m : Model) (i : Nat) : List ByteArray := (m.procs.take i).map (·.name)
abbrev nR (m : Model) (i : Nat) : List ByteArray := (m.props.take i).map (·.name)
abbrev nSV (m : Model) (i : Nat) : List ByteArray := nS m ++ nV m i
abbrev nSVC (m : Model) (i : Nat) : List ByteArray := nSV m m.vars.length ++ nC m i
abbrev nSVCP (m : Model) (i : Nat) : List ByteArray := nSVC m m.chans.length ++ nP m i
abbrev nAll (m : Model) (i : Nat) : List ByteArray := nSVCP m m.procs.length ++ nR m i
def verr (m : Model) : Nat → Int := err 12 (nameAt (·.name) m.vars) (varErr m.vars m.scalars)
def cerr (m : Model) : Nat → Int := err 4 (nameAt (·.name) m.chans) (chanErr m.chans m.scalars)
def evar (m : Model) (i : Nat) : Int := if verr m i ≠ 0 then verr m i else if nameAt (·.name) m.vars i ∈ nSV m i then 7 else 0
def echan (m : Model) (i : Nat) : Int := if cerr m i ≠ 0 then cerr m i else if nameAt (·.name) m.chans i ∈ nSVC m i then 7 else 0
def elocs (m : Model) (p : Proc) (k : Nat) : Int := if nameAt (·.name) p.vars k ∈ nSVCP m m.procs.length then 7 else 0
def eproc (m : Model) (i : Nat) : Int × Int :=
  match m.procs[i]? with
  | none => (0, 0)
  | some p => if 6 ≤ i then (11, 0)
    else if (procCheck p (pscope m i)).2.2 ≠ 0 then ((procCheck p (pscope m i)).2.2, 16 * (procCheck p (pscope m i)).1 + (procCheck p (pscope m i)).2.1)
    else if p.name ∈ nSVCP m i then (7, 0)
    else if (first p.vars.length (elocs m p)).2 ≠ 0 then (7, 16 + (first p.vars.length (elocs m p)).1)
    else (0, 0)
def pinsts (m : Model) (p : Proc) : Int := if p.over = 0 then 1 else size p.over m.scalars
def sumI (l : List Int) : Int := l.foldl (· + ·) 0
def ccap (c : Chan) : Int := 1 + min (max c.cap 0) 4
def pieces (m : Model) : Int × Int × Int :=
  (sumI (m.procs.map (pinsts m)), sumI (m.procs.map fun p => pinsts m p * p.cmds.length),
   sumI (m.vars.map (fun v => cells v m.scalars)) + sumI (m.chans.map ccap) + sumI (m.procs.map fun p => pinsts m p * (1 + p.vars.length)))
def eprop (m : Model) (i : Nat) : Int :=
  match m.props[i]? with
  | none => 0
  | some p => if 8 ≤ i then 11 else if isName p.name = false then 6 else if p.name ∈ nAll m i then 7
    else if (kind p.expr (mscope m)).2 ≠ 0 then (kind p.expr (mscope m)).2 else if (kind p.expr (mscope m)).1 ≠ 1 then 9 else 0
def data (m : Model) : Fault :=
  if (scalars m.scalars).2 ≠ 0 then ⟨(scalars m.scalars).2, 1, (scalars m.scalars).1, 0⟩
  else if (first m.vars.length (evar m)).2 ≠ 0 then ⟨(first m.vars.length (evar m)).2, 2, (first m.vars.length (evar m)).1, 0⟩
  else if (first m.chans.length (echan m)).2 ≠ 0 then ⟨(first m.chans.length (echan m)).2, 3, (first m.chans.length (echan m)).1, 0⟩
  else fine
def procsF (m : Model) : Fault :=
  if (first m.procs.length fun i => (eproc m i).1).2 ≠ 0 then ⟨(first m.procs.length fun i => (eproc m i).1).2, 4, (first m.procs.length fun i => (eproc m i).1).1, (eproc m (first m.procs.length fun i => (eproc m i).1).1.toNat).2⟩
  else if 12 < (pieces m).1 ∨ 64 < (pieces m).2.2 then ⟨11, 4, m.procs.length, 0⟩ else fine
def propsF (m : Model) : Fault := if (first m.props.length (eprop m)).2 ≠ 0 then ⟨(first m.props.length (eprop m)).2, 5, (first m.props.length (eprop m)).1, 0⟩ else fine
def check (m : Model) : Fault := if (data m).why ≠ 0 then data m else if (procsF m).why ≠ 0 then procsF m else propsF m

theorem nameAt_get {α : Type} {f : α → ByteArray} {l : List α} {i : Nat} (h : i < l.length) : nameAt f l i = f l[i] := by
  unfold nameAt; rw [List.getElem?_eq_getElem h]; rfl
theorem min_exists {p : Nat → Prop} (h : ∃ j, p j) : ∃ i, p i ∧ ∀ k, p k → i ≤ k := by
  obtain ⟨j, hj⟩ := h
  induction j using Nat.strongRecOn with
  | _ j ih =>
    by_cases hx : ∃ k, k < j ∧ p k
    · obtain ⟨k, hk, hp⟩ := hx; exact ih k hk hp
    · exact ⟨j, hj, fun k hp => Nat.le_of_not_lt fun hlt => hx ⟨k, hlt, hp⟩⟩
theorem first_zero {n : Nat} {e : Nat → Int} (h : (first n e).2 = 0) : ∀ j, j < n → e j = 0 := by
  intro j hj
  apply Classical.byContradiction
  intro hn
  obtain ⟨i, hi, h1⟩ := min_exists (p := fun j => j < n ∧ e j ≠ 0) ⟨j, hj, hn⟩
  rw [first_stop hi.1 (fun k hk => by
    apply Classical.byContradiction
    intro hne
    exact absurd (h1 k ⟨by omega, hne⟩) (by omega)) hi.2] at h
  exact hi.2 h
/-- What is told is told of a place that is there. -/
theorem first_lt {n : Nat} {e : Nat → Int} (h : (first n e).2 ≠ 0) : ∃ i, i < n ∧ (first n e).1 = (i : Int) ∧ (first n e).2 = e i := by
  unfold first at h ⊢
  split at h
  · rename_i i hi
    rw [List.find?_range_eq_some] at hi
    exact ⟨i, by simpa using hi.2.1, rfl, rfl⟩
  · exact absurd rfl h
theorem vars_eq (m : Model) : vars m.vars m.scalars 12 = first m.vars.length (verr m) := rfl
theorem chans_eq (m : Model) : chans m.chans m.scalars = first m.chans.length (cerr m) := rfl
theorem verr_of {m : Model} {i : Nat} (h : evar m i = 0) : verr m i = 0 := by
  apply Classical.byContradiction
  intro hn
  unfold evar at h
  rw [if_pos hn] at h
  exact hn h
theorem cerr_of {m : Model} {i : Nat} (h : echan m i = 0) : cerr m i = 0 := by
  apply Classical.byContradiction
  intro hn
  unfold echan at h
  rw [if_pos hn] at h
  exact hn h
theorem evar_lt {m : Model} {i : Nat} (h : evar m i = 0) : i < 12 := by
  have h := verr_of h
  unfold verr err at h
  split at h
  · cases h
  · omega
theorem echan_lt {m : Model} {i : Nat} (h : echan m i = 0) : i < 4 := by
  have h := cerr_of h
  unfold cerr err at h
  split at h
  · cases h
  · omega
theorem eproc_lt {m : Model} {i : Nat} (hi : i < m.procs.length) (h : (eproc m i).1 = 0) : i < 6 := by
  unfold eproc at h
  rw [List.getElem?_eq_getElem hi] at h
  simp only at h
  split at h
  · cases h
  · omega
theorem scalars_lt {m : Model} (h : (scalars m.scalars).2 = 0) : m.scalars.length ≤ 2 := by
  unfold scalars at h
  have := first_zero h
  apply Classical.byContradiction
  intro hn
  have h2 := this 2 (by omega)
  unfold err at h2
  rw [if_pos (by omega)] at h2
  cases h2
theorem size_le (k : Int) (s : List Scalar) : 0 ≤ size k s ∧ size k s ≤ 4 := by
  unfold size
  split
  · split <;> omega
  · omega
theorem cells_le (v : Var) (s : List Scalar) : 0 ≤ cells v s ∧ cells v s ≤ 4 := by
  have := size_le v.over s
  unfold cells
  split <;> omega
theorem pinsts_le (m : Model) (p : Proc) : 0 ≤ pinsts m p ∧ pinsts m p ≤ 4 := by
  have := size_le p.over m.scalars
  unfold pinsts
  split <;> omega
theorem ccap_le (c : Chan) : 1 ≤ ccap c ∧ ccap c ≤ 5 := by unfold ccap; omega
theorem sumI_snoc (l : List Int) (x : Int) : sumI (l ++ [x]) = sumI l + x := by unfold sumI; simp
theorem sumI_take {α : Type} (f : α → Int) (l : List α) {k : Nat} (h : k < l.length) : sumI ((l.take (k + 1)).map f) = sumI ((l.take k).map f) + f l[k] := by
  rw [List.take_succ_eq_append_getElem h, List.map_append, List.map_cons, List.map_nil, sumI_snoc]
theorem sumI_le {α : Type} (f : α → Int) (B : Int) (hB : 0 ≤ B) : ∀ (l : List α), (∀ x ∈ l, 0 ≤ f x ∧ f x ≤ B) → 0 ≤ sumI (l.map f) ∧ sumI (l.map f) ≤ B * l.length := by
  have key : ∀ (l : List α) (a : Int), (∀ x ∈ l, 0 ≤ f x ∧ f x ≤ B) → a ≤ (l.map f).foldl (· + ·) a ∧ (l.map f).foldl (· + ·) a ≤ a + B * l.length := by
    intro l
    induction l with
    | nil => intro a _; simp
    | cons x r ih =>
      intro a h
      have hx := h x (by simp)
      obtain ⟨h1, h2⟩ := ih (a + f x) fun y hy => h y (by simp [hy])
      simp only [List.map_cons, List.foldl_cons, List.length_cons]
      rw [Int.natCast_succ, Int.mul_add]
      omega
  intro l h
  obtain ⟨h1, h2⟩ := key l 0 h
  unfold sumI
  omega
end Abs
namespace Abs
theorem data_s {m : Model} (h : (scalars m.scalars).2 ≠ 0) : data m = ⟨(scalars m.scalars).2, 1, (scalars m.scalars).1, 0⟩ := by unfold data; rw [if_pos h]
theorem data_v {m : Model} (hs : (scalars m.scalars).2 = 0) {i : Nat} (hi : i < m.vars.length) (hz : ∀ j, j < i → evar m j = 0) (h : evar m i ≠ 0) : data m = ⟨evar m i, 2, i, 0⟩ := by
  unfold data
  rw [if_neg (by simpa using hs), first_stop hi hz h, if_pos h]
theorem data_c {m : Model} (hs : (scalars m.scalars).2 = 0) (hv : ∀ j, j < m.vars.length → evar m j = 0) {i : Nat} (hi : i < m.chans.length) (hz : ∀ j, j < i → echan m j = 0) (h : echan m i ≠ 0) : data m = ⟨echan m i, 3, i, 0⟩ := by
  unfold data
  rw [if_neg (by simpa using hs), first_none hv, if_neg (by simp), first_stop hi hz h, if_pos h]
theorem data_0 {m : Model} (hs : (scalars m.scalars).2 = 0) (hv : ∀ j, j < m.vars.length → evar m j = 0) (hc : ∀ j, j < m.chans.length → echan m j = 0) : data m = fine := by
  unfold data
  rw [if_neg (by simpa using hs), first_none hv, if_neg (by simp), first_none hc, if_neg (by simp)]
theorem data_ok {m : Model} (h : (data m).why = 0) : (scalars m.scalars).2 = 0 ∧ (∀ j, j < m.vars.length → evar m j = 0) ∧ (∀ j, j < m.chans.length → echan m j = 0) := by
  unfold data at h
  by_cases h1 : (scalars m.scalars).2 = 0
  · rw [if_neg (by simpa using h1)] at h
    by_cases h2 : (first m.vars.length (evar m)).2 = 0
    · rw [if_neg (by simpa using h2)] at h
      by_cases h3 : (first m.chans.length (echan m)).2 = 0
      · exact ⟨h1, first_zero h2, first_zero h3⟩
      · rw [if_pos h3] at h; exact absurd h h3
    · rw [if_pos h2] at h; exact absurd h h2
  · rw [if_pos h1] at h; exact absurd h h1
/-- What has no fault is not great. -/
theorem data_few {m : Model} (h : (data m).why = 0) : m.scalars.length ≤ 2 ∧ m.vars.length ≤ 12 ∧ m.chans.length ≤ 4 := by
  obtain ⟨h1, h2, h3⟩ := data_ok h
  refine ⟨scalars_lt h1, ?_, ?_⟩
  · apply Classical.byContradiction
    intro hn
    have := evar_lt (h2 12 (by omega))
    omega
  · apply Classical.byContradiction
    intro hn
    have := echan_lt (h3 4 (by omega))
    omega
theorem procs_i {m : Model} {i : Nat} (hi : i < m.procs.length) (hz : ∀ j, j < i → (eproc m j).1 = 0) (h : (eproc m i).1 ≠ 0) : procsF m = ⟨(eproc m i).1, 4, i, (eproc m i).2⟩ := by
  unfold procsF
  rw [first_stop (e := fun i => (eproc m i).1) hi hz h]
  simp only
  rw [if_pos h]
  simp
theorem procs_all {m : Model} (hz : ∀ j, j < m.procs.length → (eproc m j).1 = 0) : procsF m = if 12 < (pieces m).1 ∨ 64 < (pieces m).2.2 then ⟨11, 4, m.procs.length, 0⟩ else fine := by
  unfold procsF
  rw [first_none (e := fun i => (eproc m i).1) hz, if_neg (by simp)]
theorem procs_ok {m : Model} (h : (procsF m).why = 0) : (∀ j, j < m.procs.length → (eproc m j).1 = 0) ∧ (pieces m).1 ≤ 12 ∧ (pieces m).2.2 ≤ 64 := by
  by_cases h1 : (first m.procs.length fun i => (eproc m i).1).2 = 0
  · have hz := first_zero h1
    rw [procs_all hz] at h
    refine ⟨hz, ?_⟩
    by_cases h2 : 12 < (pieces m).1 ∨ 64 < (pieces m).2.2
    · rw [if_pos h2] at h; cases h
    · omega
  · unfold procsF at h
    rw [if_pos h1] at h; exact absurd h h1
theorem props_i {m : Model} {i : Nat} (hi : i < m.props.length) (hz : ∀ j, j < i → eprop m j = 0) (h : eprop m i ≠ 0) : propsF m = ⟨eprop m i, 5, i, 0⟩ := by
  unfold propsF
  rw [first_stop hi hz h, if_pos h]
theorem props_0 {m : Model} (hz : ∀ j, j < m.props.length → eprop m j = 0) : propsF m = fine := by
  unfold propsF
  rw [first_none hz, if_neg (by simp)]
theorem props_ok {m : Model} (h : (propsF m).why = 0) : ∀ j, j < m.props.length → eprop m j = 0 := by
  by_cases h1 : (first m.props.length (eprop m)).2 = 0
  · exact first_zero h1
  · unfold propsF at h
    rw [if_pos h1] at h; exact absurd h h1
theorem take_snocN {α : Type} (f : α → ByteArray) (l : List α) {k : Nat} (h : k < l.length) : (l.take (k + 1)).map f = (l.take k).map f ++ [f l[k]] := by
  rw [List.take_succ_eq_append_getElem h, List.map_append]; rfl
end Abs
namespace Abs
theorem eproc_get {m : Model} {i : Nat} (hi : i < m.procs.length) : eproc m i = if 6 ≤ i then (11, 0)
    else if (procCheck m.procs[i] (pscope m i)).2.2 ≠ 0 then ((procCheck m.procs[i] (pscope m i)).2.2, 16 * (procCheck m.procs[i] (pscope m i)).1 + (procCheck m.procs[i] (pscope m i)).2.1)
    else if m.procs[i].name ∈ nSVCP m i then (7, 0)
    else if (first m.procs[i].vars.length (elocs m m.procs[i])).2 ≠ 0 then (7, 16 + (first m.procs[i].vars.length (elocs m m.procs[i])).1)
    else (0, 0) := by
  unfold eproc
  rw [List.getElem?_eq_getElem hi]
theorem eprop_get {m : Model} {i : Nat} (hi : i < m.props.length) : eprop m i = if 8 ≤ i then 11 else if isName m.props[i].name = false then 6 else if m.props[i].name ∈ nAll m i then 7
    else if (kind m.props[i].expr (mscope m)).2 ≠ 0 then (kind m.props[i].expr (mscope m)).2 else if (kind m.props[i].expr (mscope m)).1 ≠ 1 then 9 else 0 := by
  unfold eprop
  rw [List.getElem?_eq_getElem hi]
theorem first_in (n : Nat) (e : Nat → Int) : 0 ≤ (first n e).1 ∧ (first n e).1 ≤ n := by
  unfold first
  split
  · rename_i i hi
    rw [List.find?_range_eq_some] at hi
    have := hi.2.1
    simp at this
    constructor <;> simp <;> omega
  · simp
theorem localsE_in (s : Scope) : ∀ (l : List Var) (i : Nat), 0 ≤ (localsE s l i).1 ∧ (localsE s l i).1 ≤ i + l.length
  | [], i => by first | (simp [localsE]; done) | (simp [localsE]; omega)
  | v :: r, i => by
    have := localsE_in s r (i + 1)
    unfold localsE
    split
    · simp; omega
    · split
      · simp; omega
      · simp only [List.length_cons]; omega
theorem plocals_in (p : Proc) (s : Scope) : 0 ≤ (plocals p s).1 ∧ (plocals p s).1 ≤ p.vars.length := by
  unfold plocals
  split
  · exact first_in _ _
  · have := localsE_in s p.vars 0; omega
theorem actsE_in (s : Scope) : ∀ (l : List Act) (i : Nat) (t : Bool), 0 ≤ (actsE s l i t).1 ∧ (actsE s l i t).1 ≤ 2 + i + l.length
  | [], i, t => by first | (simp [actsE]; done) | (simp [actsE]; omega)
  | a :: r, i, t => by
    have := actsE_in s r (i + 1) (t || talks a)
    unfold actsE
    split
    · simp; omega
    · split
      · simp; omega
      · simp only [List.length_cons]; omega
theorem cmdCheck_in (c : Cmd) (locs : Int) (s : Scope) : 0 ≤ (cmdCheck c locs s).1 ∧ (cmdCheck c locs s).1 ≤ 2 + c.acts.length := by
  unfold cmdCheck
  split
  · simp; omega
  · split
    · simp; omega
    · have := actsE_in s c.acts 0 false; omega
theorem cmdsE_in (own : Scope) (locs : Int) (all : List Cmd) (B : Nat) : ∀ (l : List Cmd) (i : Nat), (∀ c ∈ l, c.acts.length ≤ B) → 0 ≤ (cmdsE own locs all l i).1 ∧ (cmdsE own locs all l i).1 ≤ 2 + i + l.length ∧ 0 ≤ (cmdsE own locs all l i).2.1 ∧ (cmdsE own locs all l i).2.1 ≤ 2 + B
  | [], i, _ => by first | (simp [cmdsE]; done) | (simp [cmdsE]; omega)
  | c :: r, i, h => by
    have h1 := cmdsE_in own locs all B r (i + 1) fun x hx => h x (by simp [hx])
    have h2 := cmdCheck_in c locs own
    have h3 := h c (by simp)
    unfold cmdsE
    split
    · simp only [List.length_cons]; omega
    · split
      · simp only [List.length_cons]; omega
      · simp only [List.length_cons]; omega
theorem procCheck_in (p : Proc) (s : Scope) (B : Nat) (h : ∀ c ∈ p.cmds, c.acts.length ≤ B) : 0 ≤ (procCheck p s).1 ∧ (procCheck p s).1 ≤ 2 + p.cmds.length ∧ 0 ≤ (procCheck p s).2.1 ∧ (procCheck p s).2.1 ≤ 2 + B + p.vars.length := by
  unfold procCheck
  split
  · simp; omega
  · split
    · have := plocals_in p s
      simp only; omega
    · have := cmdsE_in (inner p s) p.locs p.cmds B p.cmds 0 h
      omega
theorem procCheck_few {p : Proc} {s : Scope} (h : (procCheck p s).2.2 = 0) : p.vars.length ≤ 4 ∧ p.cmds.length ≤ 12 ∧ whole p s = 0 ∧ (plocals p s).2 = 0 ∧ (cmdsE (inner p s) p.locs p.cmds p.cmds 0).2.2 = 0 := by
  unfold procCheck at h
  by_cases h1 : whole p s = 0
  · rw [if_neg (by simpa using h1)] at h
    by_cases h2 : (plocals p s).2 = 0
    · rw [if_neg (by simpa using h2)] at h
      refine ⟨?_, ?_, h1, h2, h⟩
      · have h3 : (vars p.vars s.scalars 4).2 = 0 := by
          apply Classical.byContradiction
          intro hn
          unfold plocals at h2
          rw [if_pos hn] at h2
          exact hn h2
        apply Classical.byContradiction
        intro hn
        have h4 := first_zero h3 4 (by omega)
        unfold err at h4
        rw [if_pos (by decide)] at h4
        cases h4
      · apply Classical.byContradiction
        intro hn
        unfold whole at h1
        split at h1
        · cases h1
        · split at h1
          · cases h1
          · split at h1
            · cases h1
            · rw [if_pos (by omega)] at h1; cases h1
    · rw [if_pos h2] at h; exact absurd h h2
  · rw [if_pos h1] at h; exact absurd h h1
theorem eproc_ok {m : Model} {i : Nat} (hi : i < m.procs.length) (h : (eproc m i).1 = 0) : i < 6 ∧ (procCheck m.procs[i] (pscope m i)).2.2 = 0 ∧ ¬ m.procs[i].name ∈ nSVCP m i ∧ (first m.procs[i].vars.length (elocs m m.procs[i])).2 = 0 := by
  rw [eproc_get hi] at h
  split at h
  · cases h
  · split at h
    · rename_i h1 h2; exact absurd h h2
    · split at h
      · cases h
      · split at h
        · cases h
        · rename_i h1 h2 h3 h4
          exact ⟨by omega, by simpa using h2, h3, by simpa using h4⟩
end Abs
end
section
/- Lite: maps that are sets of names; a range over one. -/
set_option maxRecDepth 4000
namespace Lite
open Go Go.RowKit
def seenS (l : List ByteArray) : List (ByteArray × Value) := l.map fun x => (x, .bool true)
theorem seenS_find (l : List ByteArray) (x : ByteArray) : ((seenS l).find? (fun p => decide (x = p.1))).map (·.2) = if x ∈ l then some (.bool true) else none := by
  induction l with
  | nil => rfl
  | cons y l ih =>
    simp only [seenS, List.map_cons, List.find?_cons, List.mem_cons]
    by_cases h : x = y
    · simp [h]
    · simp only [h, decide_false, false_or]
      exact ih
/-- Entries that are a set of names. -/
structure MapS (es : Array MapEntry) (c : Nat) (L : List ByteArray) : Prop where
  kv : ∃ l, KV Value.string es.toList (seenS l) ∧ ∀ x, x ∈ l ↔ x ∈ L
  born : ∀ e ∈ es.toList, e.born < c
  nodup : (es.toList.map (·.born)).Nodup
theorem KV.mem {l : List ByteArray} : ∀ {es : List MapEntry}, KV Value.string es (seenS l) → ∀ e ∈ es, ∃ x ∈ l, e.key = .string x ∧ e.val = .bool true := by
  induction l with
  | nil => intro es h e he; cases es with | nil => cases he | cons _ _ => simp [KV, seenS] at h
  | cons y l ih =>
    intro es h e he
    cases es with
    | nil => cases he
    | cons f es =>
      simp only [KV, seenS, List.map_cons, List.cons.injEq, Prod.mk.injEq] at h
      rcases List.mem_cons.1 he with rfl | he
      · exact ⟨y, by simp, h.1.1, h.1.2⟩
      · obtain ⟨x, hx, h2⟩ := ih (es := es) h.2 e he
        exact ⟨x, by simp [hx], h2⟩
theorem KV.of_mem {l : List ByteArray} : ∀ {es : List MapEntry}, KV Value.string es (seenS l) → ∀ x ∈ l, ∃ e ∈ es, e.key = .string x := by
  induction l with
  | nil => intro es h x hx; cases hx
  | cons y l ih =>
    intro es h x hx
    cases es with
    | nil => simp [KV, seenS] at h
    | cons f es =>
      simp only [KV, seenS, List.map_cons, List.cons.injEq, Prod.mk.injEq] at h
      rcases List.mem_cons.1 hx with rfl | hx
      · exact ⟨f, by simp, h.1.1⟩
      · obtain ⟨e, he, h2⟩ := ih (es := es) h.2 x hx
        exact ⟨e, by simp [he], h2⟩
theorem MapS.mem {es : Array MapEntry} {c : Nat} {L : List ByteArray} (h : MapS es c L) : ∀ e ∈ es.toList, ∃ x ∈ L, e.key = .string x ∧ e.val = .bool true := fun e he => by
  obtain ⟨l, h1, h2⟩ := h.kv
  obtain ⟨x, hx, h3⟩ := h1.mem e he
  exact ⟨x, (h2 x).1 hx, h3⟩
theorem MapS.of_mem {es : Array MapEntry} {c : Nat} {L : List ByteArray} (h : MapS es c L) : ∀ x ∈ L, ∃ e ∈ es.toList, e.key = .string x := fun x hx => by
  obtain ⟨l, h1, h2⟩ := h.kv
  exact h1.of_mem x ((h2 x).2 hx)
theorem findNow_ix {d : TypeDesc} {k : Value} : ∀ {es : List MapEntry} {i j : Nat} {v : Value}, Instr.findNow d k es i = some (some (j, v)) → i ≤ j ∧ ∃ e, es[j - i]? = some e ∧ Instr.sameNow d k e.key = some true
  | [], i, j, v, h => by simp [Instr.findNow] at h
  | e :: es, i, j, v, h => by
    unfold Instr.findNow at h
    split at h
    · rename_i hs
      injection h with h; injection h with h; injection h with h1 h2
      subst h1
      exact ⟨Nat.le_refl _, e, by simp, hs⟩
    · obtain ⟨h1, e', h2, h3⟩ := findNow_ix h
      refine ⟨by omega, e', ?_, h3⟩
      rw [show j - i = (j - (i + 1)) + 1 from by omega, List.getElem?_cons_succ]
      exact h2
    · cases h
theorem modify_same {es : Array MapEntry} {j : Nat} {e : MapEntry} {f : MapEntry → MapEntry} (hj : es[j]? = some e) (hf : f e = e) : es.modify j f = es := by
  apply Array.ext_getElem?
  intro i
  rw [Array.getElem?_modify]
  by_cases h : j = i
  · subst h; rw [if_pos rfl, hj, Option.map_some, hf]
  · rw [if_neg h]
/-- A block that holds a set of names. -/
def SetAt (w : World) (b : Nat) (L : List ByteArray) : Prop := ∃ es c, w.heap[b]? = some (.map es c) ∧ MapS es c L
theorem SetAt.of {w w' : World} {b : Nat} {L : List ByteArray} (h : SetAt w b L) (e : w'.heap[b]? = w.heap[b]?) : SetAt w' b L := let ⟨es, c, h1, h2⟩ := h; ⟨es, c, e.trans h1, h2⟩
theorem SetAt.lt {w : World} {b : Nat} {L : List ByteArray} (h : SetAt w b L) : b < w.heap.size := let ⟨_, _, h1, _⟩ := h; lt_of_heap h1
theorem SetAt.ext {w w' : World} {b : Nat} {L : List ByteArray} (h : SetAt w b L) (e : Ext w w') : SetAt w' b L := h.of (e.heap h.lt)
theorem SetAt.wr {w w' : World} {b k : Nat} {L : List ByteArray} (h : SetAt w b L) (e : Wr k w w') (hk : b ≠ k) : SetAt w' b L := h.of (e.block b hk)
theorem SetAt.re {w : World} {b : Nat} {L L' : List ByteArray} (h : SetAt w b L) (e : ∀ x, x ∈ L ↔ x ∈ L') : SetAt w b L' := by
  obtain ⟨es, c, h1, ⟨⟨l, h2, h3⟩, h4, h5⟩⟩ := h
  exact ⟨es, c, h1, ⟨⟨l, h2, fun x => (h3 x).trans (e x)⟩, h4, h5⟩⟩
theorem SetAt.empty {w : World} {b : Nat} (h : w.heap[b]? = some (.map #[] 0)) : SetAt w b [] := ⟨_, _, h, ⟨⟨[], rfl, fun _ => Iff.rfl⟩, fun e he => by simp at he, by simp⟩⟩
theorem SetAt.look {w : World} {b : Nat} {L : List ByteArray} (h : SetAt w b L) (x : ByteArray) : ∃ es r, MapOf w (.map (some b)) es ∧ Instr.findNow .string (.string x) es.toList 0 = some r ∧ lkpV (.bool false) false r = .bool (decide (x ∈ L)) := by
  obtain ⟨es, c, h1, ⟨⟨l, h2, h3⟩, _, _⟩⟩ := h
  obtain ⟨r, hr1, hr2⟩ := findNow_kv same_str x es.toList _ 0 h2
  rw [seenS_find] at hr2
  refine ⟨es, r, .inr ⟨b, c, rfl, h1⟩, hr1, ?_⟩
  by_cases hx : x ∈ L
  · rw [if_pos ((h3 x).2 hx)] at hr2
    simp [lkpV, hr2, hx]
  · rw [if_neg (fun h => hx ((h3 x).1 h))] at hr2
    simp [lkpV, hr2, hx]
theorem SetAt.put {w : World} {b : Nat} {L : List ByteArray} (h : SetAt w b L) (x : ByteArray) : ∃ es c q, w.heap[b]? = some (.map es c) ∧ Instr.findNow .string (.string x) es.toList 0 = some q ∧
    ∀ w' : World, w'.heap[b]? = some (mupO es c (.string x) (.bool true) q) → SetAt w' b (L ++ [x]) := by
  obtain ⟨es, c, h1, hm⟩ := h
  obtain ⟨l, h2, h3⟩ := hm.kv
  obtain ⟨r, hr1, hr2⟩ := findNow_kv same_str x es.toList _ 0 h2
  refine ⟨es, c, r, h1, hr1, fun w' hw => ?_⟩
  cases r with
  | none =>
    refine ⟨_, _, hw, ⟨⟨l ++ [x], ?_, fun y => ?_⟩, ?_, ?_⟩⟩
    · have := KV.push h2 x (.bool true) c
      simpa [seenS] using this
    · simp [h3 y]
    · intro e he
      simp only [Array.toList_push, List.mem_append, List.mem_singleton] at he
      rcases he with he | rfl
      · have := hm.born e he; omega
      · show c < c + 1; omega
    · simp only [Array.toList_push, List.map_append, List.map_cons, List.map_nil]
      rw [List.nodup_append]
      refine ⟨hm.nodup, by simp, fun a ha b' hb' => ?_⟩
      obtain ⟨e, he, rfl⟩ := List.mem_map.1 ha
      simp only [List.mem_singleton] at hb'
      have := hm.born e he
      omega
  | some jv =>
    obtain ⟨j, v⟩ := jv
    obtain ⟨_, e, he, hs⟩ := findNow_ix hr1
    have hmem : e ∈ es.toList := List.mem_of_getElem? he
    obtain ⟨y, hy, hk, hv⟩ := hm.mem e hmem
    have hxy : x = y := by rw [hk, same_str] at hs; simpa using hs
    subst hxy
    have hsame : es.modify j (fun e => { e with key := .string x, val := .bool true }) = es := modify_same (e := e) (by simpa using he) (by cases e; simp only at hk hv; subst hk hv; rfl)
    have hw2 : w'.heap[b]? = some (.map es c) := by rw [hw]; show some (Obj.map (es.modify j _) c) = _; rw [hsame]
    exact ⟨es, c, hw2, ⟨⟨l, h2, fun z => by rw [h3 z]; simp; rintro rfl; exact hy⟩, hm.born, hm.nodup⟩⟩
/-- A range over a set of names, under way: D has come, n are left. -/
def IterAt (w : World) (r b : Nat) (L D : List ByteArray) (n : Nat) (cur : Option ByteArray) : Prop :=
  ∃ es c since seen c0, w.heap[b]? = some (.map es c) ∧ MapS es c L ∧ w.heap[r]? = some (.mapIter (some b) since seen c0) ∧ (∀ x ∈ es.toList, x.born < since) ∧ since ≤ c0 ∧ since ≤ c ∧ (leftOf es seen).size = n ∧
    (∀ e ∈ es.toList, seen.contains e.born = true → ∃ x ∈ D, e.key = .string x) ∧ (∀ x ∈ D, x ∈ L) ∧ (∀ x, cur = some x → ∃ (seen0 : Array Nat) (e : MapEntry), c0 = c ∧ seen = seen0.push e.born ∧ e ∈ es.toList ∧ e.key = .string x ∧ e.val = .bool true)
theorem IterAt.of {w w' : World} {r b : Nat} {L D : List ByteArray} {n : Nat} {cur : Option ByteArray} (h : IterAt w r b L D n cur) (e1 : w'.heap[b]? = w.heap[b]?) (e2 : w'.heap[r]? = w.heap[r]?) : IterAt w' r b L D n cur :=
  let ⟨es, c, since, seen, c0, h1, h2, h3, h4⟩ := h; ⟨es, c, since, seen, c0, e1.trans h1, h2, e2.trans h3, h4⟩
theorem IterAt.set {w : World} {r b : Nat} {L D : List ByteArray} {n : Nat} {cur : Option ByteArray} (h : IterAt w r b L D n cur) : SetAt w b L := let ⟨es, c, _, _, _, h1, h2, _⟩ := h; ⟨es, c, h1, h2⟩
theorem IterAt.sub {w : World} {r b : Nat} {L D : List ByteArray} {n : Nat} {cur : Option ByteArray} (h : IterAt w r b L D n cur) : ∀ x ∈ D, x ∈ L := let ⟨_, _, _, _, _, _, _, _, _, _, _, _, _, h2, _⟩ := h; h2
theorem IterAt.ne {w : World} {r b : Nat} {L D : List ByteArray} {n : Nat} {cur : Option ByteArray} (h : IterAt w r b L D n cur) : r ≠ b := by
  obtain ⟨es, c, since, seen, c0, h1, h2, h3, h4⟩ := h
  intro e
  rw [e, h1] at h3
  cases h3
theorem IterAt.lt {w : World} {r b : Nat} {L D : List ByteArray} {n : Nat} {cur : Option ByteArray} (h : IterAt w r b L D n cur) : r < w.heap.size := by
  obtain ⟨es, c, since, seen, c0, h1, h2, h3, h4⟩ := h
  exact lt_of_heap h3
theorem IterAt.ext {w w' : World} {r b : Nat} {L D : List ByteArray} {n : Nat} {cur : Option ByteArray} (h : IterAt w r b L D n cur) (e : Ext w w') : IterAt w' r b L D n cur := h.of (e.heap h.set.lt) (e.heap h.lt)
theorem IterAt.wr {w w' : World} {r b k : Nat} {L D : List ByteArray} {n : Nat} {cur : Option ByteArray} (h : IterAt w r b L D n cur) (e : Wr k w w') (h1 : b ≠ k) (h2 : r ≠ k) : IterAt w' r b L D n cur := h.of (e.block b h1) (e.block r h2)
theorem wr_drew (k : Nat) (w : World) : Wr k w w.drew := ⟨rfl, rfl, rfl, rfl, fun _ _ => rfl⟩
section
variable {P : Program} {KK : Value → World → Prop} {S : Fr} {w : World} {KW : World → Prop} {K3 : Value → Prop}
theorem K.lkpS {b : Nat} {L : List ByteArray} {x : ByteArray} {t} (h : SetAt w b L) (hk : K3 (.bool (decide (x ∈ L)))) : LkpVCh .string (.bool false) false (.map (some b)) (.string x) w K3 t := by
  obtain ⟨es, r, h1, h2, h3⟩ := h.look x
  exact K.lkp h1 h2 (by rw [h3]; exact hk)
theorem K.mupS {b : Nat} {L : List ByteArray} {x : ByteArray} {t} (h : SetAt w b L) (hk : ∀ w1, Wr b w w1 → SetAt w1 b (L ++ [x]) → KW w1) : MupVCh .string (.map (some b)) (.string x) (.bool true) w KW t := by
  obtain ⟨es, c, q, h1, h2, h3⟩ := h.put x
  exact K.mup h1 h2 (hk _ (Wr.setO w b _) (h3 _ (setO_same (lt_of_heap h1))))
theorem K.rngM {b : Nat} {L : List ByteArray} {x : Operand} {t' k e ty : TypeId} {t} (hx : ev S x = .map (some b)) (ht : P.underlying t' = some (.map k e)) (h : SetAt w b L)
    (hk : ∀ w1 r n, w.heap.size ≤ r → Ext w w1 → IterAt w1 r b L [] n none → KK (.pointer (some ⟨r, 0, none⟩)) w1) : RawVCh P (.range t' x) ty S w KK t := by
  obtain ⟨es, c, h1, h2⟩ := h
  have hrun := run_range_map (P := P) w t' k e b es c ht h1
  refine K.raw (v := .pointer (some ⟨w.heap.size, 0, none⟩)) (w' := w.alloc (.mapIter (some b) c #[] c)) (by simp [execOp, hx, hrun, Result.andThen]) ?_
  refine hk _ _ _ (Nat.le_refl _) ((Ext.refl w).alloc _) ⟨es, c, c, #[], c, heap_alloc_old h1, h2, heap_alloc_new w _, h2.born, Nat.le_refl _, Nat.le_refl _, rfl, ?_, ?_, ?_⟩
  · intro e _ h
    simp at h
  · intro x hx
    cases hx
  · intro x hx
    cases hx
theorem K.nxtM {r b n : Nat} {L D : List ByteArray} {cur : Option ByteArray} {x : Operand} {ty : TypeId} {t} (hx : ev S x = .pointer (some ⟨r, 0, none⟩)) (h : IterAt w r b L D n cur)
    (h0 : (∀ y ∈ L, y ∈ D) → KK (.tuple #[.bool false]) w)
    (h1 : ∀ y w1 n', y ∈ L → n' < n → Wr r w w1 → IterAt w1 r b L (D ++ [y]) n' (some y) → KK (.tuple #[.bool true, .string y, .bool true]) w1) : RawVCh P (.next x false) ty S w KK t := by
  have hne := h.ne
  obtain ⟨es, c, since, seen, c0, hb, hm, hr, hold, hsc, hsk, hn, hD, hDL, _⟩ := h
  rcases run_next_at (P := P) w ty r b since c0 seen es c hr hb hold hsc with ⟨hz, hrun⟩ | ⟨e, he, w1, hal, hrun⟩
  · refine K.raw (v := .tuple #[.bool false]) (w' := w) (by simp [execOp, hx, hrun, Result.andThen]) (h0 fun y hy => ?_)
    obtain ⟨e, he, hk⟩ := hm.of_mem y hy
    obtain ⟨z, hz1, hz2⟩ := hD e he (all_seen es seen hz e he)
    rw [hk] at hz2
    injection hz2 with hz2
    rw [hz2]; exact hz1
  · obtain ⟨hem, hes⟩ := mem_left he
    obtain ⟨y, hy, hk, hv⟩ := hm.mem e hem
    have hw1 : Wr r w w1 := by
      rcases hal with rfl | rfl
      · exact Wr.refl _ _
      · exact wr_drew r w
    have hsz : w1.heap.size = w.heap.size := hw1.size
    have hrl : r < w1.heap.size := by rw [hsz]; exact lt_of_heap hr
    have hset : Go.ChangeMaps.setBlock w1 r (.mapIter (some b) since (seen.push e.born) c) = Lite.setO w1 r (.mapIter (some b) since (seen.push e.born) c) := rfl
    rw [hset] at hrun
    refine K.raw (v := .tuple #[.bool true, e.key, e.val]) (w' := setO w1 r (.mapIter (some b) since (seen.push e.born) c)) (by simp [execOp, hx, hrun, Result.andThen]) ?_
    rw [hk, hv]
    refine h1 y _ _ hy (Nat.lt_of_lt_of_eq (left_shrinks es seen e he) hn) (hw1.trans (Wr.setO _ _ _)) ⟨es, c, since, seen.push e.born, c, ?_, hm, setO_same hrl, hold, hsk, hsk, rfl, fun f hf hc => ?_, fun z hz => ?_, fun z hz => ?_⟩
    · rw [setO_ne (Ne.symm hne)]
      rcases hal with rfl | rfl <;> exact hb
    · rw [contains_push] at hc
      rcases Bool.or_eq_true_iff.1 hc with hc | hc
      · obtain ⟨x, hx1, hx2⟩ := hD f hf hc
        exact ⟨x, by simp [hx1], hx2⟩
      · have hbe : f.born = e.born := by simpa using hc
        have h5 := find_born f es.toList hm.nodup hf
        rw [hbe, find_born e es.toList hm.nodup hem] at h5
        injection h5 with h5
        have : f = e := h5.symm
        subst this
        exact ⟨y, by simp, hk⟩
    · rcases List.mem_append.1 hz with hz | hz
      · exact hDL z hz
      · simp only [List.mem_singleton] at hz; subst hz; exact hy
    · injection hz with hz
      subst hz
      exact ⟨seen, e, rfl, rfl, hem, hk, hv⟩
theorem K.entM {r b n : Nat} {L D : List ByteArray} {y : ByteArray} {x : Operand} {ty : TypeId} {t} (hx : ev S x = .pointer (some ⟨r, 0, none⟩)) (h : IterAt w r b L D n (some y))
    (hk : KK (.tuple #[.string y, .bool true]) w) : RawVCh P (.entry x) ty S w KK t := by
  obtain ⟨es, c, since, seen, c0, hb, hm, hr, hold, hsc, hsk, hn, hD, hDL, hc⟩ := h
  obtain ⟨seen0, e, rfl, rfl, he, hk1, hk2⟩ := hc y rfl
  have hrun : (Instr.entry (.pointer (some ⟨r, 0, none⟩))).run P w = .ok (.tuple #[e.key, e.val]) w := run_entry_at w r b since seen0 es c0 e hr hb he hm.nodup
  refine K.raw (v := .tuple #[e.key, e.val]) (w' := w) (by simp [execOp, hx, hrun, Result.andThen]) ?_
  rw [hk1, hk2]
  exact hk
end
end Lite
end
section
/- Whole models: what throws. -/
set_option maxRecDepth 4000
namespace Go.Proofs.YtbbaokmelkiemaaGreatDoor
open Go Go.RowKit Lite
/-- What is thrown of a fault. -/
def thrown (f : Abs.Fault) : List PanicEntry := [{ v := .iface T.model_thrown (.agg #[.int .i64 f.why, .int .i64 f.part, .int .i64 f.item, .int .i64 f.sub]), recovered := false }]
theorem throw_r (e p i s : Int) (w : World) : RetT Tryz.prog F.model_throw #[.int .i64 e, .int .i64 p, .int .i64 i, .int .i64 s] w (fun _ w' => e = 0 ∧ w' = w) (fun c w' => e ≠ 0 ∧ c = thrown ⟨e, p, i, s⟩ ∧ w' = w) := by
  refine K.startT hmix E.model_throw (args := [_, _, _, _]) (Nat.le_of_ble_eq_true rfl) ?_; dsimp only [C.model_throw,yt,yi,yb,yp,yr,ye,yc,yv,yg,ym,yw,ya,yl,yx,ys,yn]
  refine Sg ?_
  refine K.cond (fun g => ?_) (fun g => ?_)
  · refine Sg ?_
    exact ⟨g, by first | trivial | rfl⟩
  · refine Sg ?_
    exact ⟨g, by first | trivial | rfl, by first | trivial | rfl⟩
theorem take_r (b : Nat) (L : List ByteArray) (x : ByteArray) (p i : Int) (w : World) (h : SetAt w b L) : RetT Tryz.prog F.model_take #[.map (some b), .string x, .int .i64 p, .int .i64 i] w
    (fun _ w' => ¬ x ∈ L ∧ Wr b w w' ∧ SetAt w' b (L ++ [x])) (fun c w' => x ∈ L ∧ c = thrown ⟨7, p, i, 0⟩ ∧ w' = w) := by
  refine K.startT hmix E.model_take (args := [_, _, _, _]) (Nat.le_of_ble_eq_true rfl) ?_; dsimp only [C.model_take,yt,yi,yb,yp,yr,ye,yc,yv,yg,ym,yw,ya,yl,yx,ys,yn]
  refine Sg ?_
  refine K.lkpS h ?_
  refine Sg ?_
  refine K.cond (fun g => ?_) (fun g => ?_)
  · refine Sg ?_
    refine K.thr (throw_r 7 p i 0 w) ?_ ?_
    · rintro _ _ ⟨h0, _⟩
      exact absurd h0 (by decide)
    · rintro c _ ⟨_, rfl, rfl⟩
      refine Sg ?_
      exact ⟨g, by first | trivial | rfl, by first | trivial | rfl⟩
  · refine Sg ?_
    refine K.mupS h fun w1 hw h1 => ?_
    refine Sg ?_
    exact ⟨g, hw, h1⟩
end Go.Proofs.YtbbaokmelkiemaaGreatDoor
end
section
/- Whole models: scalars, variables, channels. -/
set_option maxRecDepth 4000
set_option maxHeartbeats 6400000
namespace Go.Proofs.YtbbaokmelkiemaaGreatDoor
open Go Go.RowKit Lite
/-- The names that are taken lie in block bt; a model in box b1. -/
structure TakSt (w0 w : World) (bt b1 : Nat) (cs : List Value) (w' : World) (L : List ByteArray) : Prop where
  ext : Ext w0 w'
  mod : Mod (fun k => k = bt) w w'
  box : w'.heap[b1]? = some (.cells cs.toArray T.api_Model)
  set : SetAt w' bt L
  low : w0.heap.size ≤ bt
  ne : b1 ≠ bt
section
variable {w0 w w' w'' : World} {bt b1 : Nat} {cs : List Value} {L L' : List ByteArray}
theorem TakSt.then (h : TakSt w0 w bt b1 cs w' L) (he : Ext w' w'') : TakSt w0 w bt b1 cs w'' L := ⟨h.ext.trans he, h.mod.trans he.mod, he.obj h.box, h.set.ext he, h.low, h.ne⟩
theorem TakSt.wr (h : TakSt w0 w bt b1 cs w' L) (hw : Wr bt w' w'') (hs : SetAt w'' bt L') : TakSt w0 w bt b1 cs w'' L' := ⟨hw.ext h.ext h.low, h.mod.trans (hw.mod rfl), hw.obj h.box h.ne, hs, h.low, h.ne⟩
theorem TakSt.re (h : TakSt w0 w bt b1 cs w' L) (e : L = L') : TakSt w0 w bt b1 cs w' L' := e ▸ h
end
theorem globals_r {w0 : World} (cs : List Value) (m : Abs.Model) (bt : Nat) (w : World) (h : Abs.ModelIs w0 cs m) (e0 : Ext w0 w) (hbt : w0.heap.size ≤ bt) (ho : OwnIs w0) (hs : SetAt w bt []) :
    RetT Tryz.prog F.model_globals #[.agg cs.toArray, .map (some bt)] w (fun _ w' => (Abs.data m).why = 0 ∧ Ext w0 w' ∧ Mod (fun k => k = bt) w w' ∧ SetAt w' bt (Abs.nSVC m m.chans.length))
      (fun c w' => (Abs.data m).why ≠ 0 ∧ c = thrown (Abs.data m) ∧ Ext w0 w' ∧ Mod (fun k => k = bt) w w') := by
  obtain ⟨o0, c0, o1, c1, o2, c2, o3, c3, o4, c4, rfl, h0, h1, h2, h3, h4, l0, l1, l2, l3, l4⟩ := h.form
  refine K.startT hmix E.model_globals (args := [_, _]) (Nat.le_of_ble_eq_true rfl) ?_; dsimp only [C.model_globals,yt,yi,yb,yp,yr,ye,yc,yv,yg,ym,yw,ya,yl,yx,ys,yn]
  refine Sg ?_
  intro w1 b1 hb1 he1 hc1
  have st1 : TakSt w0 w bt b1 _ w1 [] := ⟨e0.trans he1, he1.mod, hc1, hs.ext he1, hbt, by have := hs.lt; omega⟩
  clear hs
  refine Sg ?_
  refine K.call (scalars_r _ m.scalars w1 (ho.ext st1.ext) (h0.ext st1.ext)) ?_
  rintro _ w2 ⟨rfl, he2⟩
  replace st1 := st1.then he2
  clear hc1
  refine Sg ?_
  refine K.thr (throw_r (Abs.scalars m.scalars).2 1 (Abs.scalars m.scalars).1 0 w2) ?_ ?_
  rotate_left
  · rintro c _ ⟨g, rfl, rfl⟩
    refine Sg ?_
    rw [Abs.data_s g]
    exact ⟨g, rfl, st1.ext, st1.mod⟩
  rintro _ _ ⟨hS, rfl⟩
  have hc1 := st1.box
  refine Sg ?_
  refine K.forG 24 m.scalars.length [1, 2, 22, 23] (fun _ : Unit => []) () (fun k _ w' => TakSt w0 w bt b1 _ w' ((m.scalars.take k).map (·.name))) (by first | trivial | rfl | exact ⟨rfl, trivial⟩ | (simp -dsimp only [LL,slots_nil,slots_cons,keepV_nil,keepV_cons,has_nil,has_cons,Nat.reduceAdd,Nat.reduceEqDiff,reduceIte,and_self]; done) | (simp -dsimp only [LL,slots_nil,slots_cons,keepV_nil,keepV_cons,has_nil,has_cons,Nat.reduceAdd,Nat.reduceEqDiff,reduceIte,and_self]; exact ⟨rfl, trivial⟩)) (by first | trivial | rfl | exact ⟨rfl, trivial⟩ | (simp -dsimp only [LL,slots_nil,slots_cons,keepV_nil,keepV_cons,has_nil,has_cons,Nat.reduceAdd,Nat.reduceEqDiff,reduceIte,and_self]; done) | (simp -dsimp only [LL,slots_nil,slots_cons,keepV_nil,keepV_cons,has_nil,has_cons,Nat.reduceAdd,Nat.reduceEqDiff,reduceIte,and_self]; exact ⟨rfl, trivial⟩)) (st1.re (by simp)) ?_
  clear hc1 he2 st1
  rintro k _ S w3 hk st3
  have hc1 := st3.box
  have e3 := st3.ext
  refine Sg ?_
  refine K.cond (fun g1 => ?_) (fun g1 => ?_)
  · have hk' : k < m.scalars.length := by omega
    obtain ⟨a, rfl⟩ := h0.addr (by omega)
    refine Sg ?_
    intro w4 b3 hb3 he4 hc3
    have st4 := st3.then he4
    refine Sg ?_
    refine K.mupS st4.set fun w5 hw hs5 => ?_
    refine Sg ?_
    exact ⟨hk', by first | trivial | rfl, (), trivial, (st4.wr hw hs5).re (Abs.take_snocN _ _ hk').symm⟩
  replace st3 := st3.re (show _ = Abs.nSV m 0 by rw [List.take_of_length_le (by omega)]; simp)
  refine Sg ?_
  refine K.call (vars_r _ _ m.vars m.scalars 12 w3 (ho.ext e3) (h1.ext e3) (h0.ext e3)) ?_
  rintro _ w4 ⟨rfl, he4⟩
  replace st3 := st3.then he4
  clear hc1 e3
  have hc1 := st3.box
  rw [Abs.vars_eq]
  refine Sg ?_
  refine K.forG 43 m.vars.length [1, 2, 4, 5, 41, 42] (fun _ : Unit => []) () (fun k _ w' => TakSt w0 w bt b1 _ w' (Abs.nSV m k) ∧ ∀ j, j < k → Abs.evar m j = 0) (by first | trivial | rfl | exact ⟨rfl, trivial⟩ | (simp -dsimp only [LL,slots_nil,slots_cons,keepV_nil,keepV_cons,has_nil,has_cons,Nat.reduceAdd,Nat.reduceEqDiff,reduceIte,and_self]; done) | (simp -dsimp only [LL,slots_nil,slots_cons,keepV_nil,keepV_cons,has_nil,has_cons,Nat.reduceAdd,Nat.reduceEqDiff,reduceIte,and_self]; exact ⟨rfl, trivial⟩)) (by first | trivial | rfl | exact ⟨rfl, trivial⟩ | (simp -dsimp only [LL,slots_nil,slots_cons,keepV_nil,keepV_cons,has_nil,has_cons,Nat.reduceAdd,Nat.reduceEqDiff,reduceIte,and_self]; done) | (simp -dsimp only [LL,slots_nil,slots_cons,keepV_nil,keepV_cons,has_nil,has_cons,Nat.reduceAdd,Nat.reduceEqDiff,reduceIte,and_self]; exact ⟨rfl, trivial⟩)) ⟨st3, fun j h => absurd h (Nat.not_lt_zero _)⟩ ?_
  clear hc1 st3 he4
  rintro k _ S' w5 hk ⟨st5, hz⟩
  have hc1 := st5.box
  have e5 := st5.ext
  refine Sg ?_
  refine K.cond (fun g1 => ?_) (fun g1 => ?_)
  · have hk' : k < m.vars.length := by omega
    obtain ⟨a, rfl⟩ := h1.addr (by omega)
    have hnm := Abs.nameAt_get (f := fun x : Abs.Var => x.name) hk'
    refine Sg ?_
    intro wN b9 hb9 heN hcN
    refine Su ?_
    intro w6 hw6 hc6
    have he6 := hw6.ext heN hb9
    have st6 := st5.then he6
    replace hc1 := st6.box
    clear hcN heN
    refine Su ?_
    refine K.cutG [1, 2, 4, 5, 8, 9, 41, 42, 43] (fun _ : Unit => []) (fun _ w' => w' = w6 ∧ Abs.verr m k = 0) ?_ ?_
    · refine Sg ?_
      refine K.cond (fun g2 => ?_) (fun g2 => ?_)
      · refine Sg ?_
        refine K.thr (throw_r (Abs.first m.vars.length (Abs.verr m)).2 2 k 0 w6) ?_ ?_
        · rintro _ _ ⟨h00, rfl⟩
          refine Sg ?_
          exact ⟨(), trivial, by first | trivial | rfl, Abs.first_zero h00 k hk'⟩
        · rintro c _ ⟨h00, rfl, rfl⟩
          obtain ⟨i, hi, e1, e2⟩ := Abs.first_lt h00
          obtain rfl : k = i := by omega
          rw [e2] at h00
          have hev : Abs.evar m k = Abs.verr m k := by unfold Abs.evar; rw [if_pos h00]
          have hd := Abs.data_v hS hk' hz (by rw [hev]; exact h00)
          rw [hev] at hd
          refine Sg ?_
          rw [hd, e2]
          exact ⟨h00, by first | trivial | rfl, st6.ext, st6.mod⟩
      · refine Sg ?_
        refine ⟨(), trivial, by first | trivial | rfl, ?_⟩
        apply Classical.byContradiction
        intro hne
        apply g2
        rw [Abs.first_stop hk' (fun j hj => Abs.verr_of (hz j hj)) hne]
    rintro _ S2 _ ⟨rfl, hv0⟩
    refine Sg ?_
    refine K.thr (take_r bt (Abs.nSV m k) m.vars[k].name 2 k _ st6.set) ?_ ?_
    · rintro _ w7 ⟨hn, hw7, hs7⟩
      refine Sg ?_
      refine ⟨hk', by first | trivial | rfl, (), trivial, (st6.wr hw7 hs7).re (by simp only [Abs.nSV, Abs.nV]; rw [Abs.take_snocN (fun x : Abs.Var => x.name) _ hk', List.append_assoc]), fun j hj => ?_⟩
      by_cases hjk : j = k
      · subst hjk
        unfold Abs.evar
        rw [if_neg (by simpa using hv0), hnm, if_neg hn]
      · exact hz j (by omega)
    · rintro c _ ⟨hn, rfl, rfl⟩
      have hev : Abs.evar m k = 7 := by unfold Abs.evar; rw [if_neg (by simpa using hv0), hnm, if_pos hn]
      have hd := Abs.data_v hS hk' hz (by rw [hev]; decide)
      rw [hev] at hd
      refine Sg ?_
      rw [hd]
      exact ⟨(show (7 : Int) ≠ 0 by decide), by first | trivial | rfl, st6.ext, st6.mod⟩
  have hkv : m.vars.length ≤ k := by omega
  have hV : ∀ j, j < m.vars.length → Abs.evar m j = 0 := fun j hj => hz j (by omega)
  replace st5 := st5.re (show _ = Abs.nSVC m 0 by simp only [Abs.nSVC, Abs.nSV, Abs.nV, Abs.nC]; rw [List.take_of_length_le hkv]; simp)
  refine Sg ?_
  refine K.call (chans_r _ _ m.chans m.scalars w5 (ho.ext e5) (h2.ext e5) (h0.ext e5)) ?_
  rintro _ w6 ⟨rfl, he6⟩
  replace st5 := st5.then he6
  clear hc1 e5
  have hc1 := st5.box
  rw [Abs.chans_eq]
  refine Sg ?_
  refine K.forG 71 m.chans.length [1, 2, 4, 5, 69, 70] (fun _ : Unit => []) () (fun k _ w' => TakSt w0 w bt b1 _ w' (Abs.nSVC m k) ∧ ∀ j, j < k → Abs.echan m j = 0) (by first | trivial | rfl | exact ⟨rfl, trivial⟩ | (simp -dsimp only [LL,slots_nil,slots_cons,keepV_nil,keepV_cons,has_nil,has_cons,Nat.reduceAdd,Nat.reduceEqDiff,reduceIte,and_self]; done) | (simp -dsimp only [LL,slots_nil,slots_cons,keepV_nil,keepV_cons,has_nil,has_cons,Nat.reduceAdd,Nat.reduceEqDiff,reduceIte,and_self]; exact ⟨rfl, trivial⟩)) (by first | trivial | rfl | exact ⟨rfl, trivial⟩ | (simp -dsimp only [LL,slots_nil,slots_cons,keepV_nil,keepV_cons,has_nil,has_cons,Nat.reduceAdd,Nat.reduceEqDiff,reduceIte,and_self]; done) | (simp -dsimp only [LL,slots_nil,slots_cons,keepV_nil,keepV_cons,has_nil,has_cons,Nat.reduceAdd,Nat.reduceEqDiff,reduceIte,and_self]; exact ⟨rfl, trivial⟩)) ⟨st5, fun j h => absurd h (Nat.not_lt_zero _)⟩ ?_
  clear hc1 st5 he6
  rintro k _ S' w7 hk ⟨st7, hz⟩
  have hc1 := st7.box
  have e7 := st7.ext
  refine Sg ?_
  refine K.cond (fun g1 => ?_) (fun g1 => ?_)
  · have hk' : k < m.chans.length := by omega
    obtain ⟨a, rfl⟩ := h2.addr (by omega)
    have hnm := Abs.nameAt_get (f := fun x : Abs.Chan => x.name) hk'
    refine Sg ?_
    intro wN b9 hb9 heN hcN
    refine Su ?_
    intro w6 hw6 hc6
    have he6 := hw6.ext heN hb9
    have st6 := st7.then he6
    replace hc1 := st6.box
    clear hcN heN
    refine Su ?_
    refine K.cutG [1, 2, 4, 5, 10, 11, 69, 70, 71] (fun _ : Unit => []) (fun _ w' => w' = w6 ∧ Abs.cerr m k = 0) ?_ ?_
    · refine Sg ?_
      refine K.cond (fun g2 => ?_) (fun g2 => ?_)
      · refine Sg ?_
        refine K.thr (throw_r (Abs.first m.chans.length (Abs.cerr m)).2 3 k 0 w6) ?_ ?_
        · rintro _ _ ⟨h00, rfl⟩
          refine Sg ?_
          exact ⟨(), trivial, by first | trivial | rfl, Abs.first_zero h00 k hk'⟩
        · rintro c _ ⟨h00, rfl, rfl⟩
          obtain ⟨i, hi, e1, e2⟩ := Abs.first_lt h00
          obtain rfl : k = i := by omega
          rw [e2] at h00
          have hev : Abs.echan m k = Abs.cerr m k := by unfold Abs.echan; rw [if_pos h00]
          have hd := Abs.data_c hS hV hk' hz (by rw [hev]; exact h00)
          rw [hev] at hd
          refine Sg ?_
          rw [hd, e2]
          exact ⟨h00, by first | trivial | rfl, st6.ext, st6.mod⟩
      · refine Sg ?_
        refine ⟨(), trivial, by first | trivial | rfl, ?_⟩
        apply Classical.byContradiction
        intro hne
        apply g2
        rw [Abs.first_stop hk' (fun j hj => Abs.cerr_of (hz j hj)) hne]
    rintro _ S2 _ ⟨rfl, hv0⟩
    refine Sg ?_
    refine K.thr (take_r bt (Abs.nSVC m k) m.chans[k].name 3 k _ st6.set) ?_ ?_
    · rintro _ w7 ⟨hn, hw7, hs7⟩
      refine Sg ?_
      refine ⟨hk', by first | trivial | rfl, (), trivial, (st6.wr hw7 hs7).re (by simp only [Abs.nSVC, Abs.nC]; rw [Abs.take_snocN (fun x : Abs.Chan => x.name) _ hk', List.append_assoc]), fun j hj => ?_⟩
      by_cases hjk : j = k
      · subst hjk
        unfold Abs.echan
        rw [if_neg (by simpa using hv0), hnm, if_neg hn]
      · exact hz j (by omega)
    · rintro c _ ⟨hn, rfl, rfl⟩
      have hev : Abs.echan m k = 7 := by unfold Abs.echan; rw [if_neg (by simpa using hv0), hnm, if_pos hn]
      have hd := Abs.data_c hS hV hk' hz (by rw [hev]; decide)
      rw [hev] at hd
      refine Sg ?_
      rw [hd]
      exact ⟨(show (7 : Int) ≠ 0 by decide), by first | trivial | rfl, st6.ext, st6.mod⟩
  have hkc : m.chans.length ≤ k := by omega
  refine Sg ?_
  refine ⟨by rw [Abs.data_0 hS hV fun j hj => hz j (by omega)]; rfl, st7.ext, st7.mod, (st7.re ?_).set⟩
  simp only [Abs.nSVC, Abs.nC]
  rw [List.take_of_length_le hkc, List.take_of_length_le (Nat.le_refl _)]
end Go.Proofs.YtbbaokmelkiemaaGreatDoor
end
section
/- What every right program says of some declarations. -/
set_option maxRecDepth 100000
set_option linter.unusedSimpArgs false
set_option maxHeartbeats 1000000
namespace Go.Proofs.YtbbaokmelkiemaaGreatDoor
open Go Go.RowKit Lite
def aw1 : List Abs.Var := [⟨⟨#[120]⟩, 0, 0, 0, 3, 0⟩, ⟨⟨#[120]⟩, 0, 0, 0, 0, 0⟩]
def aw2 : List Abs.Var := [⟨⟨#[120]⟩, 0, 0, 0, 256, 0⟩]
end Go.Proofs.YtbbaokmelkiemaaGreatDoor
end
section
/- What the references of layer 12 compute; the law on cells and bounds. -/
set_option maxRecDepth 4000
set_option linter.unusedSimpArgs false
set_option maxHeartbeats 1000000
namespace Go.Proofs.YtbbaokmelkiemaaGreatDoor
open Go Go.RowKit Lite

end Go.Proofs.YtbbaokmelkiemaaGreatDoor
end
