/- Texts joined: ProcI ProcJ ProcK Open1 Open5 ProcW RefP ExprT ExprG. -/
import Derived.Test.YtbbaokmelkiemaaGreatDoorQc
import Derived.Test.YtbbaokmelkiemaaGreatDoorQd
import Derived.Test.YtbbaokmelkiemaaGreatDoorQe
import Derived.Test.YtbbaokmelkiemaaGreatDoorQf
import Derived.Test.YtbbaokmelkiemaaGreatDoorQg
import Derived.Test.YtbbaokmelkiemaaGreatDoorQh
import Derived.Test.YtbbaokmelkiemaaGreatDoorQi
import Derived.SizedLaws
import Derived.OpenShut
set_option linter.all false
section
/- Processes: what one must be. -/
set_option maxRecDepth 4000
set_option maxHeartbeats 3200000
namespace Abs
theorem localsE_drop {s : Scope} {l : List Var} {k : Nat} (h : k < l.length) : localsE s (l.drop k) k = if l[k].over ≠ 0 then ((k : Int), 9) else if s.vars.any (fun x => decide (x.name = l[k].name)) then ((k : Int), 7) else localsE s (l.drop (k + 1)) (k + 1) := by
  rw [List.drop_eq_getElem_cons h]; rfl
theorem cmdsE_drop {own : Scope} {locs : Int} {all l : List Cmd} {k : Nat} (h : k < l.length) : cmdsE own locs all (l.drop k) k = if (cmdCheck l[k] locs own).2 ≠ 0 then (2 + (k : Int), (cmdCheck l[k] locs own).1, (cmdCheck l[k] locs own).2)
    else if (all.take k).any (fun x => decide (x.name = l[k].name)) then (2 + (k : Int), 0, 7) else cmdsE own locs all (l.drop (k + 1)) (k + 1) := by
  rw [List.drop_eq_getElem_cons h]; rfl
end Abs
namespace Go.Proofs.YtbbaokmelkiemaaGreatDoor
open Go Go.RowKit Lite
theorem whole_r (p : Abs.Proc) (o3 o4 : Option Addr) (n3 c3 c4 : Nat) (cs : List Value) (s : Abs.Scope) (w : World) (ho : OwnIs w) (hn : Abs.strOk p.name) (h : Abs.ScopeIs w cs s) :
    Ret Tryz.prog F.proc_whole #[.agg (p.enc (.slice o3 n3 c3) (.slice o4 p.cmds.length c4)).toArray, .agg cs.toArray] w fun v w' => v = .int .i64 (Abs.whole p s) ∧ Ext w w' := by
  obtain ⟨a0, c0, a1, c1, a2, c2, a3, d3, a4, d4, rfl, h0, h1, h2, h3, h4, l0, l1, l2, l3, l4⟩ := h.form
  refine K.start hmix E.proc_whole (args := [_, _]) (Nat.le_of_ble_eq_true rfl) ?_; dsimp only [C.proc_whole,yt,yi,yb,yp,yr,ye,yc,yv,yg,ym,yw,ya,yl,yx,ys,yn]
  refine Sg ?_
  intro w1 b1 hb1 he1 hc1
  refine Sg ?_
  intro w2 b2 hb2 he2 hc2
  have E2 : ∀ {w'}, Ext w2 w' → Ext w w' := fun e => (he1.trans he2).trans e
  have hc1 := he2.obj hc1
  refine Sg ?_
  refine K.call (name_r p.name w2 (ho.ext (E2 (Ext.refl _))) hn) ?_
  rintro _ w3 ⟨rfl, he3⟩
  have hc1 := he3.obj hc1
  have hc2 := he3.obj hc2
  rw [Abs.whole]
  refine Sg ?_
  refine K.condb (fun g1 => ?_) (fun g1 => ?_)
  rotate_left
  · refine Sg ?_
    exact ⟨by rw [if_pos g1], E2 he3⟩
  rw [if_neg (by simp [g1])]
  refine Sg ?_
  refine K.cond (fun g2 => ?_) (fun g2 => ?_)
  · refine Sg ?_
    exact ⟨by rw [if_pos (.inl g2)], E2 he3⟩
  refine Sg ?_
  refine K.cond (fun g3 => ?_) (fun g3 => ?_)
  · refine Sg ?_
    exact ⟨by rw [if_pos (.inr (by omega))], E2 he3⟩
  rw [if_neg (by omega)]
  refine Sg ?_
  refine K.cond (fun g4 => ?_) (fun g4 => ?_)
  · refine Sg ?_
    exact ⟨by rw [if_pos (.inl g4)], E2 he3⟩
  refine Sg ?_
  refine K.cond (fun g5 => ?_) (fun g5 => ?_)
  · refine Sg ?_
    exact ⟨by rw [if_pos (.inr (by omega))], E2 he3⟩
  rw [if_neg (by omega)]
  refine Sg ?_
  refine K.cond (fun g6 => ?_) (fun g6 => ?_)
  · refine Sg ?_
    exact ⟨by rw [if_pos (by omega)], E2 he3⟩
  refine Sg ?_
  exact ⟨by rw [if_neg (by omega)], E2 he3⟩
theorem locals1_r (x v : Abs.Var) (b : Nat) (w : World) (hc : w.heap[b]? = some (.cells v.enc.toArray T.api_Var)) :
    Ret Tryz.prog F.proc_locals_1 #[.agg x.enc.toArray, .pointer (some ⟨b, 0, none⟩)] w fun u w' => u = .bool (decide (x.name = v.name)) ∧ Ext w w' := by
  refine K.start hmix E.proc_locals_1 (args := [_, _]) (Nat.le_of_ble_eq_true rfl) ?_; dsimp only [C.proc_locals_1,yt,yi,yb,yp,yr,ye,yc,yv,yg,ym,yw,ya,yl,yx,ys,yn]
  refine Sg ?_
  intro w1 b1 hb1 he1 hc1
  refine Sg ?_
  (refine ⟨?_, ?_⟩ <;> first | trivial | rfl | (repeat' first | assumption | exact Ext.refl _ | refine Ext.trans ?_ (by assumption)))
theorem check1_r (x c : Abs.Cmd) (o1 o2 o3 o4 : Option Addr) (n1 n2 n3 n4 c1 c2 c3 c4 : Nat) (b : Nat) (w : World) (hc : w.heap[b]? = some (.cells (c.enc (.slice o3 n3 c3) (.slice o4 n4 c4)).toArray T.api_Cmd)) :
    Ret Tryz.prog F.proc_Check_1 #[.agg (x.enc (.slice o1 n1 c1) (.slice o2 n2 c2)).toArray, .pointer (some ⟨b, 0, none⟩)] w fun u w' => u = .bool (decide (x.name = c.name)) ∧ Ext w w' := by
  refine K.start hmix E.proc_Check_1 (args := [_, _]) (Nat.le_of_ble_eq_true rfl) ?_; dsimp only [C.proc_Check_1,yt,yi,yb,yp,yr,ye,yc,yv,yg,ym,yw,ya,yl,yx,ys,yn]
  refine Sg ?_
  intro w1 b1 hb1 he1 hc1
  refine Sg ?_
  (refine ⟨?_, ?_⟩ <;> first | trivial | rfl | (repeat' first | assumption | exact Ext.refl _ | refine Ext.trans ?_ (by assumption)))
theorem locals_r (p : Abs.Proc) (o3 o4 : Option Addr) (c3 n4 c4 : Nat) (cs : List Value) (s : Abs.Scope) (w : World) (ho : OwnIs w) (hv : Abs.Vars w (.slice o3 p.vars.length c3) p.vars) (h : Abs.ScopeIs w cs s) :
    Ret Tryz.prog F.proc_locals #[.agg (p.enc (.slice o3 p.vars.length c3) (.slice o4 n4 c4)).toArray, .agg cs.toArray] w fun v w' => v = .tuple #[.int .i64 (Abs.plocals p s).1, .int .i64 (Abs.plocals p s).2] ∧ Ext w w' := by
  obtain ⟨a0, c0, a1, c1, a2, c2, a3, d3, a4, d4, rfl, h0, h1, h2, h3, h4, l0, l1, l2, l3, l4⟩ := h.form
  have lv : p.vars.length ≤ 9223372036854775807 := by have := (SlR.len hv).2; unfold maxLen at this; omega
  refine K.start hmix E.proc_locals (args := [_, _]) (Nat.le_of_ble_eq_true rfl) ?_; dsimp only [C.proc_locals,yt,yi,yb,yp,yr,ye,yc,yv,yg,ym,yw,ya,yl,yx,ys,yn]
  refine Sg ?_
  intro w1 b1 hb1 he1 hc1
  refine Sg ?_
  intro w2 b2 hb2 he2 hc2
  have E2 : ∀ {w'}, Ext w2 w' → Ext w w' := fun e => (he1.trans he2).trans e
  have hc1 := he2.obj hc1
  refine Sg ?_
  refine K.call (vars_r _ _ p.vars s.scalars 4 w2 (ho.ext (E2 (Ext.refl _))) (hv.ext (E2 (Ext.refl _))) (h0.ext (E2 (Ext.refl _)))) ?_
  rintro _ w3 ⟨rfl, he3⟩
  have hc1 := he3.obj hc1
  have hc2 := he3.obj hc2
  rw [Abs.plocals]
  refine Sg ?_
  refine K.cond (fun g1 => ?_) (fun g1 => ?_)
  rotate_left
  · refine Sg ?_
    exact ⟨by rw [if_pos g1], E2 he3⟩
  rw [if_neg (by simpa using g1)]
  have E3 : ∀ {w'}, Ext w3 w' → Ext w w' := fun e => E2 (he3.trans e)
  refine Sg ?_
  refine K.forG 25 p.vars.length [3, 23, 24] (fun _ => []) () (fun k _ w' => Ext w3 w' ∧ Abs.localsE s p.vars 0 = Abs.localsE s (p.vars.drop k) k) (by first | trivial | rfl | exact ⟨rfl, trivial⟩ | (simp -dsimp only [LL,slots_nil,slots_cons,keepV_nil,keepV_cons,has_nil,has_cons,Nat.reduceAdd,Nat.reduceEqDiff,reduceIte,and_self]; done) | (simp -dsimp only [LL,slots_nil,slots_cons,keepV_nil,keepV_cons,has_nil,has_cons,Nat.reduceAdd,Nat.reduceEqDiff,reduceIte,and_self]; exact ⟨rfl, trivial⟩)) (by first | trivial | rfl | exact ⟨rfl, trivial⟩ | (simp -dsimp only [LL,slots_nil,slots_cons,keepV_nil,keepV_cons,has_nil,has_cons,Nat.reduceAdd,Nat.reduceEqDiff,reduceIte,and_self]; done) | (simp -dsimp only [LL,slots_nil,slots_cons,keepV_nil,keepV_cons,has_nil,has_cons,Nat.reduceAdd,Nat.reduceEqDiff,reduceIte,and_self]; exact ⟨rfl, trivial⟩)) ⟨Ext.refl _, by simp⟩ ?_
  rintro k _ S w4 hk ⟨he4, hI⟩
  refine Sg ?_
  refine K.cond (fun g2 => ?_) (fun g2 => ?_)
  · have hk' : k < p.vars.length := by omega
    obtain ⟨a, rfl⟩ := hv.addr (by omega)
    replace hv := hv.ext (E3 (Ext.refl _))
    rw [Abs.localsE_drop hk'] at hI
    refine Sg ?_
    intro wN b9 hb9 heN hcN
    refine Sg ?_
    intro w5 hw5 hc5
    have he5 := hw5.ext heN hb9
    refine Sg ?_
    refine K.cond (fun g3 => ?_) (fun g3 => ?_)
    rotate_left
    · refine Sg ?_
      exact ⟨by rw [hI, if_pos g3], E3 (he4.trans he5)⟩
    rw [if_neg (by simpa using g3)] at hI
    refine Sg ?_
    refine K.call (containsFunc_r hmix E.slices_ContainsFunc_sl_api_Var_api_Var E.slices_IndexFunc_sl_api_Var_api_Var _ s.vars w5 (h1.ext (E3 (he4.trans he5))) F.proc_locals_1 (by kernel_rfl) [] [_] (fun x => decide (x.name = p.vars[k].name)) ?_) ?_
    · rintro i hi cs' w' e ⟨rfl, _⟩
      exact locals1_r _ _ b9 w' (e.obj hc5)
    rintro _ w6 ⟨rfl, he6⟩
    refine Sg ?_
    refine K.condb (fun g4 => ?_) (fun g4 => ?_)
    · refine Sg ?_
      exact ⟨by rw [hI, if_pos g4], E3 ((he4.trans he5).trans he6)⟩
    · refine Sg ?_
      exact ⟨hk', by first | trivial | rfl, (), trivial, (he4.trans he5).trans he6, by rw [hI, if_neg (by simp [g4])]⟩
  · refine Sg ?_
    exact ⟨by rw [hI, List.drop_eq_nil_of_le (by omega)]; rfl, E3 he4⟩
theorem pcheck_r (p : Abs.Proc) (pcs cs : List Value) (s : Abs.Scope) (w : World) (ho : OwnIs w) (hp : Abs.ProcIs w pcs p) (h : Abs.ScopeIs w cs s) (hg : s.good) (hpg : p.good) :
    Ret Tryz.prog F.proc_Check #[.agg pcs.toArray, .agg cs.toArray] w fun v w' => v = .tuple #[.int .i64 (Abs.procCheck p s).1, .int .i64 (Abs.procCheck p s).2.1, .int .i64 (Abs.procCheck p s).2.2] ∧ Ext w w' := by
  obtain ⟨a0, c0, a1, c1, a2, c2, a3, d3, a4, d4, rfl, h0, h1, h2, h3, h4, l0, l1, l2, l3, l4⟩ := h.form
  obtain ⟨hn, pv, pc, rfl, hv, hcm⟩ := hp
  obtain ⟨o3, c3, rfl, lv⟩ := hv.form
  obtain ⟨o4, c4, rfl, lc⟩ := hcm.form
  have hcb : p.cmds.length ≤ 140737488351232 := by have := hpg.cmds; unfold Abs.big at this; omega
  refine K.start hmix E.proc_Check (args := [_, _]) (Nat.le_of_ble_eq_true rfl) ?_; dsimp only [C.proc_Check,yt,yi,yb,yp,yr,ye,yc,yv,yg,ym,yw,ya,yl,yx,ys,yn]
  refine Sg ?_
  intro w1 b1 hb1 he1 hc1
  refine Sg ?_
  intro w2 b2 hb2 he2 hc2
  have E2 : ∀ {w'}, Ext w2 w' → Ext w w' := fun e => (he1.trans he2).trans e
  replace hc1 := he2.obj hc1
  refine Sg ?_
  refine K.call (whole_r p _ _ _ _ _ _ s w2 (ho.ext (E2 (Ext.refl _))) hn (h.ext (E2 (Ext.refl _)))) ?_
  rintro _ w3 ⟨rfl, he3⟩
  replace hc1 := he3.obj hc1
  replace hc2 := he3.obj hc2
  have E3 : ∀ {w'}, Ext w3 w' → Ext w w' := fun e => E2 (he3.trans e)
  rw [Abs.procCheck]
  refine Sg ?_
  refine K.cond (fun g1 => ?_) (fun g1 => ?_)
  rotate_left
  · refine Sg ?_
    exact ⟨by rw [if_pos g1], E3 (Ext.refl _)⟩
  rw [if_neg (by simpa using g1)]
  refine Sg ?_
  refine K.call (locals_r p _ _ _ _ _ _ s w3 (ho.ext (E3 (Ext.refl _))) (hv.ext (E3 (Ext.refl _))) (h.ext (E3 (Ext.refl _)))) ?_
  rintro _ w4 ⟨rfl, he4⟩
  replace hc1 := he4.obj hc1
  replace hc2 := he4.obj hc2
  have E4 : ∀ {w'}, Ext w4 w' → Ext w w' := fun e => E3 (he4.trans e)
  refine Sg ?_
  refine K.cond (fun g2 => ?_) (fun g2 => ?_)
  rotate_left
  · refine Sg ?_
    exact ⟨by rw [if_pos g2], E4 (Ext.refl _)⟩
  rw [if_neg (by simpa using g2)]
  refine Sg ?_
  refine K.call (inner_r p _ _ _ _ _ _ _ _ _ _ _ _ _ _ _ _ _ _ _ _ _ _ w4) ?_
  rintro _ w5 ⟨rfl, he5⟩
  replace hc1 := he5.obj hc1
  have E5 : ∀ {w'}, Ext w5 w' → Ext w w' := fun e => E4 (he5.trans e)
  refine Sg ?_
  intro w6 b10 hb10 he6 hc6
  replace hc1 := he6.obj hc1
  have E6 : ∀ {w'}, Ext w6 w' → Ext w w' := fun e => E5 (he6.trans e)
  have hin : ∀ w', Ext w w' → Abs.ScopeIs w' [.slice a0 s.scalars.length c0, .slice a1 s.vars.length c1, .slice a2 s.chans.length c2, .slice a3 s.procs.length d3, .slice o3 p.vars.length c3, .int .i64 p.over] (Abs.inner p s) := fun w' e =>
    ⟨(hg.inner hpg).sm.1, _, _, _, _, _, rfl, h0.ext e, h1.ext e, h2.ext e, h3.ext e, hv.ext e, (hg.inner hpg).sm.2⟩
  refine Sg ?_
  refine K.forG 37 p.cmds.length [2, 10, 35, 36] (fun _ => []) () (fun k _ w' => Ext w6 w' ∧ Abs.cmdsE (Abs.inner p s) p.locs p.cmds p.cmds 0 = Abs.cmdsE (Abs.inner p s) p.locs p.cmds (p.cmds.drop k) k) (by first | trivial | rfl | exact ⟨rfl, trivial⟩ | (simp -dsimp only [LL,slots_nil,slots_cons,keepV_nil,keepV_cons,has_nil,has_cons,Nat.reduceAdd,Nat.reduceEqDiff,reduceIte,and_self]; done) | (simp -dsimp only [LL,slots_nil,slots_cons,keepV_nil,keepV_cons,has_nil,has_cons,Nat.reduceAdd,Nat.reduceEqDiff,reduceIte,and_self]; exact ⟨rfl, trivial⟩)) (by first | trivial | rfl | exact ⟨rfl, trivial⟩ | (simp -dsimp only [LL,slots_nil,slots_cons,keepV_nil,keepV_cons,has_nil,has_cons,Nat.reduceAdd,Nat.reduceEqDiff,reduceIte,and_self]; done) | (simp -dsimp only [LL,slots_nil,slots_cons,keepV_nil,keepV_cons,has_nil,has_cons,Nat.reduceAdd,Nat.reduceEqDiff,reduceIte,and_self]; exact ⟨rfl, trivial⟩)) ⟨Ext.refl _, by simp⟩ ?_
  rintro k _ S w7 hk ⟨he7, hI⟩
  replace hc1 := he7.obj hc1
  replace hc6 := he7.obj hc6
  refine Sg ?_
  refine K.cond (fun g3 => ?_) (fun g3 => ?_)
  · have hk' : k < p.cmds.length := by omega
    obtain ⟨a, rfl⟩ := hcm.addr (by omega)
    obtain ⟨hs, vg, va, hcc, hvg, hva⟩ := hcm.at k hk'
    obtain ⟨og, cg, rfl, lg⟩ := hvg.form
    obtain ⟨oa, ca, rfl, la⟩ := hva.form
    rw [Abs.cmdsE_drop hk'] at hI
    replace hcc := hcc.ext (E6 (Ext.refl _))
    refine Sg ?_
    intro wN b12 hb12 heN hcN
    refine Sg ?_
    intro w8 hw8 hc8
    have he8 := hw8.ext heN hb12
    replace hc1 := he8.obj hc1
    replace hc6 := he8.obj hc6
    have E8 : ∀ {w'}, Ext w8 w' → Ext w w' := fun e => E6 ((he7.trans he8).trans e)
    clear hcN heN
    refine Sg ?_
    refine K.call (check_r p.cmds[k] _ _ p _ _ _ (Abs.inner p s) w8 (ho.ext (E8 (Ext.refl _))) hs (hvg.ext (E8 (Ext.refl _))) (hva.ext (E8 (Ext.refl _))) (hv.ext (E8 (Ext.refl _))) (hcm.ext (E8 (Ext.refl _))) (hin _ (E8 (Ext.refl _)))) ?_
    rintro _ w9 ⟨rfl, he9⟩
    replace hc1 := he9.obj hc1
    replace hc8 := he9.obj hc8
    have E9 : ∀ {w'}, Ext w9 w' → Ext w w' := fun e => E8 (he9.trans e)
    refine Sg ?_
    refine K.cond (fun g4 => ?_) (fun g4 => ?_)
    rotate_left
    · refine Sg ?_
      exact ⟨by rw [hI, if_pos g4], E9 (Ext.refl _)⟩
    rw [if_neg (by simpa using g4)] at hI
    have hcap := (SlR.len hcm).2.1
    refine Sg ?_
    refine K.slcT (k := .i64) k (by rfl) (by omega) ?_
    refine Sg ?_
    refine K.call (containsFunc_r hmix E.slices_ContainsFunc_sl_api_Cmd_api_Cmd E.slices_IndexFunc_sl_api_Cmd_api_Cmd _ (p.cmds.take k) w9 ((hcm.head k (by omega)).ext Abs.RCmd.ext (E9 (Ext.refl _))) F.proc_Check_1 (by kernel_rfl) [] [_] (fun x => decide (x.name = p.cmds[k].name)) ?_) ?_
    · rintro i hi cs' w' e ⟨_, xg, xa, rfl, hxg, hxa⟩
      obtain ⟨_, _, rfl, _⟩ := hxg.form
      obtain ⟨_, _, rfl, _⟩ := hxa.form
      exact check1_r _ _ _ _ _ _ _ _ _ _ _ _ _ _ b12 w' (e.obj hc8)
    rintro _ w10 ⟨rfl, he10⟩
    refine Sg ?_
    refine K.condb (fun g5 => ?_) (fun g5 => ?_)
    · refine Sg ?_
      exact ⟨by rw [hI, if_pos g5], E9 he10⟩
    · refine Sg ?_
      exact ⟨hk', by first | trivial | rfl, (), trivial, ((he7.trans he8).trans he9).trans he10, by rw [hI, if_neg (by simp [g5])]⟩
  · refine Sg ?_
    exact ⟨by rw [hI, List.drop_eq_nil_of_le (by omega)]; rfl, E6 he7⟩
end Go.Proofs.YtbbaokmelkiemaaGreatDoor
end
section
/- Processes: the chapter's example. -/
set_option maxRecDepth 8000
set_option maxHeartbeats 3200000
namespace Lite
open Go Go.RowKit
/-- A list in a block of one's own. -/
theorem SlR.blkC {α : Type} {R : World → Addr → α → Prop} {C : World → List Value → α → Prop} {sz : Nat} [Rel R C sz] {w : World} {b n : Nat} {e : TypeId} {cells : List Value} {xs : List α} (css : List (Cs sz)) (hb : w.heap[b]? = some (.cells cells.toArray e)) (hcells : cells = css.flatMap encC)
    (hl : css.length = xs.length) (hn : n = xs.length) (hm : xs.length ≤ maxLen) (hc : ∀ i (h1 : i < css.length) (h2 : i < xs.length), C w css[i].1 xs[i]) : SlR sz R w (.slice (some ⟨b, 0, none⟩) n n) xs := by
  subst hcells
  exact SlR.ofCells hl (SlR.blk (enc := encC) encC_len hb (by omega) (by omega) fun _ _ _ h => h) hc
end Lite
namespace Abs
open Go
def exGo : Cmd := ⟨⟨#[103, 111]⟩, 0, 0, [], [], false⟩
def exOn : Cmd := ⟨⟨#[111, 110]⟩, 0, 0, [], [], true⟩
def exPa : Proc := ⟨⟨#[97]⟩, 1, 1, [], [exGo]⟩
def exPb : Proc := ⟨⟨#[98]⟩, 0, 1, [], [exGo, exOn]⟩
def exS : Scalar := ⟨⟨#[83]⟩, 2⟩
def exTwo : Model := ⟨[exS], [], [], [exPa, exPb], []⟩
theorem exTwo_check : procCheck exPa (mscope exTwo) = (0, 0, 0) := by decide +kernel
theorem exTwo_insts : insts exTwo = [⟨0, 1⟩, ⟨0, 2⟩, ⟨1, 0⟩] := by decide +kernel
theorem exTwo_refs : (refs exTwo).length = 4 := by decide +kernel
theorem exTwo_fairs : fairs exTwo = [3] := by decide +kernel
theorem exTwo_self : (pscope exTwo 0).self = 1 := by decide +kernel
theorem exTwo_none : pscope exTwo (-1) = mscope exTwo := pscope_none (.inl (by decide))
theorem exTwo_lim : Lim exTwo := ⟨by decide, by intro p hp; simp [exTwo] at hp; rcases hp with rfl | rfl <;> decide⟩
theorem inI_small {n : Int} (h : -1000 ≤ n ∧ n ≤ 1000) : inI n := by unfold inI; omega
theorem exCmd_good (b f t) (c : Cmd) (h : c = ⟨b, 0, 0, [], [], f⟩ ∨ c = t) (ht : t = ⟨b, 0, 0, [], [], f⟩) : c.good := by
  have : c = ⟨b, 0, 0, [], [], f⟩ := by rcases h with h | h; exact h; rw [h, ht]
  subst this
  exact ⟨inI_small (by simp), inI_small (by simp), by simp [big], by simp [big], by simp⟩
theorem exTwo_good : exTwo.good := by
  refine ⟨by simp [exTwo, big], by simp [exTwo, big], by simp [exTwo, big], by simp [exTwo, big], by simp [exTwo, big], ?_, by simp [exTwo], by simp [exTwo], ?_, by simp [exTwo]⟩
  · intro a ha
    simp [exTwo] at ha
    subst ha
    exact ⟨inI_small (by simp [exS])⟩
  · intro a ha
    simp [exTwo] at ha
    rcases ha with rfl | rfl
    · exact ⟨inI_small (by simp [exPa]), inI_small (by simp [exPa]), by simp [exPa, big], by simp [exPa, big], by simp [exPa], by
        intro c hc
        simp [exPa] at hc
        exact exCmd_good _ _ _ c (.inr hc) rfl⟩
    · exact ⟨inI_small (by simp [exPb]), inI_small (by simp [exPb]), by simp [exPb, big], by simp [exPb, big], by simp [exPb], by
        intro c hc
        simp [exPb] at hc
        rcases hc with hc | hc
        · exact exCmd_good _ _ _ c (.inr hc) rfl
        · exact exCmd_good _ _ _ c (.inr hc) rfl⟩
end Abs
namespace Go.Proofs.YtbbaokmelkiemaaGreatDoor
open Go Go.RowKit Lite
theorem two_r (w : World) : Ret Tryz.prog F.lariatlaw14_two #[] w fun v w' => (∃ cs, v = .agg cs.toArray ∧ Abs.ModelIs w' cs Abs.exTwo) ∧ Ext w w' := by
  refine K.start hmix E.lariatlaw14_two (args := []) (Nat.le_of_ble_eq_true rfl) ?_; dsimp only [C.lariatlaw14_two,yt,yi,yb,yp,yr,ye,yc,yv,yg,ym,yw,ya,yl,yx,ys,yn]
  refine Sg ?_
  intro w1 b1 hb1 he1 hc1
  refine Sg ?_
  intro w2 b2 hb2 he2 hc2
  refine Sg ?_
  intro w3 b3 hb3 he3 hc3
  refine Sg ?_
  intro w4 b4 hb4 he4 hc4
  refine Sg ?_
  intro w5 b5 hb5 he5 hc5
  have q := lt_of_heap hc1
  have hc1' := (((he2.trans he3).trans he4).trans he5).obj hc1
  refine Sg ?_
  intro w6 hw6 hc6
  have z1 := lt_of_heap hc1
  have z2 := lt_of_heap hc2
  have z3 := lt_of_heap hc3
  have z4 := lt_of_heap hc4
  have k2 := hw6.obj (((he3.trans he4).trans he5).obj hc2) (by omega)
  have k3 := hw6.obj ((he4.trans he5).obj hc3) (by have := he2.size; omega)
  have k4 := hw6.obj (he5.obj hc4) (by have := he2.size; have := he3.size; omega)
  have k5 := hw6.obj hc5 (by have := he2.size; have := he3.size; have := he4.size; omega)
  have kS : Abs.Scalars w6 (.slice (some ⟨b2, 0, none⟩) 1 1) [Abs.exS] := Abs.Scalars.blk k2 rfl (by decide) (by intro x hx; simp only [List.mem_singleton] at hx; subst hx; decide)
  have kA : Abs.Cmds w6 (.slice (some ⟨b3, 0, none⟩) 1 1) [Abs.exGo] := SlR.blkC [⟨Abs.exGo.enc (.slice none 0 0) (.slice none 0 0), rfl, by simp [Abs.Cmd.enc, Value.oneCell']⟩] k3 rfl rfl rfl (by decide) (by
    intro i h1 h2
    have : i = 0 := by simp at h1; omega
    subst this
    exact ⟨(show Abs.strOk Abs.exGo.name by decide), _, _, rfl, SlR.nil, SlR.nil⟩)
  have kB : Abs.Cmds w6 (.slice (some ⟨b4, 0, none⟩) 2 2) [Abs.exGo, Abs.exOn] := SlR.blkC [⟨Abs.exGo.enc (.slice none 0 0) (.slice none 0 0), rfl, by simp [Abs.Cmd.enc, Value.oneCell']⟩, ⟨Abs.exOn.enc (.slice none 0 0) (.slice none 0 0), rfl, by simp [Abs.Cmd.enc, Value.oneCell']⟩] k4 rfl rfl rfl (by decide) (by
    intro i h1 h2
    have : i = 0 ∨ i = 1 := by simp at h1; omega
    rcases this with rfl | rfl
    · exact ⟨(show Abs.strOk Abs.exGo.name by decide), _, _, rfl, SlR.nil, SlR.nil⟩
    · exact ⟨(show Abs.strOk Abs.exOn.name by decide), _, _, rfl, SlR.nil, SlR.nil⟩)
  have kP : Abs.Procs w6 (.slice (some ⟨b5, 0, none⟩) 2 2) [Abs.exPa, Abs.exPb] := SlR.blkC [⟨Abs.exPa.enc (.slice none 0 0) (.slice (some ⟨b3, 0, none⟩) 1 1), rfl, by simp [Abs.Proc.enc, Value.oneCell']⟩, ⟨Abs.exPb.enc (.slice none 0 0) (.slice (some ⟨b4, 0, none⟩) 2 2), rfl, by simp [Abs.Proc.enc, Value.oneCell']⟩] k5 rfl rfl rfl (by decide) (by
    intro i h1 h2
    have : i = 0 ∨ i = 1 := by simp at h1; omega
    rcases this with rfl | rfl
    · exact ⟨(show Abs.strOk Abs.exPa.name by decide), _, _, rfl, SlR.nil, kA⟩
    · exact ⟨(show Abs.strOk Abs.exPb.name by decide), _, _, rfl, SlR.nil, kB⟩)
  refine Sg ?_
  exact ⟨⟨_, rfl, ⟨_, _, _, _, _, rfl, kS, SlR.nil, SlR.nil, kP, SlR.nil⟩⟩, hw6.ext ((((he1.trans he2).trans he3).trans he4).trans he5) hb1⟩
theorem pworks_r (w : World) (ho : OwnIs w) : Ret Tryz.prog F.lariatlaw14_works #[] w fun v w' => v = .bool true ∧ Ext w w' := by
  refine K.start hmix E.lariatlaw14_works (args := []) (Nat.le_of_ble_eq_true rfl) ?_; dsimp only [C.lariatlaw14_works,yt,yi,yb,yp,yr,ye,yc,yv,yg,ym,yw,ya,yl,yx,ys,yn]
  refine Sg ?_
  refine K.call (two_r w) ?_
  rintro _ w1 ⟨⟨cs, rfl, hM⟩, he1⟩
  obtain ⟨o0, c0, o1, c1, o2, c2, o3, c3, o4, c4, rfl, h0, h1, h2, h3, h4, _⟩ := hM.form
  refine Sg ?_
  intro w2 b1 hb1 he2 hc2
  replace hM := hM.ext he2
  refine Sg ?_
  intro w3 he3
  replace hM := hM.ext he3
  obtain ⟨a, rfl⟩ := h3.addr (by decide)
  obtain ⟨hs, vv, vc, hpc, hpv, hpcm⟩ := h3.at 0 (by decide)
  replace hc2 := he3.obj hc2
  refine Sg ?_
  refine K.ian 0 rfl (by decide) ?_
  refine Sg ?_
  refine K.call (scope_r _ Abs.exTwo (-1) w3 hM Abs.exTwo_good) ?_
  rintro _ w4 ⟨⟨cs4, rfl, hn⟩, he4⟩
  have hsc := hn.here
  rw [Abs.exTwo_none] at hsc
  refine ⟨he4, ?_⟩
  replace hc2 := he4.obj hc2
  replace hM := hM.ext he4
  have e14 := (he2.trans he3).trans he4
  refine Sg ?_
  refine K.call (pcheck_r Abs.exPa _ _ _ w4 (ho.ext (he1.trans e14)) ⟨hs, _, _, rfl, hpv.ext e14, hpcm.ext e14⟩ hsc Abs.exTwo_good.scope (Abs.exTwo_good.proc _ (by simp [Abs.exTwo]))) ?_
  rintro _ w5 ⟨rfl, he5⟩
  rw [Abs.exTwo_check]
  replace hc2 := he5.obj hc2
  replace hM := hM.ext he5
  clear e14 hsc hn
  have E5 : ∀ {w'}, Ext w5 w' → Ext w w' := fun e => ((((he1.trans he2).trans he3).trans he4).trans he5).trans e
  refine Sg ?_
  refine K.call (insts_r _ Abs.exTwo w5 hM Abs.exTwo_good) ?_
  rintro vi w6 ⟨hi, he6⟩
  replace hc2 := he6.obj hc2
  replace hM := hM.ext he6
  rw [Abs.exTwo_insts] at hi
  obtain ⟨oi, ci, rfl, _⟩ := hi.form
  refine Sg ?_
  refine K.condT (by rfl) ?_
  refine Sg ?_
  refine K.call (refs_r _ Abs.exTwo w6 hM Abs.exTwo_lim) ?_
  rintro vi w7 ⟨hr, he7⟩
  replace hc2 := he7.obj hc2
  replace hM := hM.ext he7
  obtain ⟨or, cr, rfl, _⟩ := hr.form
  rw [Abs.exTwo_refs]
  refine Sg ?_
  refine K.call (fair_r _ Abs.exTwo w7 hM Abs.exTwo_good Abs.exTwo_lim) ?_
  rintro vi w8 ⟨hf, he8⟩
  replace hc2 := he8.obj hc2
  replace hM := hM.ext he8
  rw [Abs.exTwo_fairs] at hf
  obtain ⟨of, cf, rfl, _⟩ := hf.form
  refine Sg ?_
  intro w9 b30 hb30 he9 hc9
  replace hc2 := he9.obj hc2
  replace hM := hM.ext he9
  refine Sg ?_
  refine K.call (equal1_r hmix E.slices_Equal_sl_int_int _ _ [3] [3] w9 (OwR.slF (enc := encN) (fun _ => rfl) (hf.ext he9)) (SlR.blk (enc := encN) (R := Flat encN) (fun _ => rfl) hc9 rfl (by decide) fun _ _ _ h => h)) ?_
  rintro _ w10 ⟨⟨b, rfl, hb⟩, he10⟩
  obtain rfl := hb.2 rfl
  replace hc2 := he10.obj hc2
  replace hM := hM.ext he10
  refine Sg ?_
  refine K.call (scope_r _ Abs.exTwo 0 w10 hM Abs.exTwo_good) ?_
  rintro _ w11 ⟨⟨cs11, rfl, hn⟩, he11⟩
  have hsc := hn.here
  obtain ⟨x0, y0, x1, y1, x2, y2, x3, y3, x4, y4, rfl, _⟩ := hsc.form
  rw [Abs.exTwo_self]
  replace hc2 := he11.obj hc2
  replace hM := hM.ext he11
  refine Sg ?_
  refine K.fld (v := .int .i64 1) rfl ?_
  refine Sg ?_
  refine K.call (insts_r _ Abs.exTwo w11 hM Abs.exTwo_good) ?_
  rintro vi w12 ⟨hi2, he12⟩
  rw [Abs.exTwo_insts] at hi2
  have hsl : InstsAt w12 vi _ := OwR.slF (enc := Abs.Inst.enc) (fun _ => rfl) hi2
  obtain ⟨oi2, ci2, rfl, _⟩ := hi2.form
  obtain ⟨ai, rfl⟩ := hsl.addr (by simp)
  refine Sg ?_
  refine K.ian 1 rfl (by simp) ?_
  refine Sg ?_
  refine K.ldA (hsl.at 1 (by simp)) rfl ?_
  refine Sg ?_
  refine K.eqS (sig := Abs.sigNode) (xs := (⟨0, 2⟩ : Abs.Inst).enc) (ys := (⟨0, 2⟩ : Abs.Inst).enc) (by kernel_rfl) (Abs.conf_inst _) (Abs.conf_inst _) fun r hr => ?_
  obtain rfl := hr.2 rfl
  refine Sg ?_
  exact ⟨by first | trivial | rfl, E5 ((((((he6.trans he7).trans he8).trans he9).trans he10).trans he11).trans he12)⟩
end Go.Proofs.YtbbaokmelkiemaaGreatDoor
end
section
/- Processes: the laws on scopes and on instances, walked. -/
set_option maxRecDepth 8000
set_option maxHeartbeats 3200000
namespace Abs
end Abs
namespace Go.Proofs.YtbbaokmelkiemaaGreatDoor
open Go Go.RowKit Lite
end Go.Proofs.YtbbaokmelkiemaaGreatDoor
end
section
/- Arguments opened: nodes, acts, commands, processes, propositions, scopes, models. -/
set_option maxRecDepth 4000
namespace Lite
open Go Go.RowKit Go.ChangeShapes Go.WideShapes Go.Deep
section
variable {H : Type} {enc : TypeId × Value → H} {P : Program} {w : World} {base : Nat} {spare : Nat → Bool} {held : Bool}
/-- A struct of one-cell fields, read field by field, with each field's datum. -/
theorem fields2 {t : TypeId} {fs : Array Field} {n : Nat} {cs : List Value} {y : DataW H × List MemPlace} (ht : P.underlying t = some (.struct fs)) (hone : oneCellFields P fs = true) (hC : P.cellsOf t = fs.size)
    (h : DataW.trod enc P w base spare held n t cs = some y) : cs.length = fs.size ∧ ∃ n' ds, y.1 = .agg ds ∧ ∀ (j : Nat) (f : Field), fs[j]? = some f → ∃ v z, cs[j]? = some v ∧ DataW.trod enc P w base spare held n' f.type [v] = some z ∧ ds[j]? = some z.1 := by
  obtain ⟨ys, n', hn', hy, hlen, hyl, hf⟩ := DataW.trod_struct ht h
  refine ⟨by omega, n', _, by rw [hy], fun j f hj => ?_⟩
  obtain ⟨ho, hk⟩ := hone_of hone j f hj
  have hjl : j < fs.size := (Array.getElem?_eq_some_iff.1 hj).1
  have hv : cs[j]? = some (cs[j]'(by omega)) := List.getElem?_eq_getElem (by omega)
  have h1 := hf j f hj
  rw [ho, hk] at h1
  have hone' : (cs.drop j).take 1 = [cs[j]'(by omega)] := by
    rw [List.drop_eq_getElem_cons (by omega)]
    rfl
  rw [hone', List.getElem?_eq_getElem (l := ys) (by omega)] at h1
  exact ⟨_, _, hv, h1, by rw [List.getElem?_map, List.getElem?_eq_getElem (by omega)]; rfl⟩
/-- All that is read of a datum is no more than a machine holds. -/
def Small (P : Program) (t : TypeId) (d : DataW H) : Prop := ∀ q ∈ d.weights P t, q ≤ reachBytes
theorem Small.field {t u : TypeId} {fs : Array Field} {ds : List (DataW H)} {j : Nat} {d : DataW H} {f : Field} (h : Small P t (.agg ds)) (ht : P.underlying t = some (.struct fs)) (hf : fs[j]? = some f) (hu : f.type = u) (hd : ds[j]? = some d) : Small P u d := by
  subst hu
  intro q hq
  refine h q ?_
  simp only [DataW.weights, ht]
  exact DataW.weights_mem_each (j := j) (by simp [hf]) hd q hq
end
end Lite
namespace Go.Proofs.YtbbaokmelkiemaaGreatDoor
open Go Go.RowKit Lite Go.ChangeShapes
variable {H : Type} {enc : TypeId × Value → H} {w : World} {cs : List Value} {n : Nat} {y : DataW H × List MemPlace} {v : Value}
theorem wf_inI {z : Int} (h : (Lit.int .i64 z).wf = true) : Abs.inI z := by
  simp only [Lit.wf, Bool.and_eq_true, decide_eq_true_eq] at h
  exact ⟨h.1, h.2⟩
theorem node_el (h : DataW.trod enc Tryz.prog w 0 (fun _ => true) true n T.api_Node cs = some y) : ∃ x : Abs.Node, cs = x.enc ∧ x.ok := by
  obtain ⟨hl, n', ds, _, hf⟩ := fields2 (t := T.api_Node) rfl (by kernel_rfl) (by kernel_rfl) h
  match cs, hl with
  | [c0, c1], _ =>
    obtain ⟨_, _, e0, h0, _⟩ := hf 0 _ rfl
    obtain ⟨_, _, e1, h1, _⟩ := hf 1 _ rfl
    cases e0; cases e1
    obtain ⟨z0, e0, _, k0⟩ := DataW.trod_int (k := .i64) (by kernel_rfl) h0
    obtain ⟨z1, e1, _, k1⟩ := DataW.trod_int (k := .i64) (by kernel_rfl) h1
    cases e0; cases e1
    exact ⟨⟨z0, z1⟩, rfl, wf_inI k0, wf_inI k1⟩
end Go.Proofs.YtbbaokmelkiemaaGreatDoor
end
section
/- Arguments opened: models, with what their sizes tell. -/
set_option maxRecDepth 4000
namespace Lite
open Go Go.RowKit Go.ChangeShapes Go.WideShapes Go.Deep
section
variable {H : Type} {enc : TypeId × Value → H} {P : Program} {w : World} {base : Nat} {spare : Nat → Bool} {held : Bool}
theorem weights_mem_all {e : TypeId} : ∀ {ds : List (DataW H)} {d : DataW H}, d ∈ ds → ∀ n ∈ d.weights P e, n ∈ DataW.weightsAll P e ds
  | [], _, h => by cases h
  | x :: r, d, h => fun n hn => by
    simp only [DataW.weightsAll]
    rcases List.mem_cons.1 h with rfl | h
    · exact List.mem_append_left _ hn
    · exact List.mem_append_right _ (weights_mem_all h n hn)
/-- A cell that holds a slice whose elements are read each by R, and are good where the datum is small. -/
theorem cell_slG {α : Type} {R : World → Addr → α → Prop} {G : α → Prop} {t e : TypeId} {v : Value} {n : Nat} {z : DataW H × List MemPlace} (sz B : Nat) (ht : P.underlying t = some (.slice e)) (hC : P.cellsOf e = sz) (hB : P.bytesOf e = B)
    (hR : ∀ (a : Addr) (cs : List Value) (n : Nat) (y : DataW H × List MemPlace), CellsAt w a cs → cs.length = sz → DataW.trod enc P w 0 (fun _ => true) true n e cs = some y → ∃ x, R w a x ∧ (Small P e y.1 → G x))
    (h : DataW.trod enc P w 0 (fun _ => true) true n t [v] = some z) : ∃ xs, SlR sz R w v xs ∧ (Small P t z.1 → Abs.big xs.length B ∧ ∀ x ∈ xs, G x) := by
  rcases open_slice ht h with ⟨hcs, _⟩ | ⟨a, len, cap, m, n, D, Pl, hcs, hb, hl, hm, hmm, hx, hi⟩
  · simp at hcs
    subst hcs
    exact ⟨[], SlR.nil, fun _ => ⟨by simp [Abs.big], fun x hx => by cases hx⟩⟩
  · simp at hcs
    subst hcs
    simp only [if_true] at hmm
    subst hmm
    obtain ⟨xs, hxl, hxs⟩ := list_of len (fun i x => R w (a.add (i * sz)) x ∧ (Small P e (D i) → G x)) fun i hi' => by
      obtain ⟨cs', hc, ht'⟩ := hi i (by omega)
      rw [hC] at hc
      obtain ⟨_, hcl, hat⟩ := World.cells?_some hc
      refine hR _ cs' n _ (fun j u hj => ?_) hcl ht'
      have hjl' : j < sz := hcl ▸ (List.getElem?_eq_some_iff.1 hj).1
      rw [← hj]
      exact hat j hjl'
    refine ⟨xs, ⟨some a, _, by rw [hxl], by omega, hm, fun _ => rfl, fun a' ha i hi => by injection ha with ha; subst ha; exact (hxs i hi).1⟩, fun hs => ⟨?_, fun x hx' => ?_⟩⟩
    · have h1 := hs ((len + (m - len)) * P.bytesOf e) (by rw [hx]; simp [DataW.weights, ht])
      have h2 : len * B ≤ (len + (m - len)) * P.bytesOf e := by rw [hB]; exact Nat.mul_le_mul_right _ (by omega)
      have h3 : reachBytes = 140737488351232 := rfl
      unfold Abs.big
      rw [hxl]
      omega
    · obtain ⟨i, hi', rfl⟩ := List.mem_iff_getElem.1 hx'
      refine (hxs i hi').2 fun q hq => hs q ?_
      rw [hx]
      simp only [DataW.weights, ht]
      refine List.mem_cons_of_mem _ (List.mem_append_left _ (weights_mem_all ?_ q hq))
      exact List.mem_map.2 ⟨i, by simp; omega, rfl⟩
theorem open_stG {r : Reach} {b0 : Nat} {t : TypeId} {fs : Array Field} {v : Value} {d : DataW H} {p : List MemPlace} (ht : P.underlying t = some (.struct fs))
    (hval : Value.okWide P w r b0 t v) (h : DataW.Trod enc P w base spare held t v d p) : ∃ cs n, v = .agg cs ∧ DataW.trod enc P w base spare held n t cs.toList = some (d, p) := by
  obtain ⟨cs, rfl, hsz⟩ := okWide_struct ht hval
  obtain ⟨fuel, hf⟩ := h
  exact ⟨cs, fuel, rfl, hf⟩
end
end Lite
namespace Go.Proofs.YtbbaokmelkiemaaGreatDoor
open Go Go.RowKit Lite Go.ChangeShapes
variable {H : Type} {enc : TypeId × Value → H} {w : World} {cs : List Value} {n : Nat} {y : DataW H × List MemPlace} {v : Value}
theorem gscalar (h : DataW.trod enc Tryz.prog w 0 (fun _ => true) true n T.api_Scalar cs = some y) : ∃ x : Abs.Scalar, cs = x.enc ∧ Abs.strOk x.name ∧ x.good := by
  obtain ⟨hl, n', ds, _, hf⟩ := fields2 (t := T.api_Scalar) rfl (by kernel_rfl) (by kernel_rfl) h
  match cs, hl with
  | [c0, c1], _ =>
    obtain ⟨_, _, e0, h0, _⟩ := hf 0 _ rfl
    obtain ⟨_, _, e1, h1, _⟩ := hf 1 _ rfl
    cases e0; cases e1
    obtain ⟨s, e0, _, hs⟩ := DataW.trod_string (by kernel_rfl) h0
    obtain ⟨z, e1, _, k1⟩ := DataW.trod_int (k := .i64) (by kernel_rfl) h1
    cases e0; cases e1
    exact ⟨⟨s, z⟩, rfl, hs, ⟨wf_inI k1⟩⟩
theorem gvar (h : DataW.trod enc Tryz.prog w 0 (fun _ => true) true n T.api_Var cs = some y) : ∃ x : Abs.Var, cs = x.enc ∧ Abs.strOk x.name ∧ x.good := by
  obtain ⟨hl, n', ds, _, hf⟩ := fields2 (t := T.api_Var) rfl (by kernel_rfl) (by kernel_rfl) h
  match cs, hl with
  | [c0, c1, c2, c3, c4, c5], _ =>
    obtain ⟨_, _, e0, h0, _⟩ := hf 0 _ rfl
    obtain ⟨_, _, e1, h1, _⟩ := hf 1 _ rfl
    obtain ⟨_, _, e2, h2, _⟩ := hf 2 _ rfl
    obtain ⟨_, _, e3, h3, _⟩ := hf 3 _ rfl
    obtain ⟨_, _, e4, h4, _⟩ := hf 4 _ rfl
    obtain ⟨_, _, e5, h5, _⟩ := hf 5 _ rfl
    cases e0; cases e1; cases e2; cases e3; cases e4; cases e5
    obtain ⟨s, e0, _, hs⟩ := DataW.trod_string (by kernel_rfl) h0
    obtain ⟨z1, e1, _, k1⟩ := DataW.trod_int (k := .i64) (by kernel_rfl) h1
    obtain ⟨z2, e2, _, k2⟩ := DataW.trod_int (k := .i64) (by kernel_rfl) h2
    obtain ⟨z3, e3, _, k3⟩ := DataW.trod_int (k := .i64) (by kernel_rfl) h3
    obtain ⟨z4, e4, _, k4⟩ := DataW.trod_int (k := .i64) (by kernel_rfl) h4
    obtain ⟨z5, e5, _, k5⟩ := DataW.trod_int (k := .i64) (by kernel_rfl) h5
    cases e0; cases e1; cases e2; cases e3; cases e4; cases e5
    exact ⟨⟨s, z1, z2, z3, z4, z5⟩, rfl, hs, ⟨wf_inI k1, wf_inI k2, wf_inI k3, wf_inI k4, wf_inI k5⟩⟩
theorem gchan (h : DataW.trod enc Tryz.prog w 0 (fun _ => true) true n T.api_Chan cs = some y) : ∃ x : Abs.Chan, cs = x.enc ∧ Abs.strOk x.name ∧ x.good := by
  obtain ⟨hl, n', ds, _, hf⟩ := fields2 (t := T.api_Chan) rfl (by kernel_rfl) (by kernel_rfl) h
  match cs, hl with
  | [c0, c1, c2, c3, c4, c5], _ =>
    obtain ⟨_, _, e0, h0, _⟩ := hf 0 _ rfl
    obtain ⟨_, _, e1, h1, _⟩ := hf 1 _ rfl
    obtain ⟨_, _, e2, h2, _⟩ := hf 2 _ rfl
    obtain ⟨_, _, e3, h3, _⟩ := hf 3 _ rfl
    obtain ⟨_, _, e4, h4, _⟩ := hf 4 _ rfl
    obtain ⟨_, _, e5, h5, _⟩ := hf 5 _ rfl
    cases e0; cases e1; cases e2; cases e3; cases e4; cases e5
    obtain ⟨s, e0, _, hs⟩ := DataW.trod_string (by kernel_rfl) h0
    obtain ⟨z1, e1, _, k1⟩ := DataW.trod_int (k := .i64) (by kernel_rfl) h1
    obtain ⟨z2, e2, _, k2⟩ := DataW.trod_int (k := .i64) (by kernel_rfl) h2
    obtain ⟨z3, e3, _, k3⟩ := DataW.trod_int (k := .i64) (by kernel_rfl) h3
    obtain ⟨z4, e4, _, k4⟩ := DataW.trod_int (k := .i64) (by kernel_rfl) h4
    obtain ⟨z5, e5, _⟩ := DataW.trod_bool (by kernel_rfl) h5
    cases e0; cases e1; cases e2; cases e3; cases e4; cases e5
    exact ⟨⟨s, z1, z2, z3, z4, z5⟩, rfl, hs, ⟨wf_inI k1, wf_inI k2, wf_inI k3, wf_inI k4⟩⟩
theorem gnodes (h : DataW.trod enc Tryz.prog w 0 (fun _ => true) true n T.sl_api_Node [v] = some y) : ∃ l, Abs.Nodes w v l ∧ (Small Tryz.prog T.sl_api_Node y.1 → Abs.big l.length 16 ∧ ∀ x ∈ l, True) :=
  cell_slG (G := fun _ => True) (e := T.api_Node) 2 16 (by kernel_rfl) (by kernel_rfl) (by kernel_rfl) (fun a cs n y hc hl ht => by obtain ⟨x, rfl, hx⟩ := node_el ht; exact ⟨x, ⟨hc, hx⟩, fun _ => trivial⟩) h
theorem gscalars (h : DataW.trod enc Tryz.prog w 0 (fun _ => true) true n T.sl_api_Scalar [v] = some y) : ∃ l, Abs.Scalars w v l ∧ (Small Tryz.prog T.sl_api_Scalar y.1 → Abs.big l.length 24 ∧ ∀ x ∈ l, x.good) :=
  cell_slG (e := T.api_Scalar) 2 24 (by kernel_rfl) (by kernel_rfl) (by kernel_rfl) (fun a cs n y hc hl ht => by obtain ⟨x, rfl, hx, hg⟩ := gscalar ht; exact ⟨x, ⟨hc, hx⟩, fun _ => hg⟩) h
theorem gvars (h : DataW.trod enc Tryz.prog w 0 (fun _ => true) true n T.sl_api_Var [v] = some y) : ∃ l, Abs.Vars w v l ∧ (Small Tryz.prog T.sl_api_Var y.1 → Abs.big l.length 56 ∧ ∀ x ∈ l, x.good) :=
  cell_slG (e := T.api_Var) 6 56 (by kernel_rfl) (by kernel_rfl) (by kernel_rfl) (fun a cs n y hc hl ht => by obtain ⟨x, rfl, hx, hg⟩ := gvar ht; exact ⟨x, ⟨hc, hx⟩, fun _ => hg⟩) h
theorem gchans (h : DataW.trod enc Tryz.prog w 0 (fun _ => true) true n T.sl_api_Chan [v] = some y) : ∃ l, Abs.Chans w v l ∧ (Small Tryz.prog T.sl_api_Chan y.1 → Abs.big l.length 56 ∧ ∀ x ∈ l, x.good) :=
  cell_slG (e := T.api_Chan) 6 56 (by kernel_rfl) (by kernel_rfl) (by kernel_rfl) (fun a cs n y hc hl ht => by obtain ⟨x, rfl, hx, hg⟩ := gchan ht; exact ⟨x, ⟨hc, hx⟩, fun _ => hg⟩) h
theorem gact {a : Addr} (hc : CellsAt w a cs) (h : DataW.trod enc Tryz.prog w 0 (fun _ => true) true n T.api_Act cs = some y) : ∃ x : Abs.Act, Abs.RAct w a x ∧ (Small Tryz.prog T.api_Act y.1 → x.good) := by
  obtain ⟨hl, n', ds, he, hf⟩ := fields2 (t := T.api_Act) rfl (by kernel_rfl) (by kernel_rfl) h
  match cs, hl with
  | [c0, c1, c2, c3, c4], _ =>
    obtain ⟨_, _, e0, h0, _⟩ := hf 0 _ rfl
    obtain ⟨_, _, e1, h1, _⟩ := hf 1 _ rfl
    obtain ⟨_, _, e2, h2, _⟩ := hf 2 _ rfl
    obtain ⟨_, _, e3, h3, d3⟩ := hf 3 _ rfl
    obtain ⟨_, _, e4, h4, d4⟩ := hf 4 _ rfl
    cases e0; cases e1; cases e2; cases e3; cases e4
    obtain ⟨z0, e0, _, k0⟩ := DataW.trod_int (k := .i64) (by kernel_rfl) h0
    obtain ⟨z1, e1, _, k1⟩ := DataW.trod_int (k := .i64) (by kernel_rfl) h1
    obtain ⟨z2, e2, _, k2⟩ := DataW.trod_int (k := .i64) (by kernel_rfl) h2
    cases e0; cases e1; cases e2
    obtain ⟨l3, h3, g3⟩ := gnodes h3
    obtain ⟨l4, h4, g4⟩ := gnodes h4
    exact ⟨⟨z0, z1, z2, l3, l4⟩, ⟨c3, c4, hc, h3, h4⟩, fun hs => by
      rw [he] at hs
      exact ⟨wf_inI k0, wf_inI k1, wf_inI k2, (g3 (hs.field rfl rfl rfl d3)).1, (g4 (hs.field rfl rfl rfl d4)).1⟩⟩
theorem gacts (h : DataW.trod enc Tryz.prog w 0 (fun _ => true) true n T.sl_api_Act [v] = some y) : ∃ l, Abs.Acts w v l ∧ (Small Tryz.prog T.sl_api_Act y.1 → Abs.big l.length 72 ∧ ∀ x ∈ l, x.good) :=
  cell_slG (e := T.api_Act) 5 72 (by kernel_rfl) (by kernel_rfl) (by kernel_rfl) (fun a cs n y hc hl ht => gact hc ht) h
theorem gcmd (h : DataW.trod enc Tryz.prog w 0 (fun _ => true) true n T.api_Cmd cs = some y) : ∃ x : Abs.Cmd, Abs.CmdIs w cs x ∧ (Small Tryz.prog T.api_Cmd y.1 → x.good) := by
  obtain ⟨hl, n', ds, he, hf⟩ := fields2 (t := T.api_Cmd) rfl (by kernel_rfl) (by kernel_rfl) h
  match cs, hl with
  | [c0, c1, c2, c3, c4, c5], _ =>
    obtain ⟨_, _, e0, h0, _⟩ := hf 0 _ rfl
    obtain ⟨_, _, e1, h1, _⟩ := hf 1 _ rfl
    obtain ⟨_, _, e2, h2, _⟩ := hf 2 _ rfl
    obtain ⟨_, _, e3, h3, d3⟩ := hf 3 _ rfl
    obtain ⟨_, _, e4, h4, d4⟩ := hf 4 _ rfl
    obtain ⟨_, _, e5, h5, _⟩ := hf 5 _ rfl
    cases e0; cases e1; cases e2; cases e3; cases e4; cases e5
    obtain ⟨s, e0, _, hs⟩ := DataW.trod_string (by kernel_rfl) h0
    obtain ⟨z1, e1, _, k1⟩ := DataW.trod_int (k := .i64) (by kernel_rfl) h1
    obtain ⟨z2, e2, _, k2⟩ := DataW.trod_int (k := .i64) (by kernel_rfl) h2
    obtain ⟨z5, e5, _⟩ := DataW.trod_bool (by kernel_rfl) h5
    cases e0; cases e1; cases e2; cases e5
    obtain ⟨l3, h3, g3⟩ := gnodes h3
    obtain ⟨l4, h4, g4⟩ := gacts h4
    exact ⟨⟨s, z1, z2, l3, l4, z5⟩, ⟨hs, c3, c4, rfl, h3, h4⟩, fun hs => by
      rw [he] at hs
      exact ⟨wf_inI k1, wf_inI k2, (g3 (hs.field rfl rfl rfl d3)).1, (g4 (hs.field rfl rfl rfl d4)).1, (g4 (hs.field rfl rfl rfl d4)).2⟩⟩
theorem gcmds (h : DataW.trod enc Tryz.prog w 0 (fun _ => true) true n T.sl_api_Cmd [v] = some y) : ∃ l, Abs.Cmds w v l ∧ (Small Tryz.prog T.sl_api_Cmd y.1 → Abs.big l.length 88 ∧ ∀ x ∈ l, x.good) :=
  cell_slG (e := T.api_Cmd) 6 88 (by kernel_rfl) (by kernel_rfl) (by kernel_rfl) (fun a cs n y hc hl ht => by
    obtain ⟨x, ⟨h0, vg, va, rfl, h1, h2⟩, hg⟩ := gcmd ht
    exact ⟨x, ⟨h0, vg, va, hc, h1, h2⟩, hg⟩) h
theorem gproc (h : DataW.trod enc Tryz.prog w 0 (fun _ => true) true n T.api_Proc cs = some y) : ∃ x : Abs.Proc, Abs.ProcIs w cs x ∧ (Small Tryz.prog T.api_Proc y.1 → x.good) := by
  obtain ⟨hl, n', ds, he, hf⟩ := fields2 (t := T.api_Proc) rfl (by kernel_rfl) (by kernel_rfl) h
  match cs, hl with
  | [c0, c1, c2, c3, c4], _ =>
    obtain ⟨_, _, e0, h0, _⟩ := hf 0 _ rfl
    obtain ⟨_, _, e1, h1, _⟩ := hf 1 _ rfl
    obtain ⟨_, _, e2, h2, _⟩ := hf 2 _ rfl
    obtain ⟨_, _, e3, h3, d3⟩ := hf 3 _ rfl
    obtain ⟨_, _, e4, h4, d4⟩ := hf 4 _ rfl
    cases e0; cases e1; cases e2; cases e3; cases e4
    obtain ⟨s, e0, _, hs⟩ := DataW.trod_string (by kernel_rfl) h0
    obtain ⟨z1, e1, _, k1⟩ := DataW.trod_int (k := .i64) (by kernel_rfl) h1
    obtain ⟨z2, e2, _, k2⟩ := DataW.trod_int (k := .i64) (by kernel_rfl) h2
    cases e0; cases e1; cases e2
    obtain ⟨l3, h3, g3⟩ := gvars h3
    obtain ⟨l4, h4, g4⟩ := gcmds h4
    exact ⟨⟨s, z1, z2, l3, l4⟩, ⟨hs, c3, c4, rfl, h3, h4⟩, fun hs => by
      rw [he] at hs
      exact ⟨wf_inI k1, wf_inI k2, (g3 (hs.field rfl rfl rfl d3)).1, (g4 (hs.field rfl rfl rfl d4)).1, (g3 (hs.field rfl rfl rfl d3)).2, (g4 (hs.field rfl rfl rfl d4)).2⟩⟩
theorem gprocs (h : DataW.trod enc Tryz.prog w 0 (fun _ => true) true n T.sl_api_Proc [v] = some y) : ∃ l, Abs.Procs w v l ∧ (Small Tryz.prog T.sl_api_Proc y.1 → Abs.big l.length 80 ∧ ∀ x ∈ l, x.good) :=
  cell_slG (e := T.api_Proc) 5 80 (by kernel_rfl) (by kernel_rfl) (by kernel_rfl) (fun a cs n y hc hl ht => by
    obtain ⟨x, ⟨h0, vg, va, rfl, h1, h2⟩, hg⟩ := gproc ht
    exact ⟨x, ⟨h0, vg, va, hc, h1, h2⟩, hg⟩) h
theorem gprps (h : DataW.trod enc Tryz.prog w 0 (fun _ => true) true n T.sl_api_Prop [v] = some y) : ∃ l, Abs.Prps w v l ∧ (Small Tryz.prog T.sl_api_Prop y.1 → Abs.big l.length 40 ∧ ∀ x ∈ l, x.good) :=
  cell_slG (e := T.api_Prop) 2 40 (by kernel_rfl) (by kernel_rfl) (by kernel_rfl) (fun a cs n y hc hl ht => by
    obtain ⟨hl, n', ds, he, hf⟩ := fields2 (t := T.api_Prop) rfl (by kernel_rfl) (by kernel_rfl) ht
    match cs, hl with
    | [c0, c1], _ =>
      obtain ⟨_, _, e0, h0, _⟩ := hf 0 _ rfl
      obtain ⟨_, _, e1, h1, d1⟩ := hf 1 _ rfl
      cases e0; cases e1
      obtain ⟨s, e0, _, hs⟩ := DataW.trod_string (by kernel_rfl) h0
      cases e0
      obtain ⟨l1, h1, g1⟩ := gnodes h1
      exact ⟨⟨s, l1⟩, ⟨hs, c1, hc, h1⟩, fun hs => by rw [he] at hs; exact ⟨(g1 (hs.field rfl rfl rfl d1)).1⟩⟩) h
theorem open_proc {r : Reach} {b0 : Nat} {v : Value} {d : DataW H} {p : List MemPlace} (hval : Value.okWide Tryz.prog w r b0 T.api_Proc v) (h : DataW.Trod enc Tryz.prog w 0 (fun _ => true) true T.api_Proc v d p) (hs : Small Tryz.prog T.api_Proc d) :
    ∃ cs x, v = .agg cs.toArray ∧ Abs.ProcIs w cs x ∧ x.good := by
  obtain ⟨cs, n, rfl, ht⟩ := open_stG (t := T.api_Proc) rfl hval h
  obtain ⟨x, h1, h2⟩ := gproc ht
  exact ⟨cs.toList, x, by simp, h1, h2 hs⟩
theorem open_modelG {r : Reach} {b0 : Nat} {v : Value} {d : DataW H} {p : List MemPlace} (hval : Value.okWide Tryz.prog w r b0 T.api_Model v) (h : DataW.Trod enc Tryz.prog w 0 (fun _ => true) true T.api_Model v d p) (hs : Small Tryz.prog T.api_Model d) :
    ∃ cs m, v = .agg cs.toArray ∧ Abs.ModelIs w cs m ∧ m.good := by
  obtain ⟨cs, n, rfl, ht⟩ := open_stG (t := T.api_Model) rfl hval h
  obtain ⟨hl, n', ds, rfl, hf⟩ := fields2 (t := T.api_Model) rfl (by kernel_rfl) (by kernel_rfl) ht
  obtain ⟨cs⟩ := cs
  match cs, hl with
  | [c0, c1, c2, c3, c4], _ =>
    obtain ⟨_, _, e0, h0, d0⟩ := hf 0 _ rfl
    obtain ⟨_, _, e1, h1, d1⟩ := hf 1 _ rfl
    obtain ⟨_, _, e2, h2, d2⟩ := hf 2 _ rfl
    obtain ⟨_, _, e3, h3, d3⟩ := hf 3 _ rfl
    obtain ⟨_, _, e4, h4, d4⟩ := hf 4 _ rfl
    cases e0; cases e1; cases e2; cases e3; cases e4
    obtain ⟨l0, r0, b0⟩ := gscalars h0
    obtain ⟨l1, r1, b1⟩ := gvars h1
    obtain ⟨l2, r2, b2⟩ := gchans h2
    obtain ⟨l3, r3, b3⟩ := gprocs h3
    obtain ⟨l4, r4, b4⟩ := gprps h4
    have k0 := b0 (hs.field rfl rfl rfl d0)
    have k1 := b1 (hs.field rfl rfl rfl d1)
    have k2 := b2 (hs.field rfl rfl rfl d2)
    have k3 := b3 (hs.field rfl rfl rfl d3)
    have k4 := b4 (hs.field rfl rfl rfl d4)
    exact ⟨[c0, c1, c2, c3, c4], ⟨l0, l1, l2, l3, l4⟩, rfl, ⟨⟨c0, c1, c2, c3, c4, rfl, r0, r1, r2, r3, r4⟩⟩, ⟨k0.1, k1.1, k2.1, k3.1, k4.1, k0.2, k1.2, k2.2, k3.2, k4.2⟩⟩
end Go.Proofs.YtbbaokmelkiemaaGreatDoor
end
section
/- The walks of the laws on processes, from what their arguments are. -/
set_option maxRecDepth 4000
namespace Go.Proofs.YtbbaokmelkiemaaGreatDoor
open Go Go.RowKit Lite Go.ChangeShapes Go.WideShapes Go.Deep
end Go.Proofs.YtbbaokmelkiemaaGreatDoor
end
section
/- Plain: what the reference finds is what is declared. No program in sight. -/
namespace Abs
open Go
theorem thing_k (a b : Int) (s : Scope) : (thing a b s).2 = ((kscalar a s).2 && (kscalar b s).2) ∧ ((thing a b s).2 = true → (thing a b s).1 = (if a = 0 then 0 else 1 + a)) := by
  unfold thing kscalar
  constructor
  · (repeat' split) <;> first | rfl | (exfalso; omega)
  · intro h
    (repeat' split) <;> first | rfl | (exfalso; omega) | simp_all
theorem declared_none {l : List Var} {n : Int} {s : Scope} (h : (kvar l n s).2.2 = false) : declared l n s = none := by
  unfold declared
  unfold kvar at h
  cases hn : nth l n with
  | none => rfl
  | some v =>
    rw [hn] at h
    simp only at h ⊢
    rw [if_neg]
    rw [(thing_k _ _ _).1, h]
    simp
theorem declared_some {l : List Var} {n : Int} {s : Scope} {x : Var} (h : (kvar l n s).2.2 = true) (hx : nth l n = some x) : declared l n s = some (x, if x.scalar = 0 then 0 else 1 + x.scalar) ∧ 0 ≤ x.scalar ∧ x.scalar ≤ s.scalars.length ∧ 0 ≤ x.over ∧ x.over ≤ s.scalars.length := by
  unfold kvar at h
  rw [hx] at h
  simp only at h
  have ht : (thing x.scalar x.over s).2 = true := by rw [(thing_k _ _ _).1]; exact h
  refine ⟨?_, ?_⟩
  · unfold declared
    rw [hx]
    simp only
    rw [if_pos ht, (thing_k _ _ _).2 ht]
  · unfold thing at ht
    split at ht
    · cases ht
    · omega
theorem channel_none {n : Int} {s : Scope} (h : ¬ (kLen n s).2 = 0) : channel n s = none := by
  unfold channel
  unfold kLen at h
  cases hn : nth s.chans n with
  | none => rfl
  | some c =>
    rw [hn] at h
    simp only at h ⊢
    rw [if_neg]
    intro ht
    rw [(thing_k _ _ _).1] at ht
    simp only [Bool.and_eq_true] at ht
    rw [if_pos ht.1] at h
    exact h rfl
theorem channel_some {n : Int} {s : Scope} {c : Chan} (h : (kLen n s).2 = 0) (hx : nth s.chans n = some c) : channel n s = some (if c.scalar = 0 then 0 else 1 + c.scalar) ∧ 0 ≤ c.scalar ∧ c.scalar ≤ s.scalars.length := by
  unfold kLen at h
  rw [hx] at h
  simp only at h
  have h1 : (kscalar c.scalar s).2 = true := by
    cases hk : (kscalar c.scalar s).2 with
    | true => rfl
    | false => rw [hk] at h; simp at h
  have ht : (thing c.scalar 0 s).2 = true := by rw [(thing_k _ _ _).1, h1]; simp [kscalar]
  refine ⟨?_, ?_⟩
  · unfold channel
    rw [hx]
    simp only
    rw [if_pos ht, (thing_k _ _ _).2 ht]
  · unfold thing at ht
    split at ht
    · cases ht
    · omega
/-- A plain variable's kind, or why it has none. -/
def plainE (l : List Var) (n : Int) (s : Scope) : Int × Int := match declared l n s with | none => (0, 8) | some (v, k) => if v.over ≠ 0 then (0, 9) else (k, 0)
def itemE (a : Act) (s : Scope) : Int := match declared s.vars a.to s with | none => 8 | some (v, k) => if v.over = 0 then 9 else if asked a.index (1 + v.over) s ≠ 0 then asked a.index (1 + v.over) s else asked a.value k s
/-- As the reference asks. -/
def ractE (a : Act) (s : Scope) (comm : Bool) : Int :=
  if a.kind < 1 ∨ 5 < a.kind then 3
  else if a.kind = 2 then itemE a s
  else if a.kind = 1 ∨ a.kind = 3 then (if (plainE (if a.kind = 3 then s.locals else s.vars) a.to s).2 ≠ 0 then (plainE (if a.kind = 3 then s.locals else s.vars) a.to s).2 else asked a.value (plainE (if a.kind = 3 then s.locals else s.vars) a.to s).1 s)
  else if comm = true then 7
  else match channel a.to s with
    | none => 8
    | some k => if a.kind = 4 then asked a.value k s else if (plainE s.locals a.loc s).2 ≠ 0 then (plainE s.locals a.loc s).2 else if (plainE s.locals a.loc s).1 ≠ k then 9 else 0
theorem ractE_eq (a : Act) (s : Scope) (comm : Bool) : ractE a s comm = if talks a && comm then 7 else actE a s := by
  by_cases h0 : a.kind < 1 ∨ 5 < a.kind
  · have ht : talks a = false := by unfold talks; rw [decide_eq_false_iff_not]; omega
    unfold ractE actE
    rw [if_pos h0, ht, if_neg (by omega : ¬ (a.kind = 1 ∨ a.kind = 2 ∨ a.kind = 3)), if_neg (by omega : ¬ (a.kind = 4 ∨ a.kind = 5))]
    simp
  by_cases h2 : a.kind = 2
  · have ht : talks a = false := by unfold talks; rw [decide_eq_false_iff_not]; omega
    unfold ractE actE
    rw [if_neg h0, if_pos h2, ht, if_pos (by omega : a.kind = 1 ∨ a.kind = 2 ∨ a.kind = 3)]
    simp only [Bool.false_and, Bool.false_eq_true, if_false]
    rw [if_neg (by omega : ¬ a.kind = 3)]
    unfold itemE
    cases hd : declared s.vars a.to s with
    | none => rfl
    | some q =>
      obtain ⟨v, k⟩ := q
      simp only [h2, true_and]
      by_cases hv : v.over = 0
      · simp [hv]
      · simp [hv]
  by_cases h1 : a.kind = 1 ∨ a.kind = 3
  · have ht : talks a = false := by unfold talks; rw [decide_eq_false_iff_not]; omega
    unfold ractE actE
    rw [if_neg h0, if_neg h2, if_pos h1, ht, if_pos (by omega : a.kind = 1 ∨ a.kind = 2 ∨ a.kind = 3)]
    simp only [Bool.false_and, Bool.false_eq_true, if_false]
    unfold plainE
    cases hd : declared (if a.kind = 3 then s.locals else s.vars) a.to s with
    | none => simp
    | some q =>
      obtain ⟨v, k⟩ := q
      simp only [h2, false_and, if_false]
      by_cases hv : v.over = 0
      · simp [hv]
      · simp [hv]
  · have h45 : a.kind = 4 ∨ a.kind = 5 := by omega
    have ht : talks a = true := by unfold talks; rw [decide_eq_true_eq]; omega
    unfold ractE actE
    rw [if_neg h0, if_neg h2, if_neg h1, ht, if_neg (by omega : ¬ (a.kind = 1 ∨ a.kind = 2 ∨ a.kind = 3)), if_pos h45]
    simp only [Bool.true_and]
    cases comm with
    | true => simp
    | false =>
      simp only [Bool.false_eq_true, if_false]
      cases hc : channel a.to s with
      | none => rfl
      | some k =>
        simp only
        by_cases h4 : a.kind = 4
        · rw [if_pos h4, if_neg (by omega : ¬ a.kind = 5)]
        · rw [if_neg h4, if_pos (by omega : a.kind = 5)]
          unfold plainE receives
          cases hd : declared s.locals a.loc s with
          | none => simp
          | some q =>
            obtain ⟨v, k'⟩ := q
            simp only
            by_cases hv : v.over = 0
            · simp [hv]
            · simp [hv]
end Abs
end
section
/- How many parts operations take; the ends of rows. -/
set_option maxRecDepth 4000
set_option linter.unusedSimpArgs false
set_option maxHeartbeats 1600000
namespace Go.Proofs.YtbbaokmelkiemaaGreatDoor
open Go Go.RowKit Lite

theorem takes_r (op : Int) (w : World) : Ret Tryz.prog F.lariatref10_Takes #[.int .i64 op] w fun v w' => v = .int .i64 (Abs.nparts op) ∧ w' = w := by
  have key : ∀ n : Int, (if op = 3 then (1 : Int) else if 1 ≤ op ∧ op ≤ 8 then 0 else if op = 9 ∨ op = 10 then 1 else if 11 ≤ op ∧ op ≤ 19 then 2 else -1) = n → Abs.nparts op = n := fun _ h => h
  refine K.start hmix E.lariatref10_Takes (args := [_]) (Nat.le_of_ble_eq_true rfl) ?_
  dsimp only [C.lariatref10_Takes,yt,yi,yb,yp,yr,ye,yc,yv,yg,ym,yw,ya,yl,yx,ys,yn]
  (repeat' first
 | (refine K.cond (fun _ => ?_) (fun _ => ?_) <;> try (exfalso; omega))
 | (refine K.condb (fun _ => ?_) (fun _ => ?_))
 | assumption
 | exact Ext.refl _
 | refine Ext.trans ?_ (by assumption)
 | refine K.wrap (by omega) ?_
 | refine K.ldb (by assumption) ?_ rfl ?_
 | refine K.ldb0 (by assumption) ?_ rfl ?_
 | refine K.ldE (by assumption) ?_ (by omega) rfl ?_
 | refine K.ldE0 (by assumption) ?_ (by omega) rfl ?_
 | refine K.ldAE (by assumption) ?_ (by omega) rfl ?_
 | refine K.iaC (by omega) ?_
 | refine K.condT (by first | assumption | omega) ?_
 | refine K.condF (by first | assumption | omega) ?_
 | refine K.condbT (by assumption) ?_
 | refine K.condbF (by assumption) ?_
 | simp -dsimp only [LL,B9,Nat.reduceAdd,Nat.reduceEqDiff,reduceIte,reduceCtorEq,Bool.false_eq_true])
  all_goals
    refine ⟨?_, by first | trivial | rfl⟩
    congr 1
    refine (key _ ?_).symm
    (repeat' split) <;> first | rfl | (exfalso; omega)
theorem np0 {x : Int} (h : Abs.nparts x = 0) : 1 ≤ x ∧ x ≤ 8 ∧ x ≠ 3 ∧ Abs.opOf x = none := by
  have h1 : 1 ≤ x ∧ x ≤ 8 ∧ x ≠ 3 := by unfold Abs.nparts at h; (repeat' split at h) <;> omega
  exact ⟨h1.1, h1.2.1, h1.2.2, Abs.opOf_none (by simp [Abs.isOp]; omega)⟩
theorem np1 {x : Int} (h : Abs.nparts x = 1) : x = 3 ∨ x = 9 ∨ x = 10 := by unfold Abs.nparts at h; (repeat' split at h) <;> omega
theorem np2 {x : Int} (h : Abs.nparts x = 2) : 11 ≤ x ∧ x ≤ 19 := by unfold Abs.nparts at h; (repeat' split at h) <;> omega
theorem opOf_some {x : Int} (h : 9 ≤ x ∧ x ≤ 19) : ∃ o, Abs.opOf x = some o ∧ o.parts = Abs.nparts x := by
  cases ho : Abs.opOf x with
  | some o => exact ⟨o, rfl, (Abs.opOf_parts ho).1⟩
  | none =>
    exfalso
    unfold Abs.opOf at ho
    (repeat' split at ho)
    all_goals first | (cases ho; done) | omega
theorem drop1 {st : List Int} (h : 1 ≤ st.length) : st.drop (st.length - 1) = [st[st.length - 1]] := by
  rw [List.drop_eq_getElem_cons (by omega), List.drop_eq_nil_of_le (by omega)]
theorem drop2 {st : List Int} (h : 2 ≤ st.length) : st.drop (st.length - 2) = [st[st.length - 2], st[st.length - 1]] := by
  rw [List.drop_eq_getElem_cons (by omega)]
  have e : st.length - 2 + 1 = st.length - 1 := by omega
  congr 1
  rw [e]
  exact drop1 (by omega)
theorem encI1 : ∀ y, ∀ u ∈ encI y, u.oneCell' = true := fun y u h => by simp [encI] at h; subst h; rfl
end Go.Proofs.YtbbaokmelkiemaaGreatDoor
end
section
/- What the reference says of kinds. -/
set_option maxRecDepth 4000
set_option linter.unusedSimpArgs false
set_option maxHeartbeats 4000000
namespace Go.Proofs.YtbbaokmelkiemaaGreatDoor
open Go Go.RowKit Lite

theorem rscalar_r (n : Int) (cs : List Value) (s : Abs.Scope) (w : World) (h : Abs.ScopeIs w cs s) :
    Ret Tryz.prog F.lariatref10_scalar #[.int .i64 n, .agg cs.toArray] w fun v w' => v = .bool (Abs.kscalar n s).2 ∧ Ext w w' := by
  obtain ⟨a0, c0, a1, c1, a2, c2, a3, c3, a4, c4, rfl, h0, h1, h2, h3, h4, l0, l1, l2, l3, l4⟩ := h.form
  refine K.start hmix E.lariatref10_scalar (args := [_, _]) (Nat.le_of_ble_eq_true rfl) ?_
  dsimp only [C.lariatref10_scalar,yt,yi,yb,yp,yr,ye,yc,yv,yg,ym,yw,ya,yl,yx,ys,yn]
  (repeat' first
 | assumption
 | exact Ext.refl _
 | refine Ext.trans ?_ (by assumption)
 | refine K.wrap (by omega) ?_
 | refine K.ldb (by assumption) ?_ rfl ?_
 | refine K.ldb0 (by assumption) ?_ rfl ?_
 | refine K.ldE (by assumption) ?_ (by omega) rfl ?_
 | refine K.ldE0 (by assumption) ?_ (by omega) rfl ?_
 | refine K.ldAE (by assumption) ?_ (by omega) rfl ?_
 | refine K.iaC (by omega) ?_
 | refine K.condT (by first | assumption | omega) ?_
 | refine K.condF (by first | assumption | omega) ?_
 | refine K.condbT (by assumption) ?_
 | refine K.condbF (by assumption) ?_
 | simp -dsimp only [LL,B9,Nat.reduceAdd,Nat.reduceEqDiff,reduceIte,reduceCtorEq,Bool.false_eq_true])
  refine K.new fun w1 b hb he1 hc1 => ?_
  (repeat' first
 | (refine K.cond (fun _ => ?_) (fun _ => ?_) <;> try (exfalso; omega))
 | (refine K.condb (fun _ => ?_) (fun _ => ?_))
 | assumption
 | exact Ext.refl _
 | refine Ext.trans ?_ (by assumption)
 | refine K.wrap (by omega) ?_
 | refine K.ldb (by assumption) ?_ rfl ?_
 | refine K.ldb0 (by assumption) ?_ rfl ?_
 | refine K.ldE (by assumption) ?_ (by omega) rfl ?_
 | refine K.ldE0 (by assumption) ?_ (by omega) rfl ?_
 | refine K.ldAE (by assumption) ?_ (by omega) rfl ?_
 | refine K.iaC (by omega) ?_
 | refine K.condT (by first | assumption | omega) ?_
 | refine K.condF (by first | assumption | omega) ?_
 | refine K.condbT (by assumption) ?_
 | refine K.condbF (by assumption) ?_
 | simp -dsimp only [LL,B9,Nat.reduceAdd,Nat.reduceEqDiff,reduceIte,reduceCtorEq,Bool.false_eq_true])
  all_goals
    refine ⟨?_, by (repeat' first | assumption | exact Ext.refl _ | refine Ext.trans ?_ (by assumption))⟩
    congr 1
    unfold Abs.kscalar
    (repeat' split) <;> first | rfl | (exfalso; omega) | (simp; omega)
def kindOf (n : Int) : Int := if n = 0 then 0 else 1 + n
theorem kindOf_r (n : Int) (w : World) (h : 0 ≤ n ∧ n ≤ 4611686018427387904) : Ret Tryz.prog F.lariatref10_KindOf #[.int .i64 n] w fun v w' => v = .int .i64 (kindOf n) ∧ w' = w := by
  refine K.start hmix E.lariatref10_KindOf (args := [_]) (Nat.le_of_ble_eq_true rfl) ?_
  dsimp only [C.lariatref10_KindOf,yt,yi,yb,yp,yr,ye,yc,yv,yg,ym,yw,ya,yl,yx,ys,yn]
  (repeat' first
 | (refine K.cond (fun _ => ?_) (fun _ => ?_) <;> try (exfalso; omega))
 | (refine K.condb (fun _ => ?_) (fun _ => ?_))
 | assumption
 | exact Ext.refl _
 | refine Ext.trans ?_ (by assumption)
 | refine K.wrap (by omega) ?_
 | refine K.ldb (by assumption) ?_ rfl ?_
 | refine K.ldb0 (by assumption) ?_ rfl ?_
 | refine K.ldE (by assumption) ?_ (by omega) rfl ?_
 | refine K.ldE0 (by assumption) ?_ (by omega) rfl ?_
 | refine K.ldAE (by assumption) ?_ (by omega) rfl ?_
 | refine K.iaC (by omega) ?_
 | refine K.condT (by first | assumption | omega) ?_
 | refine K.condF (by first | assumption | omega) ?_
 | refine K.condbT (by assumption) ?_
 | refine K.condbF (by assumption) ?_
 | simp -dsimp only [LL,B9,Nat.reduceAdd,Nat.reduceEqDiff,reduceIte,reduceCtorEq,Bool.false_eq_true])
  all_goals
    refine ⟨?_, by first | trivial | rfl⟩
    congr 1
    unfold kindOf
    split <;> first | rfl | (exfalso; omega)
theorem kscalar_ok {n : Int} {s : Abs.Scope} (h : (Abs.kscalar n s).2 = true) : 0 ≤ n ∧ n ≤ s.scalars.length ∧ (Abs.kscalar n s).1 = kindOf n := by
  unfold Abs.kscalar kindOf at *
  (repeat' split at h) <;> (repeat' split) <;> first | (cases h; done) | (refine ⟨by omega, by omega, ?_⟩; first | rfl | omega) | (exfalso; omega)
theorem rvariable_r (v : Value) (l : List Abs.Var) (n : Int) (cs : List Value) (s : Abs.Scope) (w : World) (hl : Abs.Vars w v l) (h : Abs.ScopeIs w cs s) :
    Ret Tryz.prog F.lariatref10_Variable #[v, .int .i64 n, .agg cs.toArray] w fun v w' =>
      (∃ x : Abs.Var, v = .tuple #[.agg x.enc.toArray, .bool (Abs.kvar l n s).2.2] ∧ ((Abs.kvar l n s).2.2 = true → Abs.nth l n = some x)) ∧ Ext w w' := by
  obtain ⟨a0, c0, a1, c1, a2, c2, a3, c3, a4, c4, rfl, _⟩ := h.form
  obtain ⟨oa, cap, rfl, hlen⟩ := hl.form
  refine K.start hmix E.lariatref10_Variable (args := [_, _, _]) (Nat.le_of_ble_eq_true rfl) ?_
  dsimp only [C.lariatref10_Variable,yt,yi,yb,yp,yr,ye,yc,yv,yg,ym,yw,ya,yl,yx,ys,yn]
  (repeat' first
 | assumption
 | exact Ext.refl _
 | refine Ext.trans ?_ (by assumption)
 | refine K.wrap (by omega) ?_
 | refine K.ldb (by assumption) ?_ rfl ?_
 | refine K.ldb0 (by assumption) ?_ rfl ?_
 | refine K.ldE (by assumption) ?_ (by omega) rfl ?_
 | refine K.ldE0 (by assumption) ?_ (by omega) rfl ?_
 | refine K.ldAE (by assumption) ?_ (by omega) rfl ?_
 | refine K.iaC (by omega) ?_
 | refine K.condT (by first | assumption | omega) ?_
 | refine K.condF (by first | assumption | omega) ?_
 | refine K.condbT (by assumption) ?_
 | refine K.condbF (by assumption) ?_
 | simp -dsimp only [LL,B9,Nat.reduceAdd,Nat.reduceEqDiff,reduceIte,reduceCtorEq,Bool.false_eq_true])
  refine K.new fun w1 b hb he1 hc1 => ?_
  (repeat' first
 | assumption
 | exact Ext.refl _
 | refine Ext.trans ?_ (by assumption)
 | refine K.wrap (by omega) ?_
 | refine K.ldb (by assumption) ?_ rfl ?_
 | refine K.ldb0 (by assumption) ?_ rfl ?_
 | refine K.ldE (by assumption) ?_ (by omega) rfl ?_
 | refine K.ldE0 (by assumption) ?_ (by omega) rfl ?_
 | refine K.ldAE (by assumption) ?_ (by omega) rfl ?_
 | refine K.iaC (by omega) ?_
 | refine K.condT (by first | assumption | omega) ?_
 | refine K.condF (by first | assumption | omega) ?_
 | refine K.condbT (by assumption) ?_
 | refine K.condbF (by assumption) ?_
 | simp -dsimp only [LL,B9,Nat.reduceAdd,Nat.reduceEqDiff,reduceIte,reduceCtorEq,Bool.false_eq_true])
  refine K.new fun w2 b2 hb2 he2 hc2 => ?_
  have he := he1.trans he2
  have hs2 := he2.obj hc1
  (repeat' first
 | assumption
 | exact Ext.refl _
 | refine Ext.trans ?_ (by assumption)
 | refine K.wrap (by omega) ?_
 | refine K.ldb (by assumption) ?_ rfl ?_
 | refine K.ldb0 (by assumption) ?_ rfl ?_
 | refine K.ldE (by assumption) ?_ (by omega) rfl ?_
 | refine K.ldE0 (by assumption) ?_ (by omega) rfl ?_
 | refine K.ldAE (by assumption) ?_ (by omega) rfl ?_
 | refine K.iaC (by omega) ?_
 | refine K.condT (by first | assumption | omega) ?_
 | refine K.condF (by first | assumption | omega) ?_
 | refine K.condbT (by assumption) ?_
 | refine K.condbF (by assumption) ?_
 | simp -dsimp only [LL,B9,Nat.reduceAdd,Nat.reduceEqDiff,reduceIte,reduceCtorEq,Bool.false_eq_true])
  refine K.cond (fun g1 => ?_) (fun g1 => ?_)
  · have hk : (Abs.kvar l n s).2.2 = false := by rw [Abs.kvar, Abs.nth_none (.inl g1)]
    (repeat' first
 | assumption
 | exact Ext.refl _
 | refine Ext.trans ?_ (by assumption)
 | refine K.wrap (by omega) ?_
 | refine K.ldb (by assumption) ?_ rfl ?_
 | refine K.ldb0 (by assumption) ?_ rfl ?_
 | refine K.ldE (by assumption) ?_ (by omega) rfl ?_
 | refine K.ldE0 (by assumption) ?_ (by omega) rfl ?_
 | refine K.ldAE (by assumption) ?_ (by omega) rfl ?_
 | refine K.iaC (by omega) ?_
 | refine K.condT (by first | assumption | omega) ?_
 | refine K.condF (by first | assumption | omega) ?_
 | refine K.condbT (by assumption) ?_
 | refine K.condbF (by assumption) ?_
 | simp -dsimp only [LL,B9,Nat.reduceAdd,Nat.reduceEqDiff,reduceIte,reduceCtorEq,Bool.false_eq_true])
    intro w3 he3
    (repeat' first
 | assumption
 | exact Ext.refl _
 | refine Ext.trans ?_ (by assumption)
 | refine K.wrap (by omega) ?_
 | refine K.ldb (by assumption) ?_ rfl ?_
 | refine K.ldb0 (by assumption) ?_ rfl ?_
 | refine K.ldE (by assumption) ?_ (by omega) rfl ?_
 | refine K.ldE0 (by assumption) ?_ (by omega) rfl ?_
 | refine K.ldAE (by assumption) ?_ (by omega) rfl ?_
 | refine K.iaC (by omega) ?_
 | refine K.condT (by first | assumption | omega) ?_
 | refine K.condF (by first | assumption | omega) ?_
 | refine K.condbT (by assumption) ?_
 | refine K.condbF (by assumption) ?_
 | simp -dsimp only [LL,B9,Nat.reduceAdd,Nat.reduceEqDiff,reduceIte,reduceCtorEq,Bool.false_eq_true])
    refine K.bld (cs := (⟨⟨#[]⟩, 0, 0, 0, 0, 0⟩ : Abs.Var).enc) (by simp [fillC, Abs.Var.enc]) ?_
    (repeat' first
 | assumption
 | exact Ext.refl _
 | refine Ext.trans ?_ (by assumption)
 | refine K.wrap (by omega) ?_
 | refine K.ldb (by assumption) ?_ rfl ?_
 | refine K.ldb0 (by assumption) ?_ rfl ?_
 | refine K.ldE (by assumption) ?_ (by omega) rfl ?_
 | refine K.ldE0 (by assumption) ?_ (by omega) rfl ?_
 | refine K.ldAE (by assumption) ?_ (by omega) rfl ?_
 | refine K.iaC (by omega) ?_
 | refine K.condT (by first | assumption | omega) ?_
 | refine K.condF (by first | assumption | omega) ?_
 | refine K.condbT (by assumption) ?_
 | refine K.condbF (by assumption) ?_
 | simp -dsimp only [LL,B9,Nat.reduceAdd,Nat.reduceEqDiff,reduceIte,reduceCtorEq,Bool.false_eq_true])
    refine K.stAb (cs := (⟨⟨#[]⟩, 0, 0, 0, 0, 0⟩ : Abs.Var).enc.toArray) (he3.obj hc2) rfl rfl (by simp [Abs.Var.enc, Value.oneCell']) fun w4 hw4 hc4 => ?_
    (repeat' first
 | assumption
 | exact Ext.refl _
 | refine Ext.trans ?_ (by assumption)
 | refine K.wrap (by omega) ?_
 | refine K.ldb (by assumption) ?_ rfl ?_
 | refine K.ldb0 (by assumption) ?_ rfl ?_
 | refine K.ldE (by assumption) ?_ (by omega) rfl ?_
 | refine K.ldE0 (by assumption) ?_ (by omega) rfl ?_
 | refine K.ldAE (by assumption) ?_ (by omega) rfl ?_
 | refine K.iaC (by omega) ?_
 | refine K.condT (by first | assumption | omega) ?_
 | refine K.condF (by first | assumption | omega) ?_
 | refine K.condbT (by assumption) ?_
 | refine K.condbF (by assumption) ?_
 | simp -dsimp only [LL,B9,Nat.reduceAdd,Nat.reduceEqDiff,reduceIte,reduceCtorEq,Bool.false_eq_true])
    refine K.ldAb (c := Abs.Var.enc _) hc4 (Ext.refl _) rfl ?_
    (repeat' first
 | assumption
 | exact Ext.refl _
 | refine Ext.trans ?_ (by assumption)
 | refine K.wrap (by omega) ?_
 | refine K.ldb (by assumption) ?_ rfl ?_
 | refine K.ldb0 (by assumption) ?_ rfl ?_
 | refine K.ldE (by assumption) ?_ (by omega) rfl ?_
 | refine K.ldE0 (by assumption) ?_ (by omega) rfl ?_
 | refine K.ldAE (by assumption) ?_ (by omega) rfl ?_
 | refine K.iaC (by omega) ?_
 | refine K.condT (by first | assumption | omega) ?_
 | refine K.condF (by first | assumption | omega) ?_
 | refine K.condbT (by assumption) ?_
 | refine K.condbF (by assumption) ?_
 | simp -dsimp only [LL,B9,Nat.reduceAdd,Nat.reduceEqDiff,reduceIte,reduceCtorEq,Bool.false_eq_true])
    exact ⟨⟨_, by rw [hk], by rw [hk]; intro h; cases h⟩, hw4.ext (he.trans he3) (by have := he1.size; omega)⟩
  (repeat' first
 | assumption
 | exact Ext.refl _
 | refine Ext.trans ?_ (by assumption)
 | refine K.wrap (by omega) ?_
 | refine K.ldb (by assumption) ?_ rfl ?_
 | refine K.ldb0 (by assumption) ?_ rfl ?_
 | refine K.ldE (by assumption) ?_ (by omega) rfl ?_
 | refine K.ldE0 (by assumption) ?_ (by omega) rfl ?_
 | refine K.ldAE (by assumption) ?_ (by omega) rfl ?_
 | refine K.iaC (by omega) ?_
 | refine K.condT (by first | assumption | omega) ?_
 | refine K.condF (by first | assumption | omega) ?_
 | refine K.condbT (by assumption) ?_
 | refine K.condbF (by assumption) ?_
 | simp -dsimp only [LL,B9,Nat.reduceAdd,Nat.reduceEqDiff,reduceIte,reduceCtorEq,Bool.false_eq_true])
  refine K.cond (fun g2 => ?_) (fun g2 => ?_)
  · have hk : (Abs.kvar l n s).2.2 = false := by rw [Abs.kvar, Abs.nth_none (.inr (by omega))]
    (repeat' first
 | assumption
 | exact Ext.refl _
 | refine Ext.trans ?_ (by assumption)
 | refine K.wrap (by omega) ?_
 | refine K.ldb (by assumption) ?_ rfl ?_
 | refine K.ldb0 (by assumption) ?_ rfl ?_
 | refine K.ldE (by assumption) ?_ (by omega) rfl ?_
 | refine K.ldE0 (by assumption) ?_ (by omega) rfl ?_
 | refine K.ldAE (by assumption) ?_ (by omega) rfl ?_
 | refine K.iaC (by omega) ?_
 | refine K.condT (by first | assumption | omega) ?_
 | refine K.condF (by first | assumption | omega) ?_
 | refine K.condbT (by assumption) ?_
 | refine K.condbF (by assumption) ?_
 | simp -dsimp only [LL,B9,Nat.reduceAdd,Nat.reduceEqDiff,reduceIte,reduceCtorEq,Bool.false_eq_true])
    intro w3 he3
    (repeat' first
 | assumption
 | exact Ext.refl _
 | refine Ext.trans ?_ (by assumption)
 | refine K.wrap (by omega) ?_
 | refine K.ldb (by assumption) ?_ rfl ?_
 | refine K.ldb0 (by assumption) ?_ rfl ?_
 | refine K.ldE (by assumption) ?_ (by omega) rfl ?_
 | refine K.ldE0 (by assumption) ?_ (by omega) rfl ?_
 | refine K.ldAE (by assumption) ?_ (by omega) rfl ?_
 | refine K.iaC (by omega) ?_
 | refine K.condT (by first | assumption | omega) ?_
 | refine K.condF (by first | assumption | omega) ?_
 | refine K.condbT (by assumption) ?_
 | refine K.condbF (by assumption) ?_
 | simp -dsimp only [LL,B9,Nat.reduceAdd,Nat.reduceEqDiff,reduceIte,reduceCtorEq,Bool.false_eq_true])
    refine K.bld (cs := (⟨⟨#[]⟩, 0, 0, 0, 0, 0⟩ : Abs.Var).enc) (by simp [fillC, Abs.Var.enc]) ?_
    (repeat' first
 | assumption
 | exact Ext.refl _
 | refine Ext.trans ?_ (by assumption)
 | refine K.wrap (by omega) ?_
 | refine K.ldb (by assumption) ?_ rfl ?_
 | refine K.ldb0 (by assumption) ?_ rfl ?_
 | refine K.ldE (by assumption) ?_ (by omega) rfl ?_
 | refine K.ldE0 (by assumption) ?_ (by omega) rfl ?_
 | refine K.ldAE (by assumption) ?_ (by omega) rfl ?_
 | refine K.iaC (by omega) ?_
 | refine K.condT (by first | assumption | omega) ?_
 | refine K.condF (by first | assumption | omega) ?_
 | refine K.condbT (by assumption) ?_
 | refine K.condbF (by assumption) ?_
 | simp -dsimp only [LL,B9,Nat.reduceAdd,Nat.reduceEqDiff,reduceIte,reduceCtorEq,Bool.false_eq_true])
    refine K.stAb (cs := (⟨⟨#[]⟩, 0, 0, 0, 0, 0⟩ : Abs.Var).enc.toArray) (he3.obj hc2) rfl rfl (by simp [Abs.Var.enc, Value.oneCell']) fun w4 hw4 hc4 => ?_
    (repeat' first
 | assumption
 | exact Ext.refl _
 | refine Ext.trans ?_ (by assumption)
 | refine K.wrap (by omega) ?_
 | refine K.ldb (by assumption) ?_ rfl ?_
 | refine K.ldb0 (by assumption) ?_ rfl ?_
 | refine K.ldE (by assumption) ?_ (by omega) rfl ?_
 | refine K.ldE0 (by assumption) ?_ (by omega) rfl ?_
 | refine K.ldAE (by assumption) ?_ (by omega) rfl ?_
 | refine K.iaC (by omega) ?_
 | refine K.condT (by first | assumption | omega) ?_
 | refine K.condF (by first | assumption | omega) ?_
 | refine K.condbT (by assumption) ?_
 | refine K.condbF (by assumption) ?_
 | simp -dsimp only [LL,B9,Nat.reduceAdd,Nat.reduceEqDiff,reduceIte,reduceCtorEq,Bool.false_eq_true])
    refine K.ldAb (c := Abs.Var.enc _) hc4 (Ext.refl _) rfl ?_
    (repeat' first
 | assumption
 | exact Ext.refl _
 | refine Ext.trans ?_ (by assumption)
 | refine K.wrap (by omega) ?_
 | refine K.ldb (by assumption) ?_ rfl ?_
 | refine K.ldb0 (by assumption) ?_ rfl ?_
 | refine K.ldE (by assumption) ?_ (by omega) rfl ?_
 | refine K.ldE0 (by assumption) ?_ (by omega) rfl ?_
 | refine K.ldAE (by assumption) ?_ (by omega) rfl ?_
 | refine K.iaC (by omega) ?_
 | refine K.condT (by first | assumption | omega) ?_
 | refine K.condF (by first | assumption | omega) ?_
 | refine K.condbT (by assumption) ?_
 | refine K.condbF (by assumption) ?_
 | simp -dsimp only [LL,B9,Nat.reduceAdd,Nat.reduceEqDiff,reduceIte,reduceCtorEq,Bool.false_eq_true])
    exact ⟨⟨_, by rw [hk], by rw [hk]; intro h; cases h⟩, hw4.ext (he.trans he3) (by have := he1.size; omega)⟩
  obtain ⟨i, rfl⟩ := Int.eq_ofNat_of_zero_le (show 0 ≤ n by omega)
  have hi : i < l.length := by omega
  have hn : Abs.nth l (i : Int) = some l[i] := by rw [Abs.nth_some (by omega) (by omega)]; simp only [Int.toNat_natCast]
  obtain ⟨a, rfl⟩ := hl.addr (by omega)
  (repeat' first
 | assumption
 | exact Ext.refl _
 | refine Ext.trans ?_ (by assumption)
 | refine K.wrap (by omega) ?_
 | refine K.ldb (by assumption) ?_ rfl ?_
 | refine K.ldb0 (by assumption) ?_ rfl ?_
 | refine K.ldE (by assumption) ?_ (by omega) rfl ?_
 | refine K.ldE0 (by assumption) ?_ (by omega) rfl ?_
 | refine K.ldAE (by assumption) ?_ (by omega) rfl ?_
 | refine K.iaC (by omega) ?_
 | refine K.condT (by first | assumption | omega) ?_
 | refine K.condF (by first | assumption | omega) ?_
 | refine K.condbT (by assumption) ?_
 | refine K.condbF (by assumption) ?_
 | simp -dsimp only [LL,B9,Nat.reduceAdd,Nat.reduceEqDiff,reduceIte,reduceCtorEq,Bool.false_eq_true])
  refine K.ldAb (c := [_, _, _, _, _, _]) hs2 (Ext.refl _) rfl ?_
  (repeat' first
 | assumption
 | exact Ext.refl _
 | refine Ext.trans ?_ (by assumption)
 | refine K.wrap (by omega) ?_
 | refine K.ldb (by assumption) ?_ rfl ?_
 | refine K.ldb0 (by assumption) ?_ rfl ?_
 | refine K.ldE (by assumption) ?_ (by omega) rfl ?_
 | refine K.ldE0 (by assumption) ?_ (by omega) rfl ?_
 | refine K.ldAE (by assumption) ?_ (by omega) rfl ?_
 | refine K.iaC (by omega) ?_
 | refine K.condT (by first | assumption | omega) ?_
 | refine K.condF (by first | assumption | omega) ?_
 | refine K.condbT (by assumption) ?_
 | refine K.condbF (by assumption) ?_
 | simp -dsimp only [LL,B9,Nat.reduceAdd,Nat.reduceEqDiff,reduceIte,reduceCtorEq,Bool.false_eq_true])
  refine K.qfn _ (fun w' e => rscalar_r _ _ s w' (h.ext (he.trans e))) ?_
  (repeat' first
 | assumption
 | exact Ext.refl _
 | refine Ext.trans ?_ (by assumption)
 | refine K.wrap (by omega) ?_
 | refine K.ldb (by assumption) ?_ rfl ?_
 | refine K.ldb0 (by assumption) ?_ rfl ?_
 | refine K.ldE (by assumption) ?_ (by omega) rfl ?_
 | refine K.ldE0 (by assumption) ?_ (by omega) rfl ?_
 | refine K.ldAE (by assumption) ?_ (by omega) rfl ?_
 | refine K.iaC (by omega) ?_
 | refine K.condT (by first | assumption | omega) ?_
 | refine K.condF (by first | assumption | omega) ?_
 | refine K.condbT (by assumption) ?_
 | refine K.condbF (by assumption) ?_
 | simp -dsimp only [LL,B9,Nat.reduceAdd,Nat.reduceEqDiff,reduceIte,reduceCtorEq,Bool.false_eq_true])
  refine K.condb (fun g3 => ?_) (fun g3 => ?_)
  rotate_left
  · have hk : (Abs.kvar l i s).2.2 = false := by rw [Abs.kvar, hn]; simp only [g3, Bool.false_and]
    (repeat' first
 | assumption
 | exact Ext.refl _
 | refine Ext.trans ?_ (by assumption)
 | refine K.wrap (by omega) ?_
 | refine K.ldb (by assumption) ?_ rfl ?_
 | refine K.ldb0 (by assumption) ?_ rfl ?_
 | refine K.ldE (by assumption) ?_ (by omega) rfl ?_
 | refine K.ldE0 (by assumption) ?_ (by omega) rfl ?_
 | refine K.ldAE (by assumption) ?_ (by omega) rfl ?_
 | refine K.iaC (by omega) ?_
 | refine K.condT (by first | assumption | omega) ?_
 | refine K.condF (by first | assumption | omega) ?_
 | refine K.condbT (by assumption) ?_
 | refine K.condbF (by assumption) ?_
 | simp -dsimp only [LL,B9,Nat.reduceAdd,Nat.reduceEqDiff,reduceIte,reduceCtorEq,Bool.false_eq_true])
    intro w3 he3
    (repeat' first
 | assumption
 | exact Ext.refl _
 | refine Ext.trans ?_ (by assumption)
 | refine K.wrap (by omega) ?_
 | refine K.ldb (by assumption) ?_ rfl ?_
 | refine K.ldb0 (by assumption) ?_ rfl ?_
 | refine K.ldE (by assumption) ?_ (by omega) rfl ?_
 | refine K.ldE0 (by assumption) ?_ (by omega) rfl ?_
 | refine K.ldAE (by assumption) ?_ (by omega) rfl ?_
 | refine K.iaC (by omega) ?_
 | refine K.condT (by first | assumption | omega) ?_
 | refine K.condF (by first | assumption | omega) ?_
 | refine K.condbT (by assumption) ?_
 | refine K.condbF (by assumption) ?_
 | simp -dsimp only [LL,B9,Nat.reduceAdd,Nat.reduceEqDiff,reduceIte,reduceCtorEq,Bool.false_eq_true])
    refine K.bld (cs := (⟨⟨#[]⟩, 0, 0, 0, 0, 0⟩ : Abs.Var).enc) (by simp [fillC, Abs.Var.enc]) ?_
    (repeat' first
 | assumption
 | exact Ext.refl _
 | refine Ext.trans ?_ (by assumption)
 | refine K.wrap (by omega) ?_
 | refine K.ldb (by assumption) ?_ rfl ?_
 | refine K.ldb0 (by assumption) ?_ rfl ?_
 | refine K.ldE (by assumption) ?_ (by omega) rfl ?_
 | refine K.ldE0 (by assumption) ?_ (by omega) rfl ?_
 | refine K.ldAE (by assumption) ?_ (by omega) rfl ?_
 | refine K.iaC (by omega) ?_
 | refine K.condT (by first | assumption | omega) ?_
 | refine K.condF (by first | assumption | omega) ?_
 | refine K.condbT (by assumption) ?_
 | refine K.condbF (by assumption) ?_
 | simp -dsimp only [LL,B9,Nat.reduceAdd,Nat.reduceEqDiff,reduceIte,reduceCtorEq,Bool.false_eq_true])
    refine K.stAb (cs := (⟨⟨#[]⟩, 0, 0, 0, 0, 0⟩ : Abs.Var).enc.toArray) (he3.obj hc2) rfl rfl (by simp [Abs.Var.enc, Value.oneCell']) fun w4 hw4 hc4 => ?_
    (repeat' first
 | assumption
 | exact Ext.refl _
 | refine Ext.trans ?_ (by assumption)
 | refine K.wrap (by omega) ?_
 | refine K.ldb (by assumption) ?_ rfl ?_
 | refine K.ldb0 (by assumption) ?_ rfl ?_
 | refine K.ldE (by assumption) ?_ (by omega) rfl ?_
 | refine K.ldE0 (by assumption) ?_ (by omega) rfl ?_
 | refine K.ldAE (by assumption) ?_ (by omega) rfl ?_
 | refine K.iaC (by omega) ?_
 | refine K.condT (by first | assumption | omega) ?_
 | refine K.condF (by first | assumption | omega) ?_
 | refine K.condbT (by assumption) ?_
 | refine K.condbF (by assumption) ?_
 | simp -dsimp only [LL,B9,Nat.reduceAdd,Nat.reduceEqDiff,reduceIte,reduceCtorEq,Bool.false_eq_true])
    refine K.ldAb (c := Abs.Var.enc _) hc4 (Ext.refl _) rfl ?_
    (repeat' first
 | assumption
 | exact Ext.refl _
 | refine Ext.trans ?_ (by assumption)
 | refine K.wrap (by omega) ?_
 | refine K.ldb (by assumption) ?_ rfl ?_
 | refine K.ldb0 (by assumption) ?_ rfl ?_
 | refine K.ldE (by assumption) ?_ (by omega) rfl ?_
 | refine K.ldE0 (by assumption) ?_ (by omega) rfl ?_
 | refine K.ldAE (by assumption) ?_ (by omega) rfl ?_
 | refine K.iaC (by omega) ?_
 | refine K.condT (by first | assumption | omega) ?_
 | refine K.condF (by first | assumption | omega) ?_
 | refine K.condbT (by assumption) ?_
 | refine K.condbF (by assumption) ?_
 | simp -dsimp only [LL,B9,Nat.reduceAdd,Nat.reduceEqDiff,reduceIte,reduceCtorEq,Bool.false_eq_true])
    exact ⟨⟨_, by rw [hk], by rw [hk]; intro h; cases h⟩, hw4.ext (he.trans he3) (by have := he1.size; omega)⟩
  (repeat' first
 | assumption
 | exact Ext.refl _
 | refine Ext.trans ?_ (by assumption)
 | refine K.wrap (by omega) ?_
 | refine K.ldb (by assumption) ?_ rfl ?_
 | refine K.ldb0 (by assumption) ?_ rfl ?_
 | refine K.ldE (by assumption) ?_ (by omega) rfl ?_
 | refine K.ldE0 (by assumption) ?_ (by omega) rfl ?_
 | refine K.ldAE (by assumption) ?_ (by omega) rfl ?_
 | refine K.iaC (by omega) ?_
 | refine K.condT (by first | assumption | omega) ?_
 | refine K.condF (by first | assumption | omega) ?_
 | refine K.condbT (by assumption) ?_
 | refine K.condbF (by assumption) ?_
 | simp -dsimp only [LL,B9,Nat.reduceAdd,Nat.reduceEqDiff,reduceIte,reduceCtorEq,Bool.false_eq_true])
  refine K.ldAb (c := [_, _, _, _, _, _]) hs2 (Ext.refl _) rfl ?_
  (repeat' first
 | assumption
 | exact Ext.refl _
 | refine Ext.trans ?_ (by assumption)
 | refine K.wrap (by omega) ?_
 | refine K.ldb (by assumption) ?_ rfl ?_
 | refine K.ldb0 (by assumption) ?_ rfl ?_
 | refine K.ldE (by assumption) ?_ (by omega) rfl ?_
 | refine K.ldE0 (by assumption) ?_ (by omega) rfl ?_
 | refine K.ldAE (by assumption) ?_ (by omega) rfl ?_
 | refine K.iaC (by omega) ?_
 | refine K.condT (by first | assumption | omega) ?_
 | refine K.condF (by first | assumption | omega) ?_
 | refine K.condbT (by assumption) ?_
 | refine K.condbF (by assumption) ?_
 | simp -dsimp only [LL,B9,Nat.reduceAdd,Nat.reduceEqDiff,reduceIte,reduceCtorEq,Bool.false_eq_true])
  refine K.qfn _ (fun w' e => rscalar_r _ _ s w' (h.ext (he.trans e))) ?_
  (repeat' first
 | assumption
 | exact Ext.refl _
 | refine Ext.trans ?_ (by assumption)
 | refine K.wrap (by omega) ?_
 | refine K.ldb (by assumption) ?_ rfl ?_
 | refine K.ldb0 (by assumption) ?_ rfl ?_
 | refine K.ldE (by assumption) ?_ (by omega) rfl ?_
 | refine K.ldE0 (by assumption) ?_ (by omega) rfl ?_
 | refine K.ldAE (by assumption) ?_ (by omega) rfl ?_
 | refine K.iaC (by omega) ?_
 | refine K.condT (by first | assumption | omega) ?_
 | refine K.condF (by first | assumption | omega) ?_
 | refine K.condbT (by assumption) ?_
 | refine K.condbF (by assumption) ?_
 | simp -dsimp only [LL,B9,Nat.reduceAdd,Nat.reduceEqDiff,reduceIte,reduceCtorEq,Bool.false_eq_true])
  cases g4 : (Abs.kscalar l[i].over s).2 with
  | false =>
    have hk : (Abs.kvar l i s).2.2 = false := by rw [Abs.kvar, hn]; simp only [g4, Bool.and_false]
    (repeat' first
 | assumption
 | exact Ext.refl _
 | refine Ext.trans ?_ (by assumption)
 | refine K.wrap (by omega) ?_
 | refine K.ldb (by assumption) ?_ rfl ?_
 | refine K.ldb0 (by assumption) ?_ rfl ?_
 | refine K.ldE (by assumption) ?_ (by omega) rfl ?_
 | refine K.ldE0 (by assumption) ?_ (by omega) rfl ?_
 | refine K.ldAE (by assumption) ?_ (by omega) rfl ?_
 | refine K.iaC (by omega) ?_
 | refine K.condT (by first | assumption | omega) ?_
 | refine K.condF (by first | assumption | omega) ?_
 | refine K.condbT (by assumption) ?_
 | refine K.condbF (by assumption) ?_
 | simp -dsimp only [LL,B9,Nat.reduceAdd,Nat.reduceEqDiff,reduceIte,reduceCtorEq,Bool.false_eq_true])
    intro w3 he3
    (repeat' first
 | assumption
 | exact Ext.refl _
 | refine Ext.trans ?_ (by assumption)
 | refine K.wrap (by omega) ?_
 | refine K.ldb (by assumption) ?_ rfl ?_
 | refine K.ldb0 (by assumption) ?_ rfl ?_
 | refine K.ldE (by assumption) ?_ (by omega) rfl ?_
 | refine K.ldE0 (by assumption) ?_ (by omega) rfl ?_
 | refine K.ldAE (by assumption) ?_ (by omega) rfl ?_
 | refine K.iaC (by omega) ?_
 | refine K.condT (by first | assumption | omega) ?_
 | refine K.condF (by first | assumption | omega) ?_
 | refine K.condbT (by assumption) ?_
 | refine K.condbF (by assumption) ?_
 | simp -dsimp only [LL,B9,Nat.reduceAdd,Nat.reduceEqDiff,reduceIte,reduceCtorEq,Bool.false_eq_true])
    refine K.bld (cs := (⟨⟨#[]⟩, 0, 0, 0, 0, 0⟩ : Abs.Var).enc) (by simp [fillC, Abs.Var.enc]) ?_
    (repeat' first
 | assumption
 | exact Ext.refl _
 | refine Ext.trans ?_ (by assumption)
 | refine K.wrap (by omega) ?_
 | refine K.ldb (by assumption) ?_ rfl ?_
 | refine K.ldb0 (by assumption) ?_ rfl ?_
 | refine K.ldE (by assumption) ?_ (by omega) rfl ?_
 | refine K.ldE0 (by assumption) ?_ (by omega) rfl ?_
 | refine K.ldAE (by assumption) ?_ (by omega) rfl ?_
 | refine K.iaC (by omega) ?_
 | refine K.condT (by first | assumption | omega) ?_
 | refine K.condF (by first | assumption | omega) ?_
 | refine K.condbT (by assumption) ?_
 | refine K.condbF (by assumption) ?_
 | simp -dsimp only [LL,B9,Nat.reduceAdd,Nat.reduceEqDiff,reduceIte,reduceCtorEq,Bool.false_eq_true])
    refine K.stAb (cs := (⟨⟨#[]⟩, 0, 0, 0, 0, 0⟩ : Abs.Var).enc.toArray) (he3.obj hc2) rfl rfl (by simp [Abs.Var.enc, Value.oneCell']) fun w4 hw4 hc4 => ?_
    (repeat' first
 | assumption
 | exact Ext.refl _
 | refine Ext.trans ?_ (by assumption)
 | refine K.wrap (by omega) ?_
 | refine K.ldb (by assumption) ?_ rfl ?_
 | refine K.ldb0 (by assumption) ?_ rfl ?_
 | refine K.ldE (by assumption) ?_ (by omega) rfl ?_
 | refine K.ldE0 (by assumption) ?_ (by omega) rfl ?_
 | refine K.ldAE (by assumption) ?_ (by omega) rfl ?_
 | refine K.iaC (by omega) ?_
 | refine K.condT (by first | assumption | omega) ?_
 | refine K.condF (by first | assumption | omega) ?_
 | refine K.condbT (by assumption) ?_
 | refine K.condbF (by assumption) ?_
 | simp -dsimp only [LL,B9,Nat.reduceAdd,Nat.reduceEqDiff,reduceIte,reduceCtorEq,Bool.false_eq_true])
    refine K.ldAb (c := Abs.Var.enc _) hc4 (Ext.refl _) rfl ?_
    (repeat' first
 | assumption
 | exact Ext.refl _
 | refine Ext.trans ?_ (by assumption)
 | refine K.wrap (by omega) ?_
 | refine K.ldb (by assumption) ?_ rfl ?_
 | refine K.ldb0 (by assumption) ?_ rfl ?_
 | refine K.ldE (by assumption) ?_ (by omega) rfl ?_
 | refine K.ldE0 (by assumption) ?_ (by omega) rfl ?_
 | refine K.ldAE (by assumption) ?_ (by omega) rfl ?_
 | refine K.iaC (by omega) ?_
 | refine K.condT (by first | assumption | omega) ?_
 | refine K.condF (by first | assumption | omega) ?_
 | refine K.condbT (by assumption) ?_
 | refine K.condbF (by assumption) ?_
 | simp -dsimp only [LL,B9,Nat.reduceAdd,Nat.reduceEqDiff,reduceIte,reduceCtorEq,Bool.false_eq_true])
    exact ⟨⟨_, by rw [hk], by rw [hk]; intro h; cases h⟩, hw4.ext (he.trans he3) (by have := he1.size; omega)⟩
  | true =>
    have hk : (Abs.kvar l i s).2.2 = true := by rw [Abs.kvar, hn]; simp only [g3, g4, Bool.and_true]
    (repeat' first
 | assumption
 | exact Ext.refl _
 | refine Ext.trans ?_ (by assumption)
 | refine K.wrap (by omega) ?_
 | refine K.ldb (by assumption) ?_ rfl ?_
 | refine K.ldb0 (by assumption) ?_ rfl ?_
 | refine K.ldE (by assumption) ?_ (by omega) rfl ?_
 | refine K.ldE0 (by assumption) ?_ (by omega) rfl ?_
 | refine K.ldAE (by assumption) ?_ (by omega) rfl ?_
 | refine K.iaC (by omega) ?_
 | refine K.condT (by first | assumption | omega) ?_
 | refine K.condF (by first | assumption | omega) ?_
 | refine K.condbT (by assumption) ?_
 | refine K.condbF (by assumption) ?_
 | simp -dsimp only [LL,B9,Nat.reduceAdd,Nat.reduceEqDiff,reduceIte,reduceCtorEq,Bool.false_eq_true])
    intro w3 he3
    (repeat' first
 | assumption
 | exact Ext.refl _
 | refine Ext.trans ?_ (by assumption)
 | refine K.wrap (by omega) ?_
 | refine K.ldb (by assumption) ?_ rfl ?_
 | refine K.ldb0 (by assumption) ?_ rfl ?_
 | refine K.ldE (by assumption) ?_ (by omega) rfl ?_
 | refine K.ldE0 (by assumption) ?_ (by omega) rfl ?_
 | refine K.ldAE (by assumption) ?_ (by omega) rfl ?_
 | refine K.iaC (by omega) ?_
 | refine K.condT (by first | assumption | omega) ?_
 | refine K.condF (by first | assumption | omega) ?_
 | refine K.condbT (by assumption) ?_
 | refine K.condbF (by assumption) ?_
 | simp -dsimp only [LL,B9,Nat.reduceAdd,Nat.reduceEqDiff,reduceIte,reduceCtorEq,Bool.false_eq_true])
    refine K.stAb (cs := l[i].enc.toArray) (he3.obj hc2) rfl rfl (by simp [Abs.Var.enc, Value.oneCell']) fun w4 hw4 hc4 => ?_
    (repeat' first
 | assumption
 | exact Ext.refl _
 | refine Ext.trans ?_ (by assumption)
 | refine K.wrap (by omega) ?_
 | refine K.ldb (by assumption) ?_ rfl ?_
 | refine K.ldb0 (by assumption) ?_ rfl ?_
 | refine K.ldE (by assumption) ?_ (by omega) rfl ?_
 | refine K.ldE0 (by assumption) ?_ (by omega) rfl ?_
 | refine K.ldAE (by assumption) ?_ (by omega) rfl ?_
 | refine K.iaC (by omega) ?_
 | refine K.condT (by first | assumption | omega) ?_
 | refine K.condF (by first | assumption | omega) ?_
 | refine K.condbT (by assumption) ?_
 | refine K.condbF (by assumption) ?_
 | simp -dsimp only [LL,B9,Nat.reduceAdd,Nat.reduceEqDiff,reduceIte,reduceCtorEq,Bool.false_eq_true])
    refine K.ldAb (c := Abs.Var.enc _) hc4 (Ext.refl _) rfl ?_
    (repeat' first
 | assumption
 | exact Ext.refl _
 | refine Ext.trans ?_ (by assumption)
 | refine K.wrap (by omega) ?_
 | refine K.ldb (by assumption) ?_ rfl ?_
 | refine K.ldb0 (by assumption) ?_ rfl ?_
 | refine K.ldE (by assumption) ?_ (by omega) rfl ?_
 | refine K.ldE0 (by assumption) ?_ (by omega) rfl ?_
 | refine K.ldAE (by assumption) ?_ (by omega) rfl ?_
 | refine K.iaC (by omega) ?_
 | refine K.condT (by first | assumption | omega) ?_
 | refine K.condF (by first | assumption | omega) ?_
 | refine K.condbT (by assumption) ?_
 | refine K.condbF (by assumption) ?_
 | simp -dsimp only [LL,B9,Nat.reduceAdd,Nat.reduceEqDiff,reduceIte,reduceCtorEq,Bool.false_eq_true])
    exact ⟨⟨_, by rw [hk], fun _ => hn⟩, hw4.ext (he.trans he3) (by have := he1.size; omega)⟩
theorem rchannel_r (n : Int) (cs : List Value) (s : Abs.Scope) (w : World) (h : Abs.ScopeIs w cs s) :
    Ret Tryz.prog F.lariatref10_Channel #[.int .i64 n, .agg cs.toArray] w fun v w' =>
      (∃ x : Abs.Chan, v = .tuple #[.agg x.enc.toArray, .bool (decide ((Abs.kLen n s).2 = 0))] ∧ ((Abs.kLen n s).2 = 0 → Abs.nth s.chans n = some x)) ∧ Ext w w' := by
  obtain ⟨a0, c0, a1, c1, a2, c2, a3, c3, a4, c4, rfl, h0, h1, h2, h3, h4, l0, l1, l2, l3, l4⟩ := h.form
  refine K.start hmix E.lariatref10_Channel (args := [_, _]) (Nat.le_of_ble_eq_true rfl) ?_
  dsimp only [C.lariatref10_Channel,yt,yi,yb,yp,yr,ye,yc,yv,yg,ym,yw,ya,yl,yx,ys,yn]
  (repeat' first
 | assumption
 | exact Ext.refl _
 | refine Ext.trans ?_ (by assumption)
 | refine K.wrap (by omega) ?_
 | refine K.ldb (by assumption) ?_ rfl ?_
 | refine K.ldb0 (by assumption) ?_ rfl ?_
 | refine K.ldE (by assumption) ?_ (by omega) rfl ?_
 | refine K.ldE0 (by assumption) ?_ (by omega) rfl ?_
 | refine K.ldAE (by assumption) ?_ (by omega) rfl ?_
 | refine K.iaC (by omega) ?_
 | refine K.condT (by first | assumption | omega) ?_
 | refine K.condF (by first | assumption | omega) ?_
 | refine K.condbT (by assumption) ?_
 | refine K.condbF (by assumption) ?_
 | simp -dsimp only [LL,B9,Nat.reduceAdd,Nat.reduceEqDiff,reduceIte,reduceCtorEq,Bool.false_eq_true])
  refine K.new fun w1 b hb he1 hc1 => ?_
  (repeat' first
 | assumption
 | exact Ext.refl _
 | refine Ext.trans ?_ (by assumption)
 | refine K.wrap (by omega) ?_
 | refine K.ldb (by assumption) ?_ rfl ?_
 | refine K.ldb0 (by assumption) ?_ rfl ?_
 | refine K.ldE (by assumption) ?_ (by omega) rfl ?_
 | refine K.ldE0 (by assumption) ?_ (by omega) rfl ?_
 | refine K.ldAE (by assumption) ?_ (by omega) rfl ?_
 | refine K.iaC (by omega) ?_
 | refine K.condT (by first | assumption | omega) ?_
 | refine K.condF (by first | assumption | omega) ?_
 | refine K.condbT (by assumption) ?_
 | refine K.condbF (by assumption) ?_
 | simp -dsimp only [LL,B9,Nat.reduceAdd,Nat.reduceEqDiff,reduceIte,reduceCtorEq,Bool.false_eq_true])
  refine K.new fun w2 b2 hb2 he2 hc2 => ?_
  have he := he1.trans he2
  have hs2 := he2.obj hc1
  (repeat' first
 | assumption
 | exact Ext.refl _
 | refine Ext.trans ?_ (by assumption)
 | refine K.wrap (by omega) ?_
 | refine K.ldb (by assumption) ?_ rfl ?_
 | refine K.ldb0 (by assumption) ?_ rfl ?_
 | refine K.ldE (by assumption) ?_ (by omega) rfl ?_
 | refine K.ldE0 (by assumption) ?_ (by omega) rfl ?_
 | refine K.ldAE (by assumption) ?_ (by omega) rfl ?_
 | refine K.iaC (by omega) ?_
 | refine K.condT (by first | assumption | omega) ?_
 | refine K.condF (by first | assumption | omega) ?_
 | refine K.condbT (by assumption) ?_
 | refine K.condbF (by assumption) ?_
 | simp -dsimp only [LL,B9,Nat.reduceAdd,Nat.reduceEqDiff,reduceIte,reduceCtorEq,Bool.false_eq_true])
  refine K.cond (fun g1 => ?_) (fun g1 => ?_)
  · have hk : (Abs.kLen n s).2 = 8 := by rw [Abs.kLen, Abs.nth_none (.inl g1)]
    (repeat' first
 | assumption
 | exact Ext.refl _
 | refine Ext.trans ?_ (by assumption)
 | refine K.wrap (by omega) ?_
 | refine K.ldb (by assumption) ?_ rfl ?_
 | refine K.ldb0 (by assumption) ?_ rfl ?_
 | refine K.ldE (by assumption) ?_ (by omega) rfl ?_
 | refine K.ldE0 (by assumption) ?_ (by omega) rfl ?_
 | refine K.ldAE (by assumption) ?_ (by omega) rfl ?_
 | refine K.iaC (by omega) ?_
 | refine K.condT (by first | assumption | omega) ?_
 | refine K.condF (by first | assumption | omega) ?_
 | refine K.condbT (by assumption) ?_
 | refine K.condbF (by assumption) ?_
 | simp -dsimp only [LL,B9,Nat.reduceAdd,Nat.reduceEqDiff,reduceIte,reduceCtorEq,Bool.false_eq_true])
    intro w3 he3
    (repeat' first
 | assumption
 | exact Ext.refl _
 | refine Ext.trans ?_ (by assumption)
 | refine K.wrap (by omega) ?_
 | refine K.ldb (by assumption) ?_ rfl ?_
 | refine K.ldb0 (by assumption) ?_ rfl ?_
 | refine K.ldE (by assumption) ?_ (by omega) rfl ?_
 | refine K.ldE0 (by assumption) ?_ (by omega) rfl ?_
 | refine K.ldAE (by assumption) ?_ (by omega) rfl ?_
 | refine K.iaC (by omega) ?_
 | refine K.condT (by first | assumption | omega) ?_
 | refine K.condF (by first | assumption | omega) ?_
 | refine K.condbT (by assumption) ?_
 | refine K.condbF (by assumption) ?_
 | simp -dsimp only [LL,B9,Nat.reduceAdd,Nat.reduceEqDiff,reduceIte,reduceCtorEq,Bool.false_eq_true])
    refine K.bld (cs := (⟨⟨#[]⟩, 0, 0, 0, 0, false⟩ : Abs.Chan).enc) (by simp [fillC, Abs.Chan.enc]) ?_
    (repeat' first
 | assumption
 | exact Ext.refl _
 | refine Ext.trans ?_ (by assumption)
 | refine K.wrap (by omega) ?_
 | refine K.ldb (by assumption) ?_ rfl ?_
 | refine K.ldb0 (by assumption) ?_ rfl ?_
 | refine K.ldE (by assumption) ?_ (by omega) rfl ?_
 | refine K.ldE0 (by assumption) ?_ (by omega) rfl ?_
 | refine K.ldAE (by assumption) ?_ (by omega) rfl ?_
 | refine K.iaC (by omega) ?_
 | refine K.condT (by first | assumption | omega) ?_
 | refine K.condF (by first | assumption | omega) ?_
 | refine K.condbT (by assumption) ?_
 | refine K.condbF (by assumption) ?_
 | simp -dsimp only [LL,B9,Nat.reduceAdd,Nat.reduceEqDiff,reduceIte,reduceCtorEq,Bool.false_eq_true])
    refine K.stAb (cs := (⟨⟨#[]⟩, 0, 0, 0, 0, false⟩ : Abs.Chan).enc.toArray) (he3.obj hc2) rfl rfl (by simp [Abs.Chan.enc, Value.oneCell']) fun w4 hw4 hc4 => ?_
    (repeat' first
 | assumption
 | exact Ext.refl _
 | refine Ext.trans ?_ (by assumption)
 | refine K.wrap (by omega) ?_
 | refine K.ldb (by assumption) ?_ rfl ?_
 | refine K.ldb0 (by assumption) ?_ rfl ?_
 | refine K.ldE (by assumption) ?_ (by omega) rfl ?_
 | refine K.ldE0 (by assumption) ?_ (by omega) rfl ?_
 | refine K.ldAE (by assumption) ?_ (by omega) rfl ?_
 | refine K.iaC (by omega) ?_
 | refine K.condT (by first | assumption | omega) ?_
 | refine K.condF (by first | assumption | omega) ?_
 | refine K.condbT (by assumption) ?_
 | refine K.condbF (by assumption) ?_
 | simp -dsimp only [LL,B9,Nat.reduceAdd,Nat.reduceEqDiff,reduceIte,reduceCtorEq,Bool.false_eq_true])
    refine K.ldAb (c := Abs.Chan.enc _) hc4 (Ext.refl _) rfl ?_
    (repeat' first
 | assumption
 | exact Ext.refl _
 | refine Ext.trans ?_ (by assumption)
 | refine K.wrap (by omega) ?_
 | refine K.ldb (by assumption) ?_ rfl ?_
 | refine K.ldb0 (by assumption) ?_ rfl ?_
 | refine K.ldE (by assumption) ?_ (by omega) rfl ?_
 | refine K.ldE0 (by assumption) ?_ (by omega) rfl ?_
 | refine K.ldAE (by assumption) ?_ (by omega) rfl ?_
 | refine K.iaC (by omega) ?_
 | refine K.condT (by first | assumption | omega) ?_
 | refine K.condF (by first | assumption | omega) ?_
 | refine K.condbT (by assumption) ?_
 | refine K.condbF (by assumption) ?_
 | simp -dsimp only [LL,B9,Nat.reduceAdd,Nat.reduceEqDiff,reduceIte,reduceCtorEq,Bool.false_eq_true])
    exact ⟨⟨_, by rw [hk]; rfl, by rw [hk]; intro h; cases h⟩, hw4.ext (he.trans he3) (by have := he1.size; omega)⟩
  (repeat' first
 | assumption
 | exact Ext.refl _
 | refine Ext.trans ?_ (by assumption)
 | refine K.wrap (by omega) ?_
 | refine K.ldb (by assumption) ?_ rfl ?_
 | refine K.ldb0 (by assumption) ?_ rfl ?_
 | refine K.ldE (by assumption) ?_ (by omega) rfl ?_
 | refine K.ldE0 (by assumption) ?_ (by omega) rfl ?_
 | refine K.ldAE (by assumption) ?_ (by omega) rfl ?_
 | refine K.iaC (by omega) ?_
 | refine K.condT (by first | assumption | omega) ?_
 | refine K.condF (by first | assumption | omega) ?_
 | refine K.condbT (by assumption) ?_
 | refine K.condbF (by assumption) ?_
 | simp -dsimp only [LL,B9,Nat.reduceAdd,Nat.reduceEqDiff,reduceIte,reduceCtorEq,Bool.false_eq_true])
  refine K.cond (fun g2 => ?_) (fun g2 => ?_)
  · have hk : (Abs.kLen n s).2 = 8 := by rw [Abs.kLen, Abs.nth_none (.inr (by omega))]
    (repeat' first
 | assumption
 | exact Ext.refl _
 | refine Ext.trans ?_ (by assumption)
 | refine K.wrap (by omega) ?_
 | refine K.ldb (by assumption) ?_ rfl ?_
 | refine K.ldb0 (by assumption) ?_ rfl ?_
 | refine K.ldE (by assumption) ?_ (by omega) rfl ?_
 | refine K.ldE0 (by assumption) ?_ (by omega) rfl ?_
 | refine K.ldAE (by assumption) ?_ (by omega) rfl ?_
 | refine K.iaC (by omega) ?_
 | refine K.condT (by first | assumption | omega) ?_
 | refine K.condF (by first | assumption | omega) ?_
 | refine K.condbT (by assumption) ?_
 | refine K.condbF (by assumption) ?_
 | simp -dsimp only [LL,B9,Nat.reduceAdd,Nat.reduceEqDiff,reduceIte,reduceCtorEq,Bool.false_eq_true])
    intro w3 he3
    (repeat' first
 | assumption
 | exact Ext.refl _
 | refine Ext.trans ?_ (by assumption)
 | refine K.wrap (by omega) ?_
 | refine K.ldb (by assumption) ?_ rfl ?_
 | refine K.ldb0 (by assumption) ?_ rfl ?_
 | refine K.ldE (by assumption) ?_ (by omega) rfl ?_
 | refine K.ldE0 (by assumption) ?_ (by omega) rfl ?_
 | refine K.ldAE (by assumption) ?_ (by omega) rfl ?_
 | refine K.iaC (by omega) ?_
 | refine K.condT (by first | assumption | omega) ?_
 | refine K.condF (by first | assumption | omega) ?_
 | refine K.condbT (by assumption) ?_
 | refine K.condbF (by assumption) ?_
 | simp -dsimp only [LL,B9,Nat.reduceAdd,Nat.reduceEqDiff,reduceIte,reduceCtorEq,Bool.false_eq_true])
    refine K.bld (cs := (⟨⟨#[]⟩, 0, 0, 0, 0, false⟩ : Abs.Chan).enc) (by simp [fillC, Abs.Chan.enc]) ?_
    (repeat' first
 | assumption
 | exact Ext.refl _
 | refine Ext.trans ?_ (by assumption)
 | refine K.wrap (by omega) ?_
 | refine K.ldb (by assumption) ?_ rfl ?_
 | refine K.ldb0 (by assumption) ?_ rfl ?_
 | refine K.ldE (by assumption) ?_ (by omega) rfl ?_
 | refine K.ldE0 (by assumption) ?_ (by omega) rfl ?_
 | refine K.ldAE (by assumption) ?_ (by omega) rfl ?_
 | refine K.iaC (by omega) ?_
 | refine K.condT (by first | assumption | omega) ?_
 | refine K.condF (by first | assumption | omega) ?_
 | refine K.condbT (by assumption) ?_
 | refine K.condbF (by assumption) ?_
 | simp -dsimp only [LL,B9,Nat.reduceAdd,Nat.reduceEqDiff,reduceIte,reduceCtorEq,Bool.false_eq_true])
    refine K.stAb (cs := (⟨⟨#[]⟩, 0, 0, 0, 0, false⟩ : Abs.Chan).enc.toArray) (he3.obj hc2) rfl rfl (by simp [Abs.Chan.enc, Value.oneCell']) fun w4 hw4 hc4 => ?_
    (repeat' first
 | assumption
 | exact Ext.refl _
 | refine Ext.trans ?_ (by assumption)
 | refine K.wrap (by omega) ?_
 | refine K.ldb (by assumption) ?_ rfl ?_
 | refine K.ldb0 (by assumption) ?_ rfl ?_
 | refine K.ldE (by assumption) ?_ (by omega) rfl ?_
 | refine K.ldE0 (by assumption) ?_ (by omega) rfl ?_
 | refine K.ldAE (by assumption) ?_ (by omega) rfl ?_
 | refine K.iaC (by omega) ?_
 | refine K.condT (by first | assumption | omega) ?_
 | refine K.condF (by first | assumption | omega) ?_
 | refine K.condbT (by assumption) ?_
 | refine K.condbF (by assumption) ?_
 | simp -dsimp only [LL,B9,Nat.reduceAdd,Nat.reduceEqDiff,reduceIte,reduceCtorEq,Bool.false_eq_true])
    refine K.ldAb (c := Abs.Chan.enc _) hc4 (Ext.refl _) rfl ?_
    (repeat' first
 | assumption
 | exact Ext.refl _
 | refine Ext.trans ?_ (by assumption)
 | refine K.wrap (by omega) ?_
 | refine K.ldb (by assumption) ?_ rfl ?_
 | refine K.ldb0 (by assumption) ?_ rfl ?_
 | refine K.ldE (by assumption) ?_ (by omega) rfl ?_
 | refine K.ldE0 (by assumption) ?_ (by omega) rfl ?_
 | refine K.ldAE (by assumption) ?_ (by omega) rfl ?_
 | refine K.iaC (by omega) ?_
 | refine K.condT (by first | assumption | omega) ?_
 | refine K.condF (by first | assumption | omega) ?_
 | refine K.condbT (by assumption) ?_
 | refine K.condbF (by assumption) ?_
 | simp -dsimp only [LL,B9,Nat.reduceAdd,Nat.reduceEqDiff,reduceIte,reduceCtorEq,Bool.false_eq_true])
    exact ⟨⟨_, by rw [hk]; rfl, by rw [hk]; intro h; cases h⟩, hw4.ext (he.trans he3) (by have := he1.size; omega)⟩
  obtain ⟨i, rfl⟩ := Int.eq_ofNat_of_zero_le (show 0 ≤ n by omega)
  have hi : i < s.chans.length := by omega
  have hn : Abs.nth s.chans (i : Int) = some s.chans[i] := by rw [Abs.nth_some (by omega) (by omega)]; simp only [Int.toNat_natCast]
  obtain ⟨a, rfl⟩ := h2.addr (by omega)
  (repeat' first
 | assumption
 | exact Ext.refl _
 | refine Ext.trans ?_ (by assumption)
 | refine K.wrap (by omega) ?_
 | refine K.ldb (by assumption) ?_ rfl ?_
 | refine K.ldb0 (by assumption) ?_ rfl ?_
 | refine K.ldE (by assumption) ?_ (by omega) rfl ?_
 | refine K.ldE0 (by assumption) ?_ (by omega) rfl ?_
 | refine K.ldAE (by assumption) ?_ (by omega) rfl ?_
 | refine K.iaC (by omega) ?_
 | refine K.condT (by first | assumption | omega) ?_
 | refine K.condF (by first | assumption | omega) ?_
 | refine K.condbT (by assumption) ?_
 | refine K.condbF (by assumption) ?_
 | simp -dsimp only [LL,B9,Nat.reduceAdd,Nat.reduceEqDiff,reduceIte,reduceCtorEq,Bool.false_eq_true])
  refine K.ldAb (c := [_, _, _, _, _, _]) hs2 (Ext.refl _) rfl ?_
  (repeat' first
 | assumption
 | exact Ext.refl _
 | refine Ext.trans ?_ (by assumption)
 | refine K.wrap (by omega) ?_
 | refine K.ldb (by assumption) ?_ rfl ?_
 | refine K.ldb0 (by assumption) ?_ rfl ?_
 | refine K.ldE (by assumption) ?_ (by omega) rfl ?_
 | refine K.ldE0 (by assumption) ?_ (by omega) rfl ?_
 | refine K.ldAE (by assumption) ?_ (by omega) rfl ?_
 | refine K.iaC (by omega) ?_
 | refine K.condT (by first | assumption | omega) ?_
 | refine K.condF (by first | assumption | omega) ?_
 | refine K.condbT (by assumption) ?_
 | refine K.condbF (by assumption) ?_
 | simp -dsimp only [LL,B9,Nat.reduceAdd,Nat.reduceEqDiff,reduceIte,reduceCtorEq,Bool.false_eq_true])
  refine K.qfn _ (fun w' e => rscalar_r _ _ s w' (h.ext (he.trans e))) ?_
  (repeat' first
 | assumption
 | exact Ext.refl _
 | refine Ext.trans ?_ (by assumption)
 | refine K.wrap (by omega) ?_
 | refine K.ldb (by assumption) ?_ rfl ?_
 | refine K.ldb0 (by assumption) ?_ rfl ?_
 | refine K.ldE (by assumption) ?_ (by omega) rfl ?_
 | refine K.ldE0 (by assumption) ?_ (by omega) rfl ?_
 | refine K.ldAE (by assumption) ?_ (by omega) rfl ?_
 | refine K.iaC (by omega) ?_
 | refine K.condT (by first | assumption | omega) ?_
 | refine K.condF (by first | assumption | omega) ?_
 | refine K.condbT (by assumption) ?_
 | refine K.condbF (by assumption) ?_
 | simp -dsimp only [LL,B9,Nat.reduceAdd,Nat.reduceEqDiff,reduceIte,reduceCtorEq,Bool.false_eq_true])
  cases g4 : (Abs.kscalar s.chans[i].scalar s).2 with
  | false =>
    have hk : (Abs.kLen i s).2 = 8 := by rw [Abs.kLen, hn]; simp only [g4, Bool.false_eq_true, if_false]
    (repeat' first
 | assumption
 | exact Ext.refl _
 | refine Ext.trans ?_ (by assumption)
 | refine K.wrap (by omega) ?_
 | refine K.ldb (by assumption) ?_ rfl ?_
 | refine K.ldb0 (by assumption) ?_ rfl ?_
 | refine K.ldE (by assumption) ?_ (by omega) rfl ?_
 | refine K.ldE0 (by assumption) ?_ (by omega) rfl ?_
 | refine K.ldAE (by assumption) ?_ (by omega) rfl ?_
 | refine K.iaC (by omega) ?_
 | refine K.condT (by first | assumption | omega) ?_
 | refine K.condF (by first | assumption | omega) ?_
 | refine K.condbT (by assumption) ?_
 | refine K.condbF (by assumption) ?_
 | simp -dsimp only [LL,B9,Nat.reduceAdd,Nat.reduceEqDiff,reduceIte,reduceCtorEq,Bool.false_eq_true])
    intro w3 he3
    (repeat' first
 | assumption
 | exact Ext.refl _
 | refine Ext.trans ?_ (by assumption)
 | refine K.wrap (by omega) ?_
 | refine K.ldb (by assumption) ?_ rfl ?_
 | refine K.ldb0 (by assumption) ?_ rfl ?_
 | refine K.ldE (by assumption) ?_ (by omega) rfl ?_
 | refine K.ldE0 (by assumption) ?_ (by omega) rfl ?_
 | refine K.ldAE (by assumption) ?_ (by omega) rfl ?_
 | refine K.iaC (by omega) ?_
 | refine K.condT (by first | assumption | omega) ?_
 | refine K.condF (by first | assumption | omega) ?_
 | refine K.condbT (by assumption) ?_
 | refine K.condbF (by assumption) ?_
 | simp -dsimp only [LL,B9,Nat.reduceAdd,Nat.reduceEqDiff,reduceIte,reduceCtorEq,Bool.false_eq_true])
    refine K.bld (cs := (⟨⟨#[]⟩, 0, 0, 0, 0, false⟩ : Abs.Chan).enc) (by simp [fillC, Abs.Chan.enc]) ?_
    (repeat' first
 | assumption
 | exact Ext.refl _
 | refine Ext.trans ?_ (by assumption)
 | refine K.wrap (by omega) ?_
 | refine K.ldb (by assumption) ?_ rfl ?_
 | refine K.ldb0 (by assumption) ?_ rfl ?_
 | refine K.ldE (by assumption) ?_ (by omega) rfl ?_
 | refine K.ldE0 (by assumption) ?_ (by omega) rfl ?_
 | refine K.ldAE (by assumption) ?_ (by omega) rfl ?_
 | refine K.iaC (by omega) ?_
 | refine K.condT (by first | assumption | omega) ?_
 | refine K.condF (by first | assumption | omega) ?_
 | refine K.condbT (by assumption) ?_
 | refine K.condbF (by assumption) ?_
 | simp -dsimp only [LL,B9,Nat.reduceAdd,Nat.reduceEqDiff,reduceIte,reduceCtorEq,Bool.false_eq_true])
    refine K.stAb (cs := (⟨⟨#[]⟩, 0, 0, 0, 0, false⟩ : Abs.Chan).enc.toArray) (he3.obj hc2) rfl rfl (by simp [Abs.Chan.enc, Value.oneCell']) fun w4 hw4 hc4 => ?_
    (repeat' first
 | assumption
 | exact Ext.refl _
 | refine Ext.trans ?_ (by assumption)
 | refine K.wrap (by omega) ?_
 | refine K.ldb (by assumption) ?_ rfl ?_
 | refine K.ldb0 (by assumption) ?_ rfl ?_
 | refine K.ldE (by assumption) ?_ (by omega) rfl ?_
 | refine K.ldE0 (by assumption) ?_ (by omega) rfl ?_
 | refine K.ldAE (by assumption) ?_ (by omega) rfl ?_
 | refine K.iaC (by omega) ?_
 | refine K.condT (by first | assumption | omega) ?_
 | refine K.condF (by first | assumption | omega) ?_
 | refine K.condbT (by assumption) ?_
 | refine K.condbF (by assumption) ?_
 | simp -dsimp only [LL,B9,Nat.reduceAdd,Nat.reduceEqDiff,reduceIte,reduceCtorEq,Bool.false_eq_true])
    refine K.ldAb (c := Abs.Chan.enc _) hc4 (Ext.refl _) rfl ?_
    (repeat' first
 | assumption
 | exact Ext.refl _
 | refine Ext.trans ?_ (by assumption)
 | refine K.wrap (by omega) ?_
 | refine K.ldb (by assumption) ?_ rfl ?_
 | refine K.ldb0 (by assumption) ?_ rfl ?_
 | refine K.ldE (by assumption) ?_ (by omega) rfl ?_
 | refine K.ldE0 (by assumption) ?_ (by omega) rfl ?_
 | refine K.ldAE (by assumption) ?_ (by omega) rfl ?_
 | refine K.iaC (by omega) ?_
 | refine K.condT (by first | assumption | omega) ?_
 | refine K.condF (by first | assumption | omega) ?_
 | refine K.condbT (by assumption) ?_
 | refine K.condbF (by assumption) ?_
 | simp -dsimp only [LL,B9,Nat.reduceAdd,Nat.reduceEqDiff,reduceIte,reduceCtorEq,Bool.false_eq_true])
    exact ⟨⟨_, by rw [hk]; rfl, by rw [hk]; intro h; cases h⟩, hw4.ext (he.trans he3) (by have := he1.size; omega)⟩
  | true =>
    have hk : (Abs.kLen i s).2 = 0 := by rw [Abs.kLen, hn]; simp only [g4, if_true]
    (repeat' first
 | assumption
 | exact Ext.refl _
 | refine Ext.trans ?_ (by assumption)
 | refine K.wrap (by omega) ?_
 | refine K.ldb (by assumption) ?_ rfl ?_
 | refine K.ldb0 (by assumption) ?_ rfl ?_
 | refine K.ldE (by assumption) ?_ (by omega) rfl ?_
 | refine K.ldE0 (by assumption) ?_ (by omega) rfl ?_
 | refine K.ldAE (by assumption) ?_ (by omega) rfl ?_
 | refine K.iaC (by omega) ?_
 | refine K.condT (by first | assumption | omega) ?_
 | refine K.condF (by first | assumption | omega) ?_
 | refine K.condbT (by assumption) ?_
 | refine K.condbF (by assumption) ?_
 | simp -dsimp only [LL,B9,Nat.reduceAdd,Nat.reduceEqDiff,reduceIte,reduceCtorEq,Bool.false_eq_true])
    intro w3 he3
    (repeat' first
 | assumption
 | exact Ext.refl _
 | refine Ext.trans ?_ (by assumption)
 | refine K.wrap (by omega) ?_
 | refine K.ldb (by assumption) ?_ rfl ?_
 | refine K.ldb0 (by assumption) ?_ rfl ?_
 | refine K.ldE (by assumption) ?_ (by omega) rfl ?_
 | refine K.ldE0 (by assumption) ?_ (by omega) rfl ?_
 | refine K.ldAE (by assumption) ?_ (by omega) rfl ?_
 | refine K.iaC (by omega) ?_
 | refine K.condT (by first | assumption | omega) ?_
 | refine K.condF (by first | assumption | omega) ?_
 | refine K.condbT (by assumption) ?_
 | refine K.condbF (by assumption) ?_
 | simp -dsimp only [LL,B9,Nat.reduceAdd,Nat.reduceEqDiff,reduceIte,reduceCtorEq,Bool.false_eq_true])
    refine K.stAb (cs := s.chans[i].enc.toArray) (he3.obj hc2) rfl rfl (by simp [Abs.Chan.enc, Value.oneCell']) fun w4 hw4 hc4 => ?_
    (repeat' first
 | assumption
 | exact Ext.refl _
 | refine Ext.trans ?_ (by assumption)
 | refine K.wrap (by omega) ?_
 | refine K.ldb (by assumption) ?_ rfl ?_
 | refine K.ldb0 (by assumption) ?_ rfl ?_
 | refine K.ldE (by assumption) ?_ (by omega) rfl ?_
 | refine K.ldE0 (by assumption) ?_ (by omega) rfl ?_
 | refine K.ldAE (by assumption) ?_ (by omega) rfl ?_
 | refine K.iaC (by omega) ?_
 | refine K.condT (by first | assumption | omega) ?_
 | refine K.condF (by first | assumption | omega) ?_
 | refine K.condbT (by assumption) ?_
 | refine K.condbF (by assumption) ?_
 | simp -dsimp only [LL,B9,Nat.reduceAdd,Nat.reduceEqDiff,reduceIte,reduceCtorEq,Bool.false_eq_true])
    refine K.ldAb (c := Abs.Chan.enc _) hc4 (Ext.refl _) rfl ?_
    (repeat' first
 | assumption
 | exact Ext.refl _
 | refine Ext.trans ?_ (by assumption)
 | refine K.wrap (by omega) ?_
 | refine K.ldb (by assumption) ?_ rfl ?_
 | refine K.ldb0 (by assumption) ?_ rfl ?_
 | refine K.ldE (by assumption) ?_ (by omega) rfl ?_
 | refine K.ldE0 (by assumption) ?_ (by omega) rfl ?_
 | refine K.ldAE (by assumption) ?_ (by omega) rfl ?_
 | refine K.iaC (by omega) ?_
 | refine K.condT (by first | assumption | omega) ?_
 | refine K.condF (by first | assumption | omega) ?_
 | refine K.condbT (by assumption) ?_
 | refine K.condbF (by assumption) ?_
 | simp -dsimp only [LL,B9,Nat.reduceAdd,Nat.reduceEqDiff,reduceIte,reduceCtorEq,Bool.false_eq_true])
    exact ⟨⟨_, by rw [hk]; rfl, fun _ => hn⟩, hw4.ext (he.trans he3) (by have := he1.size; omega)⟩
end Go.Proofs.YtbbaokmelkiemaaGreatDoor
end
