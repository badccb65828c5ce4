/- Texts joined: ProcI ProcJ ProcK Open1 Open5 ProcW ModP LayP LayQ LayR LiteS LiteN NamA NamB NamC NamD ModH DeclA DeclR. -/
import Derived.Test.YtpaahhleopalaaaGreatDoorQc
import Derived.Test.YtpaahhleopalaaaGreatDoorQd
import Derived.Test.YtpaahhleopalaaaGreatDoorQe
import Derived.Test.YtpaahhleopalaaaGreatDoorQf
import Derived.Test.YtpaahhleopalaaaGreatDoorQg
import Derived.Test.YtpaahhleopalaaaGreatDoorQh
import Derived.SizedLaws
import Derived.OpenShut
set_option linter.all false
section
/- Processes: what one must be. -/
set_option maxRecDepth 4000
set_option maxHeartbeats 3200000
namespace Abs
theorem localsE_drop {s : Scope} {l : List Var} {k : Nat} (h : k < l.length) : localsE s (l.drop k) k = if l[k].over ≠ 0 then ((k : Int), 9) else if s.vars.any (fun x => decide (x.name = l[k].name)) then ((k : Int), 7) else localsE s (l.drop (k + 1)) (k + 1) := by
  rw [List.drop_eq_getElem_cons h]; rfl
theorem cmdsE_drop {own : Scope} {locs : Int} {all l : List Cmd} {k : Nat} (h : k < l.length) : cmdsE own locs all (l.drop k) k = if (cmdCheck l[k] locs own).2 ≠ 0 then (2 + (k : Int), (cmdCheck l[k] locs own).1, (cmdCheck l[k] locs own).2)
    else if (all.take k).any (fun x => decide (x.name = l[k].name)) then (2 + (k : Int), 0, 7) else cmdsE own locs all (l.drop (k + 1)) (k + 1) := by
  rw [List.drop_eq_getElem_cons h]; rfl
end Abs
namespace Go.Proofs.YtpaahhleopalaaaGreatDoor
open Go Go.RowKit Lite
theorem whole_r (p : Abs.Proc) (o3 o4 : Option Addr) (n3 c3 c4 : Nat) (cs : List Value) (s : Abs.Scope) (w : World) (ho : OwnIs w) (hn : Abs.strOk p.name) (h : Abs.ScopeIs w cs s) :
    Ret Tryz.prog F.proc_whole #[.agg (p.enc (.slice o3 n3 c3) (.slice o4 p.cmds.length c4)).toArray, .agg cs.toArray] w fun v w' => v = .int .i64 (Abs.whole p s) ∧ Ext w w' := by
  obtain ⟨a0, c0, a1, c1, a2, c2, a3, d3, a4, d4, rfl, h0, h1, h2, h3, h4, l0, l1, l2, l3, l4⟩ := h.form
  refine K.start hmix E.proc_whole (args := [_, _]) (Nat.le_of_ble_eq_true rfl) ?_; dsimp only [C.proc_whole]; refine Yy ?_
  refine Sg ?_
  intro w1 b1 hb1 he1 hc1
  refine Sg ?_
  intro w2 b2 hb2 he2 hc2
  have E2 : ∀ {w'}, Ext w2 w' → Ext w w' := fun e => (he1.trans he2).trans e
  have hc1 := he2.obj hc1
  refine Sg ?_
  refine K.call (name_r p.name w2 (ho.ext (E2 (Ext.refl _))) hn) ?_
  rintro _ w3 ⟨rfl, he3⟩
  have hc1 := he3.obj hc1
  have hc2 := he3.obj hc2
  rw [Abs.whole]
  refine Sg ?_
  refine K.condb (fun g1 => ?_) (fun g1 => ?_)
  rotate_left
  · refine Sg ?_
    exact ⟨by rw [if_pos g1], E2 he3⟩
  rw [if_neg (by simp [g1])]
  refine Sg ?_
  refine K.cond (fun g2 => ?_) (fun g2 => ?_)
  · refine Sg ?_
    exact ⟨by rw [if_pos (.inl g2)], E2 he3⟩
  refine Sg ?_
  refine K.cond (fun g3 => ?_) (fun g3 => ?_)
  · refine Sg ?_
    exact ⟨by rw [if_pos (.inr (by omega))], E2 he3⟩
  rw [if_neg (by omega)]
  refine Sg ?_
  refine K.cond (fun g4 => ?_) (fun g4 => ?_)
  · refine Sg ?_
    exact ⟨by rw [if_pos (.inl g4)], E2 he3⟩
  refine Sg ?_
  refine K.cond (fun g5 => ?_) (fun g5 => ?_)
  · refine Sg ?_
    exact ⟨by rw [if_pos (.inr (by omega))], E2 he3⟩
  rw [if_neg (by omega)]
  refine Sg ?_
  refine K.cond (fun g6 => ?_) (fun g6 => ?_)
  · refine Sg ?_
    exact ⟨by rw [if_pos (by omega)], E2 he3⟩
  refine Sg ?_
  exact ⟨by rw [if_neg (by omega)], E2 he3⟩
theorem locals1_r (x v : Abs.Var) (b : Nat) (w : World) (hc : w.heap[b]? = some (.cells v.enc.toArray T.api_Var)) :
    Ret Tryz.prog F.proc_locals_1 #[.agg x.enc.toArray, .pointer (some ⟨b, 0, none⟩)] w fun u w' => u = .bool (decide (x.name = v.name)) ∧ Ext w w' := by
  refine K.start hmix E.proc_locals_1 (args := [_, _]) (Nat.le_of_ble_eq_true rfl) ?_; dsimp only [C.proc_locals_1]; refine Yy ?_
  refine Sg ?_
  intro w1 b1 hb1 he1 hc1
  refine Sg ?_
  (refine ⟨?_, ?_⟩ <;> first | trivial | rfl | (repeat' first | assumption | exact Ext.refl _ | refine Ext.trans ?_ (by assumption)))
theorem check1_r (x c : Abs.Cmd) (o1 o2 o3 o4 : Option Addr) (n1 n2 n3 n4 c1 c2 c3 c4 : Nat) (b : Nat) (w : World) (hc : w.heap[b]? = some (.cells (c.enc (.slice o3 n3 c3) (.slice o4 n4 c4)).toArray T.api_Cmd)) :
    Ret Tryz.prog F.proc_Check_1 #[.agg (x.enc (.slice o1 n1 c1) (.slice o2 n2 c2)).toArray, .pointer (some ⟨b, 0, none⟩)] w fun u w' => u = .bool (decide (x.name = c.name)) ∧ Ext w w' := by
  refine K.start hmix E.proc_Check_1 (args := [_, _]) (Nat.le_of_ble_eq_true rfl) ?_; dsimp only [C.proc_Check_1]; refine Yy ?_
  refine Sg ?_
  intro w1 b1 hb1 he1 hc1
  refine Sg ?_
  (refine ⟨?_, ?_⟩ <;> first | trivial | rfl | (repeat' first | assumption | exact Ext.refl _ | refine Ext.trans ?_ (by assumption)))
theorem locals_r (p : Abs.Proc) (o3 o4 : Option Addr) (c3 n4 c4 : Nat) (cs : List Value) (s : Abs.Scope) (w : World) (ho : OwnIs w) (hv : Abs.Vars w (.slice o3 p.vars.length c3) p.vars) (h : Abs.ScopeIs w cs s) :
    Ret Tryz.prog F.proc_locals #[.agg (p.enc (.slice o3 p.vars.length c3) (.slice o4 n4 c4)).toArray, .agg cs.toArray] w fun v w' => v = .tuple #[.int .i64 (Abs.plocals p s).1, .int .i64 (Abs.plocals p s).2] ∧ Ext w w' := by
  obtain ⟨a0, c0, a1, c1, a2, c2, a3, d3, a4, d4, rfl, h0, h1, h2, h3, h4, l0, l1, l2, l3, l4⟩ := h.form
  have lv : p.vars.length ≤ 9223372036854775807 := by have := (SlR.len hv).2; unfold maxLen at this; omega
  refine K.start hmix E.proc_locals (args := [_, _]) (Nat.le_of_ble_eq_true rfl) ?_; dsimp only [C.proc_locals]; refine Yy ?_
  refine Sg ?_
  intro w1 b1 hb1 he1 hc1
  refine Sg ?_
  intro w2 b2 hb2 he2 hc2
  have E2 : ∀ {w'}, Ext w2 w' → Ext w w' := fun e => (he1.trans he2).trans e
  have hc1 := he2.obj hc1
  refine Sg ?_
  refine K.call (vars_r _ _ p.vars s.scalars 4 w2 (ho.ext (E2 (Ext.refl _))) (hv.ext (E2 (Ext.refl _))) (h0.ext (E2 (Ext.refl _)))) ?_
  rintro _ w3 ⟨rfl, he3⟩
  have hc1 := he3.obj hc1
  have hc2 := he3.obj hc2
  rw [Abs.plocals]
  refine Sg ?_
  refine K.cond (fun g1 => ?_) (fun g1 => ?_)
  rotate_left
  · refine Sg ?_
    exact ⟨by rw [if_pos g1], E2 he3⟩
  rw [if_neg (by simpa using g1)]
  have E3 : ∀ {w'}, Ext w3 w' → Ext w w' := fun e => E2 (he3.trans e)
  refine Sg ?_
  refine K.forG 25 p.vars.length [3, 23, 24] (fun _ => []) () (fun k _ w' => Ext w3 w' ∧ Abs.localsE s p.vars 0 = Abs.localsE s (p.vars.drop k) k) hZq hZq ⟨Ext.refl _, by simp⟩ ?_
  rintro k _ S w4 hk ⟨he4, hI⟩
  refine Sg ?_
  refine K.cond (fun g2 => ?_) (fun g2 => ?_)
  · have hk' : k < p.vars.length := by omega
    obtain ⟨a, rfl⟩ := hv.addr (by omega)
    replace hv := hv.ext (E3 (Ext.refl _))
    rw [Abs.localsE_drop hk'] at hI
    refine Sg ?_
    intro wN b9 hb9 heN hcN
    refine Sg ?_
    intro w5 hw5 hc5
    have he5 := hw5.ext heN hb9
    refine Sg ?_
    refine K.cond (fun g3 => ?_) (fun g3 => ?_)
    rotate_left
    · refine Sg ?_
      exact ⟨by rw [hI, if_pos g3], E3 (he4.trans he5)⟩
    rw [if_neg (by simpa using g3)] at hI
    refine Sg ?_
    refine K.call (containsFunc_r hmix E.slices_ContainsFunc_sl_api_Var_api_Var E.slices_IndexFunc_sl_api_Var_api_Var _ s.vars w5 (h1.ext (E3 (he4.trans he5))) F.proc_locals_1 (by kernel_rfl) [] [_] (fun x => decide (x.name = p.vars[k].name)) ?_) ?_
    · rintro i hi cs' w' e ⟨rfl, _⟩
      exact locals1_r _ _ b9 w' (e.obj hc5)
    rintro _ w6 ⟨rfl, he6⟩
    refine Sg ?_
    refine K.condb (fun g4 => ?_) (fun g4 => ?_)
    · refine Sg ?_
      exact ⟨by rw [hI, if_pos g4], E3 ((he4.trans he5).trans he6)⟩
    · refine Sg ?_
      exact ⟨hk', by first | trivial | rfl, (), trivial, (he4.trans he5).trans he6, by rw [hI, if_neg (by simp [g4])]⟩
  · refine Sg ?_
    exact ⟨by rw [hI, List.drop_eq_nil_of_le (by omega)]; rfl, E3 he4⟩
theorem pcheck_r (p : Abs.Proc) (pcs cs : List Value) (s : Abs.Scope) (w : World) (ho : OwnIs w) (hp : Abs.ProcIs w pcs p) (h : Abs.ScopeIs w cs s) (hg : s.good) (hpg : p.good) :
    Ret Tryz.prog F.proc_Check #[.agg pcs.toArray, .agg cs.toArray] w fun v w' => v = .tuple #[.int .i64 (Abs.procCheck p s).1, .int .i64 (Abs.procCheck p s).2.1, .int .i64 (Abs.procCheck p s).2.2] ∧ Ext w w' := by
  obtain ⟨a0, c0, a1, c1, a2, c2, a3, d3, a4, d4, rfl, h0, h1, h2, h3, h4, l0, l1, l2, l3, l4⟩ := h.form
  obtain ⟨hn, pv, pc, rfl, hv, hcm⟩ := hp
  obtain ⟨o3, c3, rfl, lv⟩ := hv.form
  obtain ⟨o4, c4, rfl, lc⟩ := hcm.form
  have hcb : p.cmds.length ≤ 140737488351232 := by have := hpg.cmds; unfold Abs.big at this; omega
  refine K.start hmix E.proc_Check (args := [_, _]) (Nat.le_of_ble_eq_true rfl) ?_; dsimp only [C.proc_Check]; refine Yy ?_
  refine Sg ?_
  intro w1 b1 hb1 he1 hc1
  refine Sg ?_
  intro w2 b2 hb2 he2 hc2
  have E2 : ∀ {w'}, Ext w2 w' → Ext w w' := fun e => (he1.trans he2).trans e
  replace hc1 := he2.obj hc1
  refine Sg ?_
  refine K.call (whole_r p _ _ _ _ _ _ s w2 (ho.ext (E2 (Ext.refl _))) hn (h.ext (E2 (Ext.refl _)))) ?_
  rintro _ w3 ⟨rfl, he3⟩
  replace hc1 := he3.obj hc1
  replace hc2 := he3.obj hc2
  have E3 : ∀ {w'}, Ext w3 w' → Ext w w' := fun e => E2 (he3.trans e)
  rw [Abs.procCheck]
  refine Sg ?_
  refine K.cond (fun g1 => ?_) (fun g1 => ?_)
  rotate_left
  · refine Sg ?_
    exact ⟨by rw [if_pos g1], E3 (Ext.refl _)⟩
  rw [if_neg (by simpa using g1)]
  refine Sg ?_
  refine K.call (locals_r p _ _ _ _ _ _ s w3 (ho.ext (E3 (Ext.refl _))) (hv.ext (E3 (Ext.refl _))) (h.ext (E3 (Ext.refl _)))) ?_
  rintro _ w4 ⟨rfl, he4⟩
  replace hc1 := he4.obj hc1
  replace hc2 := he4.obj hc2
  have E4 : ∀ {w'}, Ext w4 w' → Ext w w' := fun e => E3 (he4.trans e)
  refine Sg ?_
  refine K.cond (fun g2 => ?_) (fun g2 => ?_)
  rotate_left
  · refine Sg ?_
    exact ⟨by rw [if_pos g2], E4 (Ext.refl _)⟩
  rw [if_neg (by simpa using g2)]
  refine Sg ?_
  refine K.call (inner_r p _ _ _ _ _ _ _ _ _ _ _ _ _ _ _ _ _ _ _ _ _ _ w4) ?_
  rintro _ w5 ⟨rfl, he5⟩
  replace hc1 := he5.obj hc1
  have E5 : ∀ {w'}, Ext w5 w' → Ext w w' := fun e => E4 (he5.trans e)
  refine Sg ?_
  intro w6 b10 hb10 he6 hc6
  replace hc1 := he6.obj hc1
  have E6 : ∀ {w'}, Ext w6 w' → Ext w w' := fun e => E5 (he6.trans e)
  have hin : ∀ w', Ext w w' → Abs.ScopeIs w' [.slice a0 s.scalars.length c0, .slice a1 s.vars.length c1, .slice a2 s.chans.length c2, .slice a3 s.procs.length d3, .slice o3 p.vars.length c3, .int .i64 p.over] (Abs.inner p s) := fun w' e =>
    ⟨(hg.inner hpg).sm.1, _, _, _, _, _, rfl, h0.ext e, h1.ext e, h2.ext e, h3.ext e, hv.ext e, (hg.inner hpg).sm.2⟩
  refine Sg ?_
  refine K.forG 37 p.cmds.length [2, 10, 35, 36] (fun _ => []) () (fun k _ w' => Ext w6 w' ∧ Abs.cmdsE (Abs.inner p s) p.locs p.cmds p.cmds 0 = Abs.cmdsE (Abs.inner p s) p.locs p.cmds (p.cmds.drop k) k) hZq hZq ⟨Ext.refl _, by simp⟩ ?_
  rintro k _ S w7 hk ⟨he7, hI⟩
  replace hc1 := he7.obj hc1
  replace hc6 := he7.obj hc6
  refine Sg ?_
  refine K.cond (fun g3 => ?_) (fun g3 => ?_)
  · have hk' : k < p.cmds.length := by omega
    obtain ⟨a, rfl⟩ := hcm.addr (by omega)
    obtain ⟨hs, vg, va, hcc, hvg, hva⟩ := hcm.at k hk'
    obtain ⟨og, cg, rfl, lg⟩ := hvg.form
    obtain ⟨oa, ca, rfl, la⟩ := hva.form
    rw [Abs.cmdsE_drop hk'] at hI
    replace hcc := hcc.ext (E6 (Ext.refl _))
    refine Sg ?_
    intro wN b12 hb12 heN hcN
    refine Sg ?_
    intro w8 hw8 hc8
    have he8 := hw8.ext heN hb12
    replace hc1 := he8.obj hc1
    replace hc6 := he8.obj hc6
    have E8 : ∀ {w'}, Ext w8 w' → Ext w w' := fun e => E6 ((he7.trans he8).trans e)
    clear hcN heN
    refine Sg ?_
    refine K.call (check_r p.cmds[k] _ _ p _ _ _ (Abs.inner p s) w8 (ho.ext (E8 (Ext.refl _))) hs (hvg.ext (E8 (Ext.refl _))) (hva.ext (E8 (Ext.refl _))) (hv.ext (E8 (Ext.refl _))) (hcm.ext (E8 (Ext.refl _))) (hin _ (E8 (Ext.refl _)))) ?_
    rintro _ w9 ⟨rfl, he9⟩
    replace hc1 := he9.obj hc1
    replace hc8 := he9.obj hc8
    have E9 : ∀ {w'}, Ext w9 w' → Ext w w' := fun e => E8 (he9.trans e)
    refine Sg ?_
    refine K.cond (fun g4 => ?_) (fun g4 => ?_)
    rotate_left
    · refine Sg ?_
      exact ⟨by rw [hI, if_pos g4], E9 (Ext.refl _)⟩
    rw [if_neg (by simpa using g4)] at hI
    have hcap := (SlR.len hcm).2.1
    refine Sg ?_
    refine K.slcT (k := .i64) k (by rfl) (by omega) ?_
    refine Sg ?_
    refine K.call (containsFunc_r hmix E.slices_ContainsFunc_sl_api_Cmd_api_Cmd E.slices_IndexFunc_sl_api_Cmd_api_Cmd _ (p.cmds.take k) w9 ((hcm.head k (by omega)).ext Abs.RCmd.ext (E9 (Ext.refl _))) F.proc_Check_1 (by kernel_rfl) [] [_] (fun x => decide (x.name = p.cmds[k].name)) ?_) ?_
    · rintro i hi cs' w' e ⟨_, xg, xa, rfl, hxg, hxa⟩
      obtain ⟨_, _, rfl, _⟩ := hxg.form
      obtain ⟨_, _, rfl, _⟩ := hxa.form
      exact check1_r _ _ _ _ _ _ _ _ _ _ _ _ _ _ b12 w' (e.obj hc8)
    rintro _ w10 ⟨rfl, he10⟩
    refine Sg ?_
    refine K.condb (fun g5 => ?_) (fun g5 => ?_)
    · refine Sg ?_
      exact ⟨by rw [hI, if_pos g5], E9 he10⟩
    · refine Sg ?_
      exact ⟨hk', by first | trivial | rfl, (), trivial, ((he7.trans he8).trans he9).trans he10, by rw [hI, if_neg (by simp [g5])]⟩
  · refine Sg ?_
    exact ⟨by rw [hI, List.drop_eq_nil_of_le (by omega)]; rfl, E6 he7⟩
end Go.Proofs.YtpaahhleopalaaaGreatDoor
end
section
/- Processes: the chapter's example. -/
set_option maxRecDepth 8000
set_option maxHeartbeats 3200000
namespace Lite
open Go Go.RowKit
/-- A list in a block of one's own. -/
theorem SlR.blkC {α : Type} {R : World → Addr → α → Prop} {C : World → List Value → α → Prop} {sz : Nat} [Rel R C sz] {w : World} {b n : Nat} {e : TypeId} {cells : List Value} {xs : List α} (css : List (Cs sz)) (hb : w.heap[b]? = some (.cells cells.toArray e)) (hcells : cells = css.flatMap encC)
    (hl : css.length = xs.length) (hn : n = xs.length) (hm : xs.length ≤ maxLen) (hc : ∀ i (h1 : i < css.length) (h2 : i < xs.length), C w css[i].1 xs[i]) : SlR sz R w (.slice (some ⟨b, 0, none⟩) n n) xs := by
  subst hcells
  exact SlR.ofCells hl (SlR.blk (enc := encC) encC_len hb (by omega) (by omega) fun _ _ _ h => h) hc
end Lite
namespace Abs
open Go
def exS : Scalar := ⟨⟨#[83]⟩, 2⟩
theorem inI_small {n : Int} (h : -1000 ≤ n ∧ n ≤ 1000) : inI n := by unfold inI; omega
end Abs
namespace Go.Proofs.YtpaahhleopalaaaGreatDoor
open Go Go.RowKit Lite
end Go.Proofs.YtpaahhleopalaaaGreatDoor
end
section
/- Processes: the laws on scopes and on instances, walked. -/
set_option maxRecDepth 8000
set_option maxHeartbeats 3200000
namespace Abs
end Abs
namespace Go.Proofs.YtpaahhleopalaaaGreatDoor
open Go Go.RowKit Lite
end Go.Proofs.YtpaahhleopalaaaGreatDoor
end
section
/- Arguments opened: nodes, acts, commands, processes, propositions, scopes, models. -/
set_option maxRecDepth 4000
namespace Lite
open Go Go.RowKit Go.ChangeShapes Go.WideShapes Go.Deep
section
variable {H : Type} {enc : TypeId × Value → H} {P : Program} {w : World} {base : Nat} {spare : Nat → Bool} {held : Bool}
/-- A struct of one-cell fields, read field by field, with each field's datum. -/
theorem fields2 {t : TypeId} {fs : Array Field} {n : Nat} {cs : List Value} {y : DataW H × List MemPlace} (ht : P.underlying t = some (.struct fs)) (hone : oneCellFields P fs = true) (hC : P.cellsOf t = fs.size)
    (h : DataW.trod enc P w base spare held n t cs = some y) : cs.length = fs.size ∧ ∃ n' ds, y.1 = .agg ds ∧ ∀ (j : Nat) (f : Field), fs[j]? = some f → ∃ v z, cs[j]? = some v ∧ DataW.trod enc P w base spare held n' f.type [v] = some z ∧ ds[j]? = some z.1 := by
  obtain ⟨ys, n', hn', hy, hlen, hyl, hf⟩ := DataW.trod_struct ht h
  refine ⟨by omega, n', _, by rw [hy], fun j f hj => ?_⟩
  obtain ⟨ho, hk⟩ := hone_of hone j f hj
  have hjl : j < fs.size := (Array.getElem?_eq_some_iff.1 hj).1
  have hv : cs[j]? = some (cs[j]'(by omega)) := List.getElem?_eq_getElem (by omega)
  have h1 := hf j f hj
  rw [ho, hk] at h1
  have hone' : (cs.drop j).take 1 = [cs[j]'(by omega)] := by
    rw [List.drop_eq_getElem_cons (by omega)]
    rfl
  rw [hone', List.getElem?_eq_getElem (l := ys) (by omega)] at h1
  exact ⟨_, _, hv, h1, by rw [List.getElem?_map, List.getElem?_eq_getElem (by omega)]; rfl⟩
/-- All that is read of a datum is no more than a machine holds. -/
def Small (P : Program) (t : TypeId) (d : DataW H) : Prop := ∀ q ∈ d.weights P t, q ≤ reachBytes
theorem Small.field {t u : TypeId} {fs : Array Field} {ds : List (DataW H)} {j : Nat} {d : DataW H} {f : Field} (h : Small P t (.agg ds)) (ht : P.underlying t = some (.struct fs)) (hf : fs[j]? = some f) (hu : f.type = u) (hd : ds[j]? = some d) : Small P u d := by
  subst hu
  intro q hq
  refine h q ?_
  simp only [DataW.weights, ht]
  exact DataW.weights_mem_each (j := j) (by simp [hf]) hd q hq
end
end Lite
namespace Go.Proofs.YtpaahhleopalaaaGreatDoor
open Go Go.RowKit Lite Go.ChangeShapes
variable {H : Type} {enc : TypeId × Value → H} {w : World} {cs : List Value} {n : Nat} {y : DataW H × List MemPlace} {v : Value}
theorem wf_inI {z : Int} (h : (Lit.int .i64 z).wf = true) : Abs.inI z := by
  simp only [Lit.wf, Bool.and_eq_true, decide_eq_true_eq] at h
  exact ⟨h.1, h.2⟩
theorem node_el (h : DataW.trod enc Tryz.prog w 0 (fun _ => true) true n T.api_Node cs = some y) : ∃ x : Abs.Node, cs = x.enc ∧ x.ok := by
  obtain ⟨hl, n', ds, _, hf⟩ := fields2 (t := T.api_Node) rfl (by kernel_rfl) (by kernel_rfl) h
  match cs, hl with
  | [c0, c1], _ =>
    obtain ⟨_, _, e0, h0, _⟩ := hf 0 _ rfl
    obtain ⟨_, _, e1, h1, _⟩ := hf 1 _ rfl
    cases e0; cases e1
    obtain ⟨z0, e0, _, k0⟩ := DataW.trod_int (k := .i64) (by kernel_rfl) h0
    obtain ⟨z1, e1, _, k1⟩ := DataW.trod_int (k := .i64) (by kernel_rfl) h1
    cases e0; cases e1
    exact ⟨⟨z0, z1⟩, rfl, wf_inI k0, wf_inI k1⟩
end Go.Proofs.YtpaahhleopalaaaGreatDoor
end
section
/- Arguments opened: models, with what their sizes tell. -/
set_option maxRecDepth 4000
namespace Lite
open Go Go.RowKit Go.ChangeShapes Go.WideShapes Go.Deep
section
variable {H : Type} {enc : TypeId × Value → H} {P : Program} {w : World} {base : Nat} {spare : Nat → Bool} {held : Bool}
theorem weights_mem_all {e : TypeId} : ∀ {ds : List (DataW H)} {d : DataW H}, d ∈ ds → ∀ n ∈ d.weights P e, n ∈ DataW.weightsAll P e ds
  | [], _, h => by cases h
  | x :: r, d, h => fun n hn => by
    simp only [DataW.weightsAll]
    rcases List.mem_cons.1 h with rfl | h
    · exact List.mem_append_left _ hn
    · exact List.mem_append_right _ (weights_mem_all h n hn)
/-- A cell that holds a slice whose elements are read each by R, and are good where the datum is small. -/
theorem cell_slG {α : Type} {R : World → Addr → α → Prop} {G : α → Prop} {t e : TypeId} {v : Value} {n : Nat} {z : DataW H × List MemPlace} (sz B : Nat) (ht : P.underlying t = some (.slice e)) (hC : P.cellsOf e = sz) (hB : P.bytesOf e = B)
    (hR : ∀ (a : Addr) (cs : List Value) (n : Nat) (y : DataW H × List MemPlace), CellsAt w a cs → cs.length = sz → DataW.trod enc P w 0 (fun _ => true) true n e cs = some y → ∃ x, R w a x ∧ (Small P e y.1 → G x))
    (h : DataW.trod enc P w 0 (fun _ => true) true n t [v] = some z) : ∃ xs, SlR sz R w v xs ∧ (Small P t z.1 → Abs.big xs.length B ∧ ∀ x ∈ xs, G x) := by
  rcases open_slice ht h with ⟨hcs, _⟩ | ⟨a, len, cap, m, n, D, Pl, hcs, hb, hl, hm, hmm, hx, hi⟩
  · simp at hcs
    subst hcs
    exact ⟨[], SlR.nil, fun _ => ⟨by simp [Abs.big], fun x hx => by cases hx⟩⟩
  · simp at hcs
    subst hcs
    simp only [if_true] at hmm
    subst hmm
    obtain ⟨xs, hxl, hxs⟩ := list_of len (fun i x => R w (a.add (i * sz)) x ∧ (Small P e (D i) → G x)) fun i hi' => by
      obtain ⟨cs', hc, ht'⟩ := hi i (by omega)
      rw [hC] at hc
      obtain ⟨_, hcl, hat⟩ := World.cells?_some hc
      refine hR _ cs' n _ (fun j u hj => ?_) hcl ht'
      have hjl' : j < sz := hcl ▸ (List.getElem?_eq_some_iff.1 hj).1
      rw [← hj]
      exact hat j hjl'
    refine ⟨xs, ⟨some a, _, by rw [hxl], by omega, hm, fun _ => rfl, fun a' ha i hi => by injection ha with ha; subst ha; exact (hxs i hi).1⟩, fun hs => ⟨?_, fun x hx' => ?_⟩⟩
    · have h1 := hs ((len + (m - len)) * P.bytesOf e) (by rw [hx]; simp [DataW.weights, ht])
      have h2 : len * B ≤ (len + (m - len)) * P.bytesOf e := by rw [hB]; exact Nat.mul_le_mul_right _ (by omega)
      have h3 : reachBytes = 140737488351232 := rfl
      unfold Abs.big
      rw [hxl]
      omega
    · obtain ⟨i, hi', rfl⟩ := List.mem_iff_getElem.1 hx'
      refine (hxs i hi').2 fun q hq => hs q ?_
      rw [hx]
      simp only [DataW.weights, ht]
      refine List.mem_cons_of_mem _ (List.mem_append_left _ (weights_mem_all ?_ q hq))
      exact List.mem_map.2 ⟨i, by simp; omega, rfl⟩
theorem open_stG {r : Reach} {b0 : Nat} {t : TypeId} {fs : Array Field} {v : Value} {d : DataW H} {p : List MemPlace} (ht : P.underlying t = some (.struct fs))
    (hval : Value.okWide P w r b0 t v) (h : DataW.Trod enc P w base spare held t v d p) : ∃ cs n, v = .agg cs ∧ DataW.trod enc P w base spare held n t cs.toList = some (d, p) := by
  obtain ⟨cs, rfl, hsz⟩ := okWide_struct ht hval
  obtain ⟨fuel, hf⟩ := h
  exact ⟨cs, fuel, rfl, hf⟩
end
end Lite
namespace Go.Proofs.YtpaahhleopalaaaGreatDoor
open Go Go.RowKit Lite Go.ChangeShapes
variable {H : Type} {enc : TypeId × Value → H} {w : World} {cs : List Value} {n : Nat} {y : DataW H × List MemPlace} {v : Value}
theorem gscalar (h : DataW.trod enc Tryz.prog w 0 (fun _ => true) true n T.api_Scalar cs = some y) : ∃ x : Abs.Scalar, cs = x.enc ∧ Abs.strOk x.name ∧ x.good := by
  obtain ⟨hl, n', ds, _, hf⟩ := fields2 (t := T.api_Scalar) rfl (by kernel_rfl) (by kernel_rfl) h
  match cs, hl with
  | [c0, c1], _ =>
    obtain ⟨_, _, e0, h0, _⟩ := hf 0 _ rfl
    obtain ⟨_, _, e1, h1, _⟩ := hf 1 _ rfl
    cases e0; cases e1
    obtain ⟨s, e0, _, hs⟩ := DataW.trod_string (by kernel_rfl) h0
    obtain ⟨z, e1, _, k1⟩ := DataW.trod_int (k := .i64) (by kernel_rfl) h1
    cases e0; cases e1
    exact ⟨⟨s, z⟩, rfl, hs, ⟨wf_inI k1⟩⟩
theorem gvar (h : DataW.trod enc Tryz.prog w 0 (fun _ => true) true n T.api_Var cs = some y) : ∃ x : Abs.Var, cs = x.enc ∧ Abs.strOk x.name ∧ x.good := by
  obtain ⟨hl, n', ds, _, hf⟩ := fields2 (t := T.api_Var) rfl (by kernel_rfl) (by kernel_rfl) h
  match cs, hl with
  | [c0, c1, c2, c3, c4, c5], _ =>
    obtain ⟨_, _, e0, h0, _⟩ := hf 0 _ rfl
    obtain ⟨_, _, e1, h1, _⟩ := hf 1 _ rfl
    obtain ⟨_, _, e2, h2, _⟩ := hf 2 _ rfl
    obtain ⟨_, _, e3, h3, _⟩ := hf 3 _ rfl
    obtain ⟨_, _, e4, h4, _⟩ := hf 4 _ rfl
    obtain ⟨_, _, e5, h5, _⟩ := hf 5 _ rfl
    cases e0; cases e1; cases e2; cases e3; cases e4; cases e5
    obtain ⟨s, e0, _, hs⟩ := DataW.trod_string (by kernel_rfl) h0
    obtain ⟨z1, e1, _, k1⟩ := DataW.trod_int (k := .i64) (by kernel_rfl) h1
    obtain ⟨z2, e2, _, k2⟩ := DataW.trod_int (k := .i64) (by kernel_rfl) h2
    obtain ⟨z3, e3, _, k3⟩ := DataW.trod_int (k := .i64) (by kernel_rfl) h3
    obtain ⟨z4, e4, _, k4⟩ := DataW.trod_int (k := .i64) (by kernel_rfl) h4
    obtain ⟨z5, e5, _, k5⟩ := DataW.trod_int (k := .i64) (by kernel_rfl) h5
    cases e0; cases e1; cases e2; cases e3; cases e4; cases e5
    exact ⟨⟨s, z1, z2, z3, z4, z5⟩, rfl, hs, ⟨wf_inI k1, wf_inI k2, wf_inI k3, wf_inI k4, wf_inI k5⟩⟩
theorem gchan (h : DataW.trod enc Tryz.prog w 0 (fun _ => true) true n T.api_Chan cs = some y) : ∃ x : Abs.Chan, cs = x.enc ∧ Abs.strOk x.name ∧ x.good := by
  obtain ⟨hl, n', ds, _, hf⟩ := fields2 (t := T.api_Chan) rfl (by kernel_rfl) (by kernel_rfl) h
  match cs, hl with
  | [c0, c1, c2, c3, c4, c5], _ =>
    obtain ⟨_, _, e0, h0, _⟩ := hf 0 _ rfl
    obtain ⟨_, _, e1, h1, _⟩ := hf 1 _ rfl
    obtain ⟨_, _, e2, h2, _⟩ := hf 2 _ rfl
    obtain ⟨_, _, e3, h3, _⟩ := hf 3 _ rfl
    obtain ⟨_, _, e4, h4, _⟩ := hf 4 _ rfl
    obtain ⟨_, _, e5, h5, _⟩ := hf 5 _ rfl
    cases e0; cases e1; cases e2; cases e3; cases e4; cases e5
    obtain ⟨s, e0, _, hs⟩ := DataW.trod_string (by kernel_rfl) h0
    obtain ⟨z1, e1, _, k1⟩ := DataW.trod_int (k := .i64) (by kernel_rfl) h1
    obtain ⟨z2, e2, _, k2⟩ := DataW.trod_int (k := .i64) (by kernel_rfl) h2
    obtain ⟨z3, e3, _, k3⟩ := DataW.trod_int (k := .i64) (by kernel_rfl) h3
    obtain ⟨z4, e4, _, k4⟩ := DataW.trod_int (k := .i64) (by kernel_rfl) h4
    obtain ⟨z5, e5, _⟩ := DataW.trod_bool (by kernel_rfl) h5
    cases e0; cases e1; cases e2; cases e3; cases e4; cases e5
    exact ⟨⟨s, z1, z2, z3, z4, z5⟩, rfl, hs, ⟨wf_inI k1, wf_inI k2, wf_inI k3, wf_inI k4⟩⟩
theorem gnodes (h : DataW.trod enc Tryz.prog w 0 (fun _ => true) true n T.sl_api_Node [v] = some y) : ∃ l, Abs.Nodes w v l ∧ (Small Tryz.prog T.sl_api_Node y.1 → Abs.big l.length 16 ∧ ∀ x ∈ l, True) :=
  cell_slG (G := fun _ => True) (e := T.api_Node) 2 16 (by kernel_rfl) (by kernel_rfl) (by kernel_rfl) (fun a cs n y hc hl ht => by obtain ⟨x, rfl, hx⟩ := node_el ht; exact ⟨x, ⟨hc, hx⟩, fun _ => trivial⟩) h
theorem gscalars (h : DataW.trod enc Tryz.prog w 0 (fun _ => true) true n T.sl_api_Scalar [v] = some y) : ∃ l, Abs.Scalars w v l ∧ (Small Tryz.prog T.sl_api_Scalar y.1 → Abs.big l.length 24 ∧ ∀ x ∈ l, x.good) :=
  cell_slG (e := T.api_Scalar) 2 24 (by kernel_rfl) (by kernel_rfl) (by kernel_rfl) (fun a cs n y hc hl ht => by obtain ⟨x, rfl, hx, hg⟩ := gscalar ht; exact ⟨x, ⟨hc, hx⟩, fun _ => hg⟩) h
theorem gvars (h : DataW.trod enc Tryz.prog w 0 (fun _ => true) true n T.sl_api_Var [v] = some y) : ∃ l, Abs.Vars w v l ∧ (Small Tryz.prog T.sl_api_Var y.1 → Abs.big l.length 56 ∧ ∀ x ∈ l, x.good) :=
  cell_slG (e := T.api_Var) 6 56 (by kernel_rfl) (by kernel_rfl) (by kernel_rfl) (fun a cs n y hc hl ht => by obtain ⟨x, rfl, hx, hg⟩ := gvar ht; exact ⟨x, ⟨hc, hx⟩, fun _ => hg⟩) h
theorem gchans (h : DataW.trod enc Tryz.prog w 0 (fun _ => true) true n T.sl_api_Chan [v] = some y) : ∃ l, Abs.Chans w v l ∧ (Small Tryz.prog T.sl_api_Chan y.1 → Abs.big l.length 56 ∧ ∀ x ∈ l, x.good) :=
  cell_slG (e := T.api_Chan) 6 56 (by kernel_rfl) (by kernel_rfl) (by kernel_rfl) (fun a cs n y hc hl ht => by obtain ⟨x, rfl, hx, hg⟩ := gchan ht; exact ⟨x, ⟨hc, hx⟩, fun _ => hg⟩) h
theorem gact {a : Addr} (hc : CellsAt w a cs) (h : DataW.trod enc Tryz.prog w 0 (fun _ => true) true n T.api_Act cs = some y) : ∃ x : Abs.Act, Abs.RAct w a x ∧ (Small Tryz.prog T.api_Act y.1 → x.good) := by
  obtain ⟨hl, n', ds, he, hf⟩ := fields2 (t := T.api_Act) rfl (by kernel_rfl) (by kernel_rfl) h
  match cs, hl with
  | [c0, c1, c2, c3, c4], _ =>
    obtain ⟨_, _, e0, h0, _⟩ := hf 0 _ rfl
    obtain ⟨_, _, e1, h1, _⟩ := hf 1 _ rfl
    obtain ⟨_, _, e2, h2, _⟩ := hf 2 _ rfl
    obtain ⟨_, _, e3, h3, d3⟩ := hf 3 _ rfl
    obtain ⟨_, _, e4, h4, d4⟩ := hf 4 _ rfl
    cases e0; cases e1; cases e2; cases e3; cases e4
    obtain ⟨z0, e0, _, k0⟩ := DataW.trod_int (k := .i64) (by kernel_rfl) h0
    obtain ⟨z1, e1, _, k1⟩ := DataW.trod_int (k := .i64) (by kernel_rfl) h1
    obtain ⟨z2, e2, _, k2⟩ := DataW.trod_int (k := .i64) (by kernel_rfl) h2
    cases e0; cases e1; cases e2
    obtain ⟨l3, h3, g3⟩ := gnodes h3
    obtain ⟨l4, h4, g4⟩ := gnodes h4
    exact ⟨⟨z0, z1, z2, l3, l4⟩, ⟨c3, c4, hc, h3, h4⟩, fun hs => by
      rw [he] at hs
      exact ⟨wf_inI k0, wf_inI k1, wf_inI k2, (g3 (hs.field rfl rfl rfl d3)).1, (g4 (hs.field rfl rfl rfl d4)).1⟩⟩
theorem gacts (h : DataW.trod enc Tryz.prog w 0 (fun _ => true) true n T.sl_api_Act [v] = some y) : ∃ l, Abs.Acts w v l ∧ (Small Tryz.prog T.sl_api_Act y.1 → Abs.big l.length 72 ∧ ∀ x ∈ l, x.good) :=
  cell_slG (e := T.api_Act) 5 72 (by kernel_rfl) (by kernel_rfl) (by kernel_rfl) (fun a cs n y hc hl ht => gact hc ht) h
theorem gcmd (h : DataW.trod enc Tryz.prog w 0 (fun _ => true) true n T.api_Cmd cs = some y) : ∃ x : Abs.Cmd, Abs.CmdIs w cs x ∧ (Small Tryz.prog T.api_Cmd y.1 → x.good) := by
  obtain ⟨hl, n', ds, he, hf⟩ := fields2 (t := T.api_Cmd) rfl (by kernel_rfl) (by kernel_rfl) h
  match cs, hl with
  | [c0, c1, c2, c3, c4, c5], _ =>
    obtain ⟨_, _, e0, h0, _⟩ := hf 0 _ rfl
    obtain ⟨_, _, e1, h1, _⟩ := hf 1 _ rfl
    obtain ⟨_, _, e2, h2, _⟩ := hf 2 _ rfl
    obtain ⟨_, _, e3, h3, d3⟩ := hf 3 _ rfl
    obtain ⟨_, _, e4, h4, d4⟩ := hf 4 _ rfl
    obtain ⟨_, _, e5, h5, _⟩ := hf 5 _ rfl
    cases e0; cases e1; cases e2; cases e3; cases e4; cases e5
    obtain ⟨s, e0, _, hs⟩ := DataW.trod_string (by kernel_rfl) h0
    obtain ⟨z1, e1, _, k1⟩ := DataW.trod_int (k := .i64) (by kernel_rfl) h1
    obtain ⟨z2, e2, _, k2⟩ := DataW.trod_int (k := .i64) (by kernel_rfl) h2
    obtain ⟨z5, e5, _⟩ := DataW.trod_bool (by kernel_rfl) h5
    cases e0; cases e1; cases e2; cases e5
    obtain ⟨l3, h3, g3⟩ := gnodes h3
    obtain ⟨l4, h4, g4⟩ := gacts h4
    exact ⟨⟨s, z1, z2, l3, l4, z5⟩, ⟨hs, c3, c4, rfl, h3, h4⟩, fun hs => by
      rw [he] at hs
      exact ⟨wf_inI k1, wf_inI k2, (g3 (hs.field rfl rfl rfl d3)).1, (g4 (hs.field rfl rfl rfl d4)).1, (g4 (hs.field rfl rfl rfl d4)).2⟩⟩
theorem gcmds (h : DataW.trod enc Tryz.prog w 0 (fun _ => true) true n T.sl_api_Cmd [v] = some y) : ∃ l, Abs.Cmds w v l ∧ (Small Tryz.prog T.sl_api_Cmd y.1 → Abs.big l.length 88 ∧ ∀ x ∈ l, x.good) :=
  cell_slG (e := T.api_Cmd) 6 88 (by kernel_rfl) (by kernel_rfl) (by kernel_rfl) (fun a cs n y hc hl ht => by
    obtain ⟨x, ⟨h0, vg, va, rfl, h1, h2⟩, hg⟩ := gcmd ht
    exact ⟨x, ⟨h0, vg, va, hc, h1, h2⟩, hg⟩) h
theorem gproc (h : DataW.trod enc Tryz.prog w 0 (fun _ => true) true n T.api_Proc cs = some y) : ∃ x : Abs.Proc, Abs.ProcIs w cs x ∧ (Small Tryz.prog T.api_Proc y.1 → x.good) := by
  obtain ⟨hl, n', ds, he, hf⟩ := fields2 (t := T.api_Proc) rfl (by kernel_rfl) (by kernel_rfl) h
  match cs, hl with
  | [c0, c1, c2, c3, c4], _ =>
    obtain ⟨_, _, e0, h0, _⟩ := hf 0 _ rfl
    obtain ⟨_, _, e1, h1, _⟩ := hf 1 _ rfl
    obtain ⟨_, _, e2, h2, _⟩ := hf 2 _ rfl
    obtain ⟨_, _, e3, h3, d3⟩ := hf 3 _ rfl
    obtain ⟨_, _, e4, h4, d4⟩ := hf 4 _ rfl
    cases e0; cases e1; cases e2; cases e3; cases e4
    obtain ⟨s, e0, _, hs⟩ := DataW.trod_string (by kernel_rfl) h0
    obtain ⟨z1, e1, _, k1⟩ := DataW.trod_int (k := .i64) (by kernel_rfl) h1
    obtain ⟨z2, e2, _, k2⟩ := DataW.trod_int (k := .i64) (by kernel_rfl) h2
    cases e0; cases e1; cases e2
    obtain ⟨l3, h3, g3⟩ := gvars h3
    obtain ⟨l4, h4, g4⟩ := gcmds h4
    exact ⟨⟨s, z1, z2, l3, l4⟩, ⟨hs, c3, c4, rfl, h3, h4⟩, fun hs => by
      rw [he] at hs
      exact ⟨wf_inI k1, wf_inI k2, (g3 (hs.field rfl rfl rfl d3)).1, (g4 (hs.field rfl rfl rfl d4)).1, (g3 (hs.field rfl rfl rfl d3)).2, (g4 (hs.field rfl rfl rfl d4)).2⟩⟩
theorem gprocs (h : DataW.trod enc Tryz.prog w 0 (fun _ => true) true n T.sl_api_Proc [v] = some y) : ∃ l, Abs.Procs w v l ∧ (Small Tryz.prog T.sl_api_Proc y.1 → Abs.big l.length 80 ∧ ∀ x ∈ l, x.good) :=
  cell_slG (e := T.api_Proc) 5 80 (by kernel_rfl) (by kernel_rfl) (by kernel_rfl) (fun a cs n y hc hl ht => by
    obtain ⟨x, ⟨h0, vg, va, rfl, h1, h2⟩, hg⟩ := gproc ht
    exact ⟨x, ⟨h0, vg, va, hc, h1, h2⟩, hg⟩) h
theorem gprps (h : DataW.trod enc Tryz.prog w 0 (fun _ => true) true n T.sl_api_Prop [v] = some y) : ∃ l, Abs.Prps w v l ∧ (Small Tryz.prog T.sl_api_Prop y.1 → Abs.big l.length 40 ∧ ∀ x ∈ l, x.good) :=
  cell_slG (e := T.api_Prop) 2 40 (by kernel_rfl) (by kernel_rfl) (by kernel_rfl) (fun a cs n y hc hl ht => by
    obtain ⟨hl, n', ds, he, hf⟩ := fields2 (t := T.api_Prop) rfl (by kernel_rfl) (by kernel_rfl) ht
    match cs, hl with
    | [c0, c1], _ =>
      obtain ⟨_, _, e0, h0, _⟩ := hf 0 _ rfl
      obtain ⟨_, _, e1, h1, d1⟩ := hf 1 _ rfl
      cases e0; cases e1
      obtain ⟨s, e0, _, hs⟩ := DataW.trod_string (by kernel_rfl) h0
      cases e0
      obtain ⟨l1, h1, g1⟩ := gnodes h1
      exact ⟨⟨s, l1⟩, ⟨hs, c1, hc, h1⟩, fun hs => by rw [he] at hs; exact ⟨(g1 (hs.field rfl rfl rfl d1)).1⟩⟩) h
theorem open_modelG {r : Reach} {b0 : Nat} {v : Value} {d : DataW H} {p : List MemPlace} (hval : Value.okWide Tryz.prog w r b0 T.api_Model v) (h : DataW.Trod enc Tryz.prog w 0 (fun _ => true) true T.api_Model v d p) (hs : Small Tryz.prog T.api_Model d) :
    ∃ cs m, v = .agg cs.toArray ∧ Abs.ModelIs w cs m ∧ m.good := by
  obtain ⟨cs, n, rfl, ht⟩ := open_stG (t := T.api_Model) rfl hval h
  obtain ⟨hl, n', ds, rfl, hf⟩ := fields2 (t := T.api_Model) rfl (by kernel_rfl) (by kernel_rfl) ht
  obtain ⟨cs⟩ := cs
  match cs, hl with
  | [c0, c1, c2, c3, c4], _ =>
    obtain ⟨_, _, e0, h0, d0⟩ := hf 0 _ rfl
    obtain ⟨_, _, e1, h1, d1⟩ := hf 1 _ rfl
    obtain ⟨_, _, e2, h2, d2⟩ := hf 2 _ rfl
    obtain ⟨_, _, e3, h3, d3⟩ := hf 3 _ rfl
    obtain ⟨_, _, e4, h4, d4⟩ := hf 4 _ rfl
    cases e0; cases e1; cases e2; cases e3; cases e4
    obtain ⟨l0, r0, b0⟩ := gscalars h0
    obtain ⟨l1, r1, b1⟩ := gvars h1
    obtain ⟨l2, r2, b2⟩ := gchans h2
    obtain ⟨l3, r3, b3⟩ := gprocs h3
    obtain ⟨l4, r4, b4⟩ := gprps h4
    have k0 := b0 (hs.field rfl rfl rfl d0)
    have k1 := b1 (hs.field rfl rfl rfl d1)
    have k2 := b2 (hs.field rfl rfl rfl d2)
    have k3 := b3 (hs.field rfl rfl rfl d3)
    have k4 := b4 (hs.field rfl rfl rfl d4)
    exact ⟨[c0, c1, c2, c3, c4], ⟨l0, l1, l2, l3, l4⟩, rfl, ⟨⟨c0, c1, c2, c3, c4, rfl, r0, r1, r2, r3, r4⟩⟩, ⟨k0.1, k1.1, k2.1, k3.1, k4.1, k0.2, k1.2, k2.2, k3.2, k4.2⟩⟩
end Go.Proofs.YtpaahhleopalaaaGreatDoor
end
section
/- The walks of the laws on processes, from what their arguments are. -/
set_option maxRecDepth 4000
namespace Go.Proofs.YtpaahhleopalaaaGreatDoor
open Go Go.RowKit Lite Go.ChangeShapes Go.WideShapes Go.Deep
end Go.Proofs.YtpaahhleopalaaaGreatDoor
end
section
/- Plain: whole models. No program in sight. -/
namespace Abs
open Go
structure Fault where
  why : Int
  part : Int
  item : Int
  sub : Int
deriving DecidableEq
def fine : Fault := ⟨0, 0, 0, 0⟩
abbrev nS (m : Model) : List ByteArray := m.scalars.map (·.name)
abbrev nV (m : Model) (i : Nat) : List ByteArray := (m.vars.take i).map (·.name)
abbrev nC (m : Model) (i : Nat) : List ByteArray := (m.chans.take i).map (·.name)
abbrev nP (m : Model) (i : Nat) : List ByteArray := (m.procs.take i).map (·.name)
abbrev nR (m : Model) (i : Nat) : List ByteArray := (m.props.take i).map (·.name)
abbrev nSV (m : Model) (i : Nat) : List ByteArray := nS m ++ nV m i
abbrev nSVC (m : Model) (i : Nat) : List ByteArray := nSV m m.vars.length ++ nC m i
abbrev nSVCP (m : Model) (i : Nat) : List ByteArray := nSVC m m.chans.length ++ nP m i
abbrev nAll (m : Model) (i : Nat) : List ByteArray := nSVCP m m.procs.length ++ nR m i
def verr (m : Model) : Nat → Int := err 12 (nameAt (·.name) m.vars) (varErr m.vars m.scalars)
def cerr (m : Model) : Nat → Int := err 4 (nameAt (·.name) m.chans) (chanErr m.chans m.scalars)
def evar (m : Model) (i : Nat) : Int := if verr m i ≠ 0 then verr m i else if nameAt (·.name) m.vars i ∈ nSV m i then 7 else 0
def echan (m : Model) (i : Nat) : Int := if cerr m i ≠ 0 then cerr m i else if nameAt (·.name) m.chans i ∈ nSVC m i then 7 else 0
def elocs (m : Model) (p : Proc) (k : Nat) : Int := if nameAt (·.name) p.vars k ∈ nSVCP m m.procs.length then 7 else 0
def eproc (m : Model) (i : Nat) : Int × Int :=
  match m.procs[i]? with
  | none => (0, 0)
  | some p => if 6 ≤ i then (11, 0)
    else if (procCheck p (pscope m i)).2.2 ≠ 0 then ((procCheck p (pscope m i)).2.2, 16 * (procCheck p (pscope m i)).1 + (procCheck p (pscope m i)).2.1)
    else if p.name ∈ nSVCP m i then (7, 0)
    else if (first p.vars.length (elocs m p)).2 ≠ 0 then (7, 16 + (first p.vars.length (elocs m p)).1)
    else (0, 0)
def pinsts (m : Model) (p : Proc) : Int := if p.over = 0 then 1 else size p.over m.scalars
def sumI (l : List Int) : Int := l.foldl (· + ·) 0
def ccap (c : Chan) : Int := 1 + min (max c.cap 0) 4
def pieces (m : Model) : Int × Int × Int :=
  (sumI (m.procs.map (pinsts m)), sumI (m.procs.map fun p => pinsts m p * p.cmds.length),
   sumI (m.vars.map (fun v => cells v m.scalars)) + sumI (m.chans.map ccap) + sumI (m.procs.map fun p => pinsts m p * (1 + p.vars.length)))
def eprop (m : Model) (i : Nat) : Int :=
  match m.props[i]? with
  | none => 0
  | some p => if 8 ≤ i then 11 else if isName p.name = false then 6 else if p.name ∈ nAll m i then 7
    else if (kind p.expr (mscope m)).2 ≠ 0 then (kind p.expr (mscope m)).2 else if (kind p.expr (mscope m)).1 ≠ 1 then 9 else 0
def data (m : Model) : Fault :=
  if (scalars m.scalars).2 ≠ 0 then ⟨(scalars m.scalars).2, 1, (scalars m.scalars).1, 0⟩
  else if (first m.vars.length (evar m)).2 ≠ 0 then ⟨(first m.vars.length (evar m)).2, 2, (first m.vars.length (evar m)).1, 0⟩
  else if (first m.chans.length (echan m)).2 ≠ 0 then ⟨(first m.chans.length (echan m)).2, 3, (first m.chans.length (echan m)).1, 0⟩
  else fine
def procsF (m : Model) : Fault :=
  if (first m.procs.length fun i => (eproc m i).1).2 ≠ 0 then ⟨(first m.procs.length fun i => (eproc m i).1).2, 4, (first m.procs.length fun i => (eproc m i).1).1, (eproc m (first m.procs.length fun i => (eproc m i).1).1.toNat).2⟩
  else if 12 < (pieces m).1 ∨ 64 < (pieces m).2.2 then ⟨11, 4, m.procs.length, 0⟩ else fine
def propsF (m : Model) : Fault := if (first m.props.length (eprop m)).2 ≠ 0 then ⟨(first m.props.length (eprop m)).2, 5, (first m.props.length (eprop m)).1, 0⟩ else fine
def check (m : Model) : Fault := if (data m).why ≠ 0 then data m else if (procsF m).why ≠ 0 then procsF m else propsF m

theorem nameAt_get {α : Type} {f : α → ByteArray} {l : List α} {i : Nat} (h : i < l.length) : nameAt f l i = f l[i] := by
  unfold nameAt; rw [List.getElem?_eq_getElem h]; rfl
theorem min_exists {p : Nat → Prop} (h : ∃ j, p j) : ∃ i, p i ∧ ∀ k, p k → i ≤ k := by
  obtain ⟨j, hj⟩ := h
  induction j using Nat.strongRecOn with
  | _ j ih =>
    by_cases hx : ∃ k, k < j ∧ p k
    · obtain ⟨k, hk, hp⟩ := hx; exact ih k hk hp
    · exact ⟨j, hj, fun k hp => Nat.le_of_not_lt fun hlt => hx ⟨k, hlt, hp⟩⟩
theorem first_zero {n : Nat} {e : Nat → Int} (h : (first n e).2 = 0) : ∀ j, j < n → e j = 0 := by
  intro j hj
  apply Classical.byContradiction
  intro hn
  obtain ⟨i, hi, h1⟩ := min_exists (p := fun j => j < n ∧ e j ≠ 0) ⟨j, hj, hn⟩
  rw [first_stop hi.1 (fun k hk => by
    apply Classical.byContradiction
    intro hne
    exact absurd (h1 k ⟨by omega, hne⟩) (by omega)) hi.2] at h
  exact hi.2 h
/-- What is told is told of a place that is there. -/
theorem first_lt {n : Nat} {e : Nat → Int} (h : (first n e).2 ≠ 0) : ∃ i, i < n ∧ (first n e).1 = (i : Int) ∧ (first n e).2 = e i := by
  unfold first at h ⊢
  split at h
  · rename_i i hi
    rw [List.find?_range_eq_some] at hi
    exact ⟨i, by simpa using hi.2.1, rfl, rfl⟩
  · exact absurd rfl h
/-- A prefix: the errors of what is there are as they were. -/
theorem err_take {α : Type} {f : α → ByteArray} {l : List α} {most : Int} {mo mo' : Nat → Int} {k i : Nat} (hi : i < k) (hm : mo i = mo' i) : err most (nameAt f (l.take k)) mo i = err most (nameAt f l) mo' i := by
  have hn : ∀ j, j < k → nameAt f (l.take k) j = nameAt f l j := fun j hj => by unfold nameAt; rw [List.getElem?_take_of_lt hj]
  unfold err
  rw [hn i hi, hm]
  have he : (∃ j, j < i ∧ nameAt f (l.take k) j = nameAt f l i) ↔ (∃ j, j < i ∧ nameAt f l j = nameAt f l i) :=
    ⟨fun ⟨j, h1, h2⟩ => ⟨j, h1, by rw [← hn j (by omega)]; exact h2⟩, fun ⟨j, h1, h2⟩ => ⟨j, h1, by rw [hn j (by omega)]; exact h2⟩⟩
  by_cases hx : ∃ j, j < i ∧ nameAt f l j = nameAt f l i
  · rw [if_pos (he.2 hx), if_pos hx]
  · rw [if_neg (fun h => hx (he.1 h)), if_neg hx]
theorem vars_take {m : Model} {i : Nat} (hi : i < m.vars.length) (hz : ∀ j, j < i → verr m j = 0) : (vars (m.vars.take (i + 1)) m.scalars 12).2 = verr m i := by
  unfold vars
  have hl : (m.vars.take (i + 1)).length = i + 1 := by simp; omega
  rw [hl, show (max 12 0 : Int) = 12 from rfl, first_congr (e' := verr m) (fun j hj => (err_take (mo' := varErr m.vars m.scalars) hj (by unfold varErr; rw [List.getElem?_take_of_lt hj]) : _ = verr m j))]
  by_cases h0 : verr m i = 0
  · rw [first_none fun j hj => by
      by_cases hji : j = i
      · subst hji; exact h0
      · exact hz j (by omega), h0]
  · rw [first_stop (by omega) hz h0]
theorem chans_take {m : Model} {i : Nat} (hi : i < m.chans.length) (hz : ∀ j, j < i → cerr m j = 0) : (chans (m.chans.take (i + 1)) m.scalars).2 = cerr m i := by
  unfold chans
  have hl : (m.chans.take (i + 1)).length = i + 1 := by simp; omega
  rw [hl, first_congr (e' := cerr m) (fun j hj => (err_take (mo' := chanErr m.chans m.scalars) hj (by unfold chanErr; rw [List.getElem?_take_of_lt hj]) : _ = cerr m j))]
  by_cases h0 : cerr m i = 0
  · rw [first_none fun j hj => by
      by_cases hji : j = i
      · subst hji; exact h0
      · exact hz j (by omega), h0]
  · rw [first_stop (by omega) hz h0]
theorem vars_eq (m : Model) : vars m.vars m.scalars 12 = first m.vars.length (verr m) := rfl
theorem chans_eq (m : Model) : chans m.chans m.scalars = first m.chans.length (cerr m) := rfl
theorem verr_of {m : Model} {i : Nat} (h : evar m i = 0) : verr m i = 0 := by
  apply Classical.byContradiction
  intro hn
  unfold evar at h
  rw [if_pos hn] at h
  exact hn h
theorem cerr_of {m : Model} {i : Nat} (h : echan m i = 0) : cerr m i = 0 := by
  apply Classical.byContradiction
  intro hn
  unfold echan at h
  rw [if_pos hn] at h
  exact hn h
theorem evar_lt {m : Model} {i : Nat} (h : evar m i = 0) : i < 12 := by
  have h := verr_of h
  unfold verr err at h
  split at h
  · cases h
  · omega
theorem echan_lt {m : Model} {i : Nat} (h : echan m i = 0) : i < 4 := by
  have h := cerr_of h
  unfold cerr err at h
  split at h
  · cases h
  · omega
theorem eproc_lt {m : Model} {i : Nat} (hi : i < m.procs.length) (h : (eproc m i).1 = 0) : i < 6 := by
  unfold eproc at h
  rw [List.getElem?_eq_getElem hi] at h
  simp only at h
  split at h
  · cases h
  · omega
theorem eprop_lt {m : Model} {i : Nat} (hi : i < m.props.length) (h : eprop m i = 0) : i < 8 := by
  unfold eprop at h
  rw [List.getElem?_eq_getElem hi] at h
  simp only at h
  split at h
  · cases h
  · omega
theorem scalars_lt {m : Model} (h : (scalars m.scalars).2 = 0) : m.scalars.length ≤ 2 := by
  unfold scalars at h
  have := first_zero h
  apply Classical.byContradiction
  intro hn
  have h2 := this 2 (by omega)
  unfold err at h2
  rw [if_pos (by omega)] at h2
  cases h2
theorem size_le (k : Int) (s : List Scalar) : 0 ≤ size k s ∧ size k s ≤ 4 := by
  unfold size
  split
  · split <;> omega
  · omega
theorem cells_le (v : Var) (s : List Scalar) : 0 ≤ cells v s ∧ cells v s ≤ 4 := by
  have := size_le v.over s
  unfold cells
  split <;> omega
theorem pinsts_le (m : Model) (p : Proc) : 0 ≤ pinsts m p ∧ pinsts m p ≤ 4 := by
  have := size_le p.over m.scalars
  unfold pinsts
  split <;> omega
theorem ccap_le (c : Chan) : 1 ≤ ccap c ∧ ccap c ≤ 5 := by unfold ccap; omega
theorem sumI_snoc (l : List Int) (x : Int) : sumI (l ++ [x]) = sumI l + x := by unfold sumI; simp
theorem sumI_take {α : Type} (f : α → Int) (l : List α) {k : Nat} (h : k < l.length) : sumI ((l.take (k + 1)).map f) = sumI ((l.take k).map f) + f l[k] := by
  rw [List.take_succ_eq_append_getElem h, List.map_append, List.map_cons, List.map_nil, sumI_snoc]
theorem sumI_le {α : Type} (f : α → Int) (B : Int) (hB : 0 ≤ B) : ∀ (l : List α), (∀ x ∈ l, 0 ≤ f x ∧ f x ≤ B) → 0 ≤ sumI (l.map f) ∧ sumI (l.map f) ≤ B * l.length := by
  have key : ∀ (l : List α) (a : Int), (∀ x ∈ l, 0 ≤ f x ∧ f x ≤ B) → a ≤ (l.map f).foldl (· + ·) a ∧ (l.map f).foldl (· + ·) a ≤ a + B * l.length := by
    intro l
    induction l with
    | nil => intro a _; simp
    | cons x r ih =>
      intro a h
      have hx := h x (by simp)
      obtain ⟨h1, h2⟩ := ih (a + f x) fun y hy => h y (by simp [hy])
      simp only [List.map_cons, List.foldl_cons, List.length_cons]
      rw [Int.natCast_succ, Int.mul_add]
      omega
  intro l h
  obtain ⟨h1, h2⟩ := key l 0 h
  unfold sumI
  omega
end Abs
namespace Abs
theorem data_s {m : Model} (h : (scalars m.scalars).2 ≠ 0) : data m = ⟨(scalars m.scalars).2, 1, (scalars m.scalars).1, 0⟩ := by unfold data; rw [if_pos h]
theorem data_v {m : Model} (hs : (scalars m.scalars).2 = 0) {i : Nat} (hi : i < m.vars.length) (hz : ∀ j, j < i → evar m j = 0) (h : evar m i ≠ 0) : data m = ⟨evar m i, 2, i, 0⟩ := by
  unfold data
  rw [if_neg (by simpa using hs), first_stop hi hz h, if_pos h]
theorem data_c {m : Model} (hs : (scalars m.scalars).2 = 0) (hv : ∀ j, j < m.vars.length → evar m j = 0) {i : Nat} (hi : i < m.chans.length) (hz : ∀ j, j < i → echan m j = 0) (h : echan m i ≠ 0) : data m = ⟨echan m i, 3, i, 0⟩ := by
  unfold data
  rw [if_neg (by simpa using hs), first_none hv, if_neg (by simp), first_stop hi hz h, if_pos h]
theorem data_0 {m : Model} (hs : (scalars m.scalars).2 = 0) (hv : ∀ j, j < m.vars.length → evar m j = 0) (hc : ∀ j, j < m.chans.length → echan m j = 0) : data m = fine := by
  unfold data
  rw [if_neg (by simpa using hs), first_none hv, if_neg (by simp), first_none hc, if_neg (by simp)]
theorem data_ok {m : Model} (h : (data m).why = 0) : (scalars m.scalars).2 = 0 ∧ (∀ j, j < m.vars.length → evar m j = 0) ∧ (∀ j, j < m.chans.length → echan m j = 0) := by
  unfold data at h
  by_cases h1 : (scalars m.scalars).2 = 0
  · rw [if_neg (by simpa using h1)] at h
    by_cases h2 : (first m.vars.length (evar m)).2 = 0
    · rw [if_neg (by simpa using h2)] at h
      by_cases h3 : (first m.chans.length (echan m)).2 = 0
      · exact ⟨h1, first_zero h2, first_zero h3⟩
      · rw [if_pos h3] at h; exact absurd h h3
    · rw [if_pos h2] at h; exact absurd h h2
  · rw [if_pos h1] at h; exact absurd h h1
/-- What has no fault is not great. -/
theorem data_few {m : Model} (h : (data m).why = 0) : m.scalars.length ≤ 2 ∧ m.vars.length ≤ 12 ∧ m.chans.length ≤ 4 := by
  obtain ⟨h1, h2, h3⟩ := data_ok h
  refine ⟨scalars_lt h1, ?_, ?_⟩
  · apply Classical.byContradiction
    intro hn
    have := evar_lt (h2 12 (by omega))
    omega
  · apply Classical.byContradiction
    intro hn
    have := echan_lt (h3 4 (by omega))
    omega
theorem procs_i {m : Model} {i : Nat} (hi : i < m.procs.length) (hz : ∀ j, j < i → (eproc m j).1 = 0) (h : (eproc m i).1 ≠ 0) : procsF m = ⟨(eproc m i).1, 4, i, (eproc m i).2⟩ := by
  unfold procsF
  rw [first_stop (e := fun i => (eproc m i).1) hi hz h]
  simp only
  rw [if_pos h]
  simp
theorem procs_all {m : Model} (hz : ∀ j, j < m.procs.length → (eproc m j).1 = 0) : procsF m = if 12 < (pieces m).1 ∨ 64 < (pieces m).2.2 then ⟨11, 4, m.procs.length, 0⟩ else fine := by
  unfold procsF
  rw [first_none (e := fun i => (eproc m i).1) hz, if_neg (by simp)]
theorem procs_ok {m : Model} (h : (procsF m).why = 0) : (∀ j, j < m.procs.length → (eproc m j).1 = 0) ∧ (pieces m).1 ≤ 12 ∧ (pieces m).2.2 ≤ 64 := by
  by_cases h1 : (first m.procs.length fun i => (eproc m i).1).2 = 0
  · have hz := first_zero h1
    rw [procs_all hz] at h
    refine ⟨hz, ?_⟩
    by_cases h2 : 12 < (pieces m).1 ∨ 64 < (pieces m).2.2
    · rw [if_pos h2] at h; cases h
    · omega
  · unfold procsF at h
    rw [if_pos h1] at h; exact absurd h h1
theorem props_i {m : Model} {i : Nat} (hi : i < m.props.length) (hz : ∀ j, j < i → eprop m j = 0) (h : eprop m i ≠ 0) : propsF m = ⟨eprop m i, 5, i, 0⟩ := by
  unfold propsF
  rw [first_stop hi hz h, if_pos h]
theorem props_0 {m : Model} (hz : ∀ j, j < m.props.length → eprop m j = 0) : propsF m = fine := by
  unfold propsF
  rw [first_none hz, if_neg (by simp)]
theorem props_ok {m : Model} (h : (propsF m).why = 0) : ∀ j, j < m.props.length → eprop m j = 0 := by
  by_cases h1 : (first m.props.length (eprop m)).2 = 0
  · exact first_zero h1
  · unfold propsF at h
    rw [if_pos h1] at h; exact absurd h h1
theorem take_snocN {α : Type} (f : α → ByteArray) (l : List α) {k : Nat} (h : k < l.length) : (l.take (k + 1)).map f = (l.take k).map f ++ [f l[k]] := by
  rw [List.take_succ_eq_append_getElem h, List.map_append]; rfl
end Abs
namespace Abs
theorem eproc_get {m : Model} {i : Nat} (hi : i < m.procs.length) : eproc m i = if 6 ≤ i then (11, 0)
    else if (procCheck m.procs[i] (pscope m i)).2.2 ≠ 0 then ((procCheck m.procs[i] (pscope m i)).2.2, 16 * (procCheck m.procs[i] (pscope m i)).1 + (procCheck m.procs[i] (pscope m i)).2.1)
    else if m.procs[i].name ∈ nSVCP m i then (7, 0)
    else if (first m.procs[i].vars.length (elocs m m.procs[i])).2 ≠ 0 then (7, 16 + (first m.procs[i].vars.length (elocs m m.procs[i])).1)
    else (0, 0) := by
  unfold eproc
  rw [List.getElem?_eq_getElem hi]
theorem eprop_get {m : Model} {i : Nat} (hi : i < m.props.length) : eprop m i = if 8 ≤ i then 11 else if isName m.props[i].name = false then 6 else if m.props[i].name ∈ nAll m i then 7
    else if (kind m.props[i].expr (mscope m)).2 ≠ 0 then (kind m.props[i].expr (mscope m)).2 else if (kind m.props[i].expr (mscope m)).1 ≠ 1 then 9 else 0 := by
  unfold eprop
  rw [List.getElem?_eq_getElem hi]
theorem first_in (n : Nat) (e : Nat → Int) : 0 ≤ (first n e).1 ∧ (first n e).1 ≤ n := by
  unfold first
  split
  · rename_i i hi
    rw [List.find?_range_eq_some] at hi
    have := hi.2.1
    simp at this
    constructor <;> simp <;> omega
  · simp
theorem localsE_in (s : Scope) : ∀ (l : List Var) (i : Nat), 0 ≤ (localsE s l i).1 ∧ (localsE s l i).1 ≤ i + l.length
  | [], i => by first | (simp [localsE]; done) | (simp [localsE]; omega)
  | v :: r, i => by
    have := localsE_in s r (i + 1)
    unfold localsE
    split
    · simp; omega
    · split
      · simp; omega
      · simp only [List.length_cons]; omega
theorem plocals_in (p : Proc) (s : Scope) : 0 ≤ (plocals p s).1 ∧ (plocals p s).1 ≤ p.vars.length := by
  unfold plocals
  split
  · exact first_in _ _
  · have := localsE_in s p.vars 0; omega
theorem actsE_in (s : Scope) : ∀ (l : List Act) (i : Nat) (t : Bool), 0 ≤ (actsE s l i t).1 ∧ (actsE s l i t).1 ≤ 2 + i + l.length
  | [], i, t => by first | (simp [actsE]; done) | (simp [actsE]; omega)
  | a :: r, i, t => by
    have := actsE_in s r (i + 1) (t || talks a)
    unfold actsE
    split
    · simp; omega
    · split
      · simp; omega
      · simp only [List.length_cons]; omega
theorem cmdCheck_in (c : Cmd) (locs : Int) (s : Scope) : 0 ≤ (cmdCheck c locs s).1 ∧ (cmdCheck c locs s).1 ≤ 2 + c.acts.length := by
  unfold cmdCheck
  split
  · simp; omega
  · split
    · simp; omega
    · have := actsE_in s c.acts 0 false; omega
theorem cmdsE_in (own : Scope) (locs : Int) (all : List Cmd) (B : Nat) : ∀ (l : List Cmd) (i : Nat), (∀ c ∈ l, c.acts.length ≤ B) → 0 ≤ (cmdsE own locs all l i).1 ∧ (cmdsE own locs all l i).1 ≤ 2 + i + l.length ∧ 0 ≤ (cmdsE own locs all l i).2.1 ∧ (cmdsE own locs all l i).2.1 ≤ 2 + B
  | [], i, _ => by first | (simp [cmdsE]; done) | (simp [cmdsE]; omega)
  | c :: r, i, h => by
    have h1 := cmdsE_in own locs all B r (i + 1) fun x hx => h x (by simp [hx])
    have h2 := cmdCheck_in c locs own
    have h3 := h c (by simp)
    unfold cmdsE
    split
    · simp only [List.length_cons]; omega
    · split
      · simp only [List.length_cons]; omega
      · simp only [List.length_cons]; omega
theorem procCheck_in (p : Proc) (s : Scope) (B : Nat) (h : ∀ c ∈ p.cmds, c.acts.length ≤ B) : 0 ≤ (procCheck p s).1 ∧ (procCheck p s).1 ≤ 2 + p.cmds.length ∧ 0 ≤ (procCheck p s).2.1 ∧ (procCheck p s).2.1 ≤ 2 + B + p.vars.length := by
  unfold procCheck
  split
  · simp; omega
  · split
    · have := plocals_in p s
      simp only; omega
    · have := cmdsE_in (inner p s) p.locs p.cmds B p.cmds 0 h
      omega
theorem procCheck_few {p : Proc} {s : Scope} (h : (procCheck p s).2.2 = 0) : p.vars.length ≤ 4 ∧ p.cmds.length ≤ 12 ∧ whole p s = 0 ∧ (plocals p s).2 = 0 ∧ (cmdsE (inner p s) p.locs p.cmds p.cmds 0).2.2 = 0 := by
  unfold procCheck at h
  by_cases h1 : whole p s = 0
  · rw [if_neg (by simpa using h1)] at h
    by_cases h2 : (plocals p s).2 = 0
    · rw [if_neg (by simpa using h2)] at h
      refine ⟨?_, ?_, h1, h2, h⟩
      · have h3 : (vars p.vars s.scalars 4).2 = 0 := by
          apply Classical.byContradiction
          intro hn
          unfold plocals at h2
          rw [if_pos hn] at h2
          exact hn h2
        apply Classical.byContradiction
        intro hn
        have h4 := first_zero h3 4 (by omega)
        unfold err at h4
        rw [if_pos (by decide)] at h4
        cases h4
      · apply Classical.byContradiction
        intro hn
        unfold whole at h1
        split at h1
        · cases h1
        · split at h1
          · cases h1
          · split at h1
            · cases h1
            · rw [if_pos (by omega)] at h1; cases h1
    · rw [if_pos h2] at h; exact absurd h h2
  · rw [if_pos h1] at h; exact absurd h h1
theorem eproc_ok {m : Model} {i : Nat} (hi : i < m.procs.length) (h : (eproc m i).1 = 0) : i < 6 ∧ (procCheck m.procs[i] (pscope m i)).2.2 = 0 ∧ ¬ m.procs[i].name ∈ nSVCP m i ∧ (first m.procs[i].vars.length (elocs m m.procs[i])).2 = 0 := by
  rw [eproc_get hi] at h
  split at h
  · cases h
  · split at h
    · rename_i h1 h2; exact absurd h h2
    · split at h
      · cases h
      · split at h
        · cases h
        · rename_i h1 h2 h3 h4
          exact ⟨by omega, by simpa using h2, h3, by simpa using h4⟩
end Abs
end
section
/- Plain: where things are in a state. No program in sight. -/
namespace Abs
open Go
/-- A cell's bounds, and its kind. -/
structure Bd where
  lo : Int
  hi : Int
  kind : Int
/-- What a cell is. -/
structure Cell where
  sort : Int
  which : Int
  place : Int
  lo : Int
  hi : Int
  kind : Int
structure Layout where
  vars : List Int
  chans : List Int
  insts : List Int
  cells : Int
  lo : List Int
  hi : List Int
def kindOf (k : Int) : Int := if k = 0 then 0 else k + 1
def bdOf (sc lo hi : Int) (s : List Scalar) : Bd := if sc = 0 then ⟨lo, hi, 0⟩ else ⟨0, size sc s, sc + 1⟩
theorem bdOf_eq (v : Var) (s : List Scalar) : bdOf v.scalar v.lo v.hi s = ⟨(bounds v s).1, (bounds v s).2, kindOf v.scalar⟩ := by
  unfold bdOf bounds kindOf
  by_cases h : v.scalar = 0
  · rw [if_pos h, if_pos h, if_pos h]
  · rw [if_neg h, if_neg h, if_neg h]
def varBds (s : List Scalar) (v : Var) : List Bd := List.replicate (cells v s).toNat (bdOf v.scalar v.lo v.hi s)
def chanBd (s : List Scalar) (c : Chan) : Bd := bdOf c.scalar (min c.lo 0) (max c.hi 0) s
def chanBds (s : List Scalar) (c : Chan) : List Bd := ⟨0, c.cap, 0⟩ :: List.replicate c.cap.toNat (chanBd s c)
def procBds (s : List Scalar) (p : Proc) : List Bd := ⟨0, p.locs - 1, 0⟩ :: p.vars.map fun v => bdOf v.scalar v.lo v.hi s
def instBds (m : Model) (x : Inst) : List Bd := match nth m.procs x.proc with | some p => procBds m.scalars p | none => []
def laidFrom (sort which : Int) : List Bd → Nat → List Cell
  | [], _ => []
  | b :: r, k => ⟨sort, which, k, b.lo, b.hi, b.kind⟩ :: laidFrom sort which r (k + 1)
def cellsOf (sort : Int) : List (List Bd) → Nat → List Cell
  | [], _ => []
  | l :: r, i => laidFrom sort i l 0 ++ cellsOf sort r (i + 1)
def total (ls : List (List Bd)) : Nat := (ls.map List.length).sum
def starts (n : Nat) : List (List Bd) → List Int
  | [] => []
  | l :: r => (n : Int) :: starts (n + l.length) r
def vT (m : Model) : List (List Bd) := m.vars.map (varBds m.scalars)
def cT (m : Model) : List (List Bd) := m.chans.map (chanBds m.scalars)
def iT (m : Model) : List (List Bd) := (insts m).map (instBds m)
def layCells (m : Model) : List Cell := cellsOf 1 (vT m) 0 ++ cellsOf 2 (cT m) 0 ++ cellsOf 3 (iT m) 0
/-- The layout of cells, and of where things begin. -/
def layOf (V C I : List Int) (cs : List Cell) : Layout := ⟨V, C, I, cs.length, cs.map (·.lo), cs.map (·.hi)⟩
def layout (m : Model) : Layout := layOf (starts 0 (vT m)) (starts (total (vT m)) (cT m)) (starts (total (vT m) + total (cT m)) (iT m)) (layCells m)
def noLayout : Layout := ⟨[], [], [], 0, [], []⟩
def lay (m : Model) : Layout := if (check m).why = 0 then layout m else noLayout
def kinds (m : Model) : List Int := if (check m).why = 0 then (layCells m).map (·.kind) else []
def slot (m : Model) (c : Int) : Int × Int × Int := if (check m).why = 0 then (match nth (layCells m) c with | some x => (x.sort, x.which, x.place) | none => (0, 0, 0)) else (0, 0, 0)

theorem laidFrom_len (s w : Int) : ∀ (l : List Bd) (k : Nat), (laidFrom s w l k).length = l.length
  | [], _ => rfl
  | _ :: r, k => by simp [laidFrom, laidFrom_len s w r]
theorem laidFrom_snoc (s w : Int) (b : Bd) : ∀ (l : List Bd) (k : Nat), laidFrom s w (l ++ [b]) k = laidFrom s w l k ++ [⟨s, w, (k + l.length : Nat), b.lo, b.hi, b.kind⟩]
  | [], k => by simp [laidFrom]
  | x :: r, k => by
    simp only [List.cons_append, laidFrom, laidFrom_snoc s w b r, List.length_cons]
    rw [show k + 1 + r.length = k + (r.length + 1) from by omega]
theorem laidFrom_take {s w : Int} {l : List Bd} {k : Nat} (h : k < l.length) : laidFrom s w (l.take (k + 1)) 0 = laidFrom s w (l.take k) 0 ++ [⟨s, w, k, l[k].lo, l[k].hi, l[k].kind⟩] := by
  rw [List.take_succ_eq_append_getElem h, laidFrom_snoc]
  simp [List.length_take, Nat.min_eq_left (Nat.le_of_lt h)]
theorem cellsOf_len (s : Int) : ∀ (ls : List (List Bd)) (i : Nat), (cellsOf s ls i).length = total ls
  | [], _ => rfl
  | l :: r, i => by simp [cellsOf, laidFrom_len, cellsOf_len s r, total]
theorem cellsOf_snoc (s : Int) (x : List Bd) : ∀ (ls : List (List Bd)) (i : Nat), cellsOf s (ls ++ [x]) i = cellsOf s ls i ++ laidFrom s (i + ls.length : Nat) x 0
  | [], i => by simp [cellsOf]
  | l :: r, i => by
    simp only [List.cons_append, cellsOf, cellsOf_snoc s x r, List.length_cons, List.append_assoc]
    rw [show i + 1 + r.length = i + (r.length + 1) from by omega]
theorem total_snoc (ls : List (List Bd)) (x : List Bd) : total (ls ++ [x]) = total ls + x.length := by simp [total]
theorem starts_snoc (x : List Bd) : ∀ (ls : List (List Bd)) (n : Nat), starts n (ls ++ [x]) = starts n ls ++ [((n + total ls : Nat) : Int)]
  | [], n => by simp [starts, total]
  | l :: r, n => by
    simp only [List.cons_append, starts, starts_snoc x r, total, List.map_cons, List.sum_cons]
    rw [show n + l.length + (r.map List.length).sum = n + (l.length + (r.map List.length).sum) from by omega]
theorem starts_len (n : Nat) : ∀ (ls : List (List Bd)), (starts n ls).length = ls.length := by
  intro ls
  induction ls generalizing n with
  | nil => rfl
  | cons l r ih => simp [starts, ih]
/-- Whose a cell is, and its place there. -/
theorem cellsOf_at (s : Int) : ∀ (ls : List (List Bd)) (i n c : Nat) (hc : c < (cellsOf s ls i).length), ∃ w k : Nat, ∃ (hw : w < ls.length) (hk : k < ls[w].length), (cellsOf s ls i)[c] = ⟨s, (i + w : Nat), k, ls[w][k].lo, ls[w][k].hi, ls[w][k].kind⟩ ∧ (starts n ls)[w]? = some (((n + c - k : Nat)) : Int) ∧ k ≤ c
  | [], i, n, c, h => by simp [cellsOf] at h
  | l :: r, i, n, c, h => by
    simp only [cellsOf, List.length_append, laidFrom_len] at h
    by_cases hc : c < l.length
    · refine ⟨0, c, by simp, by simpa using hc, ?_, by simp [starts], Nat.le_refl _⟩
      have key : ∀ (l : List Bd) (j c : Nat) (h : c < l.length) (h' : c < (laidFrom s i l j).length), (laidFrom s i l j)[c] = ⟨s, i, (j + c : Nat), l[c].lo, l[c].hi, l[c].kind⟩ := by
        intro l
        induction l with
        | nil => intro j c h; simp at h
        | cons b r ih =>
          intro j c h h'
          cases c with
          | zero => simp [laidFrom]
          | succ c =>
            simp only [laidFrom, List.getElem_cons_succ]
            rw [ih (j + 1) c (by simpa using h)]
            rw [show j + 1 + c = j + (c + 1) from by omega]
      simp only [cellsOf]
      rw [List.getElem_append_left (by rw [laidFrom_len]; exact hc), key l 0 c hc]
      simp
    · obtain ⟨w, k, hw, hk, e1, e2, e3⟩ := cellsOf_at s r (i + 1) (n + l.length) (c - l.length) (by omega)
      refine ⟨w + 1, k, by simpa using hw, by simpa using hk, ?_, ?_, by omega⟩
      · simp only [cellsOf]
        rw [List.getElem_append_right (by rw [laidFrom_len]; omega)]
        simp only [laidFrom_len]
        rw [e1]
        simp only [List.getElem_cons_succ]
        rw [show i + 1 + w = i + (w + 1) from by omega]
      · simp only [starts, List.getElem?_cons_succ]
        rw [e2]
        congr 2
        omega
theorem layCells_len (m : Model) : (layCells m).length = total (vT m) + total (cT m) + total (iT m) := by simp [layCells, cellsOf_len, Nat.add_assoc]
/-- The starts of things by the cells at place 0. -/
def firsts (s : Int) : List Cell → Nat → List Int
  | [], _ => []
  | x :: r, i => (if x.place = 0 ∧ x.sort = s then [(i : Int)] else []) ++ firsts s r (i + 1)
theorem firsts_app (s : Int) : ∀ (a b : List Cell) (i : Nat), firsts s (a ++ b) i = firsts s a i ++ firsts s b (i + a.length)
  | [], b, i => by simp [firsts]
  | x :: r, b, i => by
    simp only [List.cons_append, firsts, firsts_app s r b, List.append_assoc, List.length_cons]
    rw [show i + 1 + r.length = i + (r.length + 1) from by omega]
theorem firsts_rest (s s' w : Int) : ∀ (l : List Bd) (k i : Nat), 0 < k → firsts s (laidFrom s' w l k) i = []
  | [], _, _, _ => rfl
  | b :: r, k, i, h => by
    simp only [laidFrom, firsts]
    rw [if_neg (by simp; omega), firsts_rest s s' w r (k + 1) (i + 1) (by omega)]
    rfl
theorem firsts_of (s : Int) : ∀ (ls : List (List Bd)) (i n : Nat), (∀ l ∈ ls, l ≠ []) → firsts s (cellsOf s ls i) n = starts n ls
  | [], _, _, _ => rfl
  | [] :: r, i, n, h => absurd rfl (h [] (by simp))
  | (b :: l) :: r, i, n, h => by
    simp only [cellsOf, laidFrom, List.cons_append, firsts, firsts_app]
    rw [if_pos (by simp), firsts_rest s s i l 1 (n + 1) (by omega), firsts_of s r (i + 1) _ (fun l hl => h l (by simp [hl]))]
    simp only [List.nil_append, starts, laidFrom_len, List.singleton_append, List.length_cons]
    rw [show n + 1 + l.length = n + (l.length + 1) from by omega]
theorem firsts_other (s s' : Int) (hs : s ≠ s') : ∀ (ls : List (List Bd)) (i n : Nat), firsts s (cellsOf s' ls i) n = []
  | [], _, _ => rfl
  | l :: r, i, n => by
    have key : ∀ (l : List Bd) (k n : Nat), firsts s (laidFrom s' i l k) n = [] := by
      intro l
      induction l with
      | nil => intro k n; rfl
      | cons b r ih =>
        intro k n
        simp only [laidFrom, firsts]
        rw [if_neg (by simp; exact fun _ => Ne.symm hs), ih]
        rfl
    simp only [cellsOf, firsts_app, key, firsts_other s s' hs r, List.append_nil]
end Abs
end
section
/- Plain: what is so of a model that may be. -/
namespace Abs
open Go
structure VarOk (v : Var) (s : List Scalar) : Prop where
  sc : v.scalar = 0 ∨ size v.scalar s ≠ 0
  ov : v.over = 0 ∨ size v.over s ≠ 0
  nar : v.scalar = 0 → narrow v.lo v.hi = true
  lo : (bounds v s).1 ≤ v.init
  hi : v.init ≤ (bounds v s).2
structure ChanOk (c : Chan) (s : List Scalar) : Prop where
  sc : c.scalar = 0 ∨ size c.scalar s ≠ 0
  cap : 1 ≤ c.cap ∧ c.cap ≤ 4
  nar : c.scalar = 0 → narrow c.lo c.hi = true
structure ProcOk (p : Proc) (s : List Scalar) : Prop where
  over : 0 ≤ p.over ∧ p.over ≤ s.length
  locs : 1 ≤ p.locs ∧ p.locs ≤ 12
  few : p.vars.length ≤ 4 ∧ p.cmds.length ≤ 12
  var : ∀ v ∈ p.vars, VarOk v s
structure MayBe (m : Model) : Prop where
  few : m.scalars.length ≤ 2 ∧ m.vars.length ≤ 12 ∧ m.chans.length ≤ 4
  procs : m.procs.length ≤ 6
  var : ∀ v ∈ m.vars, VarOk v m.scalars
  chan : ∀ c ∈ m.chans, ChanOk c m.scalars
  proc : ∀ p ∈ m.procs, ProcOk p m.scalars
  insts : (pieces m).1 ≤ 12
  cells : (pieces m).2.2 ≤ 64
theorem there_ok {k : Int} {s : List Scalar} (h : ¬ there k s = false) : k = 0 ∨ size k s ≠ 0 := by
  unfold there at h
  by_cases h0 : k = 0
  · exact .inl h0
  · exact .inr (by simpa [h0] using h)
theorem varErr_ok {l : List Var} {s : List Scalar} {i : Nat} (hi : i < l.length) (h : varErr l s i = 0) : VarOk l[i] s := by
  unfold varErr at h
  rw [List.getElem?_eq_getElem hi] at h
  simp only at h
  by_cases h1 : there l[i].scalar s = false ∨ there l[i].over s = false
  · rw [if_pos h1] at h; cases h
  rw [if_neg h1] at h
  by_cases h2 : (l[i].scalar = 0 ∧ narrow l[i].lo l[i].hi = false) ∨ l[i].init < (bounds l[i] s).1 ∨ l[i].init > (bounds l[i] s).2
  · rw [if_pos h2] at h; cases h
  refine ⟨there_ok fun e => h1 (.inl e), there_ok fun e => h1 (.inr e), fun h0 => ?_, ?_, ?_⟩
  · cases hn : narrow l[i].lo l[i].hi with
    | true => rfl
    | false => exact absurd (.inl ⟨h0, hn⟩) h2
  · exact Int.not_lt.1 fun e => h2 (.inr (.inl e))
  · exact Int.not_lt.1 fun e => h2 (.inr (.inr e))
theorem chanErr_ok {l : List Chan} {s : List Scalar} {i : Nat} (hi : i < l.length) (h : chanErr l s i = 0) : ChanOk l[i] s := by
  unfold chanErr at h
  rw [List.getElem?_eq_getElem hi] at h
  simp only at h
  by_cases h1 : there l[i].scalar s = false
  · rw [if_pos h1] at h; cases h
  rw [if_neg h1] at h
  by_cases h2 : l[i].cap < 1 ∨ l[i].cap > 4 ∨ (l[i].scalar = 0 ∧ narrow l[i].lo l[i].hi = false)
  · rw [if_pos h2] at h; cases h
  refine ⟨there_ok h1, by omega, fun h0 => ?_⟩
  cases hn : narrow l[i].lo l[i].hi with
  | true => rfl
  | false => exact absurd (.inr (.inr ⟨h0, hn⟩)) h2
theorem err_mo {most : Int} {nm : Nat → ByteArray} {mo : Nat → Int} {i : Nat} (h : err most nm mo i = 0) : mo i = 0 := by
  unfold err at h
  split at h
  · cases h
  · split at h
    · cases h
    · split at h
      · cases h
      · exact h
theorem maybe_of {m : Model} (h : (check m).why = 0) : MayBe m := by
  unfold check at h
  by_cases hd : (data m).why ≠ 0
  · rw [if_pos hd] at h; exact absurd h hd
  rw [if_neg hd] at h
  have hd : (data m).why = 0 := by simpa using hd
  by_cases hp : (procsF m).why ≠ 0
  · rw [if_pos hp] at h; exact absurd h hp
  have hp : (procsF m).why = 0 := by simpa using hp
  obtain ⟨h1, h2, h3⟩ := data_ok hd
  obtain ⟨p1, p2, p3⟩ := procs_ok hp
  refine ⟨data_few hd, ?_, fun v hv => ?_, fun c hc => ?_, fun p hpp => ?_, p2, p3⟩
  · apply Classical.byContradiction
    intro hn
    have := eproc_lt (i := 6) (by omega) (p1 6 (by omega))
    omega
  · obtain ⟨i, hi, rfl⟩ := List.mem_iff_getElem.1 hv
    exact varErr_ok hi (err_mo (verr_of (h2 i hi)))
  · obtain ⟨i, hi, rfl⟩ := List.mem_iff_getElem.1 hc
    exact chanErr_ok hi (err_mo (cerr_of (h3 i hi)))
  · obtain ⟨i, hi, rfl⟩ := List.mem_iff_getElem.1 hpp
    obtain ⟨_, k1, _, _⟩ := eproc_ok hi (p1 i hi)
    have hs : (pscope m i).scalars = m.scalars := by
      unfold pscope
      split <;> rfl
    obtain ⟨f1, f2, f3, f4, _⟩ := procCheck_few k1
    have f5 : (vars m.procs[i].vars m.scalars 4).2 = 0 := by
      apply Classical.byContradiction
      intro hn
      unfold plocals at f4
      rw [hs, if_pos hn] at f4
      exact hn f4
    unfold whole at f3
    rw [hs] at f3
    split at f3
    · cases f3
    · split at f3
      · cases f3
      · split at f3
        · cases f3
        · exact ⟨by omega, by omega, ⟨f1, f2⟩, fun v hv => by
            obtain ⟨j, hj, rfl⟩ := List.mem_iff_getElem.1 hv
            exact varErr_ok hj (err_mo (first_zero f5 j hj))⟩
theorem bdOf_le {sc lo hi : Int} {s : List Scalar} (h : sc = 0 → lo ≤ hi) : (bdOf sc lo hi s).lo ≤ (bdOf sc lo hi s).hi := by
  unfold bdOf
  split
  · rename_i h0; exact h h0
  · exact (size_le sc s).1
theorem narrow_le {lo hi : Int} (h : narrow lo hi = true) : -1048576 ≤ lo ∧ lo ≤ hi ∧ hi ≤ 1048576 ∧ hi - lo < 256 := by
  unfold narrow at h
  exact of_decide_eq_true h
theorem varBd_le {v : Var} {s : List Scalar} (h : VarOk v s) : (bdOf v.scalar v.lo v.hi s).lo ≤ (bdOf v.scalar v.lo v.hi s).hi := bdOf_le fun h0 => (narrow_le (h.nar h0)).2.1
theorem chanBd_le (c : Chan) (s : List Scalar) : (chanBd s c).lo ≤ 0 ∧ 0 ≤ (chanBd s c).hi := by
  unfold chanBd bdOf
  split
  · simp only; omega
  · exact ⟨Int.le_refl _, (size_le c.scalar s).1⟩
theorem cells_pos {v : Var} {s : List Scalar} (h : VarOk v s) : 1 ≤ cells v s := by
  have := size_le v.over s
  have := h.ov
  unfold cells
  split <;> omega
theorem varBds_len (s : List Scalar) (v : Var) : (varBds s v).length = (cells v s).toNat := by simp [varBds]
theorem chanBds_len (s : List Scalar) (c : Chan) : (chanBds s c).length = 1 + c.cap.toNat := by simp [chanBds]; omega
theorem instBds_at {m : Model} {x : Inst} (h : x.of m) : ∃ (i : Nat) (hi : i < m.procs.length), x.proc = i ∧ instBds m x = procBds m.scalars m.procs[i] := by
  refine ⟨x.proc.toNat, by have := h.hi; have := h.lo; omega, by have := h.lo; omega, ?_⟩
  unfold instBds
  rw [nth_some h.lo (by exact_mod_cast h.hi)]
theorem vT_ne {m : Model} (h : MayBe m) : ∀ l ∈ vT m, l ≠ [] := fun l hl => by
  obtain ⟨v, hv, rfl⟩ := List.mem_map.1 hl
  have := cells_pos (h.var v hv)
  intro e
  have := congrArg List.length e
  rw [varBds_len] at this
  simp at this
  omega
theorem cT_ne (m : Model) : ∀ l ∈ cT m, l ≠ [] := fun l hl => by
  obtain ⟨v, hv, rfl⟩ := List.mem_map.1 hl
  simp [chanBds]
theorem iT_ne (m : Model) : ∀ l ∈ iT m, l ≠ [] := fun l hl => by
  obtain ⟨v, hv, rfl⟩ := List.mem_map.1 hl
  obtain ⟨i, hi, _, e⟩ := instBds_at (insts_of v hv)
  rw [e]
  simp [procBds]
theorem firsts_lay {m : Model} (h : MayBe m) : firsts 1 (layCells m) 0 = starts 0 (vT m) ∧ firsts 2 (layCells m) 0 = starts (total (vT m)) (cT m) ∧ firsts 3 (layCells m) 0 = starts (total (vT m) + total (cT m)) (iT m) := by
  unfold layCells
  simp only [firsts_app, cellsOf_len, List.length_append, Nat.zero_add]
  refine ⟨?_, ?_, ?_⟩
  · rw [firsts_of 1 _ 0 0 (vT_ne h), firsts_other 1 2 (by decide), firsts_other 1 3 (by decide)]; simp
  · rw [firsts_of 2 _ 0 _ (cT_ne m), firsts_other 2 1 (by decide), firsts_other 2 3 (by decide)]; simp
  · rw [firsts_of 3 _ 0 _ (iT_ne m), firsts_other 3 1 (by decide), firsts_other 3 2 (by decide)]; simp
end Abs
end
section
/- Plain: how many cells there are; each cell is one thing's. -/
namespace Abs
open Go
theorem sumI_cons (x : Int) (l : List Int) : sumI (x :: l) = x + sumI l := by
  have key : ∀ (l : List Int) (a : Int), l.foldl (· + ·) a = a + l.foldl (· + ·) 0 := by
    intro l
    induction l with
    | nil => intro a; simp
    | cons y r ih =>
      intro a
      simp only [List.foldl_cons]
      rw [ih (a + y), ih (0 + y)]
      omega
  unfold sumI
  rw [List.foldl_cons, key]
  omega
theorem total_cons (l : List Bd) (r : List (List Bd)) : total (l :: r) = l.length + total r := by simp [total]
theorem total_app (a b : List (List Bd)) : total (a ++ b) = total a + total b := by simp [total]
theorem total_vars (s : List Scalar) : ∀ l : List Var, (total (l.map (varBds s)) : Int) = sumI (l.map fun v => cells v s)
  | [] => rfl
  | v :: r => by
    rw [List.map_cons, total_cons, List.map_cons, sumI_cons, ← total_vars s r, varBds_len]
    have := (cells_le v s).1
    omega
theorem total_chans (s : List Scalar) : ∀ l : List Chan, (∀ c ∈ l, ChanOk c s) → (total (l.map (chanBds s)) : Int) = sumI (l.map ccap)
  | [], _ => rfl
  | c :: r, h => by
    rw [List.map_cons, total_cons, List.map_cons, sumI_cons, ← total_chans s r (fun x hx => h x (by simp [hx])), chanBds_len]
    have := (h c (by simp)).cap
    unfold ccap
    omega
theorem procBds_len (s : List Scalar) (p : Proc) : (procBds s p).length = 1 + p.vars.length := by simp [procBds]; omega
theorem elems_pinsts (m : Model) (i : Nat) (p : Proc) (h : 0 ≤ p.over) : (((ownI i p).length + elems m p : Nat) : Int) = pinsts m p := by
  unfold ownI pinsts elems
  by_cases h0 : p.over = 0
  · rw [if_pos h0, if_pos h0, nth_none (.inl (by omega))]
    rfl
  · rw [if_neg h0, if_neg h0]
    unfold size
    by_cases h1 : p.over - 1 < m.scalars.length
    · rw [nth_some (by omega) h1, List.getElem?_eq_getElem (by omega)]
      simp only
      by_cases h2 : (m.scalars[(p.over - 1).toNat]'(by omega)).size < 1 ∨ 4 < (m.scalars[(p.over - 1).toNat]'(by omega)).size
      · rw [if_pos h2, if_neg (by omega)]; rfl
      · rw [if_neg h2, if_pos (by omega)]
        simp only [List.length_nil]
        omega
    · rw [nth_none (.inr (by omega)), List.getElem?_eq_none (by omega)]
      rfl
theorem total_insts (m : Model) : ∀ (l : List Proc) (i : Nat), m.procs.drop i = l → (∀ p ∈ l, 0 ≤ p.over) → (total ((instsFrom m l i).map (instBds m)) : Int) = sumI (l.map fun p => pinsts m p * (1 + p.vars.length))
  | [], _, _, _ => rfl
  | p :: r, i, hd, h => by
    have hi : i < m.procs.length := by
      apply Classical.byContradiction
      intro hn
      rw [List.drop_eq_nil_of_le (by omega)] at hd
      cases hd
    rw [List.drop_eq_getElem_cons hi] at hd
    injection hd with hp hr
    have hb : ∀ x : Inst, x.proc = i → (instBds m x).length = 1 + p.vars.length := fun x hx => by
      unfold instBds
      rw [hx, nth_some (by omega) (by omega)]
      simp only [Int.toNat_natCast]
      rw [hp, procBds_len]
    have hall : ∀ l : List Inst, (∀ x ∈ l, x.proc = i) → total (l.map (instBds m)) = l.length * (1 + p.vars.length) := by
      intro l
      induction l with
      | nil => intro _; simp [total]
      | cons x r ih =>
        intro h
        rw [List.map_cons, total_cons, ih (fun y hy => h y (by simp [hy])), hb x (h x (by simp)), List.length_cons, Nat.add_mul]
        omega
    have h1 : ∀ x ∈ ownI i p ++ overs i (elems m p), x.proc = i := fun x hx => by
      rcases List.mem_append.1 hx with hx | hx
      · unfold ownI at hx
        split at hx
        · rw [List.mem_singleton] at hx; rw [hx]
        · cases hx
      · unfold overs at hx
        obtain ⟨k, _, rfl⟩ := List.mem_map.1 hx
        rfl
    rw [instsFrom, List.map_append, total_app, hall _ h1, List.map_cons, sumI_cons, ← total_insts m r (i + 1) hr (fun x hx => h x (by simp [hx])), ← elems_pinsts m i p (h p (by simp))]
    rw [List.length_append, show (overs i (elems m p)).length = elems m p from by simp [overs]]
    simp only [Int.natCast_add, Int.natCast_mul]
    rfl
theorem layCells_pieces {m : Model} (h : MayBe m) : ((layCells m).length : Int) = (pieces m).2.2 := by
  rw [layCells_len]
  have e1 := total_vars m.scalars m.vars
  have e2 := total_chans m.scalars m.chans h.chan
  have e3 := total_insts m m.procs 0 (by simp) (fun p hp => (h.proc p hp).over.1)
  unfold pieces
  simp only
  rw [← e1, ← e2, ← e3]
  simp only [vT, cT, iT, insts]
  omega
/-- The first cells of the things of a sort. -/
def firstOf (l : Layout) (s : Int) : List Int := if s = 3 then l.insts else if s = 2 then l.chans else l.vars
structure CellOk (m : Model) (c : Nat) (x : Cell) : Prop where
  sort : 1 ≤ x.sort ∧ x.sort ≤ 3
  which : 0 ≤ x.which ∧ x.which < (firstOf (layout m) x.sort).length
  at_ : (firstOf (layout m) x.sort)[x.which.toNat]? = some ((c : Int) - x.place)
  place : 0 ≤ x.place ∧ x.place ≤ c
  le : x.lo ≤ x.hi
  chan : x.sort = 2 → x.lo ≤ 0 ∧ 0 ≤ x.hi
theorem lay_v {m : Model} {c : Nat} (h : c < total (vT m)) : (layCells m)[c]? = (cellsOf 1 (vT m) 0)[c]? := by
  unfold layCells
  rw [List.getElem?_append_left (by rw [List.length_append, cellsOf_len]; omega), List.getElem?_append_left (by rw [cellsOf_len]; exact h)]
theorem lay_c {m : Model} {c : Nat} (h1 : total (vT m) ≤ c) (h : c < total (vT m) + total (cT m)) : (layCells m)[c]? = (cellsOf 2 (cT m) 0)[c - total (vT m)]? := by
  unfold layCells
  rw [List.getElem?_append_left (by rw [List.length_append, cellsOf_len, cellsOf_len]; omega), List.getElem?_append_right (by rw [cellsOf_len]; exact h1), cellsOf_len]
theorem lay_i {m : Model} {c : Nat} (h1 : total (vT m) + total (cT m) ≤ c) : (layCells m)[c]? = (cellsOf 3 (iT m) 0)[c - (total (vT m) + total (cT m))]? := by
  unfold layCells
  rw [List.getElem?_append_right (by rw [List.length_append, cellsOf_len, cellsOf_len]; exact h1), List.length_append, cellsOf_len, cellsOf_len]
theorem get_of {α : Type} {l l' : List α} {i j : Nat} {x : α} (h : l[i]? = l'[j]?) (hi : i < l.length) (hj : j < l'.length) (hx : l'[j] = x) : l[i] = x := by
  rw [List.getElem?_eq_getElem hi, List.getElem?_eq_getElem hj, hx] at h
  exact Option.some.inj h
theorem cell_ok {m : Model} (h : MayBe m) {c : Nat} (hc : c < (layCells m).length) : CellOk m c (layCells m)[c] := by
  have hc' := hc
  rw [layCells_len] at hc'
  by_cases h1 : c < total (vT m)
  · have hc1 : c < (cellsOf 1 (vT m) 0).length := by rw [cellsOf_len]; exact h1
    obtain ⟨w, k, hw, hk, e1, e2, e3⟩ := cellsOf_at 1 (vT m) 0 0 c hc1
    have e : (layCells m)[c] = ⟨1, (0 + w : Nat), k, (vT m)[w][k].lo, (vT m)[w][k].hi, (vT m)[w][k].kind⟩ := by
      exact get_of (lay_v h1) hc hc1 e1
    rw [e]
    have hl : (starts 0 (vT m)).length = (vT m).length := starts_len _ _
    have hf : firstOf (layout m) 1 = starts 0 (vT m) := rfl
    refine ⟨by simp, ?_, ?_, by simp; omega, ?_, by simp⟩
    · rw [hf, hl]; simp; exact hw
    · rw [hf]
      simp only [Nat.zero_add, Int.toNat_natCast]
      rw [e2]
      congr 1
      omega
    · have hw' : w < m.vars.length := by simpa [vT] using hw
      have hv := h.var _ (List.getElem_mem hw')
      have : (vT m)[w] = varBds m.scalars m.vars[w] := by simp [vT]
      simp only [this]
      have hb : (varBds m.scalars m.vars[w])[k]'(by rw [← this]; exact hk) = bdOf m.vars[w].scalar m.vars[w].lo m.vars[w].hi m.scalars := by simp [varBds]
      rw [hb]
      exact varBd_le hv
  by_cases h2 : c < total (vT m) + total (cT m)
  · have hc1 : c - total (vT m) < (cellsOf 2 (cT m) 0).length := by rw [cellsOf_len]; omega
    obtain ⟨w, k, hw, hk, e1, e2, e3⟩ := cellsOf_at 2 (cT m) 0 (total (vT m)) (c - total (vT m)) hc1
    have e : (layCells m)[c] = ⟨2, (0 + w : Nat), k, (cT m)[w][k].lo, (cT m)[w][k].hi, (cT m)[w][k].kind⟩ := by
      exact get_of (lay_c (by omega) h2) hc hc1 e1
    rw [e]
    have hl : (starts (total (vT m)) (cT m)).length = (cT m).length := starts_len _ _
    have hf : firstOf (layout m) 2 = starts (total (vT m)) (cT m) := rfl
    have hb : (cT m)[w][k].lo ≤ 0 ∧ 0 ≤ (cT m)[w][k].hi := by
      have hw' : w < m.chans.length := by simpa [cT] using hw
      have hv := h.chan _ (List.getElem_mem hw')
      have e4 : (cT m)[w] = chanBds m.scalars m.chans[w] := by simp [cT]
      have hmem : (cT m)[w][k] ∈ chanBds m.scalars m.chans[w] := by rw [← e4]; exact List.getElem_mem hk
      unfold chanBds at hmem
      rcases List.mem_cons.1 hmem with e5 | e5
      · rw [e5]; have := hv.cap; simp; omega
      · rw [(List.mem_replicate.1 e5).2]; exact chanBd_le _ _
    refine ⟨by simp, ?_, ?_, by simp; omega, ?_, fun _ => hb⟩
    · rw [hf, hl]; simp; exact hw
    · rw [hf]
      simp only [Nat.zero_add, Int.toNat_natCast]
      rw [e2]
      congr 1
      omega
    · exact Int.le_trans hb.1 hb.2
  · have hc1 : c - (total (vT m) + total (cT m)) < (cellsOf 3 (iT m) 0).length := by rw [cellsOf_len]; omega
    obtain ⟨w, k, hw, hk, e1, e2, e3⟩ := cellsOf_at 3 (iT m) 0 (total (vT m) + total (cT m)) (c - (total (vT m) + total (cT m))) hc1
    have e : (layCells m)[c] = ⟨3, (0 + w : Nat), k, (iT m)[w][k].lo, (iT m)[w][k].hi, (iT m)[w][k].kind⟩ := by
      exact get_of (lay_i (by omega)) hc hc1 e1
    rw [e]
    have hl : (starts (total (vT m) + total (cT m)) (iT m)).length = (iT m).length := starts_len _ _
    have hf : firstOf (layout m) 3 = starts (total (vT m) + total (cT m)) (iT m) := rfl
    refine ⟨by simp, ?_, ?_, by simp; omega, ?_, by simp⟩
    · rw [hf, hl]; simp; exact hw
    · rw [hf]
      simp only [Nat.zero_add, Int.toNat_natCast]
      rw [e2]
      congr 1
      omega
    · have hw' : w < (insts m).length := by simpa [iT] using hw
      obtain ⟨i, hi, _, e5⟩ := instBds_at (insts_of _ (List.getElem_mem hw'))
      have e4 : (iT m)[w] = procBds m.scalars m.procs[i] := by simp [iT, e5]
      have hp := h.proc _ (List.getElem_mem hi)
      have hmem : (iT m)[w][k] ∈ procBds m.scalars m.procs[i] := by rw [← e4]; exact List.getElem_mem hk
      unfold procBds at hmem
      rcases List.mem_cons.1 hmem with e6 | e6
      · rw [e6]; have := hp.locs; simp; omega
      · obtain ⟨v, hv, e7⟩ := List.mem_map.1 e6
        rw [← e7]
        exact varBd_le (hp.var v hv)
/-- A variable's first cell, its bounds. -/
theorem start_var {m : Model} (h : MayBe m) {i : Nat} (hi : i < m.vars.length) : ∃ c : Nat, ∃ hc : c < (layCells m).length, (layout m).vars[i]? = some (c : Int) ∧ (layCells m)[c].lo ≤ m.vars[i].init ∧ m.vars[i].init ≤ (layCells m)[c].hi := by
  have key : ∀ (ls : List (List Bd)) (i0 n w : Nat) (hw : w < ls.length) (h0 : 0 < ls[w].length), ∃ c : Nat, ∃ hc : c < (cellsOf 1 ls i0).length, (starts n ls)[w]? = some ((n + c : Nat) : Int) ∧ (cellsOf 1 ls i0)[c].lo = ls[w][0].lo ∧ (cellsOf 1 ls i0)[c].hi = ls[w][0].hi := by
    intro ls
    induction ls with
    | nil => intro i0 n w hw; simp at hw
    | cons l r ih =>
      intro i0 n w hw h0
      cases w with
      | zero =>
        cases l with
        | nil => simp at h0
        | cons b l => exact ⟨0, by simp [cellsOf, laidFrom], by simp [starts], by simp [cellsOf, laidFrom], by simp [cellsOf, laidFrom]⟩
      | succ w =>
        obtain ⟨c, hc, e1, e2, e3⟩ := ih (i0 + 1) (n + l.length) w (by simpa using hw) (by simpa using h0)
        have hl : (laidFrom 1 (i0 : Int) l 0).length = l.length := laidFrom_len _ _ _ _
        refine ⟨l.length + c, by simp only [cellsOf, List.length_append, hl]; omega, ?_, ?_, ?_⟩
        · simp only [starts, List.getElem?_cons_succ]
          rw [e1]
          congr 2
          omega
        · simp only [cellsOf]
          rw [List.getElem_append_right (by omega)]
          simp only [hl, Nat.add_sub_cancel_left, List.getElem_cons_succ]
          exact e2
        · simp only [cellsOf]
          rw [List.getElem_append_right (by omega)]
          simp only [hl, Nat.add_sub_cancel_left, List.getElem_cons_succ]
          exact e3
  have hv := h.var _ (List.getElem_mem hi)
  have hpos := cells_pos hv
  have hw : i < (vT m).length := by simpa [vT] using hi
  have e4 : (vT m)[i] = varBds m.scalars m.vars[i] := by simp [vT]
  have h0 : 0 < ((vT m)[i]).length := by rw [e4, varBds_len]; omega
  obtain ⟨c, hc, e1, e2, e3⟩ := key (vT m) 0 0 i hw h0
  have hb : (vT m)[i][0] = bdOf m.vars[i].scalar m.vars[i].lo m.vars[i].hi m.scalars := by simp only [e4]; simp [varBds]
  rw [hb, bdOf_eq] at e2 e3
  have hc2 : c < (layCells m).length := by rw [layCells_len, ← cellsOf_len 1 (vT m) 0]; omega
  have e : (layCells m)[c] = (cellsOf 1 (vT m) 0)[c] := get_of (lay_v (by rwa [cellsOf_len] at hc)) hc2 hc rfl
  refine ⟨c, hc2, by rw [← Nat.zero_add c]; exact e1, ?_, ?_⟩
  · rw [e, e2]; exact hv.lo
  · rw [e, e3]; exact hv.hi
theorem total_take {ls : List (List Bd)} {i : Nat} (h : i < ls.length) : total (ls.take (i + 1)) = total (ls.take i) + ls[i].length := by
  rw [List.take_succ_eq_append_getElem h, total_snoc]
end Abs
end
section
/- Lite: regions of any open order, by what each step does wherever it comes. -/
set_option maxRecDepth 4000
namespace Lite
open Go Go.RowKit
def Step.num (s : Step) : Nat := match s.dst with | some d => d | none => 100000
section
variable (P : Program) (w0 : World) (I : List Nat → Fr → World → Prop)
/-- A step may come where these have come. -/
def RunA (D : List Nat) (s : Step) : Prop := s.g = none ∧ ∀ S w, I D S w → IVC P s.i S w fun v w' => Ext w0 w' ∧ I (s.num :: D) (put S s.dst v) w'
def RunT (D : List Nat) (s : Step) : Prop := s.g = none ∧ ∀ S w, I D S w → QVC P s.i S w0 fun v => I (s.num :: D) (put S s.dst v) w
def Runs (fin : List Nat) : List Nat → Sch → Prop
  | D, .done => ∀ d ∈ fin, d ∈ D
  | _, .nil => True
  | D, .take s r => RunT P w0 I D s ∧ Runs fin (s.num :: D) r
  | D, .alt s r m => (RunA P w0 I D s ∧ Runs fin (s.num :: D) r) ∧ Runs fin D m
  | D, .fre s r m => (RunA P w0 I D s ∧ Runs fin (s.num :: D) r) ∧ Runs fin D m
  | _, .wide _ => False
variable {P w0 I}
theorem Runs.alt {fin D : List Nat} {s : Step} {r m : Sch} (h1 : RunA P w0 I D s) (h2 : Runs P w0 I fin (s.num :: D) r) (h3 : Runs P w0 I fin D m) : Runs P w0 I fin D (.alt s r m) := ⟨⟨h1, h2⟩, h3⟩
theorem Runs.fre {fin D : List Nat} {s : Step} {r m : Sch} (h1 : RunA P w0 I D s) (h2 : Runs P w0 I fin (s.num :: D) r) (h3 : Runs P w0 I fin D m) : Runs P w0 I fin D (.fre s r m) := ⟨⟨h1, h2⟩, h3⟩
theorem Runs.take {fin D : List Nat} {s : Step} {r : Sch} (h1 : RunT P w0 I D s) (h2 : Runs P w0 I fin (s.num :: D) r) : Runs P w0 I fin D (.take s r) := ⟨h1, h2⟩
theorem Runs.nil {fin D : List Nat} : Runs P w0 I fin D .nil := trivial
theorem Runs.done {fin D : List Nat} (h : ∀ d ∈ fin, d ∈ D) : Runs P w0 I fin D .done := h
variable (P w0 I)
end
end Lite
end
section
/- Lite: several rows of one's own, apart from one another; regions in which rows grow in place. -/
set_option maxRecDepth 4000
namespace Lite
open Go Go.RowKit
theorem K.wide {P : Program} {w1 w : World} {S : Fr} {t : Sch} {K : Fr → World → Prop} {tk} (h : ∃ C : World → Prop, C w ∧ svcC P C t S w K) : svch P w1 (.wide t) S w K tk := by
  unfold svch
  exact h
section
variable {P : Program} {C : World → Prop} {S : Fr} {w : World} {K : Fr → World → Prop}
theorem svcC.p {i : PIns} {d : Option Nat} {r : Sch} (h : PVC P i S fun v => svcC P C r (put S d v) w K) : svcC P C (.take ⟨d, none, .p i⟩ r) S w K := h
theorem svcC.fa {k d x : Nat} {r : Sch} {a : Addr} (hx : S x = .pointer (some a)) (h : svcC P C r (upd S d (.pointer (some (a.add k)))) w K) : svcC P C (.take ⟨some d, none, .p (.fa k (.tmp x))⟩ r) S w K := ⟨a, hx, h⟩
theorem svcC.ld {d x : Nat} {r : Sch} {a : Addr} {v : Value} (hx : S x = .pointer (some a)) (hv : ∀ w, C w → w.cell? a = some v) (h : svcC P C r (upd S d v) w K) : svcC P C (.take ⟨some d, none, .r (.ld (.tmp x))⟩ r) S w K :=
  ⟨v, fun w hw => ⟨a, v, hx, hv w hw, rfl⟩, h⟩
theorem svcC.alt1 {s : Step} {r : Sch} (h : altC P C s S w fun S w => svcC P C r S w K) : svcC P C (.alt s r .nil) S w K := ⟨h, trivial⟩
theorem svcC.fre1 {s : Step} {r : Sch} (h : freS P s S w fun S w => svcC P C r S w K) : svcC P C (.fre s r .nil) S w K := ⟨h, trivial⟩
end
theorem altC.e {P : Program} {C : World → Prop} {i : EIns} {d : Nat} {S : Fr} {w : World} {k : Fr → World → Prop} (h : EVC P i S w fun v w' => C w' ∧ k (put S (some d) v) w') : altC P C ⟨some d, none, .e i⟩ S w k := h
theorem freS.e {P : Program} {i : EIns} {d : Nat} {S : Fr} {w : World} {k : Fr → World → Prop} (h : EVC P i S w fun v w' => k (put S (some d) v) w') : freS P ⟨some d, none, .e i⟩ S w k := h
theorem appVC_of {P : Program} {ty e : TypeId} {sz b : Nat} {s x : Value} {w : World} {K : Value → World → Prop} (h : ∀ t, AppVCh P ty e sz b s x w K t) : AppVC P ty e sz b s x w K := by
  have := h ⟨⟩
  unfold AppVCh at this
  exact this
theorem stVC_of {x v : Value} {w : World} {K : World → Prop} (h : ∀ t, StVCh x v w K t) : StVC x v w K := by
  have := h ⟨⟩
  unfold StVCh at this
  exact this
/-! ### Several rows -/
abbrev slq (s : Option Addr × Nat × Nat) : Value := .slice s.1 s.2.1 s.2.2
def putN {β : Type} (f : Nat → β) (i : Nat) (v : β) : Nat → β := fun j => if j = i then v else f j
theorem putN_same {β : Type} (f : Nat → β) (i : Nat) (v : β) : putN f i v i = v := by simp [putN]
theorem putN_ne {β : Type} (f : Nat → β) {i j : Nat} (v : β) (h : j ≠ i) : putN f i v j = f j := by simp [putN, h]
structure Rws {α : Type} (enc : α → List Value) (e : TypeId) (sz base : Nat) (w : World) (n : Nat) (vs : Nat → Option Addr × Nat × Nat) (xs : Nat → List α) : Prop where
  own : ∀ i, i < n → OwR enc e sz base w (slq (vs i)) (xs i)
  apart : ∀ i j k, i < n → j < n → i ≠ j → (slq (vs i)).ownBlock = some k → (slq (vs j)).ownBlock ≠ some k
section
variable {α : Type} {enc : α → List Value} {e : TypeId} {sz base n : Nat} {w w' : World} {vs : Nat → Option Addr × Nat × Nat} {xs : Nat → List α}
theorem Rws.mod {A : Nat → Prop} (h : Rws enc e sz base w n vs xs) (m : Mod A w w') (hA : ∀ i k, i < n → (slq (vs i)).ownBlock = some k → ¬ A k) : Rws enc e sz base w' n vs xs :=
  ⟨fun i hi => (h.own i hi).mod m (hA i · hi), h.apart⟩
theorem Rws.ext (h : Rws enc e sz base w n vs xs) (m : Ext w w') : Rws enc e sz base w' n vs xs := h.mod (A := fun _ => False) m.mod fun _ _ _ _ a => a
/-- A block of another type is none of the rows'. -/
theorem Rws.not (h : Rws enc e sz base w n vs xs) {k : Nat} {c : Array Value} {t : TypeId} (hk : w.heap[k]? = some (.cells c t)) (ht : t ≠ e) : ∀ i, i < n → (slq (vs i)).ownBlock ≠ some k := fun i hi he => by
  obtain ⟨cur, h2⟩ := (h.own i hi).blk k he
  rw [hk] at h2; injection h2 with h2; injection h2 with _ h2; exact ht h2
theorem Rws.lt (h : Rws enc e sz base w n vs xs) : ∀ i k, i < n → (slq (vs i)).ownBlock = some k → base ≤ k ∧ k < w.heap.size := fun i k hi he => (h.own i hi).lt k he
theorem Rws.app {P : Program} {KK : Value → World → Prop} {ty : TypeId} {b : Nat} {a : Addr} {c : Nat} {y : α} (i : Nat) (hi : i < n) (h : Rws enc e sz base w n vs xs) (hsz : ∀ x, (enc x).length = sz) (hc : CellsAt w a (enc y)) (h1 : ∀ y, ∀ u ∈ enc y, u.oneCell' = true)
    (hb : ((xs i).length + 1) * b ≤ 140737488355328) (h63 : (xs i).length + 1 ≤ maxLen) (hbase : base ≤ w.heap.size)
    (hk : ∀ v' w', Rws enc e sz base w' n (putN vs i v') (putN xs i (xs i ++ [y])) → w.grownBy w' (slq (vs i)).ownBlock → v'.2.1 = (xs i).length + 1 → KK (slq v') w') : AppVC P ty e sz b (slq (vs i)) (.slice (some a) 1 c) w KK := by
  refine appVC_of fun t => K.appAt (ys := [y]) (h.own i hi) hsz (by simpa using hc) rfl h1 hb h63 hbase fun v' w' ho hg hat => ?_
  obtain ⟨oa, cap, rfl, _⟩ := ho.form
  refine hk (oa, (xs i ++ [y]).length, cap) w' ⟨fun j hj => ?_, fun j j' k hj hj' hne he => ?_⟩ hg (by simp)
  · by_cases hji : j = i
    · subst hji
      rw [putN_same, putN_same]; exact ho
    · rw [putN_ne _ _ hji, putN_ne _ _ hji]
      exact (h.own j hj).mod (A := fun k => (slq (vs i)).ownBlock = some k) (Mod.grown hg fun k hk => hk) fun k hk a => h.apart j i k hj hi hji hk a
  · have key : ∀ q, q < n → q ≠ i → ∀ k, (slq (vs q)).ownBlock = some k → (Value.slice oa (xs i ++ [y]).length cap).ownBlock ≠ some k := fun q hq hqi k hk he => by
      rcases hat with e | e
      · rw [e] at he; exact h.apart q i k hq hi hqi hk he
      · rw [e] at he; injection he with he; have := (h.lt q k hq hk).2; omega
    by_cases hji : j = i
    · subst hji
      rw [putN_same] at he
      rw [putN_ne _ _ (Ne.symm hne)]
      exact fun h2 => key j' hj' (Ne.symm hne) k h2 he
    · rw [putN_ne _ _ hji] at he
      by_cases hji' : j' = i
      · subst hji'
        rw [putN_same]
        exact key j hj hji k he
      · rw [putN_ne _ _ hji']
        exact h.apart j j' k hj hj' hne he
end
end Lite
end
section
/- Names: rows of strings of one's own; join; light. -/
set_option maxRecDepth 4000
set_option maxHeartbeats 3200000
namespace Go.Proofs.YtpaahhleopalaaaGreatDoor
open Go Go.RowKit Lite
/-- A slice's word. -/
abbrev SlN := Option Addr × Nat × Nat
def slvN (x : SlN) : Value := .slice x.1 x.2.1 x.2.2
def encS (x : ByteArray) : List Value := [.string x]
theorem encS_one (y : ByteArray) : ∀ u ∈ encS y, u.oneCell' = true := by
  intro u hu
  simp only [encS, List.mem_cons, List.not_mem_nil, or_false] at hu
  subst hu; rfl
abbrev OwnN (base : Nat) (w : World) (v : SlN) (ss : List ByteArray) : Prop := OwR encS T.string 1 base w (slvN v) ss
/-- A model that may be gone through. -/
structure LightM (m : Abs.Model) : Prop where
  s : m.scalars.length ≤ 20
  v : m.vars.length ≤ 20
  c : m.chans.length ≤ 20
  p : m.procs.length ≤ 20
  q : m.props.length ≤ 20
  i : ∀ (j : Nat) (h : j < m.procs.length), m.procs[j].vars.length ≤ 20 ∧ m.procs[j].cmds.length ≤ 20
end Go.Proofs.YtpaahhleopalaaaGreatDoor
end
section
/- What stands while names are gathered. -/
set_option maxRecDepth 4000
set_option maxHeartbeats 6400000
namespace Go.Proofs.YtpaahhleopalaaaGreatDoor
open Go Go.RowKit Lite
/-- What stands while names are gathered. -/
structure NamSt (w w' : World) (b1 : Nat) (cs : List Value) (v : SlN) (ss : List ByteArray) : Prop where
  ext : Ext w w'
  h1 : w'.heap[b1]? = some (.cells cs.toArray T.api_Model)
  own : OwnN w.heap.size w' v ss
theorem NamSt.then {w w' w'' : World} {b1 : Nat} {cs : List Value} {v : SlN} {ss : List ByteArray} (h : NamSt w w' b1 cs v ss) (he : Ext w' w'') : NamSt w w'' b1 cs v ss := ⟨h.ext.trans he, he.obj h.h1, h.own.ext he⟩
theorem NamSt.grown {w w' w'' : World} {b1 : Nat} {cs : List Value} {v v' : SlN} {ss ss' : List ByteArray} (h : NamSt w w' b1 cs v ss) (hg : w'.grownBy w'' (slvN v).ownBlock) (ho : OwnN w.heap.size w'' v' ss') : NamSt w w'' b1 cs v' ss' := by
  refine ⟨Ext.grown h.ext hg fun k hk => (h.own.lt k hk).1, ?_, ho⟩
  rw [hg.block b1 (lt_of_heap h.h1) fun e' => ?_]
  · exact h.h1
  rcases h.own.2 with ⟨e, _⟩ | ⟨g, cap, c2, e, _, hgg, _⟩
  · rw [e] at e'; cases e'
  · rw [e] at e'
    simp only [Value.ownBlock, Option.some.injEq] at e'
    subst e'
    have := h.h1.symm.trans hgg
    injection this with this
    injection this with _ this
    revert this; decide
theorem NamSt.re {w w' : World} {b1 : Nat} {cs : List Value} {v : SlN} {ss ss' : List ByteArray} (h : NamSt w w' b1 cs v ss) (e : ss = ss') : NamSt w w' b1 cs v ss' := e ▸ h
theorem take_snoc {α β : Type} (f : α → β) (pre : List β) (l : List α) (k : Nat) (h : k < l.length) : pre ++ (l.take k).map f ++ [f l[k]] = pre ++ (l.take (k + 1)).map f := by
  rw [List.take_succ_eq_append_getElem h, List.map_append, ← List.append_assoc]; rfl
end Go.Proofs.YtpaahhleopalaaaGreatDoor
end
section
/- All names, walked. -/
set_option maxRecDepth 4000
set_option maxHeartbeats 6400000
namespace Go.Proofs.YtpaahhleopalaaaGreatDoor
open Go Go.RowKit Lite
end Go.Proofs.YtpaahhleopalaaaGreatDoor
end
section
/- The document's names, walked. -/
set_option maxRecDepth 4000
set_option maxHeartbeats 6400000
namespace Go.Proofs.YtpaahhleopalaaaGreatDoor
open Go Go.RowKit Lite
end Go.Proofs.YtpaahhleopalaaaGreatDoor
end
section
/- Whole models: names ahead, the document's (printed by ahead.py). -/
set_option maxRecDepth 4000
set_option maxHeartbeats 6400000
namespace Abs
/-- How many names of a list lie ahead. -/
def upN (q p i : Int) (len : Nat) : Nat := if q < p then (if q + 1 < p then len else min len i.toNat) else 0
def upL (p i : Int) (len : Nat) : Nat := if 4 < p then min len i.toNat else 0
def aheadL (m : Model) (p i : Int) : List ByteArray :=
  m.scalars.map (·.name) ++ (m.vars.take (upN 1 p i m.vars.length)).map (·.name) ++ (m.chans.take (upN 2 p i m.chans.length)).map (·.name) ++ (m.procs.take (upN 3 p i m.procs.length)).map (·.name) ++ (m.props.take (upL p i m.props.length)).map (·.name)
end Abs
namespace Go.Proofs.YtpaahhleopalaaaGreatDoor
open Go Go.RowKit Lite
theorem app_s2 {P : Program} {v : SlN} {ss : List ByteArray} {x : ByteArray} {b c base : Nat} {w : World} {KK : Value → World → Prop} {ty : TypeId} {t} (h : OwnN base w v ss) (hc : w.heap[b]? = some (.cells #[.string x] T.string)) (hm : ss.length + 1 ≤ 8796093022208) (hbase : base ≤ w.heap.size)
    (hk : ∀ (v' : SlN) w', OwnN base w' v' (ss ++ [x]) → w.grownBy w' (slvN v).ownBlock → KK (.slice v'.1 v'.2.1 v'.2.2) w') : AppVCh P ty T.string 1 16 (.slice v.1 v.2.1 v.2.2) (.slice (some ⟨b, 0, none⟩) 1 c) w KK t := by
  have q5 : (ss.length + 1) * 16 ≤ 140737488355328 := by omega
  have q6 : ss.length + 1 ≤ maxLen := by unfold maxLen; omega
  refine K.appO (b := 16) (s := slvN v) (ys := [x]) h (fun _ => rfl) (cellsAt_blk hc) rfl encS_one q5 q6 hbase fun v' w' ho hg => ?_
  obtain ⟨oa, cap, rfl, _⟩ := ho.form
  exact hk (oa, _, cap) w' ho hg
theorem ahead_r (cs : List Value) (m : Abs.Model) (p i : Int) (w : World) (h : Abs.ModelIs w cs m) (hp : 2 ≤ p) (hi : 0 ≤ i) (hl : m.scalars.length + Abs.upN 1 p i m.vars.length + Abs.upN 2 p i m.chans.length + Abs.upN 3 p i m.procs.length + Abs.upL p i m.props.length ≤ 8000000000000) :
    Ret Tryz.prog F.lariatref15_ahead #[.agg cs.toArray, .int .i64 p, .int .i64 i] w fun u w' => (∃ v : SlN, u = .slice v.1 v.2.1 v.2.2 ∧ OwnN w.heap.size w' v (Abs.aheadL m p i)) ∧ Ext w w' := by
  obtain ⟨o0, c0, o1, c1, o2, c2, o3, c3, o4, c4, rfl, h0, h1, h2, h3, h4, l0, l1, l2, l3, l4⟩ := h.form
  refine K.start hmix E.lariatref15_ahead (args := [_, _, _]) (Nat.le_of_ble_eq_true rfl) ?_; dsimp only [C.lariatref15_ahead]; refine Yy ?_
  simp -dsimp only [B9]
  refine Su ?_
  intro w1 b1 hb1 he1 hc1
  have st0 : NamSt w w1 b1 _ (none, 0, 0) [] := ⟨he1, hc1, OwR.nil _ _ _ _ _⟩
  clear hc1
  refine Su ?_
  simp -dsimp only [B9]
  refine Su ?_
  refine K.cutG [1, 2, 3] (fun v : SlN => [(7, .slice v.1 v.2.1 v.2.2)]) (fun v w' => NamSt w w' b1 [.slice o0 m.scalars.length c0, .slice o1 m.vars.length c1, .slice o2 m.chans.length c2, .slice o3 m.procs.length c3, .slice o4 m.props.length c4] v (([] : List ByteArray) ++ (m.scalars.map (·.name)))) ?_ ?_
  · have hN : m.scalars.length ≤ m.scalars.length := by exact Nat.le_refl _
    have e0 := st0.ext
    have f0 := st0.h1
    refine Sg ?_
    refine K.forG 8 (m.scalars.length) [1, 2, 3] (fun v : SlN => [(7, .slice v.1 v.2.1 v.2.2)]) ((none, 0, 0) : SlN) (fun k v w' => NamSt w w' b1 [.slice o0 m.scalars.length c0, .slice o1 m.vars.length c1, .slice o2 m.chans.length c2, .slice o3 m.procs.length c3, .slice o4 m.props.length c4] v (([] : List ByteArray) ++ (m.scalars.take k).map (·.name))) hZq hZq (st0.re (by simp)) ?_
    clear e0 f0
    rintro k vk S wk hk stk
    have ek := stk.ext
    have fk := stk.h1
    have fin : k = m.scalars.length → NamSt w wk b1 [.slice o0 m.scalars.length c0, .slice o1 m.vars.length c1, .slice o2 m.chans.length c2, .slice o3 m.procs.length c3, .slice o4 m.props.length c4] vk (([] : List ByteArray) ++ (m.scalars.map (·.name))) := fun e => stk.re (by rw [e]; simp)
    refine K.cutG [1, 2, 3, 7, 8] (fun _ : Unit => []) (fun _ w' => w' = wk ∧ k < m.scalars.length) ?_ ?_
    · refine Sg ?_
      refine K.cond (fun g1 => ?_) (fun g1 => ?_)
      · refine Sg ?_
        exact ⟨(), trivial, by first | trivial | rfl, by omega⟩
      · refine Sg ?_
        exact ⟨vk, hZq, fin (by omega)⟩
    rintro _ S2 _ ⟨rfl, hkN⟩
    have hk' : k < m.scalars.length := by omega
    obtain ⟨a, rfl⟩ := h0.addr (by omega)
    have hcv := ((h0.at k hk').cells).ext ek
    refine Sg ?_
    intro wB bB hbB heB hcB
    have stB := stk.then heB
    have z := stB.ext.size
    refine Sg ?_
    refine app_s2 stB.own hcB (by simp only [List.length_append, List.length_map, List.length_nil, List.length_cons, List.length_take]; omega) z fun vC wC hoC hgC => ?_
    have stC := (stB.grown hgC hoC).re (take_snoc (fun x : Abs.Scalar => x.name) _ _ _ hk')
    refine Sg ?_
    exact ⟨hkN, by first | trivial | rfl, vC, hZq, stC⟩
  clear st0
  rintro v1 S1 w2 st1
  have x1 := st1.ext
  have f1 := st1.h1
  refine K.cutG [1, 2, 3] (fun v : SlN => [(7, .slice v.1 v.2.1 v.2.2)]) (fun v w' => NamSt w w' b1 [.slice o0 m.scalars.length c0, .slice o1 m.vars.length c1, .slice o2 m.chans.length c2, .slice o3 m.procs.length c3, .slice o4 m.props.length c4] v (([] ++ (m.scalars.map (·.name))) ++ ((m.vars.take (Abs.upN 1 p i m.vars.length)).map (·.name)))) ?_ ?_
  · have hN : Abs.upN 1 p i m.vars.length ≤ m.vars.length := by unfold Abs.upN; (repeat' split) <;> omega
    have e0 := st1.ext
    have f0 := st1.h1
    refine Sg ?_
    refine K.forG 9 (Abs.upN 1 p i m.vars.length) [1, 2, 3] (fun v : SlN => [(7, .slice v.1 v.2.1 v.2.2)]) v1 (fun k v w' => NamSt w w' b1 [.slice o0 m.scalars.length c0, .slice o1 m.vars.length c1, .slice o2 m.chans.length c2, .slice o3 m.procs.length c3, .slice o4 m.props.length c4] v (([] ++ (m.scalars.map (·.name))) ++ (m.vars.take k).map (·.name))) hZq hZq (st1.re (by simp)) ?_
    clear e0 f0
    rintro k vk S wk hk stk
    have ek := stk.ext
    have fk := stk.h1
    have fin : k = Abs.upN 1 p i m.vars.length → NamSt w wk b1 [.slice o0 m.scalars.length c0, .slice o1 m.vars.length c1, .slice o2 m.chans.length c2, .slice o3 m.procs.length c3, .slice o4 m.props.length c4] vk (([] ++ (m.scalars.map (·.name))) ++ ((m.vars.take (Abs.upN 1 p i m.vars.length)).map (·.name))) := fun e => stk.re (by rw [e])
    refine K.cutG [1, 2, 3, 7, 9] (fun _ : Unit => []) (fun _ w' => w' = wk ∧ k < Abs.upN 1 p i m.vars.length) ?_ ?_
    · refine Sg ?_
      refine K.cond (fun g1 => ?_) (fun g1 => ?_)
      · refine Sg ?_
        refine K.cond (fun g3 => ?_) (fun g3 => ?_)
        · refine Sg ?_
          exact ⟨(), trivial, by first | trivial | rfl, by unfold Abs.upN at hN hk ⊢; (repeat' split at hk) <;> (repeat' split) <;> omega⟩
        · refine Sg ?_
          refine K.cond (fun g4 => ?_) (fun g4 => ?_)
          · refine Sg ?_
            exact ⟨(), trivial, by first | trivial | rfl, by unfold Abs.upN at hN hk ⊢; (repeat' split at hk) <;> (repeat' split) <;> omega⟩
          · refine Sg ?_
            exact ⟨vk, hZq, fin (by unfold Abs.upN at hN hk ⊢; (repeat' split at hk) <;> (repeat' split) <;> omega)⟩
      · refine Sg ?_
        exact ⟨vk, hZq, fin (by unfold Abs.upN at hN hk ⊢; (repeat' split at hk) <;> (repeat' split) <;> omega)⟩
    rintro _ S2 _ ⟨rfl, hkN⟩
    have hk' : k < m.vars.length := by omega
    obtain ⟨a, rfl⟩ := h1.addr (by omega)
    have hcv := ((h1.at k hk').cells).ext ek
    refine Sg ?_
    intro wB bB hbB heB hcB
    have stB := stk.then heB
    have z := stB.ext.size
    refine Sg ?_
    refine app_s2 stB.own hcB (by simp only [List.length_append, List.length_map, List.length_nil, List.length_cons, List.length_take]; omega) z fun vC wC hoC hgC => ?_
    have stC := (stB.grown hgC hoC).re (take_snoc (fun x : Abs.Var => x.name) _ _ _ hk')
    refine Sg ?_
    exact ⟨hkN, by first | trivial | rfl, vC, hZq, stC⟩
  clear st1
  rintro v2 S2 w3 st2
  have x2 := st2.ext
  have f2 := st2.h1
  refine K.cutG [1, 2, 3] (fun v : SlN => [(7, .slice v.1 v.2.1 v.2.2)]) (fun v w' => NamSt w w' b1 [.slice o0 m.scalars.length c0, .slice o1 m.vars.length c1, .slice o2 m.chans.length c2, .slice o3 m.procs.length c3, .slice o4 m.props.length c4] v ((([] ++ (m.scalars.map (·.name))) ++ ((m.vars.take (Abs.upN 1 p i m.vars.length)).map (·.name))) ++ ((m.chans.take (Abs.upN 2 p i m.chans.length)).map (·.name)))) ?_ ?_
  · have hN : Abs.upN 2 p i m.chans.length ≤ m.chans.length := by unfold Abs.upN; (repeat' split) <;> omega
    have e0 := st2.ext
    have f0 := st2.h1
    refine Sg ?_
    refine K.forG 10 (Abs.upN 2 p i m.chans.length) [1, 2, 3] (fun v : SlN => [(7, .slice v.1 v.2.1 v.2.2)]) v2 (fun k v w' => NamSt w w' b1 [.slice o0 m.scalars.length c0, .slice o1 m.vars.length c1, .slice o2 m.chans.length c2, .slice o3 m.procs.length c3, .slice o4 m.props.length c4] v ((([] ++ (m.scalars.map (·.name))) ++ ((m.vars.take (Abs.upN 1 p i m.vars.length)).map (·.name))) ++ (m.chans.take k).map (·.name))) hZq hZq (st2.re (by simp)) ?_
    clear e0 f0
    rintro k vk S wk hk stk
    have ek := stk.ext
    have fk := stk.h1
    have fin : k = Abs.upN 2 p i m.chans.length → NamSt w wk b1 [.slice o0 m.scalars.length c0, .slice o1 m.vars.length c1, .slice o2 m.chans.length c2, .slice o3 m.procs.length c3, .slice o4 m.props.length c4] vk ((([] ++ (m.scalars.map (·.name))) ++ ((m.vars.take (Abs.upN 1 p i m.vars.length)).map (·.name))) ++ ((m.chans.take (Abs.upN 2 p i m.chans.length)).map (·.name))) := fun e => stk.re (by rw [e])
    refine K.cutG [1, 2, 3, 7, 10] (fun _ : Unit => []) (fun _ w' => w' = wk ∧ k < Abs.upN 2 p i m.chans.length) ?_ ?_
    · refine Sg ?_
      refine K.cond (fun g1 => ?_) (fun g1 => ?_)
      · refine Sg ?_
        refine K.cond (fun g2 => ?_) (fun g2 => ?_)
        · refine Sg ?_
          refine K.cond (fun g3 => ?_) (fun g3 => ?_)
          · refine Sg ?_
            exact ⟨(), trivial, by first | trivial | rfl, by unfold Abs.upN at hN hk ⊢; (repeat' split at hk) <;> (repeat' split) <;> omega⟩
          · refine Sg ?_
            refine K.cond (fun g4 => ?_) (fun g4 => ?_)
            · refine Sg ?_
              exact ⟨(), trivial, by first | trivial | rfl, by unfold Abs.upN at hN hk ⊢; (repeat' split at hk) <;> (repeat' split) <;> omega⟩
            · refine Sg ?_
              exact ⟨vk, hZq, fin (by unfold Abs.upN at hN hk ⊢; (repeat' split at hk) <;> (repeat' split) <;> omega)⟩
        · refine Sg ?_
          exact ⟨vk, hZq, fin (by unfold Abs.upN at hN hk ⊢; (repeat' split at hk) <;> (repeat' split) <;> omega)⟩
      · refine Sg ?_
        exact ⟨vk, hZq, fin (by unfold Abs.upN at hN hk ⊢; (repeat' split at hk) <;> (repeat' split) <;> omega)⟩
    rintro _ S2 _ ⟨rfl, hkN⟩
    have hk' : k < m.chans.length := by omega
    obtain ⟨a, rfl⟩ := h2.addr (by omega)
    have hcv := ((h2.at k hk').cells).ext ek
    refine Sg ?_
    intro wB bB hbB heB hcB
    have stB := stk.then heB
    have z := stB.ext.size
    refine Sg ?_
    refine app_s2 stB.own hcB (by simp only [List.length_append, List.length_map, List.length_nil, List.length_cons, List.length_take]; omega) z fun vC wC hoC hgC => ?_
    have stC := (stB.grown hgC hoC).re (take_snoc (fun x : Abs.Chan => x.name) _ _ _ hk')
    refine Sg ?_
    exact ⟨hkN, by first | trivial | rfl, vC, hZq, stC⟩
  clear st2
  rintro v3 S3 w4 st3
  have x3 := st3.ext
  have f3 := st3.h1
  refine K.cutG [1, 2, 3] (fun v : SlN => [(7, .slice v.1 v.2.1 v.2.2)]) (fun v w' => NamSt w w' b1 [.slice o0 m.scalars.length c0, .slice o1 m.vars.length c1, .slice o2 m.chans.length c2, .slice o3 m.procs.length c3, .slice o4 m.props.length c4] v (((([] ++ (m.scalars.map (·.name))) ++ ((m.vars.take (Abs.upN 1 p i m.vars.length)).map (·.name))) ++ ((m.chans.take (Abs.upN 2 p i m.chans.length)).map (·.name))) ++ ((m.procs.take (Abs.upN 3 p i m.procs.length)).map (·.name)))) ?_ ?_
  · have hN : Abs.upN 3 p i m.procs.length ≤ m.procs.length := by unfold Abs.upN; (repeat' split) <;> omega
    have e0 := st3.ext
    have f0 := st3.h1
    refine Sg ?_
    refine K.forG 11 (Abs.upN 3 p i m.procs.length) [1, 2, 3] (fun v : SlN => [(7, .slice v.1 v.2.1 v.2.2)]) v3 (fun k v w' => NamSt w w' b1 [.slice o0 m.scalars.length c0, .slice o1 m.vars.length c1, .slice o2 m.chans.length c2, .slice o3 m.procs.length c3, .slice o4 m.props.length c4] v (((([] ++ (m.scalars.map (·.name))) ++ ((m.vars.take (Abs.upN 1 p i m.vars.length)).map (·.name))) ++ ((m.chans.take (Abs.upN 2 p i m.chans.length)).map (·.name))) ++ (m.procs.take k).map (·.name))) hZq hZq (st3.re (by simp)) ?_
    clear e0 f0
    rintro k vk S wk hk stk
    have ek := stk.ext
    have fk := stk.h1
    have fin : k = Abs.upN 3 p i m.procs.length → NamSt w wk b1 [.slice o0 m.scalars.length c0, .slice o1 m.vars.length c1, .slice o2 m.chans.length c2, .slice o3 m.procs.length c3, .slice o4 m.props.length c4] vk (((([] ++ (m.scalars.map (·.name))) ++ ((m.vars.take (Abs.upN 1 p i m.vars.length)).map (·.name))) ++ ((m.chans.take (Abs.upN 2 p i m.chans.length)).map (·.name))) ++ ((m.procs.take (Abs.upN 3 p i m.procs.length)).map (·.name))) := fun e => stk.re (by rw [e])
    refine K.cutG [1, 2, 3, 7, 11] (fun _ : Unit => []) (fun _ w' => w' = wk ∧ k < Abs.upN 3 p i m.procs.length) ?_ ?_
    · refine Sg ?_
      refine K.cond (fun g1 => ?_) (fun g1 => ?_)
      · refine Sg ?_
        refine K.cond (fun g2 => ?_) (fun g2 => ?_)
        · refine Sg ?_
          refine K.cond (fun g3 => ?_) (fun g3 => ?_)
          · refine Sg ?_
            exact ⟨(), trivial, by first | trivial | rfl, by unfold Abs.upN at hN hk ⊢; (repeat' split at hk) <;> (repeat' split) <;> omega⟩
          · refine Sg ?_
            refine K.cond (fun g4 => ?_) (fun g4 => ?_)
            · refine Sg ?_
              exact ⟨(), trivial, by first | trivial | rfl, by unfold Abs.upN at hN hk ⊢; (repeat' split at hk) <;> (repeat' split) <;> omega⟩
            · refine Sg ?_
              exact ⟨vk, hZq, fin (by unfold Abs.upN at hN hk ⊢; (repeat' split at hk) <;> (repeat' split) <;> omega)⟩
        · refine Sg ?_
          exact ⟨vk, hZq, fin (by unfold Abs.upN at hN hk ⊢; (repeat' split at hk) <;> (repeat' split) <;> omega)⟩
      · refine Sg ?_
        exact ⟨vk, hZq, fin (by unfold Abs.upN at hN hk ⊢; (repeat' split at hk) <;> (repeat' split) <;> omega)⟩
    rintro _ S2 _ ⟨rfl, hkN⟩
    have hk' : k < m.procs.length := by omega
    obtain ⟨a, rfl⟩ := h3.addr (by omega)
    obtain ⟨_, vv, vc, hcv, hpv, hpc⟩ := h3.at k hk'
    obtain ⟨ov, cv, rfl, lv⟩ := hpv.form
    obtain ⟨oc, cc, rfl, lc⟩ := hpc.form
    replace hcv := hcv.ext ek
    refine Sg ?_
    intro wB bB hbB heB hcB
    have stB := stk.then heB
    have z := stB.ext.size
    refine Sg ?_
    refine app_s2 stB.own hcB (by simp only [List.length_append, List.length_map, List.length_nil, List.length_cons, List.length_take]; omega) z fun vC wC hoC hgC => ?_
    have stC := (stB.grown hgC hoC).re (take_snoc (fun x : Abs.Proc => x.name) _ _ _ hk')
    refine Sg ?_
    exact ⟨hkN, by first | trivial | rfl, vC, hZq, stC⟩
  clear st3
  rintro v4 S4 w5 st4
  have x4 := st4.ext
  have f4 := st4.h1
  refine K.cutG [1, 2, 3] (fun v : SlN => [(7, .slice v.1 v.2.1 v.2.2)]) (fun v w' => NamSt w w' b1 [.slice o0 m.scalars.length c0, .slice o1 m.vars.length c1, .slice o2 m.chans.length c2, .slice o3 m.procs.length c3, .slice o4 m.props.length c4] v ((((([] ++ (m.scalars.map (·.name))) ++ ((m.vars.take (Abs.upN 1 p i m.vars.length)).map (·.name))) ++ ((m.chans.take (Abs.upN 2 p i m.chans.length)).map (·.name))) ++ ((m.procs.take (Abs.upN 3 p i m.procs.length)).map (·.name))) ++ ((m.props.take (Abs.upL p i m.props.length)).map (·.name)))) ?_ ?_
  · have hN : Abs.upL p i m.props.length ≤ m.props.length := by unfold Abs.upL; (repeat' split) <;> omega
    have e0 := st4.ext
    have f0 := st4.h1
    refine Sg ?_
    refine K.forG 12 (Abs.upL p i m.props.length) [1, 2, 3] (fun v : SlN => [(7, .slice v.1 v.2.1 v.2.2)]) v4 (fun k v w' => NamSt w w' b1 [.slice o0 m.scalars.length c0, .slice o1 m.vars.length c1, .slice o2 m.chans.length c2, .slice o3 m.procs.length c3, .slice o4 m.props.length c4] v ((((([] ++ (m.scalars.map (·.name))) ++ ((m.vars.take (Abs.upN 1 p i m.vars.length)).map (·.name))) ++ ((m.chans.take (Abs.upN 2 p i m.chans.length)).map (·.name))) ++ ((m.procs.take (Abs.upN 3 p i m.procs.length)).map (·.name))) ++ (m.props.take k).map (·.name))) hZq hZq (st4.re (by simp)) ?_
    clear e0 f0
    rintro k vk S wk hk stk
    have ek := stk.ext
    have fk := stk.h1
    have fin : k = Abs.upL p i m.props.length → NamSt w wk b1 [.slice o0 m.scalars.length c0, .slice o1 m.vars.length c1, .slice o2 m.chans.length c2, .slice o3 m.procs.length c3, .slice o4 m.props.length c4] vk ((((([] ++ (m.scalars.map (·.name))) ++ ((m.vars.take (Abs.upN 1 p i m.vars.length)).map (·.name))) ++ ((m.chans.take (Abs.upN 2 p i m.chans.length)).map (·.name))) ++ ((m.procs.take (Abs.upN 3 p i m.procs.length)).map (·.name))) ++ ((m.props.take (Abs.upL p i m.props.length)).map (·.name))) := fun e => stk.re (by rw [e])
    refine K.cutG [1, 2, 3, 7, 12] (fun _ : Unit => []) (fun _ w' => w' = wk ∧ k < Abs.upL p i m.props.length) ?_ ?_
    · refine Sg ?_
      refine K.cond (fun g1 => ?_) (fun g1 => ?_)
      · refine Sg ?_
        refine K.cond (fun g2 => ?_) (fun g2 => ?_)
        · refine Sg ?_
          refine K.cond (fun g4 => ?_) (fun g4 => ?_)
          · refine Sg ?_
            exact ⟨(), trivial, by first | trivial | rfl, by unfold Abs.upL at hN hk ⊢; (repeat' split at hk) <;> (repeat' split) <;> omega⟩
          · refine Sg ?_
            exact ⟨vk, hZq, fin (by unfold Abs.upL at hN hk ⊢; (repeat' split at hk) <;> (repeat' split) <;> omega)⟩
        · refine Sg ?_
          exact ⟨vk, hZq, fin (by unfold Abs.upL at hN hk ⊢; (repeat' split at hk) <;> (repeat' split) <;> omega)⟩
      · refine Sg ?_
        exact ⟨vk, hZq, fin (by unfold Abs.upL at hN hk ⊢; (repeat' split at hk) <;> (repeat' split) <;> omega)⟩
    rintro _ S2 _ ⟨rfl, hkN⟩
    have hk' : k < m.props.length := by omega
    obtain ⟨a, rfl⟩ := h4.addr (by omega)
    obtain ⟨_, ve, hcv, hpe⟩ := h4.at k hk'
    obtain ⟨oe, ce, rfl, le⟩ := hpe.form
    replace hcv := hcv.ext ek
    refine Sg ?_
    intro wB bB hbB heB hcB
    have stB := stk.then heB
    have z := stB.ext.size
    refine Sg ?_
    refine app_s2 stB.own hcB (by simp only [List.length_append, List.length_map, List.length_nil, List.length_cons, List.length_take]; omega) z fun vC wC hoC hgC => ?_
    have stC := (stB.grown hgC hoC).re (take_snoc (fun x : Abs.Prp => x.name) _ _ _ hk')
    refine Sg ?_
    exact ⟨hkN, by first | trivial | rfl, vC, hZq, stC⟩
  clear st4
  rintro v5 S5 w6 st5
  have x5 := st5.ext
  have f5 := st5.h1
  refine Sg ?_
  refine ⟨⟨v5, by first | trivial | rfl, ?_⟩, x5⟩
  have := st5.own
  simp only [List.nil_append] at this
  exact this
theorem has_r (v : SlN) (l : List ByteArray) (x : ByteArray) (base : Nat) (w : World) (h : OwnN base w v l) :
    Ret Tryz.prog F.lariatref15_has #[.slice v.1 v.2.1 v.2.2, .string x] w fun u w' => u = .bool (decide (x ∈ l)) ∧ w' = w := by
  have hs : SlR 1 (Flat encS) w (.slice v.1 v.2.1 v.2.2) l := OwR.slr (enc := encS) (fun _ => rfl) h
  obtain ⟨v0, v1, v2⟩ := v
  obtain ⟨e1, e2, e3⟩ := SlR.len hs
  have e3' := e3
  unfold maxLen at e3'
  dsimp only at e1 e2 e3' hs
  subst e1
  refine K.start hmix E.lariatref15_has (args := [_, _]) (Nat.le_of_ble_eq_true rfl) ?_; dsimp only [C.lariatref15_has]; refine Yy ?_
  refine Sg ?_
  refine K.forG 5 l.length [0, 1] (fun _ : Unit => []) () (fun k _ w' => w' = w ∧ ∀ j (hj : j < l.length), j < k → ¬ l[j] = x) hZq hZq ⟨rfl, fun j _ h => absurd h (Nat.not_lt_zero _)⟩ ?_
  rintro k _ S _ hk ⟨rfl, hz⟩
  refine Sg ?_
  refine K.cond (fun g1 => ?_) (fun g1 => ?_)
  · have hk' : k < l.length := by omega
    obtain ⟨a, rfl⟩ := hs.addr (by omega)
    refine Sg ?_
    refine K.cond (fun g2 => ?_) (fun g2 => ?_)
    · have hm : x ∈ l := by rw [← g2]; exact List.getElem_mem _
      refine Sg ?_
      exact ⟨by rw [decide_eq_true hm], by first | trivial | rfl⟩
    · refine Sg ?_
      exact ⟨hk', by first | trivial | rfl, (), trivial, by first | trivial | rfl, fun j hj hjk => by
        by_cases e : j = k
        · subst e; exact g2
        · exact hz j hj (by omega)⟩
  · have hm : ¬ x ∈ l := fun hx => by
      obtain ⟨j, hj, e⟩ := List.mem_iff_getElem.1 hx
      exact hz j hj (by omega) e
    refine Sg ?_
    exact ⟨by rw [decide_eq_false hm], by first | trivial | rfl⟩
end Go.Proofs.YtpaahhleopalaaaGreatDoor
end
section
/- What every right program says of some declarations. -/
set_option maxRecDepth 100000
set_option linter.unusedSimpArgs false
set_option maxHeartbeats 1000000
namespace Go.Proofs.YtpaahhleopalaaaGreatDoor
open Go Go.RowKit Lite
end Go.Proofs.YtpaahhleopalaaaGreatDoor
end
section
/- What the references of layer 12 compute; the law on cells and bounds. -/
set_option maxRecDepth 4000
set_option linter.unusedSimpArgs false
set_option maxHeartbeats 1000000
namespace Go.Proofs.YtpaahhleopalaaaGreatDoor
open Go Go.RowKit Lite

theorem refSize_r (k : Int) (v : Value) (l : List Abs.Scalar) (w : World) (hl : Abs.Scalars w v l) :
    Ret Tryz.prog F.lariatref12_Size #[v, .int .i64 k] w fun v w' => v = .int .i64 (Abs.size k l) ∧ w' = w := by
  obtain ⟨oa, cap, rfl, hlen⟩ := hl.form
  refine K.start hmix E.lariatref12_Size (args := [_, _]) (Nat.le_of_ble_eq_true rfl) ?_
  dsimp only [C.lariatref12_Size]; refine Yy ?_
  refine Go1 ?_
  refine K.cond (fun h1 => ?_) (fun h1 => ?_)
  · refine Go1 ?_
    rw [size_no (.inl h1)]; exact ⟨rfl, trivial⟩
  refine Go1 ?_
  refine K.cond (fun h2 => ?_) (fun h2 => ?_)
  · refine Go1 ?_
    rw [size_no (.inr h2)]; exact ⟨rfl, trivial⟩
  obtain ⟨a, rfl⟩ := hl.addr (by omega)
  have hc := (hl.at (k.toNat - 1) (by omega)).cells 1 _ rfl
  have hk : (k - 1).toNat * 2 = (k.toNat - 1) * 2 := by omega
  rw [size_at (by omega) (by omega)]
  rw [← hk] at hc
  generalize l[k.toNat - 1].size = z at hc
  (repeat' first
    | (refine K.cond (fun _ => ?_) (fun _ => ?_) <;> try (exfalso; omega))
    | (refine K.condb (fun _ => ?_) (fun _ => ?_))
    | (refine K.wrap (by omega) ?_)
    | (refine K.ld (by assumption) ?_)
    | (refine K.ia (by omega) ?_)
    | simp -dsimp only [LL,B9,Nat.reduceAdd,Nat.reduceEqDiff,reduceIte,reduceCtorEq,Bool.false_eq_true])
  · rw [if_neg (by omega)]; exact ⟨rfl, trivial⟩
  · rw [if_neg (by omega)]; exact ⟨rfl, trivial⟩
  · rw [if_pos (by omega)]; exact ⟨rfl, trivial⟩
theorem refBounds_r (x : Abs.Var) (v : Value) (l : List Abs.Scalar) (w : World) (hl : Abs.Scalars w v l) :
    Ret Tryz.prog F.lariatref12_Bounds #[.agg x.enc.toArray, v] w fun v w' => v = .tuple #[.int .i64 (Abs.bounds x l).1, .int .i64 (Abs.bounds x l).2] ∧ Ext w w' := by
  obtain ⟨oa, cap, rfl, hlen⟩ := hl.form
  refine K.start hmix E.lariatref12_Bounds (args := [_, _]) (Nat.le_of_ble_eq_true rfl) ?_
  dsimp only [C.lariatref12_Bounds]; refine Yy ?_
  refine Go1 ?_
  refine K.new fun w1 b hb he1 hc1 => ?_
  have c1 : w1.cell? (Addr.add ⟨b, 0, none⟩ 1) = some (.int .i64 x.scalar) := cell_blk hc1 rfl
  have c3 : w1.cell? (Addr.add ⟨b, 0, none⟩ 3) = some (.int .i64 x.lo) := cell_blk hc1 rfl
  have c4 : w1.cell? (Addr.add ⟨b, 0, none⟩ 4) = some (.int .i64 x.hi) := cell_blk hc1 rfl
  refine Go1 ?_
  refine K.ld c1 ?_
  refine Go1 ?_
  refine K.cond (fun h1 => ?_) (fun h1 => ?_)
  · refine Go1 ?_
    refine K.ld c3 ?_
    refine Go1 ?_
    refine K.ld c4 ?_
    refine Go1 ?_
    intro w2 he2
    simp only [Abs.bounds, h1, if_true]
    exact ⟨trivial, he1.trans he2⟩
  · refine Go1 ?_
    refine K.ld c1 ?_
    refine Go1 ?_
    refine K.call (refSize_r x.scalar _ l w1 (SlR.ext Abs.RScalar.ext he1 hl)) ?_
    rintro _ _ ⟨rfl, rfl⟩
    refine Go1 ?_
    simp only [Abs.bounds, h1, if_false]
    exact ⟨trivial, he1⟩
theorem refCells_r (x : Abs.Var) (v : Value) (l : List Abs.Scalar) (w : World) (hl : Abs.Scalars w v l) :
    Ret Tryz.prog F.lariatref12_Cells #[.agg x.enc.toArray, v] w fun v w' => v = .int .i64 (Abs.cells x l) ∧ Ext w w' := by
  obtain ⟨oa, cap, rfl, hlen⟩ := hl.form
  refine K.start hmix E.lariatref12_Cells (args := [_, _]) (Nat.le_of_ble_eq_true rfl) ?_
  dsimp only [C.lariatref12_Cells]; refine Yy ?_
  refine Go1 ?_
  refine K.new fun w1 b hb he1 hc1 => ?_
  have c2 : w1.cell? (Addr.add ⟨b, 0, none⟩ 2) = some (.int .i64 x.over) := cell_blk hc1 rfl
  refine Go1 ?_
  refine K.ld c2 ?_
  refine Go1 ?_
  refine K.cond (fun h1 => ?_) (fun h1 => ?_)
  · refine Go1 ?_
    simp only [Abs.cells, h1, if_true]
    exact ⟨trivial, he1⟩
  · refine Go1 ?_
    refine K.ld c2 ?_
    refine Go1 ?_
    refine K.call (refSize_r x.over _ l w1 (SlR.ext Abs.RScalar.ext he1 hl)) ?_
    rintro _ _ ⟨rfl, rfl⟩
    refine Go1 ?_
    simp only [Abs.cells, h1, if_false]
    exact ⟨trivial, he1⟩
end Go.Proofs.YtpaahhleopalaaaGreatDoor
end
