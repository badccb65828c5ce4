/- Texts joined: ProcI ModE ModF LiteD CodeD ModG ProcD LiteR CodeR ProcE ProcQ LibR ProcF ProcG ProcH ProcJ Open1 Open2 CmdD ModN ModL ProcK. -/
import Derived.Test.YtnkkichedhhhgaaGreatDoorQmcc
import Derived.Test.YtnkkichedhhhgaaGreatDoorQmcd
import Derived.Test.YtnkkichedhhhgaaGreatDoorQmce
import Derived.Test.YtnkkichedhhhgaaGreatDoorQmcf
import Derived.Test.YtnkkichedhhhgaaGreatDoorQmch
import Derived.Test.YtnkkichedhhhgaaGreatDoorQmci
import Derived.Defers
import Derived.Recover
import Derived.RangeFuncLeaves
import Derived.RangeFuncWrites
import Derived.SizedLaws
set_option linter.all false
section
/- Processes: what one must be. -/
set_option maxRecDepth 4000
set_option maxHeartbeats 3200000
namespace Abs
theorem localsE_drop {s : Scope} {l : List Var} {k : Nat} (h : k < l.length) : localsE s (l.drop k) k = if l[k].over ≠ 0 then ((k : Int), 9) else if s.vars.any (fun x => decide (x.name = l[k].name)) then ((k : Int), 7) else localsE s (l.drop (k + 1)) (k + 1) := by
  rw [List.drop_eq_getElem_cons h]; rfl
theorem cmdsE_drop {own : Scope} {locs : Int} {all l : List Cmd} {k : Nat} (h : k < l.length) : cmdsE own locs all (l.drop k) k = if (cmdCheck l[k] locs own).2 ≠ 0 then (2 + (k : Int), (cmdCheck l[k] locs own).1, (cmdCheck l[k] locs own).2)
    else if (all.take k).any (fun x => decide (x.name = l[k].name)) then (2 + (k : Int), 0, 7) else cmdsE own locs all (l.drop (k + 1)) (k + 1) := by
  rw [List.drop_eq_getElem_cons h]; rfl
end Abs
namespace Go.Proofs.YtnkkichedhhhgaaGreatDoor
open Go Go.RowKit Lite
theorem whole_r (p : Abs.Proc) (o3 o4 : Option Addr) (n3 c3 c4 : Nat) (cs : List Value) (s : Abs.Scope) (w : World) (ho : OwnIs w) (hn : Abs.strOk p.name) (h : Abs.ScopeIs w cs s) :
    Ret Tryz.prog F.proc_whole #[.agg (p.enc (.slice o3 n3 c3) (.slice o4 p.cmds.length c4)).toArray, .agg cs.toArray] w fun v w' => v = .int .i64 (Abs.whole p s) ∧ Ext w w' := by
  obtain ⟨a0, c0, a1, c1, a2, c2, a3, d3, a4, d4, rfl, h0, h1, h2, h3, h4, l0, l1, l2, l3, l4⟩ := h.form
  refine K.start hmix E.proc_whole (args := [_, _]) (Nat.le_of_ble_eq_true rfl) ?_; dsimp only [C.proc_whole]; refine Yy ?_
  refine Sg ?_
  intro w1 b1 hb1 he1 hc1
  refine Sg ?_
  intro w2 b2 hb2 he2 hc2
  have E2 : ∀ {w'}, Ext w2 w' → Ext w w' := fun e => (he1.trans he2).trans e
  have hc1 := he2.obj hc1
  refine Sg ?_
  refine K.call (name_r p.name w2 (ho.ext (E2 (Ext.refl _))) hn) ?_
  rintro _ w3 ⟨rfl, he3⟩
  have hc1 := he3.obj hc1
  have hc2 := he3.obj hc2
  rw [Abs.whole]
  refine Sg ?_
  refine K.condb (fun g1 => ?_) (fun g1 => ?_)
  rotate_left
  · refine Sg ?_
    exact ⟨by rw [if_pos g1], E2 he3⟩
  rw [if_neg (by simp [g1])]
  refine Sg ?_
  refine K.cond (fun g2 => ?_) (fun g2 => ?_)
  · refine Sg ?_
    exact ⟨by rw [if_pos (.inl g2)], E2 he3⟩
  refine Sg ?_
  refine K.cond (fun g3 => ?_) (fun g3 => ?_)
  · refine Sg ?_
    exact ⟨by rw [if_pos (.inr (by omega))], E2 he3⟩
  rw [if_neg (by omega)]
  refine Sg ?_
  refine K.cond (fun g4 => ?_) (fun g4 => ?_)
  · refine Sg ?_
    exact ⟨by rw [if_pos (.inl g4)], E2 he3⟩
  refine Sg ?_
  refine K.cond (fun g5 => ?_) (fun g5 => ?_)
  · refine Sg ?_
    exact ⟨by rw [if_pos (.inr (by omega))], E2 he3⟩
  rw [if_neg (by omega)]
  refine Sg ?_
  refine K.cond (fun g6 => ?_) (fun g6 => ?_)
  · refine Sg ?_
    exact ⟨by rw [if_pos (by omega)], E2 he3⟩
  refine Sg ?_
  exact ⟨by rw [if_neg (by omega)], E2 he3⟩
theorem locals1_r (x v : Abs.Var) (b : Nat) (w : World) (hc : w.heap[b]? = some (.cells v.enc.toArray T.api_Var)) :
    Ret Tryz.prog F.proc_locals_1 #[.agg x.enc.toArray, .pointer (some ⟨b, 0, none⟩)] w fun u w' => u = .bool (decide (x.name = v.name)) ∧ Ext w w' := by
  refine K.start hmix E.proc_locals_1 (args := [_, _]) (Nat.le_of_ble_eq_true rfl) ?_; dsimp only [C.proc_locals_1]; refine Yy ?_
  refine Sg ?_
  intro w1 b1 hb1 he1 hc1
  refine Sg ?_
  (refine ⟨?_, ?_⟩ <;> first | trivial | rfl | (repeat' first | assumption | exact Ext.refl _ | refine Ext.trans ?_ (by assumption)))
theorem check1_r (x c : Abs.Cmd) (o1 o2 o3 o4 : Option Addr) (n1 n2 n3 n4 c1 c2 c3 c4 : Nat) (b : Nat) (w : World) (hc : w.heap[b]? = some (.cells (c.enc (.slice o3 n3 c3) (.slice o4 n4 c4)).toArray T.api_Cmd)) :
    Ret Tryz.prog F.proc_Check_1 #[.agg (x.enc (.slice o1 n1 c1) (.slice o2 n2 c2)).toArray, .pointer (some ⟨b, 0, none⟩)] w fun u w' => u = .bool (decide (x.name = c.name)) ∧ Ext w w' := by
  refine K.start hmix E.proc_Check_1 (args := [_, _]) (Nat.le_of_ble_eq_true rfl) ?_; dsimp only [C.proc_Check_1]; refine Yy ?_
  refine Sg ?_
  intro w1 b1 hb1 he1 hc1
  refine Sg ?_
  (refine ⟨?_, ?_⟩ <;> first | trivial | rfl | (repeat' first | assumption | exact Ext.refl _ | refine Ext.trans ?_ (by assumption)))
theorem locals_r (p : Abs.Proc) (o3 o4 : Option Addr) (c3 n4 c4 : Nat) (cs : List Value) (s : Abs.Scope) (w : World) (ho : OwnIs w) (hv : Abs.Vars w (.slice o3 p.vars.length c3) p.vars) (h : Abs.ScopeIs w cs s) :
    Ret Tryz.prog F.proc_locals #[.agg (p.enc (.slice o3 p.vars.length c3) (.slice o4 n4 c4)).toArray, .agg cs.toArray] w fun v w' => v = .tuple #[.int .i64 (Abs.plocals p s).1, .int .i64 (Abs.plocals p s).2] ∧ Ext w w' := by
  obtain ⟨a0, c0, a1, c1, a2, c2, a3, d3, a4, d4, rfl, h0, h1, h2, h3, h4, l0, l1, l2, l3, l4⟩ := h.form
  have lv : p.vars.length ≤ 9223372036854775807 := by have := (SlR.len hv).2; unfold maxLen at this; omega
  refine K.start hmix E.proc_locals (args := [_, _]) (Nat.le_of_ble_eq_true rfl) ?_; dsimp only [C.proc_locals]; refine Yy ?_
  refine Sg ?_
  intro w1 b1 hb1 he1 hc1
  refine Sg ?_
  intro w2 b2 hb2 he2 hc2
  have E2 : ∀ {w'}, Ext w2 w' → Ext w w' := fun e => (he1.trans he2).trans e
  have hc1 := he2.obj hc1
  refine Sg ?_
  refine K.call (vars_r _ _ p.vars s.scalars 4 w2 (ho.ext (E2 (Ext.refl _))) (hv.ext (E2 (Ext.refl _))) (h0.ext (E2 (Ext.refl _)))) ?_
  rintro _ w3 ⟨rfl, he3⟩
  have hc1 := he3.obj hc1
  have hc2 := he3.obj hc2
  rw [Abs.plocals]
  refine Sg ?_
  refine K.cond (fun g1 => ?_) (fun g1 => ?_)
  rotate_left
  · refine Sg ?_
    exact ⟨by rw [if_pos g1], E2 he3⟩
  rw [if_neg (by simpa using g1)]
  have E3 : ∀ {w'}, Ext w3 w' → Ext w w' := fun e => E2 (he3.trans e)
  refine Sg ?_
  refine K.forG 25 p.vars.length [3, 23, 24] (fun _ => []) () (fun k _ w' => Ext w3 w' ∧ Abs.localsE s p.vars 0 = Abs.localsE s (p.vars.drop k) k) hZq hZq ⟨Ext.refl _, by simp⟩ ?_
  rintro k _ S w4 hk ⟨he4, hI⟩
  refine Sg ?_
  refine K.cond (fun g2 => ?_) (fun g2 => ?_)
  · have hk' : k < p.vars.length := by omega
    obtain ⟨a, rfl⟩ := hv.addr (by omega)
    replace hv := hv.ext (E3 (Ext.refl _))
    rw [Abs.localsE_drop hk'] at hI
    refine Sg ?_
    intro wN b9 hb9 heN hcN
    refine Sg ?_
    intro w5 hw5 hc5
    have he5 := hw5.ext heN hb9
    refine Sg ?_
    refine K.cond (fun g3 => ?_) (fun g3 => ?_)
    rotate_left
    · refine Sg ?_
      exact ⟨by rw [hI, if_pos g3], E3 (he4.trans he5)⟩
    rw [if_neg (by simpa using g3)] at hI
    refine Sg ?_
    refine K.call (containsFunc_r hmix E.slices_ContainsFunc_sl_api_Var_api_Var E.slices_IndexFunc_sl_api_Var_api_Var _ s.vars w5 (h1.ext (E3 (he4.trans he5))) F.proc_locals_1 (by kernel_rfl) [] [_] (fun x => decide (x.name = p.vars[k].name)) ?_) ?_
    · rintro i hi cs' w' e ⟨rfl, _⟩
      exact locals1_r _ _ b9 w' (e.obj hc5)
    rintro _ w6 ⟨rfl, he6⟩
    refine Sg ?_
    refine K.condb (fun g4 => ?_) (fun g4 => ?_)
    · refine Sg ?_
      exact ⟨by rw [hI, if_pos g4], E3 ((he4.trans he5).trans he6)⟩
    · refine Sg ?_
      exact ⟨hk', by first | trivial | rfl, (), trivial, (he4.trans he5).trans he6, by rw [hI, if_neg (by simp [g4])]⟩
  · refine Sg ?_
    exact ⟨by rw [hI, List.drop_eq_nil_of_le (by omega)]; rfl, E3 he4⟩
theorem pcheck_r (p : Abs.Proc) (pcs cs : List Value) (s : Abs.Scope) (w : World) (ho : OwnIs w) (hp : Abs.ProcIs w pcs p) (h : Abs.ScopeIs w cs s) (hg : s.good) (hpg : p.good) :
    Ret Tryz.prog F.proc_Check #[.agg pcs.toArray, .agg cs.toArray] w fun v w' => v = .tuple #[.int .i64 (Abs.procCheck p s).1, .int .i64 (Abs.procCheck p s).2.1, .int .i64 (Abs.procCheck p s).2.2] ∧ Ext w w' := by
  obtain ⟨a0, c0, a1, c1, a2, c2, a3, d3, a4, d4, rfl, h0, h1, h2, h3, h4, l0, l1, l2, l3, l4⟩ := h.form
  obtain ⟨hn, pv, pc, rfl, hv, hcm⟩ := hp
  obtain ⟨o3, c3, rfl, lv⟩ := hv.form
  obtain ⟨o4, c4, rfl, lc⟩ := hcm.form
  have hcb : p.cmds.length ≤ 140737488351232 := by have := hpg.cmds; unfold Abs.big at this; omega
  refine K.start hmix E.proc_Check (args := [_, _]) (Nat.le_of_ble_eq_true rfl) ?_; dsimp only [C.proc_Check]; refine Yy ?_
  refine Sg ?_
  intro w1 b1 hb1 he1 hc1
  refine Sg ?_
  intro w2 b2 hb2 he2 hc2
  have E2 : ∀ {w'}, Ext w2 w' → Ext w w' := fun e => (he1.trans he2).trans e
  replace hc1 := he2.obj hc1
  refine Sg ?_
  refine K.call (whole_r p _ _ _ _ _ _ s w2 (ho.ext (E2 (Ext.refl _))) hn (h.ext (E2 (Ext.refl _)))) ?_
  rintro _ w3 ⟨rfl, he3⟩
  replace hc1 := he3.obj hc1
  replace hc2 := he3.obj hc2
  have E3 : ∀ {w'}, Ext w3 w' → Ext w w' := fun e => E2 (he3.trans e)
  rw [Abs.procCheck]
  refine Sg ?_
  refine K.cond (fun g1 => ?_) (fun g1 => ?_)
  rotate_left
  · refine Sg ?_
    exact ⟨by rw [if_pos g1], E3 (Ext.refl _)⟩
  rw [if_neg (by simpa using g1)]
  refine Sg ?_
  refine K.call (locals_r p _ _ _ _ _ _ s w3 (ho.ext (E3 (Ext.refl _))) (hv.ext (E3 (Ext.refl _))) (h.ext (E3 (Ext.refl _)))) ?_
  rintro _ w4 ⟨rfl, he4⟩
  replace hc1 := he4.obj hc1
  replace hc2 := he4.obj hc2
  have E4 : ∀ {w'}, Ext w4 w' → Ext w w' := fun e => E3 (he4.trans e)
  refine Sg ?_
  refine K.cond (fun g2 => ?_) (fun g2 => ?_)
  rotate_left
  · refine Sg ?_
    exact ⟨by rw [if_pos g2], E4 (Ext.refl _)⟩
  rw [if_neg (by simpa using g2)]
  refine Sg ?_
  refine K.call (inner_r p _ _ _ _ _ _ _ _ _ _ _ _ _ _ _ _ _ _ _ _ _ _ w4) ?_
  rintro _ w5 ⟨rfl, he5⟩
  replace hc1 := he5.obj hc1
  have E5 : ∀ {w'}, Ext w5 w' → Ext w w' := fun e => E4 (he5.trans e)
  refine Sg ?_
  intro w6 b10 hb10 he6 hc6
  replace hc1 := he6.obj hc1
  have E6 : ∀ {w'}, Ext w6 w' → Ext w w' := fun e => E5 (he6.trans e)
  have hin : ∀ w', Ext w w' → Abs.ScopeIs w' [.slice a0 s.scalars.length c0, .slice a1 s.vars.length c1, .slice a2 s.chans.length c2, .slice a3 s.procs.length d3, .slice o3 p.vars.length c3, .int .i64 p.over] (Abs.inner p s) := fun w' e =>
    ⟨(hg.inner hpg).sm.1, _, _, _, _, _, rfl, h0.ext e, h1.ext e, h2.ext e, h3.ext e, hv.ext e, (hg.inner hpg).sm.2⟩
  refine Sg ?_
  refine K.forG 37 p.cmds.length [2, 10, 35, 36] (fun _ => []) () (fun k _ w' => Ext w6 w' ∧ Abs.cmdsE (Abs.inner p s) p.locs p.cmds p.cmds 0 = Abs.cmdsE (Abs.inner p s) p.locs p.cmds (p.cmds.drop k) k) hZq hZq ⟨Ext.refl _, by simp⟩ ?_
  rintro k _ S w7 hk ⟨he7, hI⟩
  replace hc1 := he7.obj hc1
  replace hc6 := he7.obj hc6
  refine Sg ?_
  refine K.cond (fun g3 => ?_) (fun g3 => ?_)
  · have hk' : k < p.cmds.length := by omega
    obtain ⟨a, rfl⟩ := hcm.addr (by omega)
    obtain ⟨hs, vg, va, hcc, hvg, hva⟩ := hcm.at k hk'
    obtain ⟨og, cg, rfl, lg⟩ := hvg.form
    obtain ⟨oa, ca, rfl, la⟩ := hva.form
    rw [Abs.cmdsE_drop hk'] at hI
    replace hcc := hcc.ext (E6 (Ext.refl _))
    refine Sg ?_
    intro wN b12 hb12 heN hcN
    refine Sg ?_
    intro w8 hw8 hc8
    have he8 := hw8.ext heN hb12
    replace hc1 := he8.obj hc1
    replace hc6 := he8.obj hc6
    have E8 : ∀ {w'}, Ext w8 w' → Ext w w' := fun e => E6 ((he7.trans he8).trans e)
    clear hcN heN
    refine Sg ?_
    refine K.call (check_r p.cmds[k] _ _ p _ _ _ (Abs.inner p s) w8 (ho.ext (E8 (Ext.refl _))) hs (hvg.ext (E8 (Ext.refl _))) (hva.ext (E8 (Ext.refl _))) (hv.ext (E8 (Ext.refl _))) (hcm.ext (E8 (Ext.refl _))) (hin _ (E8 (Ext.refl _)))) ?_
    rintro _ w9 ⟨rfl, he9⟩
    replace hc1 := he9.obj hc1
    replace hc8 := he9.obj hc8
    have E9 : ∀ {w'}, Ext w9 w' → Ext w w' := fun e => E8 (he9.trans e)
    refine Sg ?_
    refine K.cond (fun g4 => ?_) (fun g4 => ?_)
    rotate_left
    · refine Sg ?_
      exact ⟨by rw [hI, if_pos g4], E9 (Ext.refl _)⟩
    rw [if_neg (by simpa using g4)] at hI
    have hcap := (SlR.len hcm).2.1
    refine Sg ?_
    refine K.slcT (k := .i64) k (by rfl) (by omega) ?_
    refine Sg ?_
    refine K.call (containsFunc_r hmix E.slices_ContainsFunc_sl_api_Cmd_api_Cmd E.slices_IndexFunc_sl_api_Cmd_api_Cmd _ (p.cmds.take k) w9 ((hcm.head k (by omega)).ext Abs.RCmd.ext (E9 (Ext.refl _))) F.proc_Check_1 (by kernel_rfl) [] [_] (fun x => decide (x.name = p.cmds[k].name)) ?_) ?_
    · rintro i hi cs' w' e ⟨_, xg, xa, rfl, hxg, hxa⟩
      obtain ⟨_, _, rfl, _⟩ := hxg.form
      obtain ⟨_, _, rfl, _⟩ := hxa.form
      exact check1_r _ _ _ _ _ _ _ _ _ _ _ _ _ _ b12 w' (e.obj hc8)
    rintro _ w10 ⟨rfl, he10⟩
    refine Sg ?_
    refine K.condb (fun g5 => ?_) (fun g5 => ?_)
    · refine Sg ?_
      exact ⟨by rw [hI, if_pos g5], E9 he10⟩
    · refine Sg ?_
      exact ⟨hk', by first | trivial | rfl, (), trivial, ((he7.trans he8).trans he9).trans he10, by rw [hI, if_neg (by simp [g5])]⟩
  · refine Sg ?_
    exact ⟨by rw [hI, List.drop_eq_nil_of_le (by omega)]; rfl, E6 he7⟩
end Go.Proofs.YtnkkichedhhhgaaGreatDoor
end
section
/- Whole models: processes. -/
set_option maxRecDepth 8000
set_option maxHeartbeats 16000000
namespace Go.Proofs.YtnkkichedhhhgaaGreatDoor
open Go Go.RowKit Lite
theorem TakSt.wrN {w0 w w' w'' : World} {bt b1 k : Nat} {cs : List Value} {L : List ByteArray} (h : TakSt w0 w bt b1 cs w' L) (hsz : w0.heap.size ≤ w.heap.size) (hw : Wr k w' w'') (hk : w.heap.size ≤ k) (h1 : b1 ≠ k) (h2 : bt ≠ k) : TakSt w0 w bt b1 cs w'' L :=
  ⟨hw.ext h.ext (Nat.le_trans hsz hk), h.mod.then (hw.mod (A := fun j => j = k) rfl) fun i hi e => absurd e (by omega), hw.obj h.box h1, h.set.wr hw h2, h.low, h.ne⟩
theorem processes_r {w0 : World} (cs : List Value) (m : Abs.Model) (bt : Nat) (w : World) (h : Abs.ModelIs w0 cs m) (hg : m.good) (e0 : Ext w0 w) (hbt : w0.heap.size ≤ bt) (ho : OwnIs w0) (hd : (Abs.data m).why = 0) (hs : SetAt w bt (Abs.nSVC m m.chans.length)) :
    RetT Tryz.prog F.model_processes #[.agg cs.toArray, .map (some bt)] w (fun _ w' => (Abs.procsF m).why = 0 ∧ Ext w0 w' ∧ Mod (fun k => k = bt) w w' ∧ SetAt w' bt (Abs.nSVCP m m.procs.length))
      (fun c w' => (Abs.procsF m).why ≠ 0 ∧ c = thrown (Abs.procsF m) ∧ Ext w0 w' ∧ Mod (fun k => k = bt) w w') := by
  have hM := h
  obtain ⟨o0, c0, o1, c1, o2, c2, o3, c3, o4, c4, rfl, h0, h1, h2, h3, h4, l0, l1, l2, l3, l4⟩ := h.form
  have hsz := e0.size
  refine K.startT hmix E.model_processes (args := [_, _]) (Nat.le_of_ble_eq_true rfl) ?_; dsimp only [C.model_processes]; refine Yy ?_
  refine Sg ?_
  intro w1 b1 hb1 he1 hc1
  have st1 : TakSt w0 w bt b1 _ w1 (Abs.nSVC m m.chans.length) := ⟨e0.trans he1, he1.mod, hc1, hs.ext he1, hbt, by have := hs.lt; omega⟩
  have zt := hs.lt
  have z1 := lt_of_heap hc1
  clear hs hc1
  refine Sg ?_
  refine K.newM fun w2 ba hba he2 hm2 => ?_
  replace st1 := st1.then he2
  have sa : SetAt w2 ba [] := SetAt.empty hm2
  have z0 := he1.size
  have z2 := sa.lt
  clear hm2
  refine Sg ?_
  refine K.rngM (b := bt) rfl (k := T.string) (e := T.bool) (by kernel_rfl) st1.set fun w3 r n hr he3 hit => ?_
  replace st1 := st1.then he3
  replace sa := sa.ext he3
  have z4 := he2.size
  have z5 := hit.lt
  refine Sg ?_
  refine K.whG [1, 2, 4, 20] (fun _ : List ByteArray × Nat => []) ([], n) (fun x w' => TakSt w0 w bt b1 _ w' (Abs.nSVC m m.chans.length) ∧ SetAt w' ba x.1 ∧ ∃ cur, IterAt w' r bt (Abs.nSVC m m.chans.length) x.1 x.2 cur) (fun x => x.2) hZq ⟨st1, sa, _, hit⟩ ?_
  clear st1 sa hit
  rintro ⟨D, n'⟩ S w4 ⟨st4, sa, cur, hit⟩
  have hc1 := st4.box
  refine Sg ?_
  refine K.nxtM rfl hit (fun hall => ?_) (fun y w5 n2 hy hlt hw5 hit5 => ?_)
  rotate_left
  · have st5 := st4.wrN hsz hw5 (by omega) (by omega) (by omega)
    have sa5 := sa.wr hw5 (by omega)
    refine Sg ?_
    refine K.entM rfl hit5 ?_
    refine Sg ?_
    refine K.mupS sa5 fun w6 hw6 sa6 => ?_
    have st6 := st5.wrN hsz hw6 (by omega) (by omega) (by omega)
    have hit6 := hit5.wr hw6 (by omega) (by omega)
    refine Sg ?_
    exact ⟨(D ++ [y], n2), trivial, ⟨st6, sa6, _, hit6⟩, hlt⟩
  have sb : SetAt w4 ba (Abs.nSVCP m 0) := sa.re fun x => by
    have hsub := hit.sub
    simp only [Abs.nSVCP, Abs.nP, List.take_zero, List.map_nil, List.append_nil]
    exact ⟨fun hx => hsub x hx, fun hx => hall x hx⟩
  clear sa hit hall
  refine Sg ?_
  refine K.forG 30 m.procs.length [1, 2, 4, 28, 29] (fun _ : Unit => []) () (fun k _ w' => TakSt w0 w bt b1 _ w' (Abs.nSVC m m.chans.length) ∧ SetAt w' ba (Abs.nSVCP m k)) hZq hZq ⟨st4, sb⟩ ?_
  clear hc1 st4 sb
  rintro k _ S' w5 hk ⟨st5, sb⟩
  have hc1 := st5.box
  have e5 := st5.ext
  refine Sg ?_
  refine K.cond (fun g1 => ?_) (fun g1 => ?_)
  · have hk' : k < m.procs.length := by omega
    obtain ⟨a, rfl⟩ := h3.addr (by omega)
    obtain ⟨_, vv, vc, hp, hpv, hpc⟩ := h3.at k hk'
    obtain ⟨ov, cv, rfl, lv⟩ := hpv.form
    obtain ⟨oc, cc, rfl, lc⟩ := hpc.form
    replace hp := hp.ext e5
    refine Sg ?_
    intro w6 b7 hb7 he6 hc7
    have st6 := st5.then he6
    replace sb := sb.ext he6
    refine Sg ?_
    refine K.mupS sb fun w7 hw7 sb7 => ?_
    have st7 := st6.wrN hsz hw7 (by omega) (by omega) (by omega)
    refine Sg ?_
    exact ⟨hk', by first | trivial | rfl, (), trivial, st7, by simp only [Abs.nSVCP, Abs.nP]; rw [Abs.take_snocN (fun x : Abs.Proc => x.name) _ hk', ← List.append_assoc]; exact sb7⟩
  have sA : ∀ {w'}, SetAt w' ba (Abs.nSVCP m k) → SetAt w' ba (Abs.nSVCP m m.procs.length) := fun h => h.re fun x => by
    simp only [Abs.nSVCP, Abs.nP]; rw [List.take_of_length_le (by omega), List.take_of_length_le (Nat.le_refl _)]
  replace sb := sA sb
  clear sA
  replace st5 := st5.re (show _ = Abs.nSVCP m 0 by simp [Abs.nSVCP])
  refine Sg ?_
  refine K.forG 41 m.procs.length [1, 2, 4, 39, 40] (fun _ : Unit => []) () (fun k _ w' => TakSt w0 w bt b1 _ w' (Abs.nSVCP m k) ∧ SetAt w' ba (Abs.nSVCP m m.procs.length) ∧ ∀ j, j < k → (Abs.eproc m j).1 = 0) hZq hZq ⟨st5, sb, fun j h => absurd h (Nat.not_lt_zero _)⟩ ?_
  clear hc1 e5 st5 sb
  rintro k _ S2 w6 hk ⟨st6, sb, hz⟩
  have hc1 := st6.box
  have e6 := st6.ext
  have z6 := st6.mod.size
  refine Sg ?_
  refine K.cond (fun g1 => ?_) (fun g1 => ?_)
  · have hk' : k < m.procs.length := by omega
    obtain ⟨a, rfl⟩ := h3.addr (by omega)
    obtain ⟨hsn, vv, vc, hp, hpv, hpc⟩ := h3.at k hk'
    obtain ⟨ov, cv, rfl, lv⟩ := hpv.form
    obtain ⟨oc, cc, rfl, lc⟩ := hpc.form
    have hpg := hg.proc _ (List.getElem_mem hk')
    have hget := Abs.eproc_get hk'
    replace hp := hp.ext e6
    refine Sg ?_
    intro wN b9 hb9 heN hcN
    refine Su ?_
    intro w7 hw7 hc9
    have he7 := hw7.ext heN hb9
    have st7 := st6.then he7
    replace sb := sb.ext he7
    replace hc1 := st7.box
    have zb9 := lt_of_heap hc9
    have za := sb.lt
    have e7 := st7.ext
    clear hcN heN hw7
    refine Sg ?_
    refine K.cond (fun g2 => ?_) (fun g2 => ?_)
    · have h6 : 6 ≤ k := by omega
      rw [if_pos h6] at hget
      have hd2 := Abs.procs_i hk' hz (by rw [hget]; decide)
      rw [hget] at hd2
      refine Sg ?_
      refine K.thr (throw_r 11 4 k 0 w7) ?_ ?_
      · rintro _ _ ⟨h00, _⟩
        exact absurd h00 (by decide)
      · rintro c _ ⟨_, rfl, rfl⟩
        refine Sg ?_
        rw [hd2]
        exact ⟨(show (11 : Int) ≠ 0 by decide), by first | trivial | rfl, e7, st7.mod⟩
    rw [if_neg (by omega)] at hget
    refine Sg ?_
    intro w8 he8
    replace hc1 := he8.obj hc1
    replace hc9 := he8.obj hc9
    refine Sg ?_
    refine K.call (scope_r _ m k w8 (hM.ext (e7.trans he8)) hg) ?_
    rintro _ w9 ⟨⟨cs9, rfl, hn9⟩, he9⟩
    refine ⟨he9, ?_⟩
    have hsc := hn9.here
    obtain ⟨x0, y0, x1, y1, x2, y2, x3, y3, x4, y4, rfl, _⟩ := hsc.form
    refine Sg ?_
    refine K.call (pcheck_r m.procs[k] _ _ (Abs.pscope m k) w9 (ho.ext (e7.trans (he8.trans he9))) ⟨hsn, _, _, rfl, hpv.ext (e7.trans (he8.trans he9)), hpc.ext (e7.trans (he8.trans he9))⟩ hsc (hg.pscope _) hpg) ?_
    rintro _ w10 ⟨rfl, he10⟩
    have e710 := (he8.trans he9).trans he10
    have st10 := st7.then e710
    replace sb := sb.ext e710
    replace hc1 := st10.box
    replace hc9 := (he9.trans he10).obj hc9
    have zb10 := lt_of_heap hc9
    have za10 := sb.lt
    clear hsc hn9 st7 e7
    have e10 := st10.ext
    have hin := Abs.procCheck_in m.procs[k] (Abs.pscope m k) 140737488351232 fun c hc => by have := (hpg.cmd c hc).acts; unfold Abs.big at this; omega
    have hvb : m.procs[k].vars.length ≤ 140737488351232 := by have := hpg.vars; unfold Abs.big at this; omega
    have hcb : m.procs[k].cmds.length ≤ 140737488351232 := by have := hpg.cmds; unfold Abs.big at this; omega
    refine Sg ?_
    refine K.thr (throw_r (Abs.procCheck m.procs[k] (Abs.pscope m k)).2.2 4 k (16 * (Abs.procCheck m.procs[k] (Abs.pscope m k)).1 + (Abs.procCheck m.procs[k] (Abs.pscope m k)).2.1) w10) ?_ ?_
    rotate_left
    · rintro c _ ⟨h00, rfl, rfl⟩
      rw [if_pos h00] at hget
      have hd2 := Abs.procs_i hk' hz (by rw [hget]; exact h00)
      rw [hget] at hd2
      refine Sg ?_
      rw [hd2]
      exact ⟨h00, by first | trivial | rfl, e10, st10.mod⟩
    rintro _ wA ⟨h00, rfl⟩
    rw [if_neg (by simpa using h00)] at hget
    refine Sg ?_
    refine K.thr (take_r bt (Abs.nSVCP m k) m.procs[k].name 4 k wA st10.set) ?_ ?_
    rotate_left
    · rintro c _ ⟨hn, rfl, rfl⟩
      rw [if_pos hn] at hget
      have hd2 := Abs.procs_i hk' hz (by rw [hget]; decide)
      rw [hget] at hd2
      refine Sg ?_
      rw [hd2]
      exact ⟨(show (7 : Int) ≠ 0 by decide), by first | trivial | rfl, e10, st10.mod⟩
    rintro _ w11 ⟨hn, hw11, hs11⟩
    rw [if_neg hn] at hget
    have st11 : TakSt w0 w bt b1 _ w11 (Abs.nSVCP m (k + 1)) := (st10.wr hw11 hs11).re (by simp only [Abs.nSVCP, Abs.nP]; rw [Abs.take_snocN (fun x : Abs.Proc => x.name) _ hk', List.append_assoc])
    replace sb := sb.wr hw11 (by omega)
    replace hc1 := st11.box
    replace hc9 := hw11.obj hc9 (by omega)
    have e11 := st11.ext
    have z11 := hw11.size
    clear st10 e10
    refine Sg ?_
    refine K.forG 74 m.procs[k].vars.length [1, 2, 4, 8, 9, 39, 40, 41, 72, 73] (fun _ : Unit => []) () (fun j _ w' => TakSt w0 w bt b1 _ w' (Abs.nSVCP m (k + 1)) ∧ SetAt w' ba (Abs.nSVCP m m.procs.length) ∧ Ext w11 w' ∧ ∀ i, i < j → Abs.elocs m m.procs[k] i = 0) hZq hZq ⟨st11, sb, Ext.refl _, fun j h => absurd h (Nat.not_lt_zero _)⟩ ?_
    have hc11 := hc9
    clear st11 sb hc1 hc9 e11
    rintro j _ S3 w12 hj ⟨st12, sb, he12, hz2⟩
    have hc1 := st12.box
    have hc9 := he12.obj hc11
    have e12 := st12.ext
    refine Sg ?_
    refine K.cond (fun g3 => ?_) (fun g3 => ?_)
    · have hj' : j < m.procs[k].vars.length := by omega
      obtain ⟨a', rfl⟩ := hpv.addr (by omega)
      have hcv := ((hpv.at j hj').cells).ext e12
      have hnm := Abs.nameAt_get (f := fun x : Abs.Var => x.name) hj'
      refine Sg ?_
      intro wM b14 hb14 heM hcM
      refine Su ?_
      intro w13 hw13 hc14
      have he13 := hw13.ext heM hb14
      have st13 := st12.then he13
      replace sb := sb.ext he13
      replace hc1 := st13.box
      clear hcM heM hw13
      refine Sg ?_
      refine K.lkpS sb ?_
      refine Sg ?_
      refine K.cond (fun g4 => ?_) (fun g4 => ?_)
      · have hel : Abs.elocs m m.procs[k] j = 7 := by unfold Abs.elocs; rw [hnm, if_pos g4]
        rw [Abs.first_stop hj' hz2 (by rw [hel]; decide), hel, if_pos (show (7 : Int) ≠ 0 by decide)] at hget
        have hd2 := Abs.procs_i hk' hz (by rw [hget]; exact (show (7 : Int) ≠ 0 by decide))
        rw [hget] at hd2
        refine Sg ?_
        refine K.thr (throw_r 7 4 k (16 + j) w13) ?_ ?_
        · rintro _ _ ⟨h01, _⟩
          exact absurd h01 (by decide)
        · rintro c _ ⟨_, rfl, rfl⟩
          refine Sg ?_
          rw [hd2]
          exact ⟨(show (7 : Int) ≠ 0 by decide), by first | trivial | rfl, st13.ext, st13.mod⟩
      · refine Sg ?_
        refine ⟨hj', by first | trivial | rfl, (), trivial, st13, sb, he12.trans he13, fun i hi => ?_⟩
        by_cases hij : i = j
        · subst hij
          unfold Abs.elocs
          rw [hnm, if_neg g4]
        · exact hz2 i (by omega)
    · rw [Abs.first_none fun i hi => hz2 i (by omega), if_neg (by simp)] at hget
      refine Sg ?_
      refine ⟨hk', by first | trivial | rfl, (), trivial, st12, sb, fun i hi => ?_⟩
      by_cases hik : i = k
      · subst hik
        rw [hget]
      · exact hz i (by omega)
  have hkp : m.procs.length ≤ k := by omega
  have hP : ∀ j, j < m.procs.length → (Abs.eproc m j).1 = 0 := fun j hj => hz j (by omega)
  have hdf := Abs.data_few hd
  have hpl : m.procs.length ≤ 6 := by
    apply Classical.byContradiction
    intro hn
    have := Abs.eproc_lt (i := 6) (by omega) (hP 6 (by omega))
    omega
  have hfew : Abs.Few m := ⟨by omega, by omega, by omega, fun p hp => by
    obtain ⟨j, hj, rfl⟩ := List.mem_iff_getElem.1 hp
    have := Abs.procCheck_few (Abs.eproc_ok hj (hP j hj)).2.1
    omega⟩
  refine Sg ?_
  refine K.call (pieces_r _ m w6 (hM.ext e6) hfew) ?_
  rintro _ w7 ⟨rfl, he7⟩
  have st7 := st6.then he7
  replace hc1 := st7.box
  have hpa := Abs.procs_all hP
  have hset : SetAt w7 bt (Abs.nSVCP m m.procs.length) := by
    have h := st7.set
    simp only [Abs.nSVCP, Abs.nP] at h ⊢
    rw [List.take_of_length_le hkp] at h
    rw [List.take_of_length_le (Nat.le_refl _)]
    exact h
  refine Sg ?_
  refine K.cond (fun g2 => ?_) (fun g2 => ?_)
  · rw [if_pos (.inl (by omega))] at hpa
    refine Sg ?_
    refine K.thr (throw_r 11 4 m.procs.length 0 w7) ?_ ?_
    · rintro _ _ ⟨h01, _⟩
      exact absurd h01 (by decide)
    · rintro c _ ⟨_, rfl, rfl⟩
      refine Sg ?_
      rw [hpa]
      exact ⟨(show (11 : Int) ≠ 0 by decide), by first | trivial | rfl, st7.ext, st7.mod⟩
  refine Sg ?_
  refine K.cond (fun g3 => ?_) (fun g3 => ?_)
  · rw [if_pos (.inr (by omega))] at hpa
    refine Sg ?_
    refine K.thr (throw_r 11 4 m.procs.length 0 w7) ?_ ?_
    · rintro _ _ ⟨h01, _⟩
      exact absurd h01 (by decide)
    · rintro c _ ⟨_, rfl, rfl⟩
      refine Sg ?_
      rw [hpa]
      exact ⟨(show (11 : Int) ≠ 0 by decide), by first | trivial | rfl, st7.ext, st7.mod⟩
  rw [if_neg (by omega)] at hpa
  refine Sg ?_
  exact ⟨by rw [hpa]; rfl, st7.ext, st7.mod, hset⟩
end Go.Proofs.YtnkkichedhhhgaaGreatDoor
end
section
/- Whole models: propositions. -/
set_option maxRecDepth 8000
set_option maxHeartbeats 16000000
namespace Go.Proofs.YtnkkichedhhhgaaGreatDoor
open Go Go.RowKit Lite
theorem propositions_r {w0 : World} (cs : List Value) (m : Abs.Model) (bt : Nat) (w : World) (h : Abs.ModelIs w0 cs m) (hg : m.good) (e0 : Ext w0 w) (hbt : w0.heap.size ≤ bt) (ho : OwnIs w0) (hs : SetAt w bt (Abs.nSVCP m m.procs.length)) :
    RetT Tryz.prog F.model_propositions #[.agg cs.toArray, .map (some bt)] w (fun _ w' => (Abs.propsF m).why = 0 ∧ Ext w0 w' ∧ Mod (fun k => k = bt) w w')
      (fun c w' => (Abs.propsF m).why ≠ 0 ∧ c = thrown (Abs.propsF m) ∧ Ext w0 w' ∧ Mod (fun k => k = bt) w w') := by
  have hM := h
  obtain ⟨o0, c0, o1, c1, o2, c2, o3, c3, o4, c4, rfl, h0, h1, h2, h3, h4, l0, l1, l2, l3, l4⟩ := h.form
  refine K.startT hmix E.model_propositions (args := [_, _]) (Nat.le_of_ble_eq_true rfl) ?_; dsimp only [C.model_propositions]; refine Yy ?_
  refine Sg ?_
  intro w1 b1 hb1 he1 hc1
  have st1 : TakSt w0 w bt b1 _ w1 (Abs.nAll m 0) := ⟨e0.trans he1, he1.mod, hc1, by have := hs.ext he1; simpa [Abs.nAll] using this, hbt, by have := hs.lt; omega⟩
  have zt := hs.lt
  have z0 := he1.size
  clear hs
  refine Sg ?_
  refine K.call (scope_r _ m (-1) w1 (hM.ext st1.ext) hg) ?_
  rintro _ w2 ⟨⟨cs2, rfl, hn2⟩, he2⟩
  rw [Abs.pscope_none (.inl (by decide))] at hn2
  have hsc := hn2.here
  obtain ⟨x0, y0, x1, y1, x2, y2, x3, y3, x4, y4, rfl, _⟩ := hsc.form
  clear hsc
  have st2 := st1.then he2
  clear hc1 st1
  have z1 := he2.size
  refine Sg ?_
  intro w3 b4 hb4 he3 hc4
  have hn3 := hn2.ext he3 z1
  have st3 := st2.then he3
  have hc1 := st3.box
  clear hn2 st2
  refine Sg ?_
  refine K.forG 14 m.props.length [1, 2, 4, 12, 13] (fun _ : Unit => []) () (fun k _ w' => TakSt w0 w bt b1 _ w' (Abs.nAll m k) ∧ New w1 (fun w => Abs.ScopeIs w _ (Abs.mscope m)) w' ∧ w'.heap[b4]? = some (.cells (List.toArray [_, _, _, _, _, _]) T.api_Scope) ∧ w1.heap.size ≤ w'.heap.size ∧ ∀ j, j < k → Abs.eprop m j = 0) hZq hZq ⟨st3, hn3, hc4, by have := he3.size; omega, fun j h => absurd h (Nat.not_lt_zero _)⟩ ?_
  clear hc1 st3 hn3 hc4
  rintro k _ S w4 hk ⟨st4, hn4, hc4, z4, hz⟩
  have hc1 := st4.box
  have e4 := st4.ext
  refine Sg ?_
  refine K.cond (fun g1 => ?_) (fun g1 => ?_)
  · have hk' : k < m.props.length := by omega
    obtain ⟨a, rfl⟩ := h4.addr (by omega)
    obtain ⟨hsn, ve, hp, hpe⟩ := h4.at k hk'
    obtain ⟨oe, ce, rfl, le⟩ := hpe.form
    have hget := Abs.eprop_get hk'
    replace hp := hp.ext e4
    have z5 := st4.mod.size
    refine Sg ?_
    intro wN b6 hb6 heN hcN
    refine Su ?_
    intro w5 hw5 hc6
    have he5 := hw5.ext heN hb6
    have st5 := st4.then he5
    replace hn4 := hn4.ext he5 z4
    replace hc4 := he5.obj hc4
    replace hc1 := st5.box
    have e5 := st5.ext
    clear hcN heN hw5 st4
    have hd : Abs.eprop m k ≠ 0 → Abs.propsF m = ⟨Abs.eprop m k, 5, k, 0⟩ := Abs.props_i hk' hz
    refine Sg ?_
    refine K.cond (fun g2 => ?_) (fun g2 => ?_)
    · rw [if_pos (by omega)] at hget
      rw [hget] at hd
      replace hd := hd (by decide)
      refine Sg ?_
      refine K.thr (throw_r 11 5 k 0 w5) ?_ ?_
      · rintro _ _ ⟨h00, _⟩
        exact absurd h00 (by decide)
      · rintro c _ ⟨_, rfl, rfl⟩
        refine Sg ?_
        rw [hd]
        exact ⟨(show (11 : Int) ≠ 0 by decide), by first | trivial | rfl, e5, st5.mod⟩
    rw [if_neg (by omega)] at hget
    refine Sg ?_
    refine K.call (name_r m.props[k].name w5 (ho.ext e5) hsn) ?_
    rintro _ w6 ⟨rfl, he6⟩
    have st6 := st5.then he6
    replace hn4 := hn4.ext he6 (by have := he5.size; omega)
    replace hc4 := he6.obj hc4
    replace hc6 := he6.obj hc6
    replace hc1 := st6.box
    have e6 := st6.ext
    clear st5
    refine Sg ?_
    refine K.condb (fun g3 => ?_) (fun g3 => ?_)
    rotate_left
    · rw [if_pos g3] at hget
      rw [hget] at hd
      replace hd := hd (by decide)
      refine Sg ?_
      refine K.thr (throw_r 6 5 k 0 w6) ?_ ?_
      · rintro _ _ ⟨h00, _⟩
        exact absurd h00 (by decide)
      · rintro c _ ⟨_, rfl, rfl⟩
        refine Sg ?_
        rw [hd]
        exact ⟨(show (6 : Int) ≠ 0 by decide), by first | trivial | rfl, e6, st6.mod⟩
    rw [if_neg (by rw [g3]; decide)] at hget
    refine Sg ?_
    refine K.thr (take_r bt (Abs.nAll m k) m.props[k].name 5 k w6 st6.set) ?_ ?_
    rotate_left
    · rintro c _ ⟨hn, rfl, rfl⟩
      rw [if_pos hn] at hget
      rw [hget] at hd
      replace hd := hd (by decide)
      refine Sg ?_
      rw [hd]
      exact ⟨(show (7 : Int) ≠ 0 by decide), by first | trivial | rfl, st6.ext, st6.mod⟩
    rintro _ w7 ⟨hn, hw7, hs7⟩
    rw [if_neg hn] at hget
    have st7 : TakSt w0 w bt b1 _ w7 (Abs.nAll m (k + 1)) := (st6.wr hw7 hs7).re (by simp only [Abs.nAll, Abs.nR]; rw [Abs.take_snocN (fun x : Abs.Prp => x.name) _ hk', List.append_assoc])
    replace hn4 := hn4.wr hw7 (by omega)
    replace hc4 := hw7.obj hc4 (by omega)
    replace hc6 := hw7.obj hc6 (by omega)
    replace hc1 := st7.box
    have e7 := st7.ext
    clear st6 e6
    refine Sg ?_
    refine K.call (kind_r _ m.props[k].expr _ _ w7 (hpe.ext e7) hn4.here) ?_
    rintro _ w8 ⟨rfl, he8⟩
    have st8 := st7.then he8
    have z7 := hw7.size
    replace hn4 := hn4.ext he8 (by have := he5.size; have := he6.size; omega)
    replace hc4 := he8.obj hc4
    replace hc1 := st8.box
    have e8 := st8.ext
    clear st7
    refine Sg ?_
    refine K.thr (throw_r (Abs.kind m.props[k].expr (Abs.mscope m)).2 5 k 0 w8) ?_ ?_
    rotate_left
    · rintro c _ ⟨h00, rfl, rfl⟩
      rw [if_pos h00] at hget
      rw [hget] at hd
      replace hd := hd h00
      refine Sg ?_
      rw [hd]
      exact ⟨h00, by first | trivial | rfl, e8, st8.mod⟩
    rintro _ w9 ⟨h00, rfl⟩
    rw [if_neg (by simpa using h00)] at hget
    refine Sg ?_
    refine K.cond (fun g4 => ?_) (fun g4 => ?_)
    rotate_left
    · rw [if_pos g4] at hget
      rw [hget] at hd
      replace hd := hd (by decide)
      refine Sg ?_
      refine K.thr (throw_r 9 5 k 0 w9) ?_ ?_
      · rintro _ _ ⟨h01, _⟩
        exact absurd h01 (by decide)
      · rintro c _ ⟨_, rfl, rfl⟩
        refine Sg ?_
        rw [hd]
        exact ⟨(show (9 : Int) ≠ 0 by decide), by first | trivial | rfl, e8, st8.mod⟩
    rw [if_neg (by simpa using g4)] at hget
    refine Sg ?_
    refine ⟨hk', by first | trivial | rfl, (), trivial, st8, hn4, hc4, by have := he5.size; have := he6.size; have := he8.size; omega, fun i hi => ?_⟩
    by_cases hik : i = k
    · subst hik
      rw [hget]
    · exact hz i (by omega)
  refine Sg ?_
  exact ⟨by rw [Abs.props_0 fun j hj => hz j (by omega)]; rfl, e4, st4.mod⟩
end Go.Proofs.YtnkkichedhhhgaaGreatDoor
end
section
/- Lite: a function that defers one call; a deferred function that recovers. -/
set_option maxRecDepth 4000
namespace Lite
open Go Go.RowKit
/-- A function that first defers a call, and goes on. -/
structure DFn where
  n : Nat
  res : List LRes
  pre : LC
  ss : List Step
  fn : Operand
  rest : LC
def deferOf (o : Oper) : Option Operand :=
  match o.guard, o.dst, o.op with
  | none, none, .defer ⟨.value x, args, _⟩ => match args.toList with | [] => some x | _ => none
  | _, _, _ => none
def compD (P : Program) (fn : Func) : Code → Option DFn
  | .seq a (.seq (.region _ ops false) c) =>
    match ops.toList.getLast?.bind deferOf, comp P fn.ntmps a, compSteps P fn.ntmps ops ops.toList.dropLast, comp P fn.ntmps c, compResL P fn.results.toList with
    | some x, some la, some ss, some lc, some r => some ⟨fn.ntmps, r, la, ss, x, lc⟩
    | _, _, _, _, _ => none
  | _ => none
def compFD (P : Program) (f : FuncId) : Option DFn :=
  match P.funcs[f]? with
  | some fn => match fn.body with | some c => compD P fn c | none => none
  | none => none
/-- What the deferred call is to do. -/
def LeaveD (P : Program) (f : FuncId) (cap : Array Value) (u : FrameMode) (w : World) (R : World → Prop) : Prop :=
  CallsD P f cap u w fun e u' w' => (∃ v, e = .returned v) ∧ settle u' = .returning ∧ R w'
def endQD (P : Program) (res : List LRes) (f : FuncId) (cap : Array Value) (R : Value → World → Prop) : LX → Fr → World → Prop
  | .normal, S, w => LeaveD P f cap .returning w fun w' => resVC res S w' fun vs => R (tup vs) w'
  | .ret, S, w => LeaveD P f cap .returning w fun w' => resVC res S w' fun vs => R (tup vs) w'
  | .exit _, _, _ => False
  | .pan c, S, w => LeaveD P f cap (.panicking c) w fun w' => resVC res S w' fun vs => R (tup vs) w'
def vcD (P : Program) (L : DFn) (R : Value → World → Prop) (S : Fr) (w : World) : Prop :=
  vc P L.pre (thenQ (fun S w => steps P L.ss S w fun S w => ∃ f cap, ev S L.fn = .func (.func f) #[] cap ∧ okF P f = true ∧ vc P L.rest (endQD P L.res f cap R) S w) (fun _ _ _ => False)) S w
theorem deferOf_spec {o : Oper} {x : Operand} (h : deferOf o = some x) : ∃ ty pos after tys, o = ⟨none, .defer ⟨.value x, #[], tys⟩, ty, pos, after, none⟩ := by
  obtain ⟨dst, op, ty, pos, after, guard⟩ := o
  unfold deferOf at h
  split at h
  · rename_i h1 h2 h3
    simp only at h1 h2 h3
    split at h
    · rename_i h4
      injection h with h
      have h5 := Array.toList_eq_nil_iff.1 h4
      subst h1 h2 h3 h h5
      exact ⟨_, _, _, _, rfl⟩
    · cases h
  · cases h
theorem enterD {P : Program} {f : FuncId} {L : DFn} (hm : P.follows .mixedOrders = true) (hc : compFD P f = some L) {args : List Value} {w : World} {R : Value → World → Prop} (ha : args.length ≤ L.n)
    (h : vcD P L R (fr0 args 0) w) : Ret P f args.toArray w R := by
  unfold compFD at hc
  split at hc
  · rename_i fn hfn
    split at hc
    · rename_i c hb
      unfold compD at hc
      split at hc
      · rename_i a id ops c'
        split at hc
        · rename_i x la ss lc r h1 h2 h3 h4 h5
          injection hc with hc; subst hc
          obtain ⟨o, ho, hx⟩ := Option.bind_eq_some_iff.1 h1
          obtain ⟨ty, pos, after, tys, rfl⟩ := deferOf_spec hx
          have hlist : ops.toList = ops.toList.dropLast ++ [⟨none, .defer ⟨.value x, #[], tys⟩, ty, pos, after, none⟩] := by
            have hne : ops.toList ≠ [] := by intro e; rw [e] at ho; cases ho
            rw [List.getLast?_eq_some_getLast hne] at ho
            injection ho with ho
            rw [← ho, List.dropLast_concat_getLast hne]
          have fin : ∀ (g : FuncId) (cap : Array Value) (S : Fr) (a' : Act) (w' : World) (u : FrameMode), u ≠ .run → okF P g = true → Fits [{ target := .fn (.func g) cap, args := #[] }] a' S fn.ntmps → LeaveD P g cap u w' (fun w' => resVC r S w' fun vs => R (tup vs) w') →
              Leaves P fn a'.tmps (fun e w' => ∃ v, e = .returned v ∧ R v w') a'.defers u w' := by
            intro g cap S a' w' u hu hok hf hl
            rw [hf.1]
            refine leaves_cons hu (f := g) (args := cap) (by simp [invoke, run_callFunc hok]) (CallsD.mono hl ?_)
            rintro e u' w'' ⟨⟨v, rfl⟩, hs, hr⟩
            simp only [hs]
            obtain ⟨vs, h6, h7⟩ := sound_res hf _ _ _ h5 hr
            exact ⟨_, results_run h6, _, rfl, h7⟩
          refine calls_of_wp_defers hfn hb ((wpIn_wide (n := 0)).1 ?_)
          refine wpIn_seq (wpIn_mono (sound (ds := []) (r := none) (m := 0) hm a la h2 _ _ (fr0 args 0) w (fits0 ha) h) fun e a' w' hq => ?_)
          cases e with
          | normal =>
            obtain ⟨S, hf, hq⟩ := hq
            refine wpIn_seq (wpIn_region_list ?_)
            rw [hlist]
            refine sound_stepsT (r := none) (tl := [_]) ?_ ?_ _ ss a' S w' h3 hf hq
            · rintro a2 S2 w2 hf2 ⟨g, cap, he, hok, hv⟩
              have hw : Region.wanted (⟨none, .defer ⟨.value x, #[], tys⟩, ty, pos, after, none⟩ : Oper) (yielded ops a2.tmps) = true := rfl
              simp only [wpListIn, hw, if_true]
              have hrun : ∀ ρ : Operand → Value, ρ x = .func (.func g) #[] cap → ((⟨none, .defer ⟨.value x, #[], tys⟩, ty, pos, after, none⟩ : Oper).semAt none ρ).run P w2 = .ok (.defer { target := .fn (.func g) cap, args := #[] }) w2 := by
                intro ρ hρ
                simp [Oper.semAt, execOp, resolve, Deferred.ofValue, hρ, go_sem]
              refine ⟨fun _ _ => trivial, ?_⟩
              rw [show (FR none).round = none from rfl, hrun a2.eval (by rw [hf2.eval]; exact he)]
              have hf3 : Fits [{ target := .fn (.func g) cap, args := #[] }] ({ a2 with defers := { target := .fn (.func g) cap, args := #[] } :: a2.defers } : Act) S2 fn.ntmps := ⟨by rw [hf2.1], hf2.2⟩
              refine wpIn_mono (sound (ds := [{ target := .fn (.func g) cap, args := #[] }]) (r := none) (m := 0) hm c' lc h4 _ _ S2 w2 hf3 hv) fun e a4 w4 hq => ?_
              cases e with
              | normal => obtain ⟨S4, hf4, hq⟩ := hq; exact fin g cap S4 a4 w4 .returning (by simp) hok hf4 hq
              | ret => obtain ⟨S4, hf4, hq⟩ := hq; exact fin g cap S4 a4 w4 .returning (by simp) hok hf4 hq
              | exit i => obtain ⟨S4, hf4, hq⟩ := hq; exact hq.elim
              | panic ch => obtain ⟨S4, hf4, hq⟩ := hq; exact fin g cap S4 a4 w4 (.panicking ch) (by simp) hok hf4 hq
              | _ => exact hq.elim
            · rintro ⟨_, _, hx⟩
              obtain ⟨_, h1, _⟩ := hx
              cases h1
          | ret => obtain ⟨S, hf, hq⟩ := hq; exact hq.elim
          | exit i => obtain ⟨S, hf, hq⟩ := hq; exact hq.elim
          | panic ch => obtain ⟨S, hf, hq⟩ := hq; exact hq.elim
          | _ => exact hq.elim
        · cases hc
      · cases hc
    · cases hc
  · cases hc
/-! ### A deferred function that recovers -/
structure PFn where
  n : Nat
  res : List LRes
  d : Nat
  e : Nat
  rest : LC
def recOf (o : Oper) : Option Nat :=
  match o.guard, o.op, o.dst with
  | none, .call ⟨.builtin .recover, args, _⟩, some d => match args.toList with | [] => some d | _ => none
  | _, _, _ => none
def asgOf (o : Oper) : Option (Nat × Nat) :=
  match o.guard, o.op, o.dst with
  | none, .assign (.tmp d), some e => some (d, e)
  | _, _, _ => none
def compP' (P : Program) (fn : Func) : Code → Option PFn
  | .seq (.region _ ops false) c =>
    match ops.toList with
    | [o1, o2] => match recOf o1, asgOf o2, comp P fn.ntmps c, compResL P fn.results.toList with
      | some d, some (d', e), some lc, some r => if d = d' ∧ d < fn.ntmps ∧ e < fn.ntmps then some ⟨fn.ntmps, r, d, e, lc⟩ else none
      | _, _, _, _ => none
    | _ => none
  | _ => none
def compFP (P : Program) (f : FuncId) : Option PFn :=
  match P.funcs[f]? with
  | some fn => match fn.body with | some c => compP' P fn c | none => none
  | none => none
/-- What recover gives, and what becomes of the frame below. -/
def recV : FrameMode → Value × FrameMode
  | .panicking ({ v, recovered := false, goexit := false } :: older) => (v, .panicking ({ v, recovered := true } :: older))
  | u => (.nilIface, u)
theorem recoverD_eq (c : Frame) (cs : List Frame) : (match recoverD (c :: cs) with | some (v, cs') => (v, cs') | none => (.nilIface, c :: cs)) = ((recV c.mode).1, { c with mode := (recV c.mode).2 } :: cs) := by
  obtain ⟨fn, tmps, todo, defers, mode, kind, ro⟩ := c
  unfold recoverD recV
  cases mode with
  | run => rfl
  | returning => rfl
  | panicking l =>
    cases l with
    | nil => rfl
    | cons p r =>
      obtain ⟨v, rc, ge⟩ := p
      cases rc <;> cases ge <;> rfl
theorem recOf_spec {o : Oper} {d : Nat} (h : recOf o = some d) : ∃ tys ty pos after, o = ⟨some d, .call ⟨.builtin .recover, #[], tys⟩, ty, pos, after, none⟩ := by
  obtain ⟨dst, op, ty, pos, after, guard⟩ := o
  unfold recOf at h
  split at h
  · rename_i h1 h2 h3
    simp only at h1 h2 h3
    split at h
    · rename_i h4
      injection h with h
      have h5 := Array.toList_eq_nil_iff.1 h4
      subst h1 h2 h3 h h5
      exact ⟨_, _, _, _, rfl⟩
    · cases h
  · cases h
theorem asgOf_spec {o : Oper} {d e : Nat} (h : asgOf o = some (d, e)) : ∃ ty pos after, o = ⟨some e, .assign (.tmp d), ty, pos, after, none⟩ := by
  obtain ⟨dst, op, ty, pos, after, guard⟩ := o
  unfold asgOf at h
  split at h
  · rename_i h1 h2 h3
    simp only at h1 h2 h3
    injection h with h
    injection h with h5 h6
    subst h1 h2 h3 h5 h6
    exact ⟨_, _, _, rfl⟩
  · cases h
theorem enterP {P : Program} {f : FuncId} {L : PFn} (hm : P.follows .mixedOrders = true) (hc : compFP P f = some L) {args : List Value} {u : FrameMode} {w : World} {R : Value → World → Prop} (ha : args.length ≤ L.n)
    (h : vc P L.rest (endQ L.res R) (upd (upd (fr0 args 0) L.d (recV u).1) L.e (recV u).1) w) : CallsD P f args.toArray u w fun e u' w' => u' = (recV u).2 ∧ ∃ v, e = .returned v ∧ R v w' := by
  unfold compFP at hc
  split at hc
  · rename_i fn hfn
    split at hc
    · rename_i c hb
      unfold compP' at hc
      split at hc
      · rename_i id ops c'
        split at hc
        · rename_i o1 o2 hops
          split at hc
          · rename_i d d' e lc r h1 h2 h3 h4
            split at hc
            · rename_i hde
              obtain ⟨hdd, hd, he⟩ := hde
              subst hdd
              injection hc with hc; subst hc
              obtain ⟨tys, ty1, pos1, after1, rfl⟩ := recOf_spec h1
              obtain ⟨ty2, pos2, after2, rfl⟩ := asgOf_spec h2
              refine callsD_of_wpS hfn hb fun c₀ cs hu => ?_
              refine wpS_seq (wpS_region ?_)
              have hsz : ops.size = 2 := by rw [← Array.length_toList, hops]; rfl
              have hg0 : ops[0]? = ops.toList[0]? := by simp
              have hg1 : ops[1]? = ops.toList[1]? := by simp
              rw [hops] at hg0 hg1
              simp only [List.getElem?_cons_zero, List.getElem?_cons_succ] at hg0 hg1
              have hr : List.range ops.size = [0, 1] := by rw [hsz]; rfl
              rw [hr]
              have hrec : ∀ (ρ : Operand → Value), (execOp ρ ⟨some d, .call ⟨.builtin .recover, #[], tys⟩, ty1, pos1, after1, none⟩).run P w = .ok .recover w := by
                intro ρ; simp [execOp, resolve, invoke, builtin, go_sem]
              have hw0 : ∀ (dst : Option Nat) (op : Op) (ty : TypeId) (pos : String) (after : Array Edge) (y : Nat → Option Bool), Region.wanted (⟨dst, op, ty, pos, after, none⟩ : Oper) y = true := fun _ _ _ _ _ _ => rfl
              have hf0 := fits0 (n := fn.ntmps) ha
              have key : ∀ (v : Value) (cs' : List Frame), vc P lc (endQ r R) (upd (upd (fr0 args 0) d v) e v) w → (cs' = { c₀ with mode := (recV u).2 } :: cs) →
                  wpOpsS P ops (Exit.thenS (c'.wpS P (bodyPostS P fn c₀ cs fun e u' w' => u' = (recV u).2 ∧ ∃ v, e = .returned v ∧ R v w')) (bodyPostS P fn c₀ cs fun e u' w' => u' = (recV u).2 ∧ ∃ v, e = .returned v ∧ R v w')) [1]
                    (({ tmps := args.toArray ++ Array.replicate (fn.ntmps - args.toArray.size) undef, defers := [] } : Act).put (some d) v) cs' w := by
                intro v cs' hv hcs
                have hf1 := hf0.put (d := some d) (by simpa [dstOk] using hd) v
                have hx : (execOp (({ tmps := args.toArray ++ Array.replicate (fn.ntmps - args.toArray.size) undef, defers := [] } : Act).put (some d) v).eval ⟨some e, .assign (.tmp d), ty2, pos2, after2, none⟩).run P w = .ok (.value v) w := by
                  rw [hf1.eval]
                  simp [execOp, ev, Lite.put, upd]
                simp only [wpOpsS, hg1, hw0, if_true, hx]
                rw [Oper.upon_value]
                have hf2 := hf1.put (d := some e) (by simpa [dstOk] using he) v
                refine wpS_of_wp ((wpIn_wide (n := 0)).1 (wpIn_mono (sound (ds := []) (r := none) (m := 0) hm c' lc h3 _ _ _ w hf2 hv) fun x a4 w4 hq => ?_))
                cases x with
                | normal =>
                  obtain ⟨S4, hf4, hq⟩ := hq
                  obtain ⟨vs, h6, h7⟩ := sound_res hf4 _ _ _ h4 hq
                  exact ⟨hf4.1, _, hcs, _, results_run h6, rfl, _, rfl, h7⟩
                | ret =>
                  obtain ⟨S4, hf4, hq⟩ := hq
                  obtain ⟨vs, h6, h7⟩ := sound_res hf4 _ _ _ h4 hq
                  exact ⟨hf4.1, _, hcs, _, results_run h6, rfl, _, rfl, h7⟩
                | exit i => obtain ⟨S4, hf4, hq⟩ := hq; exact hq.elim
                | panic ch => obtain ⟨S4, hf4, hq⟩ := hq; exact hq.elim
                | _ => exact hq.elim
              have hrd := recoverD_eq c₀ cs
              rw [hu] at hrd
              unfold wpOpsS
              simp only [hg0, hw0, if_true, hrec]
              cases hrc : recoverD (c₀ :: cs) with
              | none =>
                rw [hrc] at hrd
                injection hrd with e1 e2
                exact key .nilIface (c₀ :: cs) (by rw [e1]; exact h) e2
              | some vc' =>
                obtain ⟨v, cs'⟩ := vc'
                rw [hrc] at hrd
                injection hrd with e1 e2
                exact key v cs' (by rw [e1]; exact h) e2
            · cases hc
          · cases hc
        · cases hc
      · cases hc
    · cases hc
  · cases hc
end Lite
namespace Lite
open Go Go.RowKit
def DeferVC (P : Program) (v : Value) (K : FuncId → Array Value → Prop) : Prop := ∃ f cap, v = .func (.func f) #[] cap ∧ okF P f = true ∧ K f cap
section
variable {P : Program} {S : Fr} {w : World} {res : List LRes} {R : Value → World → Prop}
theorem K.startD {f : FuncId} {L : DFn} (hm : P.follows .mixedOrders = true) (hc : compFD P f = some L) {args : List Value} (ha : args.length ≤ L.n)
    (h : vch P L.pre (thenQh (fun S w => stepsh P L.ss S w (fun S w => DeferVC P (ev S L.fn) fun g cap => vch P L.rest (endQD P L.res g cap R) S w ⟨⟩) ⟨⟩) (fun _ _ _ => False) ⟨⟩) (fr0 args 0) w ⟨⟩) : Ret P f args.toArray w R := by
  refine enterD hm hc ha ?_
  unfold vch thenQh stepsh DeferVC at h
  exact h
theorem K.defer {g : FuncId} {cap : Array Value} {K : FuncId → Array Value → Prop} (hok : okF P g = true) (h : K g cap) : DeferVC P (.func (.func g) #[] cap) K := ⟨g, cap, rfl, hok, h⟩
theorem K.dret {g : FuncId} {cap : Array Value} (h : LeaveD P g cap .returning w fun w' => resVCh res S w' (fun vs => R (tup vs) w') ⟨⟩) : endQD P res g cap R .ret S w := by
  unfold resVCh at h; exact h
theorem K.dpan {g : FuncId} {cap : Array Value} {c : List PanicEntry} (h : LeaveD P g cap (.panicking c) w fun w' => resVCh res S w' (fun vs => R (tup vs) w') ⟨⟩) : endQD P res g cap R (.pan c) S w := by
  unfold resVCh at h; exact h
theorem LeaveD.of {g : FuncId} {cap : Array Value} {u u2 : FrameMode} {R1 R2 : World → Prop} (h : CallsD P g cap u w fun e u' w' => u' = u2 ∧ ∃ v, e = .returned v ∧ R1 w') (hs : settle u2 = .returning) (hk : ∀ w', R1 w' → R2 w') : LeaveD P g cap u w R2 :=
  CallsD.mono h fun e u' w' ⟨h1, v, h2, h3⟩ => ⟨⟨v, h2⟩, by rw [h1]; exact hs, hk _ h3⟩
theorem K.startP {f : FuncId} {L : PFn} (hm : P.follows .mixedOrders = true) (hc : compFP P f = some L) {args : List Value} {u : FrameMode} (ha : args.length ≤ L.n)
    (h : vch P L.rest (endQh L.res R ⟨⟩) (upd (upd (fr0 args 0) L.d (recV u).1) L.e (recV u).1) w ⟨⟩) : CallsD P f args.toArray u w fun e u' w' => u' = (recV u).2 ∧ ∃ v, e = .returned v ∧ R v w' := by
  refine enterP hm hc ha ?_
  unfold vch endQh at h
  exact h
theorem run_eqi (d : Nat) {t : TypeId} {ms : Array (String × TypeId)} (h : P.underlying t = some (.interface ms)) (w : World) : (Op.equalIn (d + 1) t .nilIface .nilIface).run P w = .ok true w ∧ ∀ T v, (Op.equalIn (d + 1) t (.iface T v) .nilIface).run P w = .ok false w := by
  constructor
  · simp [Op.equalIn, run_underlying h]
  · intro T v
    simp [Op.equalIn, run_underlying h]
theorem ifOf {t : TypeId} (h : (P.underlying t).map isIfD = some true) : ∃ ms, P.underlying t = some (.interface ms) := by
  obtain ⟨d, hd, hi⟩ := Option.map_eq_some_iff.1 h
  cases d <;> first | exact ⟨_, hd⟩ | (simp [isIfD] at hi; done)
theorem K.neNil0 {t' : TypeId} {x : Operand} {v : Value} {K3 : Value → Prop} {t} (h : (P.underlying t').map isIfD = some true) (hk : K3 (.bool false)) : BinVCh P .neq t' x (.const v) .nilIface .nilIface K3 t :=
  K.bin (v := .bool false) (fun w => by
    obtain ⟨ms, h⟩ := ifOf h
    have h1 := (run_eqi 9999 h w).1
    have h2 : (Op.equalIn Op.maxDepth t' .nilIface .nilIface).run P w = .ok true w := h1
    cases x <;> simp [eqGuard, binOp, Op.equal, go_sem, h2, Result.andThen]) hk
theorem K.neNil1 {t' T : TypeId} {x y : Operand} {v : Value} {K3 : Value → Prop} {t} (h : (P.underlying t').map isIfD = some true) (hk : K3 (.bool true)) : BinVCh P .neq t' x y (.iface T v) .nilIface K3 t :=
  K.bin (v := .bool true) (fun w => by
    obtain ⟨ms, h⟩ := ifOf h
    have h2 : (Op.equalIn Op.maxDepth t' (.iface T v) .nilIface).run P w = .ok false w := (run_eqi 9999 h w).2 T v
    simp [eqGuard, binOp, Op.equal, go_sem, h2, Result.andThen]) hk
theorem K.asrt {x : Operand} {xt T ty : TypeId} {v : Value} {KK : Value → World → Prop} {t} (hx : ev S x = .iface T v) (h : (P.underlying T).map isIfD = some false) (hk : KK (.tuple #[v, .bool true]) w) : RawVCh P (.typeAssert x xt T true) ty S w KK t := by
  refine K.raw (v := .tuple #[v, .bool true]) (w' := w) ?_ hk
  obtain ⟨d, hd, hi⟩ := Option.map_eq_some_iff.1 h
  have h1 : (Instr.typeAssert (.iface T v) xt T true).run P w = .ok (.tuple #[v, .bool true]) w := by
    cases d <;> first | (simp [isIfD] at hi; done) | (simp [Instr.typeAssert, run_underlying hd])
  simp [execOp, hx, h1, Result.andThen]
end
end Lite
end
section
/- The light code of functions that defer, and of deferred ones that recover. -/
set_option maxRecDepth 100000
namespace Go.Proofs.YtnkkichedhhhgaaGreatDoor
open Go Lite Go.Proofs
abbrev F.model_Check_1 : FuncId := 27
def DD.model_Check : DFn := ⟨16, [.cellA 4 2],
 (.reg [ye 1 (.box T.api_Model (yt 0)), ye 2 (.new T.api_Fault (.agg #[yo, yo, yo, yo]))]),
 [yp 4 (.mkF F.model_Check_1 [] [(yt 2)])], (yt 4),
 (yR [ye 5 .mkM, ym 3 5]
 (.seq (.thr [yr 6 (.ldA 5 (yt 1)), ym 7 3] (some 8) F.model_globals [(yt 6), (yt 7)])
 (.seq (.thr [yr 9 (.ldA 5 (yt 1)), ym 10 3] (some 11) F.model_processes [(yt 9), (yt 10)])
 (.seq (.thr [yr 12 (.ldA 5 (yt 1)), ym 13 3] (some 14) F.model_propositions [(yt 12), (yt 13)])
 (yR [yp 15 (.bld [yo, yo, yo, yo] [(0, 1), (1, 1), (2, 1), (3, 1)] []), yv (.stA 4 (yt 2) (yt 15))]
 .ret)))))⟩
theorem ED.model_Check : compFD Tryz.prog F.model_Check = some DD.model_Check := by kernel_rfl
def DP.model_Check_1 : PFn := ⟨17, [], 4, 1,
 (yR [ym 5 1, yp 6 (.bin .neq T.interface (yt 5) (.const .nilIface))]
 (.cond (yt 6) (yR [ym 8 1, ye 9 (.raw (.typeAssert (yt 8) T.interface T.model_thrown true) T.model_thrown_bool), ym 7 9, yp 10 (.ext (yt 7) 0), yp 11 (.ext (yt 7) 1), ye 2 (.new T.model_thrown (.agg #[yo, yo, yo, yo])), yv (.stA 4 (yt 2) (yt 10)), ym 3 11]
 (.seq (yR [ym 12 3, yp 13 (.un .not (yt 12))]
 (.cond (yt 13) (.pnc [ym 14 1] (yt 14))
 .skip))
 (.reg [ya 15 0 2, yr 16 (.ldA 4 (yt 15)), yv (.stA 4 (yt 0) (yt 16))])))
 .skip))⟩
theorem EP.model_Check_1 : compFP Tryz.prog F.model_Check_1 = some DP.model_Check_1 := by kernel_rfl
end Go.Proofs.YtnkkichedhhhgaaGreatDoor
end
section
/- Whole models: what is wrong first. -/
set_option maxRecDepth 8000
set_option maxHeartbeats 16000000
namespace Abs
theorem props_fine {m : Model} (h : (propsF m).why = 0) : propsF m = fine := props_0 (props_ok h)
end Abs
namespace Go.Proofs.YtnkkichedhhhgaaGreatDoor
open Go Go.RowKit Lite
theorem check1_idle (b : Nat) (w : World) : CallsD Tryz.prog F.model_Check_1 #[.pointer (some ⟨b, 0, none⟩)] .returning w fun e u' w' => u' = .returning ∧ ∃ v, e = .returned v ∧ w' = w := by
  refine K.startP hmix EP.model_Check_1 (args := [_]) (Nat.le_of_ble_eq_true rfl) ?_; dsimp only [DP.model_Check_1]; refine Yy ?_
  dsimp only [recV]
  refine Sg ?_
  refine K.neNil0 (by kernel_rfl) ?_
  (repeat' first
 | assumption
 | exact Ext.refl _
 | refine Ext.trans ?_ (by assumption)
 | refine K.wrap (by omega) ?_
 | refine K.ldb (by assumption) ?_ rfl ?_
 | refine K.ldb0 (by assumption) ?_ rfl ?_
 | refine K.ldE (by assumption) ?_ (by omega) rfl ?_
 | refine K.ldE0 (by assumption) ?_ (by omega) rfl ?_
 | refine K.ldAE (by assumption) ?_ (by omega) rfl ?_
 | refine K.iaC (by omega) ?_
 | refine K.condT (by first | assumption | omega) ?_
 | refine K.condF (by first | assumption | omega) ?_
 | refine K.condbT (by assumption) ?_
 | refine K.condbF (by assumption) ?_
 | simp -dsimp only [LL,B9,Nat.reduceAdd,Nat.reduceEqDiff,reduceIte,reduceCtorEq,Bool.false_eq_true])
theorem check1_caught (f : Abs.Fault) (b : Nat) (w : World) (hb : w.heap[b]? = some (.cells #[.int .i64 0, .int .i64 0, .int .i64 0, .int .i64 0] T.api_Fault)) :
    CallsD Tryz.prog F.model_Check_1 #[.pointer (some ⟨b, 0, none⟩)] (.panicking (thrown f)) w fun e u' w' => u' = (recV (.panicking (thrown f))).2 ∧ ∃ v, e = .returned v ∧
      (w'.heap[b]? = some (.cells #[.int .i64 f.why, .int .i64 f.part, .int .i64 f.item, .int .i64 f.sub] T.api_Fault) ∧ ∀ w0, Ext w0 w → w0.heap.size ≤ b → Ext w0 w') := by
  refine K.startP hmix EP.model_Check_1 (args := [_]) (Nat.le_of_ble_eq_true rfl) ?_; dsimp only [DP.model_Check_1]; refine Yy ?_
  dsimp only [recV, thrown]
  refine Sg ?_
  refine K.neNil1 (by kernel_rfl) ?_
  refine Sg ?_
  refine K.asrt rfl (by kernel_rfl) ?_
  refine Sg ?_
  intro w1 b1 hb1 he1 hc1
  have zb := lt_of_heap hb
  replace hb := he1.obj hb
  refine Sg ?_
  intro w2 hw2 hc2
  refine Sg ?_
  exact ⟨hc2, fun w0 e hl => hw2.ext (e.trans he1) hl⟩
theorem mcheck_r (cs : List Value) (m : Abs.Model) (w : World) (h : Abs.ModelIs w cs m) (hg : m.good) (ho : OwnIs w) :
    Ret Tryz.prog F.model_Check #[.agg cs.toArray] w fun v w' => v = .agg #[.int .i64 (Abs.check m).why, .int .i64 (Abs.check m).part, .int .i64 (Abs.check m).item, .int .i64 (Abs.check m).sub] ∧ Ext w w' := by
  obtain ⟨o0, c0, o1, c1, o2, c2, o3, c3, o4, c4, rfl, _⟩ := h.form
  refine K.startD hmix ED.model_Check (args := [_]) (Nat.le_of_ble_eq_true rfl) ?_; dsimp only [DD.model_Check]; refine Yy ?_
  refine Sg ?_
  intro w1 b1 hb1 he1 hc1
  refine Sg ?_
  intro w2 b2 hb2 he2 hc2
  replace hc1 := he2.obj hc1
  have z1 := lt_of_heap hc1
  have z5 := lt_of_heap hc2
  refine Sg ?_
  refine K.defer (by kernel_rfl) ?_
  refine Sg ?_
  refine K.newM fun w3 bt hbt he3 hm3 => ?_
  replace hc1 := he3.obj hc1
  replace hc2 := he3.obj hc2
  have z2 := lt_of_heap hc2
  have z3 := he2.size
  have z4 := he1.size
  have e3 := (he1.trans he2).trans he3
  have caught : ∀ (f : Abs.Fault) (w' : World) (S : Fr), Ext w w' → w'.heap[b2]? = some (.cells #[.int .i64 0, .int .i64 0, .int .i64 0, .int .i64 0] T.api_Fault) → S 2 = .pointer (some ⟨b2, 0, none⟩) → f = Abs.check m →
      endQD Tryz.prog [.cellA 4 2] F.model_Check_1 #[.pointer (some ⟨b2, 0, none⟩)] (fun v w' => v = .agg #[.int .i64 (Abs.check m).why, .int .i64 (Abs.check m).part, .int .i64 (Abs.check m).item, .int .i64 (Abs.check m).sub] ∧ Ext w w') (.pan (thrown f)) S w' := by
    rintro f w' S e hc hS rfl
    refine K.dpan (LeaveD.of (check1_caught (Abs.check m) b2 w' hc) rfl ?_)
    rintro w4 ⟨hb, he⟩
    simp -dsimp only [LL,B9,Nat.reduceAdd,Nat.reduceEqDiff,reduceIte,reduceCtorEq,Bool.false_eq_true,hS]
    refine K.ldAb hb (Ext.refl _) rfl ?_
    simp -dsimp only [LL,B9,Nat.reduceAdd,Nat.reduceEqDiff,reduceIte,reduceCtorEq,Bool.false_eq_true]
    exact ⟨by first | trivial | rfl, he _ e (by omega)⟩
  refine Sg ?_
  refine K.thr (globals_r _ m bt w3 h e3 (by omega) ho (SetAt.empty hm3)) ?_ ?_
  rotate_left
  · rintro c w4 ⟨h1, rfl, e4, m4⟩
    refine Sg ?_
    exact caught _ w4 _ e4 (m4.obj (by omega) hc2) rfl (by rw [Abs.check, if_pos h1])
  rintro _ w4 ⟨h1, e4, m4, s4⟩
  replace hc1 := m4.obj (by omega) hc1
  replace hc2 := m4.obj (by omega) hc2
  refine Sg ?_
  refine K.thr (processes_r _ m bt w4 h hg e4 (by omega) ho h1 s4) ?_ ?_
  rotate_left
  · rintro c w5 ⟨h2, rfl, e5, m5⟩
    refine Sg ?_
    exact caught _ w5 _ e5 (m5.obj (by omega) hc2) rfl (by rw [Abs.check, if_neg (by simpa using h1), if_pos h2])
  rintro _ w5 ⟨h2, e5, m5, s5⟩
  replace hc1 := m5.obj (by omega) hc1
  replace hc2 := m5.obj (by omega) hc2
  refine Sg ?_
  refine K.thr (propositions_r _ m bt w5 h hg e5 (by omega) ho s5) ?_ ?_
  rotate_left
  · rintro c w6 ⟨h3, rfl, e6, m6⟩
    refine Sg ?_
    exact caught _ w6 _ e6 (m6.obj (by omega) hc2) rfl (by rw [Abs.check, if_neg (by simpa using h1), if_neg (by simpa using h2)])
  rintro _ w6 ⟨h3, e6, m6⟩
  replace hc1 := m6.obj (by omega) hc1
  replace hc2 := m6.obj (by omega) hc2
  have hck : Abs.check m = Abs.fine := by rw [Abs.check, if_neg (by simpa using h1), if_neg (by simpa using h2), Abs.props_fine h3]
  refine Sg ?_
  intro w7 hw7 hc7
  refine Sg ?_
  refine K.dret (LeaveD.of (check1_idle b2 w7) rfl ?_)
  rintro _ rfl
  refine Sg ?_
  exact ⟨by rw [hck]; rfl, hw7.ext e6 (by omega)⟩
end Go.Proofs.YtnkkichedhhhgaaGreatDoor
end
section
/- Processes: what the laws ask: heavy models. -/
set_option maxRecDepth 4000
set_option maxHeartbeats 3200000
namespace Abs
/-- A model that may be gone through. -/
structure HeavyOk (m : Model) : Prop where
  s : m.scalars.length ≤ 10
  v : m.vars.length ≤ 30
  c : m.chans.length ≤ 20
  p : m.procs.length ≤ 20
  q : m.props.length ≤ 20
  i : ∀ p ∈ m.procs, p.vars.length ≤ 20 ∧ p.cmds.length ≤ 30 ∧ ∀ c ∈ p.cmds, c.acts.length ≤ 20 ∧ c.guard.length ≤ 60
end Abs
namespace Go.Proofs.YtnkkichedhhhgaaGreatDoor
open Go Go.RowKit Lite
end Go.Proofs.YtnkkichedhhhgaaGreatDoor
end
section
/- Lite: functions with a range over a function in them. -/
set_option maxRecDepth 4000
namespace Lite
open Go Go.RowKit
/-- Code with one range over a function in it. -/
inductive RC where
  | rng (g : Operand) (p : Nat) (a b : LC)
  | seqL (x : RC) (y : LC)
  | seqR (x : LC) (y : RC)
  | blk (id : Nat) (x : RC)
def compRC (P : Program) (n : Nat) : Code → Option RC
  | .rangeFunc g ps a b => match ps.toList, comp P n a, comp P n b with
    | [p], some la, some lb => if p < n then some (.rng g p la lb) else none
    | _, _, _ => none
  | .seq x y => match comp P n x with
    | some lx => (compRC P n y).map (.seqR lx)
    | none => match compRC P n x, comp P n y with
      | some rx, some ly => some (.seqL rx ly)
      | _, _ => none
  | .block id x => (compRC P n x).map (.blk id)
  | _ => none
structure RFn where
  n : Nat
  res : List LRes
  code : RC
def compRF (P : Program) (f : FuncId) : Option RFn :=
  match P.funcs[f]? with
  | some fn => match fn.body with
    | some c => match compRC P fn.ntmps c, compResL P fn.results.toList with
      | some lc, some r => some ⟨fn.ntmps, r, lc⟩
      | _, _ => none
    | none => none
  | none => none
/-- What each round keeps. -/
structure KpOk (Kp : World → World → Prop) (B : Nat) : Prop where
  trans : ∀ {a b c : World}, Kp a b → Kp b c → Kp a c
  put : ∀ (W : World) (l : Nat) (o o' : Obj), B ≤ l → W.heap[l]? = some o → o.isCells = false → Kp W (W.putObj l o')
/-- What stood below is as it was, and all cells of these types. -/
def KT (n0 : Nat) (ts : List TypeId) (W W' : World) : Prop := Below n0 W W' ∧ ∀ (k : Nat) (c : Array Value) (t : TypeId) (f : Nat × Nat), W.heap[k]? = some (.cells c t f) → t ∈ ts → W'.heap[k]? = W.heap[k]?
theorem KT.ok {n0 B : Nat} (ts : List TypeId) (h : n0 ≤ B) : KpOk (KT n0 ts) B where
  trans h k := ⟨h.1.trans k.1, fun i c t f hi ht => by rw [← h.2 i c t f hi ht]; exact k.2 i c t f ((h.2 i c t f hi ht).trans hi) ht⟩
  put W l o o' hl ho hc := ⟨(Below.refl n0 W).grown (grownBy_putObj' W l o') (by have := (Array.getElem?_eq_some_iff.1 ho).1; omega) (fun k e => by cases e; omega), fun k c t f hk _ => by
    have hne : l ≠ k := fun e => by subst e; rw [ho] at hk; injection hk with hk; subst hk; cases hc
    exact World.putObj_heap_other (Ne.symm hne)⟩
theorem Ext.kt {n0 : Nat} {ts : List TypeId} {W W' : World} (h : Ext W W') (hn : n0 ≤ W.heap.size) : KT n0 ts W W' := ⟨Below.mono h hn, fun k c t f hk _ => h.heap (lt_of_heap hk)⟩
/-- How a round may be left. -/
def rngPost {α : Type} (Kp : World → World → Prop) (B : Nat) (I : List α → World → Prop) (Ix : LX → List α → World → Prop) (xs : List α) (W : World) : LX → Fr → World → Prop
  | .normal, _, W' => KeepsFrom B W W' ∧ Kp W W' ∧ I xs W'
  | .pan _, _, _ => False
  | e, _, W' => KeepsFrom B W W' ∧ Ix e xs W'
/-- The loop's own record is written. -/
def RecPut (B : Nat) (W W' : World) : Prop := ∃ l, B ≤ l ∧ (∃ o, W.heap[l]? = some o ∧ o.isCells = false) ∧ W.grownBy W' (some l)
def RngVC (P : Program) (g : Value) (p : Nat) (a b : LC) (Q : Nat → LX → Fr → World → Prop) (S : Fr) (w : World) : Prop :=
  ∃ (α : Type) (enc : α → Value) (gf : Nat) (lb : Array Value) (Kp : World → World → Prop) (Sx Sp : List α → Prop) (N : Nat) (w0 : World), g = .func (.func gf) #[] lb ∧ okF P gf = true ∧ SeqStopsK Fence.wide 0 P gf lb (fun x => #[enc x]) Kp Sx Sp N w0 ∧ Ext w0 w ∧ KpOk Kp w.heap.size ∧
  ∃ (I : List α → World → Prop) (Ix : LX → List α → World → Prop), OwnFrom w.heap.size I ∧ (∀ e, OwnFrom w.heap.size (Ix e)) ∧ I [] w ∧
    (∀ pre x W, I pre W → pre.length < N → vc P a (thenQ (fun S1 W1 => KeepsFrom w.heap.size W W1 ∧ Kp W W1 ∧ ∀ W2, RecPut w.heap.size W1 W2 → vc P b (rngPost Kp w.heap.size I Ix (pre ++ [x]) W2) S1 W2) (fun _ _ _ => False)) (upd S p (enc x)) W) ∧
    (∀ D xs W, w.heap.size ≤ D → Sx xs → I xs W → W.heap[D]? = some (.deferred (some [])) → Q D .normal S W) ∧
    (∀ D e pre W, e ≠ .normal → w.heap.size ≤ D → Sp pre → Ix e pre W → W.heap[D]? = some (.deferred (some [])) → Q D e S W)
/-- The statement, where what a round begins with may lay new blocks. -/
theorem rng_law {α : Type} {enc : α → Value} {P : Program} {g : Operand} {p : Nat} {asc body : Code} {Q : Exit → Act → World → Prop} {a : Act} {w w0 : World} {gf : Nat} {lb : Array Value} {Kp : World → World → Prop} {N : Nat} {Sx Sp : List α → Prop}
    (hg : a.eval g = .func (.func gf) #[] lb) (hok : okF P gf = true) (hseq : SeqStopsK Fence.wide 0 P gf lb (fun x => #[enc x]) Kp Sx Sp N w0) (he : Ext w0 w) (hKp : KpOk Kp w.heap.size)
    (I : List α → World → Prop) (Ix : Code → List α → World → Prop) (hI : OwnFrom w.heap.size I) (hIx : ∀ c, OwnFrom w.heap.size (Ix c)) (h0 : I [] w)
    (hround : ∀ l pre x W, I pre W → pre.length < N → asc.wpIn (FR (some l)) 1 P (Exit.then (fun a1 W1 => KeepsFrom w.heap.size W W1 ∧ Kp W W1 ∧
      ∀ W2, RecPut w.heap.size W1 W2 → body.wpIn (FR (some l)) 1 P (ownPostG w.heap.size Kp I Ix (pre ++ [x]) W2) a1 W2) (fun _ _ _ => False)) { tmps := a.tmps.setIfInBounds p (enc x), defers := [] } W)
    (hdone : ∀ D xs W, w.heap.size ≤ D → Sx xs → I xs W → W.heap[D]? = some (.deferred (some [])) → Q .normal { a with defers := { target := .collected D, args := #[] } :: a.defers } W)
    (hstop : ∀ D c pre W, w.heap.size ≤ D → Sp pre → Ix c pre W → W.heap[D]? = some (.deferred (some [])) → c.wpIn Fence.wide 3 P Q { a with defers := { target := .collected D, args := #[] } :: a.defers } W) :
    (Code.rangeFunc g #[p] asc body).wpIn Fence.wide 3 P Q a w := by
  refine wpIn_rangeFunc fun fn hfn => ?_
  obtain ⟨lp, hlp⟩ : ∃ lp : LoopState → Option Code → Loop, lp = fun st pe => { state := st, pending := pe, fn, tmps := a.tmps, params := #[p], assign := asc, body, defers := w.heap.size } := ⟨_, rfl⟩
  obtain ⟨w1, hw1⟩ : ∃ w1, (w.alloc (.deferred (some []))).alloc (.loop (lp .ready none)) = w1 := ⟨_, rfl⟩
  have hz1 : w1.heap.size = w.heap.size + 2 := by rw [← hw1]; simp
  have hr1 : w1.heap[w.heap.size + 1]? = some (.loop (lp .ready none)) := by
    rw [← hw1]
    have := World.alloc_heap_new (w.alloc (.deferred (some []))) (.loop (lp .ready none))
    rwa [World.size_alloc] at this
  have hd1 : w1.heap[w.heap.size]? = some (.deferred (some [])) := by rw [← hw1]; exact (Below.heap_alloc _ _ _ (by simp)).trans (World.alloc_heap_new w _)
  have hi1 : I [] w1 := by rw [← hw1]; exact hI.alloc _ (hI.alloc _ h0)
  have hb1 : Below w0.heap.size w0 w1 := by rw [← hw1]; exact (he.alloc _).alloc _
  have low : ∀ {A B : World} {row : Option Nat}, (∀ r, row = some r → w1.heap.size ≤ r ∧ ∃ o : Obj, A.heap[r]? = some o ∧ o.isWalk = true) → (∀ r, row = some r → w.heap.size ≤ r ∧ ∃ o : Obj, A.heap[r]? = some o ∧ o.isCells = false) :=
    fun hr r e => by obtain ⟨h2, o, ho, hw⟩ := hr r e; exact ⟨by omega, o, ho, Obj.not_cells_of_walk hw⟩
  refine ⟨w.heap.size + 1, [{ target := .collected w.heap.size, args := #[] }], w1, { target := .fn (.func gf) lb, args := #[.func (.yield (w.heap.size + 1)) #[] #[]] }, w1, gf,
    #[.func (.yield (w.heap.size + 1)) #[] #[]] ++ lb, w1, ?_, ?_, fun _ _ => trivial, ?_, fun _ => by decide, ?_⟩
  · rw [← hw1, hlp]; exact run_enterLoop_outer _ _ _ _ _
  · simp only [resolve, hg]
    simp [go_sem]
  · simp [invoke, go_sem, run_callFunc hok]
  refine CallsIn.mono (callsIn_FR (r := none) (callsIn_wide.1 (hseq (w.heap.size + 1)
    (fun pre W => I pre W ∧ W.heap[w.heap.size + 1]? = some (.loop (lp .ready none)) ∧ W.heap[w.heap.size]? = some (.deferred (some [])))
    (fun pre W => ∃ c, Ix c pre W ∧ W.heap[w.heap.size + 1]? = some (.loop (lp .done (some c))) ∧ W.heap[w.heap.size]? = some (.deferred (some [])))
    w1 hb1 ?_ ?_ ?_ ⟨hi1, hr1, hd1⟩))) ?_
  · exact fun s A B row hs hgr hr => ⟨hI s A B row hs.1 hgr (low (B := B) hr), (grownBy_keeps hgr (fun r e => (hr r e).2) hs.2.1 rfl).trans hs.2.1, (grownBy_keeps hgr (fun r e => (hr r e).2) hs.2.2 rfl).trans hs.2.2⟩
  · intro s A B row hs hgr hr
    obtain ⟨c, hc, h2, h3⟩ := hs
    exact ⟨c, hIx c s A B row hc hgr (low (B := B) hr), (grownBy_keeps hgr (fun r e => (hr r e).2) h2 rfl).trans h2, (grownBy_keeps hgr (fun r e => (hr r e).2) h3 rfl).trans h3⟩
  · rintro pre x W ⟨hi, h2, h3⟩ hlen
    have hy := run_yield (P := P) (args := #[enc x]) h2 (by rw [hlp]; rfl)
    rw [hlp] at hy
    refine ⟨fn, _, asc, body, hy, roundIn_FR (r := none) (m := 0 - 1) ?_⟩
    refine (roundIn_of_wpIn (F := Fence.wide) (n := 1) (l := w.heap.size + 1) hfn ?_) |> fun h => ⟨trivial, fun c cs _ => h.2 c cs (room_wide _)⟩
    have hz : (#[p] : Array Tmp).zip #[enc x] = #[(p, enc x)] := by apply Array.ext'; simp [Array.toList_zip]
    have hasg := hround (w.heap.size + 1) pre x W hi hlen
    simp only [hz]
    refine wpIn_mono hasg fun e a1 W1 h => ?_
    cases e with
    | normal =>
      obtain ⟨k1, k2, k3⟩ := h
      have r1 := k1.same _ _ (by omega) h2 rfl
      have d1 := k1.same _ _ (Nat.le_refl _) h3 rfl
      refine ⟨_, run_beginRound r1 (by rw [hlp]), ?_⟩
      have hlt := (Array.getElem?_eq_some_iff.1 r1).1
      have r2 : (W1.putObj (w.heap.size + 1) (.loop { lp .ready none with state := .busy })).heap[w.heap.size + 1]? = some (.loop { lp .ready none with state := .busy }) := World.putObj_heap_same hlt
      have d2 : (W1.putObj (w.heap.size + 1) (.loop { lp .ready none with state := .busy })).heap[w.heap.size]? = some (.deferred (some [])) := (World.putObj_heap_other (by omega)).trans d1
      have b2 : Kp W1 (W1.putObj (w.heap.size + 1) (.loop { lp .ready none with state := .busy })) := hKp.put _ _ _ _ (by omega) r1 rfl
      refine wpIn_mono (k3 _ ⟨_, by omega, ⟨_, r1, rfl⟩, grownBy_putObj' _ _ _⟩) fun e a3 W3 hp => ?_
      have fin : ∀ (jump : Option Code), KeepsFrom w.heap.size (W1.putObj (w.heap.size + 1) (.loop { lp .ready none with state := .busy })) W3 →
          (Instr.endRound (w.heap.size + 1) jump).run P W3 = .ok (.bool jump.isNone) (W3.putObj (w.heap.size + 1) (.loop (lp (if jump.isNone then .ready else .done) jump))) ∧
          W3.heap[w.heap.size + 1]? = some (.loop { lp .ready none with state := .busy }) ∧
          (W3.putObj (w.heap.size + 1) (.loop (lp (if jump.isNone then .ready else .done) jump))).heap[w.heap.size + 1]? = some (.loop (lp (if jump.isNone then .ready else .done) jump)) ∧
          (W3.putObj (w.heap.size + 1) (.loop (lp (if jump.isNone then .ready else .done) jump))).heap[w.heap.size]? = some (.deferred (some [])) := fun jump k4 => by
        have r3 := k4.same _ _ (by omega) r2 rfl
        have := run_endRound (P := P) jump r3
        rw [hlp] at this ⊢
        exact ⟨this, by rw [hlp] at r3; exact r3, World.putObj_heap_same (Array.getElem?_eq_some_iff.1 r3).1, (World.putObj_heap_other (by omega)).trans (k4.same _ _ (Nat.le_refl _) d2 rfl)⟩
      cases e with
      | normal =>
        obtain ⟨q1, q2, q3⟩ := hp
        obtain ⟨f1, f2, f3, f4⟩ := fin none q1
        exact ⟨_, _, f1, .inl ⟨rfl, ⟨hI.putObj _ q3 (by omega) f2 rfl, f3, f4⟩, hKp.trans (hKp.trans (hKp.trans k2 b2) q2) (hKp.put _ _ _ _ (by omega) f2 rfl)⟩⟩
      | ret =>
        obtain ⟨q1, q3⟩ := hp
        obtain ⟨f1, f2, f3, f4⟩ := fin (some .ret) q1
        exact ⟨_, _, f1, .inr ⟨rfl, .ret, (hIx _).putObj _ q3 (by omega) f2 rfl, f3, f4⟩⟩
      | exit id =>
        obtain ⟨q1, q3⟩ := hp
        obtain ⟨f1, f2, f3, f4⟩ := fin (some (.exit id)) q1
        exact ⟨_, _, f1, .inr ⟨rfl, .exit id, (hIx _).putObj _ q3 (by omega) f2 rfl, f3, f4⟩⟩
      | goto t =>
        obtain ⟨q1, q3⟩ := hp
        obtain ⟨f1, f2, f3, f4⟩ := fin (some (.goto t)) q1
        exact ⟨_, _, f1, .inr ⟨rfl, .goto t, (hIx _).putObj _ q3 (by omega) f2 rfl, f3, f4⟩⟩
      | _ => exact hp.elim
    | _ => exact h.elim
  · rintro e W2 ⟨⟨v, rfl⟩, (⟨xs, hS, hi, h2, h3⟩ | ⟨pre, hSp, c, hi, h2, h3⟩)⟩
    · exact ⟨none, _, by have := run_endLoop (P := P) h2 (by rw [hlp]; simp); rw [hlp] at this; exact this, hdone _ xs _ (Nat.le_refl _) hS (hI.putObj _ hi (by omega) h2 rfl) ((World.putObj_heap_other (by omega)).trans h3)⟩
    · exact ⟨some c, _, by have := run_endLoop (P := P) h2 (by rw [hlp]; simp); rw [hlp] at this; exact this, hstop _ c pre _ (Nat.le_refl _) hSp ((hIx c).putObj _ hi (by omega) h2 rfl) ((World.putObj_heap_other (by omega)).trans h3)⟩
def vcR (P : Program) : RC → (Option Nat → LX → Fr → World → Prop) → Fr → World → Prop
  | .rng g p a b, Q, S, w => RngVC P (ev S g) p a b (fun D => Q (some D)) S w
  | .seqL x y, Q, S, w => vcR P x (fun o => thenQ (fun S w => vc P y (Q o) S w) (Q o)) S w
  | .seqR x y, Q, S, w => vc P x (thenQ (fun S w => vcR P y Q S w) (Q none)) S w
  | .blk id x, Q, S, w => vcR P x (fun o => blkQ id (Q o)) S w
def marks : Option Nat → List Deferred
  | none => []
  | some D => [{ target := .collected D, args := #[] }]
def liftRQ (n : Nat) (Q : Option Nat → LX → Fr → World → Prop) : Exit → Act → World → Prop
  | .normal, a, w => ∃ o S, Fits (marks o) a S n ∧ Q o .normal S w
  | .exit i, a, w => ∃ o S, Fits (marks o) a S n ∧ Q o (.exit i) S w
  | .ret, a, w => ∃ o S, Fits (marks o) a S n ∧ Q o .ret S w
  | .panic c, a, w => ∃ o S, Fits (marks o) a S n ∧ Q o (.pan c) S w
  | _, _, _ => False
theorem liftRQ_of {n : Nat} {Q : Option Nat → LX → Fr → World → Prop} {o : Option Nat} {e : Exit} {a : Act} {w : World} (h : liftQ (marks o) n (Q o) e a w) : liftRQ n Q e a w := by
  cases e with
  | normal => obtain ⟨S, h1, h2⟩ := h; exact ⟨o, S, h1, h2⟩
  | exit i => obtain ⟨S, h1, h2⟩ := h; exact ⟨o, S, h1, h2⟩
  | ret => obtain ⟨S, h1, h2⟩ := h; exact ⟨o, S, h1, h2⟩
  | panic c => obtain ⟨S, h1, h2⟩ := h; exact ⟨o, S, h1, h2⟩
  | _ => exact h.elim
theorem soundRC {P : Program} (hm : P.follows .mixedOrders = true) {n : Nat} : ∀ (c : Code) (rc : RC), compRC P n c = some rc → ∀ (Q : Option Nat → LX → Fr → World → Prop) (a : Act) (S : Fr) (w : World), Fits [] a S n → vcR P rc Q S w → c.wpIn Fence.wide 3 P (liftRQ n Q) a w
  | .rangeFunc g ps asc b, rc, h, Q, a, S, w, hf, hv => by
    simp only [compRC] at h
    split at h
    · rename_i p la lb hps ha hb
      split at h
      · rename_i hp
        injection h with h; subst h
        obtain ⟨α, enc, gf, lbs, Kp, Sx, Sp, N, w0, hg, hok, hseq, he, hKp, I, Ix, hI, hIx, h0, hbody, hdone, hstop⟩ := hv
        have hps' : ps = #[p] := by rw [← Array.toArray_toList (xs := ps), hps]
        subst hps'
        refine rng_law (by rw [hf.eval]; exact hg) hok hseq he hKp I (fun c => match c with | .ret => Ix .ret | .exit id => Ix (.exit id) | _ => fun _ _ => False) hI ?_ h0 ?_ ?_ ?_
        · intro c
          split
          · exact hIx _
          · exact hIx _
          · exact fun s W W' row h _ _ => h.elim
        · intro l pre x W hi hl
          have hfx : Fits [] ({ tmps := a.tmps.setIfInBounds p (enc x), defers := [] } : Act) (upd S p (enc x)) n := by
            refine ⟨rfl, by simp [hf.2.1], fun t => ?_⟩
            have := hf.2.2 t
            simp only [upd]
            by_cases ht : t = p
            · subst ht; simp [hf.2.1, hp]
            · have h2 : (a.tmps.setIfInBounds p (enc x))[t]? = a.tmps[t]? := Array.getElem?_setIfInBounds_ne (Ne.symm ht)
              rw [if_neg ht, ← this]
              simp [Array.getD_eq_getD_getElem?, h2]
          refine wpIn_mono (sound (ds := []) (r := some l) hm asc la ha _ _ _ W hfx (hbody pre x W hi hl)) fun e a' W' hq => ?_
          cases e with
          | normal =>
            obtain ⟨S', hf', h1, h2, h3⟩ := hq
            refine ⟨h1, h2, fun W2 h4 => ?_⟩
            refine wpIn_mono (sound (ds := []) (r := some l) hm b lb hb _ _ _ W2 hf' (h3 W2 h4)) fun e a2 W3 hq => ?_
            cases e with
            | normal => obtain ⟨S', _, h1, h2, h3⟩ := hq; exact ⟨h1, h2, h3⟩
            | ret => obtain ⟨S', _, h1, h2⟩ := hq; exact ⟨h1, h2⟩
            | exit id => obtain ⟨S', _, h1, h2⟩ := hq; exact ⟨h1, h2⟩
            | panic c => obtain ⟨S', _, h1⟩ := hq; exact h1.elim
            | _ => exact hq.elim
          | ret => obtain ⟨S', _, h1⟩ := hq; exact h1.elim
          | exit id => obtain ⟨S', _, h1⟩ := hq; exact h1.elim
          | panic c => obtain ⟨S', _, h1⟩ := hq; exact h1.elim
          | _ => exact hq.elim
        · intro D xs W hD hS hi hd
          exact ⟨some D, S, ⟨by rw [hf.1]; rfl, hf.2⟩, hdone D xs W hD hS hi hd⟩
        · intro D c pre W hD hS hi hd
          have hfd : Fits (marks (some D)) { a with defers := { target := .collected D, args := #[] } :: a.defers } S n := ⟨by rw [hf.1]; rfl, hf.2⟩
          split at hi
          · exact wpIn_ret ⟨some D, S, hfd, hstop D .ret pre W (by simp) hD hS hi hd⟩
          · exact wpIn_exit ⟨some D, S, hfd, hstop D (.exit _) pre W (by simp) hD hS hi hd⟩
          · exact hi.elim
      · cases h
    · cases h
  | .seq x y, rc, h, Q, a, S, w, hf, hv => by
    simp only [compRC] at h
    split at h
    · rename_i lx hx
      obtain ⟨ry, hy, rfl⟩ := Option.map_eq_some_iff.1 h
      refine wpIn_seq (wpIn_mono (sound (ds := []) (r := none) (m := 3) hm x lx hx _ a S w hf hv) fun e a' w' hq => ?_)
      cases e with
      | normal => obtain ⟨S', hf', hq⟩ := hq; exact soundRC hm y ry hy Q a' S' w' hf' hq
      | exit i => obtain ⟨S', hf', hq⟩ := hq; exact ⟨none, S', hf', hq⟩
      | ret => obtain ⟨S', hf', hq⟩ := hq; exact ⟨none, S', hf', hq⟩
      | panic c => obtain ⟨S', hf', hq⟩ := hq; exact ⟨none, S', hf', hq⟩
      | _ => exact hq.elim
    · split at h
      · rename_i rx ly hx hy
        injection h with h; subst h
        refine wpIn_seq (wpIn_mono (soundRC hm x rx hx _ a S w hf hv) fun e a' w' hq => ?_)
        cases e with
        | normal =>
          obtain ⟨o, S', hf', hq⟩ := hq
          exact wpIn_mono (sound (ds := marks o) (r := none) (m := 3) hm y ly hy (Q o) a' S' w' hf' hq) fun e a'' w'' h => liftRQ_of h
        | exit i => obtain ⟨o, S', hf', hq⟩ := hq; exact ⟨o, S', hf', hq⟩
        | ret => obtain ⟨o, S', hf', hq⟩ := hq; exact ⟨o, S', hf', hq⟩
        | panic c => obtain ⟨o, S', hf', hq⟩ := hq; exact ⟨o, S', hf', hq⟩
        | _ => exact hq.elim
      · cases h
  | .block id b, rc, h, Q, a, S, w, hf, hv => by
    simp only [compRC] at h
    obtain ⟨rb, hb, rfl⟩ := Option.map_eq_some_iff.1 h
    refine wpIn_block (wpIn_mono (soundRC hm b rb hb _ a S w hf hv) fun e a' w' hq => ?_)
    cases e with
    | normal => obtain ⟨o, S', hf', hq⟩ := hq; exact ⟨o, S', hf', hq⟩
    | ret => obtain ⟨o, S', hf', hq⟩ := hq; exact ⟨o, S', hf', hq⟩
    | panic c => obtain ⟨o, S', hf', hq⟩ := hq; exact ⟨o, S', hf', hq⟩
    | exit i =>
      obtain ⟨o, S', hf', hq⟩ := hq
      simp only [blkQ] at hq
      simp only [Exit.inBlock]
      split at hq
      · rename_i hi; rw [if_pos hi]; exact ⟨o, S', hf', hq⟩
      · rename_i hi; rw [if_neg hi]; exact ⟨o, S', hf', hq⟩
    | _ => exact hq.elim
  | .skip, rc, h, _, _, _, _, _, _ => by simp [compRC] at h
  | .region _ _ _, rc, h, _, _, _, _, _, _ => by simp [compRC] at h
  | .cond _ _ _, rc, h, _, _, _, _, _, _ => by simp [compRC] at h
  | .loop _, rc, h, _, _, _, _, _, _ => by simp [compRC] at h
  | .exit _, rc, h, _, _, _, _, _, _ => by simp [compRC] at h
  | .ret, rc, h, _, _, _, _, _, _ => by simp [compRC] at h
  | .scope _, rc, h, _, _, _, _, _, _ => by simp [compRC] at h
  | .label _, rc, h, _, _, _, _, _, _ => by simp [compRC] at h
  | .goto _, rc, h, _, _, _, _, _, _ => by simp [compRC] at h
  | .refuse _, rc, h, _, _, _, _, _, _ => by simp [compRC] at h
/-- What is asked at the body's end: the mark's calls are taken (there are none). -/
def endRQ (res : List LRes) (R : Value → World → Prop) : Option Nat → LX → Fr → World → Prop
  | none, e, S, w => endQ res R e S w
  | some D, .normal, S, w => w.heap[D]? = some (.deferred (some [])) ∧ resVC res S (setO w D (.deferred none)) fun vs => R (tup vs) (setO w D (.deferred none))
  | some D, .ret, S, w => w.heap[D]? = some (.deferred (some [])) ∧ resVC res S (setO w D (.deferred none)) fun vs => R (tup vs) (setO w D (.deferred none))
  | some _, .exit _, _, _ => False
  | some _, .pan _, _, _ => False
theorem run_take {P : Program} {D : Nat} {w : World} (h : w.heap[D]? = some (.deferred (some []))) : (Instr.takeDeferred D).run P w = .ok [] (setO w D (.deferred none)) := by
  simp [Instr.takeDeferred, Sem.run_bind, getObj, setObj, Sem.run, h, Result.andThen, setO]
theorem enterR {P : Program} {f : FuncId} {L : RFn} (hm : P.follows .mixedOrders = true) (hc : compRF P f = some L) {args : List Value} {w : World} {R : Value → World → Prop} (ha : args.length ≤ L.n)
    (h : vcR P L.code (endRQ L.res R) (fr0 args 0) w) : Ret P f args.toArray w R := by
  unfold compRF at hc
  split at hc
  · rename_i fn hfn
    split at hc
    · rename_i c hb
      split at hc
      · rename_i lc r h1 h2
        injection hc with hc; subst hc
        refine (callsIn_wide (n := 3)).1 (callsIn_of_wp_marks (F := Fence.wide) hfn hb trivial (wpIn_mono (soundRC hm c lc h1 _ _ (fr0 args 0) w ?_ h) ?_))
        · refine ⟨rfl, ?_, fun t => ?_⟩
          · have := ha; simp only at this; simp; omega
          · rw [fr0_at]
            simp only [Nat.zero_le, if_true, Nat.sub_zero]
            by_cases ht : t < args.length
            · simp [Array.getD_eq_getD_getElem?, Array.getElem?_append, ht]
            · simp only [Array.getD_eq_getD_getElem?, Array.getElem?_append, List.size_toArray, if_neg ht, List.getElem?_eq_none (Nat.le_of_not_lt ht), Option.getD_none]
              rw [Array.getElem?_replicate]
              split <;> rfl
        · have fin : ∀ (o : Option Nat) (S : Fr) (a' : Act) (w' : World), Fits (marks o) a' S fn.ntmps → (endRQ r R o .normal S w') → LeavesInM Fence.wide 3 P fn a'.tmps (fun e w' => ∃ v, e = .returned v ∧ R v w') a'.defers .returning w' := by
            intro o S a' w' hf hq
            rw [hf.1]
            cases o with
            | none =>
              obtain ⟨vs, h3, h4⟩ := sound_res hf _ _ _ h2 hq
              exact ⟨_, results_run h3, _, rfl, h4⟩
            | some D =>
              obtain ⟨hd, hq⟩ := hq
              obtain ⟨vs, h3, h4⟩ := sound_res hf _ _ _ h2 hq
              exact ⟨by simp, .inl ⟨D, _, rfl, run_take hd, ⟨_, results_run h3, _, rfl, h4⟩⟩⟩
          intro e a' w' hq
          cases e with
          | normal => obtain ⟨o, S, hf, hq⟩ := hq; exact fin o S a' w' hf hq
          | ret =>
            obtain ⟨o, S, hf, hq⟩ := hq
            refine fin o S a' w' hf ?_
            cases o <;> exact hq
          | exit i => obtain ⟨o, S, hf, hq⟩ := hq; cases o <;> exact hq.elim
          | panic c => obtain ⟨o, S, hf, hq⟩ := hq; cases o <;> exact hq.elim
          | _ => exact hq.elim
      · cases hc
    · cases hc
  · cases hc
end Lite
namespace Lite
open Go Go.RowKit
section
variable {P : Program} {S : Fr} {w : World}
theorem KR.start {f : FuncId} {L : RFn} (hm : P.follows .mixedOrders = true) (hc : compRF P f = some L) {args : List Value} {w : World} {R : Value → World → Prop} (ha : args.length ≤ L.n) (h : vcR P L.code (endRQ L.res R) (fr0 args 0) w) : Ret P f args.toArray w R := enterR hm hc ha h
theorem KR.seqR {x : LC} {y : RC} {Q : Option Nat → LX → Fr → World → Prop} (h : vch P x (thenQh (fun S w => vcR P y Q S w) (Q none) ⟨⟩) S w ⟨⟩) : vcR P (.seqR x y) Q S w := by unfold vch thenQh at h; exact h
theorem KR.seqL {x : RC} {y : LC} {Q : Option Nat → LX → Fr → World → Prop} (h : vcR P x (fun o => thenQh (fun S w => vch P y (Q o) S w ⟨⟩) (Q o) ⟨⟩) S w) : vcR P (.seqL x y) Q S w := by unfold vch thenQh at h; exact h
theorem KR.blk {id : Nat} {x : RC} {Q : Option Nat → LX → Fr → World → Prop} (h : vcR P x (fun o => blkQh id (Q o) ⟨⟩) S w) : vcR P (.blk id x) Q S w := by unfold blkQh at h; exact h
theorem KR.ret {res : List LRes} {R : Value → World → Prop} {D : Nat} (hd : w.heap[D]? = some (.deferred (some []))) (h : resVCh res S (setO w D (.deferred none)) (fun vs => R (tup vs) (setO w D (.deferred none))) ⟨⟩) : endRQ res R (some D) .ret S w := by
  unfold resVCh at h; exact ⟨hd, h⟩
/-- A range over a function, each round going on. -/
theorem KR.rng {α : Type} {enc : α → Value} {g : Operand} {p : Nat} {a b : LC} {Q : Option Nat → LX → Fr → World → Prop} {gf : Nat} {lb : Array Value} {Kp : World → World → Prop} {Sx Sp : List α → Prop} {N : Nat} {w0 : World}
    (hg : ev S g = .func (.func gf) #[] lb) (hok : okF P gf = true) (hseq : SeqStopsK Fence.wide 0 P gf lb (fun x => #[enc x]) Kp Sx Sp N w0) (he : Ext w0 w) (hKp : KpOk Kp w.heap.size)
    (I : List α → World → Prop) (hI : OwnFrom w.heap.size I) (h0 : I [] w)
    (hround : ∀ pre x W, I pre W → pre.length < N → vch P a (thenQh (fun S1 W1 => KeepsFrom w.heap.size W W1 ∧ Kp W W1 ∧ ∀ W2, RecPut w.heap.size W1 W2 →
      vch P b (thenQh (fun _ W' => KeepsFrom w.heap.size W2 W' ∧ Kp W2 W' ∧ I (pre ++ [x]) W') (fun _ _ _ => False) ⟨⟩) S1 W2 ⟨⟩) (fun _ _ _ => False) ⟨⟩) (upd S p (enc x)) W ⟨⟩)
    (hdone : ∀ D xs W, w.heap.size ≤ D → Sx xs → I xs W → W.heap[D]? = some (.deferred (some [])) → Q (some D) .normal S W) : vcR P (.rng g p a b) Q S w := by
  refine ⟨α, enc, gf, lb, Kp, Sx, Sp, N, w0, hg, hok, hseq, he, hKp, I, fun _ _ _ => False, hI, fun _ _ _ _ _ h _ _ => h.elim, h0, fun pre x W hi hl => ?_, hdone, fun D e pre W _ _ _ h _ => h.elim⟩
  have h := hround pre x W hi hl
  unfold vch thenQh at h
  refine vc_keep a _ _ _ W (fun e S1 W1 _ h1 => ?_) h
  cases e with
  | normal =>
    obtain ⟨k1, k2, k3⟩ := h1
    refine ⟨k1, k2, fun W2 hr => ?_⟩
    have h2 := k3 W2 hr
    refine vc_keep b _ _ _ W2 (fun e S2 W3 _ h3 => ?_) h2
    cases e with
    | normal => exact h3
    | exit _ => exact h3.elim
    | ret => exact h3.elim
    | pan _ => exact h3.elim
  | exit _ => exact h1.elim
  | ret => exact h1.elim
  | pan _ => exact h1.elim
/-! ### Worlds in rounds -/
theorem RecPut.cells {B : Nat} {W W' : World} (h : RecPut B W W') {k : Nat} {c : Array Value} {t : TypeId} {f : Nat × Nat} (hk : W.heap[k]? = some (.cells c t f)) : W'.heap[k]? = some (.cells c t f) := by
  obtain ⟨l, hl, ⟨o, ho, hc⟩, hg⟩ := h
  rw [hg.block k (lt_of_heap hk) fun e => by injection e with e; subst e; rw [ho] at hk; injection hk with hk; subst hk; cases hc]
  exact hk
theorem RecPut.mod {B : Nat} {W W' : World} (h : RecPut B W W') : ∃ l, B ≤ l ∧ (∀ c t f, W.heap[l]? ≠ some (.cells c t f)) ∧ Mod (fun k => k = l) W W' := by
  obtain ⟨l, hl, ⟨o, ho, hc⟩, hg⟩ := h
  exact ⟨l, hl, (fun c t f e => by rw [ho] at e; injection e with e; subst e; cases hc), Mod.grown hg fun k e => by injection e with e; exact e.symm⟩
theorem RecPut.ext {B : Nat} {w W W' : World} (h : RecPut B W W') (he : Ext w W) (hB : w.heap.size ≤ B) : Ext w W' := by
  obtain ⟨l, hl, _, hm⟩ := h.mod
  exact hm.ext he fun k hk e => by omega
theorem Mod.kt {A : Nat → Prop} {n0 : Nat} {ts : List TypeId} {W W' : World} (h : Mod A W W') (hn : n0 ≤ W.heap.size) (h0 : ∀ k, k < n0 → ¬ A k) (hA : ∀ k c t f, A k → W.heap[k]? = some (.cells c t f) → t ∉ ts) : KT n0 ts W W' :=
  ⟨⟨h.os, h.tape, h.output, h.size, fun k hk => h.block k (by omega) (h0 k hk)⟩, fun k c t f hk ht => h.block k (lt_of_heap hk) fun a => hA k c t f a hk ht⟩
/-- Some blocks may have been written, and cells of some types from some block on. -/
def Chg (lo : Nat) (bs : List Nat) (ts : List TypeId) (W W' : World) : Prop := Mod (fun k => k ∈ bs ∨ (lo ≤ k ∧ ∃ c t f, t ∈ ts ∧ W.heap[k]? = some (.cells c t f))) W W'
theorem Chg.trans {lo : Nat} {bs : List Nat} {ts : List TypeId} {a b c : World} (h : Chg lo bs ts a b) (k : Chg lo bs ts b c) : Chg lo bs ts a c :=
  ⟨k.os.trans h.os, k.tape.trans h.tape, k.output.trans h.output, Nat.le_trans h.size k.size, fun i hi hn => by
    have e := h.block i hi hn
    refine (k.block i (Nat.lt_of_lt_of_le hi h.size) fun a => hn ?_).trans e
    rcases a with a | ⟨a1, c, t, f, a2, a3⟩
    · exact .inl a
    · exact .inr ⟨a1, c, t, f, a2, by rw [← e]; exact a3⟩⟩
theorem Chg.grown {α : Type} {enc : α → List Value} {sz lo : Nat} {e : TypeId} {bs : List Nat} {ts : List TypeId} {W W' : World} {v : Value} {xs : List α} (ho : OwR enc e sz lo W v xs) (hg : W.grownBy W' v.ownBlock) (he : e ∈ ts) : Chg lo bs ts W W' :=
  (Mod.grown (A := fun k => v.ownBlock = some k) hg fun k e => e).weak fun k hk => by
    obtain ⟨cur, h⟩ := ho.blk k hk
    exact .inr ⟨(ho.lt k hk).1, _, _, _, he, h⟩
theorem Chg.kt {lo n0 : Nat} {bs : List Nat} {ts tys : List TypeId} {W W' : World} (h : Chg lo bs ts W W') (hn : n0 ≤ W.heap.size) (h0 : n0 ≤ lo) (hb : ∀ b ∈ bs, n0 ≤ b ∧ ∀ c t f, W.heap[b]? = some (.cells c t f) → t ∉ tys) (ht : ∀ t ∈ ts, t ∉ tys) : KT n0 tys W W' :=
  Mod.kt h hn (fun k hk a => by
    rcases a with a | ⟨a, _⟩
    · have := (hb k a).1; omega
    · omega) fun k c t f a hk => by
    rcases a with a | ⟨_, c', t', f', a1, a2⟩
    · exact (hb k a).2 c t f hk
    · rw [hk] at a2; injection a2 with a2; injection a2 with _ a2; subst a2; exact ht _ a1
theorem Chg.from {bs : List Nat} {ts : List TypeId} {w W W' : World} (h : Mod (fun k => k ∈ bs) w W) (c : Chg w.heap.size bs ts W W') : Mod (fun k => k ∈ bs) w W' :=
  h.comp c (fun _ _ a => a) fun k hk a => by
    rcases a with a | ⟨a, _⟩
    · exact a
    · omega
theorem Chg.obj {lo : Nat} {bs : List Nat} {ts : List TypeId} {W W' : World} (h : Chg lo bs ts W W') {k : Nat} {c : Array Value} {t : TypeId} {f : Nat × Nat} (hk : W.heap[k]? = some (.cells c t f)) (hb : k ∉ bs) (ht : t ∉ ts) : W'.heap[k]? = some (.cells c t f) := by
  rw [Mod.block h k (lt_of_heap hk) fun a => ?_]
  · exact hk
  · rcases a with a | ⟨_, c', t', f', a1, a2⟩
    · exact hb a
    · rw [hk] at a2; injection a2 with a2; injection a2 with _ a2; subst a2; exact ht a1
theorem Chg.ext {lo : Nat} {bs : List Nat} {ts : List TypeId} {w W W' : World} (h : Chg lo bs ts W W') (he : Ext w W) (h0 : w.heap.size ≤ lo) (hb : ∀ b ∈ bs, w.heap.size ≤ b) : Ext w W' :=
  Mod.ext h he fun k hk a => by
    rcases a with a | ⟨a, _⟩
    · have := hb k a; omega
    · omega
end
end Lite
end
section
/- The light code of the functions that range over a function. -/
set_option maxRecDepth 100000
namespace Go.Proofs.YtnkkichedhhhgaaGreatDoor
open Go Lite Go.Proofs
end Go.Proofs.YtnkkichedhhhgaaGreatDoor
end
section
/- Processes: their instances, gone through. -/
set_option maxRecDepth 4000
set_option maxHeartbeats 3200000
namespace Abs
open Go Go.RowKit Lite
end Abs
namespace Lite
open Go Go.RowKit
end Lite
namespace Go.Proofs.YtnkkichedhhhgaaGreatDoor
open Go Go.RowKit Lite
end Go.Proofs.YtnkkichedhhhgaaGreatDoor
end
section
/- Plain: what goes through the instances finds the refs. No program in sight. -/
namespace Abs
open Go
def Inst.key (x : Inst) : Int := 5 * x.proc + x.elem
/-- Few commands: few refs. -/
structure Lim (m : Model) : Prop where
  procs : m.procs.length ≤ 30
  cmds : ∀ p ∈ m.procs, p.cmds.length ≤ 30
/-- Where a ref is. -/
structure RefAt (m : Model) (r : Ref) (i p k : Nat) : Prop where
  hi : i < (insts m).length
  ri : r.inst = i
  ip : (insts m)[i].proc = p
  hp : p < m.procs.length
  rk : r.cmd = k
  hk : k < m.procs[p].cmds.length
theorem RefAt.cmd {m : Model} {r : Ref} {i p k : Nat} (h : RefAt m r i p k) : cmdOf m r = some ((m.procs[p]'(h.hp)).cmds[k]'(h.hk)) := by
  have h1 := h.hi
  have h2 := h.hp
  have h3 := h.hk
  unfold cmdOf
  rw [h.ri, nth_some (by omega) (by omega)]
  simp only [Int.toNat_natCast]
  rw [h.ip, nth_some (by omega) (by omega)]
  simp only [Int.toNat_natCast]
  rw [h.rk, nth_some (by omega) (by omega)]
  simp only [Int.toNat_natCast]
theorem RefAt.fair {m : Model} {r : Ref} {i p k : Nat} (h : RefAt m r i p k) : isFair m r = ((m.procs[p]'(h.hp)).cmds[k]'(h.hk)).fair := by
  unfold isFair; rw [h.cmd]
end Abs
end
section
/- Functions of Go's library that range over functions, by the shape of their code. -/
set_option maxRecDepth 4000
set_option maxHeartbeats 1600000
namespace Lite
open Go Go.RowKit
section
variable {α : Type} {P : Program} {f : FuncId} {t ts : TypeId} {sz b : Nat} {enc : α → List Value} {z : Array Value}
end
end Lite
end
section
/- Processes: the instances, the refs. -/
set_option maxRecDepth 4000
set_option maxHeartbeats 3200000
namespace Lite
open Go Go.RowKit
theorem OwR.map {α β : Type} {enc : β → List Value} {g : α → β} {e : TypeId} {sz base : Nat} {w : World} {v : Value} {xs : List α} (h : OwR (fun x => enc (g x)) e sz base w v xs) : OwR enc e sz base w v (xs.map g) := by
  unfold OwR at *
  rw [List.length_map, List.flatMap_map]
  exact h
/-- A row of one's own is new. -/
theorem OwR.new {α : Type} {enc : α → List Value} {e : TypeId} {sz : Nat} {w w' : World} {v : Value} {xs : List α} (hsz : ∀ x, (enc x).length = sz) (h : OwR enc e sz w.heap.size w' v xs) : New w (fun w => SlR sz (Flat enc) w v xs) w' := fun w2 m =>
  OwR.slr hsz (OwR.mod h m fun k hk a => by have := (h.lt k hk).1; omega)
end Lite
namespace Go.Proofs.YtnkkichedhhhgaaGreatDoor
open Go Go.RowKit Lite
end Go.Proofs.YtnkkichedhhhgaaGreatDoor
end
section
/- Processes: the reference's instances, refs; those that are fair. -/
set_option maxRecDepth 4000
set_option maxHeartbeats 3200000
namespace Abs
end Abs
namespace Go.Proofs.YtnkkichedhhhgaaGreatDoor
open Go Go.RowKit Lite
end Go.Proofs.YtnkkichedhhhgaaGreatDoor
end
section
/- Processes: those that are fair. -/
set_option maxRecDepth 4000
set_option maxHeartbeats 3200000
namespace Lite
open Go
def encN (n : Int) : List Value := [.int .i64 n]
instance instCelN : Cel (Flat encN) (fun n => [Value.int .i64 n]) := ⟨fun _ _ _ h => h⟩
end Lite
namespace Go.Proofs.YtnkkichedhhhgaaGreatDoor
open Go Go.RowKit Lite
end Go.Proofs.YtnkkichedhhhgaaGreatDoor
end
section
/- Processes: the chapter's example. -/
set_option maxRecDepth 8000
set_option maxHeartbeats 3200000
namespace Lite
open Go Go.RowKit
/-- A list in a block of one's own. -/
theorem SlR.blkC {α : Type} {R : World → Addr → α → Prop} {C : World → List Value → α → Prop} {sz : Nat} [Rel R C sz] {w : World} {b n : Nat} {e : TypeId} {cells : List Value} {xs : List α} (css : List (Cs sz)) (hb : w.heap[b]? = some (.cells cells.toArray e)) (hcells : cells = css.flatMap encC)
    (hl : css.length = xs.length) (hn : n = xs.length) (hm : xs.length ≤ maxLen) (hc : ∀ i (h1 : i < css.length) (h2 : i < xs.length), C w css[i].1 xs[i]) : SlR sz R w (.slice (some ⟨b, 0, none⟩) n n) xs := by
  subst hcells
  exact SlR.ofCells hl (SlR.blk (enc := encC) encC_len hb (by omega) (by omega) fun _ _ _ h => h) hc
end Lite
namespace Abs
open Go
end Abs
namespace Go.Proofs.YtnkkichedhhhgaaGreatDoor
open Go Go.RowKit Lite
end Go.Proofs.YtnkkichedhhhgaaGreatDoor
end
section
/- Arguments opened: nodes, acts, commands, processes, propositions, scopes, models. -/
set_option maxRecDepth 4000
namespace Lite
open Go Go.RowKit Go.ChangeShapes Go.WideShapes Go.Deep
section
variable {H : Type} {enc : TypeId × Value → H} {P : Program} {w : World} {base : Nat} {spare : Nat → Bool} {held : Bool}
/-- A struct of one-cell fields, read field by field, with each field's datum. -/
theorem fields2 {t : TypeId} {fs : Array Field} {n : Nat} {cs : List Value} {y : DataW H × List MemPlace} (ht : P.underlying t = some (.struct fs)) (hone : oneCellFields P fs = true) (hC : P.cellsOf t = fs.size)
    (h : DataW.trod enc P w base spare held n t cs = some y) : cs.length = fs.size ∧ ∃ n' ds, y.1 = .agg ds ∧ ∀ (j : Nat) (f : Field), fs[j]? = some f → ∃ v z, cs[j]? = some v ∧ DataW.trod enc P w base spare held n' f.type [v] = some z ∧ ds[j]? = some z.1 := by
  obtain ⟨ys, n', hn', hy, hlen, hyl, hf⟩ := DataW.trod_struct ht h
  refine ⟨by omega, n', _, by rw [hy], fun j f hj => ?_⟩
  obtain ⟨ho, hk⟩ := hone_of hone j f hj
  have hjl : j < fs.size := (Array.getElem?_eq_some_iff.1 hj).1
  have hv : cs[j]? = some (cs[j]'(by omega)) := List.getElem?_eq_getElem (by omega)
  have h1 := hf j f hj
  rw [ho, hk] at h1
  have hone' : (cs.drop j).take 1 = [cs[j]'(by omega)] := by
    rw [List.drop_eq_getElem_cons (by omega)]
    rfl
  rw [hone', List.getElem?_eq_getElem (l := ys) (by omega)] at h1
  exact ⟨_, _, hv, h1, by rw [List.getElem?_map, List.getElem?_eq_getElem (by omega)]; rfl⟩
/-- All that is read of a datum is no more than a machine holds. -/
def Small (P : Program) (t : TypeId) (d : DataW H) : Prop := ∀ q ∈ d.weights P t, q ≤ reachBytes
theorem Small.field {t u : TypeId} {fs : Array Field} {ds : List (DataW H)} {j : Nat} {d : DataW H} {f : Field} (h : Small P t (.agg ds)) (ht : P.underlying t = some (.struct fs)) (hf : fs[j]? = some f) (hu : f.type = u) (hd : ds[j]? = some d) : Small P u d := by
  subst hu
  intro q hq
  refine h q ?_
  simp only [DataW.weights, ht]
  exact DataW.weights_mem_each (j := j) (by simp [hf]) hd q hq
end
end Lite
namespace Go.Proofs.YtnkkichedhhhgaaGreatDoor
open Go Go.RowKit Lite Go.ChangeShapes
variable {H : Type} {enc : TypeId × Value → H} {w : World} {cs : List Value} {n : Nat} {y : DataW H × List MemPlace} {v : Value}
theorem wf_inI {z : Int} (h : (Lit.int .i64 z).wf = true) : Abs.inI z := by
  simp only [Lit.wf, Bool.and_eq_true, decide_eq_true_eq] at h
  exact ⟨h.1, h.2⟩
theorem node_el (h : DataW.trod enc Tryz.prog w 0 (fun _ => true) true n T.api_Node cs = some y) : ∃ x : Abs.Node, cs = x.enc ∧ x.ok := by
  obtain ⟨hl, n', ds, _, hf⟩ := fields2 (t := T.api_Node) rfl (by kernel_rfl) (by kernel_rfl) h
  match cs, hl with
  | [c0, c1], _ =>
    obtain ⟨_, _, e0, h0, _⟩ := hf 0 _ rfl
    obtain ⟨_, _, e1, h1, _⟩ := hf 1 _ rfl
    cases e0; cases e1
    obtain ⟨z0, e0, _, k0⟩ := DataW.trod_int (k := .i64) (by kernel_rfl) h0
    obtain ⟨z1, e1, _, k1⟩ := DataW.trod_int (k := .i64) (by kernel_rfl) h1
    cases e0; cases e1
    exact ⟨⟨z0, z1⟩, rfl, wf_inI k0, wf_inI k1⟩
end Go.Proofs.YtnkkichedhhhgaaGreatDoor
end
section
/- Arguments opened: scopes, what expressions speak of. -/
set_option maxRecDepth 4000
namespace Lite
open Go Go.RowKit Go.ChangeShapes Go.WideShapes Go.Deep
end Lite
namespace Go.Proofs.YtnkkichedhhhgaaGreatDoor
open Go Go.RowKit Lite Go.ChangeShapes
variable {H : Type} {enc : TypeId × Value → H} {w : World} {r : Reach} {b0 : Nat} {v : Value} {d : DataW H} {p : List MemPlace}
end Go.Proofs.YtnkkichedhhhgaaGreatDoor
end
section
/- Commands: the reference's communication; the example of the laws. -/
set_option maxRecDepth 4000
set_option maxHeartbeats 1600000
namespace Go.Proofs.YtnkkichedhhhgaaGreatDoor
open Go Go.RowKit Lite
end Go.Proofs.YtnkkichedhhhgaaGreatDoor
namespace Abs
open Go Go.RowKit Lite
theorem Nodes.blk {w : World} {b n : Nat} {e : TypeId} {f : Nat × Nat} {xs : List Node} (hb : w.heap[b]? = some (.cells (xs.flatMap Node.enc).toArray e f)) (hn : n = xs.length) (hm : xs.length ≤ maxLen) (hok : ∀ x ∈ xs, x.ok) :
    Nodes w (.slice (some ⟨b, 0, none⟩) n n) xs := SlR.blk (enc := Node.enc) (fun _ => rfl) hb hn hm fun _ x hx hc => ⟨hc, hok x hx⟩
end Abs
namespace Go.Proofs.YtnkkichedhhhgaaGreatDoor
open Go Go.RowKit Lite
end Go.Proofs.YtnkkichedhhhgaaGreatDoor
end
section
/- What every right program says of some models. -/
set_option maxRecDepth 4000
set_option maxHeartbeats 16000000
namespace Abs
open Go
def pNodes : List Node := [⟨1, 0⟩, ⟨1, 0⟩, ⟨14, 0⟩]
def awX : Var := ⟨⟨#[120]⟩, 0, 0, 0, 1, 0⟩
def awP : Prp := ⟨⟨#[112]⟩, pNodes⟩
def aw0 : Model := ⟨[], [], [], [], []⟩
def aw1 : Model := ⟨[], [awX], [], [], [awP, awP]⟩
def aw2 : Model := ⟨[], [⟨⟨#[]⟩, 0, 0, 0, 0, 0⟩], [], [], []⟩
theorem aw0_check : check aw0 = ⟨0, 0, 0, 0⟩ := by decide +kernel
theorem aw1_check : check aw1 = ⟨7, 5, 1, 0⟩ := by decide +kernel
theorem aw2_check : check aw2 = ⟨6, 2, 0, 0⟩ := by decide +kernel
theorem aw1_pieces : pieces aw1 = (0, 0, 1) := by decide +kernel
theorem aw_ok (p : Prp) (h : p = awP) : strOk p.name := by subst h; decide +kernel
theorem awX_good : awX.good := by constructor <;> (unfold inI; decide)
theorem aw0_good : aw0.good := ⟨by unfold big aw0; decide, by unfold big aw0; decide, by unfold big aw0; decide, by unfold big aw0; decide, by unfold big aw0; decide, by simp [aw0], by simp [aw0], by simp [aw0], by simp [aw0], by simp [aw0]⟩
theorem aw1_good : aw1.good := ⟨by unfold big aw1; decide, by unfold big aw1; decide, by unfold big aw1; decide, by unfold big aw1; decide, by unfold big aw1; decide, by simp [aw1], by simp [aw1]; exact awX_good, by simp [aw1], by simp [aw1], by simp [aw1]; exact ⟨by unfold big awP pNodes; decide⟩⟩
theorem aw2_good : aw2.good := ⟨by unfold big aw2; decide, by unfold big aw2; decide, by unfold big aw2; decide, by unfold big aw2; decide, by unfold big aw2; decide, by simp [aw2], by simp [aw2]; constructor <;> (unfold inI; decide), by simp [aw2], by simp [aw2], by simp [aw2]⟩
theorem aw1_few : Few aw1 := ⟨by decide, by decide, by decide, by simp [aw1]⟩
theorem aw_ne : aw1 ≠ aw0 := fun h => by injection h with h1 h2; cases h2
end Abs
namespace Go.Proofs.YtnkkichedhhhgaaGreatDoor
open Go Go.RowKit Lite
theorem p_r (s : ByteArray) (w : World) :
    Ret Tryz.prog F.lariatlaw15_p #[.string s] w fun v w' => (∃ b, v = .agg #[.string s, .slice (some ⟨b, 0, none⟩) 3 3] ∧ w.heap.size ≤ b ∧ Abs.Nodes w' (.slice (some ⟨b, 0, none⟩) 3 3) Abs.pNodes) ∧ Ext w w' := by
  refine K.start hmix E.lariatlaw15_p (args := [_]) (Nat.le_of_ble_eq_true rfl) ?_; dsimp only [C.lariatlaw15_p]; refine Yy ?_
  refine Sg ?_
  intro w1 b1 hb1 he1 hc1
  refine Sg ?_
  intro w2 b2 hb2 he2 hc2
  have z0 := lt_of_heap hc1
  replace hc1 := he2.obj hc1
  have e2 := he1.trans he2
  have hne : b2 ≠ b1 := by omega
  refine Sg ?_
  intro w3 hw3 hc3
  have e3 := hw3.ext e2 (by omega)
  refine Sg ?_
  replace hc2 : w2.heap[b2]? = some (.cells (Abs.pNodes.flatMap Abs.Node.enc).toArray T.api_Node) := hc2
  have z2 := he1.size
  replace hb2 := Nat.le_trans z2 hb2
  have hn : Abs.Nodes w2 (.slice (some ⟨b2, 0, none⟩) 3 3) Abs.pNodes := Abs.Nodes.blk hc2 rfl (by decide) (by simp [Abs.pNodes]; refine ⟨⟨?_, ?_⟩, ⟨?_, ?_⟩⟩ <;> (unfold Abs.inI; decide))
  refine ⟨⟨b2, rfl, hb2, ?_⟩, e3⟩
  exact Abs.Nodes.blk (hw3.obj hc2 hne) rfl (by decide) (by simp [Abs.pNodes]; refine ⟨⟨?_, ?_⟩, ⟨?_, ?_⟩⟩ <;> (unfold Abs.inI; decide))
def awCells (b1 b2 : Nat) : List Value := [.slice none 0 0, .slice (some ⟨b1, 0, none⟩) 1 1, .slice none 0 0, .slice none 0 0, .slice (some ⟨b2, 0, none⟩) 2 2]
theorem awM {w : World} {bv bp n1 n2 : Nat} (h1 : w.heap[bv]? = some (.cells (([Abs.awX]).flatMap Abs.Var.enc).toArray T.api_Var)) (h2 : w.heap[bp]? = some (.cells #[.string ⟨#[112]⟩, .slice (some ⟨n1, 0, none⟩) 3 3, .string ⟨#[112]⟩, .slice (some ⟨n2, 0, none⟩) 3 3] T.api_Prop))
    (h3 : Abs.Nodes w (.slice (some ⟨n1, 0, none⟩) 3 3) Abs.pNodes) (h4 : Abs.Nodes w (.slice (some ⟨n2, 0, none⟩) 3 3) Abs.pNodes) : Abs.ModelIs w (awCells bv bp) Abs.aw1 :=
  ⟨_, _, _, _, _, rfl, SlR.nil, Abs.Vars.blk h1 rfl (by decide) (by decide +kernel), SlR.nil, SlR.nil, SlR.blkC [⟨[.string ⟨#[112]⟩, .slice (some ⟨n1, 0, none⟩) 3 3], rfl, by simp [Value.oneCell']⟩, ⟨[.string ⟨#[112]⟩, .slice (some ⟨n2, 0, none⟩) 3 3], rfl, by simp [Value.oneCell']⟩] h2 rfl rfl rfl (by decide) (by
    intro i h1 h2
    match i, h1, h2 with
    | 0, _, _ => exact ⟨Abs.aw_ok _ rfl, _, rfl, h3⟩
    | 1, _, _ => exact ⟨Abs.aw_ok _ rfl, _, rfl, h4⟩)⟩
abbrev nil5 : List Value := [.slice none 0 0, .slice none 0 0, .slice none 0 0, .slice none 0 0, .slice none 0 0]
theorem aw0M (w : World) : Abs.ModelIs w nil5 Abs.aw0 := ⟨_, _, _, _, _, rfl, SlR.nil, SlR.nil, SlR.nil, SlR.nil, SlR.nil⟩
theorem aw2M {w : World} {b : Nat} (h : w.heap[b]? = some (.cells #[.string ⟨#[]⟩, .int .i64 0, .int .i64 0, .int .i64 0, .int .i64 0, .int .i64 0] T.api_Var)) : Abs.ModelIs w [.slice none 0 0, .slice (some ⟨b, 0, none⟩) 1 1, .slice none 0 0, .slice none 0 0, .slice none 0 0] Abs.aw2 :=
  ⟨_, _, _, _, _, rfl, SlR.nil, Abs.Vars.blk (xs := Abs.aw2.vars) h rfl (by decide) (by decide +kernel), SlR.nil, SlR.nil, SlR.nil⟩
theorem awc0_r (w : World) (ho : OwnIs w) : Ret Tryz.prog F.model_Check #[.agg nil5.toArray] w fun v w' => v = .agg #[.int .i64 0, .int .i64 0, .int .i64 0, .int .i64 0] ∧ Ext w w' :=
  (mcheck_r _ _ w (aw0M w) Abs.aw0_good ho).mono fun v w' h => ⟨by rw [h.1, Abs.aw0_check], h.2⟩
theorem awc1_r (cs : List Value) (w : World) (ho : OwnIs w) (h : Abs.ModelIs w cs Abs.aw1) : Ret Tryz.prog F.model_Check #[.agg cs.toArray] w fun v w' => v = .agg #[.int .i64 7, .int .i64 5, .int .i64 1, .int .i64 0] ∧ Ext w w' :=
  (mcheck_r _ _ w h Abs.aw1_good ho).mono fun v w' h => ⟨by rw [h.1, Abs.aw1_check], h.2⟩
theorem awc2_r (cs : List Value) (w : World) (ho : OwnIs w) (h : Abs.ModelIs w cs Abs.aw2) : Ret Tryz.prog F.model_Check #[.agg cs.toArray] w fun v w' => v = .agg #[.int .i64 6, .int .i64 2, .int .i64 0, .int .i64 0] ∧ Ext w w' :=
  (mcheck_r _ _ w h Abs.aw2_good ho).mono fun v w' h => ⟨by rw [h.1, Abs.aw2_check], h.2⟩
theorem awp_r (cs : List Value) (w : World) (h : Abs.ModelIs w cs Abs.aw1) : Ret Tryz.prog F.model_Pieces #[.agg cs.toArray] w fun v w' => v = .tuple #[.int .i64 0, .int .i64 0, .int .i64 1] ∧ Ext w w' :=
  (pieces_r _ _ w h Abs.aw1_few).mono fun v w' h => ⟨by rw [h.1, Abs.aw1_pieces], h.2⟩
theorem aws1_r (c1 c2 : List Value) (w : World) (h1 : Abs.ModelIs w c1 Abs.aw1) (h2 : Abs.ModelIs w c2 Abs.aw1) : Ret Tryz.prog F.model_Same #[.agg c1.toArray, .agg c2.toArray] w fun v w' => v = .bool true ∧ Ext w w' :=
  (same_r _ _ _ _ w h1 h2).mono fun v w' ⟨⟨b, h, hb⟩, he⟩ => ⟨by rw [h, hb.2 rfl], he⟩
theorem aws0_r (c1 : List Value) (w : World) (h1 : Abs.ModelIs w c1 Abs.aw1) : Ret Tryz.prog F.model_Same #[.agg c1.toArray, .agg nil5.toArray] w fun v w' => v = .bool false ∧ Ext w w' :=
  (same_r _ _ _ _ w h1 (aw0M w)).mono fun v w' ⟨⟨b, h, hb⟩, he⟩ => ⟨by cases b with | false => exact h | true => exact absurd (hb.1 rfl) Abs.aw_ne, he⟩
theorem awcp_r (cs : List Value) (w : World) (h : Abs.ModelIs w cs Abs.aw1) : Ret Tryz.prog F.model_Copy #[.agg cs.toArray] w fun v w' => (∃ a0 c0 a1 c1 a2 c2 a3 c3 a4 c4, v = .agg #[.slice a0 0 c0, .slice a1 1 c1, .slice a2 0 c2, .slice a3 0 c3, .slice a4 2 c4] ∧ Abs.ModelIs w' [.slice a0 0 c0, .slice a1 1 c1, .slice a2 0 c2, .slice a3 0 c3, .slice a4 2 c4] Abs.aw1) ∧ Ext w w' :=
  (copy_r _ _ w h Abs.aw1_good rfl).mono fun v w' ⟨⟨cs', h1, hn⟩, he⟩ => ⟨by
    have hm := hn.here
    obtain ⟨a0, c0, a1, c1, a2, c2, a3, c3, a4, c4, rfl, _⟩ := Abs.ModelIs.form hm
    exact ⟨_, _, _, _, _, _, _, _, _, _, h1, hm⟩, he⟩
theorem conf4 (a b c d : Int) : conf [.i, .i, .i, .i] [.int .i64 a, .int .i64 b, .int .i64 c, .int .i64 d] := ⟨⟨a, rfl⟩, ⟨b, rfl⟩, ⟨c, rfl⟩, ⟨d, rfl⟩, trivial⟩
theorem awake15_r (w : World) (ho : OwnIs w) : Ret Tryz.prog F.lariatlaw15_awake #[] w fun v w' => v = .bool true ∧ Ext w w' := by
  refine K.start hmix E.lariatlaw15_awake (args := []) (Nat.le_of_ble_eq_true rfl) ?_; dsimp only [C.lariatlaw15_awake]; refine Yy ?_
  refine Sg ?_
  refine K.call (p_r _ w) ?_
  rintro _ w1 ⟨⟨n1, rfl, hn1, hN1⟩, he1⟩
  refine Sg ?_
  refine K.call (p_r _ w1) ?_
  rintro _ w2 ⟨⟨n2, rfl, hn2, hN2⟩, he2⟩
  replace hN1 := hN1.ext he2
  have e2 := he1.trans he2
  refine Sg ?_
  intro w3 b3 hb3 he3 hc3
  replace hN1 := hN1.ext he3
  replace hN2 := hN2.ext he3
  have e3 := e2.trans he3
  refine Sg ?_
  intro w4 b4 hb4 he4 hc4
  replace hN1 := hN1.ext he4
  replace hN2 := hN2.ext he4
  replace hc3 := he4.obj hc3
  have e4 := e3.trans he4
  refine Sg ?_
  intro w5 b5 hb5 he5 hc5
  have y3 := lt_of_heap hc3
  have y4 := lt_of_heap hc4
  replace hN1 := hN1.ext he5
  replace hN2 := hN2.ext he5
  replace hc3 := he5.obj hc3
  replace hc4 := he5.obj hc4
  have e5 := e4.trans he5
  have y1 := e4.size
  have hM : Abs.ModelIs w5 (awCells b4 b3) Abs.aw1 := awM hc4 hc3 hN1 hN2
  replace hc5 : w5.heap[b5]? = some (.cells #[.slice none 0 0, .slice (some ⟨b4, 0, none⟩) 1 1, .slice none 0 0, .slice none 0 0, .slice (some ⟨b3, 0, none⟩) 2 2] T.api_Model) := hc5
  have E5 := e5
  clear hc3 hc4 hN1 hN2 he1 he2 he3 he4 he5 e2 e3 e4 e5
  unfold awCells at hM
  refine Sg ?_
  refine K.call (awp_r _ w5 hM) ?_
  rintro _ w6 ⟨rfl, he6⟩
  replace hc5 := he6.obj hc5
  replace hM := hM.ext he6
  replace E5 := E5.trans he6
  clear he6
  refine Sg ?_
  refine K.call (awcp_r _ w6 hM) ?_
  rintro _ w7 ⟨⟨a0, c0, a1, c1, a2, c2, a3, c3, a4, c4, rfl, hC⟩, he7⟩
  replace hc5 := he7.obj hc5
  replace hM := hM.ext he7
  replace E5 := E5.trans he7
  clear he7
  refine Sg ?_
  intro w8 b8 hb8 he8 hc8
  replace hc5 := he8.obj hc5
  replace hM := hM.ext he8
  replace hC := hC.ext he8
  replace E5 := E5.trans he8
  clear he8
  refine Sg ?_
  refine K.call (awc0_r w8 (ho.ext E5)) ?_
  rintro _ w9 ⟨rfl, he9⟩
  replace hc5 := he9.obj hc5
  replace hc8 := he9.obj hc8
  replace hM := hM.ext he9
  replace hC := hC.ext he9
  replace E5 := E5.trans he9
  clear he9
  refine Sg ?_
  refine K.eqS (sig := [.i, .i, .i, .i]) (xs := [_, _, _, _]) (ys := [_, _, _, _]) (by kernel_rfl) (conf4 _ _ _ _) (conf4 _ _ _ _) fun r hr => ?_
  obtain rfl : r = true := hr.2 rfl
  refine Sg ?_
  refine K.call (awc1_r _ w9 (ho.ext E5) hM) ?_
  rintro _ w10 ⟨rfl, he10⟩
  replace hc5 := he10.obj hc5
  replace hc8 := he10.obj hc8
  replace hM := hM.ext he10
  replace hC := hC.ext he10
  replace E5 := E5.trans he10
  clear he10
  refine Sg ?_
  refine K.eqS (sig := [.i, .i, .i, .i]) (xs := [_, _, _, _]) (ys := [_, _, _, _]) (by kernel_rfl) (conf4 _ _ _ _) (conf4 _ _ _ _) fun r hr => ?_
  obtain rfl : r = true := hr.2 rfl
  refine Sg ?_
  intro w11 b11 hb11 he11 hc11
  replace hc5 := he11.obj hc5
  replace hc8 := he11.obj hc8
  replace hM := hM.ext he11
  replace hC := hC.ext he11
  replace E5 := E5.trans he11
  clear he11
  refine Sg ?_
  refine K.call (awc2_r _ w11 (ho.ext E5) (aw2M hc11)) ?_
  rintro _ w12 ⟨rfl, he12⟩
  replace hc5 := he12.obj hc5
  replace hc8 := he12.obj hc8
  replace hM := hM.ext he12
  replace hC := hC.ext he12
  replace E5 := E5.trans he12
  clear he12
  refine Sg ?_
  refine K.eqS (sig := [.i, .i, .i, .i]) (xs := [_, _, _, _]) (ys := [_, _, _, _]) (by kernel_rfl) (conf4 _ _ _ _) (conf4 _ _ _ _) fun r hr => ?_
  obtain rfl : r = true := hr.2 rfl
  refine Sg ?_
  refine K.call (aws1_r _ _ w12 hC hM) ?_
  rintro _ w13 ⟨rfl, he13⟩
  replace hc8 := he13.obj hc8
  replace hC := hC.ext he13
  replace E5 := E5.trans he13
  clear he13
  refine Sg ?_
  refine K.call (aws0_r _ w13 hC) ?_
  rintro _ w14 ⟨rfl, he14⟩
  replace hc8 := he14.obj hc8
  replace E5 := E5.trans he14
  clear he14
  refine Sg ?_
  exact ⟨by first | trivial | rfl, E5⟩
end Go.Proofs.YtnkkichedhhhgaaGreatDoor
end
section
/- Whole models: Light. -/
set_option maxRecDepth 4000
set_option maxHeartbeats 6400000
namespace Abs
structure LightM (m : Model) : Prop where
  s : m.scalars.length ≤ 8
  v : m.vars.length ≤ 20
  c : m.chans.length ≤ 8
  p : m.procs.length ≤ 10
  q : m.props.length ≤ 16
  i : ∀ (j : Nat) (h : j < m.procs.length), m.procs[j].vars.length ≤ 10 ∧ m.procs[j].cmds.length ≤ 16
end Abs
namespace Go.Proofs.YtnkkichedhhhgaaGreatDoor
open Go Go.RowKit Lite
theorem lightC_r (cs : List Value) (c : Abs.Cmd) (w : World) (h : Abs.CmdIs w cs c) :
    Ret Tryz.prog F.lariatref15_light #[.agg cs.toArray] w fun v w' => (∃ b : Bool, v = .bool b) ∧ Ext w w' := by
  obtain ⟨h0, _, _, rfl, hg, ha⟩ := h
  obtain ⟨_, _, rfl, _⟩ := hg.form
  obtain ⟨oa, ca, rfl, la⟩ := ha.form
  unfold Abs.Cmd.enc
  refine K.start hmix E.lariatref15_light (args := [_]) (Nat.le_of_ble_eq_true rfl) ?_; dsimp only [C.lariatref15_light]; refine Yy ?_
  refine Sg ?_
  intro w1 b1 hb1 he1 hc1
  refine Sg ?_
  refine K.cond (fun g0 => ?_) (fun g0 => ?_)
  · refine Sg ?_
    exact ⟨⟨_, rfl⟩, he1⟩
  refine Sg ?_
  refine K.cond (fun g1 => ?_) (fun g1 => ?_)
  · refine Sg ?_
    exact ⟨⟨_, rfl⟩, he1⟩
  refine Sg ?_
  refine K.cond (fun g2 => ?_) (fun g2 => ?_)
  · refine Sg ?_
    exact ⟨⟨_, rfl⟩, he1⟩
  refine Sg ?_
  refine K.forG 3 c.acts.length [1] (fun _ => []) () (fun k _ w' => w' = w1) hZq hZq rfl ?_
  rintro k _ S w2 hk rfl
  refine Sg ?_
  refine K.cond (fun g5 => ?_) (fun g5 => ?_)
  · have hk' : k < c.acts.length := by omega
    obtain ⟨a, rfl⟩ := ha.addr (by omega)
    obtain ⟨vv, vc, hp, hpv, hpc⟩ := ha.at k hk'
    obtain ⟨ov, cv, rfl, lv⟩ := hpv.form
    obtain ⟨oc, cc, rfl, lc⟩ := hpc.form
    refine Sg ?_
    refine K.cond (fun g6 => ?_) (fun g6 => ?_)
    · refine Sg ?_
      exact ⟨⟨_, rfl⟩, he1⟩
    refine Sg ?_
    refine K.cond (fun g7 => ?_) (fun g7 => ?_)
    · refine Sg ?_
      exact ⟨⟨_, rfl⟩, he1⟩
    refine Sg ?_
    exact ⟨hk', by first | trivial | rfl, (), trivial, by first | trivial | rfl⟩
  refine Sg ?_
  exact ⟨⟨_, rfl⟩, he1⟩
theorem light15_r (cs : List Value) (m : Abs.Model) (w : World) (h : Abs.ModelIs w cs m) :
    Ret Tryz.prog F.lariatref15_Light #[.agg cs.toArray] w fun v w' => (∃ b, v = .bool b ∧ (b = true → Abs.LightM m)) ∧ Ext w w' := by
  obtain ⟨o0, c0, o1, c1, o2, c2, o3, c3, o4, c4, rfl, h0, h1, h2, h3, h4, l0, l1, l2, l3, l4⟩ := h.form
  refine K.start hmix E.lariatref15_Light (args := [_]) (Nat.le_of_ble_eq_true rfl) ?_; dsimp only [C.lariatref15_Light]; refine Yy ?_
  refine Sg ?_
  intro w1 b1 hb1 he1 hc1
  refine Sg ?_
  refine K.cond (fun g0 => ?_) (fun g0 => ?_)
  · refine Sg ?_
    exact ⟨⟨false, rfl, fun h => by cases h⟩, he1⟩
  refine Sg ?_
  refine K.cond (fun g1 => ?_) (fun g1 => ?_)
  · refine Sg ?_
    exact ⟨⟨false, rfl, fun h => by cases h⟩, he1⟩
  refine Sg ?_
  refine K.cond (fun g2 => ?_) (fun g2 => ?_)
  · refine Sg ?_
    exact ⟨⟨false, rfl, fun h => by cases h⟩, he1⟩
  refine Sg ?_
  refine K.cond (fun g3 => ?_) (fun g3 => ?_)
  · refine Sg ?_
    exact ⟨⟨false, rfl, fun h => by cases h⟩, he1⟩
  refine Sg ?_
  refine K.cond (fun g4 => ?_) (fun g4 => ?_)
  · refine Sg ?_
    exact ⟨⟨false, rfl, fun h => by cases h⟩, he1⟩
  have hc0 := hc1
  refine Sg ?_
  refine K.forG 3 m.procs.length [1] (fun _ => []) () (fun k _ w' => Ext w1 w' ∧ ∀ j (h : j < m.procs.length), j < k → m.procs[j].vars.length ≤ 10 ∧ m.procs[j].cmds.length ≤ 16) hZq hZq ⟨Ext.refl _, fun j _ h => absurd h (Nat.not_lt_zero _)⟩ ?_
  rintro k _ S w2 hk ⟨he2, hall⟩
  replace hc1 := he2.obj hc0
  have e2 := he1.trans he2
  refine Sg ?_
  refine K.cond (fun g5 => ?_) (fun g5 => ?_)
  · have hk' : k < m.procs.length := by omega
    obtain ⟨a, rfl⟩ := h3.addr (by omega)
    obtain ⟨_, vv, vc, hp, hpv, hpc⟩ := h3.at k hk'
    obtain ⟨ov, cv, rfl, lv⟩ := hpv.form
    obtain ⟨oc, cc, rfl, lc⟩ := hpc.form
    refine Sg ?_
    refine K.cond (fun g6 => ?_) (fun g6 => ?_)
    · refine Sg ?_
      exact ⟨⟨false, rfl, fun h => by cases h⟩, e2⟩
    refine Sg ?_
    refine K.cond (fun g7 => ?_) (fun g7 => ?_)
    · refine Sg ?_
      exact ⟨⟨false, rfl, fun h => by cases h⟩, e2⟩
    refine Sg ?_
    refine K.forG 4 m.procs[k].cmds.length [1, 3] (fun _ => []) () (fun i _ w' => Ext w1 w') hZq hZq he2 ?_
    clear hc1 e2 he2
    rintro i _ S w3 hi he2
    have hc1 := he2.obj hc0
    have e2 := he1.trans he2
    refine Sg ?_
    refine K.cond (fun g8 => ?_) (fun g8 => ?_)
    · have hi' : i < m.procs[k].cmds.length := by omega
      obtain ⟨ac, rfl⟩ := hpc.addr (by omega)
      obtain ⟨cc1, hcc, hC⟩ := Rel.out (hpc.at i hi')
      obtain ⟨_, _, _, rfl, _, _⟩ := id hC
      refine Sg ?_
      refine K.call (lightC_r _ m.procs[k].cmds[i] w3 (hC.ext e2)) ?_
      rintro _ w4 ⟨⟨b, rfl⟩, he4⟩
      cases b with
      | false =>
        refine Sg ?_
        exact ⟨⟨false, rfl, fun h => by cases h⟩, e2.trans he4⟩
      | true =>
        refine Sg ?_
        exact ⟨hi', by first | trivial | rfl, (), trivial, he2.trans he4⟩
    · refine Sg ?_
      refine ⟨hk', by first | trivial | rfl, (), trivial, he2, fun j hj hjk => ?_⟩
      by_cases hjj : j = k
      · subst hjj; exact ⟨by omega, by omega⟩
      · exact hall j hj (by omega)
  refine Sg ?_
  refine K.forG 5 m.props.length [1] (fun _ => []) () (fun i _ w' => w' = w2) hZq hZq rfl ?_
  rintro i _ S w3 hi rfl
  refine Sg ?_
  refine K.cond (fun g8 => ?_) (fun g8 => ?_)
  · have hi' : i < m.props.length := by omega
    obtain ⟨ac, rfl⟩ := h4.addr (by omega)
    obtain ⟨_, ve, hcc, hve⟩ := h4.at i hi'
    obtain ⟨ov, cv, rfl, lv⟩ := hve.form
    refine Sg ?_
    refine K.cond (fun g9 => ?_) (fun g9 => ?_)
    · refine Sg ?_
      exact ⟨⟨false, rfl, fun h => by cases h⟩, e2⟩
    refine Sg ?_
    exact ⟨hi', by first | trivial | rfl, (), trivial, by first | trivial | rfl⟩
  refine Sg ?_
  exact ⟨⟨true, rfl, fun _ => ⟨by omega, by omega, by omega, by omega, by omega, fun j hj => hall j hj (by omega)⟩⟩, e2⟩
end Go.Proofs.YtnkkichedhhhgaaGreatDoor
end
section
/- Processes: the laws on scopes and on instances, walked. -/
set_option maxRecDepth 8000
set_option maxHeartbeats 3200000
namespace Abs
end Abs
namespace Go.Proofs.YtnkkichedhhhgaaGreatDoor
open Go Go.RowKit Lite
end Go.Proofs.YtnkkichedhhhgaaGreatDoor
end
