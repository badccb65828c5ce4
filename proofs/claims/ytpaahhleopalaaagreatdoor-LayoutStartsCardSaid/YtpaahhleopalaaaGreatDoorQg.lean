/- Texts joined: ProcB Lite16 ProcC ProcD LiteR CodeR ProcE ProcQ LibR ProcF ProcG ProcH ExprD. -/
import Derived.Test.YtpaahhleopalaaaGreatDoorQd
import Derived.Test.YtpaahhleopalaaaGreatDoorQe
import Derived.Test.YtpaahhleopalaaaGreatDoorQf
import Derived.RangeFuncLeaves
import Derived.RangeFuncWrites
set_option linter.all false
section
/- Processes: scopes; the reference's. -/
set_option maxRecDepth 4000
set_option maxHeartbeats 1600000
namespace Abs
open Go Go.RowKit Lite
/-- The slots of a model, written out. -/
theorem ModelIs.form {w : World} {cs : List Value} {m : Model} (h : ModelIs w cs m) : ∃ a0 c0 a1 c1 a2 c2 a3 c3 a4 c4, cs = [.slice a0 m.scalars.length c0, .slice a1 m.vars.length c1, .slice a2 m.chans.length c2, .slice a3 m.procs.length c3, .slice a4 m.props.length c4] ∧
    Scalars w (.slice a0 m.scalars.length c0) m.scalars ∧ Vars w (.slice a1 m.vars.length c1) m.vars ∧ Chans w (.slice a2 m.chans.length c2) m.chans ∧ Procs w (.slice a3 m.procs.length c3) m.procs ∧ Prps w (.slice a4 m.props.length c4) m.props ∧
    m.scalars.length ≤ 9223372036854775807 ∧ m.vars.length ≤ 9223372036854775807 ∧ m.chans.length ≤ 9223372036854775807 ∧ m.procs.length ≤ 9223372036854775807 ∧ m.props.length ≤ 9223372036854775807 := by
  obtain ⟨v0, v1, v2, v3, v4, rfl, h0, h1, h2, h3, h4⟩ := h.ex
  obtain ⟨a0, c0, rfl, l0⟩ := h0.form
  obtain ⟨a1, c1, rfl, l1⟩ := h1.form
  obtain ⟨a2, c2, rfl, l2⟩ := h2.form
  obtain ⟨a3, c3, rfl, l3⟩ := h3.form
  obtain ⟨a4, c4, rfl, l4⟩ := h4.form
  exact ⟨a0, c0, a1, c1, a2, c2, a3, c3, a4, c4, rfl, h0, h1, h2, h3, h4, l0, l1, l2, l3, l4⟩
theorem pscope_some {m : Model} {k : Nat} (h : k < m.procs.length) : pscope m (k : Int) = inner m.procs[k] (mscope m) := by
  unfold pscope
  rw [nth_some (by omega) (by omega)]
  simp
theorem pscope_none {m : Model} {i : Int} (h : i < 0 ∨ (m.procs.length : Int) ≤ i) : pscope m i = mscope m := by
  unfold pscope
  rw [nth_none h]
theorem Model.good.pscope {m : Model} (h : m.good) (i : Int) : (pscope m i).good := by
  unfold Abs.pscope
  cases hn : nth m.procs i with
  | none => exact h.scope
  | some p =>
    refine h.scope.inner (h.proc p ?_)
    unfold nth at hn
    by_cases h0 : 0 ≤ i
    · rw [if_pos h0] at hn; exact List.mem_of_getElem? hn
    · rw [if_neg h0] at hn; cases hn
end Abs
namespace Go.Proofs.YtpaahhleopalaaaGreatDoor
open Go Go.RowKit Lite
theorem scope_r (cs : List Value) (m : Abs.Model) (i : Int) (w : World) (h : Abs.ModelIs w cs m) (hg : m.good) :
    Ret Tryz.prog F.proc_Scope #[.agg cs.toArray, .int .i64 i] w fun v w' => (∃ cs', v = .agg cs'.toArray ∧ New w (fun w => Abs.ScopeIs w cs' (Abs.pscope m i)) w') ∧ Ext w w' := by
  obtain ⟨o0, c0, o1, c1, o2, c2, o3, c3, o4, c4, rfl, h0, h1, h2, h3, h4, l0, l1, l2, l3, l4⟩ := h.form
  have hsm := hg.scope.sm
  refine K.start hmix E.proc_Scope (args := [_, _]) (Nat.le_of_ble_eq_true rfl) ?_; dsimp only [C.proc_Scope]; refine Yy ?_
  simp -dsimp only [B9]
  refine Su ?_
  intro w1 b1 hb1 he1 hc1
  refine Su ?_
  intro w2 b2 hb2 he2 hc2
  simp -dsimp only [B9]
  refine Su ?_
  intro w3 b3 hb3 he3 hc3
  refine Su ?_
  have E03 : ∀ {w' : World}, Ext w3 w' → Ext w w' := fun e => ((he1.trans he2).trans he3).trans e
  have hS : ∀ w', Ext w w' → Abs.ScopeIs w' [.slice o0 m.scalars.length c0, .slice o1 m.vars.length c1, .slice o2 m.chans.length c2, .slice o3 m.procs.length c3, .slice none 0 0, .int .i64 0] (Abs.mscope m) := fun w' e =>
    ⟨hsm.1, _, _, _, _, _, rfl, h0.ext e, h1.ext e, h2.ext e, h3.ext e, SlR.nil, hsm.2⟩
  refine K.cutG [2, 4, 5] (fun _ => []) (fun (x : List Value) w' => Ext w w' ∧ Ext w2 w' ∧ w'.heap[b3]? = some (.cells x.toArray T.api_Scope) ∧ Abs.ScopeIs w' x (Abs.pscope m i)) ?_ ?_
  · refine Sg ?_
    refine K.cond (fun g1 => ?_) (fun g1 => ?_)
    rotate_left
    · refine Sg ?_
      exact ⟨_, trivial, E03 (Ext.refl _), he3, hc3, by rw [Abs.pscope_none (.inl (by omega))]; exact hS _ (E03 (Ext.refl _))⟩
    refine Sg ?_
    refine K.cond (fun g2 => ?_) (fun g2 => ?_)
    rotate_left
    · refine Sg ?_
      exact ⟨_, trivial, E03 (Ext.refl _), he3, hc3, by rw [Abs.pscope_none (.inr (by omega))]; exact hS _ (E03 (Ext.refl _))⟩
    obtain ⟨k, rfl⟩ := Int.eq_ofNat_of_zero_le (show 0 ≤ i by omega)
    have hk : k < m.procs.length := by omega
    obtain ⟨a, rfl⟩ := h3.addr (by omega)
    obtain ⟨hs, vv, vc, hpc, hpv, hpcm⟩ := h3.at k hk
    obtain ⟨ov, cv, rfl, _⟩ := hpv.form
    obtain ⟨_, _, rfl, _⟩ := hpcm.form
    refine Sg ?_
    intro w4 he4
    have hc4 := he4.obj hc3
    refine Sg ?_
    refine K.call (inner_r m.procs[k] _ _ _ _ _ _ _ _ _ _ _ _ _ _ _ _ _ _ _ _ _ _ w4) ?_
    rintro _ w5 ⟨rfl, he5⟩
    have hc5 := he5.obj hc4
    refine Sg ?_
    intro w6 hw6 hc6
    refine Sg ?_
    have e06 := hw6.ext (E03 (he4.trans he5)) (by have := he1.size; have := he2.size; omega)
    exact ⟨_, trivial, e06, hw6.ext ((he3.trans he4).trans he5) hb3, hc6, by
      rw [Abs.pscope_some hk]
      exact ⟨(hg.scope.inner (hg.proc _ (List.getElem_mem hk))).sm.1, _, _, _, _, _, rfl, h0.ext e06, h1.ext e06, h2.ext e06, h3.ext e06, hpv.ext e06, hsm.2⟩⟩
  rintro x S w4 ⟨e04, e24, hc4, hx⟩
  have hc2 := e24.obj hc2
  refine Sg ?_
  refine K.ldA (cellsAt_blk hc4) ?_ ?_
  · obtain ⟨_, _, _, _, _, rfl, _⟩ := hx.ex; rfl
  refine Sg ?_
  refine K.call (copied_r _ _ w4 hx (hg.pscope i)) ?_
  rintro _ w5 ⟨⟨cs', rfl, hn⟩, he5⟩
  have hc5 := he5.obj hc2
  obtain ⟨y0, d0, y1, d1, y2, d2, y3, d3, y4, d4, rfl, _⟩ := hn.here.form
  refine Sg ?_
  intro w6 hw6 hc6
  refine Sg ?_
  have := lt_of_heap hc2
  exact ⟨⟨_, rfl, (hn.wr hw6 this).low e04.size⟩, hw6.ext (e04.trans he5) (by have := he1.size; omega)⟩
theorem refScope_r {w0 : World} (cs : List Value) (m : Abs.Model) (i : Int) (w : World) (h : Abs.ModelIs w0 cs m) (e0 : Ext w0 w) (hg : m.good) :
    Ret Tryz.prog F.lariatref14_Scope #[.agg cs.toArray, .int .i64 i] w fun v w' => (∃ cs', v = .agg cs'.toArray ∧ ∀ w'', Ext w0 w'' → Abs.ScopeIs w'' cs' (Abs.pscope m i)) ∧ Ext w w' := by
  obtain ⟨o0, c0, o1, c1, o2, c2, o3, c3, o4, c4, rfl, h0, h1, h2, h3, h4, l0, l1, l2, l3, l4⟩ := h.form
  have hsm := hg.scope.sm
  refine K.start hmix E.lariatref14_Scope (args := [_, _]) (Nat.le_of_ble_eq_true rfl) ?_; dsimp only [C.lariatref14_Scope]; refine Yy ?_
  refine Sg ?_
  intro w1 b1 hb1 he1 hc1
  refine Sg ?_
  intro w2 b2 hb2 he2 hc2
  have E02 : ∀ {w' : World}, Ext w2 w' → Ext w w' := fun e => (he1.trans he2).trans e
  have hlow : ∀ {w' : World}, i < 0 ∨ (m.procs.length : Int) ≤ i → Ext w0 w' → Abs.ScopeIs w' [.slice o0 m.scalars.length c0, .slice o1 m.vars.length c1, .slice o2 m.chans.length c2, .slice o3 m.procs.length c3, .slice none 0 0, .int .i64 0] (Abs.pscope m i) := fun {w'} hi e => by
    rw [Abs.pscope_none hi]
    exact ⟨hsm.1, _, _, _, _, _, rfl, h0.ext e, h1.ext e, h2.ext e, h3.ext e, SlR.nil, hsm.2⟩
  refine Sg ?_
  refine K.cond (fun g1 => ?_) (fun g1 => ?_)
  · refine Sg ?_
    intro w3 hw3 hc3
    have e03 := hw3.ext (E02 (Ext.refl _)) (by have := he1.size; omega)
    refine Sg ?_
    exact ⟨⟨_, rfl, fun w'' e => hlow (.inl g1) e⟩, e03⟩
  refine Sg ?_
  refine K.cond (fun g2 => ?_) (fun g2 => ?_)
  · refine Sg ?_
    intro w3 hw3 hc3
    have e03 := hw3.ext (E02 (Ext.refl _)) (by have := he1.size; omega)
    refine Sg ?_
    exact ⟨⟨_, rfl, fun w'' e => hlow (.inr g2) e⟩, e03⟩
  obtain ⟨k, rfl⟩ := Int.eq_ofNat_of_zero_le (show 0 ≤ i by omega)
  have hk : k < m.procs.length := by omega
  obtain ⟨a, rfl⟩ := h3.addr (by omega)
  obtain ⟨hs, vv, vc, hpc, hpv, hpcm⟩ := h3.at k hk
  obtain ⟨ov, cv, rfl, _⟩ := hpv.form
  obtain ⟨_, _, rfl, _⟩ := hpcm.form
  refine Sg ?_
  intro w3 b3 hb3 he3 hc3
  have hc2 := he3.obj hc2
  refine Sg ?_
  intro w4 hw4 hc4
  have e04 := hw4.ext (E02 he3) (by have := he1.size; omega)
  refine Sg ?_
  exact ⟨⟨_, rfl, fun w'' e => by
    rw [Abs.pscope_some hk]
    exact ⟨(hg.scope.inner (hg.proc _ (List.getElem_mem hk))).sm.1, _, _, _, _, _, rfl, h0.ext e, h1.ext e, h2.ext e, h3.ext e, hpv.ext e, hsm.2⟩⟩, e04⟩
end Go.Proofs.YtpaahhleopalaaaGreatDoor
end
section
/- Lite, part 16: regions whose order is open, of a few known shapes: two variables made of two structs; of what two calls give. -/
set_option maxRecDepth 4000
namespace Lite
open Go Go.RowKit
section
variable {P : Program} {w0 w : World} {S : Fr} {K : Fr → World → Prop}
/-- What is drawn ahead. -/
def strip : Sch → List Step × Sch
  | .take s r => (s :: (strip r).1, (strip r).2)
  | t => ([], t)
theorem svc_strip : ∀ (t : Sch) (S : Fr), qsteps P (strip t).1 S w0 (fun S' => svc P w0 (strip t).2 S' w K) → svc P w0 t S w K
  | .take ⟨d, none, i⟩ r, S, h => by
    show QVC P i S w0 fun v => svc P w0 r (put S d v) w K
    have h' : QVC P i S w0 fun v => qsteps P (strip r).1 (put S d v) w0 (fun S' => svc P w0 (strip r).2 S' w K) := h
    exact QVC.mono (fun v hv => svc_strip r _ hv) h'
  | .take ⟨d, some (j, b), i⟩ r, S, h => by
    rcases h with ⟨t, ht, h1, h2⟩ | ⟨hu, h3⟩
    · exact .inl ⟨t, ht, fun e => QVC.mono (fun v hv => svc_strip r _ hv) (h1 e), fun e => svc_strip r _ (h2 e)⟩
    · exact .inr ⟨hu, svc_strip r _ h3⟩
  | .done, S, h => h
  | .nil, S, h => h
  | .alt _ _ _, S, h => h
  | .fre _ _ _, S, h => h
  | .wide _, S, h => h
theorem stAb_ok {b n : Nat} {c cs : Array Value} {e : TypeId} {KW : World → Prop} (hb : w.heap[b]? = some (.cells c e)) (hc : c.size = n) (hn : cs.size = n) (h1 : ∀ x ∈ cs.toList, x.oneCell' = true)
    (hk : ∀ w1, Wr b w w1 → w1.heap[b]? = some (.cells cs e) → KW w1) : StAVC n (.pointer (some ⟨b, 0, none⟩)) (.agg cs) w KW :=
  stA_ok hn (fun j hj => ⟨⟨_, cell_blk hb (Array.getElem?_eq_getElem (by omega))⟩, by rw [add_eq]; simp [World.frozen?, hb]⟩) h1 (hk _ (Wr.setAll cs.toList w ⟨b, 0, none⟩ 0) (setAll_blk hb (by omega)))
/-- A variable that is made, and then stored to. -/
structure VarS where
  d : Nat
  ty : TypeId
  z : Array Value
  n : Nat
  x : Nat
def VarS.new (v : VarS) : Step := ⟨some v.d, none, .e (.new v.ty (.agg v.z))⟩
def VarS.st (v : VarS) : Step := ⟨none, none, .e (.stA v.n (.tmp v.d) (.tmp v.x))⟩
theorem altS_new (v : VarS) (k : Fr → World → Prop) : altS P w0 v.new S w k = (Ext w0 (w.alloc (.cells v.z v.ty)) ∧ k (upd S v.d (.pointer (some ⟨w.heap.size, 0, none⟩))) (w.alloc (.cells v.z v.ty))) := rfl
theorem altS_st (v : VarS) (k : Fr → World → Prop) : altS P w0 v.st S w k = StAVC v.n (S v.d) (S v.x) w (fun w' => Ext w0 w' ∧ k S w') := rfl
theorem freS_st (v : VarS) (k : Fr → World → Prop) : freS P v.st S w k = StAVC v.n (S v.d) (S v.x) w (fun w' => k S w') := rfl
def twoT (a b : VarS) : Sch :=
  .alt a.new (.alt b.new (.alt a.st (.fre b.st .done .nil) .nil) .nil) (.alt b.new (.alt a.new (.alt a.st (.fre b.st .done .nil) .nil) .nil) .nil)
theorem upd_comm (S : Fr) {a b : Nat} (h : a ≠ b) (x y : Value) : upd (upd S a x) b y = upd (upd S b y) a x := by
  funext t; unfold upd; split <;> split <;> simp_all
theorem two_sv (a b : VarS) {xa xb : List Value} (hd : (a.d != b.d && a.x != a.d && a.x != b.d && b.x != a.d && b.x != b.d) = true) (hza : a.z.size = a.n) (hzb : b.z.size = b.n) (ha : S a.x = .agg xa.toArray) (hb : S b.x = .agg xb.toArray) (hla : xa.length = a.n) (hlb : xb.length = b.n)
    (h1a : ∀ u ∈ xa, u.oneCell' = true) (h1b : ∀ u ∈ xb, u.oneCell' = true)
    (hk : ∀ w' ba bb, Ext w0 w' → w0.heap.size ≤ ba → w0.heap.size ≤ bb → ba ≠ bb → w'.heap[ba]? = some (.cells xa.toArray a.ty) → w'.heap[bb]? = some (.cells xb.toArray b.ty) →
      K (upd (upd S a.d (.pointer (some ⟨ba, 0, none⟩))) b.d (.pointer (some ⟨bb, 0, none⟩))) w') : svc P w0 (twoT a b) S w0 K := by
  simp only [Bool.and_eq_true, bne_iff_ne, ne_eq] at hd
  obtain ⟨⟨⟨⟨d1, d2⟩, d3⟩, d4⟩, d5⟩ := hd
  have fin : ∀ (S' : Fr) (w2 : World) (ba bb : Nat), S' = upd (upd S a.d (.pointer (some ⟨ba, 0, none⟩))) b.d (.pointer (some ⟨bb, 0, none⟩)) → Ext w0 w2 → w0.heap.size ≤ ba → w0.heap.size ≤ bb → ba ≠ bb →
      w2.heap[ba]? = some (.cells a.z a.ty) → w2.heap[bb]? = some (.cells b.z b.ty) → svc P w0 (.alt a.st (.fre b.st .done .nil) .nil) S' w2 K := by
    rintro S' w2 ba bb rfl he h1 h2 hne hca hcb
    refine ⟨?_, trivial⟩
    have e1 : upd (upd S a.d (.pointer (some ⟨ba, 0, none⟩))) b.d (.pointer (some ⟨bb, 0, none⟩)) a.d = .pointer (some ⟨ba, 0, none⟩) := by simp [upd, d1]
    have e2 : upd (upd S a.d (.pointer (some ⟨ba, 0, none⟩))) b.d (.pointer (some ⟨bb, 0, none⟩)) a.x = .agg xa.toArray := by simp [upd, d2, d3, ha]
    have e3 : upd (upd S a.d (.pointer (some ⟨ba, 0, none⟩))) b.d (.pointer (some ⟨bb, 0, none⟩)) b.d = .pointer (some ⟨bb, 0, none⟩) := by simp [upd]
    have e4 : upd (upd S a.d (.pointer (some ⟨ba, 0, none⟩))) b.d (.pointer (some ⟨bb, 0, none⟩)) b.x = .agg xb.toArray := by simp [upd, d4, d5, hb]
    rw [altS_st, e1, e2]
    refine stAb_ok hca hza (by simpa using hla) (by simpa using h1a) fun w3 hw3 hc3 => ⟨hw3.ext he h1, ?_⟩
    refine ⟨?_, trivial⟩
    rw [freS_st, e3, e4]
    refine stAb_ok (hw3.obj hcb (Ne.symm hne)) hzb (by simpa using hlb) (by simpa using h1b) fun w4 hw4 hc4 => ?_
    exact hk w4 ba bb (hw4.ext (hw3.ext he h1) h2) h1 h2 hne (hw4.obj hc3 hne) hc4
  have m1 : ∀ (o o' : Obj), ((w0.alloc o).alloc o').heap[w0.heap.size]? = some o := fun o o' => ((Ext.refl (w0.alloc o)).alloc o').obj (heap_alloc_new w0 o)
  have m2 : ∀ (o o' : Obj), ((w0.alloc o).alloc o').heap[w0.heap.size + 1]? = some o' := fun o o' => by
    have := heap_alloc_new (w0.alloc o) o'
    rwa [World.size_alloc] at this
  refine ⟨⟨(Ext.refl _).alloc _, ⟨((Ext.refl _).alloc _).alloc _, ?_⟩, trivial⟩, ⟨(Ext.refl _).alloc _, ⟨((Ext.refl _).alloc _).alloc _, ?_⟩, trivial⟩, trivial⟩
  · refine fin _ _ w0.heap.size (w0.heap.size + 1) ?_ (((Ext.refl _).alloc _).alloc _) (Nat.le_refl _) (by omega) (by omega) (m1 _ _) (m2 _ _)
    show upd (upd S a.d _) b.d (.pointer (some ⟨(w0.alloc _).heap.size, 0, none⟩)) = _
    rw [World.size_alloc]
  · refine fin _ _ (w0.heap.size + 1) w0.heap.size ?_ (((Ext.refl _).alloc _).alloc _) (by omega) (Nat.le_refl _) (by omega) (m2 _ _) (m1 _ _)
    show upd (upd S b.d _) a.d (.pointer (some ⟨(w0.alloc _).heap.size, 0, none⟩)) = _
    rw [World.size_alloc, upd_comm S (Ne.symm d1)]
/-- Two variables are made of two structs, in whichever order. -/
theorem K.two {Q : LX → Fr → World → Prop} {t : Sch} {b' : LC} {tk} (l : List Step) (da : Nat) (ta : TypeId) (za : Array Value) (na pa db : Nat) (tb : TypeId) (zb : Array Value) (nb pb : Nat) (ht : strip t = (l, twoT ⟨da, ta, za, na, pa⟩ ⟨db, tb, zb, nb, pb⟩)) (hd : (da != db && pa != da && pa != db && pb != da && pb != db) = true) (hza : za.size = na) (hzb : zb.size = nb)
    (hk : ∀ w1, Ext w w1 → qstepsh P l S w1 (fun S' => ∃ xa xb : List Value, S' pa = .agg xa.toArray ∧ S' pb = .agg xb.toArray ∧ xa.length = na ∧ xb.length = nb ∧ (∀ u ∈ xa, u.oneCell' = true) ∧ (∀ u ∈ xb, u.oneCell' = true) ∧
      ∀ w' ba bb, Ext w1 w' → w1.heap.size ≤ ba → w1.heap.size ≤ bb → ba ≠ bb → w'.heap[ba]? = some (.cells xa.toArray ta) → w'.heap[bb]? = some (.cells xb.toArray tb) →
        vch P b' Q (upd (upd S' da (.pointer (some ⟨ba, 0, none⟩))) db (.pointer (some ⟨bb, 0, none⟩))) w' ⟨⟩) ⟨⟩) : vch P (.seq (.sch t) b') Q S w tk := by
  unfold vch qstepsh at *
  show vc P (.sch t) _ S w
  intro w1 he
  refine svc_strip t S ?_
  have h := hk w1 he
  rw [ht]
  refine qsteps_keep l S w1 _ _ (fun S' _ h' => ?_) h
  obtain ⟨xa, xb, h1, h2, h3, h4, h5, h6, h7⟩ := h'
  exact two_sv ⟨da, ta, za, na, pa⟩ ⟨db, tb, zb, nb, pb⟩ hd hza hzb h1 h2 h3 h4 h5 h6 fun w' ba bb e1 e2 e3 e4 e5 e6 => h7 w' ba bb e1 e2 e3 e4 e5 e6
/-! ### Two variables made of what two calls give -/
/-- It holds in each world in which what the call laid is as it was. -/
def Kp (w0 w w' : World) (p : World → Prop) : Prop := ∀ w'', Ext w0 w'' → w'.heap.size ≤ w''.heap.size → (∀ k, w.heap.size ≤ k → k < w'.heap.size → w''.heap[k]? = w'.heap[k]?) → p w''
theorem New.kp {w0 w w' : World} {p : World → Prop} (h : New w p w') (e0 : Ext w0 w) (e1 : Ext w w') : Kp w0 w w' p := fun w'' he hs hk =>
  have e01 := e0.trans e1
  h w'' ⟨he.os.trans e01.os.symm, he.tape.trans e01.tape.symm, he.output.trans e01.output.symm, hs, fun k h1 h2 => hk k (Nat.le_of_not_lt h2) h1⟩
theorem Kp.of {w0 w w' : World} {p : World → Prop} (h : ∀ w'', Ext w0 w'' → p w'') : Kp w0 w w' p := fun w'' he _ _ => h w'' he
def twoTl (a b : VarS) : Sch := .fre a.st (.fre b.st .done .nil) .nil
def twoC (c1 c2 : Step) (a b : VarS) : Sch :=
  .alt c1 (.fre c2 (.alt a.new (.alt b.new (twoTl a b) .nil) (.alt b.new (.alt a.new (twoTl a b) .nil) .nil))
      (.alt a.new (.fre c2 (.alt b.new (twoTl a b) .nil) (.alt b.new (.fre c2 (twoTl a b) .nil) .nil))
      (.alt b.new (.fre c2 (.alt a.new (twoTl a b) .nil) (.alt a.new (.fre c2 (twoTl a b) .nil) .nil)) .nil)))
    (.alt a.new (.alt c1 (.fre c2 (.alt b.new (twoTl a b) .nil) (.alt b.new (.fre c2 (twoTl a b) .nil) .nil)) (.alt b.new (.alt c1 (.fre c2 (twoTl a b) .nil) .nil) .nil))
    (.alt b.new (.alt c1 (.fre c2 (.alt a.new (twoTl a b) .nil) (.alt a.new (.fre c2 (twoTl a b) .nil) .nil)) (.alt a.new (.alt c1 (.fre c2 (twoTl a b) .nil) .nil) .nil)) .nil))
structure TwoSt (w0 : World) (a b : VarS) (S : Fr) (pa pb : List Value → World → Prop) (fa fb na nb : Bool) (S' : Fr) (w : World) (xa xb : List Value) (la ha lb hb qa qb : Nat) : Prop where
  ext : Ext w0 w
  fr : ∀ t, t ≠ a.d → t ≠ b.d → t ≠ a.x → t ≠ b.x → S' t = S t
  a1 : fa = true → S' a.x = .agg xa.toArray ∧ xa.length = a.n ∧ (∀ u ∈ xa, u.oneCell' = true) ∧ ha ≤ w.heap.size ∧ ∀ w'', Ext w0 w'' → w.heap.size ≤ w''.heap.size → (∀ k, la ≤ k → k < ha → w''.heap[k]? = w.heap[k]?) → pa xa w''
  b1 : fb = true → S' b.x = .agg xb.toArray ∧ xb.length = b.n ∧ (∀ u ∈ xb, u.oneCell' = true) ∧ hb ≤ w.heap.size ∧ ∀ w'', Ext w0 w'' → w.heap.size ≤ w''.heap.size → (∀ k, lb ≤ k → k < hb → w''.heap[k]? = w.heap[k]?) → pb xb w''
  a2 : na = true → S' a.d = .pointer (some ⟨qa, 0, none⟩) ∧ w0.heap.size ≤ qa ∧ qa < w.heap.size ∧ w.heap[qa]? = some (.cells a.z a.ty)
  b2 : nb = true → S' b.d = .pointer (some ⟨qb, 0, none⟩) ∧ w0.heap.size ≤ qb ∧ qb < w.heap.size ∧ w.heap[qb]? = some (.cells b.z b.ty)
  aa : fa = true → na = true → qa < la ∨ ha ≤ qa
  ab : fa = true → nb = true → qb < la ∨ ha ≤ qb
  ba : fb = true → na = true → qa < lb ∨ hb ≤ qa
  bb : fb = true → nb = true → qb < lb ∨ hb ≤ qb
  nn : na = true → nb = true → qa ≠ qb
structure Slots4 (a b : VarS) : Prop where
  d12 : a.d ≠ b.d
  d13 : a.d ≠ a.x
  d14 : a.d ≠ b.x
  d23 : b.d ≠ a.x
  d24 : b.d ≠ b.x
  d34 : a.x ≠ b.x
theorem Slots4.swap {a b : VarS} (h : Slots4 a b) : Slots4 b a := ⟨h.d12.symm, h.d24, h.d23, h.d14, h.d13, h.d34.symm⟩
section
variable {a b : VarS} {pa pb : List Value → World → Prop} {fa fb na nb : Bool} {S' : Fr} {xa xb : List Value} {la ha lb hb qa qb : Nat}
theorem TwoSt.swap (h : TwoSt w0 a b S pa pb fa fb na nb S' w xa xb la ha lb hb qa qb) : TwoSt w0 b a S pb pa fb fa nb na S' w xb xa lb hb la ha qb qa :=
  ⟨h.ext, fun t h1 h2 h3 h4 => h.fr t h2 h1 h4 h3, h.b1, h.a1, h.b2, h.a2, h.bb, h.ba, h.ab, h.aa, fun h1 h2 => (h.nn h2 h1).symm⟩
theorem TwoSt.call (hs : Slots4 a b) (h : TwoSt w0 a b S pa pb false fb na nb S' w xa xb la ha lb hb qa qb) {w1 : World} {x : List Value} (he : Ext w w1) (hl : x.length = a.n) (h1 : ∀ u ∈ x, u.oneCell' = true) (hp : Kp w0 w w1 (pa x)) :
    TwoSt w0 a b S pa pb true fb na nb (upd S' a.x (.agg x.toArray)) w1 x xb w.heap.size w1.heap.size lb hb qa qb := by
  refine ⟨h.ext.trans he, fun t t1 t2 t3 t4 => by rw [upd_at, if_neg t3]; exact h.fr t t1 t2 t3 t4, fun _ => ⟨by simp [upd], hl, h1, Nat.le_refl _, fun w'' e1 e2 e3 => hp w'' e1 e2 e3⟩, fun f => ?_, fun f => ?_, fun f => ?_, fun _ f => .inl (h.a2 f).2.2.1, fun _ f => .inl (h.b2 f).2.2.1, h.ba, h.bb, h.nn⟩
  · obtain ⟨k1, k2, k3, k4, k5⟩ := h.b1 f
    refine ⟨by rw [upd_at, if_neg hs.d34.symm]; exact k1, k2, k3, Nat.le_trans k4 he.size, fun w'' e1 e2 e3 => k5 w'' e1 (Nat.le_trans he.size e2) fun k g1 g2 => ?_⟩
    rw [e3 k g1 g2, he.heap (by omega)]
  · obtain ⟨k1, k2, k3, k4⟩ := h.a2 f
    exact ⟨by rw [upd_at, if_neg hs.d13]; exact k1, k2, Nat.lt_of_lt_of_le k3 he.size, he.obj k4⟩
  · obtain ⟨k1, k2, k3, k4⟩ := h.b2 f
    exact ⟨by rw [upd_at, if_neg hs.d23]; exact k1, k2, Nat.lt_of_lt_of_le k3 he.size, he.obj k4⟩
theorem TwoSt.new (hs : Slots4 a b) (h : TwoSt w0 a b S pa pb fa fb false nb S' w xa xb la ha lb hb qa qb) :
    TwoSt w0 a b S pa pb fa fb true nb (upd S' a.d (.pointer (some ⟨w.heap.size, 0, none⟩))) (w.alloc (.cells a.z a.ty)) xa xb la ha lb hb w.heap.size qb := by
  have he : Ext w (w.alloc (.cells a.z a.ty)) := (Ext.refl w).alloc _
  have hz : (w.alloc (.cells a.z a.ty)).heap.size = w.heap.size + 1 := World.size_alloc _ _
  refine ⟨h.ext.trans he, fun t t1 t2 t3 t4 => by rw [upd_at, if_neg t1]; exact h.fr t t1 t2 t3 t4, fun f => ?_, fun f => ?_, fun _ => ⟨by simp [upd], h.ext.size, by omega, heap_alloc_new w _⟩, fun f => ?_, fun f _ => .inr (h.a1 f).2.2.2.1, h.ab, fun f _ => .inr (h.b1 f).2.2.2.1, h.bb, fun _ f => by have := (h.b2 f).2.2.1; omega⟩
  · obtain ⟨k1, k2, k3, k4, k5⟩ := h.a1 f
    refine ⟨by rw [upd_at, if_neg hs.d13.symm]; exact k1, k2, k3, by omega, fun w'' e1 e2 e3 => k5 w'' e1 (by omega) fun k g1 g2 => ?_⟩
    rw [e3 k g1 g2, he.heap (by omega)]
  · obtain ⟨k1, k2, k3, k4, k5⟩ := h.b1 f
    refine ⟨by rw [upd_at, if_neg hs.d14.symm]; exact k1, k2, k3, by omega, fun w'' e1 e2 e3 => k5 w'' e1 (by omega) fun k g1 g2 => ?_⟩
    rw [e3 k g1 g2, he.heap (by omega)]
  · obtain ⟨k1, k2, k3, k4⟩ := h.b2 f
    exact ⟨by rw [upd_at, if_neg hs.d12.symm]; exact k1, k2, by omega, he.obj k4⟩
theorem TwoSt.fin (hs : Slots4 a b) (hza : a.z.size = a.n) (hzb : b.z.size = b.n) (h : TwoSt w0 a b S pa pb true true true true S' w xa xb la ha lb hb qa qb)
    (hk : ∀ w' xa xb ba bb, Ext w0 w' → w0.heap.size ≤ ba → w0.heap.size ≤ bb → ba ≠ bb → w'.heap[ba]? = some (.cells xa.toArray a.ty) → w'.heap[bb]? = some (.cells xb.toArray b.ty) → pa xa w' → pb xb w' →
      K (upd (upd (upd (upd S a.x (.agg xa.toArray)) b.x (.agg xb.toArray)) a.d (.pointer (some ⟨ba, 0, none⟩))) b.d (.pointer (some ⟨bb, 0, none⟩))) w') : svc P w0 (twoTl a b) S' w K := by
  obtain ⟨k1, k2, k3, k4, k5⟩ := h.a1 rfl
  obtain ⟨m1, m2, m3, m4, m5⟩ := h.b1 rfl
  obtain ⟨j1, j2, j3, j4⟩ := h.a2 rfl
  obtain ⟨n1, n2, n3, n4⟩ := h.b2 rfl
  have hne := h.nn rfl rfl
  have raa := h.aa rfl rfl
  have rab := h.ab rfl rfl
  have rba := h.ba rfl rfl
  have rbb := h.bb rfl rfl
  have e : S' = upd (upd (upd (upd S a.x (.agg xa.toArray)) b.x (.agg xb.toArray)) a.d (.pointer (some ⟨qa, 0, none⟩))) b.d (.pointer (some ⟨qb, 0, none⟩)) := by
    funext t
    simp only [upd_at]
    by_cases t1 : t = b.d
    · rw [if_pos t1, t1, n1]
    rw [if_neg t1]
    by_cases t2 : t = a.d
    · rw [if_pos t2, t2, j1]
    rw [if_neg t2]
    by_cases t3 : t = b.x
    · rw [if_pos t3, t3, m1]
    rw [if_neg t3]
    by_cases t4 : t = a.x
    · rw [if_pos t4, t4, k1]
    rw [if_neg t4]
    exact h.fr t t2 t1 t4 t3
  refine ⟨?_, trivial⟩
  rw [freS_st, j1, k1]
  refine stAb_ok j4 hza (by simpa using k2) (by simpa using k3) fun w1 hw1 hc1 => ?_
  refine ⟨?_, trivial⟩
  rw [freS_st, n1, m1]
  refine stAb_ok (hw1.obj n4 (Ne.symm hne)) hzb (by simpa using m2) (by simpa using m3) fun w2 hw2 hc2 => ?_
  have e02 := hw2.ext (hw1.ext h.ext j2) n2
  have hsz : w.heap.size ≤ w2.heap.size := by rw [hw2.size, hw1.size]; exact Nat.le_refl _
  have hold : ∀ k, k ≠ qa → k ≠ qb → w2.heap[k]? = w.heap[k]? := fun k g1 g2 => by rw [hw2.block k g2, hw1.block k g1]
  rw [e]
  exact hk w2 xa xb qa qb e02 j2 n2 hne (hw2.obj hc1 hne) hc2 (k5 w2 e02 hsz fun k g1 g2 => hold k (by omega) (by omega)) (m5 w2 e02 hsz fun k g1 g2 => hold k (by omega) (by omega))
end
def okArgs (ds : List Nat) (l : List Operand) : Bool := l.all fun | .tmp t => !ds.contains t | _ => true
theorem args_same {ds : List Nat} {S S' : Fr} {l : List Operand} (h : okArgs ds l = true) (hS : ∀ t, ds.contains t = false → S' t = S t) : l.map (ev S') = l.map (ev S) := by
  refine List.map_congr_left fun x hx => ?_
  have := List.all_eq_true.1 h x hx
  cases x with
  | tmp t => simp only at this; exact hS t (by simpa using this)
  | _ => rfl
/-- What a call must tell. -/
def TwoCall (P : Program) (w0 : World) (f : FuncId) (argv : List Value) (n : Nat) (p : List Value → World → Prop) : Prop :=
  ∀ w, Ext w0 w → Ret P f argv.toArray w fun v w' => Ext w w' ∧ ∃ x : List Value, v = .agg x.toArray ∧ x.length = n ∧ (∀ u ∈ x, u.oneCell' = true) ∧ Kp w0 w w' (p x)
theorem two_svc (a b : VarS) {f1 f2 : FuncId} {args1 args2 : List Operand} {pa pb : List Value → World → Prop} (hs : Slots4 a b) (hza : a.z.size = a.n) (hzb : b.z.size = b.n) (ho1 : okArgs [a.d, b.d, a.x, b.x] args1 = true) (ho2 : okArgs [a.d, b.d, a.x, b.x] args2 = true)
    (h1 : TwoCall P w0 f1 (args1.map (ev S)) a.n pa) (h2 : TwoCall P w0 f2 (args2.map (ev S)) b.n pb)
    (hk : ∀ w' xa xb ba bb, Ext w0 w' → w0.heap.size ≤ ba → w0.heap.size ≤ bb → ba ≠ bb → w'.heap[ba]? = some (.cells xa.toArray a.ty) → w'.heap[bb]? = some (.cells xb.toArray b.ty) → pa xa w' → pb xb w' →
      K (upd (upd (upd (upd S a.x (.agg xa.toArray)) b.x (.agg xb.toArray)) a.d (.pointer (some ⟨ba, 0, none⟩))) b.d (.pointer (some ⟨bb, 0, none⟩))) w') :
    svc P w0 (twoC ⟨some a.x, none, .c (.fn f1 args1)⟩ ⟨some b.x, none, .c (.fn f2 args2)⟩ a b) S w0 K := by
  have cont : ∀ {t : Nat}, [a.d, b.d, a.x, b.x].contains t = false → t ≠ a.d ∧ t ≠ b.d ∧ t ≠ a.x ∧ t ≠ b.x := fun {t} h => by simpa using h
  have G1 : ∀ {na nb : Bool} {S' : Fr} {w : World} {xa xb la ha lb hb qa qb} {k : Fr → World → Prop}, TwoSt w0 a b S pa pb false false na nb S' w xa xb la ha lb hb qa qb → (∀ S' w xa la ha, TwoSt w0 a b S pa pb true false na nb S' w xa xb la ha lb hb qa qb → k S' w) →
      altS P w0 ⟨some a.x, none, .c (.fn f1 args1)⟩ S' w k := fun {na nb S' w xa xb la ha lb hb qa qb k} h hk => by
    show Ret P f1 (args1.map (ev S')).toArray w fun v w' => Ext w0 w' ∧ k (upd S' a.x v) w'
    rw [args_same ho1 fun t ht => h.fr t (cont ht).1 (cont ht).2.1 (cont ht).2.2.1 (cont ht).2.2.2]
    refine (h1 w h.ext).mono fun v w' ⟨he, x, e, hl, ho, hp⟩ => ?_
    subst e
    exact ⟨h.ext.trans he, hk _ _ _ _ _ (h.call hs he hl ho hp)⟩
  have G2 : ∀ {na nb : Bool} {S' : Fr} {w : World} {xa xb la ha lb hb qa qb} {k : Fr → World → Prop}, TwoSt w0 a b S pa pb true false na nb S' w xa xb la ha lb hb qa qb → (∀ S' w xb lb hb, TwoSt w0 a b S pa pb true true na nb S' w xa xb la ha lb hb qa qb → k S' w) →
      freS P ⟨some b.x, none, .c (.fn f2 args2)⟩ S' w k := fun {na nb S' w xa xb la ha lb hb qa qb k} h hk => by
    show Ret P f2 (args2.map (ev S')).toArray w fun v w' => k (upd S' b.x v) w'
    rw [args_same ho2 fun t ht => h.fr t (cont ht).1 (cont ht).2.1 (cont ht).2.2.1 (cont ht).2.2.2]
    refine (h2 w h.ext).mono fun v w' ⟨he, x, e, hl, ho, hp⟩ => ?_
    subst e
    exact hk _ _ _ _ _ ((h.swap.call hs.swap he hl ho hp).swap)
  have NA : ∀ {fa fb nb : Bool} {S' : Fr} {w : World} {xa xb la ha lb hb qa qb} {k : Fr → World → Prop}, TwoSt w0 a b S pa pb fa fb false nb S' w xa xb la ha lb hb qa qb → (∀ S' w qa, TwoSt w0 a b S pa pb fa fb true nb S' w xa xb la ha lb hb qa qb → k S' w) →
      altS P w0 a.new S' w k := fun {fa fb nb S' w xa xb la ha lb hb qa qb k} h hk => by
    rw [altS_new]
    exact ⟨h.ext.alloc _, hk _ _ _ (h.new hs)⟩
  have NB : ∀ {fa fb na : Bool} {S' : Fr} {w : World} {xa xb la ha lb hb qa qb} {k : Fr → World → Prop}, TwoSt w0 a b S pa pb fa fb na false S' w xa xb la ha lb hb qa qb → (∀ S' w qb, TwoSt w0 a b S pa pb fa fb na true S' w xa xb la ha lb hb qa qb → k S' w) →
      altS P w0 b.new S' w k := fun {fa fb na S' w xa xb la ha lb hb qa qb k} h hk => by
    rw [altS_new]
    exact ⟨h.ext.alloc _, hk _ _ _ (h.swap.new hs.swap).swap⟩
  have F : ∀ {S' : Fr} {w : World} {xa xb la ha lb hb qa qb}, TwoSt w0 a b S pa pb true true true true S' w xa xb la ha lb hb qa qb → svc P w0 (twoTl a b) S' w K := fun h => h.fin hs hza hzb hk
  have h0 : TwoSt w0 a b S pa pb false false false false S w0 [] [] 0 0 0 0 0 0 := ⟨Ext.refl _, fun _ _ _ _ _ => rfl, by simp, by simp, by simp, by simp, by simp, by simp, by simp, by simp, by simp⟩
  refine ⟨G1 h0 fun _ _ _ _ _ h => ⟨G2 h fun _ _ _ _ _ h => ⟨NA h fun _ _ _ h => ⟨NB h fun _ _ _ h => F h, trivial⟩, NB h fun _ _ _ h => ⟨NA h fun _ _ _ h => F h, trivial⟩, trivial⟩, NA h fun _ _ _ h => ⟨G2 h fun _ _ _ _ _ h => ⟨NB h fun _ _ _ h => F h, trivial⟩, NB h fun _ _ _ h => ⟨G2 h fun _ _ _ _ _ h => F h, trivial⟩, trivial⟩,
      NB h fun _ _ _ h => ⟨G2 h fun _ _ _ _ _ h => ⟨NA h fun _ _ _ h => F h, trivial⟩, NA h fun _ _ _ h => ⟨G2 h fun _ _ _ _ _ h => F h, trivial⟩, trivial⟩, trivial⟩,
    NA h0 fun _ _ _ h => ⟨G1 h fun _ _ _ _ _ h => ⟨G2 h fun _ _ _ _ _ h => ⟨NB h fun _ _ _ h => F h, trivial⟩, NB h fun _ _ _ h => ⟨G2 h fun _ _ _ _ _ h => F h, trivial⟩, trivial⟩, NB h fun _ _ _ h => ⟨G1 h fun _ _ _ _ _ h => ⟨G2 h fun _ _ _ _ _ h => F h, trivial⟩, trivial⟩, trivial⟩,
    NB h0 fun _ _ _ h => ⟨G1 h fun _ _ _ _ _ h => ⟨G2 h fun _ _ _ _ _ h => ⟨NA h fun _ _ _ h => F h, trivial⟩, NA h fun _ _ _ h => ⟨G2 h fun _ _ _ _ _ h => F h, trivial⟩, trivial⟩, NA h fun _ _ _ h => ⟨G1 h fun _ _ _ _ _ h => ⟨G2 h fun _ _ _ _ _ h => F h, trivial⟩, trivial⟩, trivial⟩, trivial⟩
theorem K.twoC {Q : LX → Fr → World → Prop} {t : Sch} {b' : LC} {tk} (l : List Step) (f1 f2 : FuncId) (args1 args2 : List Operand) (da : Nat) (ta : TypeId) (za : Array Value) (na qa db : Nat) (tb : TypeId) (zb : Array Value) (nb qb : Nat) (ht : strip t = (l, twoC ⟨some qa, none, .c (.fn f1 args1)⟩ ⟨some qb, none, .c (.fn f2 args2)⟩ ⟨da, ta, za, na, qa⟩ ⟨db, tb, zb, nb, qb⟩))
    (hs : (da != db && da != qa && da != qb && db != qa && db != qb && qa != qb) = true) (hza : za.size = na) (hzb : zb.size = nb) (ho1 : okArgs [da, db, qa, qb] args1 = true) (ho2 : okArgs [da, db, qa, qb] args2 = true)
    (hk : ∀ w1, Ext w w1 → qstepsh P l S w1 (fun S1 => ∃ pa pb : List Value → World → Prop, TwoCall P w1 f1 (args1.map (ev S1)) na pa ∧ TwoCall P w1 f2 (args2.map (ev S1)) nb pb ∧
      ∀ w' xa xb ba bb, Ext w1 w' → w1.heap.size ≤ ba → w1.heap.size ≤ bb → ba ≠ bb → w'.heap[ba]? = some (.cells xa.toArray ta) → w'.heap[bb]? = some (.cells xb.toArray tb) → pa xa w' → pb xb w' →
        vch P b' Q (upd (upd (upd (upd S1 qa (.agg xa.toArray)) qb (.agg xb.toArray)) da (.pointer (some ⟨ba, 0, none⟩))) db (.pointer (some ⟨bb, 0, none⟩))) w' ⟨⟩) ⟨⟩) : vch P (.seq (.sch t) b') Q S w tk := by
  simp only [Bool.and_eq_true, bne_iff_ne, ne_eq] at hs
  obtain ⟨⟨⟨⟨⟨d1, d2⟩, d3⟩, d4⟩, d5⟩, d6⟩ := hs
  unfold vch qstepsh at *
  show vc P (.sch t) _ S w
  intro w1 he
  refine svc_strip t S ?_
  have h := hk w1 he
  rw [ht]
  refine qsteps_keep l S w1 _ _ (fun S' _ h' => ?_) h
  obtain ⟨pa, pb, h1, h2, h3⟩ := h'
  exact two_svc ⟨da, ta, za, na, qa⟩ ⟨db, tb, zb, nb, qb⟩ ⟨d1, d2, d3, d4, d5, d6⟩ hza hzb ho1 ho2 h1 h2 fun w' xa xb ba bb e1 e2 e3 e4 e5 e6 e7 e8 => h3 w' xa xb ba bb e1 e2 e3 e4 e5 e6 e7 e8
end
end Lite
end
section
/- Processes: what the laws ask: heavy models, the same processes. -/
set_option maxRecDepth 4000
set_option maxHeartbeats 3200000
namespace Go.Proofs.YtpaahhleopalaaaGreatDoor
open Go Go.RowKit Lite
end Go.Proofs.YtpaahhleopalaaaGreatDoor
end
section
/- Processes: what the laws ask: heavy models. -/
set_option maxRecDepth 4000
set_option maxHeartbeats 3200000
namespace Abs
/-- A model that may be gone through. -/
structure HeavyOk (m : Model) : Prop where
  s : m.scalars.length ≤ 10
  v : m.vars.length ≤ 30
  c : m.chans.length ≤ 20
  p : m.procs.length ≤ 20
  q : m.props.length ≤ 20
  i : ∀ p ∈ m.procs, p.vars.length ≤ 20 ∧ p.cmds.length ≤ 30 ∧ ∀ c ∈ p.cmds, c.acts.length ≤ 20 ∧ c.guard.length ≤ 60
end Abs
namespace Go.Proofs.YtpaahhleopalaaaGreatDoor
open Go Go.RowKit Lite
theorem heavy_r (cs : List Value) (m : Abs.Model) (w : World) (h : Abs.ModelIs w cs m) :
    Ret Tryz.prog F.lariatlaw14_Heavy #[.agg cs.toArray] w fun v w' => (v = .int .i64 1 ∨ v = .int .i64 0 ∧ Abs.HeavyOk m) ∧ Ext w w' := by
  obtain ⟨o0, c0, o1, c1, o2, c2, o3, c3, o4, c4, rfl, h0, h1, h2, h3, h4, l0, l1, l2, l3, l4⟩ := h.form
  refine K.start hmix E.lariatlaw14_Heavy (args := [_]) (Nat.le_of_ble_eq_true rfl) ?_; dsimp only [C.lariatlaw14_Heavy]; refine Yy ?_
  refine Sg ?_
  intro w1 b1 hb1 he1 hc1
  refine Sg ?_
  refine K.cond (fun g0 => ?_) (fun g0 => ?_)
  · refine Sg ?_
    exact ⟨.inl (by first | trivial | rfl), he1⟩
  refine Sg ?_
  refine K.cond (fun g1 => ?_) (fun g1 => ?_)
  · refine Sg ?_
    exact ⟨.inl (by first | trivial | rfl), he1⟩
  refine Sg ?_
  refine K.cond (fun g2 => ?_) (fun g2 => ?_)
  · refine Sg ?_
    exact ⟨.inl (by first | trivial | rfl), he1⟩
  refine Sg ?_
  refine K.cond (fun g3 => ?_) (fun g3 => ?_)
  · refine Sg ?_
    exact ⟨.inl (by first | trivial | rfl), he1⟩
  refine Sg ?_
  refine K.cond (fun g4 => ?_) (fun g4 => ?_)
  · refine Sg ?_
    exact ⟨.inl (by first | trivial | rfl), he1⟩
  refine Sg ?_
  refine K.forG 3 m.procs.length [1] (fun _ => []) () (fun k _ w' => Ext w1 w' ∧ ∀ p ∈ m.procs.take k, p.vars.length ≤ 20 ∧ p.cmds.length ≤ 30 ∧ ∀ c ∈ p.cmds, c.acts.length ≤ 20 ∧ c.guard.length ≤ 60) hZq hZq ⟨Ext.refl _, by simp⟩ ?_
  rintro k _ S w2 hk ⟨he2, hall⟩
  refine Sg ?_
  refine K.cond (fun g5 => ?_) (fun g5 => ?_)
  · have hk' : k < m.procs.length := by omega
    obtain ⟨a, rfl⟩ := h3.addr (by omega)
    obtain ⟨_, vv, vc, hp, hpv, hpc⟩ := h3.at k hk'
    obtain ⟨ov, cv, rfl, lv⟩ := hpv.form
    obtain ⟨oc, cc, rfl, lc⟩ := hpc.form
    refine Sg ?_
    intro w3 b3 hb3 he3 hc3
    refine Sg ?_
    refine K.cond (fun g6 => ?_) (fun g6 => ?_)
    · refine Sg ?_
      exact ⟨.inl (by first | trivial | rfl), (he1.trans he2).trans he3⟩
    refine Sg ?_
    refine K.cond (fun g7 => ?_) (fun g7 => ?_)
    · refine Sg ?_
      exact ⟨.inl (by first | trivial | rfl), (he1.trans he2).trans he3⟩
    refine Sg ?_
    refine K.forG 5 m.procs[k].cmds.length [1, 3, 4] (fun _ => []) () (fun j _ w' => Ext w3 w' ∧ ∀ c ∈ m.procs[k].cmds.take j, c.acts.length ≤ 20 ∧ c.guard.length ≤ 60) hZq hZq ⟨Ext.refl _, by simp⟩ ?_
    rintro j _ S w4 hj ⟨he4, hall2⟩
    refine Sg ?_
    refine K.cond (fun g8 => ?_) (fun g8 => ?_)
    · have hj' : j < m.procs[k].cmds.length := by omega
      obtain ⟨a2, rfl⟩ := hpc.addr (by omega)
      obtain ⟨_, vg, va, hcc, hvg, hva⟩ := hpc.at j hj'
      obtain ⟨og, cg, rfl, lg⟩ := hvg.form
      obtain ⟨oa, ca, rfl, la⟩ := hva.form
      refine Sg ?_
      refine K.cond (fun g9 => ?_) (fun g9 => ?_)
      · refine Sg ?_
        exact ⟨.inl (by first | trivial | rfl), ((he1.trans he2).trans he3).trans he4⟩
      refine Sg ?_
      refine K.cond (fun g10 => ?_) (fun g10 => ?_)
      · refine Sg ?_
        exact ⟨.inl (by first | trivial | rfl), ((he1.trans he2).trans he3).trans he4⟩
      refine Sg ?_
      refine ⟨hj', by first | trivial | rfl, (), trivial, he4, fun c hc => ?_⟩
      rw [List.take_succ_eq_append_getElem hj'] at hc
      rcases List.mem_append.1 hc with hc | hc
      · exact hall2 c hc
      · rw [List.mem_singleton] at hc
        subst hc
        exact ⟨by omega, by omega⟩
    · rw [List.take_of_length_le (by omega)] at hall2
      refine Sg ?_
      refine ⟨hk', by first | trivial | rfl, (), trivial, (he2.trans he3).trans he4, fun p hp => ?_⟩
      rw [List.take_succ_eq_append_getElem hk'] at hp
      rcases List.mem_append.1 hp with hp | hp
      · exact hall p hp
      · rw [List.mem_singleton] at hp
        subst hp
        exact ⟨by omega, by omega, hall2⟩
  · rw [List.take_of_length_le (by omega)] at hall
    refine Sg ?_
    exact ⟨.inr ⟨by first | trivial | rfl, by omega, by omega, by omega, by omega, by omega, hall⟩, he1.trans he2⟩
end Go.Proofs.YtpaahhleopalaaaGreatDoor
end
section
/- Lite: functions with a range over a function in them. -/
set_option maxRecDepth 4000
namespace Lite
open Go Go.RowKit
/-- Code with one range over a function in it. -/
inductive RC where
  | rng (g : Operand) (p : Nat) (a b : LC)
  | seqL (x : RC) (y : LC)
  | seqR (x : LC) (y : RC)
  | blk (id : Nat) (x : RC)
def compRC (P : Program) (n : Nat) : Code → Option RC
  | .rangeFunc g ps a b => match ps.toList, comp P n a, comp P n b with
    | [p], some la, some lb => if p < n then some (.rng g p la lb) else none
    | _, _, _ => none
  | .seq x y => match comp P n x with
    | some lx => (compRC P n y).map (.seqR lx)
    | none => match compRC P n x, comp P n y with
      | some rx, some ly => some (.seqL rx ly)
      | _, _ => none
  | .block id x => (compRC P n x).map (.blk id)
  | _ => none
structure RFn where
  n : Nat
  res : List LRes
  code : RC
def compRF (P : Program) (f : FuncId) : Option RFn :=
  match P.funcs[f]? with
  | some fn => match fn.body with
    | some c => match compRC P fn.ntmps c, compResL P fn.results.toList with
      | some lc, some r => some ⟨fn.ntmps, r, lc⟩
      | _, _ => none
    | none => none
  | none => none
/-- What each round keeps. -/
structure KpOk (Kp : World → World → Prop) (B : Nat) : Prop where
  trans : ∀ {a b c : World}, Kp a b → Kp b c → Kp a c
  put : ∀ (W : World) (l : Nat) (o o' : Obj), B ≤ l → W.heap[l]? = some o → o.isCells = false → Kp W (W.putObj l o')
/-- What stood below is as it was, and all cells of these types. -/
def KT (n0 : Nat) (ts : List TypeId) (W W' : World) : Prop := Below n0 W W' ∧ ∀ (k : Nat) (c : Array Value) (t : TypeId) (f : Nat × Nat), W.heap[k]? = some (.cells c t f) → t ∈ ts → W'.heap[k]? = W.heap[k]?
theorem KT.ok {n0 B : Nat} (ts : List TypeId) (h : n0 ≤ B) : KpOk (KT n0 ts) B where
  trans h k := ⟨h.1.trans k.1, fun i c t f hi ht => by rw [← h.2 i c t f hi ht]; exact k.2 i c t f ((h.2 i c t f hi ht).trans hi) ht⟩
  put W l o o' hl ho hc := ⟨(Below.refl n0 W).grown (grownBy_putObj' W l o') (by have := (Array.getElem?_eq_some_iff.1 ho).1; omega) (fun k e => by cases e; omega), fun k c t f hk _ => by
    have hne : l ≠ k := fun e => by subst e; rw [ho] at hk; injection hk with hk; subst hk; cases hc
    exact World.putObj_heap_other (Ne.symm hne)⟩
theorem Ext.kt {n0 : Nat} {ts : List TypeId} {W W' : World} (h : Ext W W') (hn : n0 ≤ W.heap.size) : KT n0 ts W W' := ⟨Below.mono h hn, fun k c t f hk _ => h.heap (lt_of_heap hk)⟩
/-- How a round may be left. -/
def rngPost {α : Type} (Kp : World → World → Prop) (B : Nat) (I : List α → World → Prop) (Ix : LX → List α → World → Prop) (xs : List α) (W : World) : LX → Fr → World → Prop
  | .normal, _, W' => KeepsFrom B W W' ∧ Kp W W' ∧ I xs W'
  | .pan _, _, _ => False
  | e, _, W' => KeepsFrom B W W' ∧ Ix e xs W'
/-- The loop's own record is written. -/
def RecPut (B : Nat) (W W' : World) : Prop := ∃ l, B ≤ l ∧ (∃ o, W.heap[l]? = some o ∧ o.isCells = false) ∧ W.grownBy W' (some l)
def RngVC (P : Program) (g : Value) (p : Nat) (a b : LC) (Q : Nat → LX → Fr → World → Prop) (S : Fr) (w : World) : Prop :=
  ∃ (α : Type) (enc : α → Value) (gf : Nat) (lb : Array Value) (Kp : World → World → Prop) (Sx Sp : List α → Prop) (N : Nat) (w0 : World), g = .func (.func gf) #[] lb ∧ okF P gf = true ∧ SeqStopsK Fence.wide 0 P gf lb (fun x => #[enc x]) Kp Sx Sp N w0 ∧ Ext w0 w ∧ KpOk Kp w.heap.size ∧
  ∃ (I : List α → World → Prop) (Ix : LX → List α → World → Prop), OwnFrom w.heap.size I ∧ (∀ e, OwnFrom w.heap.size (Ix e)) ∧ I [] w ∧
    (∀ pre x W, I pre W → pre.length < N → vc P a (thenQ (fun S1 W1 => KeepsFrom w.heap.size W W1 ∧ Kp W W1 ∧ ∀ W2, RecPut w.heap.size W1 W2 → vc P b (rngPost Kp w.heap.size I Ix (pre ++ [x]) W2) S1 W2) (fun _ _ _ => False)) (upd S p (enc x)) W) ∧
    (∀ D xs W, w.heap.size ≤ D → Sx xs → I xs W → W.heap[D]? = some (.deferred (some [])) → Q D .normal S W) ∧
    (∀ D e pre W, e ≠ .normal → w.heap.size ≤ D → Sp pre → Ix e pre W → W.heap[D]? = some (.deferred (some [])) → Q D e S W)
/-- The statement, where what a round begins with may lay new blocks. -/
theorem rng_law {α : Type} {enc : α → Value} {P : Program} {g : Operand} {p : Nat} {asc body : Code} {Q : Exit → Act → World → Prop} {a : Act} {w w0 : World} {gf : Nat} {lb : Array Value} {Kp : World → World → Prop} {N : Nat} {Sx Sp : List α → Prop}
    (hg : a.eval g = .func (.func gf) #[] lb) (hok : okF P gf = true) (hseq : SeqStopsK Fence.wide 0 P gf lb (fun x => #[enc x]) Kp Sx Sp N w0) (he : Ext w0 w) (hKp : KpOk Kp w.heap.size)
    (I : List α → World → Prop) (Ix : Code → List α → World → Prop) (hI : OwnFrom w.heap.size I) (hIx : ∀ c, OwnFrom w.heap.size (Ix c)) (h0 : I [] w)
    (hround : ∀ l pre x W, I pre W → pre.length < N → asc.wpIn (FR (some l)) 1 P (Exit.then (fun a1 W1 => KeepsFrom w.heap.size W W1 ∧ Kp W W1 ∧
      ∀ W2, RecPut w.heap.size W1 W2 → body.wpIn (FR (some l)) 1 P (ownPostG w.heap.size Kp I Ix (pre ++ [x]) W2) a1 W2) (fun _ _ _ => False)) { tmps := a.tmps.setIfInBounds p (enc x), defers := [] } W)
    (hdone : ∀ D xs W, w.heap.size ≤ D → Sx xs → I xs W → W.heap[D]? = some (.deferred (some [])) → Q .normal { a with defers := { target := .collected D, args := #[] } :: a.defers } W)
    (hstop : ∀ D c pre W, w.heap.size ≤ D → Sp pre → Ix c pre W → W.heap[D]? = some (.deferred (some [])) → c.wpIn Fence.wide 3 P Q { a with defers := { target := .collected D, args := #[] } :: a.defers } W) :
    (Code.rangeFunc g #[p] asc body).wpIn Fence.wide 3 P Q a w := by
  refine wpIn_rangeFunc fun fn hfn => ?_
  obtain ⟨lp, hlp⟩ : ∃ lp : LoopState → Option Code → Loop, lp = fun st pe => { state := st, pending := pe, fn, tmps := a.tmps, params := #[p], assign := asc, body, defers := w.heap.size } := ⟨_, rfl⟩
  obtain ⟨w1, hw1⟩ : ∃ w1, (w.alloc (.deferred (some []))).alloc (.loop (lp .ready none)) = w1 := ⟨_, rfl⟩
  have hz1 : w1.heap.size = w.heap.size + 2 := by rw [← hw1]; simp
  have hr1 : w1.heap[w.heap.size + 1]? = some (.loop (lp .ready none)) := by
    rw [← hw1]
    have := World.alloc_heap_new (w.alloc (.deferred (some []))) (.loop (lp .ready none))
    rwa [World.size_alloc] at this
  have hd1 : w1.heap[w.heap.size]? = some (.deferred (some [])) := by rw [← hw1]; exact (Below.heap_alloc _ _ _ (by simp)).trans (World.alloc_heap_new w _)
  have hi1 : I [] w1 := by rw [← hw1]; exact hI.alloc _ (hI.alloc _ h0)
  have hb1 : Below w0.heap.size w0 w1 := by rw [← hw1]; exact (he.alloc _).alloc _
  have low : ∀ {A B : World} {row : Option Nat}, (∀ r, row = some r → w1.heap.size ≤ r ∧ ∃ o : Obj, A.heap[r]? = some o ∧ o.isWalk = true) → (∀ r, row = some r → w.heap.size ≤ r ∧ ∃ o : Obj, A.heap[r]? = some o ∧ o.isCells = false) :=
    fun hr r e => by obtain ⟨h2, o, ho, hw⟩ := hr r e; exact ⟨by omega, o, ho, Obj.not_cells_of_walk hw⟩
  refine ⟨w.heap.size + 1, [{ target := .collected w.heap.size, args := #[] }], w1, { target := .fn (.func gf) lb, args := #[.func (.yield (w.heap.size + 1)) #[] #[]] }, w1, gf,
    #[.func (.yield (w.heap.size + 1)) #[] #[]] ++ lb, w1, ?_, ?_, fun _ _ => trivial, ?_, fun _ => by decide, ?_⟩
  · rw [← hw1, hlp]; exact run_enterLoop_outer _ _ _ _ _
  · simp only [resolve, hg]
    simp [go_sem]
  · simp [invoke, go_sem, run_callFunc hok]
  refine CallsIn.mono (callsIn_FR (r := none) (callsIn_wide.1 (hseq (w.heap.size + 1)
    (fun pre W => I pre W ∧ W.heap[w.heap.size + 1]? = some (.loop (lp .ready none)) ∧ W.heap[w.heap.size]? = some (.deferred (some [])))
    (fun pre W => ∃ c, Ix c pre W ∧ W.heap[w.heap.size + 1]? = some (.loop (lp .done (some c))) ∧ W.heap[w.heap.size]? = some (.deferred (some [])))
    w1 hb1 ?_ ?_ ?_ ⟨hi1, hr1, hd1⟩))) ?_
  · exact fun s A B row hs hgr hr => ⟨hI s A B row hs.1 hgr (low (B := B) hr), (grownBy_keeps hgr (fun r e => (hr r e).2) hs.2.1 rfl).trans hs.2.1, (grownBy_keeps hgr (fun r e => (hr r e).2) hs.2.2 rfl).trans hs.2.2⟩
  · intro s A B row hs hgr hr
    obtain ⟨c, hc, h2, h3⟩ := hs
    exact ⟨c, hIx c s A B row hc hgr (low (B := B) hr), (grownBy_keeps hgr (fun r e => (hr r e).2) h2 rfl).trans h2, (grownBy_keeps hgr (fun r e => (hr r e).2) h3 rfl).trans h3⟩
  · rintro pre x W ⟨hi, h2, h3⟩ hlen
    have hy := run_yield (P := P) (args := #[enc x]) h2 (by rw [hlp]; rfl)
    rw [hlp] at hy
    refine ⟨fn, _, asc, body, hy, roundIn_FR (r := none) (m := 0 - 1) ?_⟩
    refine (roundIn_of_wpIn (F := Fence.wide) (n := 1) (l := w.heap.size + 1) hfn ?_) |> fun h => ⟨trivial, fun c cs _ => h.2 c cs (room_wide _)⟩
    have hz : (#[p] : Array Tmp).zip #[enc x] = #[(p, enc x)] := by apply Array.ext'; simp [Array.toList_zip]
    have hasg := hround (w.heap.size + 1) pre x W hi hlen
    simp only [hz]
    refine wpIn_mono hasg fun e a1 W1 h => ?_
    cases e with
    | normal =>
      obtain ⟨k1, k2, k3⟩ := h
      have r1 := k1.same _ _ (by omega) h2 rfl
      have d1 := k1.same _ _ (Nat.le_refl _) h3 rfl
      refine ⟨_, run_beginRound r1 (by rw [hlp]), ?_⟩
      have hlt := (Array.getElem?_eq_some_iff.1 r1).1
      have r2 : (W1.putObj (w.heap.size + 1) (.loop { lp .ready none with state := .busy })).heap[w.heap.size + 1]? = some (.loop { lp .ready none with state := .busy }) := World.putObj_heap_same hlt
      have d2 : (W1.putObj (w.heap.size + 1) (.loop { lp .ready none with state := .busy })).heap[w.heap.size]? = some (.deferred (some [])) := (World.putObj_heap_other (by omega)).trans d1
      have b2 : Kp W1 (W1.putObj (w.heap.size + 1) (.loop { lp .ready none with state := .busy })) := hKp.put _ _ _ _ (by omega) r1 rfl
      refine wpIn_mono (k3 _ ⟨_, by omega, ⟨_, r1, rfl⟩, grownBy_putObj' _ _ _⟩) fun e a3 W3 hp => ?_
      have fin : ∀ (jump : Option Code), KeepsFrom w.heap.size (W1.putObj (w.heap.size + 1) (.loop { lp .ready none with state := .busy })) W3 →
          (Instr.endRound (w.heap.size + 1) jump).run P W3 = .ok (.bool jump.isNone) (W3.putObj (w.heap.size + 1) (.loop (lp (if jump.isNone then .ready else .done) jump))) ∧
          W3.heap[w.heap.size + 1]? = some (.loop { lp .ready none with state := .busy }) ∧
          (W3.putObj (w.heap.size + 1) (.loop (lp (if jump.isNone then .ready else .done) jump))).heap[w.heap.size + 1]? = some (.loop (lp (if jump.isNone then .ready else .done) jump)) ∧
          (W3.putObj (w.heap.size + 1) (.loop (lp (if jump.isNone then .ready else .done) jump))).heap[w.heap.size]? = some (.deferred (some [])) := fun jump k4 => by
        have r3 := k4.same _ _ (by omega) r2 rfl
        have := run_endRound (P := P) jump r3
        rw [hlp] at this ⊢
        exact ⟨this, by rw [hlp] at r3; exact r3, World.putObj_heap_same (Array.getElem?_eq_some_iff.1 r3).1, (World.putObj_heap_other (by omega)).trans (k4.same _ _ (Nat.le_refl _) d2 rfl)⟩
      cases e with
      | normal =>
        obtain ⟨q1, q2, q3⟩ := hp
        obtain ⟨f1, f2, f3, f4⟩ := fin none q1
        exact ⟨_, _, f1, .inl ⟨rfl, ⟨hI.putObj _ q3 (by omega) f2 rfl, f3, f4⟩, hKp.trans (hKp.trans (hKp.trans k2 b2) q2) (hKp.put _ _ _ _ (by omega) f2 rfl)⟩⟩
      | ret =>
        obtain ⟨q1, q3⟩ := hp
        obtain ⟨f1, f2, f3, f4⟩ := fin (some .ret) q1
        exact ⟨_, _, f1, .inr ⟨rfl, .ret, (hIx _).putObj _ q3 (by omega) f2 rfl, f3, f4⟩⟩
      | exit id =>
        obtain ⟨q1, q3⟩ := hp
        obtain ⟨f1, f2, f3, f4⟩ := fin (some (.exit id)) q1
        exact ⟨_, _, f1, .inr ⟨rfl, .exit id, (hIx _).putObj _ q3 (by omega) f2 rfl, f3, f4⟩⟩
      | goto t =>
        obtain ⟨q1, q3⟩ := hp
        obtain ⟨f1, f2, f3, f4⟩ := fin (some (.goto t)) q1
        exact ⟨_, _, f1, .inr ⟨rfl, .goto t, (hIx _).putObj _ q3 (by omega) f2 rfl, f3, f4⟩⟩
      | _ => exact hp.elim
    | _ => exact h.elim
  · rintro e W2 ⟨⟨v, rfl⟩, (⟨xs, hS, hi, h2, h3⟩ | ⟨pre, hSp, c, hi, h2, h3⟩)⟩
    · exact ⟨none, _, by have := run_endLoop (P := P) h2 (by rw [hlp]; simp); rw [hlp] at this; exact this, hdone _ xs _ (Nat.le_refl _) hS (hI.putObj _ hi (by omega) h2 rfl) ((World.putObj_heap_other (by omega)).trans h3)⟩
    · exact ⟨some c, _, by have := run_endLoop (P := P) h2 (by rw [hlp]; simp); rw [hlp] at this; exact this, hstop _ c pre _ (Nat.le_refl _) hSp ((hIx c).putObj _ hi (by omega) h2 rfl) ((World.putObj_heap_other (by omega)).trans h3)⟩
def vcR (P : Program) : RC → (Option Nat → LX → Fr → World → Prop) → Fr → World → Prop
  | .rng g p a b, Q, S, w => RngVC P (ev S g) p a b (fun D => Q (some D)) S w
  | .seqL x y, Q, S, w => vcR P x (fun o => thenQ (fun S w => vc P y (Q o) S w) (Q o)) S w
  | .seqR x y, Q, S, w => vc P x (thenQ (fun S w => vcR P y Q S w) (Q none)) S w
  | .blk id x, Q, S, w => vcR P x (fun o => blkQ id (Q o)) S w
def marks : Option Nat → List Deferred
  | none => []
  | some D => [{ target := .collected D, args := #[] }]
def liftRQ (n : Nat) (Q : Option Nat → LX → Fr → World → Prop) : Exit → Act → World → Prop
  | .normal, a, w => ∃ o S, Fits (marks o) a S n ∧ Q o .normal S w
  | .exit i, a, w => ∃ o S, Fits (marks o) a S n ∧ Q o (.exit i) S w
  | .ret, a, w => ∃ o S, Fits (marks o) a S n ∧ Q o .ret S w
  | .panic c, a, w => ∃ o S, Fits (marks o) a S n ∧ Q o (.pan c) S w
  | _, _, _ => False
theorem liftRQ_of {n : Nat} {Q : Option Nat → LX → Fr → World → Prop} {o : Option Nat} {e : Exit} {a : Act} {w : World} (h : liftQ (marks o) n (Q o) e a w) : liftRQ n Q e a w := by
  cases e with
  | normal => obtain ⟨S, h1, h2⟩ := h; exact ⟨o, S, h1, h2⟩
  | exit i => obtain ⟨S, h1, h2⟩ := h; exact ⟨o, S, h1, h2⟩
  | ret => obtain ⟨S, h1, h2⟩ := h; exact ⟨o, S, h1, h2⟩
  | panic c => obtain ⟨S, h1, h2⟩ := h; exact ⟨o, S, h1, h2⟩
  | _ => exact h.elim
theorem soundRC {P : Program} (hm : P.follows .mixedOrders = true) {n : Nat} : ∀ (c : Code) (rc : RC), compRC P n c = some rc → ∀ (Q : Option Nat → LX → Fr → World → Prop) (a : Act) (S : Fr) (w : World), Fits [] a S n → vcR P rc Q S w → c.wpIn Fence.wide 3 P (liftRQ n Q) a w
  | .rangeFunc g ps asc b, rc, h, Q, a, S, w, hf, hv => by
    simp only [compRC] at h
    split at h
    · rename_i p la lb hps ha hb
      split at h
      · rename_i hp
        injection h with h; subst h
        obtain ⟨α, enc, gf, lbs, Kp, Sx, Sp, N, w0, hg, hok, hseq, he, hKp, I, Ix, hI, hIx, h0, hbody, hdone, hstop⟩ := hv
        have hps' : ps = #[p] := by rw [← Array.toArray_toList (xs := ps), hps]
        subst hps'
        refine rng_law (by rw [hf.eval]; exact hg) hok hseq he hKp I (fun c => match c with | .ret => Ix .ret | .exit id => Ix (.exit id) | _ => fun _ _ => False) hI ?_ h0 ?_ ?_ ?_
        · intro c
          split
          · exact hIx _
          · exact hIx _
          · exact fun s W W' row h _ _ => h.elim
        · intro l pre x W hi hl
          have hfx : Fits [] ({ tmps := a.tmps.setIfInBounds p (enc x), defers := [] } : Act) (upd S p (enc x)) n := by
            refine ⟨rfl, by simp [hf.2.1], fun t => ?_⟩
            have := hf.2.2 t
            simp only [upd]
            by_cases ht : t = p
            · subst ht; simp [hf.2.1, hp]
            · have h2 : (a.tmps.setIfInBounds p (enc x))[t]? = a.tmps[t]? := Array.getElem?_setIfInBounds_ne (Ne.symm ht)
              rw [if_neg ht, ← this]
              simp [Array.getD_eq_getD_getElem?, h2]
          refine wpIn_mono (sound (ds := []) (r := some l) hm asc la ha _ _ _ W hfx (hbody pre x W hi hl)) fun e a' W' hq => ?_
          cases e with
          | normal =>
            obtain ⟨S', hf', h1, h2, h3⟩ := hq
            refine ⟨h1, h2, fun W2 h4 => ?_⟩
            refine wpIn_mono (sound (ds := []) (r := some l) hm b lb hb _ _ _ W2 hf' (h3 W2 h4)) fun e a2 W3 hq => ?_
            cases e with
            | normal => obtain ⟨S', _, h1, h2, h3⟩ := hq; exact ⟨h1, h2, h3⟩
            | ret => obtain ⟨S', _, h1, h2⟩ := hq; exact ⟨h1, h2⟩
            | exit id => obtain ⟨S', _, h1, h2⟩ := hq; exact ⟨h1, h2⟩
            | panic c => obtain ⟨S', _, h1⟩ := hq; exact h1.elim
            | _ => exact hq.elim
          | ret => obtain ⟨S', _, h1⟩ := hq; exact h1.elim
          | exit id => obtain ⟨S', _, h1⟩ := hq; exact h1.elim
          | panic c => obtain ⟨S', _, h1⟩ := hq; exact h1.elim
          | _ => exact hq.elim
        · intro D xs W hD hS hi hd
          exact ⟨some D, S, ⟨by rw [hf.1]; rfl, hf.2⟩, hdone D xs W hD hS hi hd⟩
        · intro D c pre W hD hS hi hd
          have hfd : Fits (marks (some D)) { a with defers := { target := .collected D, args := #[] } :: a.defers } S n := ⟨by rw [hf.1]; rfl, hf.2⟩
          split at hi
          · exact wpIn_ret ⟨some D, S, hfd, hstop D .ret pre W (by simp) hD hS hi hd⟩
          · exact wpIn_exit ⟨some D, S, hfd, hstop D (.exit _) pre W (by simp) hD hS hi hd⟩
          · exact hi.elim
      · cases h
    · cases h
  | .seq x y, rc, h, Q, a, S, w, hf, hv => by
    simp only [compRC] at h
    split at h
    · rename_i lx hx
      obtain ⟨ry, hy, rfl⟩ := Option.map_eq_some_iff.1 h
      refine wpIn_seq (wpIn_mono (sound (ds := []) (r := none) (m := 3) hm x lx hx _ a S w hf hv) fun e a' w' hq => ?_)
      cases e with
      | normal => obtain ⟨S', hf', hq⟩ := hq; exact soundRC hm y ry hy Q a' S' w' hf' hq
      | exit i => obtain ⟨S', hf', hq⟩ := hq; exact ⟨none, S', hf', hq⟩
      | ret => obtain ⟨S', hf', hq⟩ := hq; exact ⟨none, S', hf', hq⟩
      | panic c => obtain ⟨S', hf', hq⟩ := hq; exact ⟨none, S', hf', hq⟩
      | _ => exact hq.elim
    · split at h
      · rename_i rx ly hx hy
        injection h with h; subst h
        refine wpIn_seq (wpIn_mono (soundRC hm x rx hx _ a S w hf hv) fun e a' w' hq => ?_)
        cases e with
        | normal =>
          obtain ⟨o, S', hf', hq⟩ := hq
          exact wpIn_mono (sound (ds := marks o) (r := none) (m := 3) hm y ly hy (Q o) a' S' w' hf' hq) fun e a'' w'' h => liftRQ_of h
        | exit i => obtain ⟨o, S', hf', hq⟩ := hq; exact ⟨o, S', hf', hq⟩
        | ret => obtain ⟨o, S', hf', hq⟩ := hq; exact ⟨o, S', hf', hq⟩
        | panic c => obtain ⟨o, S', hf', hq⟩ := hq; exact ⟨o, S', hf', hq⟩
        | _ => exact hq.elim
      · cases h
  | .block id b, rc, h, Q, a, S, w, hf, hv => by
    simp only [compRC] at h
    obtain ⟨rb, hb, rfl⟩ := Option.map_eq_some_iff.1 h
    refine wpIn_block (wpIn_mono (soundRC hm b rb hb _ a S w hf hv) fun e a' w' hq => ?_)
    cases e with
    | normal => obtain ⟨o, S', hf', hq⟩ := hq; exact ⟨o, S', hf', hq⟩
    | ret => obtain ⟨o, S', hf', hq⟩ := hq; exact ⟨o, S', hf', hq⟩
    | panic c => obtain ⟨o, S', hf', hq⟩ := hq; exact ⟨o, S', hf', hq⟩
    | exit i =>
      obtain ⟨o, S', hf', hq⟩ := hq
      simp only [blkQ] at hq
      simp only [Exit.inBlock]
      split at hq
      · rename_i hi; rw [if_pos hi]; exact ⟨o, S', hf', hq⟩
      · rename_i hi; rw [if_neg hi]; exact ⟨o, S', hf', hq⟩
    | _ => exact hq.elim
  | .skip, rc, h, _, _, _, _, _, _ => by simp [compRC] at h
  | .region _ _ _, rc, h, _, _, _, _, _, _ => by simp [compRC] at h
  | .cond _ _ _, rc, h, _, _, _, _, _, _ => by simp [compRC] at h
  | .loop _, rc, h, _, _, _, _, _, _ => by simp [compRC] at h
  | .exit _, rc, h, _, _, _, _, _, _ => by simp [compRC] at h
  | .ret, rc, h, _, _, _, _, _, _ => by simp [compRC] at h
  | .scope _, rc, h, _, _, _, _, _, _ => by simp [compRC] at h
  | .label _, rc, h, _, _, _, _, _, _ => by simp [compRC] at h
  | .goto _, rc, h, _, _, _, _, _, _ => by simp [compRC] at h
  | .refuse _, rc, h, _, _, _, _, _, _ => by simp [compRC] at h
/-- What is asked at the body's end: the mark's calls are taken (there are none). -/
def endRQ (res : List LRes) (R : Value → World → Prop) : Option Nat → LX → Fr → World → Prop
  | none, e, S, w => endQ res R e S w
  | some D, .normal, S, w => w.heap[D]? = some (.deferred (some [])) ∧ resVC res S (setO w D (.deferred none)) fun vs => R (tup vs) (setO w D (.deferred none))
  | some D, .ret, S, w => w.heap[D]? = some (.deferred (some [])) ∧ resVC res S (setO w D (.deferred none)) fun vs => R (tup vs) (setO w D (.deferred none))
  | some _, .exit _, _, _ => False
  | some _, .pan _, _, _ => False
theorem run_take {P : Program} {D : Nat} {w : World} (h : w.heap[D]? = some (.deferred (some []))) : (Instr.takeDeferred D).run P w = .ok [] (setO w D (.deferred none)) := by
  simp [Instr.takeDeferred, Sem.run_bind, getObj, setObj, Sem.run, h, Result.andThen, setO]
theorem enterR {P : Program} {f : FuncId} {L : RFn} (hm : P.follows .mixedOrders = true) (hc : compRF P f = some L) {args : List Value} {w : World} {R : Value → World → Prop} (ha : args.length ≤ L.n)
    (h : vcR P L.code (endRQ L.res R) (fr0 args 0) w) : Ret P f args.toArray w R := by
  unfold compRF at hc
  split at hc
  · rename_i fn hfn
    split at hc
    · rename_i c hb
      split at hc
      · rename_i lc r h1 h2
        injection hc with hc; subst hc
        refine (callsIn_wide (n := 3)).1 (callsIn_of_wp_marks (F := Fence.wide) hfn hb trivial (wpIn_mono (soundRC hm c lc h1 _ _ (fr0 args 0) w ?_ h) ?_))
        · refine ⟨rfl, ?_, fun t => ?_⟩
          · have := ha; simp only at this; simp; omega
          · rw [fr0_at]
            simp only [Nat.zero_le, if_true, Nat.sub_zero]
            by_cases ht : t < args.length
            · simp [Array.getD_eq_getD_getElem?, Array.getElem?_append, ht]
            · simp only [Array.getD_eq_getD_getElem?, Array.getElem?_append, List.size_toArray, if_neg ht, List.getElem?_eq_none (Nat.le_of_not_lt ht), Option.getD_none]
              rw [Array.getElem?_replicate]
              split <;> rfl
        · have fin : ∀ (o : Option Nat) (S : Fr) (a' : Act) (w' : World), Fits (marks o) a' S fn.ntmps → (endRQ r R o .normal S w') → LeavesInM Fence.wide 3 P fn a'.tmps (fun e w' => ∃ v, e = .returned v ∧ R v w') a'.defers .returning w' := by
            intro o S a' w' hf hq
            rw [hf.1]
            cases o with
            | none =>
              obtain ⟨vs, h3, h4⟩ := sound_res hf _ _ _ h2 hq
              exact ⟨_, results_run h3, _, rfl, h4⟩
            | some D =>
              obtain ⟨hd, hq⟩ := hq
              obtain ⟨vs, h3, h4⟩ := sound_res hf _ _ _ h2 hq
              exact ⟨by simp, .inl ⟨D, _, rfl, run_take hd, ⟨_, results_run h3, _, rfl, h4⟩⟩⟩
          intro e a' w' hq
          cases e with
          | normal => obtain ⟨o, S, hf, hq⟩ := hq; exact fin o S a' w' hf hq
          | ret =>
            obtain ⟨o, S, hf, hq⟩ := hq
            refine fin o S a' w' hf ?_
            cases o <;> exact hq
          | exit i => obtain ⟨o, S, hf, hq⟩ := hq; cases o <;> exact hq.elim
          | panic c => obtain ⟨o, S, hf, hq⟩ := hq; cases o <;> exact hq.elim
          | _ => exact hq.elim
      · cases hc
    · cases hc
  · cases hc
end Lite
namespace Lite
open Go Go.RowKit
section
variable {P : Program} {S : Fr} {w : World}
theorem KR.start {f : FuncId} {L : RFn} (hm : P.follows .mixedOrders = true) (hc : compRF P f = some L) {args : List Value} {w : World} {R : Value → World → Prop} (ha : args.length ≤ L.n) (h : vcR P L.code (endRQ L.res R) (fr0 args 0) w) : Ret P f args.toArray w R := enterR hm hc ha h
theorem KR.seqR {x : LC} {y : RC} {Q : Option Nat → LX → Fr → World → Prop} (h : vch P x (thenQh (fun S w => vcR P y Q S w) (Q none) ⟨⟩) S w ⟨⟩) : vcR P (.seqR x y) Q S w := by unfold vch thenQh at h; exact h
theorem KR.seqL {x : RC} {y : LC} {Q : Option Nat → LX → Fr → World → Prop} (h : vcR P x (fun o => thenQh (fun S w => vch P y (Q o) S w ⟨⟩) (Q o) ⟨⟩) S w) : vcR P (.seqL x y) Q S w := by unfold vch thenQh at h; exact h
theorem KR.blk {id : Nat} {x : RC} {Q : Option Nat → LX → Fr → World → Prop} (h : vcR P x (fun o => blkQh id (Q o) ⟨⟩) S w) : vcR P (.blk id x) Q S w := by unfold blkQh at h; exact h
theorem KR.ret {res : List LRes} {R : Value → World → Prop} {D : Nat} (hd : w.heap[D]? = some (.deferred (some []))) (h : resVCh res S (setO w D (.deferred none)) (fun vs => R (tup vs) (setO w D (.deferred none))) ⟨⟩) : endRQ res R (some D) .ret S w := by
  unfold resVCh at h; exact ⟨hd, h⟩
/-- A range over a function, each round going on. -/
theorem KR.rng {α : Type} {enc : α → Value} {g : Operand} {p : Nat} {a b : LC} {Q : Option Nat → LX → Fr → World → Prop} {gf : Nat} {lb : Array Value} {Kp : World → World → Prop} {Sx Sp : List α → Prop} {N : Nat} {w0 : World}
    (hg : ev S g = .func (.func gf) #[] lb) (hok : okF P gf = true) (hseq : SeqStopsK Fence.wide 0 P gf lb (fun x => #[enc x]) Kp Sx Sp N w0) (he : Ext w0 w) (hKp : KpOk Kp w.heap.size)
    (I : List α → World → Prop) (hI : OwnFrom w.heap.size I) (h0 : I [] w)
    (hround : ∀ pre x W, I pre W → pre.length < N → vch P a (thenQh (fun S1 W1 => KeepsFrom w.heap.size W W1 ∧ Kp W W1 ∧ ∀ W2, RecPut w.heap.size W1 W2 →
      vch P b (thenQh (fun _ W' => KeepsFrom w.heap.size W2 W' ∧ Kp W2 W' ∧ I (pre ++ [x]) W') (fun _ _ _ => False) ⟨⟩) S1 W2 ⟨⟩) (fun _ _ _ => False) ⟨⟩) (upd S p (enc x)) W ⟨⟩)
    (hdone : ∀ D xs W, w.heap.size ≤ D → Sx xs → I xs W → W.heap[D]? = some (.deferred (some [])) → Q (some D) .normal S W) : vcR P (.rng g p a b) Q S w := by
  refine ⟨α, enc, gf, lb, Kp, Sx, Sp, N, w0, hg, hok, hseq, he, hKp, I, fun _ _ _ => False, hI, fun _ _ _ _ _ h _ _ => h.elim, h0, fun pre x W hi hl => ?_, hdone, fun D e pre W _ _ _ h _ => h.elim⟩
  have h := hround pre x W hi hl
  unfold vch thenQh at h
  refine vc_keep a _ _ _ W (fun e S1 W1 _ h1 => ?_) h
  cases e with
  | normal =>
    obtain ⟨k1, k2, k3⟩ := h1
    refine ⟨k1, k2, fun W2 hr => ?_⟩
    have h2 := k3 W2 hr
    refine vc_keep b _ _ _ W2 (fun e S2 W3 _ h3 => ?_) h2
    cases e with
    | normal => exact h3
    | exit _ => exact h3.elim
    | ret => exact h3.elim
    | pan _ => exact h3.elim
  | exit _ => exact h1.elim
  | ret => exact h1.elim
  | pan _ => exact h1.elim
/-! ### Worlds in rounds -/
theorem RecPut.cells {B : Nat} {W W' : World} (h : RecPut B W W') {k : Nat} {c : Array Value} {t : TypeId} {f : Nat × Nat} (hk : W.heap[k]? = some (.cells c t f)) : W'.heap[k]? = some (.cells c t f) := by
  obtain ⟨l, hl, ⟨o, ho, hc⟩, hg⟩ := h
  rw [hg.block k (lt_of_heap hk) fun e => by injection e with e; subst e; rw [ho] at hk; injection hk with hk; subst hk; cases hc]
  exact hk
theorem RecPut.mod {B : Nat} {W W' : World} (h : RecPut B W W') : ∃ l, B ≤ l ∧ (∀ c t f, W.heap[l]? ≠ some (.cells c t f)) ∧ Mod (fun k => k = l) W W' := by
  obtain ⟨l, hl, ⟨o, ho, hc⟩, hg⟩ := h
  exact ⟨l, hl, (fun c t f e => by rw [ho] at e; injection e with e; subst e; cases hc), Mod.grown hg fun k e => by injection e with e; exact e.symm⟩
theorem RecPut.ext {B : Nat} {w W W' : World} (h : RecPut B W W') (he : Ext w W) (hB : w.heap.size ≤ B) : Ext w W' := by
  obtain ⟨l, hl, _, hm⟩ := h.mod
  exact hm.ext he fun k hk e => by omega
theorem Ext.keeps {W W' : World} (h : Ext W W') (B : Nat) : KeepsFrom B W W' := ⟨h.size, fun k o _ hk _ => h.obj hk⟩
theorem Mod.keeps {A : Nat → Prop} {B : Nat} {W W' : World} (h : Mod A W W') (hA : ∀ k, B ≤ k → A k → ∃ c t f, W.heap[k]? = some (.cells c t f)) : KeepsFrom B W W' :=
  ⟨h.size, fun k o hB hk hc => h.obj (fun a => by obtain ⟨c, t, f, e⟩ := hA k hB a; rw [hk] at e; injection e with e; subst e; cases hc) hk⟩
theorem Mod.kt {A : Nat → Prop} {n0 : Nat} {ts : List TypeId} {W W' : World} (h : Mod A W W') (hn : n0 ≤ W.heap.size) (h0 : ∀ k, k < n0 → ¬ A k) (hA : ∀ k c t f, A k → W.heap[k]? = some (.cells c t f) → t ∉ ts) : KT n0 ts W W' :=
  ⟨⟨h.os, h.tape, h.output, h.size, fun k hk => h.block k (by omega) (h0 k hk)⟩, fun k c t f hk ht => h.block k (lt_of_heap hk) fun a => hA k c t f a hk ht⟩
theorem Mod.high {A : Nat → Prop} {w W W' : World} {row : Option Nat} (h : Mod A w W) (hg : W.grownBy W' row) (hr : ∀ r, row = some r → w.heap.size ≤ r) : Mod A w W' :=
  h.comp (Mod.grown (A := fun k => row = some k) hg fun k e => e) (fun _ _ a => a) fun i hi e => by have := hr i e; omega
/-- Some blocks may have been written, and cells of some types from some block on. -/
def Chg (lo : Nat) (bs : List Nat) (ts : List TypeId) (W W' : World) : Prop := Mod (fun k => k ∈ bs ∨ (lo ≤ k ∧ ∃ c t f, t ∈ ts ∧ W.heap[k]? = some (.cells c t f))) W W'
theorem Chg.trans {lo : Nat} {bs : List Nat} {ts : List TypeId} {a b c : World} (h : Chg lo bs ts a b) (k : Chg lo bs ts b c) : Chg lo bs ts a c :=
  ⟨k.os.trans h.os, k.tape.trans h.tape, k.output.trans h.output, Nat.le_trans h.size k.size, fun i hi hn => by
    have e := h.block i hi hn
    refine (k.block i (Nat.lt_of_lt_of_le hi h.size) fun a => hn ?_).trans e
    rcases a with a | ⟨a1, c, t, f, a2, a3⟩
    · exact .inl a
    · exact .inr ⟨a1, c, t, f, a2, by rw [← e]; exact a3⟩⟩
theorem Chg.grown {α : Type} {enc : α → List Value} {sz lo : Nat} {e : TypeId} {bs : List Nat} {ts : List TypeId} {W W' : World} {v : Value} {xs : List α} (ho : OwR enc e sz lo W v xs) (hg : W.grownBy W' v.ownBlock) (he : e ∈ ts) : Chg lo bs ts W W' :=
  (Mod.grown (A := fun k => v.ownBlock = some k) hg fun k e => e).weak fun k hk => by
    obtain ⟨cur, h⟩ := ho.blk k hk
    exact .inr ⟨(ho.lt k hk).1, _, _, _, he, h⟩
theorem Chg.keeps {lo B : Nat} {bs : List Nat} {ts : List TypeId} {W W' : World} (h : Chg lo bs ts W W') (hB : ∀ b ∈ bs, b < B) : KeepsFrom B W W' :=
  Mod.keeps h fun k hk a => by
    rcases a with a | ⟨_, c, t, f, _, a⟩
    · have := hB k a; omega
    · exact ⟨c, t, f, a⟩
theorem Chg.kt {lo n0 : Nat} {bs : List Nat} {ts tys : List TypeId} {W W' : World} (h : Chg lo bs ts W W') (hn : n0 ≤ W.heap.size) (h0 : n0 ≤ lo) (hb : ∀ b ∈ bs, n0 ≤ b ∧ ∀ c t f, W.heap[b]? = some (.cells c t f) → t ∉ tys) (ht : ∀ t ∈ ts, t ∉ tys) : KT n0 tys W W' :=
  Mod.kt h hn (fun k hk a => by
    rcases a with a | ⟨a, _⟩
    · have := (hb k a).1; omega
    · omega) fun k c t f a hk => by
    rcases a with a | ⟨_, c', t', f', a1, a2⟩
    · exact (hb k a).2 c t f hk
    · rw [hk] at a2; injection a2 with a2; injection a2 with _ a2; subst a2; exact ht _ a1
theorem Chg.from {bs : List Nat} {ts : List TypeId} {w W W' : World} (h : Mod (fun k => k ∈ bs) w W) (c : Chg w.heap.size bs ts W W') : Mod (fun k => k ∈ bs) w W' :=
  h.comp c (fun _ _ a => a) fun k hk a => by
    rcases a with a | ⟨a, _⟩
    · exact a
    · omega
theorem Chg.obj {lo : Nat} {bs : List Nat} {ts : List TypeId} {W W' : World} (h : Chg lo bs ts W W') {k : Nat} {c : Array Value} {t : TypeId} {f : Nat × Nat} (hk : W.heap[k]? = some (.cells c t f)) (hb : k ∉ bs) (ht : t ∉ ts) : W'.heap[k]? = some (.cells c t f) := by
  rw [Mod.block h k (lt_of_heap hk) fun a => ?_]
  · exact hk
  · rcases a with a | ⟨_, c', t', f', a1, a2⟩
    · exact hb a
    · rw [hk] at a2; injection a2 with a2; injection a2 with _ a2; subst a2; exact ht a1
theorem Chg.ext {lo : Nat} {bs : List Nat} {ts : List TypeId} {w W W' : World} (h : Chg lo bs ts W W') (he : Ext w W) (h0 : w.heap.size ≤ lo) (hb : ∀ b ∈ bs, w.heap.size ≤ b) : Ext w W' :=
  Mod.ext h he fun k hk a => by
    rcases a with a | ⟨a, _⟩
    · have := hb k a; omega
    · omega
end
end Lite
end
section
/- The light code of the functions that range over a function. -/
set_option maxRecDepth 100000
namespace Go.Proofs.YtpaahhleopalaaaGreatDoor
open Go Lite Go.Proofs
def D.slices_AppendSeq_sl_api_Inst_api_Inst : RFn := ⟨13, [.tmp 4],
 (.seqR (.reg [ye 2 (.box T.sl_api_Inst (yt 0)), yw 4 (.const yq)])
 (.seqL (.seqR (.reg [ym 6 1])
 (.blk 0 (.rng (yt 6) 7 (.reg [ye 5 (.new T.api_Inst (.agg #[yo, yo])), yv (.stA 2 (yt 5) (yt 7))]) (.blk 1 (.reg [yl 8 2, yr 9 (.ldA 2 (yt 5)), ye 10 (.bldS T.api_Inst 1 2 [yo, yo] [(0, (yt 9))]), ye 11 (.app T.sl_api_Inst T.api_Inst 2 16 (yt 8) (yt 10)), ys 2 11])))))
 (yR [yl 12 2, ym 4 12]
 .ret)))⟩
theorem ER.slices_AppendSeq_sl_api_Inst_api_Inst : compRF Tryz.prog F.slices_AppendSeq_sl_api_Inst_api_Inst = some D.slices_AppendSeq_sl_api_Inst_api_Inst := by kernel_rfl
end Go.Proofs.YtpaahhleopalaaaGreatDoor
end
section
/- Processes: their instances, gone through. -/
set_option maxRecDepth 4000
set_option maxHeartbeats 3200000
namespace Abs
open Go Go.RowKit Lite
abbrev VInst (m : Model) := {x : Inst // x.of m}
end Abs
namespace Lite
open Go Go.RowKit
theorem Ext.grown0 {w w' : World} (h : Ext w w') : w.grownBy w' none := ⟨h.os, h.tape, h.output, h.size, fun k hk _ => h.heap hk⟩
end Lite
namespace Go.Proofs.YtpaahhleopalaaaGreatDoor
open Go Go.RowKit Lite
theorem elems_r (cs : List Value) (m : Abs.Model) (p : Abs.Proc) (vv vc : Value) (w : World) (h : Abs.ModelIs w cs m) :
    Ret Tryz.prog F.proc_elems #[.agg cs.toArray, .agg (p.enc vv vc).toArray] w fun v w' => v = .int .i64 (Abs.elems m p) ∧ Ext w w' := by
  obtain ⟨o0, c0, o1, c1, o2, c2, o3, c3, o4, c4, rfl, h0, h1, h2, h3, h4, l0, l1, l2, l3, l4⟩ := h.form
  refine K.start hmix E.proc_elems (args := [_, _]) (Nat.le_of_ble_eq_true rfl) ?_; dsimp only [C.proc_elems]; refine Yy ?_
  refine Sg ?_
  intro w1 b1 hb1 he1 hc1
  refine Sg ?_
  intro w2 b2 hb2 he2 hc2
  have E2 : ∀ {w'}, Ext w2 w' → Ext w w' := fun e => (he1.trans he2).trans e
  refine Sg ?_
  rw [Abs.elems]
  refine K.cond (fun g1 => ?_) (fun g1 => ?_)
  · refine Sg ?_
    rw [Abs.nth_none (.inl (by omega))]
    exact ⟨by first | trivial | rfl, E2 (Ext.refl _)⟩
  refine Sg ?_
  refine K.cond (fun g2 => ?_) (fun g2 => ?_)
  · refine Sg ?_
    rw [Abs.nth_none (.inr (by omega))]
    exact ⟨by first | trivial | rfl, E2 (Ext.refl _)⟩
  have hi : (p.over - 1).toNat < m.scalars.length := by omega
  obtain ⟨a, rfl⟩ := h0.addr (by omega)
  rw [Abs.nth_some (by omega) (by omega)]
  refine Sg ?_
  refine K.ian (p.over - 1).toNat (by omega) hi ?_
  refine Sg ?_
  refine K.cond (fun g3 => ?_) (fun g3 => ?_)
  · refine Sg ?_
    refine ⟨?_, E2 (Ext.refl _)⟩
    rw [if_pos (by omega)]; rfl
  refine Sg ?_
  refine K.cond (fun g4 => ?_) (fun g4 => ?_)
  · refine Sg ?_
    refine ⟨?_, E2 (Ext.refl _)⟩
    rw [if_pos (by omega)]; rfl
  refine Sg ?_
  refine ⟨?_, E2 (Ext.refl _)⟩
  rw [if_neg (by omega)]
  congr 1
  omega
theorem refElems_r (cs : List Value) (m : Abs.Model) (p : Abs.Proc) (vv vc : Value) (w : World) (h : Abs.ModelIs w cs m) :
    Ret Tryz.prog F.lariatref14_elems #[.agg cs.toArray, .agg (p.enc vv vc).toArray] w fun v w' => v = .int .i64 (Abs.elems m p) ∧ Ext w w' := by
  obtain ⟨o0, c0, o1, c1, o2, c2, o3, c3, o4, c4, rfl, h0, h1, h2, h3, h4, l0, l1, l2, l3, l4⟩ := h.form
  refine K.start hmix E.lariatref14_elems (args := [_, _]) (Nat.le_of_ble_eq_true rfl) ?_; dsimp only [C.lariatref14_elems]; refine Yy ?_
  refine Sg ?_
  intro w1 b1 hb1 he1 hc1
  refine Sg ?_
  intro w2 b2 hb2 he2 hc2
  have E2 : ∀ {w'}, Ext w2 w' → Ext w w' := fun e => (he1.trans he2).trans e
  refine Sg ?_
  rw [Abs.elems]
  refine K.cond (fun g1 => ?_) (fun g1 => ?_)
  · refine Sg ?_
    rw [Abs.nth_none (.inl (by omega))]
    exact ⟨by first | trivial | rfl, E2 (Ext.refl _)⟩
  refine Sg ?_
  refine K.cond (fun g2 => ?_) (fun g2 => ?_)
  · refine Sg ?_
    rw [Abs.nth_none (.inr (by omega))]
    exact ⟨by first | trivial | rfl, E2 (Ext.refl _)⟩
  have hi : (p.over - 1).toNat < m.scalars.length := by omega
  obtain ⟨a, rfl⟩ := h0.addr (by omega)
  rw [Abs.nth_some (by omega) (by omega)]
  refine Sg ?_
  refine K.ian (p.over - 1).toNat (by omega) hi ?_
  refine Sg ?_
  refine K.cond (fun g3 => ?_) (fun g3 => ?_)
  · refine Sg ?_
    refine ⟨?_, E2 (Ext.refl _)⟩
    rw [if_pos (by omega)]; rfl
  refine Sg ?_
  refine K.cond (fun g4 => ?_) (fun g4 => ?_)
  · refine Sg ?_
    refine ⟨?_, E2 (Ext.refl _)⟩
    rw [if_pos (by omega)]; rfl
  refine Sg ?_
  refine ⟨?_, E2 (Ext.refl _)⟩
  rw [if_neg (by omega)]
  congr 1
  omega
/-- The value of an instance. -/
def instV (x : Abs.Inst) : Value := .agg x.enc.toArray
theorem insts_seq {wm w0 : World} {b : Nat} {cs : List Value} {m : Abs.Model} (hc : w0.heap[b]? = some (.cells cs.toArray T.api_Model)) (h : Abs.ModelIs wm cs m) (hm0 : Ext wm w0) :
    SeqStopsK Fence.wide 0 Tryz.prog F.proc_insts_1 #[.pointer (some ⟨b, 0, none⟩)] (fun x : Abs.VInst m => #[instV x.1]) (KT wm.heap.size [T.api_Proc, T.api_Model]) (fun xs => xs.map Subtype.val = Abs.insts m) (fun _ => True) (Abs.insts m).length w0 := by
  intro l J Jx W hb hJ hJx hy hj0
  have he0 : Ext wm W := hm0.trans hb
  have hcW := Ext.obj (w := w0) hb hc
  obtain ⟨o0, c0, o1, c1, o2, c2, o3, c3, o4, c4, rfl, h0, h1, h2, h3, h4, l0, l1, l2, l3, l4⟩ := h.form
  refine callsIn_wide.2 (Calls.mono (show Ret Tryz.prog F.proc_insts_1 #[.func (.yield l) #[] #[], .pointer (some ⟨b, 0, none⟩)] W (fun _ W' => (∃ xs, xs.map Subtype.val = Abs.insts m ∧ J xs W') ∨ (∃ pre : List (Abs.VInst m), True ∧ Jx pre W')) from ?_) fun e W' ⟨v, e1, e2⟩ => ⟨⟨v, e1⟩, e2⟩)
  have hJe : ∀ {pre : List (Abs.VInst m)} {w w' : World}, J pre w → Ext w w' → J pre w' := fun {pre w w'} hj e => hJ pre w w' none hj e.grown0 (fun r e => by cases e)
  refine K.start hmix E.proc_insts_1 (args := [_, _]) (Nat.le_of_ble_eq_true rfl) ?_; dsimp only [C.proc_insts_1]; refine Yy ?_
  refine Sg ?_
  refine K.forG 9 m.procs.length [0, 1, 7, 8] (fun _ => []) ([] : List (Abs.VInst m)) (fun k pre w' => (Ext wm w' ∧ w'.heap[b]? = some (.cells #[.slice o0 m.scalars.length c0, .slice o1 m.vars.length c1, .slice o2 m.chans.length c2, .slice o3 m.procs.length c3, .slice o4 m.props.length c4] T.api_Model) ∧ J pre w') ∧ pre.map Subtype.val ++ Abs.instsFrom m (m.procs.drop k) k = Abs.insts m) hZq hZq ⟨⟨he0, hcW, hj0⟩, by simp [Abs.insts]⟩ ?_
  clear hcW hc
  rintro k pre S w1 hk ⟨⟨he1, hcb1, hj1⟩, hpre⟩
  refine Sg ?_
  refine K.cond (fun g1 => ?_) (fun g1 => ?_)
  · have hk' : k < m.procs.length := by omega
    obtain ⟨a, rfl⟩ := h3.addr (by omega)
    obtain ⟨hs, vv, vc, hpc, hpv, hpcm⟩ := h3.at k hk'
    obtain ⟨_, _, rfl, _⟩ := hpv.form
    obtain ⟨_, _, rfl, _⟩ := hpcm.form
    rw [Abs.instsFrom_drop hk'] at hpre
    have hb0 := lt_of_heap hcb1
    refine Su ?_
    simp -dsimp only [B9]
    refine Su ?_
    simp -dsimp only [B9]
    refine Su ?_
    intro wN b2 hb2 heN hcN
    refine Su ?_
    intro w2 hwN hc2
    have he2 := hwN.ext heN hb2
    have hcb2 := he2.obj hcb1
    have hj2 := hJe hj1 he2
    have hin : ∀ (q : List (Abs.VInst m)) (r : List Abs.Inst), q.map Subtype.val ++ r = Abs.insts m → r ≠ [] → q.length < (Abs.insts m).length := fun q r e hr => by
      rw [← e, List.length_append, List.length_map]
      have := List.length_pos_iff.2 hr
      omega
    have hel := Abs.elems_le m m.procs[k]
    refine Su ?_
    refine K.cutG [0, 1, 3, 4, 7, 8, 9] (fun _ => []) (fun (pre' : List (Abs.VInst m)) w' => (Ext wm w' ∧ w'.heap[b2]? = w2.heap[b2]? ∧ w'.heap[b]? = w2.heap[b]? ∧ J pre' w') ∧ pre'.map Subtype.val = pre.map Subtype.val ++ Abs.ownI k m.procs[k]) ?_ ?_
    · refine Sg ?_
      refine K.cond (fun g2 => ?_) (fun g2 => ?_)
      · have e1 : Abs.ownI k m.procs[k] = [⟨(k : Int), 0⟩] := by unfold Abs.ownI; rw [if_pos g2]
        rw [e1] at hpre
        refine Sg ?_
        refine K.yield (hy pre ⟨⟨(k : Int), 0⟩, by simp, by simpa using hk', by simp⟩ w2 hj2 (hin pre _ (by simpa [List.append_assoc] using hpre) (by simp))) ?_
        rintro e w3 (⟨rfl, hj3, hk3⟩ | ⟨rfl, hj3⟩)
        · refine ⟨.bool true, rfl, ?_⟩
          refine Sg ?_
          exact ⟨_, trivial, ⟨Below.trans (Ext.trans he1 he2) hk3.1, hk3.2 b2 _ _ _ hc2 (by simp), hk3.2 b _ _ _ hcb2 (by simp), hj3⟩, by simp [e1]⟩
        · refine ⟨.bool false, rfl, ?_⟩
          refine Sg ?_
          exact .inr ⟨_, trivial, hj3⟩
      · have e1 : Abs.ownI k m.procs[k] = [] := by unfold Abs.ownI; rw [if_neg g2]
        refine Sg ?_
        exact ⟨pre, trivial, ⟨he1.trans he2, by first | trivial | rfl, by first | trivial | rfl, hj2⟩, by simp [e1]⟩
    rintro pre1 S w3 ⟨⟨he3, hc3, hcb3, hj3⟩, hp1⟩
    rw [hc2] at hc3
    rw [hcb2] at hcb3
    refine Sg ?_
    refine K.call (elems_r _ m m.procs[k] _ _ w3 (h.ext he3)) ?_
    rintro _ w4 ⟨rfl, he4⟩
    have hj4 := hJe hj3 he4
    have hcb4 := he4.obj hcb3
    have he04 := he3.trans he4
    have hpre2 : pre1.map Subtype.val ++ Abs.overs k (Abs.elems m m.procs[k]) ++ Abs.instsFrom m (m.procs.drop (k + 1)) (k + 1) = Abs.insts m := by rw [hp1, ← hpre]; simp
    refine Sg ?_
    refine K.forG 27 (Abs.elems m m.procs[k]) [0, 1, 3, 7, 8, 9, 26] (fun _ => []) pre1 (fun j pre' w' => (Ext wm w' ∧ w'.heap[b]? = w4.heap[b]? ∧ J pre' w') ∧ pre'.map Subtype.val = pre1.map Subtype.val ++ Abs.overs k j) hZq hZq ⟨⟨he04, rfl, hj4⟩, by simp [Abs.overs]⟩ ?_
    rintro j pre2 S w5 hj ⟨⟨he5, hcb5, hj5⟩, hp2⟩
    rw [hcb4] at hcb5
    refine Sg ?_
    refine K.cond (fun g3 => ?_) (fun g3 => ?_)
    · have hj' : j < Abs.elems m m.procs[k] := by omega
      have hlt : pre2.length < (Abs.insts m).length := by
        have e1 := congrArg List.length hpre2
        have e2 := congrArg List.length hp2
        simp only [List.length_append, List.length_map, Abs.overs, List.length_range] at e1 e2
        omega
      refine Sg ?_
      refine K.yield (hy pre2 ⟨⟨(k : Int), (j : Int) + 1⟩, by simp, by simpa using hk', by constructor <;> simp <;> omega⟩ w5 hj5 hlt) ?_
      rintro e w6 (⟨rfl, hj6, hk6⟩ | ⟨rfl, hj6⟩)
      · refine ⟨.bool true, rfl, ?_⟩
        refine Sg ?_
        exact ⟨hj', by first | trivial | rfl, _, trivial, ⟨Below.trans he5 hk6.1, by rw [hk6.2 b _ _ _ hcb5 (by simp), hcb5, hcb4], hj6⟩, by simp [hp2, Abs.overs_succ]⟩
      · refine ⟨.bool false, rfl, ?_⟩
        refine Sg ?_
        exact .inr ⟨_, trivial, hj6⟩
    · have hjj : j = Abs.elems m m.procs[k] := by omega
      subst hjj
      refine Sg ?_
      exact ⟨hk', by first | trivial | rfl, pre2, trivial, ⟨he5, hcb5, hj5⟩, by rw [hp2]; exact hpre2⟩
  · refine Sg ?_
    rw [List.drop_eq_nil_of_le (by omega)] at hpre
    exact .inl ⟨pre, by simpa [Abs.instsFrom] using hpre, hj1⟩
end Go.Proofs.YtpaahhleopalaaaGreatDoor
end
section
/- Plain: what goes through the instances finds the refs. No program in sight. -/
namespace Abs
open Go
def Inst.key (x : Inst) : Int := 5 * x.proc + x.elem
/-- Few commands: few refs. -/
structure Lim (m : Model) : Prop where
  procs : m.procs.length ≤ 30
  cmds : ∀ p ∈ m.procs, p.cmds.length ≤ 30
/-- Where a ref is. -/
structure RefAt (m : Model) (r : Ref) (i p k : Nat) : Prop where
  hi : i < (insts m).length
  ri : r.inst = i
  ip : (insts m)[i].proc = p
  hp : p < m.procs.length
  rk : r.cmd = k
  hk : k < m.procs[p].cmds.length
theorem RefAt.cmd {m : Model} {r : Ref} {i p k : Nat} (h : RefAt m r i p k) : cmdOf m r = some ((m.procs[p]'(h.hp)).cmds[k]'(h.hk)) := by
  have h1 := h.hi
  have h2 := h.hp
  have h3 := h.hk
  unfold cmdOf
  rw [h.ri, nth_some (by omega) (by omega)]
  simp only [Int.toNat_natCast]
  rw [h.ip, nth_some (by omega) (by omega)]
  simp only [Int.toNat_natCast]
  rw [h.rk, nth_some (by omega) (by omega)]
  simp only [Int.toNat_natCast]
theorem RefAt.fair {m : Model} {r : Ref} {i p k : Nat} (h : RefAt m r i p k) : isFair m r = ((m.procs[p]'(h.hp)).cmds[k]'(h.hk)).fair := by
  unfold isFair; rw [h.cmd]
end Abs
end
section
/- Functions of Go's library that range over functions, by the shape of their code. -/
set_option maxRecDepth 4000
set_option maxHeartbeats 1600000
namespace Lite
open Go Go.RowKit
def appendSeqCode (ts t : TypeId) (sz b : Nat) (z : Array Value) : RFn := ⟨13, [.tmp 4],
 (.seqR (.reg [ye 2 (.box ts (yt 0)), yw 4 (.const (.slice none 0 0))])
 (.seqL (.seqR (.reg [ym 6 1])
 (.blk 0 (.rng (yt 6) 7 (.reg [ye 5 (.new t (.agg z)), yv (.stA sz (yt 5) (yt 7))]) (.blk 1 (.reg [yl 8 2, yr 9 (.ldA sz (yt 5)), ye 10 (.bldS t 1 sz z.toList [(0, (yt 9))]), ye 11 (.app ts t sz b (yt 8) (yt 10)), ys 2 11])))))
 (.seq (.reg [yl 12 2, ym 4 12])
 .ret)))⟩
theorem lay_all : ∀ (vs pre post : List Value), vs.length ≤ post.length → (vs.zipIdx pre.length).foldl (fun cs (x : Value × Nat) => cs.set (0 + x.2) x.1) (pre ++ post) = pre ++ vs ++ post.drop vs.length
  | [], pre, post, _ => by simp
  | v :: vs, pre, [], h => by simp at h
  | v :: vs, pre, p :: post, h => by
    have ih := lay_all vs (pre ++ [v]) post (by simpa using h)
    simp only [List.length_append, List.length_cons, List.length_nil] at ih
    simp only [List.zipIdx_cons, List.foldl_cons, List.length_cons, List.drop_succ_cons]
    rw [show (pre ++ p :: post).set (0 + pre.length) v = (pre ++ [v]) ++ post from by simp, ih]
    simp
theorem fill_one {S : Fr} {sz : Nat} {z cs : List Value} {t : Nat} (ht : S t = .agg cs.toArray) (hc : cs.length = sz) (hz : z.length = sz) (h0 : 0 < sz) : fillC S ((List.range 1).map fun i => (i * sz, sz)) [(0, .tmp t)] z = some cs := by
  have e : lay z 0 (.agg cs.toArray) = cs := by
    have := lay_all cs [] z (by omega)
    simp only [List.nil_append, List.length_nil] at this
    unfold lay
    simp only [Value.cells]
    rw [this, List.drop_eq_nil_of_le (by omega), List.append_nil]
  have e1 : (ev S (.tmp t)).cells.size = sz := by
    show (S t).cells.size = sz
    rw [ht]; simp [Value.cells, hc]
  have e2 : ((List.range 1).map fun i => (i * sz, sz))[0]? = some (0, sz) := by simp
  unfold fillC
  simp only [e2]
  rw [if_pos ⟨e1, by omega⟩]
  unfold fillC
  show some (lay z 0 (S t)) = _
  rw [ht, e]
section
variable {α : Type} {P : Program} {f : FuncId} {t ts : TypeId} {sz b : Nat} {enc : α → List Value} {z : Array Value}
theorem appendSeq_r (hm : P.follows .mixedOrders = true) (hE : compRF P f = some (appendSeqCode ts t sz b z)) (hz : z.size = sz) (hlen : ∀ x, (enc x).length = sz) (hone : ∀ x, ∀ u ∈ enc x, u.oneCell' = true) (hsz : 0 < sz)
    {gf : Nat} {lb : Array Value} {n0 : Nat} {tys : List TypeId} {Sx Sp : List α → Prop} {N : Nat} {w0 w : World} (hok : okF P gf = true)
    (hseq : SeqStopsK Fence.wide 0 P gf lb (fun x => #[.agg (enc x).toArray]) (KT n0 tys) Sx Sp N w0) (he : Ext w0 w) (hn0 : n0 ≤ w.heap.size) (ht : t ∉ tys) (hts : ts ∉ tys) (hne : ts ≠ t) (hN : N * b ≤ 140737488355328) (hN2 : N ≤ maxLen) :
    Ret P f #[.slice none 0 0, .func (.func gf) #[] lb] w fun v w' => (∃ xs, Sx xs ∧ OwR enc t sz w.heap.size w' v xs) ∧ Ext w w' := by
  refine KR.start hm hE (args := [_, _]) (Nat.le_of_ble_eq_true rfl) ?_
  dsimp only [appendSeqCode,yt,yi,yb,yp,yr,ye,yc,yv,yg,ym,yw,ya,yl,yx,ys,yn]
  refine KR.seqR ?_
  refine Sg ?_
  intro w1 b1 hb1 he1 hc1
  refine Sg ?_
  refine KR.seqL (KR.seqR ?_)
  simp -dsimp only [LL,B9,Nat.reduceAdd,Nat.reduceEqDiff,reduceIte,reduceCtorEq,Bool.false_eq_true]
  refine KR.blk (KR.rng (w0 := w0) (enc := fun x => .agg (enc x).toArray) (by simp [ev_tmp, upd_at]) hok hseq (he.trans he1) (KT.ok tys (Nat.le_trans hn0 he1.size))
    (fun pre W => Mod (fun k => k = b1) w1 W ∧ ∃ (oa : Option Addr) (n c : Nat), W.heap[b1]? = some (.cells #[.slice oa n c] ts) ∧ OwR enc t sz w1.heap.size W (.slice oa n c) pre) ?_ ⟨Mod.refl _ _, none, 0, 0, hc1, OwR.nil _ _ _ _ _⟩ ?_ ?_)
  · rintro pre W W' row ⟨hm, oa, n, c, hb, ho⟩ hg hr
    refine ⟨hm.high hg fun r e => (hr r e).1, oa, n, c, ?_, ho.mod (Mod.grown (A := fun k => row = some k) hg fun k e => e) fun k hk a => ?_⟩
    · rw [hg.block b1 (lt_of_heap hb) fun e => ?_]
      · exact hb
      · obtain ⟨o, h1, h2⟩ := (hr b1 e.symm).2
        rw [hb] at h1; injection h1 with h1; subst h1; cases h2
    · obtain ⟨cur, h3⟩ := ho.blk k hk
      obtain ⟨o, h1, h2⟩ := (hr k a).2
      rw [h3] at h1; injection h1 with h1; subst h1; cases h2
  · rintro pre x W ⟨hm, oa, n, c, hcb, ho⟩ hlt
    have hlb := lt_of_heap hc1
    have hsW := hm.size
    try (simp -dsimp only [LL,B9,Nat.reduceAdd,Nat.reduceEqDiff,reduceIte,reduceCtorEq,Bool.false_eq_true])
    refine K.new fun W1 b5 hb5 he5 hc5 => ?_
    try (simp -dsimp only [LL,B9,Nat.reduceAdd,Nat.reduceEqDiff,reduceIte,reduceCtorEq,Bool.false_eq_true])
    refine K.stAb hc5 hz (by simpa using hlen x) (by simpa using hone x) fun W2 hw hc2 => ?_
    try (simp -dsimp only [LL,B9,Nat.reduceAdd,Nat.reduceEqDiff,reduceIte,reduceCtorEq,Bool.false_eq_true])
    have e2 := hw.ext he5 hb5
    refine ⟨e2.keeps _, e2.kt (by omega), fun W3 hrp => ?_⟩
    obtain ⟨l, hl, hlc, hm3⟩ := hrp.mod
    have hc3 := hrp.cells hc2
    have hb3 := hrp.cells (e2.obj hcb)
    have ho3 : OwR enc t sz w1.heap.size W3 (.slice oa n c) pre := (ho.ext e2).mod hm3 fun k hk a => by
      subst a
      obtain ⟨cur, h3⟩ := (ho.ext e2).blk k hk
      exact hlc _ _ _ h3
    try (simp -dsimp only [LL,B9,Nat.reduceAdd,Nat.reduceEqDiff,reduceIte,reduceCtorEq,Bool.false_eq_true])
    refine K.ldb0 hb3 (Ext.refl _) rfl ?_
    try (simp -dsimp only [LL,B9,Nat.reduceAdd,Nat.reduceEqDiff,reduceIte,reduceCtorEq,Bool.false_eq_true])
    refine K.ldA (cellsAt_blk hc3) (hlen x) ?_
    try (simp -dsimp only [LL,B9,Nat.reduceAdd,Nat.reduceEqDiff,reduceIte,reduceCtorEq,Bool.false_eq_true])
    refine K.bldSa (fill_one (cs := enc x) (by simp [upd_at]) (hlen x) (by simpa using hz) hsz) fun W4 b10 hb10 he4 hc4 => ?_
    try (simp -dsimp only [LL,B9,Nat.reduceAdd,Nat.reduceEqDiff,reduceIte,reduceCtorEq,Bool.false_eq_true])
    have hlen1 : pre.length + 1 ≤ N := hlt
    refine K.appAt (ys := [x]) (ho3.ext he4) hlen (by simpa using cellsAt_blk hc4) rfl hone (Nat.le_trans (Nat.mul_le_mul_right b hlen1) hN) (by simp only [List.length_cons, List.length_nil]; omega) (by have := hm3.size; have := he4.size; have := e2.size; omega) fun v' W5 ho5 hg5 hat => ?_
    obtain ⟨oa', cap', rfl, _⟩ := ho5.form
    have hb4 := he4.obj hb3
    have hb5' : W5.heap[b1]? = some (.cells #[.slice oa n c] ts) := by
      rw [hg5.block b1 (lt_of_heap hb4) fun e => ?_]
      · exact hb4
      · obtain ⟨cur, h3⟩ := (ho3.ext he4).blk b1 e.symm
        rw [hb4] at h3; injection h3 with h3; injection h3 with _ h3; exact hne h3
    try (simp -dsimp only [LL,B9,Nat.reduceAdd,Nat.reduceEqDiff,reduceIte,reduceCtorEq,Bool.false_eq_true])
    refine K.st0 hb5' (by simp) rfl fun W6 hw6 hc6 => ?_
    try (simp -dsimp only [LL,B9,Nat.reduceAdd,Nat.reduceEqDiff,reduceIte,reduceCtorEq,Bool.false_eq_true])
    have hown : ∀ k, (Value.slice oa n c).ownBlock = some k → w1.heap.size ≤ k := fun k hk => (ho3.lt k hk).1
    have mA : Mod (fun k => (Value.slice oa n c).ownBlock = some k ∨ k = b1) W4 W6 := (Mod.grown (A := fun k => (Value.slice oa n c).ownBlock = some k) hg5 fun k e => e).comp (A' := fun k => k = b1) (hw6.mod rfl) (fun _ _ a => .inl a) (fun _ _ a => .inr a)
    have mB : Mod (fun k => (Value.slice oa n c).ownBlock = some k ∨ k = b1) W3 W6 := he4.mod.comp mA (A := fun _ => False) (fun _ _ h => h.elim) (fun _ _ h => h)
    refine ⟨mB.keeps fun k hk a => ?_, mB.kt (by have := hm3.size; have := e2.size; omega) (fun k hk a => ?_) (fun k c' t' f' a hk ht' => ?_), ?_, oa', _, cap', hc6, ?_⟩
    · rcases a with a | a
      · obtain ⟨cur, h3⟩ := ho3.blk k a
        exact ⟨_, _, _, h3⟩
      · subst a; exact ⟨_, _, _, hb3⟩
    · rcases a with a | a
      · have := hown k a; have := he1.size; omega
      · omega
    · rcases a with a | a
      · obtain ⟨cur, h3⟩ := ho3.blk k a
        rw [h3] at hk; injection hk with hk; injection hk with _ hk; subst hk; exact ht ht'
      · subst a; rw [hb3] at hk; injection hk with hk; injection hk with _ hk; subst hk; exact hts ht'
    · refine (hm.comp (B := fun k => k = b1) (A' := fun k => (Value.slice oa n c).ownBlock = some k ∨ k = b1 ∨ k = l) ?_ (fun _ _ a => a) fun k hk a => ?_)
      · exact (e2.mod (A := fun _ => False)).comp (hm3.comp mB (fun _ _ a => (Or.inr (Or.inr a) : _ ∨ _ ∨ _)) (fun _ _ a => by rcases a with a | a; exact .inl a; exact .inr (.inl a))) (fun _ _ h => h.elim) (fun _ _ h => h)
      · rcases a with a | a | a
        · have := hown k a; omega
        · exact a
        · omega
    · refine ho5.mod (hw6.mod (A := fun k => k = b1) rfl) fun k hk a => ?_
      subst a
      obtain ⟨cur, h3⟩ := ho5.blk k hk
      rw [hb5'] at h3; injection h3 with h3; injection h3 with _ h3; exact hne h3
  · rintro D xs W hD hS ⟨hm, oa, n, c, hcb, ho⟩ hd
    simp -dsimp only [LL,B9,Nat.reduceAdd,Nat.reduceEqDiff,reduceIte,reduceCtorEq,Bool.false_eq_true]
    refine K.ldb0 hcb (Ext.refl _) rfl ?_
    simp -dsimp only [LL,B9,Nat.reduceAdd,Nat.reduceEqDiff,reduceIte,reduceCtorEq,Bool.false_eq_true]
    refine KR.ret hd ?_
    simp -dsimp only [LL,B9,Nat.reduceAdd,Nat.reduceEqDiff,reduceIte,reduceCtorEq,Bool.false_eq_true]
    have e1 : Ext w W := hm.ext he1 fun k hk e => by omega
    refine ⟨⟨xs, hS, (ho.mod (A := fun k => k = D) ((Wr.setO _ _ _).mod rfl) fun k hk a => ?_).low he1.size⟩, e1.setO (Nat.le_trans he1.size hD) _⟩
    subst a
    obtain ⟨cur, h3⟩ := ho.blk k hk
    rw [hd] at h3; injection h3 with h3; cases h3
end
end Lite
end
section
/- Processes: the instances, the refs. -/
set_option maxRecDepth 4000
set_option maxHeartbeats 3200000
namespace Lite
open Go Go.RowKit
theorem OwR.map {α β : Type} {enc : β → List Value} {g : α → β} {e : TypeId} {sz base : Nat} {w : World} {v : Value} {xs : List α} (h : OwR (fun x => enc (g x)) e sz base w v xs) : OwR enc e sz base w v (xs.map g) := by
  unfold OwR at *
  rw [List.length_map, List.flatMap_map]
  exact h
theorem OwR.slF {α : Type} {enc : α → List Value} {e : TypeId} {sz base : Nat} {w : World} {v : Value} {xs : List α} (hsz : ∀ x, (enc x).length = sz) (h : OwR enc e sz base w v xs) : SlR sz (Flat enc) w v xs := OwR.slr hsz h
/-- A row of one's own is new. -/
theorem OwR.new {α : Type} {enc : α → List Value} {e : TypeId} {sz : Nat} {w w' : World} {v : Value} {xs : List α} (hsz : ∀ x, (enc x).length = sz) (h : OwR enc e sz w.heap.size w' v xs) : New w (fun w => SlR sz (Flat enc) w v xs) w' := fun w2 m =>
  OwR.slr hsz (OwR.mod h m fun k hk a => by have := (h.lt k hk).1; omega)
end Lite
namespace Go.Proofs.YtpaahhleopalaaaGreatDoor
open Go Go.RowKit Lite
abbrev InstsAt (w : World) (v : Value) (l : List Abs.Inst) : Prop := SlR 2 (Flat Abs.Inst.enc) w v l
theorem iter_r (cs : List Value) (m : Abs.Model) (w : World) (h : Abs.ModelIs w cs m) :
    Ret Tryz.prog F.proc_insts #[.agg cs.toArray] w fun v w' => (∃ b, v = .func (.func F.proc_insts_1) #[] #[.pointer (some ⟨b, 0, none⟩)] ∧ w'.heap[b]? = some (.cells cs.toArray T.api_Model)) ∧ Ext w w' := by
  obtain ⟨o0, c0, o1, c1, o2, c2, o3, c3, o4, c4, rfl, _⟩ := h.form
  refine K.start hmix E.proc_insts (args := [_]) (Nat.le_of_ble_eq_true rfl) ?_; dsimp only [C.proc_insts]; refine Yy ?_
  refine Sg ?_
  intro w1 b1 hb1 he1 hc1
  refine Sg ?_
  exact ⟨⟨b1, rfl, hc1⟩, he1⟩
theorem insts_r (cs : List Value) (m : Abs.Model) (w : World) (h : Abs.ModelIs w cs m) (hg : m.good) :
    Ret Tryz.prog F.proc_Insts #[.agg cs.toArray] w fun v w' => OwR Abs.Inst.enc T.api_Inst 2 w.heap.size w' v (Abs.insts m) ∧ Ext w w' := by
  obtain ⟨o0, c0, o1, c1, o2, c2, o3, c3, o4, c4, rfl, _⟩ := h.form
  have hp := hg.procs
  have hl := Abs.insts_len m
  unfold Abs.big at hp
  refine K.start hmix E.proc_Insts (args := [_]) (Nat.le_of_ble_eq_true rfl) ?_; dsimp only [C.proc_Insts]; refine Yy ?_
  refine Sg ?_
  intro w1 b1 hb1 he1 hc1
  refine Sg ?_
  refine K.call (iter_r _ m w1 (h.ext he1)) ?_
  rintro _ w2 ⟨⟨b, rfl, hc2⟩, he2⟩
  have E2 : Ext w w2 := he1.trans he2
  refine Sg ?_
  refine K.call (f := F.slices_Collect_api_Inst) (R := fun v w' => OwR Abs.Inst.enc T.api_Inst 2 w2.heap.size w' v (Abs.insts m) ∧ Ext w2 w') ?_ ?_
  · refine K.start hmix E.slices_Collect_api_Inst (args := [_]) (Nat.le_of_ble_eq_true rfl) ?_; dsimp only [C.slices_Collect_api_Inst]; refine Yy ?_
    refine Sg ?_
    refine K.call (appendSeq_r (α := Abs.VInst m) (enc := fun x => x.1.enc) hmix ER.slices_AppendSeq_sl_api_Inst_api_Inst rfl (fun _ => rfl) (fun x u hu => by simp [Abs.Inst.enc] at hu; rcases hu with rfl | rfl <;> rfl) (by decide) (by kernel_rfl)
      (insts_seq hc2 h E2) (Ext.refl _) E2.size (by decide) (by decide) (by decide) (by omega) (by unfold maxLen; omega)) ?_
    rintro v w3 ⟨⟨xs, hxs, ho⟩, he3⟩
    refine Sg ?_
    exact ⟨by rw [← hxs]; exact ho.map, he3⟩
  · rintro v w3 ⟨ho, he3⟩
    refine Sg ?_
    exact ⟨ho.low E2.size, E2.trans he3⟩
end Go.Proofs.YtpaahhleopalaaaGreatDoor
end
section
/- Processes: the reference's instances, refs; those that are fair. -/
set_option maxRecDepth 4000
set_option maxHeartbeats 3200000
namespace Abs
theorem inst_one : ∀ (y : Inst), ∀ u ∈ y.enc, u.oneCell' = true := by intro y u hu; simp [Inst.enc] at hu; rcases hu with rfl | rfl <;> rfl
end Abs
namespace Go.Proofs.YtpaahhleopalaaaGreatDoor
open Go Go.RowKit Lite
theorem refInsts_r (cs : List Value) (m : Abs.Model) (w : World) (h : Abs.ModelIs w cs m) (hg : m.good) :
    Ret Tryz.prog F.lariatref14_Insts #[.agg cs.toArray] w fun v w' => OwR Abs.Inst.enc T.api_Inst 2 w.heap.size w' v (Abs.insts m) ∧ Ext w w' := by
  obtain ⟨o0, c0, o1, c1, o2, c2, o3, c3, o4, c4, rfl, h0, h1, h2, h3, h4, l0, l1, l2, l3, l4⟩ := h.form
  have hp := hg.procs
  have hl := Abs.insts_len m
  unfold Abs.big at hp
  refine K.start hmix E.lariatref14_Insts (args := [_]) (Nat.le_of_ble_eq_true rfl) ?_; dsimp only [C.lariatref14_Insts]; refine Yy ?_
  refine Sg ?_
  intro w1 b1 hb1 he1 hc1
  refine Sg ?_
  refine K.forG 4 m.procs.length [1] (fun x : SlP × List Abs.Inst => [(3, .slice x.1.1 x.1.2.1 x.1.2.2)]) ((none, 0, 0), []) (fun k x w' => (Ext w w' ∧ w'.heap[b1]? = w1.heap[b1]?) ∧ OwR Abs.Inst.enc T.api_Inst 2 w.heap.size w' (.slice x.1.1 x.1.2.1 x.1.2.2) x.2 ∧ x.2 ++ Abs.instsFrom m (m.procs.drop k) k = Abs.insts m) hZq hZq ⟨⟨he1, rfl⟩, OwR.nil _ _ _ _ _, by simp [Abs.insts]⟩ ?_
  rw [hc1]
  clear hc1
  rintro k ⟨v, l⟩ S w2 hk ⟨⟨he2, hc2⟩, ho2, hl2⟩
  refine Sg ?_
  refine K.cond (fun g1 => ?_) (fun g1 => ?_)
  · have hk' : k < m.procs.length := by omega
    obtain ⟨a, rfl⟩ := h3.addr (by omega)
    obtain ⟨hs, vv, vc, hpc, hpv, hpcm⟩ := h3.at k hk'
    obtain ⟨_, _, rfl, _⟩ := hpv.form
    obtain ⟨_, _, rfl, _⟩ := hpcm.form
    rw [Abs.instsFrom_drop hk'] at hl2
    have hll := congrArg List.length hl2
    simp only [List.length_append] at hll
    have hel := Abs.elems_le m m.procs[k]
    refine Su ?_
    simp -dsimp only [B9]
    refine Su ?_
    refine K.cutG [1, 4] (fun x : SlP => [(3, .slice x.1 x.2.1 x.2.2)]) (fun x w' => (Ext w w' ∧ w'.heap[b1]? = w2.heap[b1]?) ∧ OwR Abs.Inst.enc T.api_Inst 2 w.heap.size w' (.slice x.1 x.2.1 x.2.2) (l ++ Abs.ownI k m.procs[k])) ?_ ?_
    · refine Sg ?_
      refine K.cond (fun g2 => ?_) (fun g2 => ?_)
      · have e1 : Abs.ownI k m.procs[k] = [⟨(k : Int), 0⟩] := by unfold Abs.ownI; rw [if_pos g2]
        rw [e1] at hll ⊢
        simp only [List.length_cons, List.length_nil] at hll
        refine Sg ?_
        intro w3 b3 hb3 he3 hc3
        have ho3 := ho2.ext he3
        have hcb := he3.obj hc2
        refine Sg ?_
        refine K.app1 (y := ⟨(k : Int), 0⟩) ho3 hc3 rfl (fun _ => rfl) Abs.inst_one (by simp only; omega) (by unfold maxLen; simp only; omega) (he2.trans he3).size fun oa n c w4 ho4 hg4 => ?_
        refine Sg ?_
        exact ⟨(oa, n, c), hZq, ⟨ho3.extG (he2.trans he3) hg4 (Nat.le_refl _), by rw [hc2]; exact ho3.box hg4 hcb (by decide)⟩, ho4⟩
      · have e1 : Abs.ownI k m.procs[k] = [] := by unfold Abs.ownI; rw [if_neg g2]
        refine Sg ?_
        exact ⟨v, hZq, ⟨he2, by first | trivial | rfl⟩, by rw [e1, List.append_nil]; exact ho2⟩
    rintro v3 S w3 ⟨⟨he3, hc3⟩, ho3⟩
    rw [hc2] at hc3
    clear hc2
    refine Sg ?_
    refine K.whG [1, 4] (fun x : SlP × Nat => [(3, .slice x.1.1 x.1.2.1 x.1.2.2), (5, .int .i64 ((x.2 : Int) + 1))]) (v3, 0) (fun x w' => (x.2 ≤ Abs.elems m m.procs[k] ∧ Ext w w' ∧ w'.heap[b1]? = w3.heap[b1]?) ∧ OwR Abs.Inst.enc T.api_Inst 2 w.heap.size w' (.slice x.1.1 x.1.2.1 x.1.2.2) (l ++ Abs.ownI k m.procs[k] ++ Abs.overs k x.2)) (fun x => 4 - x.2) hZq ⟨⟨Nat.zero_le _, he3, rfl⟩, by simpa [Abs.overs] using ho3⟩ ?_
    rw [hc3]
    clear hc3
    rintro ⟨v4, j⟩ S w4 ⟨⟨hj, he4, hc4⟩, ho4⟩
    refine Sg ?_
    refine K.qfn _ (fun w' e => refElems_r _ m m.procs[k] _ _ w' (h.ext (he4.trans e))) ?_
    refine Sg ?_
    intro w5 he5
    have hc5 := he5.obj hc4
    have ho5 := ho4.ext he5
    refine Sg ?_
    refine K.cond (fun g2 => ?_) (fun g2 => ?_)
    · have hj' : j < Abs.elems m m.procs[k] := by omega
      refine Sg ?_
      intro w6 b6 hb6 he6 hc6
      have ho6 := ho5.ext he6
      have hcb := he6.obj hc5
      have he06 := (he4.trans he5).trans he6
      refine Sg ?_
      have hlo : (l ++ Abs.ownI k m.procs[k] ++ Abs.overs k j).length + 1 ≤ (Abs.insts m).length := by
        simp only [List.length_append, Abs.overs, List.length_map, List.length_range] at hll ⊢
        omega
      refine K.app1 (y := ⟨(k : Int), (j : Int) + 1⟩) ho6 hc6 rfl (fun _ => rfl) Abs.inst_one (Nat.le_trans (Nat.mul_le_mul_right 16 hlo) (by omega)) (Nat.le_trans hlo (by unfold maxLen; omega)) he06.size fun oa n c w7 ho7 hg7 => ?_
      refine Sg ?_
      exact ⟨((oa, n, c), j + 1), hZq, ⟨⟨by show j + 1 ≤ _; omega, ho6.extG he06 hg7 (Nat.le_refl _), ho6.box hg7 hcb (by decide)⟩, by rw [Abs.overs_succ, ← List.append_assoc]; exact ho7⟩, by show 4 - (j + 1) < 4 - j; omega⟩
    · have hjj : j = Abs.elems m m.procs[k] := by simp only at hj; omega
      refine Sg ?_
      exact ⟨hk', by first | trivial | rfl, (v4, l ++ (Abs.ownI k m.procs[k] ++ Abs.overs k j)), hZq, ⟨he4.trans he5, hc5⟩, by rw [← List.append_assoc]; exact ho5, by rw [hjj, ← hl2]; simp⟩
  · rw [List.drop_eq_nil_of_le (by omega)] at hl2
    refine Sg ?_
    refine ⟨?_, he2⟩
    simp only [Abs.instsFrom, List.append_nil] at hl2
    rw [← hl2]
    exact ho2
end Go.Proofs.YtpaahhleopalaaaGreatDoor
end
section
/- Processes: those that are fair. -/
set_option maxRecDepth 4000
set_option maxHeartbeats 3200000
namespace Lite
open Go
def encN (n : Int) : List Value := [.int .i64 n]
theorem encN_one : ∀ (y : Int), ∀ u ∈ encN y, u.oneCell' = true := by intro y u hu; simp [encN] at hu; subst hu; rfl
instance instCelN : Cel (Flat encN) (fun n => [Value.int .i64 n]) := ⟨fun _ _ _ h => h⟩
end Lite
namespace Go.Proofs.YtpaahhleopalaaaGreatDoor
open Go Go.RowKit Lite
end Go.Proofs.YtpaahhleopalaaaGreatDoor
end
section
/- The machine that works expressions off. -/
set_option maxRecDepth 4000
set_option linter.unusedSimpArgs false
set_option maxHeartbeats 4000000
namespace Go.Proofs.YtpaahhleopalaaaGreatDoor
open Go Go.RowKit Lite

abbrev encI : Int → List Value := fun n => [Value.int .i64 n]
abbrev OwnI (base : Nat) (w : World) (v : Value) (xs : List Int) : Prop := OwR encI T.int 1 base w v xs
structure MachIs (base b : Nat) (w : World) (m : Value) (st : List Int) : Prop where
  ex : ∃ sv, w.heap[b]? = some (.cells #[sv, m] T.expr_machine) ∧ OwnI base w sv st
  lt : b < base
  le : base ≤ w.heap.size
theorem MachIs.ext {base b : Nat} {w w' : World} {m : Value} {st : List Int} (h : MachIs base b w m st) (he : Ext w w') : MachIs base b w' m st :=
  let ⟨sv, h1, h2⟩ := h.ex
  ⟨⟨sv, he.obj h1, h2.ext he⟩, h.lt, Nat.le_trans h.le he.size⟩
theorem getLast_eq (st : List Int) (h : 0 < st.length) : st.getLastD 0 = st[st.length - 1] := by
  rw [List.getLastD_eq_getLast?, List.getLast?_eq_getElem?, List.getElem?_eq_getElem (by omega)]; rfl
theorem top_r (base b : Nat) (w : World) (m : Value) (st : List Int) (h : MachIs base b w m st) (h0 : 0 < st.length) :
    Ret Tryz.prog F.p_expr_machine_top #[.pointer (some ⟨b, 0, none⟩)] w fun v w' => v = .int .i64 (st.getLastD 0) ∧ Ext w w' := by
  obtain ⟨sv, hh, ho⟩ := h.ex
  obtain ⟨oa, cap, rfl, hc, hm⟩ := ho.form
  have hi : Ints w _ st := OwR.slr (enc := encI) (sz := 1) (fun _ => rfl) ho
  obtain ⟨a, rfl⟩ := hi.addr h0
  unfold maxLen at hm
  refine K.start hmix E.p_expr_machine_top (args := [_]) (Nat.le_of_ble_eq_true rfl) ?_
  dsimp only [C.p_expr_machine_top]; refine Yy ?_
  refine St ?_
  refine K.ian (st.length - 1) (by omega) (by omega) ?_
  refine St ?_
  intro w1 he
  refine St ?_
  rw [getLast_eq _ h0]
  (refine ⟨?_, ?_⟩ <;> first | trivial | rfl | (repeat' first | assumption | exact Ext.refl _ | refine Ext.trans ?_ (by assumption)))
/-- What a leaf asks. -/
theorem kleaf_r (x : Abs.Node) (cs : List Value) (s : Abs.Scope) (base b : Nat) (w : World) (m : Value) (st : List Int) (hx : x.ok) (h : Abs.ScopeIs w cs s) (hm : MachIs base b w m st) (h3 : x.op = 3 → 0 < st.length) :
    Ret Tryz.prog F.p_expr_machine_kind #[.pointer (some ⟨b, 0, none⟩), .agg x.enc.toArray, .agg cs.toArray] w fun v w' => v = .tuple #[.int .i64 (Abs.kleaf x s (st.getLastD 0)).1, .int .i64 (Abs.kleaf x s (st.getLastD 0)).2] ∧ Ext w w' := by
  obtain ⟨a0, c0, a1, c1, a2, c2, a3, c3, a4, c4, rfl, q0, q1, q2, q3, q4, l0, l1, l2, l3, l4⟩ := h.form
  refine K.start hmix E.p_expr_machine_kind (args := [_, _, _]) (Nat.le_of_ble_eq_true rfl) ?_
  dsimp only [C.p_expr_machine_kind]; refine Yy ?_
  simp -dsimp only [B9]
  (repeat' first
 | assumption
 | exact Ext.refl _
 | refine Ext.trans ?_ (by assumption)
 | refine K.wrap (by omega) ?_
 | refine K.ldb (by assumption) ?_ rfl ?_
 | refine K.ldb0 (by assumption) ?_ rfl ?_
 | refine K.ldE (by assumption) ?_ (by omega) rfl ?_
 | refine K.ldE0 (by assumption) ?_ (by omega) rfl ?_
 | refine K.ldAE (by assumption) ?_ (by omega) rfl ?_
 | refine K.iaC (by omega) ?_
 | refine K.condT (by first | assumption | omega) ?_
 | refine K.condF (by first | assumption | omega) ?_
 | refine K.condbT (by assumption) ?_
 | refine K.condbF (by assumption) ?_
 | simp -dsimp only [LL,Nat.reduceAdd,Nat.reduceEqDiff,reduceIte,reduceCtorEq,Bool.false_eq_true])
  refine K.new fun w1 b1 hb1 he1 hc1 => ?_
  (repeat' first
 | assumption
 | exact Ext.refl _
 | refine Ext.trans ?_ (by assumption)
 | refine K.wrap (by omega) ?_
 | refine K.ldb (by assumption) ?_ rfl ?_
 | refine K.ldb0 (by assumption) ?_ rfl ?_
 | refine K.ldE (by assumption) ?_ (by omega) rfl ?_
 | refine K.ldE0 (by assumption) ?_ (by omega) rfl ?_
 | refine K.ldAE (by assumption) ?_ (by omega) rfl ?_
 | refine K.iaC (by omega) ?_
 | refine K.condT (by first | assumption | omega) ?_
 | refine K.condF (by first | assumption | omega) ?_
 | refine K.condbT (by assumption) ?_
 | refine K.condbF (by assumption) ?_
 | simp -dsimp only [LL,Nat.reduceAdd,Nat.reduceEqDiff,reduceIte,reduceCtorEq,Bool.false_eq_true])
  refine K.new fun w2 b2 hb2 he2 hc2 => ?_
  have he := he1.trans he2
  have k1 : w2.heap[b1]? = some (.cells #[.int .i64 x.op, .int .i64 x.n] T.api_Node) := he2.obj hc1
  clear hc1
  (repeat' first
 | assumption
 | exact Ext.refl _
 | refine Ext.trans ?_ (by assumption)
 | refine K.wrap (by omega) ?_
 | refine K.ldb (by assumption) ?_ rfl ?_
 | refine K.ldb0 (by assumption) ?_ rfl ?_
 | refine K.ldE (by assumption) ?_ (by omega) rfl ?_
 | refine K.ldE0 (by assumption) ?_ (by omega) rfl ?_
 | refine K.ldAE (by assumption) ?_ (by omega) rfl ?_
 | refine K.iaC (by omega) ?_
 | refine K.condT (by first | assumption | omega) ?_
 | refine K.condF (by first | assumption | omega) ?_
 | refine K.condbT (by assumption) ?_
 | refine K.condbF (by assumption) ?_
 | simp -dsimp only [LL,Nat.reduceAdd,Nat.reduceEqDiff,reduceIte,reduceCtorEq,Bool.false_eq_true])
  simp -dsimp only [B9]
  (repeat' first
 | assumption
 | exact Ext.refl _
 | refine Ext.trans ?_ (by assumption)
 | refine K.wrap (by omega) ?_
 | refine K.ldb (by assumption) ?_ rfl ?_
 | refine K.ldb0 (by assumption) ?_ rfl ?_
 | refine K.ldE (by assumption) ?_ (by omega) rfl ?_
 | refine K.ldE0 (by assumption) ?_ (by omega) rfl ?_
 | refine K.ldAE (by assumption) ?_ (by omega) rfl ?_
 | refine K.iaC (by omega) ?_
 | refine K.condT (by first | assumption | omega) ?_
 | refine K.condF (by first | assumption | omega) ?_
 | refine K.condbT (by assumption) ?_
 | refine K.condbF (by assumption) ?_
 | simp -dsimp only [LL,Nat.reduceAdd,Nat.reduceEqDiff,reduceIte,reduceCtorEq,Bool.false_eq_true])
  refine K.cut (fun S' w' => S' 0 = .pointer (some ⟨b, 0, none⟩) ∧ S' 4 = .pointer (some ⟨b1, 0, none⟩) ∧ S' 5 = .pointer (some ⟨b2, 0, none⟩) ∧ w' = w2 ∧ (x.op = 2 ∨ x.op = 3 ∨ x.op = 4) ∧
    S' 8 = if x.op = 4 then .slice a4 s.locals.length c4 else .slice a1 s.vars.length c1) ?_ ?_
  · refine St ?_
    refine K.cond (fun g1 => ?_) (fun g1 => ?_)
    · refine St ?_
      refine K.call (add_r x.n 0 w2) ?_
      rintro _ w3 ⟨rfl, he3⟩
      have hk : Abs.kleaf x s (st.getLastD 0) = if Abs.within x.n then (0, 0) else (0, 10) := by rw [Abs.kleaf, if_pos g1]
      have ht : (Abs.tell (· + ·) x.n 0).2 = Abs.within x.n := by
        unfold Abs.tell
        have : Abs.within 0 = true := rfl
        simp only [Int.add_zero, this, Bool.and_true, Bool.and_self]
        split <;> simp_all
      rw [hk, ht]
      refine St ?_
      refine K.condb (fun g2 => ?_) (fun g2 => ?_)
      all_goals
        refine St ?_
        rw [g2]
        (refine ⟨?_, ?_⟩ <;> first | trivial | rfl | (repeat' first | assumption | exact Ext.refl _ | refine Ext.trans ?_ (by assumption)))
    refine St ?_
    refine K.cond (fun g4 => ?_) (fun g4 => ?_)
    · refine St ?_
      refine ⟨trivial, trivial, trivial, trivial, .inr (.inr g4), by rw [if_pos g4]⟩
    refine St ?_
    refine K.cond (fun g2 => ?_) (fun g2 => ?_)
    · refine St ?_
      refine ⟨trivial, trivial, trivial, trivial, .inl g2, by rw [if_neg g4]⟩
    refine St ?_
    refine K.cond (fun g3 => ?_) (fun g3 => ?_)
    · refine St ?_
      refine ⟨trivial, trivial, trivial, trivial, .inr (.inl g3), by rw [if_neg g4]⟩
    refine St ?_
    refine K.ldAb (c := [_, _]) k1 (Ext.refl _) rfl ?_
    refine St ?_
    refine K.ldAb (c := [_, _, _, _, _, _]) hc2 (Ext.refl _) rfl ?_
    refine St ?_
    refine K.call (knamed_r x _ s w2 hx (h.ext he)) ?_
    rintro _ w3 ⟨rfl, he3⟩
    refine St ?_
    have hk : Abs.kleaf x s (st.getLastD 0) = Abs.knamed x s := by rw [Abs.kleaf, if_neg g1, if_neg (by omega)]
    rw [hk]
    (refine ⟨?_, ?_⟩ <;> first | trivial | rfl | (repeat' first | assumption | exact Ext.refl _ | refine Ext.trans ?_ (by assumption)))
  · rintro S w' hS ⟨s0, s4, s5, rfl, hop, s8⟩
    have hk : Abs.kleaf x s (st.getLastD 0) = (let q := Abs.kvar (if x.op = 4 then s.locals else s.vars) x.n s; if q.2.2 = false then (0, 8) else if (x.op = 3 ∧ (q.2.1 = 0 ∨ st.getLastD 0 ≠ q.2.1)) ∨ (x.op ≠ 3 ∧ q.2.1 ≠ 0) then (0, 9) else (q.1, 0)) := by
      rw [Abs.kleaf, if_neg (by omega), if_pos hop]
    rw [hk]
    clear hk
    have hv : Abs.Vars w' (S 8) (if x.op = 4 then s.locals else s.vars) := by
      rw [s8]; split
      · exact q4.ext he
      · exact q1.ext he
    generalize (if x.op = 4 then s.locals else s.vars) = l at hv ⊢
    obtain ⟨v8, e8⟩ : ∃ v8, S 8 = v8 := ⟨_, rfl⟩
    rw [e8] at hv
    clear s8
    (repeat' first
 | assumption
 | exact Ext.refl _
 | refine Ext.trans ?_ (by assumption)
 | refine K.wrap (by omega) ?_
 | refine K.ldb (by assumption) ?_ rfl ?_
 | refine K.ldb0 (by assumption) ?_ rfl ?_
 | refine K.ldE (by assumption) ?_ (by omega) rfl ?_
 | refine K.ldE0 (by assumption) ?_ (by omega) rfl ?_
 | refine K.ldAE (by assumption) ?_ (by omega) rfl ?_
 | refine K.iaC (by omega) ?_
 | refine K.condT (by first | assumption | omega) ?_
 | refine K.condF (by first | assumption | omega) ?_
 | refine K.condbT (by assumption) ?_
 | refine K.condbF (by assumption) ?_
 | simp -dsimp only [LL,B9,Nat.reduceAdd,Nat.reduceEqDiff,reduceIte,reduceCtorEq,Bool.false_eq_true,s0, s4, s5, e8])
    refine K.ldAb (c := [_, _, _, _, _, _]) hc2 (Ext.refl _) rfl ?_
    (repeat' first
 | assumption
 | exact Ext.refl _
 | refine Ext.trans ?_ (by assumption)
 | refine K.wrap (by omega) ?_
 | refine K.ldb (by assumption) ?_ rfl ?_
 | refine K.ldb0 (by assumption) ?_ rfl ?_
 | refine K.ldE (by assumption) ?_ (by omega) rfl ?_
 | refine K.ldE0 (by assumption) ?_ (by omega) rfl ?_
 | refine K.ldAE (by assumption) ?_ (by omega) rfl ?_
 | refine K.iaC (by omega) ?_
 | refine K.condT (by first | assumption | omega) ?_
 | refine K.condF (by first | assumption | omega) ?_
 | refine K.condbT (by assumption) ?_
 | refine K.condbF (by assumption) ?_
 | simp -dsimp only [LL,B9,Nat.reduceAdd,Nat.reduceEqDiff,reduceIte,reduceCtorEq,Bool.false_eq_true,s0, s4, s5])
    refine K.call (variable_r _ l x.n _ s w' hv (h.ext he)) ?_
    rintro _ w3 ⟨rfl, he3⟩
    generalize Abs.kvar l x.n s = q
    obtain ⟨qk, qo, qi⟩ := q
    (repeat' first
 | assumption
 | exact Ext.refl _
 | refine Ext.trans ?_ (by assumption)
 | refine K.wrap (by omega) ?_
 | refine K.ldb (by assumption) ?_ rfl ?_
 | refine K.ldb0 (by assumption) ?_ rfl ?_
 | refine K.ldE (by assumption) ?_ (by omega) rfl ?_
 | refine K.ldE0 (by assumption) ?_ (by omega) rfl ?_
 | refine K.ldAE (by assumption) ?_ (by omega) rfl ?_
 | refine K.iaC (by omega) ?_
 | refine K.condT (by first | assumption | omega) ?_
 | refine K.condF (by first | assumption | omega) ?_
 | refine K.condbT (by assumption) ?_
 | refine K.condbF (by assumption) ?_
 | simp -dsimp only [LL,B9,Nat.reduceAdd,Nat.reduceEqDiff,reduceIte,reduceCtorEq,Bool.false_eq_true,s0, s4, s5])
    refine K.condb (fun g1 => ?_) (fun g1 => ?_)
    rotate_left
    · refine St ?_
      simp only [g1, if_true]
      (refine ⟨?_, ?_⟩ <;> first | trivial | rfl | (repeat' first | assumption | exact Ext.refl _ | refine Ext.trans ?_ (by assumption)))
    have m3 := (hm.ext he).ext he3
    (repeat' first
 | assumption
 | exact Ext.refl _
 | refine Ext.trans ?_ (by assumption)
 | refine K.wrap (by omega) ?_
 | refine K.ldb (by assumption) ?_ rfl ?_
 | refine K.ldb0 (by assumption) ?_ rfl ?_
 | refine K.ldE (by assumption) ?_ (by omega) rfl ?_
 | refine K.ldE0 (by assumption) ?_ (by omega) rfl ?_
 | refine K.ldAE (by assumption) ?_ (by omega) rfl ?_
 | refine K.iaC (by omega) ?_
 | refine K.condT (by first | assumption | omega) ?_
 | refine K.condF (by first | assumption | omega) ?_
 | refine K.condbT (by assumption) ?_
 | refine K.condbF (by assumption) ?_
 | simp -dsimp only [LL,B9,Nat.reduceAdd,Nat.reduceEqDiff,reduceIte,reduceCtorEq,Bool.false_eq_true,s0, s4, s5])
    refine K.cond (fun g2 => ?_) (fun g2 => ?_)
    · (repeat' first
 | assumption
 | exact Ext.refl _
 | refine Ext.trans ?_ (by assumption)
 | refine K.wrap (by omega) ?_
 | refine K.ldb (by assumption) ?_ rfl ?_
 | refine K.ldb0 (by assumption) ?_ rfl ?_
 | refine K.ldE (by assumption) ?_ (by omega) rfl ?_
 | refine K.ldE0 (by assumption) ?_ (by omega) rfl ?_
 | refine K.ldAE (by assumption) ?_ (by omega) rfl ?_
 | refine K.iaC (by omega) ?_
 | refine K.condT (by first | assumption | omega) ?_
 | refine K.condF (by first | assumption | omega) ?_
 | refine K.condbT (by assumption) ?_
 | refine K.condbF (by assumption) ?_
 | simp -dsimp only [LL,B9,Nat.reduceAdd,Nat.reduceEqDiff,reduceIte,reduceCtorEq,Bool.false_eq_true,s0, s4, s5])
      refine K.cond (fun g3 => ?_) (fun g3 => ?_)
      · (repeat' first
 | assumption
 | exact Ext.refl _
 | refine Ext.trans ?_ (by assumption)
 | refine K.wrap (by omega) ?_
 | refine K.ldb (by assumption) ?_ rfl ?_
 | refine K.ldb0 (by assumption) ?_ rfl ?_
 | refine K.ldE (by assumption) ?_ (by omega) rfl ?_
 | refine K.ldE0 (by assumption) ?_ (by omega) rfl ?_
 | refine K.ldAE (by assumption) ?_ (by omega) rfl ?_
 | refine K.iaC (by omega) ?_
 | refine K.condT (by first | assumption | omega) ?_
 | refine K.condF (by first | assumption | omega) ?_
 | refine K.condbT (by assumption) ?_
 | refine K.condbF (by assumption) ?_
 | simp -dsimp only [LL,B9,Nat.reduceAdd,Nat.reduceEqDiff,reduceIte,reduceCtorEq,Bool.false_eq_true,s0, s4, s5])
        simp only [g1, Bool.true_eq_false, if_false]
        rw [if_pos (.inl ⟨g2, .inl g3⟩)]
        (refine ⟨?_, ?_⟩ <;> first | trivial | rfl | (repeat' first | assumption | exact Ext.refl _ | refine Ext.trans ?_ (by assumption)))
      (repeat' first
 | assumption
 | exact Ext.refl _
 | refine Ext.trans ?_ (by assumption)
 | refine K.wrap (by omega) ?_
 | refine K.ldb (by assumption) ?_ rfl ?_
 | refine K.ldb0 (by assumption) ?_ rfl ?_
 | refine K.ldE (by assumption) ?_ (by omega) rfl ?_
 | refine K.ldE0 (by assumption) ?_ (by omega) rfl ?_
 | refine K.ldAE (by assumption) ?_ (by omega) rfl ?_
 | refine K.iaC (by omega) ?_
 | refine K.condT (by first | assumption | omega) ?_
 | refine K.condF (by first | assumption | omega) ?_
 | refine K.condbT (by assumption) ?_
 | refine K.condbF (by assumption) ?_
 | simp -dsimp only [LL,B9,Nat.reduceAdd,Nat.reduceEqDiff,reduceIte,reduceCtorEq,Bool.false_eq_true,s0, s4, s5])
      refine K.call (top_r base b w3 m st m3 (h3 g2)) ?_
      rintro _ w4 ⟨rfl, he4⟩
      (repeat' first
 | assumption
 | exact Ext.refl _
 | refine Ext.trans ?_ (by assumption)
 | refine K.wrap (by omega) ?_
 | refine K.ldb (by assumption) ?_ rfl ?_
 | refine K.ldb0 (by assumption) ?_ rfl ?_
 | refine K.ldE (by assumption) ?_ (by omega) rfl ?_
 | refine K.ldE0 (by assumption) ?_ (by omega) rfl ?_
 | refine K.ldAE (by assumption) ?_ (by omega) rfl ?_
 | refine K.iaC (by omega) ?_
 | refine K.condT (by first | assumption | omega) ?_
 | refine K.condF (by first | assumption | omega) ?_
 | refine K.condbT (by assumption) ?_
 | refine K.condbF (by assumption) ?_
 | simp -dsimp only [LL,B9,Nat.reduceAdd,Nat.reduceEqDiff,reduceIte,reduceCtorEq,Bool.false_eq_true,s0, s4, s5])
      refine K.cond (fun g4 => ?_) (fun g4 => ?_)
      · (repeat' first
 | assumption
 | exact Ext.refl _
 | refine Ext.trans ?_ (by assumption)
 | refine K.wrap (by omega) ?_
 | refine K.ldb (by assumption) ?_ rfl ?_
 | refine K.ldb0 (by assumption) ?_ rfl ?_
 | refine K.ldE (by assumption) ?_ (by omega) rfl ?_
 | refine K.ldE0 (by assumption) ?_ (by omega) rfl ?_
 | refine K.ldAE (by assumption) ?_ (by omega) rfl ?_
 | refine K.iaC (by omega) ?_
 | refine K.condT (by first | assumption | omega) ?_
 | refine K.condF (by first | assumption | omega) ?_
 | refine K.condbT (by assumption) ?_
 | refine K.condbF (by assumption) ?_
 | simp -dsimp only [LL,B9,Nat.reduceAdd,Nat.reduceEqDiff,reduceIte,reduceCtorEq,Bool.false_eq_true,s0, s4, s5])
        simp only [g1, Bool.true_eq_false, if_false]
        rw [if_neg (by omega)]
        (refine ⟨?_, ?_⟩ <;> first | trivial | rfl | (repeat' first | assumption | exact Ext.refl _ | refine Ext.trans ?_ (by assumption)))
      · refine St ?_
        simp only [g1, Bool.true_eq_false, if_false]
        rw [if_pos (.inl ⟨g2, .inr g4⟩)]
        (refine ⟨?_, ?_⟩ <;> first | trivial | rfl | (repeat' first | assumption | exact Ext.refl _ | refine Ext.trans ?_ (by assumption)))
    · (repeat' first
 | assumption
 | exact Ext.refl _
 | refine Ext.trans ?_ (by assumption)
 | refine K.wrap (by omega) ?_
 | refine K.ldb (by assumption) ?_ rfl ?_
 | refine K.ldb0 (by assumption) ?_ rfl ?_
 | refine K.ldE (by assumption) ?_ (by omega) rfl ?_
 | refine K.ldE0 (by assumption) ?_ (by omega) rfl ?_
 | refine K.ldAE (by assumption) ?_ (by omega) rfl ?_
 | refine K.iaC (by omega) ?_
 | refine K.condT (by first | assumption | omega) ?_
 | refine K.condF (by first | assumption | omega) ?_
 | refine K.condbT (by assumption) ?_
 | refine K.condbF (by assumption) ?_
 | simp -dsimp only [LL,B9,Nat.reduceAdd,Nat.reduceEqDiff,reduceIte,reduceCtorEq,Bool.false_eq_true,s0, s4, s5])
      refine K.cond (fun g4 => ?_) (fun g4 => ?_)
      all_goals
        refine St ?_
        simp only [g1, Bool.true_eq_false, if_false]
      · rw [if_neg (by omega)]
        (refine ⟨?_, ?_⟩ <;> first | trivial | rfl | (repeat' first | assumption | exact Ext.refl _ | refine Ext.trans ?_ (by assumption)))
      · rw [if_pos (.inr ⟨g2, g4⟩)]
        (refine ⟨?_, ?_⟩ <;> first | trivial | rfl | (repeat' first | assumption | exact Ext.refl _ | refine Ext.trans ?_ (by assumption)))
end Go.Proofs.YtpaahhleopalaaaGreatDoor
end
