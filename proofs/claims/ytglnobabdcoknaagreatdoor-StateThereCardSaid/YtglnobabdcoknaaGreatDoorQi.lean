/- Texts joined: ExprF CmdA CmdB CmdQ CmdC ProcI ProcJ ProcK RefP ExprT ExprG ExprH ExprI ExprJ RefA RefB RefC ModJ LiteM ModA ModD ModE ModF. -/
import Derived.Test.YtglnobabdcoknaaGreatDoorQc
import Derived.Test.YtglnobabdcoknaaGreatDoorQd
import Derived.Test.YtglnobabdcoknaaGreatDoorQf
import Derived.Test.YtglnobabdcoknaaGreatDoorQg
import Derived.Test.YtglnobabdcoknaaGreatDoorQh
import Derived.Maps.RangeRun
set_option linter.all false
section
/- The machine: all steps; the kind of an expression. -/
set_option maxRecDepth 4000
set_option linter.unusedSimpArgs false
set_option maxHeartbeats 4000000
namespace Go.Proofs.YtglnobabdcoknaaGreatDoor
open Go Go.RowKit Lite

theorem run_r (f : Abs.Node → List Int → Int × Int) (two : Abs.OpD → List Int → Int × Int) (leaf : Abs.Node → List Int → Int × Int) (hf : stepRes f two leaf) (good : Int → Prop)
    (b : Nat) (w0 w : World) (hw0 : Ext w0 w) (hb0 : w0.heap.size ≤ b) (ve vl v2 : Value) (e : List Abs.Node) (he : Abs.Nodes w0 ve e) (hb : w.heap[b]? = some (.cells #[.slice none 0 0, .map none] T.expr_machine))
    (hgood : ∀ x st, x.ok → (∀ z ∈ st, good z) → 0 ≤ Abs.nparts x.op → Abs.nparts x.op ≤ st.length → (f x st).2 = 0 → good (f x st).1)
    (hleaf : ∀ x st base m w', x.ok → Mod (fun k => k = b) w w' → MachIs base b w' m st → (∀ z ∈ st, good z) → 0 ≤ Abs.nparts x.op → Abs.nparts x.op ≤ st.length → Abs.opOf x.op = none → ∀ w1 KK t, Ext w' w1 →
      (∀ w'', Ext w1 w'' → KK (.tuple #[.int .i64 (leaf x st).1, .int .i64 (leaf x st).2]) w'') → CallYh Tryz.prog vl [.agg x.enc.toArray] w1 KK t)
    (htwo : ∀ o ov lv l w' KK t, Mod (fun k => k = b) w w' → OpV w' o ov → (∃ x, Abs.opOf x = some o) → o.parts = l.length → Ints w' lv l →
      (∀ w'', Ext w' w'' → KK (.tuple #[.int .i64 (two o l).1, .int .i64 (two o l).2]) w'') → CallVh Tryz.prog v2 [ov, lv] w' KK t) :
    Ret Tryz.prog F.p_expr_machine_run #[.pointer (some ⟨b, 0, none⟩), ve, vl, v2] w fun v w' =>
      v = .tuple #[.int .i64 (Abs.runE f e).1, .int .i64 (Abs.runE f e).2] ∧ Mod (fun k => k = b) w w' := by
  obtain ⟨oa, cap, rfl, hlen⟩ := he.form
  refine K.start hmix E.p_expr_machine_run (args := [_, _, _, _]) (Nat.le_of_ble_eq_true rfl) ?_
  dsimp only [C.p_expr_machine_run]; refine Yy ?_
  refine St ?_
  refine K.cond (fun g1 => ?_) (fun g1 => ?_)
  · refine St ?_
    rw [Abs.runE, if_pos (by omega)]
    exact ⟨rfl, Mod.refl _ _⟩
  refine St ?_
  refine K.cond (fun g2 => ?_) (fun g2 => ?_)
  · refine St ?_
    rw [Abs.runE, if_neg (by omega), if_pos (by omega)]
    exact ⟨rfl, Mod.refl _ _⟩
  refine St ?_
  refine K.call (ops_r w) ?_
  rintro m w1 ⟨hops, he1⟩
  refine St ?_
  refine K.st1 (he1.obj hb) (by decide) (by obtain ⟨r, _, _, _, e, _⟩ := hops; rw [e]; rfl) fun w2 hw2 hc2 => ?_
  have hc2' : w2.heap[b]? = some (.cells #[.slice none 0 0, m] T.expr_machine) := hc2
  clear hc2
  have hops2 : OpsIs w2 m := hops.mod (A := fun k => k = b) (hw2.mod rfl) fun k o h1 h2 hk => by
    subst hk
    rw [he1.obj hb] at h1
    injection h1 with h1
    rcases h2 with ⟨es, c, h2⟩ | ⟨cs, h2⟩
    · rw [h2] at h1; cases h1
    · rw [h2] at h1
      injection h1 with _ h1
      cases h1
  have hm02 : Mod (fun k => k = b) w w2 := he1.mod.trans (hw2.mod rfl)
  have hlt : b < w2.heap.size := lt_of_heap hc2'
  refine St ?_
  refine K.for1 27 e.length (fun k S w' => Mod (fun k => k = b) w2 w' ∧ ∃ st, Abs.runL f (e.take k) [] = (0, st) ∧ MachIs w2.heap.size b w' m st ∧ (0 < k → 1 ≤ st.length) ∧ st.length ≤ 12 ∧ ∀ z ∈ st, good z)
    (by simp -dsimp only [LL,B9,Nat.reduceAdd,Nat.reduceEqDiff,reduceIte,reduceCtorEq,Bool.false_eq_true]) ⟨Mod.refl _ _, [], by simp [Abs.runL], ⟨⟨_, hc2', OwR.nil _ _ _ _ _⟩, hlt, Nat.le_refl _⟩, by simp, by simp, by simp⟩ ?_
  rintro k S w3 hS hk h27 ⟨hmod, st, hrun, hmach, h1st, h12, hgd⟩
  have h0 := hS 0 rfl; have h1 := hS 1 rfl; have h2 := hS 2 rfl; have h3 := hS 3 rfl; have h25 := hS 25 rfl; have h26 := hS 26 rfl; simp only [upd_at, Nat.reduceAdd, Nat.reduceEqDiff, reduceIte, fr0_cons, fr0_nil] at h0 h1 h2 h3 h25 h26; clear hS
  have hm03 : Mod (fun k => k = b) w w3 := hm02.trans hmod
  refine Sw (And.intro h0 (And.intro h1 (And.intro h2 (And.intro h3 (And.intro h25 (And.intro h26 h27)))))) ?_
  refine K.cond (fun g3 => ?_) (fun g3 => ?_)
  · have hk' : k < e.length := by omega
    have h03 : Ext w0 w3 := hm03.ext hw0 fun q hq e => by omega
    obtain ⟨a, rfl⟩ := he.addr (by omega)
    have hxk := (he.at k hk').ok
    have hrs := fun h0 => Abs.runE_err (f := f) (e := e) (by omega) hk' hrun h0
    have hrn := Abs.runL_step hk' hrun
    have hops3 : OpsIs w3 m := hops2.mod (A := fun k => k = b) hmod fun k o h1 h2 hk => by
      subst hk
      rw [hc2'] at h1
      injection h1 with h1
      rcases h2 with ⟨es, c, h2⟩ | ⟨cs, h2⟩
      · rw [h2] at h1; cases h1
      · rw [h2] at h1
        injection h1 with _ h1
        cases h1
    refine Sw (And.intro h0 (And.intro h1 (And.intro h2 (And.intro h3 (And.intro h25 (And.intro h26 h27)))))) ?_
    generalize hx : e[k] = x at *
    refine K.newst (vs := x.enc) (fun _ => by simp -dsimp only [LL,B9,Nat.reduceAdd,Nat.reduceEqDiff,reduceIte,reduceCtorEq,Bool.false_eq_true]) rfl rfl (by simp [Abs.Node.enc, Value.oneCell']) fun w4 b4 hb4 he4 hc4 => ?_
    refine Sw (And.intro h0 (And.intro h1 (And.intro h2 (And.intro h3 (And.intro h25 (And.intro h26 h27)))))) ?_
    refine K.ldAb (c := x.enc) hc4 (Ext.refl _) rfl ?_
    refine Sw (And.intro h0 (And.intro h1 (And.intro h2 (And.intro h3 (And.intro h25 (And.intro h26 h27)))))) ?_
    have hm04 : Mod (fun k => k = b) w w4 := hm03.trans he4.mod
    refine K.call (step_r f two leaf hf x w2.heap.size b w4 m vl v2 st (hmach.ext he4) (hops3.ext he4) (by omega)
      (fun q1 q2 q3 w' KK t hw' hk => hleaf x st _ m w4 hxk hm04 (hmach.ext he4) hgd q1 q2 q3 w' KK t hw' hk)
      (fun o ov lv w' KK t hw' q1 q2 q3 q4 hk => htwo o ov lv _ w' KK t (hm04.trans hw'.mod) q2 ⟨_, q1⟩ (by have := nparts_op q1; simp [List.length_drop]; omega) q4 hk)) ?_
    rintro _ w5 ⟨rfl, hm5, hst5⟩
    have hm05 : Mod (fun k => k = b) w w5 := hm04.then hm5 fun i hi h => by
      rcases h with h | h
      · exact h
      · have := hm02.size; omega
    refine Sw (And.intro h0 (And.intro h1 (And.intro h2 (And.intro h3 (And.intro h25 (And.intro h26 h27)))))) ?_
    refine K.cond (fun g4 => ?_) (fun g4 => ?_)
    rotate_left
    · refine Sw (And.intro h0 (And.intro h1 (And.intro h2 (And.intro h3 (And.intro h25 (And.intro h26 h27)))))) ?_
      rw [hrs g4]
      exact ⟨by first | trivial | rfl, hm05⟩
    have hlen5 := Abs.step_len g4
    have hgood5 : ∀ z ∈ (Abs.stepG f x st).2, good z := by
      have hg := hgood x st hxk hgd
      clear hrs hrn hlen5 hst5
      unfold Abs.stepG at g4 ⊢
      by_cases q1 : Abs.nparts x.op < 0
      · rw [if_pos q1] at g4; cases g4
      by_cases q2 : (st.length : Int) < Abs.nparts x.op
      · rw [if_neg q1, if_pos q2] at g4; cases g4
      by_cases q3 : (f x st).2 ≠ 0
      · rw [if_neg q1, if_neg q2, if_pos q3] at g4; exact absurd g4 q3
      by_cases q4 : (st.take (st.length - (Abs.nparts x.op).toNat) ++ [(f x st).1]).length > 12
      · rw [if_neg q1, if_neg q2, if_neg q3, if_pos q4] at g4; cases g4
      rw [if_neg q1, if_neg q2, if_neg q3, if_neg q4]
      intro z hz
      rcases List.mem_append.1 hz with hz | hz
      · exact hgd z (List.mem_of_mem_take hz)
      · simp at hz; subst hz; exact hg (by omega) (by omega) (by simpa using q3)
    refine Sw (And.intro h0 (And.intro h1 (And.intro h2 (And.intro h3 (And.intro h25 (And.intro h26 h27)))))) ?_
    refine ⟨hk', by first | trivial | rfl, ?_, (Abs.stepG f x st).2, ?_, hst5 g4, fun _ => hlen5.1, hlen5.2, hgood5⟩
    · refine (hmod.trans he4.mod).then hm5 fun i hi h => ?_
      rcases h with h | h
      · exact h
      · omega
    · rw [hrn]; exact Prod.ext g4 rfl
  · have hk' : k = e.length := by omega
    subst hk'
    rw [List.take_length] at hrun
    obtain ⟨sv, hh, hown⟩ := hmach.ex
    obtain ⟨oa', cap', rfl, hcp, hml⟩ := hown.form
    have hi : Ints w3 _ st := OwR.slr (enc := encI) (sz := 1) (fun _ => rfl) hown
    have h1 := h1st (by omega)
    obtain ⟨a, rfl⟩ := hi.addr h1
    have hE : Abs.runE f e = if st.length > 1 then (0, 5) else (st.headD 0, 0) := by
      rw [Abs.runE, if_neg (by omega), if_neg (by omega), hrun, if_neg (by simp)]
    rw [hE]
    clear hE
    refine Sw (And.intro h0 (And.intro h1 (And.intro h2 (And.intro h3 (And.intro h25 (And.intro h26 h27)))))) ?_
    refine K.cond (fun g4 => ?_) (fun g4 => ?_)
    · refine St ?_
      rw [if_pos (by omega)]
      exact ⟨rfl, hm03⟩
    · refine Sw (And.intro h0 (And.intro h1 (And.intro h2 (And.intro h3 (And.intro h25 (And.intro h26 h27)))))) ?_
      refine K.ian 0 rfl (by omega) ?_
      refine St ?_
      rw [if_neg (by omega)]
      have : st.headD 0 = st[0] := by
        cases st with
        | nil => simp at h1
        | cons z st => rfl
      rw [this]
      exact ⟨by first | trivial | rfl, hm03⟩
/-- The kinds that an operation is given. -/
theorem ktwo_r (o : Abs.OpD) (u lv : Value) (l : List Int) (w : World) (hl : Ints w lv l) :
    Ret Tryz.prog F.expr_Kind_2 #[.agg #[.int .i64 o.parts, .int .i64 o.takes, .int .i64 o.makes, u], lv] w fun v w' => v = .tuple #[.int .i64 (Abs.ktwo o l).1, .int .i64 (Abs.ktwo o l).2] ∧ Ext w w' := by
  obtain ⟨oa, cap, rfl, hlen⟩ := hl.form
  refine K.start hmix E.expr_Kind_2 (args := [_, _]) (Nat.le_of_ble_eq_true rfl) ?_
  dsimp only [C.expr_Kind_2]; refine Yy ?_
  refine St ?_
  refine K.new fun w1 b hb he1 hc1 => ?_
  refine St ?_
  refine K.for1 10 l.length (fun k S w' => w' = w1 ∧ (l.take k).all (fun k => (decide (o.takes = -1) || decide (k = o.takes)) && decide (k = l.headD 0)) = true) (by simp -dsimp only [LL,B9,Nat.reduceAdd,Nat.reduceEqDiff,reduceIte,reduceCtorEq,Bool.false_eq_true]) ⟨rfl, by simp⟩ ?_
  rintro k S w2 hS hk h10 ⟨rfl, hall⟩
  have h1 := hS 1 rfl; have h2 := hS 2 rfl; have h8 := hS 8 rfl; have h9 := hS 9 rfl; simp only [upd_at, Nat.reduceAdd, Nat.reduceEqDiff, reduceIte, fr0_cons, fr0_nil] at h1 h2 h8 h9; clear hS
  refine Sw (And.intro h1 (And.intro h2 (And.intro h8 (And.intro h9 h10)))) ?_
  refine K.cond (fun g1 => ?_) (fun g1 => ?_)
  rotate_left
  · rw [List.take_of_length_le (by omega)] at hall
    refine Sw (And.intro h1 (And.intro h2 (And.intro h8 (And.intro h9 h10)))) ?_
    rw [Abs.ktwo, if_pos hall]
    (refine ⟨?_, ?_⟩ <;> first | trivial | rfl | (repeat' first | assumption | exact Ext.refl _ | refine Ext.trans ?_ (by assumption)))
  have hk' : k < l.length := by omega
  obtain ⟨a, rfl⟩ := hl.addr (by omega)
  have hsp : l.take (k + 1) = l.take k ++ [l[k]] := List.take_succ_eq_append_getElem hk'
  have hall2 := List.all_append (xs := l.take (k + 1)) (ys := l.drop (k + 1)) (f := fun k => (decide (o.takes = -1) || decide (k = o.takes)) && decide (k = l.headD 0))
  rw [List.take_append_drop, hsp, List.all_append] at hall2
  have h0 : l.headD 0 = l[0] := by
    cases l with
    | nil => simp at hk'
    | cons z l => rfl
  have hbad : ((decide (o.takes = -1) || decide (l[k] = o.takes)) && decide (l[k] = l.headD 0)) = false → Abs.ktwo o l = (0, 9) := by
    intro h
    rw [Abs.ktwo, if_neg (by rw [hall2]; simp only [List.all_cons, List.all_nil, h]; simp)]
  have hgood : ((decide (o.takes = -1) || decide (l[k] = o.takes)) && decide (l[k] = l.headD 0)) = true → (l.take (k + 1)).all (fun k => (decide (o.takes = -1) || decide (k = o.takes)) && decide (k = l.headD 0)) = true := by
    intro h
    rw [hsp, List.all_append, hall]
    simp only [List.all_cons, List.all_nil, h]; rfl
  rw [h0] at hbad
  clear hall2
  have hp : 0 < l.length := by omega
  have hl1 : Ints w2 (.slice (some a) l.length cap) l := hl.ext he1
  have hg0 := hgood
  rw [h0] at hgood hall
  (repeat' first
 | (refine K.cond (fun _ => ?_) (fun _ => ?_) <;> try (exfalso; omega))
 | (refine K.condb (fun _ => ?_) (fun _ => ?_))
 | assumption
 | exact Ext.refl _
 | refine Ext.trans ?_ (by assumption)
 | refine K.wrap (by omega) ?_
 | refine K.ldb (by assumption) ?_ rfl ?_
 | refine K.ldb0 (by assumption) ?_ rfl ?_
 | refine K.ldE (by assumption) ?_ (by omega) rfl ?_
 | refine K.ldE0 (by assumption) ?_ (by omega) rfl ?_
 | refine K.ldAE (by assumption) ?_ (by omega) rfl ?_
 | refine K.iaC (by omega) ?_
 | refine K.condT (by first | assumption | omega) ?_
 | refine K.condF (by first | assumption | omega) ?_
 | refine K.condbT (by assumption) ?_
 | refine K.condbF (by assumption) ?_
 | simp -dsimp only [LL,B9,Nat.reduceAdd,Nat.reduceEqDiff,reduceIte,reduceCtorEq,Bool.false_eq_true,h1, h2, h8, h9, h10])
  all_goals first
    | (have hh := hbad (by simp; omega); rw [hh]; refine ⟨by first | trivial | rfl, he1⟩)
    | (refine ⟨by omega, by first | trivial | rfl, trivial, ?_⟩; rw [h0]; exact hgood (by simp; omega))
theorem kind1_r (x : Abs.Node) (cs : List Value) (s : Abs.Scope) (base b pm ps : Nat) (w : World) (m : Value) (st : List Int) (tm : TypeId) (hx : x.ok) (h : Abs.ScopeIs w cs s) (hm : MachIs base b w m st) (h3 : x.op = 3 → 0 < st.length)
    (hpm : w.heap[pm]? = some (.cells #[.pointer (some ⟨b, 0, none⟩)] tm)) (hps : w.heap[ps]? = some (.cells cs.toArray T.api_Scope)) :
    Ret Tryz.prog F.expr_Kind_1 #[.agg x.enc.toArray, .pointer (some ⟨pm, 0, none⟩), .pointer (some ⟨ps, 0, none⟩)] w fun v w' =>
      v = .tuple #[.int .i64 (Abs.kleaf x s (st.getLastD 0)).1, .int .i64 (Abs.kleaf x s (st.getLastD 0)).2] ∧ Ext w w' := by
  obtain ⟨v0, v1, v2, v3, v4, rfl, _⟩ := h.ex
  refine K.start hmix E.expr_Kind_1 (args := [_, _, _]) (Nat.le_of_ble_eq_true rfl) ?_
  dsimp only [C.expr_Kind_1]; refine Yy ?_
  refine St ?_
  refine K.new fun w1 b1 hb1 he1 hc1 => ?_
  have k1 : w1.heap[b1]? = some (.cells x.enc.toArray T.api_Node) := hc1
  refine St ?_
  refine K.ldAb (c := x.enc) k1 (Ext.refl _) rfl ?_
  refine St ?_
  refine K.ldAb hps he1 rfl ?_
  refine St ?_
  refine K.call (kleaf_r x _ s base b w1 m st hx (h.ext he1) (hm.ext he1) h3) ?_
  rintro _ w2 ⟨rfl, he2⟩
  refine St ?_
  (refine ⟨?_, ?_⟩ <;> first | trivial | rfl | (repeat' first | assumption | exact Ext.refl _ | refine Ext.trans ?_ (by assumption)))
theorem fKind_step (s : Abs.Scope) : stepRes (Abs.fKind s) Abs.ktwo fun x st => Abs.kleaf x s (st.getLastD 0) := fun _ _ => rfl
theorem kind_r (ve : Value) (e : List Abs.Node) (cs : List Value) (s : Abs.Scope) (w : World) (he : Abs.Nodes w ve e) (h : Abs.ScopeIs w cs s) :
    Ret Tryz.prog F.expr_Kind #[ve, .agg cs.toArray] w fun v w' => v = .tuple #[.int .i64 (Abs.kind e s).1, .int .i64 (Abs.kind e s).2] ∧ Ext w w' := by
  obtain ⟨v0, v1, v2, v3, v4, rfl, _⟩ := h.ex
  refine K.start hmix E.expr_Kind (args := [_, _]) (Nat.le_of_ble_eq_true rfl) ?_
  dsimp only [C.expr_Kind]; refine Yy ?_
  refine St ?_
  refine K.new fun w1 ps hps he1 hc1 => ?_
  refine St ?_
  refine K.bld (cs := [.slice none 0 0, .map none]) (by simp [fillC]) ?_
  refine St ?_
  refine K.new fun w2 b hb he2 hc2 => ?_
  refine St ?_
  refine K.new fun w3 pm hpm he3 hc3 => ?_
  refine St ?_
  refine K.st0 hc3 (by decide) rfl fun w4 hw4 hc4 => ?_
  have hc4' : w4.heap[pm]? = some (.cells #[.pointer (some ⟨b, 0, none⟩)] T.p_expr_machine) := hc4
  have he4 : Ext w2 w4 := hw4.ext he3 hpm
  have hq2 := lt_of_heap hc2
  have hq1 := lt_of_heap hc1
  have hew : Ext w w4 := (he1.trans he2).trans he4
  clear hc4 hw4 he3 hc3
  have hb4 := he4.obj hc2
  have hs4 := he4.obj (he2.obj hc1)
  have z1 := he1.size
  refine St ?_
  refine K.call (run_r (Abs.fKind s) Abs.ktwo (fun x st => Abs.kleaf x s (st.getLastD 0)) (fKind_step s) (fun _ => True) b w w4 hew (by omega) ve _ _ e he hb4 (fun _ _ _ _ _ _ _ => trivial) ?_ ?_) ?_
  · intro x st base m w' hx hm hmach _ q1 q2 q3 w1' KK t hw1 hk
    refine K.callV (first := []) (cap := [.pointer (some ⟨pm, 0, none⟩), .pointer (some ⟨ps, 0, none⟩)]) (by kernel_rfl)
      (kind1_r x _ s base b pm ps w1' m st _ hx (h.ext ((hm.ext hew (by intro k hk e; omega)).trans hw1)) (hmach.ext hw1) ?_ (hw1.obj (hm.obj (by omega) hc4')) (hw1.obj (hm.obj (by omega) hs4))) fun v w'' ⟨h1, h2⟩ => by subst h1; exact hk w'' h2
    intro h3
    have : Abs.nparts x.op = 1 := by rw [h3]; rfl
    omega
  · rintro o ov lv l w' KK t hm ⟨u, rfl, hd⟩ _ hl hi hk
    exact K.callV0 (first := []) (cap := []) (by kernel_rfl) (ktwo_r o u lv l w' hi) fun v w'' ⟨h1, h2⟩ => by subst h1; exact hk w'' h2
  rintro _ w5 ⟨rfl, hm5⟩
  have he5 : Ext w w5 := hm5.ext hew (by intro k hk e; omega)
  refine St ?_
  (refine ⟨?_, ?_⟩ <;> first | trivial | rfl | (repeat' first | assumption | exact Ext.refl _ | refine Ext.trans ?_ (by assumption)))
end Go.Proofs.YtglnobabdcoknaaGreatDoor
end
section
/- Commands: what each function of cmd computes. -/
set_option maxRecDepth 4000
set_option maxHeartbeats 1600000
namespace Abs
open Go Go.RowKit Lite
/-- What declared tells. -/
def DeclV (v : Value) : Option (Var × Int) → Prop
  | some q => v = .tuple #[.agg q.1.enc.toArray, .int .i64 q.2, .bool true]
  | none => ∃ (x : Var) (k : Int), v = .tuple #[.agg x.enc.toArray, .int .i64 k, .bool false]
end Abs
namespace Go.Proofs.YtglnobabdcoknaaGreatDoor
open Go Go.RowKit Lite

theorem cthing_r (a b : Int) (cs : List Value) (s : Abs.Scope) (w : World) (h : Abs.ScopeIs w cs s) :
    Ret Tryz.prog F.cmd_thing #[.int .i64 a, .int .i64 b, .agg cs.toArray] w fun v w' => v = .tuple #[.int .i64 (Abs.thing a b s).1, .bool (Abs.thing a b s).2] ∧ Ext w w' := by
  obtain ⟨a0, c0, a1, c1, a2, c2, a3, c3, a4, c4, rfl, h0, h1, h2, h3, h4, l0, l1, l2, l3, l4⟩ := h.form
  refine K.start hmix E.cmd_thing (args := [_, _, _]) (Nat.le_of_ble_eq_true rfl) ?_; dsimp only [C.cmd_thing]; refine Yy ?_
  refine Sg ?_
  intro w1 b hb he1 hc1
  refine Sg ?_
  (repeat' first
 | (refine K.cond (fun _ => ?_) (fun _ => ?_) <;> try (exfalso; omega))
 | (refine K.condb (fun _ => ?_) (fun _ => ?_))
 | assumption
 | exact Ext.refl _
 | refine Ext.trans ?_ (by assumption)
 | refine K.wrap (by omega) ?_
 | refine K.ldb (by assumption) ?_ rfl ?_
 | refine K.ldb0 (by assumption) ?_ rfl ?_
 | refine K.ldE (by assumption) ?_ (by omega) rfl ?_
 | refine K.ldE0 (by assumption) ?_ (by omega) rfl ?_
 | refine K.ldAE (by assumption) ?_ (by omega) rfl ?_
 | refine K.iaC (by omega) ?_
 | refine K.condT (by first | assumption | omega) ?_
 | refine K.condF (by first | assumption | omega) ?_
 | refine K.condbT (by assumption) ?_
 | refine K.condbF (by assumption) ?_
 | simp -dsimp only [LL,B9,Nat.reduceAdd,Nat.reduceEqDiff,reduceIte,reduceCtorEq,Bool.false_eq_true])
  all_goals
    refine ⟨?_, by (repeat' first | assumption | exact Ext.refl _ | refine Ext.trans ?_ (by assumption))⟩
    unfold Abs.thing
    (repeat' split) <;> first | rfl | (exfalso; omega)
theorem declared_r (v : Value) (l : List Abs.Var) (n : Int) (cs : List Value) (s : Abs.Scope) (w : World) (hl : Abs.Vars w v l) (h : Abs.ScopeIs w cs s) :
    Ret Tryz.prog F.cmd_declared #[v, .int .i64 n, .agg cs.toArray] w fun v w' => Abs.DeclV v (Abs.declared l n s) ∧ Ext w w' := by
  obtain ⟨v0, v1, v2, v3, v4, rfl, _⟩ := h.ex
  obtain ⟨oa, cap, rfl, hlen⟩ := hl.form
  refine K.start hmix E.cmd_declared (args := [_, _, _]) (Nat.le_of_ble_eq_true rfl) ?_; dsimp only [C.cmd_declared]; refine Yy ?_
  refine Sg ?_
  intro w1 b1 hb1 he1 hc1
  refine Sg ?_
  intro w2 b2 hb2 he2 hc2
  have he := he1.trans he2
  refine Sg ?_
  refine K.cond (fun g1 => ?_) (fun g1 => ?_)
  · refine Sg ?_
    intro w3 hw3 hc3
    refine Sg ?_
    rw [Abs.declared, Abs.nth_none (.inl g1)]
    exact ⟨⟨(⟨⟨#[]⟩, 0, 0, 0, 0, 0⟩ : Abs.Var), 0, rfl⟩, hw3.ext he (by have := he1.size; omega)⟩
  refine Sg ?_
  refine K.cond (fun g2 => ?_) (fun g2 => ?_)
  · refine Sg ?_
    intro w3 hw3 hc3
    refine Sg ?_
    rw [Abs.declared, Abs.nth_none (.inr (by omega))]
    exact ⟨⟨(⟨⟨#[]⟩, 0, 0, 0, 0, 0⟩ : Abs.Var), 0, rfl⟩, hw3.ext he (by have := he1.size; omega)⟩
  obtain ⟨i, rfl⟩ := Int.eq_ofNat_of_zero_le (show 0 ≤ n by omega)
  have hi : i < l.length := by omega
  rw [Abs.declared, Abs.nth_some (by omega) (by omega)]
  simp only [Int.toNat_natCast]
  obtain ⟨a, rfl⟩ := hl.addr (by omega)
  refine Sg ?_
  refine K.qfn _ (fun w' e => cthing_r _ _ _ s w' (h.ext (he.trans e))) ?_
  refine Sg ?_
  intro w3 he3
  have hc2 := he3.obj hc2
  refine Sg ?_
  intro w4 hw4 hc4
  refine Sg ?_
  refine ⟨?_, hw4.ext (he.trans he3) (by have := he1.size; omega)⟩
  by_cases hb : (Abs.thing l[i].scalar l[i].over s).2 = true
  · rw [if_pos hb, hb]; rfl
  · rw [if_neg hb, Bool.eq_false_iff.2 hb]; exact ⟨_, _, rfl⟩
theorem channel_r (n : Int) (cs : List Value) (s : Abs.Scope) (w : World) (h : Abs.ScopeIs w cs s) :
    Ret Tryz.prog F.cmd_channel #[.int .i64 n, .agg cs.toArray] w fun v w' => v = .tuple #[.int .i64 ((Abs.channel n s).getD 0), .bool (Abs.channel n s).isSome] ∧ Ext w w' := by
  obtain ⟨a0, c0, a1, c1, a2, c2, a3, c3, a4, c4, rfl, h0, h1, h2, h3, h4, l0, l1, l2, l3, l4⟩ := h.form
  refine K.start hmix E.cmd_channel (args := [_, _]) (Nat.le_of_ble_eq_true rfl) ?_; dsimp only [C.cmd_channel]; refine Yy ?_
  refine Sg ?_
  intro w1 b1 hb1 he1 hc1
  refine Sg ?_
  refine K.cond (fun g1 => ?_) (fun g1 => ?_)
  · refine Sg ?_
    rw [Abs.channel, Abs.nth_none (.inl g1)]
    (refine ⟨?_, ?_⟩ <;> first | trivial | rfl | (repeat' first | assumption | exact Ext.refl _ | refine Ext.trans ?_ (by assumption)))
  refine Sg ?_
  refine K.cond (fun g2 => ?_) (fun g2 => ?_)
  · refine Sg ?_
    rw [Abs.channel, Abs.nth_none (.inr (by omega))]
    (refine ⟨?_, ?_⟩ <;> first | trivial | rfl | (repeat' first | assumption | exact Ext.refl _ | refine Ext.trans ?_ (by assumption)))
  obtain ⟨i, rfl⟩ := Int.eq_ofNat_of_zero_le (show 0 ≤ n by omega)
  have hi : i < s.chans.length := by omega
  rw [Abs.channel, Abs.nth_some (by omega) (by omega)]
  simp only [Int.toNat_natCast]
  obtain ⟨a, rfl⟩ := h2.addr (by omega)
  refine Sg ?_
  refine K.qfn _ (fun w' e => cthing_r _ _ _ s w' (h.ext (he1.trans e))) ?_
  refine Sg ?_
  intro w2 he2
  refine Sg ?_
  refine ⟨?_, by (repeat' first | assumption | exact Ext.refl _ | refine Ext.trans ?_ (by assumption))⟩
  by_cases hb : (Abs.thing s.chans[i].scalar 0 s).2 = true
  · rw [if_pos hb, hb]; rfl
  · rw [if_neg hb, Bool.eq_false_iff.2 hb]
    rw [Abs.thing_false (Bool.eq_false_iff.2 hb)]; rfl
theorem asked_r (ve : Value) (e : List Abs.Node) (k : Int) (cs : List Value) (s : Abs.Scope) (w : World) (hn : Abs.Nodes w ve e) (h : Abs.ScopeIs w cs s) :
    Ret Tryz.prog F.cmd_asked #[ve, .int .i64 k, .agg cs.toArray] w fun v w' => v = .int .i64 (Abs.asked e k s) ∧ Ext w w' := by
  obtain ⟨v0, v1, v2, v3, v4, rfl, _⟩ := h.ex
  refine K.start hmix E.cmd_asked (args := [_, _, _]) (Nat.le_of_ble_eq_true rfl) ?_; dsimp only [C.cmd_asked]; refine Yy ?_
  refine Sg ?_
  intro w1 b1 hb1 he1 hc1
  refine Sg ?_
  refine K.call (kind_r ve e _ s w1 (hn.ext he1) (h.ext he1)) ?_
  rintro _ w2 ⟨rfl, he2⟩
  refine Sg ?_
  rw [Abs.asked]
  refine K.cond (fun g1 => ?_) (fun g1 => ?_)
  · rw [if_neg (by simpa using g1)]
    refine Sg ?_
    refine K.cond (fun g2 => ?_) (fun g2 => ?_)
    · refine Sg ?_
      rw [if_neg (by simpa using g2)]
      (refine ⟨?_, ?_⟩ <;> first | trivial | rfl | (repeat' first | assumption | exact Ext.refl _ | refine Ext.trans ?_ (by assumption)))
    refine Sg ?_
    rw [if_pos g2]
    (refine ⟨?_, ?_⟩ <;> first | trivial | rfl | (repeat' first | assumption | exact Ext.refl _ | refine Ext.trans ?_ (by assumption)))
  refine Sg ?_
  rw [if_pos g1]
  (refine ⟨?_, ?_⟩ <;> first | trivial | rfl | (repeat' first | assumption | exact Ext.refl _ | refine Ext.trans ?_ (by assumption)))
theorem talks_r (a : Abs.Act) (vi vv : Value) (w : World) : Ret Tryz.prog F.cmd_talks #[.agg (a.enc vi vv).toArray] w fun v w' => v = .bool (Abs.talks a) ∧ Ext w w' := by
  refine K.start hmix E.cmd_talks (args := [_]) (Nat.le_of_ble_eq_true rfl) ?_; dsimp only [C.cmd_talks]; refine Yy ?_
  refine Sg ?_
  intro w1 b1 hb1 he1 hc1
  refine Sg ?_
  rw [Abs.talks]
  refine K.cond (fun g1 => ?_) (fun g1 => ?_)
  · refine Sg ?_
    refine ⟨?_, by (repeat' first | assumption | exact Ext.refl _ | refine Ext.trans ?_ (by assumption))⟩
    congr 1; simp [g1]
  refine Sg ?_
  refine ⟨?_, by (repeat' first | assumption | exact Ext.refl _ | refine Ext.trans ?_ (by assumption))⟩
  congr 1; simp [g1]
theorem receives_r (a : Abs.Act) (vi vv : Value) (k : Int) (cs : List Value) (s : Abs.Scope) (w : World) (h : Abs.ScopeIs w cs s) :
    Ret Tryz.prog F.cmd_receives #[.agg (a.enc vi vv).toArray, .int .i64 k, .agg cs.toArray] w fun v w' => v = .int .i64 (Abs.receives a k s) ∧ Ext w w' := by
  obtain ⟨v0, v1, v2, v3, v4, rfl, h0, h1, h2, h3, h4, _⟩ := h.ex
  refine K.start hmix E.cmd_receives (args := [_, _, _]) (Nat.le_of_ble_eq_true rfl) ?_; dsimp only [C.cmd_receives]; refine Yy ?_
  refine Sg ?_
  intro w1 b1 hb1 he1 hc1
  refine Sg ?_
  intro w2 b2 hb2 he2 hc2
  have he := he1.trans he2
  refine Sg ?_
  refine K.call (declared_r v4 s.locals a.loc _ s w2 (h4.ext he) (h.ext he)) ?_
  rintro q w3 ⟨hq, he3⟩
  rw [Abs.receives]
  cases hd : Abs.declared s.locals a.loc s with
  | none =>
    rw [hd] at hq
    obtain ⟨x, k', rfl⟩ := hq
    refine Sg ?_
    intro w4 b4 hb4 he4 hc4
    refine Sg ?_
    (refine ⟨?_, ?_⟩ <;> first | trivial | rfl | (repeat' first | assumption | exact Ext.refl _ | refine Ext.trans ?_ (by assumption)))
  | some q =>
    obtain ⟨x, k'⟩ := q
    rw [hd] at hq
    subst hq
    refine Sg ?_
    intro w4 b4 hb4 he4 hc4
    refine Sg ?_
    refine K.cond (fun g1 => ?_) (fun g1 => ?_)
    · refine Sg ?_
      refine K.cond (fun g2 => ?_) (fun g2 => ?_)
      · refine Sg ?_
        simp only [g1, g2, ne_eq, not_true_eq_false, or_self, if_false]
        (refine ⟨?_, ?_⟩ <;> first | trivial | rfl | (repeat' first | assumption | exact Ext.refl _ | refine Ext.trans ?_ (by assumption)))
      refine Sg ?_
      simp only [g2, ne_eq, not_false_eq_true, or_true, if_true]
      (refine ⟨?_, ?_⟩ <;> first | trivial | rfl | (repeat' first | assumption | exact Ext.refl _ | refine Ext.trans ?_ (by assumption)))
    refine Sg ?_
    simp only [g1, ne_eq, not_false_eq_true, true_or, if_true]
    (refine ⟨?_, ?_⟩ <;> first | trivial | rfl | (repeat' first | assumption | exact Ext.refl _ | refine Ext.trans ?_ (by assumption)))
end Go.Proofs.YtglnobabdcoknaaGreatDoor
end
section
/- Commands: what an act, and a whole command, must be. -/
set_option maxRecDepth 4000
set_option maxHeartbeats 1600000
namespace Abs
open Go Go.RowKit Lite
theorem actsE_cons {s : Scope} {l : List Act} {k : Nat} {t : Bool} (h : k < l.length) :
    actsE s (l.drop k) k t = if talks l[k] && t then (2 + (k : Int), 7) else if actE l[k] s ≠ 0 then (2 + (k : Int), actE l[k] s) else actsE s (l.drop (k + 1)) (k + 1) (t || talks l[k]) := by
  rw [List.drop_eq_getElem_cons h]; rfl
end Abs
namespace Go.Proofs.YtglnobabdcoknaaGreatDoor
open Go Go.RowKit Lite

theorem act1_r (k : Int) (a : Abs.Act) (vi vv : Value) (cs : List Value) (s : Abs.Scope) (w : World) (b1 b2 : Nat) (hb1 : w.heap[b1]? = some (.cells (a.enc vi vv).toArray T.api_Act)) (hb2 : w.heap[b2]? = some (.cells cs.toArray T.api_Scope))
    (hv : Abs.Nodes w vv a.value) (h : Abs.ScopeIs w cs s) :
    Ret Tryz.prog F.cmd_act_1 #[.int .i64 k, .pointer (some ⟨b1, 0, none⟩), .pointer (some ⟨b2, 0, none⟩)] w fun v w' => v = .int .i64 (Abs.asked a.value k s) ∧ Ext w w' := by
  obtain ⟨v0, v1, v2, v3, v4, rfl, _⟩ := h.ex
  refine K.start hmix E.cmd_act_1 (args := [_, _, _]) (Nat.le_of_ble_eq_true rfl) ?_; dsimp only [C.cmd_act_1]; refine Yy ?_
  refine Sg ?_
  refine K.call (asked_r vv a.value k _ s w hv h) ?_
  rintro _ w2 ⟨rfl, he2⟩
  refine Sg ?_
  (refine ⟨?_, ?_⟩ <;> first | trivial | rfl | (repeat' first | assumption | exact Ext.refl _ | refine Ext.trans ?_ (by assumption)))
theorem act_r (a : Abs.Act) (vi vv : Value) (cs : List Value) (s : Abs.Scope) (w : World) (hi : Abs.Nodes w vi a.index) (hv : Abs.Nodes w vv a.value) (h : Abs.ScopeIs w cs s) :
    Ret Tryz.prog F.cmd_act #[.agg (a.enc vi vv).toArray, .agg cs.toArray] w fun v w' => v = .int .i64 (Abs.actE a s) ∧ Ext w w' := by
  obtain ⟨v0, v1, v2, v3, v4, rfl, h0, h1, h2, h3, h4, l0⟩ := h.ex
  refine K.start hmix E.cmd_act (args := [_, _]) (Nat.le_of_ble_eq_true rfl) ?_; dsimp only [C.cmd_act]; refine Yy ?_
  refine Sg ?_
  intro w1 b1 hb1 he1 hc1
  refine Sg ?_
  intro w2 b2 hb2 he2 hc2
  have he := he1.trans he2
  have hc1 := he2.obj hc1
  by_cases q : a.kind = 1 ∨ a.kind = 2 ∨ a.kind = 3
  · rw [Abs.actE, if_pos q]
    generalize hL : (if a.kind = 3 then s.locals else s.vars) = L
    have hcall : ∀ vl n, vl = (if a.kind = 3 then v4 else v1) → Ret Tryz.prog F.cmd_declared #[vl, .int .i64 n, .agg #[v0, v1, v2, v3, v4, .int .i64 s.self]] w2 fun v w' => Abs.DeclV v (Abs.declared L n s) ∧ Ext w2 w' := by
      rintro vl n rfl
      refine declared_r _ L n _ s w2 ?_ (h.ext he)
      rw [← hL]
      split
      · exact h4.ext he
      · exact h1.ext he
    by_cases q5 : a.kind = 2
    · refine Sg ?_
      refine K.call (hcall _ _ (by simp [q5])) ?_
      rintro u w3 ⟨hq, he3⟩
      have hc1 := he3.obj hc1
      have hc2 := he3.obj hc2
      have he03 := he.trans he3
      cases hd : Abs.declared L a.to s with
      | none =>
        rw [hd] at hq
        obtain ⟨x, k', rfl⟩ := hq
        refine Sg ?_
        intro w4 b4 hb4 he4 hc4
        refine Sg ?_
        (refine ⟨?_, ?_⟩ <;> first | trivial | rfl | (repeat' first | assumption | exact Ext.refl _ | refine Ext.trans ?_ (by assumption)))
      | some u =>
        obtain ⟨x, k'⟩ := u
        rw [hd] at hq
        subst hq
        have hov := Abs.declared_over hd
        simp only at hov
        refine Sg ?_
        intro w4 b4 hb4 he4 hc4
        have hc1 := he4.obj hc1
        have hc2 := he4.obj hc2
        have he04 := he03.trans he4
        refine Sg ?_
        refine K.neb (by kernel_rfl) ?_
        refine Sg ?_
        by_cases q2 : x.over = 0
        · refine K.condbT (by simp [q5, q2]) ?_
          refine Sg ?_
          exact ⟨by simp [q5, q2], by (repeat' first | assumption | exact Ext.refl _ | refine Ext.trans ?_ (by assumption))⟩
        refine K.condbF (by simp [q5, q2]) ?_
        refine Sg ?_
        refine K.call (asked_r vi a.index _ _ s w4 (hi.ext he04) (h.ext he04)) ?_
        rintro _ w5 ⟨rfl, he5⟩
        have hc1 := he5.obj hc1
        have hc2 := he5.obj hc2
        have he05 := he04.trans he5
        refine Sg ?_
        refine K.cond (fun q3 => ?_) (fun q3 => ?_)
        · refine Sg ?_
          refine K.callV (first := []) (cap := [_, _]) (by kernel_rfl) (act1_r k' a vi vv _ s w5 b1 b2 hc1 hc2 (hv.ext he05) (h.ext he05)) ?_
          rintro _ w6 ⟨rfl, he6⟩
          refine Sg ?_
          exact ⟨by simp [q5, q2, q3], by (repeat' first | assumption | exact Ext.refl _ | refine Ext.trans ?_ (by assumption))⟩
        · refine Sg ?_
          exact ⟨by simp [q5, q2, q3], by (repeat' first | assumption | exact Ext.refl _ | refine Ext.trans ?_ (by assumption))⟩
    have q6 : a.kind = 1 ∨ a.kind = 3 := by omega
    clear q
    rcases q6 with q | q
    all_goals
      refine Sg ?_
      refine K.call (hcall _ _ (by simp [q])) ?_
      rintro u w3 ⟨hq, he3⟩
      have hc1 := he3.obj hc1
      have hc2 := he3.obj hc2
      have he03 := he.trans he3
      cases hd : Abs.declared L a.to s with
      | none =>
        rw [hd] at hq
        obtain ⟨x, k', rfl⟩ := hq
        refine Sg ?_
        intro w4 b4 hb4 he4 hc4
        refine Sg ?_
        (refine ⟨?_, ?_⟩ <;> first | trivial | rfl | (repeat' first | assumption | exact Ext.refl _ | refine Ext.trans ?_ (by assumption)))
      | some u =>
        obtain ⟨x, k'⟩ := u
        rw [hd] at hq
        subst hq
        refine Sg ?_
        intro w4 b4 hb4 he4 hc4
        have hc1 := he4.obj hc1
        have hc2 := he4.obj hc2
        have he04 := he03.trans he4
        refine Sg ?_
        refine K.neb (by kernel_rfl) ?_
        refine Sg ?_
        by_cases q2 : x.over = 0
        · refine K.condbF (by simp [q, q2]) ?_
          refine Sg ?_
          refine K.callV (first := []) (cap := [_, _]) (by kernel_rfl) (act1_r k' a vi vv _ s w4 b1 b2 hc1 hc2 (hv.ext he04) (h.ext he04)) ?_
          rintro _ w6 ⟨rfl, he6⟩
          refine Sg ?_
          exact ⟨by simp [q, q2], by (repeat' first | assumption | exact Ext.refl _ | refine Ext.trans ?_ (by assumption))⟩
        · refine K.condbT (by simp [q, q2]) ?_
          refine Sg ?_
          exact ⟨by simp [q, q2], by (repeat' first | assumption | exact Ext.refl _ | refine Ext.trans ?_ (by assumption))⟩
  by_cases q4 : a.kind = 4 ∨ a.kind = 5
  · rw [Abs.actE, if_neg q, if_pos q4]
    have q7 : a.kind ≠ 3 := by omega
    have q8 : a.kind ≠ 1 := by omega
    have q9 : a.kind ≠ 2 := by omega
    have step : ∀ (w' : World), Ext w2 w' → Ret Tryz.prog F.cmd_channel #[.int .i64 a.to, .agg #[v0, v1, v2, v3, v4, .int .i64 s.self]] w' fun v w'' => v = .tuple #[.int .i64 ((Abs.channel a.to s).getD 0), .bool (Abs.channel a.to s).isSome] ∧ Ext w' w'' :=
      fun w' e => channel_r a.to _ s w' (h.ext (he.trans e))
    rcases q4 with q4 | q4
    · refine Sg ?_
      refine K.call (step w2 (Ext.refl _)) ?_
      rintro _ w3 ⟨rfl, he3⟩
      have hc1 := he3.obj hc1
      have hc2 := he3.obj hc2
      have he03 := he.trans he3
      cases hd : Abs.channel a.to s with
      | none =>
        simp only [Option.isSome_none, Option.getD_none]
        refine Sg ?_
        (refine ⟨?_, ?_⟩ <;> first | trivial | rfl | (repeat' first | assumption | exact Ext.refl _ | refine Ext.trans ?_ (by assumption)))
      | some k =>
        simp only [Option.isSome_some, Option.getD_some]
        refine Sg ?_
        refine K.callV (first := []) (cap := [_, _]) (by kernel_rfl) (act1_r k a vi vv _ s w3 b1 b2 hc1 hc2 (hv.ext he03) (h.ext he03)) ?_
        rintro _ w6 ⟨rfl, he6⟩
        refine Sg ?_
        exact ⟨by simp [q4], by (repeat' first | assumption | exact Ext.refl _ | refine Ext.trans ?_ (by assumption))⟩
    · refine Sg ?_
      refine K.call (step w2 (Ext.refl _)) ?_
      rintro _ w3 ⟨rfl, he3⟩
      have hc1 := he3.obj hc1
      have hc2 := he3.obj hc2
      have he03 := he.trans he3
      cases hd : Abs.channel a.to s with
      | none =>
        simp only [Option.isSome_none, Option.getD_none]
        refine Sg ?_
        (refine ⟨?_, ?_⟩ <;> first | trivial | rfl | (repeat' first | assumption | exact Ext.refl _ | refine Ext.trans ?_ (by assumption)))
      | some k =>
        simp only [Option.isSome_some, Option.getD_some]
        refine Sg ?_
        refine K.call (receives_r a vi vv k _ s w3 (h.ext he03)) ?_
        rintro _ w6 ⟨rfl, he6⟩
        refine Sg ?_
        exact ⟨by simp [q4], by (repeat' first | assumption | exact Ext.refl _ | refine Ext.trans ?_ (by assumption))⟩
  rw [Abs.actE, if_neg q, if_neg q4]
  have q7 : a.kind ≠ 3 := by omega
  have q8 : a.kind ≠ 1 := by omega
  have q9 : a.kind ≠ 2 := by omega
  have q10 : a.kind ≠ 4 := by omega
  have q11 : a.kind ≠ 5 := by omega
  refine Sg ?_
  (refine ⟨?_, ?_⟩ <;> first | trivial | rfl | (repeat' first | assumption | exact Ext.refl _ | refine Ext.trans ?_ (by assumption)))
end Go.Proofs.YtglnobabdcoknaaGreatDoor
end
section
/- Plain: what commands that are right have. No program in sight. -/
namespace Abs
open Go
theorem head_ok {c : Cmd} {n : Int} (h : head c n = 0) : isName c.name = true ∧ 0 ≤ c.from_ ∧ c.from_ < n ∧ 0 ≤ c.to ∧ c.to < n ∧ c.acts.length ≤ 6 := by
  unfold head at h
  by_cases h1 : isName c.name = false
  · rw [if_pos h1] at h; cases h
  rw [if_neg h1] at h
  by_cases h2 : c.from_ < 0 ∨ n ≤ c.from_ ∨ c.to < 0 ∨ n ≤ c.to
  · rw [if_pos h2] at h; cases h
  rw [if_neg h2] at h
  by_cases h3 : c.acts.length > 6
  · rw [if_pos h3] at h; cases h
  exact ⟨by simpa using h1, by omega, by omega, by omega, by omega, by omega⟩
end Abs
end
section
/- Commands: what a whole command must be; what it sends or receives by. -/
set_option maxRecDepth 4000
set_option maxHeartbeats 1600000
namespace Abs
open Go Go.RowKit Lite
end Abs
namespace Go.Proofs.YtglnobabdcoknaaGreatDoor
open Go Go.RowKit Lite
theorem head1_r (n : Int) (p : Abs.Proc) (pv pc : Value) (w : World) (b : Nat) (hb : w.heap[b]? = some (.cells (p.enc pv pc).toArray T.api_Proc)) :
    Ret Tryz.prog F.cmd_head_1 #[.int .i64 n, .pointer (some ⟨b, 0, none⟩)] w fun v w' => v = .bool (decide (n < 0 ∨ p.locs ≤ n)) ∧ w' = w := by
  refine K.start hmix E.cmd_head_1 (args := [_, _]) (Nat.le_of_ble_eq_true rfl) ?_; dsimp only [C.cmd_head_1]; refine Yy ?_
  refine Sg ?_
  refine K.cond (fun g1 => ?_) (fun g1 => ?_)
  · refine Sg ?_
    exact ⟨by simp [g1], by first | trivial | rfl⟩
  refine Sg ?_
  exact ⟨by simp [g1], by first | trivial | rfl⟩
theorem head_r (c : Abs.Cmd) (vg va : Value) (p : Abs.Proc) (pv pc : Value) (w : World) (ho : OwnIs w) (hn : Abs.strOk c.name) (ha : Abs.Acts w va c.acts) :
    Ret Tryz.prog F.cmd_head #[.agg (c.enc vg va).toArray, .agg (p.enc pv pc).toArray] w fun v w' => v = .int .i64 (Abs.head c p.locs) ∧ Ext w w' := by
  obtain ⟨oa, cap, rfl, hlen⟩ := ha.form
  refine K.start hmix E.cmd_head (args := [_, _]) (Nat.le_of_ble_eq_true rfl) ?_; dsimp only [C.cmd_head]; refine Yy ?_
  refine Sg ?_
  intro w1 b1 hb1 he1 hc1
  refine Sg ?_
  intro w2 b2 hb2 he2 hc2
  have he := he1.trans he2
  have hc1 := he2.obj hc1
  refine Sg ?_
  refine K.call (name_r c.name w2 (ho.ext he) hn) ?_
  rintro _ w3 ⟨rfl, he3⟩
  have hc1 := he3.obj hc1
  have hc2 := he3.obj hc2
  have he03 := he.trans he3
  rw [Abs.head]
  refine Sg ?_
  refine K.condb (fun g1 => ?_) (fun g1 => ?_)
  rotate_left
  · refine Sg ?_
    exact ⟨by simp [g1], by (repeat' first | assumption | exact Ext.refl _ | refine Ext.trans ?_ (by assumption))⟩
  refine Sg ?_
  refine K.callV (first := []) (cap := [_]) (by kernel_rfl) (head1_r c.from_ p pv pc w3 b2 hc2) ?_
  rintro _ _ ⟨rfl, rfl⟩
  refine Sg ?_
  refine K.cond (fun g2 => ?_) (fun g2 => ?_)
  · refine Sg ?_
    refine ⟨?_, by (repeat' first | assumption | exact Ext.refl _ | refine Ext.trans ?_ (by assumption))⟩
    rw [if_neg (by simp [g1]), if_pos (by omega)]
  refine Sg ?_
  refine K.callV (first := []) (cap := [_]) (by kernel_rfl) (head1_r c.to p pv pc _ b2 hc2) ?_
  rintro _ _ ⟨rfl, rfl⟩
  refine Sg ?_
  refine K.cond (fun g3 => ?_) (fun g3 => ?_)
  · refine Sg ?_
    refine ⟨?_, by (repeat' first | assumption | exact Ext.refl _ | refine Ext.trans ?_ (by assumption))⟩
    rw [if_neg (by simp [g1]), if_pos (by omega)]
  refine Sg ?_
  refine K.cond (fun g4 => ?_) (fun g4 => ?_)
  · refine Sg ?_
    refine ⟨?_, by (repeat' first | assumption | exact Ext.refl _ | refine Ext.trans ?_ (by assumption))⟩
    rw [if_neg (by simp [g1]), if_neg (by omega), if_pos (by omega)]
  · refine Sg ?_
    refine ⟨?_, by (repeat' first | assumption | exact Ext.refl _ | refine Ext.trans ?_ (by assumption))⟩
    rw [if_neg (by simp [g1]), if_neg (by omega), if_neg (by omega)]
theorem check_r (c : Abs.Cmd) (vg va : Value) (p : Abs.Proc) (pv pc : Value) (cs : List Value) (s : Abs.Scope) (w : World) (ho : OwnIs w) (hn : Abs.strOk c.name) (hg : Abs.Nodes w vg c.guard) (ha : Abs.Acts w va c.acts)
    (hv : Abs.Vars w pv p.vars) (hc : Abs.Cmds w pc p.cmds) (h : Abs.ScopeIs w cs s) :
    Ret Tryz.prog F.cmd_Check #[.agg (c.enc vg va).toArray, .agg (p.enc pv pc).toArray, .agg cs.toArray] w fun v w' =>
      v = .tuple #[.int .i64 (Abs.cmdCheck c p.locs s).1, .int .i64 (Abs.cmdCheck c p.locs s).2] ∧ Ext w w' := by
  obtain ⟨a0, c0, a1, c1, a2, c2, a3, c3, a4, c4, rfl, _⟩ := h.form
  obtain ⟨oa, cap, rfl, hlen⟩ := ha.form
  obtain ⟨og, capg, rfl, hleng⟩ := hg.form
  obtain ⟨_, _, rfl, _⟩ := hv.form
  obtain ⟨_, _, rfl, _⟩ := hc.form
  refine K.start hmix E.cmd_Check (args := [_, _, _]) (Nat.le_of_ble_eq_true rfl) ?_; dsimp only [C.cmd_Check]; refine Yy ?_
  refine Sg ?_
  intro w1 b1 hb1 he1 hc1
  refine Sg ?_
  intro w2 b2 hb2 he2 hc2
  refine Sg ?_
  intro w3 b3 hb3 he3 hc3
  have he := (he1.trans he2).trans he3
  have hc1 := (he2.trans he3).obj hc1
  have hc2 := he3.obj hc2
  refine Sg ?_
  refine K.call (head_r c _ _ p _ _ w3 (ho.ext he) hn (ha.ext he)) ?_
  rintro _ w4 ⟨rfl, he4⟩
  have hc1 := he4.obj hc1
  have hc3 := he4.obj hc3
  have he04 := he.trans he4
  rw [Abs.cmdCheck]
  refine Sg ?_
  refine K.cond (fun g1 => ?_) (fun g1 => ?_)
  rotate_left
  · refine Sg ?_
    exact ⟨by simp [g1], by (repeat' first | assumption | exact Ext.refl _ | refine Ext.trans ?_ (by assumption))⟩
  rw [if_neg (by simpa using g1)]
  have h6 := (Abs.head_ok g1).2.2.2.2.2
  refine Su ?_
  refine K.cutG [3, 4, 5] (fun _ => []) (fun (_ : Unit) w' => Ext w4 w' ∧ ¬ (c.guard.length > 0 ∧ Abs.asked c.guard 1 s ≠ 0)) ?_ ?_
  · refine Sg ?_
    refine K.cond (fun g2 => ?_) (fun g2 => ?_)
    · refine Sg ?_
      refine K.call (asked_r _ c.guard 1 _ s w4 (hg.ext he04) (h.ext he04)) ?_
      rintro _ w5 ⟨rfl, he5⟩
      refine Sg ?_
      refine K.cond (fun g3 => ?_) (fun g3 => ?_)
      · refine Sg ?_
        exact ⟨(), trivial, by (repeat' first | assumption | exact Ext.refl _ | refine Ext.trans ?_ (by assumption)), fun hh => hh.2 g3⟩
      · refine Sg ?_
        rw [if_pos ⟨by omega, g3⟩]
        (refine ⟨?_, ?_⟩ <;> first | trivial | rfl | (repeat' first | assumption | exact Ext.refl _ | refine Ext.trans ?_ (by assumption)))
    · refine Sg ?_
      exact ⟨(), trivial, by (repeat' first | assumption | exact Ext.refl _ | refine Ext.trans ?_ (by assumption)), fun hh => g2 (by omega)⟩
  rintro _ S w5 ⟨he5, hgd⟩
  have hc1 := he5.obj hc1
  have hc3 := he5.obj hc3
  have he05 := he04.trans he5
  rw [if_neg hgd]
  refine Sg ?_
  refine K.forG 34 c.acts.length [3, 4, 5, 32, 33] (fun b => [(10, .bool b)]) false (fun k b w' => Ext w5 w' ∧ Abs.actsE s c.acts 0 false = Abs.actsE s (c.acts.drop k) k b) hZq hZq ⟨Ext.refl _, by simp⟩ ?_
  rintro k b S w6 hk ⟨he6, hI⟩
  have he06 := he05.trans he6
  refine Sg ?_
  refine K.cond (fun g1 => ?_) (fun g1 => ?_)
  · have hk' : k < c.acts.length := by omega
    obtain ⟨a, rfl⟩ := ha.addr (by omega)
    obtain ⟨vi, vv, hcell, hvi, hvv⟩ := ha.at k hk'
    obtain ⟨_, _, rfl, _⟩ := hvi.form
    obtain ⟨_, _, rfl, _⟩ := hvv.form
    rw [Abs.actsE_cons hk'] at hI
    refine Sg ?_
    intro w7 b7 hb7 he7 hc7
    refine Su ?_
    intro w8 hw8 hc8
    have he68 := hw8.ext he7 hb7
    have he08 := he06.trans he68
    have hc3 := (he6.trans he68).obj hc3
    refine Su ?_
    refine K.cutG [3, 5, 10, 11, 12, 32, 33, 34] (fun _ => []) (fun (_ : Unit) w' => Ext w8 w' ∧ ¬ (Abs.talks c.acts[k] && b) = true) ?_ ?_
    · refine Sg ?_
      refine K.call (talks_r c.acts[k] _ _ w8) ?_
      rintro _ w9 ⟨rfl, he9⟩
      refine Sg ?_
      refine K.condb (fun g2 => ?_) (fun g2 => ?_)
      · refine Sg ?_
        refine K.condb (fun g3 => ?_) (fun g3 => ?_)
        · refine Sg ?_
          rw [hI, if_pos (by simp [g2, g3])]
          (refine ⟨?_, ?_⟩ <;> first | trivial | rfl | (repeat' first | assumption | exact Ext.refl _ | refine Ext.trans ?_ (by assumption)))
        · refine Sg ?_
          exact ⟨(), trivial, by (repeat' first | assumption | exact Ext.refl _ | refine Ext.trans ?_ (by assumption)), by simp [g3]⟩
      · refine Sg ?_
        exact ⟨(), trivial, by (repeat' first | assumption | exact Ext.refl _ | refine Ext.trans ?_ (by assumption)), by simp [g2]⟩
    rintro _ S w9 ⟨he9, g2⟩
    rw [if_neg g2] at hI
    have hc8 := he9.obj hc8
    have hc3 := he9.obj hc3
    refine Su ?_
    refine K.cutG [3, 5, 11, 12, 32, 33, 34] (fun u => [(10, .bool u)]) (fun u w' => Ext w9 w' ∧ u = (b || Abs.talks c.acts[k])) ?_ ?_
    · refine Sg ?_
      refine K.condb (fun g3 => ?_) (fun g3 => ?_)
      · refine Sg ?_
        exact ⟨true, hZq, by (repeat' first | assumption | exact Ext.refl _ | refine Ext.trans ?_ (by assumption)), by simp [g3]⟩
      · refine Sg ?_
        refine K.call (talks_r c.acts[k] _ _ w9) ?_
        rintro _ w10 ⟨rfl, he10⟩
        refine Sg ?_
        exact ⟨Abs.talks c.acts[k], hZq, by (repeat' first | assumption | exact Ext.refl _ | refine Ext.trans ?_ (by assumption)), by simp [g3]⟩
    rintro _ S w10 ⟨he10, rfl⟩
    have hc8 := he10.obj hc8
    have hc3 := he10.obj hc3
    have he010 := (he08.trans he9).trans he10
    have he510 := ((he6.trans he68).trans he9).trans he10
    refine Sg ?_
    refine K.call (act_r c.acts[k] _ _ _ s w10 (hvi.ext he010) (hvv.ext he010) (h.ext he010)) ?_
    rintro _ w11 ⟨rfl, he11⟩
    refine Sg ?_
    refine K.cond (fun g3 => ?_) (fun g3 => ?_)
    · refine Sg ?_
      rw [if_neg (by simpa using g3)] at hI
      exact ⟨hk', by first | trivial | rfl, _, hZq, by (repeat' first | assumption | exact Ext.refl _ | refine Ext.trans ?_ (by assumption)), hI⟩
    · refine Sg ?_
      rw [hI, if_pos g3]
      (refine ⟨?_, ?_⟩ <;> first | trivial | rfl | (repeat' first | assumption | exact Ext.refl _ | refine Ext.trans ?_ (by assumption)))
  · refine Sg ?_
    rw [hI, List.drop_eq_nil_of_le (by omega)]
    (refine ⟨?_, ?_⟩ <;> first | trivial | rfl | (repeat' first | assumption | exact Ext.refl _ | refine Ext.trans ?_ (by assumption)))
end Go.Proofs.YtglnobabdcoknaaGreatDoor
end
section
/- Processes: what one must be. -/
set_option maxRecDepth 4000
set_option maxHeartbeats 3200000
namespace Abs
theorem localsE_drop {s : Scope} {l : List Var} {k : Nat} (h : k < l.length) : localsE s (l.drop k) k = if l[k].over ≠ 0 then ((k : Int), 9) else if s.vars.any (fun x => decide (x.name = l[k].name)) then ((k : Int), 7) else localsE s (l.drop (k + 1)) (k + 1) := by
  rw [List.drop_eq_getElem_cons h]; rfl
theorem cmdsE_drop {own : Scope} {locs : Int} {all l : List Cmd} {k : Nat} (h : k < l.length) : cmdsE own locs all (l.drop k) k = if (cmdCheck l[k] locs own).2 ≠ 0 then (2 + (k : Int), (cmdCheck l[k] locs own).1, (cmdCheck l[k] locs own).2)
    else if (all.take k).any (fun x => decide (x.name = l[k].name)) then (2 + (k : Int), 0, 7) else cmdsE own locs all (l.drop (k + 1)) (k + 1) := by
  rw [List.drop_eq_getElem_cons h]; rfl
end Abs
namespace Go.Proofs.YtglnobabdcoknaaGreatDoor
open Go Go.RowKit Lite
theorem whole_r (p : Abs.Proc) (o3 o4 : Option Addr) (n3 c3 c4 : Nat) (cs : List Value) (s : Abs.Scope) (w : World) (ho : OwnIs w) (hn : Abs.strOk p.name) (h : Abs.ScopeIs w cs s) :
    Ret Tryz.prog F.proc_whole #[.agg (p.enc (.slice o3 n3 c3) (.slice o4 p.cmds.length c4)).toArray, .agg cs.toArray] w fun v w' => v = .int .i64 (Abs.whole p s) ∧ Ext w w' := by
  obtain ⟨a0, c0, a1, c1, a2, c2, a3, d3, a4, d4, rfl, h0, h1, h2, h3, h4, l0, l1, l2, l3, l4⟩ := h.form
  refine K.start hmix E.proc_whole (args := [_, _]) (Nat.le_of_ble_eq_true rfl) ?_; dsimp only [C.proc_whole]; refine Yy ?_
  refine Sg ?_
  intro w1 b1 hb1 he1 hc1
  refine Sg ?_
  intro w2 b2 hb2 he2 hc2
  have E2 : ∀ {w'}, Ext w2 w' → Ext w w' := fun e => (he1.trans he2).trans e
  have hc1 := he2.obj hc1
  refine Sg ?_
  refine K.call (name_r p.name w2 (ho.ext (E2 (Ext.refl _))) hn) ?_
  rintro _ w3 ⟨rfl, he3⟩
  have hc1 := he3.obj hc1
  have hc2 := he3.obj hc2
  rw [Abs.whole]
  refine Sg ?_
  refine K.condb (fun g1 => ?_) (fun g1 => ?_)
  rotate_left
  · refine Sg ?_
    exact ⟨by rw [if_pos g1], E2 he3⟩
  rw [if_neg (by simp [g1])]
  refine Sg ?_
  refine K.cond (fun g2 => ?_) (fun g2 => ?_)
  · refine Sg ?_
    exact ⟨by rw [if_pos (.inl g2)], E2 he3⟩
  refine Sg ?_
  refine K.cond (fun g3 => ?_) (fun g3 => ?_)
  · refine Sg ?_
    exact ⟨by rw [if_pos (.inr (by omega))], E2 he3⟩
  rw [if_neg (by omega)]
  refine Sg ?_
  refine K.cond (fun g4 => ?_) (fun g4 => ?_)
  · refine Sg ?_
    exact ⟨by rw [if_pos (.inl g4)], E2 he3⟩
  refine Sg ?_
  refine K.cond (fun g5 => ?_) (fun g5 => ?_)
  · refine Sg ?_
    exact ⟨by rw [if_pos (.inr (by omega))], E2 he3⟩
  rw [if_neg (by omega)]
  refine Sg ?_
  refine K.cond (fun g6 => ?_) (fun g6 => ?_)
  · refine Sg ?_
    exact ⟨by rw [if_pos (by omega)], E2 he3⟩
  refine Sg ?_
  exact ⟨by rw [if_neg (by omega)], E2 he3⟩
theorem locals1_r (x v : Abs.Var) (b : Nat) (w : World) (hc : w.heap[b]? = some (.cells v.enc.toArray T.api_Var)) :
    Ret Tryz.prog F.proc_locals_1 #[.agg x.enc.toArray, .pointer (some ⟨b, 0, none⟩)] w fun u w' => u = .bool (decide (x.name = v.name)) ∧ Ext w w' := by
  refine K.start hmix E.proc_locals_1 (args := [_, _]) (Nat.le_of_ble_eq_true rfl) ?_; dsimp only [C.proc_locals_1]; refine Yy ?_
  refine Sg ?_
  intro w1 b1 hb1 he1 hc1
  refine Sg ?_
  (refine ⟨?_, ?_⟩ <;> first | trivial | rfl | (repeat' first | assumption | exact Ext.refl _ | refine Ext.trans ?_ (by assumption)))
theorem check1_r (x c : Abs.Cmd) (o1 o2 o3 o4 : Option Addr) (n1 n2 n3 n4 c1 c2 c3 c4 : Nat) (b : Nat) (w : World) (hc : w.heap[b]? = some (.cells (c.enc (.slice o3 n3 c3) (.slice o4 n4 c4)).toArray T.api_Cmd)) :
    Ret Tryz.prog F.proc_Check_1 #[.agg (x.enc (.slice o1 n1 c1) (.slice o2 n2 c2)).toArray, .pointer (some ⟨b, 0, none⟩)] w fun u w' => u = .bool (decide (x.name = c.name)) ∧ Ext w w' := by
  refine K.start hmix E.proc_Check_1 (args := [_, _]) (Nat.le_of_ble_eq_true rfl) ?_; dsimp only [C.proc_Check_1]; refine Yy ?_
  refine Sg ?_
  intro w1 b1 hb1 he1 hc1
  refine Sg ?_
  (refine ⟨?_, ?_⟩ <;> first | trivial | rfl | (repeat' first | assumption | exact Ext.refl _ | refine Ext.trans ?_ (by assumption)))
theorem locals_r (p : Abs.Proc) (o3 o4 : Option Addr) (c3 n4 c4 : Nat) (cs : List Value) (s : Abs.Scope) (w : World) (ho : OwnIs w) (hv : Abs.Vars w (.slice o3 p.vars.length c3) p.vars) (h : Abs.ScopeIs w cs s) :
    Ret Tryz.prog F.proc_locals #[.agg (p.enc (.slice o3 p.vars.length c3) (.slice o4 n4 c4)).toArray, .agg cs.toArray] w fun v w' => v = .tuple #[.int .i64 (Abs.plocals p s).1, .int .i64 (Abs.plocals p s).2] ∧ Ext w w' := by
  obtain ⟨a0, c0, a1, c1, a2, c2, a3, d3, a4, d4, rfl, h0, h1, h2, h3, h4, l0, l1, l2, l3, l4⟩ := h.form
  have lv : p.vars.length ≤ 9223372036854775807 := by have := (SlR.len hv).2; unfold maxLen at this; omega
  refine K.start hmix E.proc_locals (args := [_, _]) (Nat.le_of_ble_eq_true rfl) ?_; dsimp only [C.proc_locals]; refine Yy ?_
  refine Sg ?_
  intro w1 b1 hb1 he1 hc1
  refine Sg ?_
  intro w2 b2 hb2 he2 hc2
  have E2 : ∀ {w'}, Ext w2 w' → Ext w w' := fun e => (he1.trans he2).trans e
  have hc1 := he2.obj hc1
  refine Sg ?_
  refine K.call (vars_r _ _ p.vars s.scalars 4 w2 (ho.ext (E2 (Ext.refl _))) (hv.ext (E2 (Ext.refl _))) (h0.ext (E2 (Ext.refl _)))) ?_
  rintro _ w3 ⟨rfl, he3⟩
  have hc1 := he3.obj hc1
  have hc2 := he3.obj hc2
  rw [Abs.plocals]
  refine Sg ?_
  refine K.cond (fun g1 => ?_) (fun g1 => ?_)
  rotate_left
  · refine Sg ?_
    exact ⟨by rw [if_pos g1], E2 he3⟩
  rw [if_neg (by simpa using g1)]
  have E3 : ∀ {w'}, Ext w3 w' → Ext w w' := fun e => E2 (he3.trans e)
  refine Sg ?_
  refine K.forG 25 p.vars.length [3, 23, 24] (fun _ => []) () (fun k _ w' => Ext w3 w' ∧ Abs.localsE s p.vars 0 = Abs.localsE s (p.vars.drop k) k) hZq hZq ⟨Ext.refl _, by simp⟩ ?_
  rintro k _ S w4 hk ⟨he4, hI⟩
  refine Sg ?_
  refine K.cond (fun g2 => ?_) (fun g2 => ?_)
  · have hk' : k < p.vars.length := by omega
    obtain ⟨a, rfl⟩ := hv.addr (by omega)
    replace hv := hv.ext (E3 (Ext.refl _))
    rw [Abs.localsE_drop hk'] at hI
    refine Sg ?_
    intro wN b9 hb9 heN hcN
    refine Sg ?_
    intro w5 hw5 hc5
    have he5 := hw5.ext heN hb9
    refine Sg ?_
    refine K.cond (fun g3 => ?_) (fun g3 => ?_)
    rotate_left
    · refine Sg ?_
      exact ⟨by rw [hI, if_pos g3], E3 (he4.trans he5)⟩
    rw [if_neg (by simpa using g3)] at hI
    refine Sg ?_
    refine K.call (containsFunc_r hmix E.slices_ContainsFunc_sl_api_Var_api_Var E.slices_IndexFunc_sl_api_Var_api_Var _ s.vars w5 (h1.ext (E3 (he4.trans he5))) F.proc_locals_1 (by kernel_rfl) [] [_] (fun x => decide (x.name = p.vars[k].name)) ?_) ?_
    · rintro i hi cs' w' e ⟨rfl, _⟩
      exact locals1_r _ _ b9 w' (e.obj hc5)
    rintro _ w6 ⟨rfl, he6⟩
    refine Sg ?_
    refine K.condb (fun g4 => ?_) (fun g4 => ?_)
    · refine Sg ?_
      exact ⟨by rw [hI, if_pos g4], E3 ((he4.trans he5).trans he6)⟩
    · refine Sg ?_
      exact ⟨hk', by first | trivial | rfl, (), trivial, (he4.trans he5).trans he6, by rw [hI, if_neg (by simp [g4])]⟩
  · refine Sg ?_
    exact ⟨by rw [hI, List.drop_eq_nil_of_le (by omega)]; rfl, E3 he4⟩
theorem pcheck_r (p : Abs.Proc) (pcs cs : List Value) (s : Abs.Scope) (w : World) (ho : OwnIs w) (hp : Abs.ProcIs w pcs p) (h : Abs.ScopeIs w cs s) (hg : s.good) (hpg : p.good) :
    Ret Tryz.prog F.proc_Check #[.agg pcs.toArray, .agg cs.toArray] w fun v w' => v = .tuple #[.int .i64 (Abs.procCheck p s).1, .int .i64 (Abs.procCheck p s).2.1, .int .i64 (Abs.procCheck p s).2.2] ∧ Ext w w' := by
  obtain ⟨a0, c0, a1, c1, a2, c2, a3, d3, a4, d4, rfl, h0, h1, h2, h3, h4, l0, l1, l2, l3, l4⟩ := h.form
  obtain ⟨hn, pv, pc, rfl, hv, hcm⟩ := hp
  obtain ⟨o3, c3, rfl, lv⟩ := hv.form
  obtain ⟨o4, c4, rfl, lc⟩ := hcm.form
  have hcb : p.cmds.length ≤ 140737488351232 := by have := hpg.cmds; unfold Abs.big at this; omega
  refine K.start hmix E.proc_Check (args := [_, _]) (Nat.le_of_ble_eq_true rfl) ?_; dsimp only [C.proc_Check]; refine Yy ?_
  refine Sg ?_
  intro w1 b1 hb1 he1 hc1
  refine Sg ?_
  intro w2 b2 hb2 he2 hc2
  have E2 : ∀ {w'}, Ext w2 w' → Ext w w' := fun e => (he1.trans he2).trans e
  replace hc1 := he2.obj hc1
  refine Sg ?_
  refine K.call (whole_r p _ _ _ _ _ _ s w2 (ho.ext (E2 (Ext.refl _))) hn (h.ext (E2 (Ext.refl _)))) ?_
  rintro _ w3 ⟨rfl, he3⟩
  replace hc1 := he3.obj hc1
  replace hc2 := he3.obj hc2
  have E3 : ∀ {w'}, Ext w3 w' → Ext w w' := fun e => E2 (he3.trans e)
  rw [Abs.procCheck]
  refine Sg ?_
  refine K.cond (fun g1 => ?_) (fun g1 => ?_)
  rotate_left
  · refine Sg ?_
    exact ⟨by rw [if_pos g1], E3 (Ext.refl _)⟩
  rw [if_neg (by simpa using g1)]
  refine Sg ?_
  refine K.call (locals_r p _ _ _ _ _ _ s w3 (ho.ext (E3 (Ext.refl _))) (hv.ext (E3 (Ext.refl _))) (h.ext (E3 (Ext.refl _)))) ?_
  rintro _ w4 ⟨rfl, he4⟩
  replace hc1 := he4.obj hc1
  replace hc2 := he4.obj hc2
  have E4 : ∀ {w'}, Ext w4 w' → Ext w w' := fun e => E3 (he4.trans e)
  refine Sg ?_
  refine K.cond (fun g2 => ?_) (fun g2 => ?_)
  rotate_left
  · refine Sg ?_
    exact ⟨by rw [if_pos g2], E4 (Ext.refl _)⟩
  rw [if_neg (by simpa using g2)]
  refine Sg ?_
  refine K.call (inner_r p _ _ _ _ _ _ _ _ _ _ _ _ _ _ _ _ _ _ _ _ _ _ w4) ?_
  rintro _ w5 ⟨rfl, he5⟩
  replace hc1 := he5.obj hc1
  have E5 : ∀ {w'}, Ext w5 w' → Ext w w' := fun e => E4 (he5.trans e)
  refine Sg ?_
  intro w6 b10 hb10 he6 hc6
  replace hc1 := he6.obj hc1
  have E6 : ∀ {w'}, Ext w6 w' → Ext w w' := fun e => E5 (he6.trans e)
  have hin : ∀ w', Ext w w' → Abs.ScopeIs w' [.slice a0 s.scalars.length c0, .slice a1 s.vars.length c1, .slice a2 s.chans.length c2, .slice a3 s.procs.length d3, .slice o3 p.vars.length c3, .int .i64 p.over] (Abs.inner p s) := fun w' e =>
    ⟨(hg.inner hpg).sm.1, _, _, _, _, _, rfl, h0.ext e, h1.ext e, h2.ext e, h3.ext e, hv.ext e, (hg.inner hpg).sm.2⟩
  refine Sg ?_
  refine K.forG 37 p.cmds.length [2, 10, 35, 36] (fun _ => []) () (fun k _ w' => Ext w6 w' ∧ Abs.cmdsE (Abs.inner p s) p.locs p.cmds p.cmds 0 = Abs.cmdsE (Abs.inner p s) p.locs p.cmds (p.cmds.drop k) k) hZq hZq ⟨Ext.refl _, by simp⟩ ?_
  rintro k _ S w7 hk ⟨he7, hI⟩
  replace hc1 := he7.obj hc1
  replace hc6 := he7.obj hc6
  refine Sg ?_
  refine K.cond (fun g3 => ?_) (fun g3 => ?_)
  · have hk' : k < p.cmds.length := by omega
    obtain ⟨a, rfl⟩ := hcm.addr (by omega)
    obtain ⟨hs, vg, va, hcc, hvg, hva⟩ := hcm.at k hk'
    obtain ⟨og, cg, rfl, lg⟩ := hvg.form
    obtain ⟨oa, ca, rfl, la⟩ := hva.form
    rw [Abs.cmdsE_drop hk'] at hI
    replace hcc := hcc.ext (E6 (Ext.refl _))
    refine Sg ?_
    intro wN b12 hb12 heN hcN
    refine Sg ?_
    intro w8 hw8 hc8
    have he8 := hw8.ext heN hb12
    replace hc1 := he8.obj hc1
    replace hc6 := he8.obj hc6
    have E8 : ∀ {w'}, Ext w8 w' → Ext w w' := fun e => E6 ((he7.trans he8).trans e)
    clear hcN heN
    refine Sg ?_
    refine K.call (check_r p.cmds[k] _ _ p _ _ _ (Abs.inner p s) w8 (ho.ext (E8 (Ext.refl _))) hs (hvg.ext (E8 (Ext.refl _))) (hva.ext (E8 (Ext.refl _))) (hv.ext (E8 (Ext.refl _))) (hcm.ext (E8 (Ext.refl _))) (hin _ (E8 (Ext.refl _)))) ?_
    rintro _ w9 ⟨rfl, he9⟩
    replace hc1 := he9.obj hc1
    replace hc8 := he9.obj hc8
    have E9 : ∀ {w'}, Ext w9 w' → Ext w w' := fun e => E8 (he9.trans e)
    refine Sg ?_
    refine K.cond (fun g4 => ?_) (fun g4 => ?_)
    rotate_left
    · refine Sg ?_
      exact ⟨by rw [hI, if_pos g4], E9 (Ext.refl _)⟩
    rw [if_neg (by simpa using g4)] at hI
    have hcap := (SlR.len hcm).2.1
    refine Sg ?_
    refine K.slcT (k := .i64) k (by rfl) (by omega) ?_
    refine Sg ?_
    refine K.call (containsFunc_r hmix E.slices_ContainsFunc_sl_api_Cmd_api_Cmd E.slices_IndexFunc_sl_api_Cmd_api_Cmd _ (p.cmds.take k) w9 ((hcm.head k (by omega)).ext Abs.RCmd.ext (E9 (Ext.refl _))) F.proc_Check_1 (by kernel_rfl) [] [_] (fun x => decide (x.name = p.cmds[k].name)) ?_) ?_
    · rintro i hi cs' w' e ⟨_, xg, xa, rfl, hxg, hxa⟩
      obtain ⟨_, _, rfl, _⟩ := hxg.form
      obtain ⟨_, _, rfl, _⟩ := hxa.form
      exact check1_r _ _ _ _ _ _ _ _ _ _ _ _ _ _ b12 w' (e.obj hc8)
    rintro _ w10 ⟨rfl, he10⟩
    refine Sg ?_
    refine K.condb (fun g5 => ?_) (fun g5 => ?_)
    · refine Sg ?_
      exact ⟨by rw [hI, if_pos g5], E9 he10⟩
    · refine Sg ?_
      exact ⟨hk', by first | trivial | rfl, (), trivial, ((he7.trans he8).trans he9).trans he10, by rw [hI, if_neg (by simp [g5])]⟩
  · refine Sg ?_
    exact ⟨by rw [hI, List.drop_eq_nil_of_le (by omega)]; rfl, E6 he7⟩
end Go.Proofs.YtglnobabdcoknaaGreatDoor
end
section
/- Processes: the chapter's example. -/
set_option maxRecDepth 8000
set_option maxHeartbeats 3200000
namespace Lite
open Go Go.RowKit
/-- A list in a block of one's own. -/
theorem SlR.blkC {α : Type} {R : World → Addr → α → Prop} {C : World → List Value → α → Prop} {sz : Nat} [Rel R C sz] {w : World} {b n : Nat} {e : TypeId} {cells : List Value} {xs : List α} (css : List (Cs sz)) (hb : w.heap[b]? = some (.cells cells.toArray e)) (hcells : cells = css.flatMap encC)
    (hl : css.length = xs.length) (hn : n = xs.length) (hm : xs.length ≤ maxLen) (hc : ∀ i (h1 : i < css.length) (h2 : i < xs.length), C w css[i].1 xs[i]) : SlR sz R w (.slice (some ⟨b, 0, none⟩) n n) xs := by
  subst hcells
  exact SlR.ofCells hl (SlR.blk (enc := encC) encC_len hb (by omega) (by omega) fun _ _ _ h => h) hc
end Lite
namespace Abs
open Go
theorem inI_small {n : Int} (h : -1000 ≤ n ∧ n ≤ 1000) : inI n := by unfold inI; omega
end Abs
namespace Go.Proofs.YtglnobabdcoknaaGreatDoor
open Go Go.RowKit Lite
end Go.Proofs.YtglnobabdcoknaaGreatDoor
end
section
/- Processes: the laws on scopes and on instances, walked. -/
set_option maxRecDepth 8000
set_option maxHeartbeats 3200000
namespace Abs
end Abs
namespace Go.Proofs.YtglnobabdcoknaaGreatDoor
open Go Go.RowKit Lite
end Go.Proofs.YtglnobabdcoknaaGreatDoor
end
section
/- Plain: what the reference finds is what is declared. No program in sight. -/
namespace Abs
open Go
end Abs
end
section
/- How many parts operations take; the ends of rows. -/
set_option maxRecDepth 4000
set_option linter.unusedSimpArgs false
set_option maxHeartbeats 1600000
namespace Go.Proofs.YtglnobabdcoknaaGreatDoor
open Go Go.RowKit Lite

end Go.Proofs.YtglnobabdcoknaaGreatDoor
end
section
/- What the reference says of kinds. -/
set_option maxRecDepth 4000
set_option linter.unusedSimpArgs false
set_option maxHeartbeats 4000000
namespace Go.Proofs.YtglnobabdcoknaaGreatDoor
open Go Go.RowKit Lite

def kindOf (n : Int) : Int := if n = 0 then 0 else 1 + n
end Go.Proofs.YtglnobabdcoknaaGreatDoor
end
section
/- What the reference says of kinds: leaves, operations. -/
set_option maxRecDepth 4000
set_option linter.unusedSimpArgs false
set_option maxHeartbeats 1600000
namespace Go.Proofs.YtglnobabdcoknaaGreatDoor
open Go Go.RowKit Lite

end Go.Proofs.YtglnobabdcoknaaGreatDoor
end
section
/- What the reference says of kinds: all. -/
set_option maxRecDepth 4000
set_option linter.unusedSimpArgs false
set_option maxHeartbeats 1600000
namespace Go.Proofs.YtglnobabdcoknaaGreatDoor
open Go Go.RowKit Lite

end Go.Proofs.YtglnobabdcoknaaGreatDoor
end
section
/- What the reference says of kinds: the whole. -/
set_option maxRecDepth 4000
set_option linter.unusedSimpArgs false
set_option maxHeartbeats 3200000
namespace Go.Proofs.YtglnobabdcoknaaGreatDoor
open Go Go.RowKit Lite

end Go.Proofs.YtglnobabdcoknaaGreatDoor
end
section
/- What the reference says of commands. -/
set_option maxRecDepth 4000
set_option maxHeartbeats 8000000
namespace Go.Proofs.YtglnobabdcoknaaGreatDoor
open Go Go.RowKit Lite
end Go.Proofs.YtglnobabdcoknaaGreatDoor
end
section
/- What the reference says of whole commands. -/
set_option maxRecDepth 4000
set_option maxHeartbeats 16000000
namespace Abs
end Abs
namespace Go.Proofs.YtglnobabdcoknaaGreatDoor
open Go Go.RowKit Lite
end Go.Proofs.YtglnobabdcoknaaGreatDoor
end
section
/- What the reference says of processes. (Draft of session 4.) -/
set_option maxRecDepth 8000
set_option maxHeartbeats 16000000
namespace Go.Proofs.YtglnobabdcoknaaGreatDoor
open Go Go.RowKit Lite
end Go.Proofs.YtglnobabdcoknaaGreatDoor
end
section
/- Whole models: what is wrong first, the document's. -/
set_option maxRecDepth 8000
set_option maxHeartbeats 16000000
namespace Go.Proofs.YtglnobabdcoknaaGreatDoor
open Go Go.RowKit Lite
end Go.Proofs.YtglnobabdcoknaaGreatDoor
end
section
/- Lite: maps that are sets of names; a range over one. -/
set_option maxRecDepth 4000
namespace Lite
open Go Go.RowKit
def seenS (l : List ByteArray) : List (ByteArray × Value) := l.map fun x => (x, .bool true)
theorem seenS_find (l : List ByteArray) (x : ByteArray) : ((seenS l).find? (fun p => decide (x = p.1))).map (·.2) = if x ∈ l then some (.bool true) else none := by
  induction l with
  | nil => rfl
  | cons y l ih =>
    simp only [seenS, List.map_cons, List.find?_cons, List.mem_cons]
    by_cases h : x = y
    · simp [h]
    · simp only [h, decide_false, false_or]
      exact ih
/-- Entries that are a set of names. -/
structure MapS (es : Array MapEntry) (c : Nat) (L : List ByteArray) : Prop where
  kv : ∃ l, KV Value.string es.toList (seenS l) ∧ ∀ x, x ∈ l ↔ x ∈ L
  born : ∀ e ∈ es.toList, e.born < c
  nodup : (es.toList.map (·.born)).Nodup
theorem KV.mem {l : List ByteArray} : ∀ {es : List MapEntry}, KV Value.string es (seenS l) → ∀ e ∈ es, ∃ x ∈ l, e.key = .string x ∧ e.val = .bool true := by
  induction l with
  | nil => intro es h e he; cases es with | nil => cases he | cons _ _ => simp [KV, seenS] at h
  | cons y l ih =>
    intro es h e he
    cases es with
    | nil => cases he
    | cons f es =>
      simp only [KV, seenS, List.map_cons, List.cons.injEq, Prod.mk.injEq] at h
      rcases List.mem_cons.1 he with rfl | he
      · exact ⟨y, by simp, h.1.1, h.1.2⟩
      · obtain ⟨x, hx, h2⟩ := ih (es := es) h.2 e he
        exact ⟨x, by simp [hx], h2⟩
theorem KV.of_mem {l : List ByteArray} : ∀ {es : List MapEntry}, KV Value.string es (seenS l) → ∀ x ∈ l, ∃ e ∈ es, e.key = .string x := by
  induction l with
  | nil => intro es h x hx; cases hx
  | cons y l ih =>
    intro es h x hx
    cases es with
    | nil => simp [KV, seenS] at h
    | cons f es =>
      simp only [KV, seenS, List.map_cons, List.cons.injEq, Prod.mk.injEq] at h
      rcases List.mem_cons.1 hx with rfl | hx
      · exact ⟨f, by simp, h.1.1⟩
      · obtain ⟨e, he, h2⟩ := ih (es := es) h.2 x hx
        exact ⟨e, by simp [he], h2⟩
theorem MapS.mem {es : Array MapEntry} {c : Nat} {L : List ByteArray} (h : MapS es c L) : ∀ e ∈ es.toList, ∃ x ∈ L, e.key = .string x ∧ e.val = .bool true := fun e he => by
  obtain ⟨l, h1, h2⟩ := h.kv
  obtain ⟨x, hx, h3⟩ := h1.mem e he
  exact ⟨x, (h2 x).1 hx, h3⟩
theorem MapS.of_mem {es : Array MapEntry} {c : Nat} {L : List ByteArray} (h : MapS es c L) : ∀ x ∈ L, ∃ e ∈ es.toList, e.key = .string x := fun x hx => by
  obtain ⟨l, h1, h2⟩ := h.kv
  exact h1.of_mem x ((h2 x).2 hx)
theorem findNow_ix {d : TypeDesc} {k : Value} : ∀ {es : List MapEntry} {i j : Nat} {v : Value}, Instr.findNow d k es i = some (some (j, v)) → i ≤ j ∧ ∃ e, es[j - i]? = some e ∧ Instr.sameNow d k e.key = some true
  | [], i, j, v, h => by simp [Instr.findNow] at h
  | e :: es, i, j, v, h => by
    unfold Instr.findNow at h
    split at h
    · rename_i hs
      injection h with h; injection h with h; injection h with h1 h2
      subst h1
      exact ⟨Nat.le_refl _, e, by simp, hs⟩
    · obtain ⟨h1, e', h2, h3⟩ := findNow_ix h
      refine ⟨by omega, e', ?_, h3⟩
      rw [show j - i = (j - (i + 1)) + 1 from by omega, List.getElem?_cons_succ]
      exact h2
    · cases h
theorem modify_same {es : Array MapEntry} {j : Nat} {e : MapEntry} {f : MapEntry → MapEntry} (hj : es[j]? = some e) (hf : f e = e) : es.modify j f = es := by
  apply Array.ext_getElem?
  intro i
  rw [Array.getElem?_modify]
  by_cases h : j = i
  · subst h; rw [if_pos rfl, hj, Option.map_some, hf]
  · rw [if_neg h]
/-- A block that holds a set of names. -/
def SetAt (w : World) (b : Nat) (L : List ByteArray) : Prop := ∃ es c, w.heap[b]? = some (.map es c) ∧ MapS es c L
theorem SetAt.of {w w' : World} {b : Nat} {L : List ByteArray} (h : SetAt w b L) (e : w'.heap[b]? = w.heap[b]?) : SetAt w' b L := let ⟨es, c, h1, h2⟩ := h; ⟨es, c, e.trans h1, h2⟩
theorem SetAt.lt {w : World} {b : Nat} {L : List ByteArray} (h : SetAt w b L) : b < w.heap.size := let ⟨_, _, h1, _⟩ := h; lt_of_heap h1
theorem SetAt.ext {w w' : World} {b : Nat} {L : List ByteArray} (h : SetAt w b L) (e : Ext w w') : SetAt w' b L := h.of (e.heap h.lt)
theorem SetAt.wr {w w' : World} {b k : Nat} {L : List ByteArray} (h : SetAt w b L) (e : Wr k w w') (hk : b ≠ k) : SetAt w' b L := h.of (e.block b hk)
theorem SetAt.re {w : World} {b : Nat} {L L' : List ByteArray} (h : SetAt w b L) (e : ∀ x, x ∈ L ↔ x ∈ L') : SetAt w b L' := by
  obtain ⟨es, c, h1, ⟨⟨l, h2, h3⟩, h4, h5⟩⟩ := h
  exact ⟨es, c, h1, ⟨⟨l, h2, fun x => (h3 x).trans (e x)⟩, h4, h5⟩⟩
theorem SetAt.empty {w : World} {b : Nat} (h : w.heap[b]? = some (.map #[] 0)) : SetAt w b [] := ⟨_, _, h, ⟨⟨[], rfl, fun _ => Iff.rfl⟩, fun e he => by simp at he, by simp⟩⟩
theorem SetAt.look {w : World} {b : Nat} {L : List ByteArray} (h : SetAt w b L) (x : ByteArray) : ∃ es r, MapOf w (.map (some b)) es ∧ Instr.findNow .string (.string x) es.toList 0 = some r ∧ lkpV (.bool false) false r = .bool (decide (x ∈ L)) := by
  obtain ⟨es, c, h1, ⟨⟨l, h2, h3⟩, _, _⟩⟩ := h
  obtain ⟨r, hr1, hr2⟩ := findNow_kv same_str x es.toList _ 0 h2
  rw [seenS_find] at hr2
  refine ⟨es, r, .inr ⟨b, c, rfl, h1⟩, hr1, ?_⟩
  by_cases hx : x ∈ L
  · rw [if_pos ((h3 x).2 hx)] at hr2
    simp [lkpV, hr2, hx]
  · rw [if_neg (fun h => hx ((h3 x).1 h))] at hr2
    simp [lkpV, hr2, hx]
theorem SetAt.put {w : World} {b : Nat} {L : List ByteArray} (h : SetAt w b L) (x : ByteArray) : ∃ es c q, w.heap[b]? = some (.map es c) ∧ Instr.findNow .string (.string x) es.toList 0 = some q ∧
    ∀ w' : World, w'.heap[b]? = some (mupO es c (.string x) (.bool true) q) → SetAt w' b (L ++ [x]) := by
  obtain ⟨es, c, h1, hm⟩ := h
  obtain ⟨l, h2, h3⟩ := hm.kv
  obtain ⟨r, hr1, hr2⟩ := findNow_kv same_str x es.toList _ 0 h2
  refine ⟨es, c, r, h1, hr1, fun w' hw => ?_⟩
  cases r with
  | none =>
    refine ⟨_, _, hw, ⟨⟨l ++ [x], ?_, fun y => ?_⟩, ?_, ?_⟩⟩
    · have := KV.push h2 x (.bool true) c
      simpa [seenS] using this
    · simp [h3 y]
    · intro e he
      simp only [Array.toList_push, List.mem_append, List.mem_singleton] at he
      rcases he with he | rfl
      · have := hm.born e he; omega
      · show c < c + 1; omega
    · simp only [Array.toList_push, List.map_append, List.map_cons, List.map_nil]
      rw [List.nodup_append]
      refine ⟨hm.nodup, by simp, fun a ha b' hb' => ?_⟩
      obtain ⟨e, he, rfl⟩ := List.mem_map.1 ha
      simp only [List.mem_singleton] at hb'
      have := hm.born e he
      omega
  | some jv =>
    obtain ⟨j, v⟩ := jv
    obtain ⟨_, e, he, hs⟩ := findNow_ix hr1
    have hmem : e ∈ es.toList := List.mem_of_getElem? he
    obtain ⟨y, hy, hk, hv⟩ := hm.mem e hmem
    have hxy : x = y := by rw [hk, same_str] at hs; simpa using hs
    subst hxy
    have hsame : es.modify j (fun e => { e with key := .string x, val := .bool true }) = es := modify_same (e := e) (by simpa using he) (by cases e; simp only at hk hv; subst hk hv; rfl)
    have hw2 : w'.heap[b]? = some (.map es c) := by rw [hw]; show some (Obj.map (es.modify j _) c) = _; rw [hsame]
    exact ⟨es, c, hw2, ⟨⟨l, h2, fun z => by rw [h3 z]; simp; rintro rfl; exact hy⟩, hm.born, hm.nodup⟩⟩
/-- A range over a set of names, under way: D has come, n are left. -/
def IterAt (w : World) (r b : Nat) (L D : List ByteArray) (n : Nat) (cur : Option ByteArray) : Prop :=
  ∃ es c since seen c0, w.heap[b]? = some (.map es c) ∧ MapS es c L ∧ w.heap[r]? = some (.mapIter (some b) since seen c0) ∧ (∀ x ∈ es.toList, x.born < since) ∧ since ≤ c0 ∧ since ≤ c ∧ (leftOf es seen).size = n ∧
    (∀ e ∈ es.toList, seen.contains e.born = true → ∃ x ∈ D, e.key = .string x) ∧ (∀ x ∈ D, x ∈ L) ∧ (∀ x, cur = some x → ∃ (seen0 : Array Nat) (e : MapEntry), c0 = c ∧ seen = seen0.push e.born ∧ e ∈ es.toList ∧ e.key = .string x ∧ e.val = .bool true)
theorem IterAt.of {w w' : World} {r b : Nat} {L D : List ByteArray} {n : Nat} {cur : Option ByteArray} (h : IterAt w r b L D n cur) (e1 : w'.heap[b]? = w.heap[b]?) (e2 : w'.heap[r]? = w.heap[r]?) : IterAt w' r b L D n cur :=
  let ⟨es, c, since, seen, c0, h1, h2, h3, h4⟩ := h; ⟨es, c, since, seen, c0, e1.trans h1, h2, e2.trans h3, h4⟩
theorem IterAt.set {w : World} {r b : Nat} {L D : List ByteArray} {n : Nat} {cur : Option ByteArray} (h : IterAt w r b L D n cur) : SetAt w b L := let ⟨es, c, _, _, _, h1, h2, _⟩ := h; ⟨es, c, h1, h2⟩
theorem IterAt.sub {w : World} {r b : Nat} {L D : List ByteArray} {n : Nat} {cur : Option ByteArray} (h : IterAt w r b L D n cur) : ∀ x ∈ D, x ∈ L := let ⟨_, _, _, _, _, _, _, _, _, _, _, _, _, h2, _⟩ := h; h2
theorem IterAt.ne {w : World} {r b : Nat} {L D : List ByteArray} {n : Nat} {cur : Option ByteArray} (h : IterAt w r b L D n cur) : r ≠ b := by
  obtain ⟨es, c, since, seen, c0, h1, h2, h3, h4⟩ := h
  intro e
  rw [e, h1] at h3
  cases h3
theorem IterAt.lt {w : World} {r b : Nat} {L D : List ByteArray} {n : Nat} {cur : Option ByteArray} (h : IterAt w r b L D n cur) : r < w.heap.size := by
  obtain ⟨es, c, since, seen, c0, h1, h2, h3, h4⟩ := h
  exact lt_of_heap h3
theorem IterAt.ext {w w' : World} {r b : Nat} {L D : List ByteArray} {n : Nat} {cur : Option ByteArray} (h : IterAt w r b L D n cur) (e : Ext w w') : IterAt w' r b L D n cur := h.of (e.heap h.set.lt) (e.heap h.lt)
theorem IterAt.wr {w w' : World} {r b k : Nat} {L D : List ByteArray} {n : Nat} {cur : Option ByteArray} (h : IterAt w r b L D n cur) (e : Wr k w w') (h1 : b ≠ k) (h2 : r ≠ k) : IterAt w' r b L D n cur := h.of (e.block b h1) (e.block r h2)
theorem wr_drew (k : Nat) (w : World) : Wr k w w.drew := ⟨rfl, rfl, rfl, rfl, fun _ _ => rfl⟩
section
variable {P : Program} {KK : Value → World → Prop} {S : Fr} {w : World} {KW : World → Prop} {K3 : Value → Prop}
theorem K.lkpS {b : Nat} {L : List ByteArray} {x : ByteArray} {t} (h : SetAt w b L) (hk : K3 (.bool (decide (x ∈ L)))) : LkpVCh .string (.bool false) false (.map (some b)) (.string x) w K3 t := by
  obtain ⟨es, r, h1, h2, h3⟩ := h.look x
  exact K.lkp h1 h2 (by rw [h3]; exact hk)
theorem K.mupS {b : Nat} {L : List ByteArray} {x : ByteArray} {t} (h : SetAt w b L) (hk : ∀ w1, Wr b w w1 → SetAt w1 b (L ++ [x]) → KW w1) : MupVCh .string (.map (some b)) (.string x) (.bool true) w KW t := by
  obtain ⟨es, c, q, h1, h2, h3⟩ := h.put x
  exact K.mup h1 h2 (hk _ (Wr.setO w b _) (h3 _ (setO_same (lt_of_heap h1))))
theorem K.rngM {b : Nat} {L : List ByteArray} {x : Operand} {t' k e ty : TypeId} {t} (hx : ev S x = .map (some b)) (ht : P.underlying t' = some (.map k e)) (h : SetAt w b L)
    (hk : ∀ w1 r n, w.heap.size ≤ r → Ext w w1 → IterAt w1 r b L [] n none → KK (.pointer (some ⟨r, 0, none⟩)) w1) : RawVCh P (.range t' x) ty S w KK t := by
  obtain ⟨es, c, h1, h2⟩ := h
  have hrun := run_range_map (P := P) w t' k e b es c ht h1
  refine K.raw (v := .pointer (some ⟨w.heap.size, 0, none⟩)) (w' := w.alloc (.mapIter (some b) c #[] c)) (by simp [execOp, hx, hrun, Result.andThen]) ?_
  refine hk _ _ _ (Nat.le_refl _) ((Ext.refl w).alloc _) ⟨es, c, c, #[], c, heap_alloc_old h1, h2, heap_alloc_new w _, h2.born, Nat.le_refl _, Nat.le_refl _, rfl, ?_, ?_, ?_⟩
  · intro e _ h
    simp at h
  · intro x hx
    cases hx
  · intro x hx
    cases hx
theorem K.nxtM {r b n : Nat} {L D : List ByteArray} {cur : Option ByteArray} {x : Operand} {ty : TypeId} {t} (hx : ev S x = .pointer (some ⟨r, 0, none⟩)) (h : IterAt w r b L D n cur)
    (h0 : (∀ y ∈ L, y ∈ D) → KK (.tuple #[.bool false]) w)
    (h1 : ∀ y w1 n', y ∈ L → n' < n → Wr r w w1 → IterAt w1 r b L (D ++ [y]) n' (some y) → KK (.tuple #[.bool true, .string y, .bool true]) w1) : RawVCh P (.next x false) ty S w KK t := by
  have hne := h.ne
  obtain ⟨es, c, since, seen, c0, hb, hm, hr, hold, hsc, hsk, hn, hD, hDL, _⟩ := h
  rcases run_next_at (P := P) w ty r b since c0 seen es c hr hb hold hsc with ⟨hz, hrun⟩ | ⟨e, he, w1, hal, hrun⟩
  · refine K.raw (v := .tuple #[.bool false]) (w' := w) (by simp [execOp, hx, hrun, Result.andThen]) (h0 fun y hy => ?_)
    obtain ⟨e, he, hk⟩ := hm.of_mem y hy
    obtain ⟨z, hz1, hz2⟩ := hD e he (all_seen es seen hz e he)
    rw [hk] at hz2
    injection hz2 with hz2
    rw [hz2]; exact hz1
  · obtain ⟨hem, hes⟩ := mem_left he
    obtain ⟨y, hy, hk, hv⟩ := hm.mem e hem
    have hw1 : Wr r w w1 := by
      rcases hal with rfl | rfl
      · exact Wr.refl _ _
      · exact wr_drew r w
    have hsz : w1.heap.size = w.heap.size := hw1.size
    have hrl : r < w1.heap.size := by rw [hsz]; exact lt_of_heap hr
    have hset : Go.ChangeMaps.setBlock w1 r (.mapIter (some b) since (seen.push e.born) c) = Lite.setO w1 r (.mapIter (some b) since (seen.push e.born) c) := rfl
    rw [hset] at hrun
    refine K.raw (v := .tuple #[.bool true, e.key, e.val]) (w' := setO w1 r (.mapIter (some b) since (seen.push e.born) c)) (by simp [execOp, hx, hrun, Result.andThen]) ?_
    rw [hk, hv]
    refine h1 y _ _ hy (Nat.lt_of_lt_of_eq (left_shrinks es seen e he) hn) (hw1.trans (Wr.setO _ _ _)) ⟨es, c, since, seen.push e.born, c, ?_, hm, setO_same hrl, hold, hsk, hsk, rfl, fun f hf hc => ?_, fun z hz => ?_, fun z hz => ?_⟩
    · rw [setO_ne (Ne.symm hne)]
      rcases hal with rfl | rfl <;> exact hb
    · rw [contains_push] at hc
      rcases Bool.or_eq_true_iff.1 hc with hc | hc
      · obtain ⟨x, hx1, hx2⟩ := hD f hf hc
        exact ⟨x, by simp [hx1], hx2⟩
      · have hbe : f.born = e.born := by simpa using hc
        have h5 := find_born f es.toList hm.nodup hf
        rw [hbe, find_born e es.toList hm.nodup hem] at h5
        injection h5 with h5
        have : f = e := h5.symm
        subst this
        exact ⟨y, by simp, hk⟩
    · rcases List.mem_append.1 hz with hz | hz
      · exact hDL z hz
      · simp only [List.mem_singleton] at hz; subst hz; exact hy
    · injection hz with hz
      subst hz
      exact ⟨seen, e, rfl, rfl, hem, hk, hv⟩
theorem K.entM {r b n : Nat} {L D : List ByteArray} {y : ByteArray} {x : Operand} {ty : TypeId} {t} (hx : ev S x = .pointer (some ⟨r, 0, none⟩)) (h : IterAt w r b L D n (some y))
    (hk : KK (.tuple #[.string y, .bool true]) w) : RawVCh P (.entry x) ty S w KK t := by
  obtain ⟨es, c, since, seen, c0, hb, hm, hr, hold, hsc, hsk, hn, hD, hDL, hc⟩ := h
  obtain ⟨seen0, e, rfl, rfl, he, hk1, hk2⟩ := hc y rfl
  have hrun : (Instr.entry (.pointer (some ⟨r, 0, none⟩))).run P w = .ok (.tuple #[e.key, e.val]) w := run_entry_at w r b since seen0 es c0 e hr hb he hm.nodup
  refine K.raw (v := .tuple #[e.key, e.val]) (w' := w) (by simp [execOp, hx, hrun, Result.andThen]) ?_
  rw [hk1, hk2]
  exact hk
end
end Lite
end
section
/- Whole models: what throws. -/
set_option maxRecDepth 4000
namespace Go.Proofs.YtglnobabdcoknaaGreatDoor
open Go Go.RowKit Lite
/-- What is thrown of a fault. -/
def thrown (f : Abs.Fault) : List PanicEntry := [{ v := .iface T.model_thrown (.agg #[.int .i64 f.why, .int .i64 f.part, .int .i64 f.item, .int .i64 f.sub]), recovered := false }]
theorem throw_r (e p i s : Int) (w : World) : RetT Tryz.prog F.model_throw #[.int .i64 e, .int .i64 p, .int .i64 i, .int .i64 s] w (fun _ w' => e = 0 ∧ w' = w) (fun c w' => e ≠ 0 ∧ c = thrown ⟨e, p, i, s⟩ ∧ w' = w) := by
  refine K.startT hmix E.model_throw (args := [_, _, _, _]) (Nat.le_of_ble_eq_true rfl) ?_; dsimp only [C.model_throw]; refine Yy ?_
  refine Sg ?_
  refine K.cond (fun g => ?_) (fun g => ?_)
  · refine Sg ?_
    exact ⟨g, by first | trivial | rfl⟩
  · refine Sg ?_
    exact ⟨g, by first | trivial | rfl, by first | trivial | rfl⟩
theorem take_r (b : Nat) (L : List ByteArray) (x : ByteArray) (p i : Int) (w : World) (h : SetAt w b L) : RetT Tryz.prog F.model_take #[.map (some b), .string x, .int .i64 p, .int .i64 i] w
    (fun _ w' => ¬ x ∈ L ∧ Wr b w w' ∧ SetAt w' b (L ++ [x])) (fun c w' => x ∈ L ∧ c = thrown ⟨7, p, i, 0⟩ ∧ w' = w) := by
  refine K.startT hmix E.model_take (args := [_, _, _, _]) (Nat.le_of_ble_eq_true rfl) ?_; dsimp only [C.model_take]; refine Yy ?_
  refine Sg ?_
  refine K.lkpS h ?_
  refine Sg ?_
  refine K.cond (fun g => ?_) (fun g => ?_)
  · refine Sg ?_
    refine K.thr (throw_r 7 p i 0 w) ?_ ?_
    · rintro _ _ ⟨h0, _⟩
      exact absurd h0 (by decide)
    · rintro c _ ⟨_, rfl, rfl⟩
      refine Sg ?_
      exact ⟨g, by first | trivial | rfl, by first | trivial | rfl⟩
  · refine Sg ?_
    refine K.mupS h fun w1 hw h1 => ?_
    refine Sg ?_
    exact ⟨g, hw, h1⟩
end Go.Proofs.YtglnobabdcoknaaGreatDoor
end
section
/- Whole models: scalars, variables, channels. -/
set_option maxRecDepth 4000
set_option maxHeartbeats 6400000
namespace Go.Proofs.YtglnobabdcoknaaGreatDoor
open Go Go.RowKit Lite
/-- The names that are taken lie in block bt; a model in box b1. -/
structure TakSt (w0 w : World) (bt b1 : Nat) (cs : List Value) (w' : World) (L : List ByteArray) : Prop where
  ext : Ext w0 w'
  mod : Mod (fun k => k = bt) w w'
  box : w'.heap[b1]? = some (.cells cs.toArray T.api_Model)
  set : SetAt w' bt L
  low : w0.heap.size ≤ bt
  ne : b1 ≠ bt
section
variable {w0 w w' w'' : World} {bt b1 : Nat} {cs : List Value} {L L' : List ByteArray}
theorem TakSt.then (h : TakSt w0 w bt b1 cs w' L) (he : Ext w' w'') : TakSt w0 w bt b1 cs w'' L := ⟨h.ext.trans he, h.mod.trans he.mod, he.obj h.box, h.set.ext he, h.low, h.ne⟩
theorem TakSt.wr (h : TakSt w0 w bt b1 cs w' L) (hw : Wr bt w' w'') (hs : SetAt w'' bt L') : TakSt w0 w bt b1 cs w'' L' := ⟨hw.ext h.ext h.low, h.mod.trans (hw.mod rfl), hw.obj h.box h.ne, hs, h.low, h.ne⟩
theorem TakSt.re (h : TakSt w0 w bt b1 cs w' L) (e : L = L') : TakSt w0 w bt b1 cs w' L' := e ▸ h
end
theorem globals_r {w0 : World} (cs : List Value) (m : Abs.Model) (bt : Nat) (w : World) (h : Abs.ModelIs w0 cs m) (e0 : Ext w0 w) (hbt : w0.heap.size ≤ bt) (ho : OwnIs w0) (hs : SetAt w bt []) :
    RetT Tryz.prog F.model_globals #[.agg cs.toArray, .map (some bt)] w (fun _ w' => (Abs.data m).why = 0 ∧ Ext w0 w' ∧ Mod (fun k => k = bt) w w' ∧ SetAt w' bt (Abs.nSVC m m.chans.length))
      (fun c w' => (Abs.data m).why ≠ 0 ∧ c = thrown (Abs.data m) ∧ Ext w0 w' ∧ Mod (fun k => k = bt) w w') := by
  obtain ⟨o0, c0, o1, c1, o2, c2, o3, c3, o4, c4, rfl, h0, h1, h2, h3, h4, l0, l1, l2, l3, l4⟩ := h.form
  refine K.startT hmix E.model_globals (args := [_, _]) (Nat.le_of_ble_eq_true rfl) ?_; dsimp only [C.model_globals]; refine Yy ?_
  refine Sg ?_
  intro w1 b1 hb1 he1 hc1
  have st1 : TakSt w0 w bt b1 _ w1 [] := ⟨e0.trans he1, he1.mod, hc1, hs.ext he1, hbt, by have := hs.lt; omega⟩
  clear hs
  refine Sg ?_
  refine K.call (scalars_r _ m.scalars w1 (ho.ext st1.ext) (h0.ext st1.ext)) ?_
  rintro _ w2 ⟨rfl, he2⟩
  replace st1 := st1.then he2
  clear hc1
  refine Sg ?_
  refine K.thr (throw_r (Abs.scalars m.scalars).2 1 (Abs.scalars m.scalars).1 0 w2) ?_ ?_
  rotate_left
  · rintro c _ ⟨g, rfl, rfl⟩
    refine Sg ?_
    rw [Abs.data_s g]
    exact ⟨g, rfl, st1.ext, st1.mod⟩
  rintro _ _ ⟨hS, rfl⟩
  have hc1 := st1.box
  refine Sg ?_
  refine K.forG 24 m.scalars.length [1, 2, 22, 23] (fun _ : Unit => []) () (fun k _ w' => TakSt w0 w bt b1 _ w' ((m.scalars.take k).map (·.name))) hZq hZq (st1.re (by simp)) ?_
  clear hc1 he2 st1
  rintro k _ S w3 hk st3
  have hc1 := st3.box
  have e3 := st3.ext
  refine Sg ?_
  refine K.cond (fun g1 => ?_) (fun g1 => ?_)
  · have hk' : k < m.scalars.length := by omega
    obtain ⟨a, rfl⟩ := h0.addr (by omega)
    refine Sg ?_
    intro w4 b3 hb3 he4 hc3
    have st4 := st3.then he4
    refine Sg ?_
    refine K.mupS st4.set fun w5 hw hs5 => ?_
    refine Sg ?_
    exact ⟨hk', by first | trivial | rfl, (), trivial, (st4.wr hw hs5).re (Abs.take_snocN _ _ hk').symm⟩
  replace st3 := st3.re (show _ = Abs.nSV m 0 by rw [List.take_of_length_le (by omega)]; simp)
  refine Sg ?_
  refine K.call (vars_r _ _ m.vars m.scalars 12 w3 (ho.ext e3) (h1.ext e3) (h0.ext e3)) ?_
  rintro _ w4 ⟨rfl, he4⟩
  replace st3 := st3.then he4
  clear hc1 e3
  have hc1 := st3.box
  rw [Abs.vars_eq]
  refine Sg ?_
  refine K.forG 43 m.vars.length [1, 2, 4, 5, 41, 42] (fun _ : Unit => []) () (fun k _ w' => TakSt w0 w bt b1 _ w' (Abs.nSV m k) ∧ ∀ j, j < k → Abs.evar m j = 0) hZq hZq ⟨st3, fun j h => absurd h (Nat.not_lt_zero _)⟩ ?_
  clear hc1 st3 he4
  rintro k _ S' w5 hk ⟨st5, hz⟩
  have hc1 := st5.box
  have e5 := st5.ext
  refine Sg ?_
  refine K.cond (fun g1 => ?_) (fun g1 => ?_)
  · have hk' : k < m.vars.length := by omega
    obtain ⟨a, rfl⟩ := h1.addr (by omega)
    have hnm := Abs.nameAt_get (f := fun x : Abs.Var => x.name) hk'
    refine Sg ?_
    intro wN b9 hb9 heN hcN
    refine Su ?_
    intro w6 hw6 hc6
    have he6 := hw6.ext heN hb9
    have st6 := st5.then he6
    replace hc1 := st6.box
    clear hcN heN
    refine Su ?_
    refine K.cutG [1, 2, 4, 5, 8, 9, 41, 42, 43] (fun _ : Unit => []) (fun _ w' => w' = w6 ∧ Abs.verr m k = 0) ?_ ?_
    · refine Sg ?_
      refine K.cond (fun g2 => ?_) (fun g2 => ?_)
      · refine Sg ?_
        refine K.thr (throw_r (Abs.first m.vars.length (Abs.verr m)).2 2 k 0 w6) ?_ ?_
        · rintro _ _ ⟨h00, rfl⟩
          refine Sg ?_
          exact ⟨(), trivial, by first | trivial | rfl, Abs.first_zero h00 k hk'⟩
        · rintro c _ ⟨h00, rfl, rfl⟩
          obtain ⟨i, hi, e1, e2⟩ := Abs.first_lt h00
          obtain rfl : k = i := by omega
          rw [e2] at h00
          have hev : Abs.evar m k = Abs.verr m k := by unfold Abs.evar; rw [if_pos h00]
          have hd := Abs.data_v hS hk' hz (by rw [hev]; exact h00)
          rw [hev] at hd
          refine Sg ?_
          rw [hd, e2]
          exact ⟨h00, by first | trivial | rfl, st6.ext, st6.mod⟩
      · refine Sg ?_
        refine ⟨(), trivial, by first | trivial | rfl, ?_⟩
        apply Classical.byContradiction
        intro hne
        apply g2
        rw [Abs.first_stop hk' (fun j hj => Abs.verr_of (hz j hj)) hne]
    rintro _ S2 _ ⟨rfl, hv0⟩
    refine Sg ?_
    refine K.thr (take_r bt (Abs.nSV m k) m.vars[k].name 2 k _ st6.set) ?_ ?_
    · rintro _ w7 ⟨hn, hw7, hs7⟩
      refine Sg ?_
      refine ⟨hk', by first | trivial | rfl, (), trivial, (st6.wr hw7 hs7).re (by simp only [Abs.nSV, Abs.nV]; rw [Abs.take_snocN (fun x : Abs.Var => x.name) _ hk', List.append_assoc]), fun j hj => ?_⟩
      by_cases hjk : j = k
      · subst hjk
        unfold Abs.evar
        rw [if_neg (by simpa using hv0), hnm, if_neg hn]
      · exact hz j (by omega)
    · rintro c _ ⟨hn, rfl, rfl⟩
      have hev : Abs.evar m k = 7 := by unfold Abs.evar; rw [if_neg (by simpa using hv0), hnm, if_pos hn]
      have hd := Abs.data_v hS hk' hz (by rw [hev]; decide)
      rw [hev] at hd
      refine Sg ?_
      rw [hd]
      exact ⟨(show (7 : Int) ≠ 0 by decide), by first | trivial | rfl, st6.ext, st6.mod⟩
  have hkv : m.vars.length ≤ k := by omega
  have hV : ∀ j, j < m.vars.length → Abs.evar m j = 0 := fun j hj => hz j (by omega)
  replace st5 := st5.re (show _ = Abs.nSVC m 0 by simp only [Abs.nSVC, Abs.nSV, Abs.nV, Abs.nC]; rw [List.take_of_length_le hkv]; simp)
  refine Sg ?_
  refine K.call (chans_r _ _ m.chans m.scalars w5 (ho.ext e5) (h2.ext e5) (h0.ext e5)) ?_
  rintro _ w6 ⟨rfl, he6⟩
  replace st5 := st5.then he6
  clear hc1 e5
  have hc1 := st5.box
  rw [Abs.chans_eq]
  refine Sg ?_
  refine K.forG 71 m.chans.length [1, 2, 4, 5, 69, 70] (fun _ : Unit => []) () (fun k _ w' => TakSt w0 w bt b1 _ w' (Abs.nSVC m k) ∧ ∀ j, j < k → Abs.echan m j = 0) hZq hZq ⟨st5, fun j h => absurd h (Nat.not_lt_zero _)⟩ ?_
  clear hc1 st5 he6
  rintro k _ S' w7 hk ⟨st7, hz⟩
  have hc1 := st7.box
  have e7 := st7.ext
  refine Sg ?_
  refine K.cond (fun g1 => ?_) (fun g1 => ?_)
  · have hk' : k < m.chans.length := by omega
    obtain ⟨a, rfl⟩ := h2.addr (by omega)
    have hnm := Abs.nameAt_get (f := fun x : Abs.Chan => x.name) hk'
    refine Sg ?_
    intro wN b9 hb9 heN hcN
    refine Su ?_
    intro w6 hw6 hc6
    have he6 := hw6.ext heN hb9
    have st6 := st7.then he6
    replace hc1 := st6.box
    clear hcN heN
    refine Su ?_
    refine K.cutG [1, 2, 4, 5, 10, 11, 69, 70, 71] (fun _ : Unit => []) (fun _ w' => w' = w6 ∧ Abs.cerr m k = 0) ?_ ?_
    · refine Sg ?_
      refine K.cond (fun g2 => ?_) (fun g2 => ?_)
      · refine Sg ?_
        refine K.thr (throw_r (Abs.first m.chans.length (Abs.cerr m)).2 3 k 0 w6) ?_ ?_
        · rintro _ _ ⟨h00, rfl⟩
          refine Sg ?_
          exact ⟨(), trivial, by first | trivial | rfl, Abs.first_zero h00 k hk'⟩
        · rintro c _ ⟨h00, rfl, rfl⟩
          obtain ⟨i, hi, e1, e2⟩ := Abs.first_lt h00
          obtain rfl : k = i := by omega
          rw [e2] at h00
          have hev : Abs.echan m k = Abs.cerr m k := by unfold Abs.echan; rw [if_pos h00]
          have hd := Abs.data_c hS hV hk' hz (by rw [hev]; exact h00)
          rw [hev] at hd
          refine Sg ?_
          rw [hd, e2]
          exact ⟨h00, by first | trivial | rfl, st6.ext, st6.mod⟩
      · refine Sg ?_
        refine ⟨(), trivial, by first | trivial | rfl, ?_⟩
        apply Classical.byContradiction
        intro hne
        apply g2
        rw [Abs.first_stop hk' (fun j hj => Abs.cerr_of (hz j hj)) hne]
    rintro _ S2 _ ⟨rfl, hv0⟩
    refine Sg ?_
    refine K.thr (take_r bt (Abs.nSVC m k) m.chans[k].name 3 k _ st6.set) ?_ ?_
    · rintro _ w7 ⟨hn, hw7, hs7⟩
      refine Sg ?_
      refine ⟨hk', by first | trivial | rfl, (), trivial, (st6.wr hw7 hs7).re (by simp only [Abs.nSVC, Abs.nC]; rw [Abs.take_snocN (fun x : Abs.Chan => x.name) _ hk', List.append_assoc]), fun j hj => ?_⟩
      by_cases hjk : j = k
      · subst hjk
        unfold Abs.echan
        rw [if_neg (by simpa using hv0), hnm, if_neg hn]
      · exact hz j (by omega)
    · rintro c _ ⟨hn, rfl, rfl⟩
      have hev : Abs.echan m k = 7 := by unfold Abs.echan; rw [if_neg (by simpa using hv0), hnm, if_pos hn]
      have hd := Abs.data_c hS hV hk' hz (by rw [hev]; decide)
      rw [hev] at hd
      refine Sg ?_
      rw [hd]
      exact ⟨(show (7 : Int) ≠ 0 by decide), by first | trivial | rfl, st6.ext, st6.mod⟩
  have hkc : m.chans.length ≤ k := by omega
  refine Sg ?_
  refine ⟨by rw [Abs.data_0 hS hV fun j hj => hz j (by omega)]; rfl, st7.ext, st7.mod, (st7.re ?_).set⟩
  simp only [Abs.nSVC, Abs.nC]
  rw [List.take_of_length_le hkc, List.take_of_length_le (Nat.le_refl _)]
end Go.Proofs.YtglnobabdcoknaaGreatDoor
end
section
/- Whole models: processes. -/
set_option maxRecDepth 8000
set_option maxHeartbeats 16000000
namespace Go.Proofs.YtglnobabdcoknaaGreatDoor
open Go Go.RowKit Lite
theorem TakSt.wrN {w0 w w' w'' : World} {bt b1 k : Nat} {cs : List Value} {L : List ByteArray} (h : TakSt w0 w bt b1 cs w' L) (hsz : w0.heap.size ≤ w.heap.size) (hw : Wr k w' w'') (hk : w.heap.size ≤ k) (h1 : b1 ≠ k) (h2 : bt ≠ k) : TakSt w0 w bt b1 cs w'' L :=
  ⟨hw.ext h.ext (Nat.le_trans hsz hk), h.mod.then (hw.mod (A := fun j => j = k) rfl) fun i hi e => absurd e (by omega), hw.obj h.box h1, h.set.wr hw h2, h.low, h.ne⟩
theorem processes_r {w0 : World} (cs : List Value) (m : Abs.Model) (bt : Nat) (w : World) (h : Abs.ModelIs w0 cs m) (hg : m.good) (e0 : Ext w0 w) (hbt : w0.heap.size ≤ bt) (ho : OwnIs w0) (hd : (Abs.data m).why = 0) (hs : SetAt w bt (Abs.nSVC m m.chans.length)) :
    RetT Tryz.prog F.model_processes #[.agg cs.toArray, .map (some bt)] w (fun _ w' => (Abs.procsF m).why = 0 ∧ Ext w0 w' ∧ Mod (fun k => k = bt) w w' ∧ SetAt w' bt (Abs.nSVCP m m.procs.length))
      (fun c w' => (Abs.procsF m).why ≠ 0 ∧ c = thrown (Abs.procsF m) ∧ Ext w0 w' ∧ Mod (fun k => k = bt) w w') := by
  have hM := h
  obtain ⟨o0, c0, o1, c1, o2, c2, o3, c3, o4, c4, rfl, h0, h1, h2, h3, h4, l0, l1, l2, l3, l4⟩ := h.form
  have hsz := e0.size
  refine K.startT hmix E.model_processes (args := [_, _]) (Nat.le_of_ble_eq_true rfl) ?_; dsimp only [C.model_processes]; refine Yy ?_
  refine Sg ?_
  intro w1 b1 hb1 he1 hc1
  have st1 : TakSt w0 w bt b1 _ w1 (Abs.nSVC m m.chans.length) := ⟨e0.trans he1, he1.mod, hc1, hs.ext he1, hbt, by have := hs.lt; omega⟩
  have zt := hs.lt
  have z1 := lt_of_heap hc1
  clear hs hc1
  refine Sg ?_
  refine K.newM fun w2 ba hba he2 hm2 => ?_
  replace st1 := st1.then he2
  have sa : SetAt w2 ba [] := SetAt.empty hm2
  have z0 := he1.size
  have z2 := sa.lt
  clear hm2
  refine Sg ?_
  refine K.rngM (b := bt) rfl (k := T.string) (e := T.bool) (by kernel_rfl) st1.set fun w3 r n hr he3 hit => ?_
  replace st1 := st1.then he3
  replace sa := sa.ext he3
  have z4 := he2.size
  have z5 := hit.lt
  refine Sg ?_
  refine K.whG [1, 2, 4, 20] (fun _ : List ByteArray × Nat => []) ([], n) (fun x w' => TakSt w0 w bt b1 _ w' (Abs.nSVC m m.chans.length) ∧ SetAt w' ba x.1 ∧ ∃ cur, IterAt w' r bt (Abs.nSVC m m.chans.length) x.1 x.2 cur) (fun x => x.2) hZq ⟨st1, sa, _, hit⟩ ?_
  clear st1 sa hit
  rintro ⟨D, n'⟩ S w4 ⟨st4, sa, cur, hit⟩
  have hc1 := st4.box
  refine Sg ?_
  refine K.nxtM rfl hit (fun hall => ?_) (fun y w5 n2 hy hlt hw5 hit5 => ?_)
  rotate_left
  · have st5 := st4.wrN hsz hw5 (by omega) (by omega) (by omega)
    have sa5 := sa.wr hw5 (by omega)
    refine Sg ?_
    refine K.entM rfl hit5 ?_
    refine Sg ?_
    refine K.mupS sa5 fun w6 hw6 sa6 => ?_
    have st6 := st5.wrN hsz hw6 (by omega) (by omega) (by omega)
    have hit6 := hit5.wr hw6 (by omega) (by omega)
    refine Sg ?_
    exact ⟨(D ++ [y], n2), trivial, ⟨st6, sa6, _, hit6⟩, hlt⟩
  have sb : SetAt w4 ba (Abs.nSVCP m 0) := sa.re fun x => by
    have hsub := hit.sub
    simp only [Abs.nSVCP, Abs.nP, List.take_zero, List.map_nil, List.append_nil]
    exact ⟨fun hx => hsub x hx, fun hx => hall x hx⟩
  clear sa hit hall
  refine Sg ?_
  refine K.forG 30 m.procs.length [1, 2, 4, 28, 29] (fun _ : Unit => []) () (fun k _ w' => TakSt w0 w bt b1 _ w' (Abs.nSVC m m.chans.length) ∧ SetAt w' ba (Abs.nSVCP m k)) hZq hZq ⟨st4, sb⟩ ?_
  clear hc1 st4 sb
  rintro k _ S' w5 hk ⟨st5, sb⟩
  have hc1 := st5.box
  have e5 := st5.ext
  refine Sg ?_
  refine K.cond (fun g1 => ?_) (fun g1 => ?_)
  · have hk' : k < m.procs.length := by omega
    obtain ⟨a, rfl⟩ := h3.addr (by omega)
    obtain ⟨_, vv, vc, hp, hpv, hpc⟩ := h3.at k hk'
    obtain ⟨ov, cv, rfl, lv⟩ := hpv.form
    obtain ⟨oc, cc, rfl, lc⟩ := hpc.form
    replace hp := hp.ext e5
    refine Sg ?_
    intro w6 b7 hb7 he6 hc7
    have st6 := st5.then he6
    replace sb := sb.ext he6
    refine Sg ?_
    refine K.mupS sb fun w7 hw7 sb7 => ?_
    have st7 := st6.wrN hsz hw7 (by omega) (by omega) (by omega)
    refine Sg ?_
    exact ⟨hk', by first | trivial | rfl, (), trivial, st7, by simp only [Abs.nSVCP, Abs.nP]; rw [Abs.take_snocN (fun x : Abs.Proc => x.name) _ hk', ← List.append_assoc]; exact sb7⟩
  have sA : ∀ {w'}, SetAt w' ba (Abs.nSVCP m k) → SetAt w' ba (Abs.nSVCP m m.procs.length) := fun h => h.re fun x => by
    simp only [Abs.nSVCP, Abs.nP]; rw [List.take_of_length_le (by omega), List.take_of_length_le (Nat.le_refl _)]
  replace sb := sA sb
  clear sA
  replace st5 := st5.re (show _ = Abs.nSVCP m 0 by simp [Abs.nSVCP])
  refine Sg ?_
  refine K.forG 41 m.procs.length [1, 2, 4, 39, 40] (fun _ : Unit => []) () (fun k _ w' => TakSt w0 w bt b1 _ w' (Abs.nSVCP m k) ∧ SetAt w' ba (Abs.nSVCP m m.procs.length) ∧ ∀ j, j < k → (Abs.eproc m j).1 = 0) hZq hZq ⟨st5, sb, fun j h => absurd h (Nat.not_lt_zero _)⟩ ?_
  clear hc1 e5 st5 sb
  rintro k _ S2 w6 hk ⟨st6, sb, hz⟩
  have hc1 := st6.box
  have e6 := st6.ext
  have z6 := st6.mod.size
  refine Sg ?_
  refine K.cond (fun g1 => ?_) (fun g1 => ?_)
  · have hk' : k < m.procs.length := by omega
    obtain ⟨a, rfl⟩ := h3.addr (by omega)
    obtain ⟨hsn, vv, vc, hp, hpv, hpc⟩ := h3.at k hk'
    obtain ⟨ov, cv, rfl, lv⟩ := hpv.form
    obtain ⟨oc, cc, rfl, lc⟩ := hpc.form
    have hpg := hg.proc _ (List.getElem_mem hk')
    have hget := Abs.eproc_get hk'
    replace hp := hp.ext e6
    refine Sg ?_
    intro wN b9 hb9 heN hcN
    refine Su ?_
    intro w7 hw7 hc9
    have he7 := hw7.ext heN hb9
    have st7 := st6.then he7
    replace sb := sb.ext he7
    replace hc1 := st7.box
    have zb9 := lt_of_heap hc9
    have za := sb.lt
    have e7 := st7.ext
    clear hcN heN hw7
    refine Sg ?_
    refine K.cond (fun g2 => ?_) (fun g2 => ?_)
    · have h6 : 6 ≤ k := by omega
      rw [if_pos h6] at hget
      have hd2 := Abs.procs_i hk' hz (by rw [hget]; decide)
      rw [hget] at hd2
      refine Sg ?_
      refine K.thr (throw_r 11 4 k 0 w7) ?_ ?_
      · rintro _ _ ⟨h00, _⟩
        exact absurd h00 (by decide)
      · rintro c _ ⟨_, rfl, rfl⟩
        refine Sg ?_
        rw [hd2]
        exact ⟨(show (11 : Int) ≠ 0 by decide), by first | trivial | rfl, e7, st7.mod⟩
    rw [if_neg (by omega)] at hget
    refine Sg ?_
    intro w8 he8
    replace hc1 := he8.obj hc1
    replace hc9 := he8.obj hc9
    refine Sg ?_
    refine K.call (scope_r _ m k w8 (hM.ext (e7.trans he8)) hg) ?_
    rintro _ w9 ⟨⟨cs9, rfl, hn9⟩, he9⟩
    refine ⟨he9, ?_⟩
    have hsc := hn9.here
    obtain ⟨x0, y0, x1, y1, x2, y2, x3, y3, x4, y4, rfl, _⟩ := hsc.form
    refine Sg ?_
    refine K.call (pcheck_r m.procs[k] _ _ (Abs.pscope m k) w9 (ho.ext (e7.trans (he8.trans he9))) ⟨hsn, _, _, rfl, hpv.ext (e7.trans (he8.trans he9)), hpc.ext (e7.trans (he8.trans he9))⟩ hsc (hg.pscope _) hpg) ?_
    rintro _ w10 ⟨rfl, he10⟩
    have e710 := (he8.trans he9).trans he10
    have st10 := st7.then e710
    replace sb := sb.ext e710
    replace hc1 := st10.box
    replace hc9 := (he9.trans he10).obj hc9
    have zb10 := lt_of_heap hc9
    have za10 := sb.lt
    clear hsc hn9 st7 e7
    have e10 := st10.ext
    have hin := Abs.procCheck_in m.procs[k] (Abs.pscope m k) 140737488351232 fun c hc => by have := (hpg.cmd c hc).acts; unfold Abs.big at this; omega
    have hvb : m.procs[k].vars.length ≤ 140737488351232 := by have := hpg.vars; unfold Abs.big at this; omega
    have hcb : m.procs[k].cmds.length ≤ 140737488351232 := by have := hpg.cmds; unfold Abs.big at this; omega
    refine Sg ?_
    refine K.thr (throw_r (Abs.procCheck m.procs[k] (Abs.pscope m k)).2.2 4 k (16 * (Abs.procCheck m.procs[k] (Abs.pscope m k)).1 + (Abs.procCheck m.procs[k] (Abs.pscope m k)).2.1) w10) ?_ ?_
    rotate_left
    · rintro c _ ⟨h00, rfl, rfl⟩
      rw [if_pos h00] at hget
      have hd2 := Abs.procs_i hk' hz (by rw [hget]; exact h00)
      rw [hget] at hd2
      refine Sg ?_
      rw [hd2]
      exact ⟨h00, by first | trivial | rfl, e10, st10.mod⟩
    rintro _ wA ⟨h00, rfl⟩
    rw [if_neg (by simpa using h00)] at hget
    refine Sg ?_
    refine K.thr (take_r bt (Abs.nSVCP m k) m.procs[k].name 4 k wA st10.set) ?_ ?_
    rotate_left
    · rintro c _ ⟨hn, rfl, rfl⟩
      rw [if_pos hn] at hget
      have hd2 := Abs.procs_i hk' hz (by rw [hget]; decide)
      rw [hget] at hd2
      refine Sg ?_
      rw [hd2]
      exact ⟨(show (7 : Int) ≠ 0 by decide), by first | trivial | rfl, e10, st10.mod⟩
    rintro _ w11 ⟨hn, hw11, hs11⟩
    rw [if_neg hn] at hget
    have st11 : TakSt w0 w bt b1 _ w11 (Abs.nSVCP m (k + 1)) := (st10.wr hw11 hs11).re (by simp only [Abs.nSVCP, Abs.nP]; rw [Abs.take_snocN (fun x : Abs.Proc => x.name) _ hk', List.append_assoc])
    replace sb := sb.wr hw11 (by omega)
    replace hc1 := st11.box
    replace hc9 := hw11.obj hc9 (by omega)
    have e11 := st11.ext
    have z11 := hw11.size
    clear st10 e10
    refine Sg ?_
    refine K.forG 74 m.procs[k].vars.length [1, 2, 4, 8, 9, 39, 40, 41, 72, 73] (fun _ : Unit => []) () (fun j _ w' => TakSt w0 w bt b1 _ w' (Abs.nSVCP m (k + 1)) ∧ SetAt w' ba (Abs.nSVCP m m.procs.length) ∧ Ext w11 w' ∧ ∀ i, i < j → Abs.elocs m m.procs[k] i = 0) hZq hZq ⟨st11, sb, Ext.refl _, fun j h => absurd h (Nat.not_lt_zero _)⟩ ?_
    have hc11 := hc9
    clear st11 sb hc1 hc9 e11
    rintro j _ S3 w12 hj ⟨st12, sb, he12, hz2⟩
    have hc1 := st12.box
    have hc9 := he12.obj hc11
    have e12 := st12.ext
    refine Sg ?_
    refine K.cond (fun g3 => ?_) (fun g3 => ?_)
    · have hj' : j < m.procs[k].vars.length := by omega
      obtain ⟨a', rfl⟩ := hpv.addr (by omega)
      have hcv := ((hpv.at j hj').cells).ext e12
      have hnm := Abs.nameAt_get (f := fun x : Abs.Var => x.name) hj'
      refine Sg ?_
      intro wM b14 hb14 heM hcM
      refine Su ?_
      intro w13 hw13 hc14
      have he13 := hw13.ext heM hb14
      have st13 := st12.then he13
      replace sb := sb.ext he13
      replace hc1 := st13.box
      clear hcM heM hw13
      refine Sg ?_
      refine K.lkpS sb ?_
      refine Sg ?_
      refine K.cond (fun g4 => ?_) (fun g4 => ?_)
      · have hel : Abs.elocs m m.procs[k] j = 7 := by unfold Abs.elocs; rw [hnm, if_pos g4]
        rw [Abs.first_stop hj' hz2 (by rw [hel]; decide), hel, if_pos (show (7 : Int) ≠ 0 by decide)] at hget
        have hd2 := Abs.procs_i hk' hz (by rw [hget]; exact (show (7 : Int) ≠ 0 by decide))
        rw [hget] at hd2
        refine Sg ?_
        refine K.thr (throw_r 7 4 k (16 + j) w13) ?_ ?_
        · rintro _ _ ⟨h01, _⟩
          exact absurd h01 (by decide)
        · rintro c _ ⟨_, rfl, rfl⟩
          refine Sg ?_
          rw [hd2]
          exact ⟨(show (7 : Int) ≠ 0 by decide), by first | trivial | rfl, st13.ext, st13.mod⟩
      · refine Sg ?_
        refine ⟨hj', by first | trivial | rfl, (), trivial, st13, sb, he12.trans he13, fun i hi => ?_⟩
        by_cases hij : i = j
        · subst hij
          unfold Abs.elocs
          rw [hnm, if_neg g4]
        · exact hz2 i (by omega)
    · rw [Abs.first_none fun i hi => hz2 i (by omega), if_neg (by simp)] at hget
      refine Sg ?_
      refine ⟨hk', by first | trivial | rfl, (), trivial, st12, sb, fun i hi => ?_⟩
      by_cases hik : i = k
      · subst hik
        rw [hget]
      · exact hz i (by omega)
  have hkp : m.procs.length ≤ k := by omega
  have hP : ∀ j, j < m.procs.length → (Abs.eproc m j).1 = 0 := fun j hj => hz j (by omega)
  have hdf := Abs.data_few hd
  have hpl : m.procs.length ≤ 6 := by
    apply Classical.byContradiction
    intro hn
    have := Abs.eproc_lt (i := 6) (by omega) (hP 6 (by omega))
    omega
  have hfew : Abs.Few m := ⟨by omega, by omega, by omega, fun p hp => by
    obtain ⟨j, hj, rfl⟩ := List.mem_iff_getElem.1 hp
    have := Abs.procCheck_few (Abs.eproc_ok hj (hP j hj)).2.1
    omega⟩
  refine Sg ?_
  refine K.call (pieces_r _ m w6 (hM.ext e6) hfew) ?_
  rintro _ w7 ⟨rfl, he7⟩
  have st7 := st6.then he7
  replace hc1 := st7.box
  have hpa := Abs.procs_all hP
  have hset : SetAt w7 bt (Abs.nSVCP m m.procs.length) := by
    have h := st7.set
    simp only [Abs.nSVCP, Abs.nP] at h ⊢
    rw [List.take_of_length_le hkp] at h
    rw [List.take_of_length_le (Nat.le_refl _)]
    exact h
  refine Sg ?_
  refine K.cond (fun g2 => ?_) (fun g2 => ?_)
  · rw [if_pos (.inl (by omega))] at hpa
    refine Sg ?_
    refine K.thr (throw_r 11 4 m.procs.length 0 w7) ?_ ?_
    · rintro _ _ ⟨h01, _⟩
      exact absurd h01 (by decide)
    · rintro c _ ⟨_, rfl, rfl⟩
      refine Sg ?_
      rw [hpa]
      exact ⟨(show (11 : Int) ≠ 0 by decide), by first | trivial | rfl, st7.ext, st7.mod⟩
  refine Sg ?_
  refine K.cond (fun g3 => ?_) (fun g3 => ?_)
  · rw [if_pos (.inr (by omega))] at hpa
    refine Sg ?_
    refine K.thr (throw_r 11 4 m.procs.length 0 w7) ?_ ?_
    · rintro _ _ ⟨h01, _⟩
      exact absurd h01 (by decide)
    · rintro c _ ⟨_, rfl, rfl⟩
      refine Sg ?_
      rw [hpa]
      exact ⟨(show (11 : Int) ≠ 0 by decide), by first | trivial | rfl, st7.ext, st7.mod⟩
  rw [if_neg (by omega)] at hpa
  refine Sg ?_
  exact ⟨by rw [hpa]; rfl, st7.ext, st7.mod, hset⟩
end Go.Proofs.YtglnobabdcoknaaGreatDoor
end
section
/- Whole models: propositions. -/
set_option maxRecDepth 8000
set_option maxHeartbeats 16000000
namespace Go.Proofs.YtglnobabdcoknaaGreatDoor
open Go Go.RowKit Lite
theorem propositions_r {w0 : World} (cs : List Value) (m : Abs.Model) (bt : Nat) (w : World) (h : Abs.ModelIs w0 cs m) (hg : m.good) (e0 : Ext w0 w) (hbt : w0.heap.size ≤ bt) (ho : OwnIs w0) (hs : SetAt w bt (Abs.nSVCP m m.procs.length)) :
    RetT Tryz.prog F.model_propositions #[.agg cs.toArray, .map (some bt)] w (fun _ w' => (Abs.propsF m).why = 0 ∧ Ext w0 w' ∧ Mod (fun k => k = bt) w w')
      (fun c w' => (Abs.propsF m).why ≠ 0 ∧ c = thrown (Abs.propsF m) ∧ Ext w0 w' ∧ Mod (fun k => k = bt) w w') := by
  have hM := h
  obtain ⟨o0, c0, o1, c1, o2, c2, o3, c3, o4, c4, rfl, h0, h1, h2, h3, h4, l0, l1, l2, l3, l4⟩ := h.form
  refine K.startT hmix E.model_propositions (args := [_, _]) (Nat.le_of_ble_eq_true rfl) ?_; dsimp only [C.model_propositions]; refine Yy ?_
  refine Sg ?_
  intro w1 b1 hb1 he1 hc1
  have st1 : TakSt w0 w bt b1 _ w1 (Abs.nAll m 0) := ⟨e0.trans he1, he1.mod, hc1, by have := hs.ext he1; simpa [Abs.nAll] using this, hbt, by have := hs.lt; omega⟩
  have zt := hs.lt
  have z0 := he1.size
  clear hs
  refine Sg ?_
  refine K.call (scope_r _ m (-1) w1 (hM.ext st1.ext) hg) ?_
  rintro _ w2 ⟨⟨cs2, rfl, hn2⟩, he2⟩
  rw [Abs.pscope_none (.inl (by decide))] at hn2
  have hsc := hn2.here
  obtain ⟨x0, y0, x1, y1, x2, y2, x3, y3, x4, y4, rfl, _⟩ := hsc.form
  clear hsc
  have st2 := st1.then he2
  clear hc1 st1
  have z1 := he2.size
  refine Sg ?_
  intro w3 b4 hb4 he3 hc4
  have hn3 := hn2.ext he3 z1
  have st3 := st2.then he3
  have hc1 := st3.box
  clear hn2 st2
  refine Sg ?_
  refine K.forG 14 m.props.length [1, 2, 4, 12, 13] (fun _ : Unit => []) () (fun k _ w' => TakSt w0 w bt b1 _ w' (Abs.nAll m k) ∧ New w1 (fun w => Abs.ScopeIs w _ (Abs.mscope m)) w' ∧ w'.heap[b4]? = some (.cells (List.toArray [_, _, _, _, _, _]) T.api_Scope) ∧ w1.heap.size ≤ w'.heap.size ∧ ∀ j, j < k → Abs.eprop m j = 0) hZq hZq ⟨st3, hn3, hc4, by have := he3.size; omega, fun j h => absurd h (Nat.not_lt_zero _)⟩ ?_
  clear hc1 st3 hn3 hc4
  rintro k _ S w4 hk ⟨st4, hn4, hc4, z4, hz⟩
  have hc1 := st4.box
  have e4 := st4.ext
  refine Sg ?_
  refine K.cond (fun g1 => ?_) (fun g1 => ?_)
  · have hk' : k < m.props.length := by omega
    obtain ⟨a, rfl⟩ := h4.addr (by omega)
    obtain ⟨hsn, ve, hp, hpe⟩ := h4.at k hk'
    obtain ⟨oe, ce, rfl, le⟩ := hpe.form
    have hget := Abs.eprop_get hk'
    replace hp := hp.ext e4
    have z5 := st4.mod.size
    refine Sg ?_
    intro wN b6 hb6 heN hcN
    refine Su ?_
    intro w5 hw5 hc6
    have he5 := hw5.ext heN hb6
    have st5 := st4.then he5
    replace hn4 := hn4.ext he5 z4
    replace hc4 := he5.obj hc4
    replace hc1 := st5.box
    have e5 := st5.ext
    clear hcN heN hw5 st4
    have hd : Abs.eprop m k ≠ 0 → Abs.propsF m = ⟨Abs.eprop m k, 5, k, 0⟩ := Abs.props_i hk' hz
    refine Sg ?_
    refine K.cond (fun g2 => ?_) (fun g2 => ?_)
    · rw [if_pos (by omega)] at hget
      rw [hget] at hd
      replace hd := hd (by decide)
      refine Sg ?_
      refine K.thr (throw_r 11 5 k 0 w5) ?_ ?_
      · rintro _ _ ⟨h00, _⟩
        exact absurd h00 (by decide)
      · rintro c _ ⟨_, rfl, rfl⟩
        refine Sg ?_
        rw [hd]
        exact ⟨(show (11 : Int) ≠ 0 by decide), by first | trivial | rfl, e5, st5.mod⟩
    rw [if_neg (by omega)] at hget
    refine Sg ?_
    refine K.call (name_r m.props[k].name w5 (ho.ext e5) hsn) ?_
    rintro _ w6 ⟨rfl, he6⟩
    have st6 := st5.then he6
    replace hn4 := hn4.ext he6 (by have := he5.size; omega)
    replace hc4 := he6.obj hc4
    replace hc6 := he6.obj hc6
    replace hc1 := st6.box
    have e6 := st6.ext
    clear st5
    refine Sg ?_
    refine K.condb (fun g3 => ?_) (fun g3 => ?_)
    rotate_left
    · rw [if_pos g3] at hget
      rw [hget] at hd
      replace hd := hd (by decide)
      refine Sg ?_
      refine K.thr (throw_r 6 5 k 0 w6) ?_ ?_
      · rintro _ _ ⟨h00, _⟩
        exact absurd h00 (by decide)
      · rintro c _ ⟨_, rfl, rfl⟩
        refine Sg ?_
        rw [hd]
        exact ⟨(show (6 : Int) ≠ 0 by decide), by first | trivial | rfl, e6, st6.mod⟩
    rw [if_neg (by rw [g3]; decide)] at hget
    refine Sg ?_
    refine K.thr (take_r bt (Abs.nAll m k) m.props[k].name 5 k w6 st6.set) ?_ ?_
    rotate_left
    · rintro c _ ⟨hn, rfl, rfl⟩
      rw [if_pos hn] at hget
      rw [hget] at hd
      replace hd := hd (by decide)
      refine Sg ?_
      rw [hd]
      exact ⟨(show (7 : Int) ≠ 0 by decide), by first | trivial | rfl, st6.ext, st6.mod⟩
    rintro _ w7 ⟨hn, hw7, hs7⟩
    rw [if_neg hn] at hget
    have st7 : TakSt w0 w bt b1 _ w7 (Abs.nAll m (k + 1)) := (st6.wr hw7 hs7).re (by simp only [Abs.nAll, Abs.nR]; rw [Abs.take_snocN (fun x : Abs.Prp => x.name) _ hk', List.append_assoc])
    replace hn4 := hn4.wr hw7 (by omega)
    replace hc4 := hw7.obj hc4 (by omega)
    replace hc6 := hw7.obj hc6 (by omega)
    replace hc1 := st7.box
    have e7 := st7.ext
    clear st6 e6
    refine Sg ?_
    refine K.call (kind_r _ m.props[k].expr _ _ w7 (hpe.ext e7) hn4.here) ?_
    rintro _ w8 ⟨rfl, he8⟩
    have st8 := st7.then he8
    have z7 := hw7.size
    replace hn4 := hn4.ext he8 (by have := he5.size; have := he6.size; omega)
    replace hc4 := he8.obj hc4
    replace hc1 := st8.box
    have e8 := st8.ext
    clear st7
    refine Sg ?_
    refine K.thr (throw_r (Abs.kind m.props[k].expr (Abs.mscope m)).2 5 k 0 w8) ?_ ?_
    rotate_left
    · rintro c _ ⟨h00, rfl, rfl⟩
      rw [if_pos h00] at hget
      rw [hget] at hd
      replace hd := hd h00
      refine Sg ?_
      rw [hd]
      exact ⟨h00, by first | trivial | rfl, e8, st8.mod⟩
    rintro _ w9 ⟨h00, rfl⟩
    rw [if_neg (by simpa using h00)] at hget
    refine Sg ?_
    refine K.cond (fun g4 => ?_) (fun g4 => ?_)
    rotate_left
    · rw [if_pos g4] at hget
      rw [hget] at hd
      replace hd := hd (by decide)
      refine Sg ?_
      refine K.thr (throw_r 9 5 k 0 w9) ?_ ?_
      · rintro _ _ ⟨h01, _⟩
        exact absurd h01 (by decide)
      · rintro c _ ⟨_, rfl, rfl⟩
        refine Sg ?_
        rw [hd]
        exact ⟨(show (9 : Int) ≠ 0 by decide), by first | trivial | rfl, e8, st8.mod⟩
    rw [if_neg (by simpa using g4)] at hget
    refine Sg ?_
    refine ⟨hk', by first | trivial | rfl, (), trivial, st8, hn4, hc4, by have := he5.size; have := he6.size; have := he8.size; omega, fun i hi => ?_⟩
    by_cases hik : i = k
    · subst hik
      rw [hget]
    · exact hz i (by omega)
  refine Sg ?_
  exact ⟨by rw [Abs.props_0 fun j hj => hz j (by omega)]; rfl, e4, st4.mod⟩
end Go.Proofs.YtglnobabdcoknaaGreatDoor
end
