/- Texts joined: RefA RefB RefC ModJ LiteM ModA ModD ModE ModF LiteD CodeD. -/
import Derived.Test.YtglnobabdcoknaaGreatDoorQrdxd
import Derived.Test.YtglnobabdcoknaaGreatDoorQrdxf
import Derived.Test.YtglnobabdcoknaaGreatDoorQrdxg
import Derived.Test.YtglnobabdcoknaaGreatDoorQrdxh
import Derived.Test.YtglnobabdcoknaaGreatDoorQrdxj
import Derived.Maps.RangeRun
import Derived.Defers
import Derived.Recover
set_option linter.all false
set_option maxRecDepth 100000
set_option maxHeartbeats 16000000
section
namespace Go.Proofs.R
open Go Go.RowKit Lite
theorem ris_r (ve : Value) (e : List Abs.Node) (k : Int) (cs : List Value) (s : Abs.Scope) (w : World) (hn : Abs.Nodes w ve e) (h : Abs.SI w cs s) :
  Ret Tryz.prog F.lr13_is #[ve, .int .i64 k, .agg cs.toArray] w fun v w' => v = .int .i64 (Abs.asked e k s) ∧ Ext w w' := by
 obtain ⟨a0, c0, a1, c1, a2, c2, a3, c3, a4, c4, rfl, _⟩ := h.form
 obtain ⟨oa, cap, rfl, _⟩ := hn.form
 refine Ks E.lr13_is ?_; dsimp only [C.lr13_is]; refine Yy ?_
 refine Sg ?_
 intro w1 b1 hb1 he1 hc1
 refine Sg ?_
 refine K.call (refKind_r _ e _ s w1 (hn.ext he1) (h.ext he1)) ?_
 rintro _ w2 ⟨rfl, he2⟩
 rw [Abs.asked]
 refine Sg ?_
 apply K.cond <;> intro g1
 rotate_left
 ·refine Sg ?_
  exact ⟨by rw [if_pos g1], he1.trans he2⟩
 rw [if_neg (by simpa using g1)]
 refine Sg ?_
 apply K.cond <;> intro g2
 rotate_left
 ·refine Sg ?_
  exact ⟨by rw [if_pos g2], he1.trans he2⟩
 ·refine Sg ?_
  exact ⟨by rw [if_neg (by simpa using g2)], he1.trans he2⟩
theorem kindOf_r' (n : Int) (w : World) (h : 0 ≤ n ∧ n ≤ 4611686018427387904) : Ret Tryz.prog F.lr10_KindOf #[.int .i64 n] w fun v w' => v = .int .i64 (if n = 0 then 0 else 1 + n) ∧ w' = w := kindOf_r n w h
theorem plain_r (v : Value) (l : List Abs.Var) (n : Int) (cs : List Value) (s : Abs.Scope) (w : World) (hl : Abs.Vars w v l) (h : Abs.SI w cs s) :
  Ret Tryz.prog F.lr13_plain #[v, .int .i64 n, .agg cs.toArray] w fun v w' => v = .tuple #[.int .i64 (Abs.plainE l n s).1, .int .i64 (Abs.plainE l n s).2] ∧ Ext w w' := by
 obtain ⟨a0, c0, a1, c1, a2, c2, a3, c3, a4, c4, rfl, _, _, _, _, _, l0, l1, l2, l3, l4⟩ := h.form
 obtain ⟨oa, cap, rfl, _⟩ := hl.form
 refine Ks E.lr13_plain ?_; dsimp only [C.lr13_plain]; refine Yy ?_
 refine Sg ?_
 intro w1 b1 hb1 he1 hc1
 refine Sg ?_
 refine K.call (rvariable_r _ l n _ s w1 (hl.ext he1) (h.ext he1)) ?_
 rintro u w2 ⟨⟨x, hu, hx⟩, he2⟩
 cases hk : (Abs.kvar l n s).2.2 with
 | false =>
  rw [hk] at hu
  subst hu
  refine Sg ?_
  intro w3 b3 hb3 he3 hc3
  refine Sg ?_
  exact ⟨by rw [Abs.plainE, Abs.declared_none hk], (he1.trans he2).trans he3⟩
 | true =>
  rw [hk] at hu
  subst hu
  obtain ⟨hd, p1, p2, p3, p4⟩ := Abs.declared_some hk (hx hk)
  have hpe : Abs.plainE l n s = if x.over ≠ 0 then (0, 9) else ((if x.scalar = 0 then 0 else 1 + x.scalar), 0) := by unfold Abs.plainE; rw [hd]
  refine Sg ?_
  intro w3 b3 hb3 he3 hc3
  refine Sg ?_
  apply K.cond <;> intro g1
  ·rw [if_neg (by simpa using g1)] at hpe
   refine Sg ?_
   refine K.call (kindOf_r' _ w3 ⟨p1, by omega⟩) ?_
   rintro _ _ ⟨rfl, rfl⟩
   refine Sg ?_
   exact ⟨by rw [hpe], (he1.trans he2).trans he3⟩
  ·rw [if_pos g1] at hpe
   refine Sg ?_
   exact ⟨by rw [hpe], (he1.trans he2).trans he3⟩
theorem item_r (a : Abs.Act) (vi vv : Value) (cs : List Value) (s : Abs.Scope) (w : World) (hi : Abs.Nodes w vi a.index) (hv : Abs.Nodes w vv a.value) (h : Abs.SI w cs s) :
  Ret Tryz.prog F.lr13_item #[.agg (a.enc vi vv).toArray, .agg cs.toArray] w fun v w' => v = .int .i64 (Abs.itemE a s) ∧ Ext w w' := by
 obtain ⟨a0, c0, a1, c1, a2, c2, a3, c3, a4, c4, rfl, _, hsv, _, _, _, l0, l1, l2, l3, l4⟩ := h.form
 obtain ⟨_, _, rfl, _⟩ := hi.form
 obtain ⟨_, _, rfl, _⟩ := hv.form
 refine Ks E.lr13_item ?_; dsimp only [C.lr13_item]; refine Yy ?_
 refine Sg ?_
 intro w1 b1 hb1 he1 hc1
 refine Sg ?_
 intro w2 b2 hb2 he2 hc2
 replace hc1 := he2.obj hc1
 have E2 : ∀ {w'}, Ext w2 w' → Ext w w' := fun e => (he1.trans he2).trans e
 refine Sg ?_
 refine K.call (rvariable_r _ s.vars a.to _ s w2 (hsv.ext (E2 (Ext.refl _))) (h.ext (E2 (Ext.refl _)))) ?_
 rintro u w3 ⟨⟨x, hu, hx⟩, he3⟩
 replace hc1 := he3.obj hc1
 replace hc2 := he3.obj hc2
 cases hk : (Abs.kvar s.vars a.to s).2.2 with
 | false =>
  rw [hk] at hu
  subst hu
  refine Sg ?_
  intro w4 b4 hb4 he4 hc4
  refine Sg ?_
  exact ⟨by rw [Abs.itemE, Abs.declared_none hk], E2 (he3.trans he4)⟩
 | true =>
  rw [hk] at hu
  subst hu
  obtain ⟨hd, p1, p2, p3, p4⟩ := Abs.declared_some hk (hx hk)
  have hpe : Abs.itemE a s = if x.over = 0 then 9 else if Abs.asked a.index (1 + x.over) s ≠ 0 then Abs.asked a.index (1 + x.over) s else Abs.asked a.value (if x.scalar = 0 then 0 else 1 + x.scalar) s := by unfold Abs.itemE; rw [hd]
  refine Sg ?_
  intro w4 b4 hb4 he4 hc4
  replace hc1 := he4.obj hc1
  replace hc2 := he4.obj hc2
  have E4 : ∀ {w'}, Ext w4 w' → Ext w w' := fun e => E2 ((he3.trans he4).trans e)
  refine Sg ?_
  apply K.cond <;> intro g1
  ·rw [if_pos g1] at hpe
   refine Sg ?_
   exact ⟨by rw [hpe], E4 (Ext.refl _)⟩
  rw [if_neg g1] at hpe
  refine Sg ?_
  refine K.call (ris_r _ a.index (1 + x.over) _ s w4 (hi.ext (E4 (Ext.refl _))) (h.ext (E4 (Ext.refl _)))) ?_
  rintro _ w5 ⟨rfl, he5⟩
  replace hc1 := he5.obj hc1
  replace hc2 := he5.obj hc2
  replace hc4 := he5.obj hc4
  have E5 : ∀ {w'}, Ext w5 w' → Ext w w' := fun e => E4 (he5.trans e)
  refine Sg ?_
  apply K.cond <;> intro g2
  rotate_left
  ·rw [if_pos g2] at hpe
   refine Sg ?_
   exact ⟨by rw [hpe], E5 (Ext.refl _)⟩
  rw [if_neg (by simpa using g2)] at hpe
  refine Sg ?_
  refine K.qfn (.int .i64 (if x.scalar = 0 then 0 else 1 + x.scalar)) (fun w' e => (kindOf_r' _ w' ⟨p1, by omega⟩).mono fun v w'' hh => ⟨hh.1, by rw [hh.2]; exact Ext.refl _⟩) ?_
  refine Sg ?_
  refine K.qfn (.int .i64 (Abs.itemE a s)) (fun w' e => by rw [hpe]; exact ris_r _ a.value _ _ s w' (hv.ext (E5 e)) (h.ext (E5 e))) ?_
  refine Sg ?_
  intro w6 he6
  refine Sg ?_
  exact ⟨Tr, E5 he6⟩
theorem ract_r (a : Abs.Act) (comm : Bool) (vi vv : Value) (cs : List Value) (s : Abs.Scope) (w : World) (hi : Abs.Nodes w vi a.index) (hv : Abs.Nodes w vv a.value) (h : Abs.SI w cs s) :
  Ret Tryz.prog F.lr13_act #[.agg (a.enc vi vv).toArray, .agg cs.toArray, .bool comm] w fun v w' => v = .int .i64 (Abs.ractE a s comm) ∧ Ext w w' := by
 obtain ⟨a0, c0, a1, c1, a2, c2, a3, c3, a4, c4, rfl, _, hsv, _, _, hsl, l0, l1, l2, l3, l4⟩ := h.form
 obtain ⟨_, _, rfl, _⟩ := hi.form
 obtain ⟨_, _, rfl, _⟩ := hv.form
 refine Ks E.lr13_act ?_; dsimp only [C.lr13_act]; refine Yy ?_
 refine Sg ?_
 intro w1 b1 hb1 he1 hc1
 refine Sg ?_
 intro w2 b2 hb2 he2 hc2
 replace hc1 := he2.obj hc1
 have E2 : ∀ {w'}, Ext w2 w' → Ext w w' := fun e => (he1.trans he2).trans e
 refine Sg ?_
 apply K.cond <;> intro g1
 ·refine Sg ?_
  exact ⟨by rw [Abs.ractE, if_pos (.inl g1)], E2 (Ext.refl _)⟩
 refine Sg ?_
 apply K.cond <;> intro g2
 ·refine Sg ?_
  exact ⟨by rw [Abs.ractE, if_pos (.inr g2)], E2 (Ext.refl _)⟩
 have h12 : ¬ (a.kind < 1 ∨ 5 < a.kind) := by omega
 refine Sg ?_
 apply K.cond <;> intro g3
 ·refine Sg ?_
  refine K.call (item_r a _ _ _ s w2 (hi.ext (E2 (Ext.refl _))) (hv.ext (E2 (Ext.refl _))) (h.ext (E2 (Ext.refl _)))) ?_
  rintro _ w3 ⟨rfl, he3⟩
  refine Sg ?_
  exact ⟨by rw [Abs.ractE, if_neg h12, if_pos g3], E2 he3⟩
 refine Sg ?_
 apply K.cond <;> intro g4
 ·have hr : Abs.ractE a s comm = if (Abs.plainE s.vars a.to s).2 ≠ 0 then (Abs.plainE s.vars a.to s).2 else Abs.asked a.value (Abs.plainE s.vars a.to s).1 s := by
   rw [Abs.ractE, if_neg h12, if_neg g3, if_pos (.inl g4)]; simp only [if_neg (by omega : ¬ a.kind = 3)]
  refine Sg ?_
  refine K.call (plain_r _ s.vars a.to _ s w2 (hsv.ext (E2 (Ext.refl _))) (h.ext (E2 (Ext.refl _)))) ?_
  rintro _ w3 ⟨rfl, he3⟩
  replace hc1 := he3.obj hc1
  replace hc2 := he3.obj hc2
  refine Sg ?_
  apply K.cond <;> intro g5
  rotate_left
  ·rw [if_pos g5] at hr
   refine Sg ?_
   exact ⟨by rw [hr], E2 he3⟩
  rw [if_neg (by simpa using g5)] at hr
  refine Sg ?_
  refine K.call (ris_r _ a.value _ _ s w3 (hv.ext (E2 he3)) (h.ext (E2 he3))) ?_
  rintro _ w4 ⟨rfl, he4⟩
  refine Sg ?_
  exact ⟨by rw [hr], E2 (he3.trans he4)⟩
 refine Sg ?_
 apply K.cond <;> intro g5
 ·have hr : Abs.ractE a s comm = if (Abs.plainE s.locals a.to s).2 ≠ 0 then (Abs.plainE s.locals a.to s).2 else Abs.asked a.value (Abs.plainE s.locals a.to s).1 s := by
   rw [Abs.ractE, if_neg h12, if_neg g3, if_pos (.inr g5)]; simp only [if_pos g5]
  refine Sg ?_
  refine K.call (plain_r _ s.locals a.to _ s w2 (hsl.ext (E2 (Ext.refl _))) (h.ext (E2 (Ext.refl _)))) ?_
  rintro _ w3 ⟨rfl, he3⟩
  replace hc1 := he3.obj hc1
  replace hc2 := he3.obj hc2
  refine Sg ?_
  apply K.cond <;> intro g5
  rotate_left
  ·rw [if_pos g5] at hr
   refine Sg ?_
   exact ⟨by rw [hr], E2 he3⟩
  rw [if_neg (by simpa using g5)] at hr
  refine Sg ?_
  refine K.call (ris_r _ a.value _ _ s w3 (hv.ext (E2 he3)) (h.ext (E2 he3))) ?_
  rintro _ w4 ⟨rfl, he4⟩
  refine Sg ?_
  exact ⟨by rw [hr], E2 (he3.trans he4)⟩
 have h13 : ¬ (a.kind = 1 ∨ a.kind = 3) := by omega
 refine Sg ?_
 refine K.condb (fun g6 => ?_) (fun g6 => ?_)
 ·refine Sg ?_
  exact ⟨by rw [Abs.ractE, if_neg h12, if_neg g3, if_neg h13, if_pos g6], E2 (Ext.refl _)⟩
 refine Sg ?_
 refine K.call (rchannel_r a.to _ s w2 (h.ext (E2 (Ext.refl _)))) ?_
 rintro u w3 ⟨⟨x, hu, hx⟩, he3⟩
 replace hc1 := he3.obj hc1
 replace hc2 := he3.obj hc2
 by_cases hk : (Abs.kLen a.to s).2 = 0
 rotate_left
 ·rw [decide_eq_false hk] at hu
  subst hu
  refine Sg ?_
  intro w4 b4 hb4 he4 hc4
  refine Sg ?_
  exact ⟨by rw [Abs.ractE, if_neg h12, if_neg g3, if_neg h13, if_neg (by simp [g6]), Abs.channel_none hk], E2 (he3.trans he4)⟩
 rw [decide_eq_true hk] at hu
 subst hu
 obtain ⟨hd, p1, p2⟩ := Abs.channel_some hk (hx hk)
 have hr : Abs.ractE a s comm = if a.kind = 4 then Abs.asked a.value (if x.scalar = 0 then 0 else 1 + x.scalar) s else if (Abs.plainE s.locals a.loc s).2 ≠ 0 then (Abs.plainE s.locals a.loc s).2 else if (Abs.plainE s.locals a.loc s).1 ≠ (if x.scalar = 0 then 0 else 1 + x.scalar) then 9 else 0 := by
  rw [Abs.ractE, if_neg h12, if_neg g3, if_neg h13, if_neg (by simp [g6]), hd]
 refine Sg ?_
 intro w4 b4 hb4 he4 hc4
 replace hc1 := he4.obj hc1
 replace hc2 := he4.obj hc2
 have E4 : ∀ {w'}, Ext w4 w' → Ext w w' := fun e => E2 ((he3.trans he4).trans e)
 refine Sg ?_
 apply K.cond <;> intro g7
 ·rw [if_pos g7] at hr
  refine Sg ?_
  refine K.qfn (.int .i64 (if x.scalar = 0 then 0 else 1 + x.scalar)) (fun w' e => (kindOf_r' _ w' ⟨p1, by omega⟩).mono fun v w'' hh => ⟨hh.1, by rw [hh.2]; exact Ext.refl _⟩) ?_
  refine Sg ?_
  refine K.qfn (.int .i64 (Abs.ractE a s comm)) (fun w' e => by rw [hr]; exact ris_r _ a.value _ _ s w' (hv.ext (E4 e)) (h.ext (E4 e))) ?_
  refine Sg ?_
  intro w6 he6
  refine Sg ?_
  exact ⟨Tr, E4 he6⟩
 rw [if_neg g7] at hr
 refine Sg ?_
 refine K.call (plain_r _ s.locals a.loc _ s w4 (hsl.ext (E4 (Ext.refl _))) (h.ext (E4 (Ext.refl _)))) ?_
 rintro _ w5 ⟨rfl, he5⟩
 replace hc4 := he5.obj hc4
 refine Sg ?_
 apply K.cond <;> intro g8
 rotate_left
 ·rw [if_pos g8] at hr
  refine Sg ?_
  exact ⟨by rw [hr], E4 he5⟩
 rw [if_neg (by simpa using g8)] at hr
 refine Sg ?_
 refine K.call (kindOf_r' _ w5 ⟨p1, by omega⟩) ?_
 rintro _ _ ⟨rfl, rfl⟩
 refine Sg ?_
 apply K.cond <;> intro g9
 ·rw [if_neg (by simpa using g9)] at hr
  refine Sg ?_
  exact ⟨by rw [hr], E4 he5⟩
 ·rw [if_pos g9] at hr
  refine Sg ?_
  exact ⟨by rw [hr], E4 he5⟩
end Go.Proofs.R
end
section
namespace Abs
theorem actsE_ract {s : Scope} {a : Act} {k : Nat} {b : Bool} {Z : Int × Int} : (if talks a && b then ((2 + (k : Int)), (7 : Int)) else if actE a s ≠ 0 then (2 + (k : Int), actE a s) else Z) = if ractE a s b ≠ 0 then (2 + (k : Int), ractE a s b) else Z := by
 rw [ractE_eq]
 by_cases h : (talks a && b) = true
 ·simp [h]
 ·simp [h]
end Abs
namespace Go.Proofs.R
open Go Go.RowKit Lite
theorem rcheck_r (c : Abs.Cmd) (vg va : Value) (p : Abs.Proc) (pv pc : Value) (cs : List Value) (s : Abs.Scope) (w : World) (hn : Abs.strOk c.name) (hg : Abs.Nodes w vg c.guard) (ha : Abs.Acts w va c.acts)
  (hv : Abs.Vars w pv p.vars) (hc : Abs.Cmds w pc p.cmds) (h : Abs.SI w cs s) :
  Ret Tryz.prog F.lr13_Check #[.agg (c.enc vg va).toArray, .agg (p.enc pv pc).toArray, .agg cs.toArray] w fun v w' =>
   v = .tuple #[.int .i64 (Abs.cmdCheck c p.locs s).1, .int .i64 (Abs.cmdCheck c p.locs s).2] ∧ Ext w w' := by
 obtain ⟨a0, c0, a1, c1, a2, c2, a3, c3, a4, c4, rfl, _⟩ := h.form
 obtain ⟨oa, cap, rfl, hlen⟩ := ha.form
 obtain ⟨og, capg, rfl, hleng⟩ := hg.form
 obtain ⟨_, _, rfl, _⟩ := hv.form
 obtain ⟨_, _, rfl, _⟩ := hc.form
 refine Ks E.lr13_Check ?_; dsimp only [C.lr13_Check]; refine Yy ?_
 refine Sg ?_
 intro w1 b1 hb1 he1 hc1
 refine Sg ?_
 intro w2 b2 hb2 he2 hc2
 refine Sg ?_
 intro w3 b3 hb3 he3 hc3
 replace hc1 := (he2.trans he3).obj hc1
 replace hc2 := he3.obj hc2
 have E3 : ∀ {w'}, Ext w3 w' → Ext w w' := fun e => ((he1.trans he2).trans he3).trans e
 refine Sg ?_
 refine K.call (rname_r c.name w3 hn) ?_
 rintro u w4 ⟨hu, he4⟩
 replace hc1 := he4.obj hc1
 replace hc2 := he4.obj hc2
 replace hc3 := he4.obj hc3
 have E4 : ∀ {w'}, Ext w4 w' → Ext w w' := fun e => E3 (he4.trans e)
 have hd : ∀ n, Abs.head c p.locs = n → n ≠ 0 → Abs.cmdCheck c p.locs s = (0, n) := fun n e h0 => by unfold Abs.cmdCheck; rw [e, if_pos h0]
 cases hnm : Abs.isName c.name with
 | false =>
  rw [hnm] at hu
  subst hu
  refine Sg ?_
  exact ⟨by rw [hd 6 (by unfold Abs.head; rw [if_pos hnm]) (by decide)], E4 (Ext.refl _)⟩
 | true =>
  rw [hnm] at hu
  subst hu
  have hnn : ¬ Abs.isName c.name = false := by rw [hnm]; simp
  refine Sg ?_
  apply K.cond <;> intro g1
  ·refine Sg ?_
   exact ⟨by rw [hd 10 (by unfold Abs.head; rw [if_neg hnn, if_pos (by omega)]) (by decide)], E4 (Ext.refl _)⟩
  refine Sg ?_
  apply K.cond <;> intro g2
  ·refine Sg ?_
   exact ⟨by rw [hd 10 (by unfold Abs.head; rw [if_neg hnn, if_pos (by omega)]) (by decide)], E4 (Ext.refl _)⟩
  refine Sg ?_
  apply K.cond <;> intro g3
  ·refine Sg ?_
   exact ⟨by rw [hd 10 (by unfold Abs.head; rw [if_neg hnn, if_pos (by omega)]) (by decide)], E4 (Ext.refl _)⟩
  refine Sg ?_
  apply K.cond <;> intro g4
  ·refine Sg ?_
   exact ⟨by rw [hd 10 (by unfold Abs.head; rw [if_neg hnn, if_pos (by omega)]) (by decide)], E4 (Ext.refl _)⟩
  have hno : ¬ (c.from_ < 0 ∨ p.locs ≤ c.from_ ∨ c.to < 0 ∨ p.locs ≤ c.to) := by omega
  refine Sg ?_
  apply K.cond <;> intro g5
  ·refine Sg ?_
   exact ⟨by rw [hd 11 (by unfold Abs.head; rw [if_neg hnn, if_neg hno, if_pos (by omega)]) (by decide)], E4 (Ext.refl _)⟩
  have hr0 : Abs.cmdCheck c p.locs s = if c.guard.length > 0 ∧ Abs.asked c.guard 1 s ≠ 0 then (1, Abs.asked c.guard 1 s) else Abs.actsE s c.acts 0 false := by
   unfold Abs.cmdCheck
   rw [if_neg]
   unfold Abs.head
   rw [if_neg hnn, if_neg hno, if_neg (by omega)]
   simp
  clear hd
  refine Sg ?_
  apply K.cond <;> intro g6
  ·refine Sg ?_
   refine K.call (ris_r _ c.guard 1 _ s w4 (hg.ext (E4 (Ext.refl _))) (h.ext (E4 (Ext.refl _)))) ?_
   rintro _ w5 ⟨rfl, he5⟩
   replace hc1 := he5.obj hc1
   replace hc3 := he5.obj hc3
   have E5 : ∀ {w'}, Ext w5 w' → Ext w w' := fun e => E4 (he5.trans e)
   refine Sg ?_
   apply K.cond <;> intro g7
   rotate_left
   ·rw [if_pos ⟨by omega, g7⟩] at hr0
    refine Sg ?_
    exact ⟨by rw [hr0], E5 (Ext.refl _)⟩
   have hr : Abs.cmdCheck c p.locs s = Abs.actsE s c.acts 0 false := by rw [hr0, if_neg (fun hh => hh.2 (by simpa using g7))]
   refine Sg ?_
   refine K.forG 10 c.acts.length [3, 4, 5] (fun b => [(9, .bool b)]) false (fun k b w' => Ext w5 w' ∧ Abs.actsE s c.acts 0 false = Abs.actsE s (c.acts.drop k) k b) hZq hZq ⟨Ext.refl _, by simp⟩ ?_
   rintro k b S w6 hk ⟨he6, hI⟩
   replace hc1 := he6.obj hc1
   replace hc3 := he6.obj hc3
   refine Sg ?_
   apply K.cond <;> intro g1
   ·have hk' : k < c.acts.length := by omega
    obtain ⟨a, rfl⟩ := ha.addr (by omega)
    obtain ⟨vi, vv, hcell, hvi, hvv⟩ := ha.at k hk'
    obtain ⟨_, _, rfl, _⟩ := hvi.form
    obtain ⟨_, _, rfl, _⟩ := hvv.form
    rw [Abs.actsE_cons hk', Abs.actsE_ract] at hI
    replace hcell := hcell.ext (E5 (Ext.refl _))
    refine Sg ?_
    refine K.qfn (.int .i64 (Abs.ractE c.acts[k] s b)) (fun w' e => ract_r c.acts[k] b _ _ _ s w' (hvi.ext (E5 (he6.trans e))) (hvv.ext (E5 (he6.trans e))) (h.ext (E5 (he6.trans e)))) ?_
    refine Sg ?_
    intro w7 he7
    replace hc1 := he7.obj hc1
    replace hc3 := he7.obj hc3
    refine Sg ?_
    apply K.cond <;> intro g2
    rotate_left
    ·rw [if_pos g2] at hI
     refine Sg ?_
     exact ⟨by rw [hr, hI], E5 (he6.trans he7)⟩
    rw [if_neg (by simpa using g2)] at hI
    refine Sg ?_
    refine K.condb (fun g3 => ?_) (fun g3 => ?_)
    ·subst g3
     refine Sg ?_
     exact ⟨hk', Tr, true, hZq, he6.trans he7, by simpa using hI⟩
    subst g3
    refine Sg ?_
    apply K.cond <;> intro g4
    ·have ht : Abs.talks c.acts[k] = true := by unfold Abs.talks; rw [decide_eq_true_eq]; omega
     refine Sg ?_
     exact ⟨hk', Tr, true, hZq, he6.trans he7, by simpa [ht] using hI⟩
    have ht : Abs.talks c.acts[k] = decide (c.acts[k].kind = 5) := by unfold Abs.talks; rw [Bool.eq_iff_iff, decide_eq_true_eq, decide_eq_true_eq]; omega
    rw [Bool.false_or, ht] at hI
    refine Sg ?_
    exact ⟨hk', Tr, decide (c.acts[k].kind = 5), hZq, he6.trans he7, hI⟩
   ·rw [List.drop_eq_nil_of_le (by omega)] at hI
    refine Sg ?_
    exact ⟨by rw [hr, hI]; rfl, E5 he6⟩
  ·have hr : Abs.cmdCheck c p.locs s = Abs.actsE s c.acts 0 false := by rw [hr0, if_neg (fun hh => g6 (by omega))]
   refine Sg ?_
   refine K.forG 10 c.acts.length [3, 4, 5] (fun b => [(9, .bool b)]) false (fun k b w' => Ext w4 w' ∧ Abs.actsE s c.acts 0 false = Abs.actsE s (c.acts.drop k) k b) hZq hZq ⟨Ext.refl _, by simp⟩ ?_
   rintro k b S w6 hk ⟨he6, hI⟩
   replace hc1 := he6.obj hc1
   replace hc3 := he6.obj hc3
   refine Sg ?_
   apply K.cond <;> intro g1
   ·have hk' : k < c.acts.length := by omega
    obtain ⟨a, rfl⟩ := ha.addr (by omega)
    obtain ⟨vi, vv, hcell, hvi, hvv⟩ := ha.at k hk'
    obtain ⟨_, _, rfl, _⟩ := hvi.form
    obtain ⟨_, _, rfl, _⟩ := hvv.form
    rw [Abs.actsE_cons hk', Abs.actsE_ract] at hI
    replace hcell := hcell.ext (E4 (Ext.refl _))
    refine Sg ?_
    refine K.qfn (.int .i64 (Abs.ractE c.acts[k] s b)) (fun w' e => ract_r c.acts[k] b _ _ _ s w' (hvi.ext (E4 (he6.trans e))) (hvv.ext (E4 (he6.trans e))) (h.ext (E4 (he6.trans e)))) ?_
    refine Sg ?_
    intro w7 he7
    replace hc1 := he7.obj hc1
    replace hc3 := he7.obj hc3
    refine Sg ?_
    apply K.cond <;> intro g2
    rotate_left
    ·rw [if_pos g2] at hI
     refine Sg ?_
     exact ⟨by rw [hr, hI], E4 (he6.trans he7)⟩
    rw [if_neg (by simpa using g2)] at hI
    refine Sg ?_
    refine K.condb (fun g3 => ?_) (fun g3 => ?_)
    ·subst g3
     refine Sg ?_
     exact ⟨hk', Tr, true, hZq, he6.trans he7, by simpa using hI⟩
    subst g3
    refine Sg ?_
    apply K.cond <;> intro g4
    ·have ht : Abs.talks c.acts[k] = true := by unfold Abs.talks; rw [decide_eq_true_eq]; omega
     refine Sg ?_
     exact ⟨hk', Tr, true, hZq, he6.trans he7, by simpa [ht] using hI⟩
    have ht : Abs.talks c.acts[k] = decide (c.acts[k].kind = 5) := by unfold Abs.talks; rw [Bool.eq_iff_iff, decide_eq_true_eq, decide_eq_true_eq]; omega
    rw [Bool.false_or, ht] at hI
    refine Sg ?_
    exact ⟨hk', Tr, decide (c.acts[k].kind = 5), hZq, he6.trans he7, hI⟩
   ·rw [List.drop_eq_nil_of_le (by omega)] at hI
    refine Sg ?_
    exact ⟨by rw [hr, hI]; rfl, E4 he6⟩
theorem rpcheck_r (p : Abs.Proc) (pcs cs : List Value) (s : Abs.Scope) (w : World) (hp : Abs.ProcIs w pcs p) (h : Abs.SI w cs s) (hg : s.good) (hpg : p.good) :
  Ret Tryz.prog F.lr14_Check #[.agg pcs.toArray, .agg cs.toArray] w fun v w' => v = .tuple #[.int .i64 (Abs.procCheck p s).1, .int .i64 (Abs.procCheck p s).2.1, .int .i64 (Abs.procCheck p s).2.2] ∧ Ext w w' := by
 obtain ⟨a0, c0, a1, c1, a2, c2, a3, d3, a4, d4, rfl, h0, h1, h2, h3, h4, l0, l1, l2, l3, l4⟩ := h.form
 obtain ⟨hn, pv, pc, rfl, hv, hcm⟩ := hp
 obtain ⟨o3, c3, rfl, lv⟩ := hv.form
 obtain ⟨o4, c4, rfl, lc⟩ := hcm.form
 refine Ks E.lr14_Check ?_; dsimp only [C.lr14_Check]; refine Yy ?_
 refine Sg ?_
 intro w1 b1 hb1 he1 hc1
 refine Sg ?_
 intro w2 b2 hb2 he2 hc2
 replace hc1 := he2.obj hc1
 have E2 : ∀ {w'}, Ext w2 w' → Ext w w' := fun e => (he1.trans he2).trans e
 refine Sg ?_
 refine K.call (rname_r p.name w2 hn) ?_
 rintro u w3 ⟨hu, he3⟩
 replace hc1 := he3.obj hc1
 replace hc2 := he3.obj hc2
 have E3 : ∀ {w'}, Ext w3 w' → Ext w w' := fun e => E2 (he3.trans e)
 have hd : ∀ n, Abs.whole p s = n → n ≠ 0 → Abs.procCheck p s = (0, 0, n) := fun n e h0 => by unfold Abs.procCheck; rw [e, if_pos h0]
 cases hnm : Abs.isName p.name with
 | false =>
  rw [hnm] at hu
  subst hu
  refine Sg ?_
  exact ⟨by rw [hd 6 (by unfold Abs.whole; rw [if_pos hnm]) (by decide)], E3 (Ext.refl _)⟩
 | true =>
  rw [hnm] at hu
  subst hu
  have hnn : ¬ Abs.isName p.name = false := by rw [hnm]; simp
  refine Sg ?_
  apply K.cond <;> intro g1
  ·refine Sg ?_
   exact ⟨by rw [hd 8 (by unfold Abs.whole; rw [if_neg hnn, if_pos (.inl g1)]) (by decide)], E3 (Ext.refl _)⟩
  refine Sg ?_
  apply K.cond <;> intro g2
  ·refine Sg ?_
   exact ⟨by rw [hd 8 (by unfold Abs.whole; rw [if_neg hnn, if_pos (.inr (by omega))]) (by decide)], E3 (Ext.refl _)⟩
  have n1 : ¬ (p.over < 0 ∨ (s.scalars.length : Int) < p.over) := by omega
  refine Sg ?_
  apply K.cond <;> intro g3
  ·refine Sg ?_
   exact ⟨by rw [hd 10 (by unfold Abs.whole; rw [if_neg hnn, if_neg n1, if_pos (.inl g3)]) (by decide)], E3 (Ext.refl _)⟩
  refine Sg ?_
  apply K.cond <;> intro g4
  ·refine Sg ?_
   exact ⟨by rw [hd 10 (by unfold Abs.whole; rw [if_neg hnn, if_neg n1, if_pos (.inr (by omega))]) (by decide)], E3 (Ext.refl _)⟩
  have n2 : ¬ (p.locs < 1 ∨ 12 < p.locs) := by omega
  refine Sg ?_
  apply K.cond <;> intro g5
  ·refine Sg ?_
   exact ⟨by rw [hd 11 (by unfold Abs.whole; rw [if_neg hnn, if_neg n1, if_neg n2, if_pos (by omega)]) (by decide)], E3 (Ext.refl _)⟩
  have hr : Abs.procCheck p s = if (Abs.plocals p s).2 ≠ 0 then (1, (Abs.plocals p s).1, (Abs.plocals p s).2) else Abs.cmdsE (Abs.inner p s) p.locs p.cmds p.cmds 0 := by
   unfold Abs.procCheck
   rw [if_neg]
   unfold Abs.whole
   rw [if_neg hnn, if_neg n1, if_neg n2, if_neg (by omega)]
   simp
  clear hd
  refine Sg ?_
  refine K.call (refVars_r _ _ p.vars s.scalars 4 w3 (hv.ext (E3 (Ext.refl _))) (h0.ext (E3 (Ext.refl _)))) ?_
  rintro _ w4 ⟨rfl, he4⟩
  replace hc1 := he4.obj hc1
  replace hc2 := he4.obj hc2
  have E4 : ∀ {w'}, Ext w4 w' → Ext w w' := fun e => E3 (he4.trans e)
  refine Sg ?_
  apply K.cond <;> intro g6
  rotate_left
  ·have hl : Abs.plocals p s = Abs.vars p.vars s.scalars 4 := by unfold Abs.plocals; rw [if_pos g6]
   rw [hl, if_pos g6] at hr
   refine Sg ?_
   exact ⟨by rw [hr], E4 (Ext.refl _)⟩
  have hl : Abs.plocals p s = Abs.localsE s p.vars 0 := by unfold Abs.plocals; rw [if_neg (by simpa using g6)]
  rw [hl] at hr
  refine Sg ?_
  refine K.forG 9 p.vars.length [2, 3] (fun _ : Unit => []) () (fun k _ w' => Ext w4 w' ∧ Abs.localsE s p.vars 0 = Abs.localsE s (p.vars.drop k) k) hZq hZq ⟨Ext.refl _, by simp⟩ ?_
  rintro k _ S w5 hk ⟨he5, hI⟩
  replace hc1 := he5.obj hc1
  replace hc2 := he5.obj hc2
  refine Sg ?_
  apply K.cond <;> intro g7
  ·have hk' : k < p.vars.length := by omega
   obtain ⟨a, rfl⟩ := hv.addr (by omega)
   have hcv := ((hv.at k hk').cells).ext (E4 he5)
   rw [Abs.localsE_drop hk'] at hI
   refine Sg ?_
   apply K.cond <;> intro g8
   rotate_left
   ·rw [if_pos g8] at hI
    refine Sg ?_
    exact ⟨by rw [hr, hI]; rfl, E4 he5⟩
   rw [if_neg (by simpa using g8)] at hI
   refine Sg ?_
   refine K.forG 10 s.vars.length [2, 3, 9] (fun _ : Unit => []) () (fun j _ w' => Ext w5 w' ∧ ∀ t (ht : t < s.vars.length), t < j → ¬ s.vars[t].name = p.vars[k].name) hZq hZq ⟨Ext.refl _, fun _ _ h => absurd h (Nat.not_lt_zero _)⟩ ?_
   rintro j _ S' w6 hj ⟨he6, hJ⟩
   replace hc1 := he6.obj hc1
   replace hc2 := he6.obj hc2
   have E6 : ∀ {w'}, Ext w6 w' → Ext w w' := fun e => E4 ((he5.trans he6).trans e)
   refine Sg ?_
   apply K.cond <;> intro g9
   ·have hj' : j < s.vars.length := by omega
    obtain ⟨a', rfl⟩ := h1.addr (by omega)
    have hcs := ((h1.at j hj').cells).ext (E6 (Ext.refl _))
    replace hcv := hcv.ext he6
    refine Sg ?_
    intro w7 he7
    replace hc1 := he7.obj hc1
    replace hc2 := he7.obj hc2
    refine Sg ?_
    apply K.cond <;> intro g10
    ·have hany : s.vars.any (fun x => decide (x.name = p.vars[k].name)) = true := List.any_eq_true.2 ⟨s.vars[j], List.getElem_mem _, by simpa using g10⟩
     rw [if_pos hany] at hI
     refine Sg ?_
     exact ⟨by rw [hr, hI]; rfl, E6 he7⟩
    ·refine Sg ?_
     exact ⟨hj', Tr, (), trivial, he6.trans he7, fun t ht h => by
      by_cases e : t = j
      ·subst e; exact g10
      ·exact hJ t ht (by omega)⟩
   ·have hany : ¬ s.vars.any (fun x => decide (x.name = p.vars[k].name)) = true := by
     intro hh
     obtain ⟨x, hx, hx2⟩ := List.any_eq_true.1 hh
     obtain ⟨t, ht, rfl⟩ := List.mem_iff_getElem.1 hx
     exact hJ t ht (by omega) (by simpa using hx2)
    rw [if_neg hany] at hI
    refine Sg ?_
    exact ⟨hk', Tr, (), trivial, he5.trans he6, hI⟩
  rw [List.drop_eq_nil_of_le (by omega)] at hI
  replace hr : Abs.procCheck p s = Abs.cmdsE (Abs.inner p s) p.locs p.cmds p.cmds 0 := by rw [hr, hI]; rfl
  clear hI hl
  have hin : ∀ w', Ext w w' → Abs.SI w' [.slice a0 s.scalars.length c0, .slice a1 s.vars.length c1, .slice a2 s.chans.length c2, .slice a3 s.procs.length d3, .slice o3 p.vars.length c3, .int .i64 p.over] (Abs.inner p s) := fun w' e =>
   ⟨(hg.inner hpg).sm.1, _, _, _, _, _, rfl, h0.ext e, h1.ext e, h2.ext e, h3.ext e, hv.ext e, (hg.inner hpg).sm.2⟩
  refine Sg ?_
  intro w6 b3 hb3 he6 hc3
  replace hc1 := he6.obj hc1
  replace hc2 := he6.obj hc2
  have E6 : ∀ {w'}, Ext w6 w' → Ext w w' := fun e => E4 ((he5.trans he6).trans e)
  refine Sg ?_
  refine K.forG 12 p.cmds.length [2, 3, 11] (fun _ : Unit => []) () (fun k _ w' => Ext w6 w' ∧ Abs.cmdsE (Abs.inner p s) p.locs p.cmds p.cmds 0 = Abs.cmdsE (Abs.inner p s) p.locs p.cmds (p.cmds.drop k) k) hZq hZq ⟨Ext.refl _, by simp⟩ ?_
  rintro k _ S w7 hk ⟨he7, hI⟩
  replace hc1 := he7.obj hc1
  replace hc2 := he7.obj hc2
  replace hc3 := he7.obj hc3
  have E7 : ∀ {w'}, Ext w7 w' → Ext w w' := fun e => E6 (he7.trans e)
  refine Sg ?_
  apply K.cond <;> intro g7
  ·have hk' : k < p.cmds.length := by omega
   obtain ⟨a, rfl⟩ := hcm.addr (by omega)
   obtain ⟨hs, vg, va, hcc, hvg, hva⟩ := hcm.at k hk'
   obtain ⟨og, cg, rfl, lg⟩ := hvg.form
   obtain ⟨oa, ca, rfl, la⟩ := hva.form
   rw [Abs.cmdsE_drop hk'] at hI
   replace hcc := hcc.ext (E7 (Ext.refl _))
   refine Sg ?_
   refine K.qfn (.tuple #[.int .i64 (Abs.cmdCheck p.cmds[k] p.locs (Abs.inner p s)).1, .int .i64 (Abs.cmdCheck p.cmds[k] p.locs (Abs.inner p s)).2]) (fun w' e => rcheck_r p.cmds[k] _ _ p _ _ _ (Abs.inner p s) w' hs (hvg.ext (E7 e)) (hva.ext (E7 e)) (hv.ext (E7 e)) (hcm.ext (E7 e)) (hin _ (E7 e))) ?_
   refine Sg ?_
   intro w8 he8
   replace hc1 := he8.obj hc1
   replace hc2 := he8.obj hc2
   replace hc3 := he8.obj hc3
   replace hcc := hcc.ext he8
   have E8 : ∀ {w'}, Ext w8 w' → Ext w w' := fun e => E7 (he8.trans e)
   refine Sg ?_
   apply K.cond <;> intro g8
   rotate_left
   ·rw [if_pos g8] at hI
    refine Sg ?_
    exact ⟨by rw [hr, hI], E8 (Ext.refl _)⟩
   rw [if_neg (by simpa using g8)] at hI
   refine Sg ?_
   refine K.forG 15 k [2, 3, 11, 12] (fun _ : Unit => []) () (fun j _ w' => Ext w8 w' ∧ ∀ t (ht : t < p.cmds.length), t < j → ¬ p.cmds[t].name = p.cmds[k].name) hZq hZq ⟨Ext.refl _, fun _ _ h => absurd h (Nat.not_lt_zero _)⟩ ?_
   rintro j _ S' w9 hj ⟨he9, hJ⟩
   replace hc1 := he9.obj hc1
   replace hc2 := he9.obj hc2
   replace hc3 := he9.obj hc3
   have E9 : ∀ {w'}, Ext w9 w' → Ext w w' := fun e => E8 (he9.trans e)
   refine Sg ?_
   apply K.cond <;> intro g9
   ·have hj' : j < p.cmds.length := by omega
    obtain ⟨_, vg', va', hcj, _, _⟩ := hcm.at j hj'
    replace hcj := hcj.ext (E9 (Ext.refl _))
    replace hcc := hcc.ext he9
    refine Sg ?_
    intro w10 he10
    replace hc1 := he10.obj hc1
    replace hc2 := he10.obj hc2
    replace hc3 := he10.obj hc3
    refine Sg ?_
    apply K.cond <;> intro g10
    ·have hany : (p.cmds.take k).any (fun x => decide (x.name = p.cmds[k].name)) = true := List.any_eq_true.2 ⟨p.cmds[j], by rw [List.mem_iff_getElem]; exact ⟨j, by simp; omega, by simp⟩, by simpa using g10⟩
     rw [if_pos hany] at hI
     refine Sg ?_
     exact ⟨by rw [hr, hI], E9 he10⟩
    ·refine Sg ?_
     exact ⟨by omega, Tr, (), trivial, he9.trans he10, fun t ht h => by
      by_cases e : t = j
      ·subst e; exact g10
      ·exact hJ t ht (by omega)⟩
   ·have hany : ¬ (p.cmds.take k).any (fun x => decide (x.name = p.cmds[k].name)) = true := by
     intro hh
     obtain ⟨x, hx, hx2⟩ := List.any_eq_true.1 hh
     obtain ⟨t, ht, rfl⟩ := List.mem_iff_getElem.1 hx
     have ht2 : t < k ∧ t < p.cmds.length := by simp at ht; omega
     exact hJ t ht2.2 (by omega) (by simpa using hx2)
    rw [if_neg hany] at hI
    refine Sg ?_
    exact ⟨hk', Tr, (), trivial, (he7.trans he8).trans he9, hI⟩
  ·rw [List.drop_eq_nil_of_le (by omega)] at hI
   refine Sg ?_
   exact ⟨by rw [hr, hI]; rfl, E7 (Ext.refl _)⟩
theorem refProcess_r (cs : List Value) (m : Abs.Model) (k : Nat) (w : World) (h : Abs.MI w cs m) (hg : m.good) (hk : k < m.procs.length) (hk6 : k ≤ 6) (hdf : m.scalars.length ≤ 2 ∧ m.vars.length ≤ 12 ∧ m.chans.length ≤ 4) (hp6 : k < 6 → ∀ j, j < k → (Abs.eproc m j).1 = 0) :
  Ret Tryz.prog F.lr15_process #[.agg cs.toArray, .int .i64 k] w fun v w' => v = faultV (if (Abs.eproc m k).1 ≠ 0 then ⟨(Abs.eproc m k).1, 4, k, (Abs.eproc m k).2⟩ else Abs.fine) ∧ Ext w w' := by
 have hM := h
 obtain ⟨o0, c0, o1, c1, o2, c2, o3, c3, o4, c4, rfl, h0, h1, h2, h3, h4, l0, l1, l2, l3, l4⟩ := h.form
 have hget := Abs.eproc_get hk
 refine Ks E.lr15_process ?_; dsimp only [C.lr15_process]; refine Yy ?_
 refine Sg ?_
 intro w1 b1 hb1 he1 hc1
 refine Sg ?_
 intro w2 b2 hb2 he2 hc2
 replace hc1 := he2.obj hc1
 have e2 := he1.trans he2
 have z1 := lH hc1
 have z2 := he1.size
 refine Sg ?_
 apply K.cond <;> intro g1
 ·rw [if_pos (by omega)] at hget
  refine Sg ?_
  intro w3 hw3 hc3
  refine Sg ?_
  exact ⟨by rw [hget]; rfl, hw3.ext e2 (by omega)⟩
 rw [if_neg (by omega)] at hget
 obtain ⟨a, rfl⟩ := h3.addr (by omega)
 obtain ⟨hsn, vv, vc, hp, hpv, hpc⟩ := h3.at k hk
 obtain ⟨ov, cv, rfl, lv⟩ := hpv.form
 obtain ⟨oc, cc, rfl, lc⟩ := hpc.form
 have hpg := hg.proc _ (List.getElem_mem hk)
 replace hp := hp.ext e2
 refine Sg ?_
 intro w3 b5 hb5 he3 hc5
 replace hc1 := he3.obj hc1
 replace hc2 := he3.obj hc2
 refine Sg ?_
 intro w4 he4
 replace hc1 := he4.obj hc1
 replace hc2 := he4.obj hc2
 replace hc5 := he4.obj hc5
 have e4 := (e2.trans he3).trans he4
 refine Sg ?_
 refine K.call (refScope_r (w0 := w) _ m k w4 hM e4 hg) ?_
 rintro _ w5 ⟨⟨cs5, rfl, hsc⟩, he5⟩
 refine ⟨he5, ?_⟩
 have e5 := e4.trans he5
 obtain ⟨x0, y0, x1, y1, x2, y2, x3, y3, x4, y4, rfl, _⟩ := (hsc _ e5).form
 refine Sg ?_
 refine K.call (rpcheck_r m.procs[k] _ _ (Abs.pscope m k) w5 ⟨hsn, _, _, rfl, hpv.ext e5, hpc.ext e5⟩ (hsc _ e5) (hg.pscope _) hpg) ?_
 rintro _ w6 ⟨rfl, he6⟩
 replace hc1 := (he5.trans he6).obj hc1
 replace hc2 := (he5.trans he6).obj hc2
 replace hc5 := (he5.trans he6).obj hc5
 have e6 := e5.trans he6
 clear e2 e4 hp
 have hin := Abs.procCheck_in m.procs[k] (Abs.pscope m k) 140737488351232 fun c hc => by have := (hpg.cmd c hc).acts; unfold Abs.big at this; omega
 have hvb : m.procs[k].vars.length ≤ 140737488351232 := by have := hpg.vars; unfold Abs.big at this; omega
 have hcb : m.procs[k].cmds.length ≤ 140737488351232 := by have := hpg.cmds; unfold Abs.big at this; omega
 refine Sg ?_
 apply K.cond <;> intro g2
 rotate_left
 ·rw [if_pos g2] at hget
  refine Sg ?_
  intro w7 hw7 hc7
  refine Sg ?_
  exact ⟨by rw [hget, if_pos g2]; rfl, hw7.ext e6 (by omega)⟩
 rw [if_neg (by simpa using g2)] at hget
 have hlen : ∀ (i : Int), m.scalars.length + Abs.upN 1 4 i m.vars.length + Abs.upN 2 4 i m.chans.length + Abs.upN 3 4 k m.procs.length + Abs.upL 4 i m.props.length ≤ 8000000000000 := fun i => by
  have q1 := Abs.upN_le 1 4 i m.vars.length
  have q2 := Abs.upN_le 2 4 i m.chans.length
  have q3 : Abs.upN 3 4 k m.procs.length ≤ k := by unfold Abs.upN; (repeat' split) <;> omega
  have q4 : Abs.upL 4 i m.props.length = 0 := by unfold Abs.upL; rw [if_neg (by decide)]
  omega
 refine Sg ?_
 intro w7 he7
 replace hc1 := he7.obj hc1
 replace hc2 := he7.obj hc2
 replace hc5 := he7.obj hc5
 have e7 := e6.trans he7
 refine Sg ?_
 refine K.call (ahead_r _ m 4 k w7 (hM.ext e7) (by omega) (by omega) (hlen k)) ?_
 rintro _ w8 ⟨⟨v, rfl, hown⟩, he8⟩
 refine ⟨he8, ?_⟩
 rw [Abs.aheadP] at hown
 replace hc1 := he8.obj hc1
 replace hc2 := he8.obj hc2
 replace hc5 := he8.obj hc5
 have e8 := e7.trans he8
 refine Sg ?_
 refine K.call (has_r v _ m.procs[k].name _ w8 hown) ?_
 rintro _ wA ⟨rfl, rfl⟩
 refine Sg ?_
 apply K.cond <;> intro g3
 ·rw [if_pos g3] at hget
  refine Sg ?_
  intro w9 hw9 hc9
  refine Sg ?_
  exact ⟨by rw [hget]; rfl, hw9.ext e8 (by omega)⟩
 rw [if_neg g3] at hget
 have hpl : m.procs.length * 80 ≤ 140737488355328 := by have := hg.procs; unfold Abs.big at this; omega
 have hlen5 : m.scalars.length + Abs.upN 1 5 (0 : Nat) m.vars.length + Abs.upN 2 5 (0 : Nat) m.chans.length + Abs.upN 3 5 (0 : Nat) m.procs.length + Abs.upL 5 (0 : Nat) m.props.length ≤ 8000000000000 := by
  have q1 := Abs.upN_le 1 5 (0 : Nat) m.vars.length
  have q2 := Abs.upN_le 2 5 (0 : Nat) m.chans.length
  have q3 := Abs.upN_le 3 5 (0 : Nat) m.procs.length
  have q4 : Abs.upL 5 (0 : Nat) m.props.length = 0 := by unfold Abs.upL; rw [if_pos (by decide)]; simp
  omega
 have hc1w := hc1
 have hc2w := hc2
 have hc5w := hc5
 clear hc1 hc2 hc5 hown
 have hc1 := hc1w
 have hc5 := hc5w
 refine Sg ?_
 refine K.forG 9 m.procs[k].vars.length [1, 2, 4, 5] (fun _ : Unit => []) () (fun j _ w' => Ext wA w' ∧ ∀ i, i < j → Abs.elocs m m.procs[k] i = 0) hZq hZq ⟨Ext.refl _, fun j h => absurd h (Nat.not_lt_zero _)⟩ ?_
 clear hc1 hc5
 rintro j _ S w9 hj ⟨he9, hz⟩
 have hc1 := he9.obj hc1w
 have hc2 := he9.obj hc2w
 have hc5 := he9.obj hc5w
 have e9 := e8.trans he9
 refine Sg ?_
 apply K.cond <;> intro g4
 ·have hj' : j < m.procs[k].vars.length := by omega
  obtain ⟨a', rfl⟩ := hpv.addr (by omega)
  have hcv := ((hpv.at j hj').cells).ext e9
  have hnm := Abs.nameAt_get (f := fun x : Abs.Var => x.name) hj'
  refine Sg ?_
  intro w10 he10
  replace hc1 := he10.obj hc1
  replace hc2 := he10.obj hc2
  replace hc5 := he10.obj hc5
  replace hcv := hcv.ext he10
  have e10 := e9.trans he10
  refine Sg ?_
  refine K.call (ahead_r _ m 5 (0 : Nat) w10 (hM.ext e10) (by omega) (by omega) hlen5) ?_
  rintro _ w11 ⟨⟨v2, rfl, hown2⟩, he11⟩
  refine ⟨he11, ?_⟩
  rw [Abs.aheadR] at hown2
  replace hc1 := he11.obj hc1
  replace hc2 := he11.obj hc2
  replace hc5 := he11.obj hc5
  have e11 := e10.trans he11
  refine Sg ?_
  refine K.call (has_r v2 _ m.procs[k].vars[j].name _ w11 hown2) ?_
  rintro _ wB ⟨rfl, rfl⟩
  have hall : Abs.nAll m 0 = Abs.nSVCP m m.procs.length := by simp [Abs.nAll]
  rw [hall]
  refine Sg ?_
  apply K.cond <;> intro g5
  ·have hel : Abs.elocs m m.procs[k] j = 7 := by unfold Abs.elocs; rw [hnm, if_pos g5]
   rw [Abs.first_stop hj' hz (by rw [hel]; decide), hel, if_pos (show (7 : Int) ≠ 0 by decide)] at hget
   refine Sg ?_
   intro w12 hw12 hc12
   refine Sg ?_
   exact ⟨by rw [hget]; rfl, hw12.ext e11 (by omega)⟩
  ·refine Sg ?_
   refine ⟨hj', Tr, (), trivial, (he9.trans he10).trans he11, fun i hi => ?_⟩
   by_cases hij : i = j
   ·subst hij
    unfold Abs.elocs
    rw [hnm, if_neg g5]
   ·exact hz i (by omega)
 ·rw [Abs.first_none fun i hi => hz i (by omega), if_neg (by simp)] at hget
  refine Sg ?_
  intro w10 hw10 hc10
  refine Sg ?_
  exact ⟨by rw [hget]; rfl, hw10.ext e9 (by omega)⟩
theorem refProposition_r (cs : List Value) (m : Abs.Model) (k : Nat) (w : World) (h : Abs.MI w cs m) (hg : m.good) (hk : k < m.props.length) (hk8 : k ≤ 8) (hdf : m.scalars.length ≤ 2 ∧ m.vars.length ≤ 12 ∧ m.chans.length ≤ 4) (hp6 : m.procs.length ≤ 6) :
  Ret Tryz.prog F.lr15_proposition #[.agg cs.toArray, .int .i64 k] w fun v w' => v = .int .i64 (Abs.eprop m k) ∧ Ext w w' := by
 have hM := h
 obtain ⟨o0, c0, o1, c1, o2, c2, o3, c3, o4, c4, rfl, h0, h1, h2, h3, h4, l0, l1, l2, l3, l4⟩ := h.form
 have hget := Abs.eprop_get hk
 refine Ks E.lr15_proposition ?_; dsimp only [C.lr15_proposition]; refine Yy ?_
 refine Sg ?_
 intro w1 b1 hb1 he1 hc1
 refine Sg ?_
 apply K.cond <;> intro g1
 ·rw [if_pos (by omega)] at hget
  refine Sg ?_
  exact ⟨by rw [hget], he1⟩
 rw [if_neg (by omega)] at hget
 obtain ⟨a, rfl⟩ := h4.addr (by omega)
 obtain ⟨hsn, ve, hp, hpe⟩ := h4.at k hk
 obtain ⟨oe, ce, rfl, le⟩ := hpe.form
 replace hp := hp.ext he1
 refine Sg ?_
 intro w2 b5 hb5 he2 hc5
 replace hc1 := he2.obj hc1
 have e2 := he1.trans he2
 refine Sg ?_
 refine K.call (rname_r m.props[k].name w2 hsn) ?_
 rintro _ w3 ⟨rfl, he3⟩
 replace hc1 := he3.obj hc1
 replace hc5 := he3.obj hc5
 have e3 := e2.trans he3
 refine Sg ?_
 refine K.condb (fun g2 => ?_) (fun g2 => ?_)
 rotate_left
 ·rw [if_pos g2] at hget
  refine Sg ?_
  exact ⟨by rw [hget], e3⟩
 rw [if_neg (by rw [g2]; decide)] at hget
 refine Sg ?_
 intro w4 he4
 replace hc1 := he4.obj hc1
 replace hc5 := he4.obj hc5
 have e4 := e3.trans he4
 refine Sg ?_
 refine K.call (ahead_r _ m 5 k w4 (hM.ext e4) (by omega) (by omega) (by
  have q1 := Abs.upN_le 1 5 k m.vars.length
  have q2 := Abs.upN_le 2 5 k m.chans.length
  have q3 := Abs.upN_le 3 5 k m.procs.length
  have q4 : Abs.upL 5 k m.props.length ≤ k := by unfold Abs.upL; (repeat' split) <;> omega
  omega)) ?_
 rintro _ w5 ⟨⟨v2, rfl, hown2⟩, he5⟩
 refine ⟨he5, ?_⟩
 rw [Abs.aheadR] at hown2
 replace hc1 := he5.obj hc1
 replace hc5 := he5.obj hc5
 have e5 := e4.trans he5
 refine Sg ?_
 refine K.call (has_r v2 _ m.props[k].name _ w5 hown2) ?_
 rintro _ wB ⟨rfl, rfl⟩
 refine Sg ?_
 apply K.cond <;> intro g3
 ·rw [if_pos g3] at hget
  refine Sg ?_
  exact ⟨by rw [hget], e5⟩
 rw [if_neg g3] at hget
 have hsc : ∀ w', Ext w w' → Abs.SI w' [.slice o0 m.scalars.length c0, .slice o1 m.vars.length c1, .slice o2 m.chans.length c2, .slice o3 m.procs.length c3, .slice none 0 0, .int .i64 0] (Abs.mscope m) := fun w' e =>
  ⟨hg.scope.sm.1, _, _, _, _, _, rfl, h0.ext e, h1.ext e, h2.ext e, h3.ext e, SlR.nil, hg.scope.sm.2⟩
 refine Sg ?_
 refine K.call (refKind_r _ m.props[k].expr _ (Abs.mscope m) _ (hpe.ext e5) (hsc _ e5)) ?_
 rintro _ w6 ⟨rfl, he6⟩
 refine Sg ?_
 apply K.cond <;> intro g4
 rotate_left
 ·rw [if_pos g4] at hget
  refine Sg ?_
  exact ⟨by rw [hget], e5.trans he6⟩
 rw [if_neg (by simpa using g4)] at hget
 refine Sg ?_
 apply K.cond <;> intro g5
 rotate_left
 ·rw [if_pos g5] at hget
  refine Sg ?_
  exact ⟨by rw [hget], e5.trans he6⟩
 rw [if_neg (by simpa using g5)] at hget
 refine Sg ?_
 exact ⟨by rw [hget], e5.trans he6⟩
theorem refCheck_r (cs : List Value) (m : Abs.Model) (w : World) (h : Abs.MI w cs m) (hg : m.good) :
  Ret Tryz.prog F.lr15_Check #[.agg cs.toArray] w fun v w' => v = faultV (Abs.check m) ∧ Ext w w' := by
 have hM := h
 obtain ⟨o0, c0, o1, c1, o2, c2, o3, c3, o4, c4, rfl, h0, h1, h2, h3, h4, l0, l1, l2, l3, l4⟩ := h.form
 refine Ks E.lr15_Check ?_; dsimp only [C.lr15_Check]; refine Yy ?_
 simp -dsimp only [B9]
 refine Su ?_
 intro w1 b1 hb1 he1 hc1
 refine Su ?_
 intro w2 b2 hb2 he2 hc2
 replace hc1 := he2.obj hc1
 have e2 := he1.trans he2
 have z1 := lH hc1
 have z2 := lH hc2
 have z3 := he1.size
 refine Su ?_
 simp -dsimp only [B9]
 refine Su ?_
 refine K.call (refData_r _ m w2 (hM.ext e2)) ?_
 rintro _ w3 ⟨rfl, he3⟩
 replace hc1 := he3.obj hc1
 replace hc2 := he3.obj hc2
 unfold faultV
 have z4 := he2.size
 have z5 := he3.size
 refine Su ?_
 intro w4 b3 hb3 he4 hc3
 replace hc1 := he4.obj hc1
 replace hc2 := he4.obj hc2
 have e4 := (e2.trans he3).trans he4
 have z6 := lH hc3
 have hc1w := hc1
 have hc2w := hc2
 have hM4 := hM.ext e4
 refine Su ?_
 refine K.cutG [1, 2, 3] (fun _ : Abs.Fault => []) (fun f w' => Mod (fun i => i = b3) w4 w' ∧ w'.heap[b3]? = some (.cells #[.int .i64 f.why, .int .i64 f.part, .int .i64 f.item, .int .i64 f.sub] T.s) ∧
  ((f.why ≠ 0 ∧ f = Abs.check m) ∨ (f.why = 0 ∧ (Abs.data m).why = 0 ∧ ∀ j, j < m.procs.length → (Abs.eproc m j).1 = 0))) ?_ ?_
 ·refine Sg ?_
  refine K.forG 4 m.procs.length [1, 2, 3] (fun _ : Abs.Fault => []) (Abs.data m) (fun k f w' => Mod (fun i => i = b3) w4 w' ∧ w'.heap[b3]? = some (.cells #[.int .i64 f.why, .int .i64 f.part, .int .i64 f.item, .int .i64 f.sub] T.s) ∧
   ((f = Abs.data m ∧ (Abs.data m).why ≠ 0) ∨ ((Abs.data m).why = 0 ∧ f.why = 0 ∧ ∀ j, j < k → (Abs.eproc m j).1 = 0) ∨ ((Abs.data m).why = 0 ∧ f = Abs.procsF m ∧ (Abs.procsF m).why ≠ 0))) hZq hZq ⟨Mod.refl _ _, hc3, by
     by_cases h : (Abs.data m).why = 0
     ·exact .inr (.inl ⟨h, h, fun j h => absurd h (Nat.not_lt_zero _)⟩)
     ·exact .inl ⟨rfl, h⟩⟩ ?_
  clear hc1 hc2 hc3
  rintro k f S w5 hk ⟨m5, hc3, hf⟩
  have hc1 := m5.obj (by omega) hc1w
  have hc2 := m5.obj (by omega) hc2w
  have e5 := m5.ext e4 (fun i hi e => by omega)
  have fin1 : f.why ≠ 0 → (f.why ≠ 0 ∧ f = Abs.check m) := fun hw => ⟨hw, by
   rcases hf with ⟨rfl, h⟩ | ⟨_, h, _⟩ | ⟨h1, rfl, h2⟩
   ·rw [Abs.check, if_pos h]
   ·exact absurd h hw
   ·rw [Abs.check, if_neg (by simpa using h1), if_pos h2]⟩
  refine Sg ?_
  apply K.cond <;> intro g1
  ·have hk' : k < m.procs.length := by omega
   refine Sg ?_
   apply K.cond <;> intro g2
   ·have hf2 : (Abs.data m).why = 0 ∧ f.why = 0 ∧ ∀ j, j < k → (Abs.eproc m j).1 = 0 := by
     rcases hf with ⟨rfl, h⟩ | h | ⟨h1, rfl, h2⟩
     ·exact absurd g2 h
     ·exact h
     ·exact absurd g2 h2
    have hk6 : k ≤ 6 := by
     apply Classical.byContradiction
     intro hn
     have := Abs.eproc_lt (m := m) (i := 6) (by omega) (hf2.2.2 6 (by omega))
     omega
    refine Sg ?_
    refine K.call (refProcess_r _ m k w5 (hM.ext e5) hg hk' hk6 (Abs.data_few hf2.1) fun _ => hf2.2.2) ?_
    rintro _ w6 ⟨rfl, he6⟩
    unfold faultV
    replace hc1 := he6.obj hc1
    replace hc2 := he6.obj hc2
    replace hc3 := he6.obj hc3
    refine Sg ?_
    intro w7 hw7 hc7
    refine Sg ?_
    refine ⟨hk', Tr, _, trivial, (m5.trans he6.mod).trans (hw7.mod rfl), hc7, ?_⟩
    by_cases h0 : (Abs.eproc m k).1 = 0
    ·rw [if_neg (by simpa using h0)]
     refine .inr (.inl ⟨hf2.1, rfl, fun j hj => ?_⟩)
     by_cases hjk : j = k
     ·subst hjk; exact h0
     ·exact hf2.2.2 j (by omega)
    ·rw [if_pos h0]
     have := Abs.procs_i hk' hf2.2.2 h0
     exact .inr (.inr ⟨hf2.1, this.symm, by rw [this]; exact h0⟩)
   ·refine Sg ?_
    exact ⟨f, trivial, m5, hc3, .inl (fin1 g2)⟩
  ·refine Sg ?_
   refine ⟨f, trivial, m5, hc3, ?_⟩
   by_cases hw : f.why = 0
   ·refine .inr ?_
    rcases hf with ⟨rfl, h⟩ | ⟨h1, h2, h3⟩ | ⟨h1, rfl, h2⟩
    ·exact absurd hw h
    ·exact ⟨h2, h1, fun j hj => h3 j (by omega)⟩
    ·exact absurd hw h2
   ·exact .inl (fin1 hw)
 clear hc1 hc2 hc3
 rintro f S w5 ⟨m5, hc3, hf⟩
 have hc1 := m5.obj (by omega) hc1w
 have hc2 := m5.obj (by omega) hc2w
 have e5 := m5.ext e4 (fun i hi e => by omega)
 refine Sg ?_
 apply K.cond <;> intro g1
 rotate_left
 ·have hck : f = Abs.check m := by
   rcases hf with ⟨_, h⟩ | ⟨h, _⟩
   ·exact h
   ·exact absurd h g1
  refine Sg ?_
  intro w6 hw6 hc6
  refine Sg ?_
  exact ⟨by rw [hck], hw6.ext e5 (by omega)⟩
 have hok : (Abs.data m).why = 0 ∧ ∀ j, j < m.procs.length → (Abs.eproc m j).1 = 0 := by
  rcases hf with ⟨h, _⟩ | ⟨_, h⟩
  ·exact absurd g1 h
  ·exact h
 obtain ⟨hd, hP⟩ := hok
 have hdf := Abs.data_few hd
 have hpl : m.procs.length ≤ 6 := by
  apply Classical.byContradiction
  intro hn
  have := Abs.eproc_lt (i := 6) (by omega) (hP 6 (by omega))
  omega
 have hfew : Abs.Few m := ⟨by omega, by omega, by omega, fun p hp => by
  obtain ⟨j, hj, rfl⟩ := List.mem_iff_getElem.1 hp
  have := Abs.procCheck_few (Abs.eproc_ok hj (hP j hj)).2.1
  omega⟩
 have hpa := Abs.procs_all hP
 have hck : Abs.check m = if (Abs.procsF m).why ≠ 0 then Abs.procsF m else Abs.propsF m := by rw [Abs.check, if_neg (by simpa using hd)]
 clear hc3
 refine Sg ?_
 refine K.call (refPieces_r _ m w5 (hM.ext e5) hfew) ?_
 rintro _ w6 ⟨rfl, he6⟩
 replace hc1 := he6.obj hc1
 replace hc2 := he6.obj hc2
 have e6 := e5.trans he6
 refine Sg ?_
 apply K.cond <;> intro g2
 ·rw [if_pos (.inl (by omega))] at hpa
  rw [hpa, if_pos (show (11 : Int) ≠ 0 by decide)] at hck
  refine Sg ?_
  intro w7 hw7 hc7
  refine Sg ?_
  exact ⟨by rw [hck]; rfl, hw7.ext e6 (by omega)⟩
 refine Sg ?_
 apply K.cond <;> intro g3
 ·rw [if_pos (.inr (by omega))] at hpa
  rw [hpa, if_pos (show (11 : Int) ≠ 0 by decide)] at hck
  refine Sg ?_
  intro w7 hw7 hc7
  refine Sg ?_
  exact ⟨by rw [hck]; rfl, hw7.ext e6 (by omega)⟩
 rw [if_neg (by omega)] at hpa
 rw [hpa, if_neg (by simp [Abs.fine])] at hck
 have hc1v := hc1
 have hc2v := hc2
 refine Sg ?_
 refine K.forG 8 m.props.length [1, 2] (fun _ : Unit => []) () (fun k _ w' => Ext w6 w' ∧ ∀ j, j < k → Abs.eprop m j = 0) hZq hZq ⟨Ext.refl _, fun j h => absurd h (Nat.not_lt_zero _)⟩ ?_
 clear hc1 hc2
 rintro k _ S2 w7 hk ⟨he7, hz⟩
 have hc1 := he7.obj hc1v
 have hc2 := he7.obj hc2v
 have e7 := e6.trans he7
 refine Sg ?_
 apply K.cond <;> intro g4
 ·have hk' : k < m.props.length := by omega
  have hk8 : k ≤ 8 := by
   apply Classical.byContradiction
   intro hn
   have := Abs.eprop_lt (m := m) (i := 8) (by omega) (hz 8 (by omega))
   omega
  refine Sg ?_
  refine K.call (refProposition_r _ m k w7 (hM.ext e7) hg hk' hk8 hdf hpl) ?_
  rintro _ w8 ⟨rfl, he8⟩
  replace hc1 := he8.obj hc1
  replace hc2 := he8.obj hc2
  refine Sg ?_
  apply K.cond <;> intro g5
  rotate_left
  ·rw [Abs.props_i hk' hz g5] at hck
   refine Sg ?_
   intro w9 hw9 hc9
   refine Sg ?_
   exact ⟨by rw [hck]; rfl, hw9.ext (e7.trans he8) (by omega)⟩
  ·refine Sg ?_
   refine ⟨hk', Tr, (), trivial, he7.trans he8, fun j hj => ?_⟩
   by_cases hjk : j = k
   ·subst hjk; simpa using g5
   ·exact hz j (by omega)
 ·rw [Abs.props_0 fun j hj => hz j (by omega)] at hck
  refine Sg ?_
  intro w8 hw8 hc8
  refine Sg ?_
  exact ⟨by rw [hck]; rfl, hw8.ext e7 (by omega)⟩
end Go.Proofs.R
end
section
namespace Lite
open Go Go.RowKit
def seenS (l : List ByteArray) : List (ByteArray × Value) := l.map fun x => (x, .bool true)
theorem seenS_find (l : List ByteArray) (x : ByteArray) : ((seenS l).find? (fun p => decide (x = p.1))).map (·.2) = if x ∈ l then some (.bool true) else none := by
 induction l with
 | nil => rfl
 | cons y l ih =>
  simp only [seenS, List.map_cons, List.find?_cons, List.mem_cons]
  by_cases h : x = y
  ·simp [h]
  ·simp only [h, decide_false, false_or]
   exact ih
structure MapS (es : Array MapEntry) (c : Nat) (L : List ByteArray) : Prop where
 kv : ∃ l, KV Value.string es.toList (seenS l) ∧ ∀ x, x ∈ l ↔ x ∈ L
 born : ∀ e ∈ es.toList, e.born < c
 nodup : (es.toList.map (·.born)).Nodup
theorem KV.mem {l : List ByteArray} : ∀ {es : List MapEntry}, KV Value.string es (seenS l) → ∀ e ∈ es, ∃ x ∈ l, e.key = .string x ∧ e.val = .bool true := by
 induction l with
 | nil => intro es h e he; cases es with | nil => cases he | cons _ _ => simp [KV, seenS] at h
 | cons y l ih =>
  intro es h e he
  cases es with
  | nil => cases he
  | cons f es =>
   simp only [KV, seenS, List.map_cons, List.cons.injEq, Prod.mk.injEq] at h
   rcases List.mem_cons.1 he with rfl | he
   ·exact ⟨y, by simp, h.1.1, h.1.2⟩
   ·obtain ⟨x, hx, h2⟩ := ih (es := es) h.2 e he
    exact ⟨x, by simp [hx], h2⟩
theorem KV.of_mem {l : List ByteArray} : ∀ {es : List MapEntry}, KV Value.string es (seenS l) → ∀ x ∈ l, ∃ e ∈ es, e.key = .string x := by
 induction l with
 | nil => intro es h x hx; cases hx
 | cons y l ih =>
  intro es h x hx
  cases es with
  | nil => simp [KV, seenS] at h
  | cons f es =>
   simp only [KV, seenS, List.map_cons, List.cons.injEq, Prod.mk.injEq] at h
   rcases List.mem_cons.1 hx with rfl | hx
   ·exact ⟨f, by simp, h.1.1⟩
   ·obtain ⟨e, he, h2⟩ := ih (es := es) h.2 x hx
    exact ⟨e, by simp [he], h2⟩
theorem MapS.mem {es : Array MapEntry} {c : Nat} {L : List ByteArray} (h : MapS es c L) : ∀ e ∈ es.toList, ∃ x ∈ L, e.key = .string x ∧ e.val = .bool true := fun e he => by
 obtain ⟨l, h1, h2⟩ := h.kv
 obtain ⟨x, hx, h3⟩ := h1.mem e he
 exact ⟨x, (h2 x).1 hx, h3⟩
theorem MapS.of_mem {es : Array MapEntry} {c : Nat} {L : List ByteArray} (h : MapS es c L) : ∀ x ∈ L, ∃ e ∈ es.toList, e.key = .string x := fun x hx => by
 obtain ⟨l, h1, h2⟩ := h.kv
 exact h1.of_mem x ((h2 x).2 hx)
theorem findNow_ix {d : TypeDesc} {k : Value} : ∀ {es : List MapEntry} {i j : Nat} {v : Value}, Instr.findNow d k es i = some (some (j, v)) → i ≤ j ∧ ∃ e, es[j - i]? = some e ∧ Instr.sameNow d k e.key = some true
 | [], i, j, v, h => by simp [Instr.findNow] at h
 | e :: es, i, j, v, h => by
  unfold Instr.findNow at h
  split at h
  ·rename_i hs
   injection h with h; injection h with h; injection h with h1 h2
   subst h1
   exact ⟨Nat.le_refl _, e, by simp, hs⟩
  ·obtain ⟨h1, e', h2, h3⟩ := findNow_ix h
   refine ⟨by omega, e', ?_, h3⟩
   rw [show j - i = (j - (i + 1)) + 1 from by omega, List.getElem?_cons_succ]
   exact h2
  ·cases h
theorem modify_same {es : Array MapEntry} {j : Nat} {e : MapEntry} {f : MapEntry → MapEntry} (hj : es[j]? = some e) (hf : f e = e) : es.modify j f = es := by
 apply Array.ext_getElem?
 intro i
 rw [Array.getElem?_modify]
 by_cases h : j = i
 ·subst h; rw [if_pos rfl, hj, Option.map_some, hf]
 ·rw [if_neg h]
def SetAt (w : World) (b : Nat) (L : List ByteArray) : Prop := ∃ es c, w.heap[b]? = some (.map es c) ∧ MapS es c L
theorem SetAt.of {w w' : World} {b : Nat} {L : List ByteArray} (h : SetAt w b L) (e : w'.heap[b]? = w.heap[b]?) : SetAt w' b L := let ⟨es, c, h1, h2⟩ := h; ⟨es, c, e.trans h1, h2⟩
theorem SetAt.lt {w : World} {b : Nat} {L : List ByteArray} (h : SetAt w b L) : b < w.heap.size := let ⟨_, _, h1, _⟩ := h; lH h1
theorem SetAt.ext {w w' : World} {b : Nat} {L : List ByteArray} (h : SetAt w b L) (e : Ext w w') : SetAt w' b L := h.of (e.heap h.lt)
theorem SetAt.wr {w w' : World} {b k : Nat} {L : List ByteArray} (h : SetAt w b L) (e : Wr k w w') (hk : b ≠ k) : SetAt w' b L := h.of (e.block b hk)
theorem SetAt.re {w : World} {b : Nat} {L L' : List ByteArray} (h : SetAt w b L) (e : ∀ x, x ∈ L ↔ x ∈ L') : SetAt w b L' := by
 obtain ⟨es, c, h1, ⟨⟨l, h2, h3⟩, h4, h5⟩⟩ := h
 exact ⟨es, c, h1, ⟨⟨l, h2, fun x => (h3 x).trans (e x)⟩, h4, h5⟩⟩
theorem SetAt.empty {w : World} {b : Nat} (h : w.heap[b]? = some (.map #[] 0)) : SetAt w b [] := ⟨_, _, h, ⟨⟨[], rfl, fun _ => Iff.rfl⟩, fun e he => by simp at he, by simp⟩⟩
theorem SetAt.look {w : World} {b : Nat} {L : List ByteArray} (h : SetAt w b L) (x : ByteArray) : ∃ es r, MapOf w (.map (some b)) es ∧ Instr.findNow .string (.string x) es.toList 0 = some r ∧ lkpV (.bool false) false r = .bool (decide (x ∈ L)) := by
 obtain ⟨es, c, h1, ⟨⟨l, h2, h3⟩, _, _⟩⟩ := h
 obtain ⟨r, hr1, hr2⟩ := findNow_kv same_str x es.toList _ 0 h2
 rw [seenS_find] at hr2
 refine ⟨es, r, .inr ⟨b, c, rfl, h1⟩, hr1, ?_⟩
 by_cases hx : x ∈ L
 ·rw [if_pos ((h3 x).2 hx)] at hr2
  simp [lkpV, hr2, hx]
 ·rw [if_neg (fun h => hx ((h3 x).1 h))] at hr2
  simp [lkpV, hr2, hx]
theorem SetAt.put {w : World} {b : Nat} {L : List ByteArray} (h : SetAt w b L) (x : ByteArray) : ∃ es c q, w.heap[b]? = some (.map es c) ∧ Instr.findNow .string (.string x) es.toList 0 = some q ∧
  ∀ w' : World, w'.heap[b]? = some (mupO es c (.string x) (.bool true) q) → SetAt w' b (L ++ [x]) := by
 obtain ⟨es, c, h1, hm⟩ := h
 obtain ⟨l, h2, h3⟩ := hm.kv
 obtain ⟨r, hr1, hr2⟩ := findNow_kv same_str x es.toList _ 0 h2
 refine ⟨es, c, r, h1, hr1, fun w' hw => ?_⟩
 cases r with
 | none =>
  refine ⟨_, _, hw, ⟨⟨l ++ [x], ?_, fun y => ?_⟩, ?_, ?_⟩⟩
  ·have := KV.push h2 x (.bool true) c
   simpa [seenS] using this
  ·simp [h3 y]
  ·intro e he
   simp only [Array.toList_push, List.mem_append, List.mem_singleton] at he
   rcases he with he | rfl
   ·have := hm.born e he; omega
   ·show c < c + 1; omega
  ·simp only [Array.toList_push, List.map_append, List.map_cons, List.map_nil]
   rw [List.nodup_append]
   refine ⟨hm.nodup, by simp, fun a ha b' hb' => ?_⟩
   obtain ⟨e, he, rfl⟩ := List.mem_map.1 ha
   simp only [List.mem_singleton] at hb'
   have := hm.born e he
   omega
 | some jv =>
  obtain ⟨j, v⟩ := jv
  obtain ⟨_, e, he, hs⟩ := findNow_ix hr1
  have hmem : e ∈ es.toList := List.mem_of_getElem? he
  obtain ⟨y, hy, hk, hv⟩ := hm.mem e hmem
  have hxy : x = y := by rw [hk, same_str] at hs; simpa using hs
  subst hxy
  have hsame : es.modify j (fun e => { e with key := .string x, val := .bool true }) = es := modify_same (e := e) (by simpa using he) (by cases e; simp only at hk hv; subst hk hv; rfl)
  have hw2 : w'.heap[b]? = some (.map es c) := by rw [hw]; show some (Obj.map (es.modify j _) c) = _; rw [hsame]
  exact ⟨es, c, hw2, ⟨⟨l, h2, fun z => by rw [h3 z]; simp; rintro rfl; exact hy⟩, hm.born, hm.nodup⟩⟩
def IterAt (w : World) (r b : Nat) (L D : List ByteArray) (n : Nat) (cur : Option ByteArray) : Prop :=
 ∃ es c since seen c0, w.heap[b]? = some (.map es c) ∧ MapS es c L ∧ w.heap[r]? = some (.mapIter (some b) since seen c0) ∧ (∀ x ∈ es.toList, x.born < since) ∧ since ≤ c0 ∧ since ≤ c ∧ (leftOf es seen).size = n ∧
  (∀ e ∈ es.toList, seen.contains e.born = true → ∃ x ∈ D, e.key = .string x) ∧ (∀ x ∈ D, x ∈ L) ∧ (∀ x, cur = some x → ∃ (seen0 : Array Nat) (e : MapEntry), c0 = c ∧ seen = seen0.push e.born ∧ e ∈ es.toList ∧ e.key = .string x ∧ e.val = .bool true)
theorem IterAt.of {w w' : World} {r b : Nat} {L D : List ByteArray} {n : Nat} {cur : Option ByteArray} (h : IterAt w r b L D n cur) (e1 : w'.heap[b]? = w.heap[b]?) (e2 : w'.heap[r]? = w.heap[r]?) : IterAt w' r b L D n cur :=
 let ⟨es, c, since, seen, c0, h1, h2, h3, h4⟩ := h; ⟨es, c, since, seen, c0, e1.trans h1, h2, e2.trans h3, h4⟩
theorem IterAt.sub {w : World} {r b : Nat} {L D : List ByteArray} {n : Nat} {cur : Option ByteArray} (h : IterAt w r b L D n cur) : ∀ x ∈ D, x ∈ L := let ⟨_, _, _, _, _, _, _, _, _, _, _, _, _, h2, _⟩ := h; h2
theorem IterAt.ne {w : World} {r b : Nat} {L D : List ByteArray} {n : Nat} {cur : Option ByteArray} (h : IterAt w r b L D n cur) : r ≠ b := by
 obtain ⟨es, c, since, seen, c0, h1, h2, h3, h4⟩ := h
 intro e
 rw [e, h1] at h3
 cases h3
theorem IterAt.lt {w : World} {r b : Nat} {L D : List ByteArray} {n : Nat} {cur : Option ByteArray} (h : IterAt w r b L D n cur) : r < w.heap.size := by
 obtain ⟨es, c, since, seen, c0, h1, h2, h3, h4⟩ := h
 exact lH h3
theorem IterAt.wr {w w' : World} {r b k : Nat} {L D : List ByteArray} {n : Nat} {cur : Option ByteArray} (h : IterAt w r b L D n cur) (e : Wr k w w') (h1 : b ≠ k) (h2 : r ≠ k) : IterAt w' r b L D n cur := h.of (e.block b h1) (e.block r h2)
theorem wr_drew (k : Nat) (w : World) : Wr k w w.drew := ⟨rfl, rfl, rfl, rfl, fun _ _ => rfl⟩
section
variable {P : Program} {KK : Value → World → Prop} {S : Fr} {w : World} {KW : World → Prop} {K3 : Value → Prop}
theorem K.lkpS {b : Nat} {L : List ByteArray} {x : ByteArray} {t} (h : SetAt w b L) (hk : K3 (.bool (decide (x ∈ L)))) : LkpVCh .string (.bool false) false (.map (some b)) (.string x) w K3 t := by
 obtain ⟨es, r, h1, h2, h3⟩ := h.look x
 exact K.lkp h1 h2 (by rw [h3]; exact hk)
theorem K.mupS {b : Nat} {L : List ByteArray} {x : ByteArray} {t} (h : SetAt w b L) (hk : ∀ w1, Wr b w w1 → SetAt w1 b (L ++ [x]) → KW w1) : MupVCh .string (.map (some b)) (.string x) (.bool true) w KW t := by
 obtain ⟨es, c, q, h1, h2, h3⟩ := h.put x
 exact K.mup h1 h2 (hk _ (Wr.setO w b _) (h3 _ (setO_same (lH h1))))
theorem K.rngM {b : Nat} {L : List ByteArray} {x : Operand} {t' k e ty : TypeId} {t} (hx : ev S x = .map (some b)) (ht : P.underlying t' = some (.map k e)) (h : SetAt w b L)
  (hk : ∀ w1 r n, w.heap.size ≤ r → Ext w w1 → IterAt w1 r b L [] n none → KK (.pointer (some ⟨r, 0, none⟩)) w1) : RawVCh P (.range t' x) ty S w KK t := by
 obtain ⟨es, c, h1, h2⟩ := h
 have hrun := run_range_map (P := P) w t' k e b es c ht h1
 refine K.raw (v := .pointer (some ⟨w.heap.size, 0, none⟩)) (w' := w.alloc (.mapIter (some b) c #[] c)) (by simp [execOp, hx, hrun, Result.andThen]) ?_
 refine hk _ _ _ (Nat.le_refl _) ((Ext.refl w).alloc _) ⟨es, c, c, #[], c, heap_alloc_old h1, h2, heap_alloc_new w _, h2.born, Nat.le_refl _, Nat.le_refl _, rfl, ?_, ?_, ?_⟩
 ·intro e _ h
  simp at h
 ·intro x hx
  cases hx
 ·intro x hx
  cases hx
theorem K.nxtM {r b n : Nat} {L D : List ByteArray} {cur : Option ByteArray} {x : Operand} {ty : TypeId} {t} (hx : ev S x = .pointer (some ⟨r, 0, none⟩)) (h : IterAt w r b L D n cur)
  (h0 : (∀ y ∈ L, y ∈ D) → KK (.tuple #[.bool false]) w)
  (h1 : ∀ y w1 n', y ∈ L → n' < n → Wr r w w1 → IterAt w1 r b L (D ++ [y]) n' (some y) → KK (.tuple #[.bool true, .string y, .bool true]) w1) : RawVCh P (.next x false) ty S w KK t := by
 have hne := h.ne
 obtain ⟨es, c, since, seen, c0, hb, hm, hr, hold, hsc, hsk, hn, hD, hDL, _⟩ := h
 rcases run_next_at (P := P) w ty r b since c0 seen es c hr hb hold hsc with ⟨hz, hrun⟩ | ⟨e, he, w1, hal, hrun⟩
 ·refine K.raw (v := .tuple #[.bool false]) (w' := w) (by simp [execOp, hx, hrun, Result.andThen]) (h0 fun y hy => ?_)
  obtain ⟨e, he, hk⟩ := hm.of_mem y hy
  obtain ⟨z, hz1, hz2⟩ := hD e he (all_seen es seen hz e he)
  rw [hk] at hz2
  injection hz2 with hz2
  rw [hz2]; exact hz1
 ·obtain ⟨hem, hes⟩ := mem_left he
  obtain ⟨y, hy, hk, hv⟩ := hm.mem e hem
  have hw1 : Wr r w w1 := by
   rcases hal with rfl | rfl
   ·exact Wr.refl _ _
   ·exact wr_drew r w
  have hsz : w1.heap.size = w.heap.size := hw1.size
  have hrl : r < w1.heap.size := by rw [hsz]; exact lH hr
  have hset : Go.ChangeMaps.setBlock w1 r (.mapIter (some b) since (seen.push e.born) c) = Lite.setO w1 r (.mapIter (some b) since (seen.push e.born) c) := rfl
  rw [hset] at hrun
  refine K.raw (v := .tuple #[.bool true, e.key, e.val]) (w' := setO w1 r (.mapIter (some b) since (seen.push e.born) c)) (by simp [execOp, hx, hrun, Result.andThen]) ?_
  rw [hk, hv]
  refine h1 y _ _ hy (Nat.lt_of_lt_of_eq (left_shrinks es seen e he) hn) (hw1.trans (Wr.setO _ _ _)) ⟨es, c, since, seen.push e.born, c, ?_, hm, setO_same hrl, hold, hsk, hsk, rfl, fun f hf hc => ?_, fun z hz => ?_, fun z hz => ?_⟩
  ·rw [setO_ne (Ne.symm hne)]
   rcases hal with rfl | rfl <;> exact hb
  ·rw [contains_push] at hc
   rcases Bool.or_eq_true_iff.1 hc with hc | hc
   ·obtain ⟨x, hx1, hx2⟩ := hD f hf hc
    exact ⟨x, by simp [hx1], hx2⟩
   ·have hbe : f.born = e.born := by simpa using hc
    have h5 := find_born f es.toList hm.nodup hf
    rw [hbe, find_born e es.toList hm.nodup hem] at h5
    injection h5 with h5
    have : f = e := h5.symm
    subst this
    exact ⟨y, by simp, hk⟩
  ·rcases List.mem_append.1 hz with hz | hz
   ·exact hDL z hz
   ·simp only [List.mem_singleton] at hz; subst hz; exact hy
  ·injection hz with hz
   subst hz
   exact ⟨seen, e, rfl, rfl, hem, hk, hv⟩
theorem K.entM {r b n : Nat} {L D : List ByteArray} {y : ByteArray} {x : Operand} {ty : TypeId} {t} (hx : ev S x = .pointer (some ⟨r, 0, none⟩)) (h : IterAt w r b L D n (some y))
  (hk : KK (.tuple #[.string y, .bool true]) w) : RawVCh P (.entry x) ty S w KK t := by
 obtain ⟨es, c, since, seen, c0, hb, hm, hr, hold, hsc, hsk, hn, hD, hDL, hc⟩ := h
 obtain ⟨seen0, e, rfl, rfl, he, hk1, hk2⟩ := hc y rfl
 have hrun : (Instr.entry (.pointer (some ⟨r, 0, none⟩))).run P w = .ok (.tuple #[e.key, e.val]) w := run_entry_at w r b since seen0 es c0 e hr hb he hm.nodup
 refine K.raw (v := .tuple #[e.key, e.val]) (w' := w) (by simp [execOp, hx, hrun, Result.andThen]) ?_
 rw [hk1, hk2]
 exact hk
end
end Lite
end
section
namespace Go.Proofs.R
open Go Go.RowKit Lite
def thrown (f : Abs.Fault) : List PanicEntry := [{ v := .iface T.aj (.agg #[.int .i64 f.why, .int .i64 f.part, .int .i64 f.item, .int .i64 f.sub]), recovered := false }]
theorem throw_r (e p i s : Int) (w : World) : RetT Tryz.prog F.b #[.int .i64 e, .int .i64 p, .int .i64 i, .int .i64 s] w (fun _ w' => e = 0 ∧ w' = w) (fun c w' => e ≠ 0 ∧ c = thrown ⟨e, p, i, s⟩ ∧ w' = w) := by
 refine K.startT hmix E.b (args := [_, _, _, _]) (Nat.le_of_ble_eq_true rfl) ?_; dsimp only [C.b]; refine Yy ?_
 refine Sg ?_
 refine K.cond (fun g => ?_) (fun g => ?_)
 ·refine Sg ?_
  exact ⟨g, Tr⟩
 ·refine Sg ?_
  exact ⟨g, Tr, Tr⟩
theorem take_r (b : Nat) (L : List ByteArray) (x : ByteArray) (p i : Int) (w : World) (h : SetAt w b L) : RetT Tryz.prog F.aa #[.map (some b), .string x, .int .i64 p, .int .i64 i] w
  (fun _ w' => ¬ x ∈ L ∧ Wr b w w' ∧ SetAt w' b (L ++ [x])) (fun c w' => x ∈ L ∧ c = thrown ⟨7, p, i, 0⟩ ∧ w' = w) := by
 refine K.startT hmix E.aa (args := [_, _, _, _]) (Nat.le_of_ble_eq_true rfl) ?_; dsimp only [C.aa]; refine Yy ?_
 refine Sg ?_
 refine K.lkpS h ?_
 refine Sg ?_
 refine K.cond (fun g => ?_) (fun g => ?_)
 ·refine Sg ?_
  refine K.thr (throw_r 7 p i 0 w) ?_ ?_
  ·rintro _ _ ⟨h0, _⟩
   exact absurd h0 (by decide)
  ·rintro c _ ⟨_, rfl, rfl⟩
   refine Sg ?_
   exact ⟨g, Tr, Tr⟩
 ·refine Sg ?_
  refine K.mupS h fun w1 hw h1 => ?_
  refine Sg ?_
  exact ⟨g, hw, h1⟩
end Go.Proofs.R
end
section
namespace Go.Proofs.R
open Go Go.RowKit Lite
structure TakSt (w0 w : World) (bt b1 : Nat) (cs : List Value) (w' : World) (L : List ByteArray) : Prop where
 ext : Ext w0 w'
 mod : Mod (fun k => k = bt) w w'
 box : w'.heap[b1]? = some (.cells cs.toArray T.b)
 set : SetAt w' bt L
 low : w0.heap.size ≤ bt
 ne : b1 ≠ bt
section
variable {w0 w w' w'' : World} {bt b1 : Nat} {cs : List Value} {L L' : List ByteArray}
theorem TakSt.then (h : TakSt w0 w bt b1 cs w' L) (he : Ext w' w'') : TakSt w0 w bt b1 cs w'' L := ⟨h.ext.trans he, h.mod.trans he.mod, he.obj h.box, h.set.ext he, h.low, h.ne⟩
theorem TakSt.wr (h : TakSt w0 w bt b1 cs w' L) (hw : Wr bt w' w'') (hs : SetAt w'' bt L') : TakSt w0 w bt b1 cs w'' L' := ⟨hw.ext h.ext h.low, h.mod.trans (hw.mod rfl), hw.obj h.box h.ne, hs, h.low, h.ne⟩
theorem TakSt.re (h : TakSt w0 w bt b1 cs w' L) (e : L = L') : TakSt w0 w bt b1 cs w' L' := e ▸ h
end
theorem globals_r {w0 : World} (cs : List Value) (m : Abs.Model) (bt : Nat) (w : World) (h : Abs.MI w0 cs m) (e0 : Ext w0 w) (hbt : w0.heap.size ≤ bt) (ho : OwnIs w0) (hs : SetAt w bt []) :
  RetT Tryz.prog F.cw #[.agg cs.toArray, .map (some bt)] w (fun _ w' => (Abs.data m).why = 0 ∧ Ext w0 w' ∧ Mod (fun k => k = bt) w w' ∧ SetAt w' bt (Abs.nSVC m m.chans.length))
   (fun c w' => (Abs.data m).why ≠ 0 ∧ c = thrown (Abs.data m) ∧ Ext w0 w' ∧ Mod (fun k => k = bt) w w') := by
 obtain ⟨o0, c0, o1, c1, o2, c2, o3, c3, o4, c4, rfl, h0, h1, h2, h3, h4, l0, l1, l2, l3, l4⟩ := h.form
 refine K.startT hmix E.cw (args := [_, _]) (Nat.le_of_ble_eq_true rfl) ?_; dsimp only [C.cw]; refine Yy ?_
 refine Sg ?_
 intro w1 b1 hb1 he1 hc1
 have st1 : TakSt w0 w bt b1 _ w1 [] := ⟨e0.trans he1, he1.mod, hc1, hs.ext he1, hbt, by have := hs.lt; omega⟩
 clear hs
 refine Sg ?_
 refine K.call (scalars_r _ m.scalars w1 (ho.ext st1.ext) (h0.ext st1.ext)) ?_
 rintro _ w2 ⟨rfl, he2⟩
 replace st1 := st1.then he2
 clear hc1
 refine Sg ?_
 refine K.thr (throw_r (Abs.scalars m.scalars).2 1 (Abs.scalars m.scalars).1 0 w2) ?_ ?_
 rotate_left
 ·rintro c _ ⟨g, rfl, rfl⟩
  refine Sg ?_
  rw [Abs.data_s g]
  exact ⟨g, rfl, st1.ext, st1.mod⟩
 rintro _ _ ⟨hS, rfl⟩
 have hc1 := st1.box
 refine Sg ?_
 refine K.forG 24 m.scalars.length [1, 2, 22, 23] (fun _ : Unit => []) () (fun k _ w' => TakSt w0 w bt b1 _ w' ((m.scalars.take k).map (·.name))) hZq hZq (st1.re (by simp)) ?_
 clear hc1 he2 st1
 rintro k _ S w3 hk st3
 have hc1 := st3.box
 have e3 := st3.ext
 refine Sg ?_
 apply K.cond <;> intro g1
 ·have hk' : k < m.scalars.length := by omega
  obtain ⟨a, rfl⟩ := h0.addr (by omega)
  refine Sg ?_
  intro w4 b3 hb3 he4 hc3
  have st4 := st3.then he4
  refine Sg ?_
  refine K.mupS st4.set fun w5 hw hs5 => ?_
  refine Sg ?_
  exact ⟨hk', Tr, (), trivial, (st4.wr hw hs5).re (Abs.take_snocN _ _ hk').symm⟩
 replace st3 := st3.re (show _ = Abs.nSV m 0 by rw [List.take_of_length_le (by omega)]; simp)
 refine Sg ?_
 refine K.call (vars_r _ _ m.vars m.scalars 12 w3 (ho.ext e3) (h1.ext e3) (h0.ext e3)) ?_
 rintro _ w4 ⟨rfl, he4⟩
 replace st3 := st3.then he4
 clear hc1 e3
 have hc1 := st3.box
 rw [Abs.vars_eq]
 refine Sg ?_
 refine K.forG 43 m.vars.length [1, 2, 4, 5, 41, 42] (fun _ : Unit => []) () (fun k _ w' => TakSt w0 w bt b1 _ w' (Abs.nSV m k) ∧ ∀ j, j < k → Abs.evar m j = 0) hZq hZq ⟨st3, fun j h => absurd h (Nat.not_lt_zero _)⟩ ?_
 clear hc1 st3 he4
 rintro k _ S' w5 hk ⟨st5, hz⟩
 have hc1 := st5.box
 have e5 := st5.ext
 refine Sg ?_
 apply K.cond <;> intro g1
 ·have hk' : k < m.vars.length := by omega
  obtain ⟨a, rfl⟩ := h1.addr (by omega)
  have hnm := Abs.nameAt_get (f := fun x : Abs.Var => x.name) hk'
  refine Sg ?_
  intro wN b9 hb9 heN hcN
  refine Su ?_
  intro w6 hw6 hc6
  have he6 := hw6.ext heN hb9
  have st6 := st5.then he6
  replace hc1 := st6.box
  clear hcN heN
  refine Su ?_
  refine K.cutG [1, 2, 4, 5, 8, 9, 41, 42, 43] (fun _ : Unit => []) (fun _ w' => w' = w6 ∧ Abs.verr m k = 0) ?_ ?_
  ·refine Sg ?_
   apply K.cond <;> intro g2
   ·refine Sg ?_
    refine K.thr (throw_r (Abs.first m.vars.length (Abs.verr m)).2 2 k 0 w6) ?_ ?_
    ·rintro _ _ ⟨h00, rfl⟩
     refine Sg ?_
     exact ⟨(), trivial, Tr, Abs.first_zero h00 k hk'⟩
    ·rintro c _ ⟨h00, rfl, rfl⟩
     obtain ⟨i, hi, e1, e2⟩ := Abs.first_lt h00
     obtain rfl : k = i := by omega
     rw [e2] at h00
     have hev : Abs.evar m k = Abs.verr m k := by unfold Abs.evar; rw [if_pos h00]
     have hd := Abs.data_v hS hk' hz (by rw [hev]; exact h00)
     rw [hev] at hd
     refine Sg ?_
     rw [hd, e2]
     exact ⟨h00, Tr, st6.ext, st6.mod⟩
   ·refine Sg ?_
    refine ⟨(), trivial, Tr, ?_⟩
    apply Classical.byContradiction
    intro hne
    apply g2
    rw [Abs.first_stop hk' (fun j hj => Abs.verr_of (hz j hj)) hne]
  rintro _ S2 _ ⟨rfl, hv0⟩
  refine Sg ?_
  refine K.thr (take_r bt (Abs.nSV m k) m.vars[k].name 2 k _ st6.set) ?_ ?_
  ·rintro _ w7 ⟨hn, hw7, hs7⟩
   refine Sg ?_
   refine ⟨hk', Tr, (), trivial, (st6.wr hw7 hs7).re (by simp only [Abs.nSV, Abs.nV]; rw [Abs.take_snocN (fun x : Abs.Var => x.name) _ hk', List.append_assoc]), fun j hj => ?_⟩
   by_cases hjk : j = k
   ·subst hjk
    unfold Abs.evar
    rw [if_neg (by simpa using hv0), hnm, if_neg hn]
   ·exact hz j (by omega)
  ·rintro c _ ⟨hn, rfl, rfl⟩
   have hev : Abs.evar m k = 7 := by unfold Abs.evar; rw [if_neg (by simpa using hv0), hnm, if_pos hn]
   have hd := Abs.data_v hS hk' hz (by rw [hev]; decide)
   rw [hev] at hd
   refine Sg ?_
   rw [hd]
   exact ⟨(show (7 : Int) ≠ 0 by decide), Tr, st6.ext, st6.mod⟩
 have hkv : m.vars.length ≤ k := by omega
 have hV : ∀ j, j < m.vars.length → Abs.evar m j = 0 := fun j hj => hz j (by omega)
 replace st5 := st5.re (show _ = Abs.nSVC m 0 by simp only [Abs.nSVC, Abs.nSV, Abs.nV, Abs.nC]; rw [List.take_of_length_le hkv]; simp)
 refine Sg ?_
 refine K.call (chans_r _ _ m.chans m.scalars w5 (ho.ext e5) (h2.ext e5) (h0.ext e5)) ?_
 rintro _ w6 ⟨rfl, he6⟩
 replace st5 := st5.then he6
 clear hc1 e5
 have hc1 := st5.box
 rw [Abs.chans_eq]
 refine Sg ?_
 refine K.forG 71 m.chans.length [1, 2, 4, 5, 69, 70] (fun _ : Unit => []) () (fun k _ w' => TakSt w0 w bt b1 _ w' (Abs.nSVC m k) ∧ ∀ j, j < k → Abs.echan m j = 0) hZq hZq ⟨st5, fun j h => absurd h (Nat.not_lt_zero _)⟩ ?_
 clear hc1 st5 he6
 rintro k _ S' w7 hk ⟨st7, hz⟩
 have hc1 := st7.box
 have e7 := st7.ext
 refine Sg ?_
 apply K.cond <;> intro g1
 ·have hk' : k < m.chans.length := by omega
  obtain ⟨a, rfl⟩ := h2.addr (by omega)
  have hnm := Abs.nameAt_get (f := fun x : Abs.Chan => x.name) hk'
  refine Sg ?_
  intro wN b9 hb9 heN hcN
  refine Su ?_
  intro w6 hw6 hc6
  have he6 := hw6.ext heN hb9
  have st6 := st7.then he6
  replace hc1 := st6.box
  clear hcN heN
  refine Su ?_
  refine K.cutG [1, 2, 4, 5, 10, 11, 69, 70, 71] (fun _ : Unit => []) (fun _ w' => w' = w6 ∧ Abs.cerr m k = 0) ?_ ?_
  ·refine Sg ?_
   apply K.cond <;> intro g2
   ·refine Sg ?_
    refine K.thr (throw_r (Abs.first m.chans.length (Abs.cerr m)).2 3 k 0 w6) ?_ ?_
    ·rintro _ _ ⟨h00, rfl⟩
     refine Sg ?_
     exact ⟨(), trivial, Tr, Abs.first_zero h00 k hk'⟩
    ·rintro c _ ⟨h00, rfl, rfl⟩
     obtain ⟨i, hi, e1, e2⟩ := Abs.first_lt h00
     obtain rfl : k = i := by omega
     rw [e2] at h00
     have hev : Abs.echan m k = Abs.cerr m k := by unfold Abs.echan; rw [if_pos h00]
     have hd := Abs.data_c hS hV hk' hz (by rw [hev]; exact h00)
     rw [hev] at hd
     refine Sg ?_
     rw [hd, e2]
     exact ⟨h00, Tr, st6.ext, st6.mod⟩
   ·refine Sg ?_
    refine ⟨(), trivial, Tr, ?_⟩
    apply Classical.byContradiction
    intro hne
    apply g2
    rw [Abs.first_stop hk' (fun j hj => Abs.cerr_of (hz j hj)) hne]
  rintro _ S2 _ ⟨rfl, hv0⟩
  refine Sg ?_
  refine K.thr (take_r bt (Abs.nSVC m k) m.chans[k].name 3 k _ st6.set) ?_ ?_
  ·rintro _ w7 ⟨hn, hw7, hs7⟩
   refine Sg ?_
   refine ⟨hk', Tr, (), trivial, (st6.wr hw7 hs7).re (by simp only [Abs.nSVC, Abs.nC]; rw [Abs.take_snocN (fun x : Abs.Chan => x.name) _ hk', List.append_assoc]), fun j hj => ?_⟩
   by_cases hjk : j = k
   ·subst hjk
    unfold Abs.echan
    rw [if_neg (by simpa using hv0), hnm, if_neg hn]
   ·exact hz j (by omega)
  ·rintro c _ ⟨hn, rfl, rfl⟩
   have hev : Abs.echan m k = 7 := by unfold Abs.echan; rw [if_neg (by simpa using hv0), hnm, if_pos hn]
   have hd := Abs.data_c hS hV hk' hz (by rw [hev]; decide)
   rw [hev] at hd
   refine Sg ?_
   rw [hd]
   exact ⟨(show (7 : Int) ≠ 0 by decide), Tr, st6.ext, st6.mod⟩
 have hkc : m.chans.length ≤ k := by omega
 refine Sg ?_
 refine ⟨by rw [Abs.data_0 hS hV fun j hj => hz j (by omega)]; rfl, st7.ext, st7.mod, (st7.re ?_).set⟩
 simp only [Abs.nSVC, Abs.nC]
 rw [List.take_of_length_le hkc, List.take_of_length_le (Nat.le_refl _)]
end Go.Proofs.R
end
section
namespace Go.Proofs.R
open Go Go.RowKit Lite
theorem TakSt.wrN {w0 w w' w'' : World} {bt b1 k : Nat} {cs : List Value} {L : List ByteArray} (h : TakSt w0 w bt b1 cs w' L) (hsz : w0.heap.size ≤ w.heap.size) (hw : Wr k w' w'') (hk : w.heap.size ≤ k) (h1 : b1 ≠ k) (h2 : bt ≠ k) : TakSt w0 w bt b1 cs w'' L :=
 ⟨hw.ext h.ext (Nat.le_trans hsz hk), h.mod.then (hw.mod (A := fun j => j = k) rfl) fun i hi e => absurd e (by omega), hw.obj h.box h1, h.set.wr hw h2, h.low, h.ne⟩
theorem processes_r {w0 : World} (cs : List Value) (m : Abs.Model) (bt : Nat) (w : World) (h : Abs.MI w0 cs m) (hg : m.good) (e0 : Ext w0 w) (hbt : w0.heap.size ≤ bt) (ho : OwnIs w0) (hd : (Abs.data m).why = 0) (hs : SetAt w bt (Abs.nSVC m m.chans.length)) :
  RetT Tryz.prog F.cx #[.agg cs.toArray, .map (some bt)] w (fun _ w' => (Abs.procsF m).why = 0 ∧ Ext w0 w' ∧ Mod (fun k => k = bt) w w' ∧ SetAt w' bt (Abs.nSVCP m m.procs.length))
   (fun c w' => (Abs.procsF m).why ≠ 0 ∧ c = thrown (Abs.procsF m) ∧ Ext w0 w' ∧ Mod (fun k => k = bt) w w') := by
 have hM := h
 obtain ⟨o0, c0, o1, c1, o2, c2, o3, c3, o4, c4, rfl, h0, h1, h2, h3, h4, l0, l1, l2, l3, l4⟩ := h.form
 have hsz := e0.size
 refine K.startT hmix E.cx (args := [_, _]) (Nat.le_of_ble_eq_true rfl) ?_; dsimp only [C.cx]; refine Yy ?_
 refine Sg ?_
 intro w1 b1 hb1 he1 hc1
 have st1 : TakSt w0 w bt b1 _ w1 (Abs.nSVC m m.chans.length) := ⟨e0.trans he1, he1.mod, hc1, hs.ext he1, hbt, by have := hs.lt; omega⟩
 have zt := hs.lt
 have z1 := lH hc1
 clear hs hc1
 refine Sg ?_
 refine K.newM fun w2 ba hba he2 hm2 => ?_
 replace st1 := st1.then he2
 have sa : SetAt w2 ba [] := SetAt.empty hm2
 have z0 := he1.size
 have z2 := sa.lt
 clear hm2
 refine Sg ?_
 refine K.rngM (b := bt) rfl (k := T.h) (e := T.ar) (by kernel_rfl) st1.set fun w3 r n hr he3 hit => ?_
 replace st1 := st1.then he3
 replace sa := sa.ext he3
 have z4 := he2.size
 have z5 := hit.lt
 refine Sg ?_
 refine K.whG [1, 2, 4, 20] (fun _ : List ByteArray × Nat => []) ([], n) (fun x w' => TakSt w0 w bt b1 _ w' (Abs.nSVC m m.chans.length) ∧ SetAt w' ba x.1 ∧ ∃ cur, IterAt w' r bt (Abs.nSVC m m.chans.length) x.1 x.2 cur) (fun x => x.2) hZq ⟨st1, sa, _, hit⟩ ?_
 clear st1 sa hit
 rintro ⟨D, n'⟩ S w4 ⟨st4, sa, cur, hit⟩
 have hc1 := st4.box
 refine Sg ?_
 refine K.nxtM rfl hit (fun hall => ?_) (fun y w5 n2 hy hlt hw5 hit5 => ?_)
 rotate_left
 ·have st5 := st4.wrN hsz hw5 (by omega) (by omega) (by omega)
  have sa5 := sa.wr hw5 (by omega)
  refine Sg ?_
  refine K.entM rfl hit5 ?_
  refine Sg ?_
  refine K.mupS sa5 fun w6 hw6 sa6 => ?_
  have st6 := st5.wrN hsz hw6 (by omega) (by omega) (by omega)
  have hit6 := hit5.wr hw6 (by omega) (by omega)
  refine Sg ?_
  exact ⟨(D ++ [y], n2), trivial, ⟨st6, sa6, _, hit6⟩, hlt⟩
 have sb : SetAt w4 ba (Abs.nSVCP m 0) := sa.re fun x => by
  have hsub := hit.sub
  simp only [Abs.nSVCP, Abs.nP, List.take_zero, List.map_nil, List.append_nil]
  exact ⟨fun hx => hsub x hx, fun hx => hall x hx⟩
 clear sa hit hall
 refine Sg ?_
 refine K.forG 30 m.procs.length [1, 2, 4, 28, 29] (fun _ : Unit => []) () (fun k _ w' => TakSt w0 w bt b1 _ w' (Abs.nSVC m m.chans.length) ∧ SetAt w' ba (Abs.nSVCP m k)) hZq hZq ⟨st4, sb⟩ ?_
 clear hc1 st4 sb
 rintro k _ S' w5 hk ⟨st5, sb⟩
 have hc1 := st5.box
 have e5 := st5.ext
 refine Sg ?_
 apply K.cond <;> intro g1
 ·have hk' : k < m.procs.length := by omega
  obtain ⟨a, rfl⟩ := h3.addr (by omega)
  obtain ⟨_, vv, vc, hp, hpv, hpc⟩ := h3.at k hk'
  obtain ⟨ov, cv, rfl, lv⟩ := hpv.form
  obtain ⟨oc, cc, rfl, lc⟩ := hpc.form
  replace hp := hp.ext e5
  refine Sg ?_
  intro w6 b7 hb7 he6 hc7
  have st6 := st5.then he6
  replace sb := sb.ext he6
  refine Sg ?_
  refine K.mupS sb fun w7 hw7 sb7 => ?_
  have st7 := st6.wrN hsz hw7 (by omega) (by omega) (by omega)
  refine Sg ?_
  exact ⟨hk', Tr, (), trivial, st7, by simp only [Abs.nSVCP, Abs.nP]; rw [Abs.take_snocN (fun x : Abs.Proc => x.name) _ hk', ← List.append_assoc]; exact sb7⟩
 have sA : ∀ {w'}, SetAt w' ba (Abs.nSVCP m k) → SetAt w' ba (Abs.nSVCP m m.procs.length) := fun h => h.re fun x => by
  simp only [Abs.nSVCP, Abs.nP]; rw [List.take_of_length_le (by omega), List.take_of_length_le (Nat.le_refl _)]
 replace sb := sA sb
 clear sA
 replace st5 := st5.re (show _ = Abs.nSVCP m 0 by simp [Abs.nSVCP])
 refine Sg ?_
 refine K.forG 41 m.procs.length [1, 2, 4, 39, 40] (fun _ : Unit => []) () (fun k _ w' => TakSt w0 w bt b1 _ w' (Abs.nSVCP m k) ∧ SetAt w' ba (Abs.nSVCP m m.procs.length) ∧ ∀ j, j < k → (Abs.eproc m j).1 = 0) hZq hZq ⟨st5, sb, fun j h => absurd h (Nat.not_lt_zero _)⟩ ?_
 clear hc1 e5 st5 sb
 rintro k _ S2 w6 hk ⟨st6, sb, hz⟩
 have hc1 := st6.box
 have e6 := st6.ext
 have z6 := st6.mod.size
 refine Sg ?_
 apply K.cond <;> intro g1
 ·have hk' : k < m.procs.length := by omega
  obtain ⟨a, rfl⟩ := h3.addr (by omega)
  obtain ⟨hsn, vv, vc, hp, hpv, hpc⟩ := h3.at k hk'
  obtain ⟨ov, cv, rfl, lv⟩ := hpv.form
  obtain ⟨oc, cc, rfl, lc⟩ := hpc.form
  have hpg := hg.proc _ (List.getElem_mem hk')
  have hget := Abs.eproc_get hk'
  replace hp := hp.ext e6
  refine Sg ?_
  intro wN b9 hb9 heN hcN
  refine Su ?_
  intro w7 hw7 hc9
  have he7 := hw7.ext heN hb9
  have st7 := st6.then he7
  replace sb := sb.ext he7
  replace hc1 := st7.box
  have zb9 := lH hc9
  have za := sb.lt
  have e7 := st7.ext
  clear hcN heN hw7
  refine Sg ?_
  apply K.cond <;> intro g2
  ·have h6 : 6 ≤ k := by omega
   rw [if_pos h6] at hget
   have hd2 := Abs.procs_i hk' hz (by rw [hget]; decide)
   rw [hget] at hd2
   refine Sg ?_
   refine K.thr (throw_r 11 4 k 0 w7) ?_ ?_
   ·rintro _ _ ⟨h00, _⟩
    exact absurd h00 (by decide)
   ·rintro c _ ⟨_, rfl, rfl⟩
    refine Sg ?_
    rw [hd2]
    exact ⟨(show (11 : Int) ≠ 0 by decide), Tr, e7, st7.mod⟩
  rw [if_neg (by omega)] at hget
  refine Sg ?_
  intro w8 he8
  replace hc1 := he8.obj hc1
  replace hc9 := he8.obj hc9
  refine Sg ?_
  refine K.call (scope_r _ m k w8 (hM.ext (e7.trans he8)) hg) ?_
  rintro _ w9 ⟨⟨cs9, rfl, hn9⟩, he9⟩
  refine ⟨he9, ?_⟩
  have hsc := hn9.here
  obtain ⟨x0, y0, x1, y1, x2, y2, x3, y3, x4, y4, rfl, _⟩ := hsc.form
  refine Sg ?_
  refine K.call (pcheck_r m.procs[k] _ _ (Abs.pscope m k) w9 (ho.ext (e7.trans (he8.trans he9))) ⟨hsn, _, _, rfl, hpv.ext (e7.trans (he8.trans he9)), hpc.ext (e7.trans (he8.trans he9))⟩ hsc (hg.pscope _) hpg) ?_
  rintro _ w10 ⟨rfl, he10⟩
  have e710 := (he8.trans he9).trans he10
  have st10 := st7.then e710
  replace sb := sb.ext e710
  replace hc1 := st10.box
  replace hc9 := (he9.trans he10).obj hc9
  have zb10 := lH hc9
  have za10 := sb.lt
  clear hsc hn9 st7 e7
  have e10 := st10.ext
  have hin := Abs.procCheck_in m.procs[k] (Abs.pscope m k) 140737488351232 fun c hc => by have := (hpg.cmd c hc).acts; unfold Abs.big at this; omega
  have hvb : m.procs[k].vars.length ≤ 140737488351232 := by have := hpg.vars; unfold Abs.big at this; omega
  have hcb : m.procs[k].cmds.length ≤ 140737488351232 := by have := hpg.cmds; unfold Abs.big at this; omega
  refine Sg ?_
  refine K.thr (throw_r (Abs.procCheck m.procs[k] (Abs.pscope m k)).2.2 4 k (16 * (Abs.procCheck m.procs[k] (Abs.pscope m k)).1 + (Abs.procCheck m.procs[k] (Abs.pscope m k)).2.1) w10) ?_ ?_
  rotate_left
  ·rintro c _ ⟨h00, rfl, rfl⟩
   rw [if_pos h00] at hget
   have hd2 := Abs.procs_i hk' hz (by rw [hget]; exact h00)
   rw [hget] at hd2
   refine Sg ?_
   rw [hd2]
   exact ⟨h00, Tr, e10, st10.mod⟩
  rintro _ wA ⟨h00, rfl⟩
  rw [if_neg (by simpa using h00)] at hget
  refine Sg ?_
  refine K.thr (take_r bt (Abs.nSVCP m k) m.procs[k].name 4 k wA st10.set) ?_ ?_
  rotate_left
  ·rintro c _ ⟨hn, rfl, rfl⟩
   rw [if_pos hn] at hget
   have hd2 := Abs.procs_i hk' hz (by rw [hget]; decide)
   rw [hget] at hd2
   refine Sg ?_
   rw [hd2]
   exact ⟨(show (7 : Int) ≠ 0 by decide), Tr, e10, st10.mod⟩
  rintro _ w11 ⟨hn, hw11, hs11⟩
  rw [if_neg hn] at hget
  have st11 : TakSt w0 w bt b1 _ w11 (Abs.nSVCP m (k + 1)) := (st10.wr hw11 hs11).re (by simp only [Abs.nSVCP, Abs.nP]; rw [Abs.take_snocN (fun x : Abs.Proc => x.name) _ hk', List.append_assoc])
  replace sb := sb.wr hw11 (by omega)
  replace hc1 := st11.box
  replace hc9 := hw11.obj hc9 (by omega)
  have e11 := st11.ext
  have z11 := hw11.size
  clear st10 e10
  refine Sg ?_
  refine K.forG 74 m.procs[k].vars.length [1, 2, 4, 8, 9, 39, 40, 41, 72, 73] (fun _ : Unit => []) () (fun j _ w' => TakSt w0 w bt b1 _ w' (Abs.nSVCP m (k + 1)) ∧ SetAt w' ba (Abs.nSVCP m m.procs.length) ∧ Ext w11 w' ∧ ∀ i, i < j → Abs.elocs m m.procs[k] i = 0) hZq hZq ⟨st11, sb, Ext.refl _, fun j h => absurd h (Nat.not_lt_zero _)⟩ ?_
  have hc11 := hc9
  clear st11 sb hc1 hc9 e11
  rintro j _ S3 w12 hj ⟨st12, sb, he12, hz2⟩
  have hc1 := st12.box
  have hc9 := he12.obj hc11
  have e12 := st12.ext
  refine Sg ?_
  apply K.cond <;> intro g3
  ·have hj' : j < m.procs[k].vars.length := by omega
   obtain ⟨a', rfl⟩ := hpv.addr (by omega)
   have hcv := ((hpv.at j hj').cells).ext e12
   have hnm := Abs.nameAt_get (f := fun x : Abs.Var => x.name) hj'
   refine Sg ?_
   intro wM b14 hb14 heM hcM
   refine Su ?_
   intro w13 hw13 hc14
   have he13 := hw13.ext heM hb14
   have st13 := st12.then he13
   replace sb := sb.ext he13
   replace hc1 := st13.box
   clear hcM heM hw13
   refine Sg ?_
   refine K.lkpS sb ?_
   refine Sg ?_
   apply K.cond <;> intro g4
   ·have hel : Abs.elocs m m.procs[k] j = 7 := by unfold Abs.elocs; rw [hnm, if_pos g4]
    rw [Abs.first_stop hj' hz2 (by rw [hel]; decide), hel, if_pos (show (7 : Int) ≠ 0 by decide)] at hget
    have hd2 := Abs.procs_i hk' hz (by rw [hget]; exact (show (7 : Int) ≠ 0 by decide))
    rw [hget] at hd2
    refine Sg ?_
    refine K.thr (throw_r 7 4 k (16 + j) w13) ?_ ?_
    ·rintro _ _ ⟨h01, _⟩
     exact absurd h01 (by decide)
    ·rintro c _ ⟨_, rfl, rfl⟩
     refine Sg ?_
     rw [hd2]
     exact ⟨(show (7 : Int) ≠ 0 by decide), Tr, st13.ext, st13.mod⟩
   ·refine Sg ?_
    refine ⟨hj', Tr, (), trivial, st13, sb, he12.trans he13, fun i hi => ?_⟩
    by_cases hij : i = j
    ·subst hij
     unfold Abs.elocs
     rw [hnm, if_neg g4]
    ·exact hz2 i (by omega)
  ·rw [Abs.first_none fun i hi => hz2 i (by omega), if_neg (by simp)] at hget
   refine Sg ?_
   refine ⟨hk', Tr, (), trivial, st12, sb, fun i hi => ?_⟩
   by_cases hik : i = k
   ·subst hik
    rw [hget]
   ·exact hz i (by omega)
 have hkp : m.procs.length ≤ k := by omega
 have hP : ∀ j, j < m.procs.length → (Abs.eproc m j).1 = 0 := fun j hj => hz j (by omega)
 have hdf := Abs.data_few hd
 have hpl : m.procs.length ≤ 6 := by
  apply Classical.byContradiction
  intro hn
  have := Abs.eproc_lt (i := 6) (by omega) (hP 6 (by omega))
  omega
 have hfew : Abs.Few m := ⟨by omega, by omega, by omega, fun p hp => by
  obtain ⟨j, hj, rfl⟩ := List.mem_iff_getElem.1 hp
  have := Abs.procCheck_few (Abs.eproc_ok hj (hP j hj)).2.1
  omega⟩
 refine Sg ?_
 refine K.call (pieces_r _ m w6 (hM.ext e6) hfew) ?_
 rintro _ w7 ⟨rfl, he7⟩
 have st7 := st6.then he7
 replace hc1 := st7.box
 have hpa := Abs.procs_all hP
 have hset : SetAt w7 bt (Abs.nSVCP m m.procs.length) := by
  have h := st7.set
  simp only [Abs.nSVCP, Abs.nP] at h ⊢
  rw [List.take_of_length_le hkp] at h
  rw [List.take_of_length_le (Nat.le_refl _)]
  exact h
 refine Sg ?_
 apply K.cond <;> intro g2
 ·rw [if_pos (.inl (by omega))] at hpa
  refine Sg ?_
  refine K.thr (throw_r 11 4 m.procs.length 0 w7) ?_ ?_
  ·rintro _ _ ⟨h01, _⟩
   exact absurd h01 (by decide)
  ·rintro c _ ⟨_, rfl, rfl⟩
   refine Sg ?_
   rw [hpa]
   exact ⟨(show (11 : Int) ≠ 0 by decide), Tr, st7.ext, st7.mod⟩
 refine Sg ?_
 apply K.cond <;> intro g3
 ·rw [if_pos (.inr (by omega))] at hpa
  refine Sg ?_
  refine K.thr (throw_r 11 4 m.procs.length 0 w7) ?_ ?_
  ·rintro _ _ ⟨h01, _⟩
   exact absurd h01 (by decide)
  ·rintro c _ ⟨_, rfl, rfl⟩
   refine Sg ?_
   rw [hpa]
   exact ⟨(show (11 : Int) ≠ 0 by decide), Tr, st7.ext, st7.mod⟩
 rw [if_neg (by omega)] at hpa
 refine Sg ?_
 exact ⟨by rw [hpa]; rfl, st7.ext, st7.mod, hset⟩
theorem propositions_r {w0 : World} (cs : List Value) (m : Abs.Model) (bt : Nat) (w : World) (h : Abs.MI w0 cs m) (hg : m.good) (e0 : Ext w0 w) (hbt : w0.heap.size ≤ bt) (ho : OwnIs w0) (hs : SetAt w bt (Abs.nSVCP m m.procs.length)) :
  RetT Tryz.prog F.cy #[.agg cs.toArray, .map (some bt)] w (fun _ w' => (Abs.propsF m).why = 0 ∧ Ext w0 w' ∧ Mod (fun k => k = bt) w w')
   (fun c w' => (Abs.propsF m).why ≠ 0 ∧ c = thrown (Abs.propsF m) ∧ Ext w0 w' ∧ Mod (fun k => k = bt) w w') := by
 have hM := h
 obtain ⟨o0, c0, o1, c1, o2, c2, o3, c3, o4, c4, rfl, h0, h1, h2, h3, h4, l0, l1, l2, l3, l4⟩ := h.form
 refine K.startT hmix E.cy (args := [_, _]) (Nat.le_of_ble_eq_true rfl) ?_; dsimp only [C.cy]; refine Yy ?_
 refine Sg ?_
 intro w1 b1 hb1 he1 hc1
 have st1 : TakSt w0 w bt b1 _ w1 (Abs.nAll m 0) := ⟨e0.trans he1, he1.mod, hc1, by have := hs.ext he1; simpa [Abs.nAll] using this, hbt, by have := hs.lt; omega⟩
 have zt := hs.lt
 have z0 := he1.size
 clear hs
 refine Sg ?_
 refine K.call (scope_r _ m (-1) w1 (hM.ext st1.ext) hg) ?_
 rintro _ w2 ⟨⟨cs2, rfl, hn2⟩, he2⟩
 rw [Abs.pscope_none (.inl (by decide))] at hn2
 have hsc := hn2.here
 obtain ⟨x0, y0, x1, y1, x2, y2, x3, y3, x4, y4, rfl, _⟩ := hsc.form
 clear hsc
 have st2 := st1.then he2
 clear hc1 st1
 have z1 := he2.size
 refine Sg ?_
 intro w3 b4 hb4 he3 hc4
 have hn3 := hn2.ext he3 z1
 have st3 := st2.then he3
 have hc1 := st3.box
 clear hn2 st2
 refine Sg ?_
 refine K.forG 14 m.props.length [1, 2, 4, 12, 13] (fun _ : Unit => []) () (fun k _ w' => TakSt w0 w bt b1 _ w' (Abs.nAll m k) ∧ New w1 (fun w => Abs.SI w _ (Abs.mscope m)) w' ∧ w'.heap[b4]? = some (.cells (List.toArray [_, _, _, _, _, _]) T.d) ∧ w1.heap.size ≤ w'.heap.size ∧ ∀ j, j < k → Abs.eprop m j = 0) hZq hZq ⟨st3, hn3, hc4, by have := he3.size; omega, fun j h => absurd h (Nat.not_lt_zero _)⟩ ?_
 clear hc1 st3 hn3 hc4
 rintro k _ S w4 hk ⟨st4, hn4, hc4, z4, hz⟩
 have hc1 := st4.box
 have e4 := st4.ext
 refine Sg ?_
 apply K.cond <;> intro g1
 ·have hk' : k < m.props.length := by omega
  obtain ⟨a, rfl⟩ := h4.addr (by omega)
  obtain ⟨hsn, ve, hp, hpe⟩ := h4.at k hk'
  obtain ⟨oe, ce, rfl, le⟩ := hpe.form
  have hget := Abs.eprop_get hk'
  replace hp := hp.ext e4
  have z5 := st4.mod.size
  refine Sg ?_
  intro wN b6 hb6 heN hcN
  refine Su ?_
  intro w5 hw5 hc6
  have he5 := hw5.ext heN hb6
  have st5 := st4.then he5
  replace hn4 := hn4.ext he5 z4
  replace hc4 := he5.obj hc4
  replace hc1 := st5.box
  have e5 := st5.ext
  clear hcN heN hw5 st4
  have hd : Abs.eprop m k ≠ 0 → Abs.propsF m = ⟨Abs.eprop m k, 5, k, 0⟩ := Abs.props_i hk' hz
  refine Sg ?_
  apply K.cond <;> intro g2
  ·rw [if_pos (by omega)] at hget
   rw [hget] at hd
   replace hd := hd (by decide)
   refine Sg ?_
   refine K.thr (throw_r 11 5 k 0 w5) ?_ ?_
   ·rintro _ _ ⟨h00, _⟩
    exact absurd h00 (by decide)
   ·rintro c _ ⟨_, rfl, rfl⟩
    refine Sg ?_
    rw [hd]
    exact ⟨(show (11 : Int) ≠ 0 by decide), Tr, e5, st5.mod⟩
  rw [if_neg (by omega)] at hget
  refine Sg ?_
  refine K.call (name_r m.props[k].name w5 (ho.ext e5) hsn) ?_
  rintro _ w6 ⟨rfl, he6⟩
  have st6 := st5.then he6
  replace hn4 := hn4.ext he6 (by have := he5.size; omega)
  replace hc4 := he6.obj hc4
  replace hc6 := he6.obj hc6
  replace hc1 := st6.box
  have e6 := st6.ext
  clear st5
  refine Sg ?_
  refine K.condb (fun g3 => ?_) (fun g3 => ?_)
  rotate_left
  ·rw [if_pos g3] at hget
   rw [hget] at hd
   replace hd := hd (by decide)
   refine Sg ?_
   refine K.thr (throw_r 6 5 k 0 w6) ?_ ?_
   ·rintro _ _ ⟨h00, _⟩
    exact absurd h00 (by decide)
   ·rintro c _ ⟨_, rfl, rfl⟩
    refine Sg ?_
    rw [hd]
    exact ⟨(show (6 : Int) ≠ 0 by decide), Tr, e6, st6.mod⟩
  rw [if_neg (by rw [g3]; decide)] at hget
  refine Sg ?_
  refine K.thr (take_r bt (Abs.nAll m k) m.props[k].name 5 k w6 st6.set) ?_ ?_
  rotate_left
  ·rintro c _ ⟨hn, rfl, rfl⟩
   rw [if_pos hn] at hget
   rw [hget] at hd
   replace hd := hd (by decide)
   refine Sg ?_
   rw [hd]
   exact ⟨(show (7 : Int) ≠ 0 by decide), Tr, st6.ext, st6.mod⟩
  rintro _ w7 ⟨hn, hw7, hs7⟩
  rw [if_neg hn] at hget
  have st7 : TakSt w0 w bt b1 _ w7 (Abs.nAll m (k + 1)) := (st6.wr hw7 hs7).re (by simp only [Abs.nAll, Abs.nR]; rw [Abs.take_snocN (fun x : Abs.Prp => x.name) _ hk', List.append_assoc])
  replace hn4 := hn4.wr hw7 (by omega)
  replace hc4 := hw7.obj hc4 (by omega)
  replace hc6 := hw7.obj hc6 (by omega)
  replace hc1 := st7.box
  have e7 := st7.ext
  clear st6 e6
  refine Sg ?_
  refine K.call (kind_r _ m.props[k].expr _ _ w7 (hpe.ext e7) hn4.here) ?_
  rintro _ w8 ⟨rfl, he8⟩
  have st8 := st7.then he8
  have z7 := hw7.size
  replace hn4 := hn4.ext he8 (by have := he5.size; have := he6.size; omega)
  replace hc4 := he8.obj hc4
  replace hc1 := st8.box
  have e8 := st8.ext
  clear st7
  refine Sg ?_
  refine K.thr (throw_r (Abs.kind m.props[k].expr (Abs.mscope m)).2 5 k 0 w8) ?_ ?_
  rotate_left
  ·rintro c _ ⟨h00, rfl, rfl⟩
   rw [if_pos h00] at hget
   rw [hget] at hd
   replace hd := hd h00
   refine Sg ?_
   rw [hd]
   exact ⟨h00, Tr, e8, st8.mod⟩
  rintro _ w9 ⟨h00, rfl⟩
  rw [if_neg (by simpa using h00)] at hget
  refine Sg ?_
  apply K.cond <;> intro g4
  rotate_left
  ·rw [if_pos g4] at hget
   rw [hget] at hd
   replace hd := hd (by decide)
   refine Sg ?_
   refine K.thr (throw_r 9 5 k 0 w9) ?_ ?_
   ·rintro _ _ ⟨h01, _⟩
    exact absurd h01 (by decide)
   ·rintro c _ ⟨_, rfl, rfl⟩
    refine Sg ?_
    rw [hd]
    exact ⟨(show (9 : Int) ≠ 0 by decide), Tr, e8, st8.mod⟩
  rw [if_neg (by simpa using g4)] at hget
  refine Sg ?_
  refine ⟨hk', Tr, (), trivial, st8, hn4, hc4, by have := he5.size; have := he6.size; have := he8.size; omega, fun i hi => ?_⟩
  by_cases hik : i = k
  ·subst hik
   rw [hget]
  ·exact hz i (by omega)
 refine Sg ?_
 exact ⟨by rw [Abs.props_0 fun j hj => hz j (by omega)]; rfl, e4, st4.mod⟩
end Go.Proofs.R
end
section
namespace Lite
open Go Go.RowKit
structure DFn where
 n : Nat
 res : List LRes
 pre : LC
 ss : List Step
 fn : Operand
 rest : LC
def deferOf (o : Oper) : Option Operand :=
 match o.guard, o.dst, o.op with
 | none, none, .defer ⟨.value x, args, _⟩ => match args.toList with | [] => some x | _ => none
 | _, _, _ => none
def compD (P : Program) (fn : Func) : Code → Option DFn
 | .seq a (.seq (.region _ ops false) c) =>
  match ops.toList.getLast?.bind deferOf, comp P fn.ntmps a, compSteps P fn.ntmps ops ops.toList.dropLast, comp P fn.ntmps c, compResL P fn.results.toList with
  | some x, some la, some ss, some lc, some r => some ⟨fn.ntmps, r, la, ss, x, lc⟩
  | _, _, _, _, _ => none
 | _ => none
def compFD (P : Program) (f : FuncId) : Option DFn :=
 match P.funcs[f]? with
 | some fn => match fn.body with | some c => compD P fn c | none => none
 | none => none
def LeaveD (P : Program) (f : FuncId) (cap : Array Value) (u : FrameMode) (w : World) (R : World → Prop) : Prop :=
 CallsD P f cap u w fun e u' w' => (∃ v, e = .returned v) ∧ settle u' = .returning ∧ R w'
def endQD (P : Program) (res : List LRes) (f : FuncId) (cap : Array Value) (R : Value → World → Prop) : LX → Fr → World → Prop
 | .normal, S, w => LeaveD P f cap .returning w fun w' => resVC res S w' fun vs => R (tup vs) w'
 | .ret, S, w => LeaveD P f cap .returning w fun w' => resVC res S w' fun vs => R (tup vs) w'
 | .exit _, _, _ => False
 | .pan c, S, w => LeaveD P f cap (.panicking c) w fun w' => resVC res S w' fun vs => R (tup vs) w'
def vcD (P : Program) (L : DFn) (R : Value → World → Prop) (S : Fr) (w : World) : Prop :=
 vc P L.pre (thenQ (fun S w => steps P L.ss S w fun S w => ∃ f cap, ev S L.fn = .func (.func f) #[] cap ∧ okF P f = true ∧ vc P L.rest (endQD P L.res f cap R) S w) (fun _ _ _ => False)) S w
theorem deferOf_spec {o : Oper} {x : Operand} (h : deferOf o = some x) : ∃ ty pos after tys, o = ⟨none, .defer ⟨.value x, #[], tys⟩, ty, pos, after, none⟩ := by
 obtain ⟨dst, op, ty, pos, after, guard⟩ := o
 unfold deferOf at h
 split at h
 ·rename_i h1 h2 h3
  simp only at h1 h2 h3
  split at h
  ·rename_i h4
   injection h with h
   have h5 := Array.toList_eq_nil_iff.1 h4
   subst h1 h2 h3 h h5
   exact ⟨_, _, _, _, rfl⟩
  ·cases h
 ·cases h
theorem enterD {P : Program} {f : FuncId} {L : DFn} (hm : P.follows .mixedOrders = true) (hc : compFD P f = some L) {args : List Value} {w : World} {R : Value → World → Prop} (ha : args.length ≤ L.n)
  (h : vcD P L R (fr0 args 0) w) : Ret P f args.toArray w R := by
 unfold compFD at hc
 split at hc
 ·rename_i fn hfn
  split at hc
  ·rename_i c hb
   unfold compD at hc
   split at hc
   ·rename_i a id ops c'
    split at hc
    ·rename_i x la ss lc r h1 h2 h3 h4 h5
     injection hc with hc; subst hc
     obtain ⟨o, ho, hx⟩ := Option.bind_eq_some_iff.1 h1
     obtain ⟨ty, pos, after, tys, rfl⟩ := deferOf_spec hx
     have hlist : ops.toList = ops.toList.dropLast ++ [⟨none, .defer ⟨.value x, #[], tys⟩, ty, pos, after, none⟩] := by
      have hne : ops.toList ≠ [] := by intro e; rw [e] at ho; cases ho
      rw [List.getLast?_eq_some_getLast hne] at ho
      injection ho with ho
      rw [← ho, List.dropLast_concat_getLast hne]
     have fin : ∀ (g : FuncId) (cap : Array Value) (S : Fr) (a' : Act) (w' : World) (u : FrameMode), u ≠ .run → okF P g = true → Fits [{ target := .fn (.func g) cap, args := #[] }] a' S fn.ntmps → LeaveD P g cap u w' (fun w' => resVC r S w' fun vs => R (tup vs) w') →
       Leaves P fn a'.tmps (fun e w' => ∃ v, e = .returned v ∧ R v w') a'.defers u w' := by
      intro g cap S a' w' u hu hok hf hl
      rw [hf.1]
      refine leaves_cons hu (f := g) (args := cap) (by simp [invoke, run_callFunc hok]) (CallsD.mono hl ?_)
      rintro e u' w'' ⟨⟨v, rfl⟩, hs, hr⟩
      simp only [hs]
      obtain ⟨vs, h6, h7⟩ := sound_res hf _ _ _ h5 hr
      exact ⟨_, results_run h6, _, rfl, h7⟩
     refine calls_of_wp_defers hfn hb ((wpIn_wide (n := 0)).1 ?_)
     refine wpIn_seq (wpIn_mono (sound (ds := []) (r := none) (m := 0) hm a la h2 _ _ (fr0 args 0) w (fits0 ha) h) fun e a' w' hq => ?_)
     cases e with
     | normal =>
      obtain ⟨S, hf, hq⟩ := hq
      refine wpIn_seq (wpIn_region_list ?_)
      rw [hlist]
      refine sound_stepsT (r := none) (tl := [_]) ?_ ?_ _ ss a' S w' h3 hf hq
      ·rintro a2 S2 w2 hf2 ⟨g, cap, he, hok, hv⟩
       have hw : Region.wanted (⟨none, .defer ⟨.value x, #[], tys⟩, ty, pos, after, none⟩ : Oper) (yielded ops a2.tmps) = true := rfl
       simp only [wpListIn, hw, if_true]
       have hrun : ∀ ρ : Operand → Value, ρ x = .func (.func g) #[] cap → ((⟨none, .defer ⟨.value x, #[], tys⟩, ty, pos, after, none⟩ : Oper).semAt none ρ).run P w2 = .ok (.defer { target := .fn (.func g) cap, args := #[] }) w2 := by
        intro ρ hρ
        simp [Oper.semAt, execOp, resolve, Deferred.ofValue, hρ, go_sem]
       refine ⟨fun _ _ => trivial, ?_⟩
       rw [show (FR none).round = none from rfl, hrun a2.eval (by rw [hf2.eval]; exact he)]
       have hf3 : Fits [{ target := .fn (.func g) cap, args := #[] }] ({ a2 with defers := { target := .fn (.func g) cap, args := #[] } :: a2.defers } : Act) S2 fn.ntmps := ⟨by rw [hf2.1], hf2.2⟩
       refine wpIn_mono (sound (ds := [{ target := .fn (.func g) cap, args := #[] }]) (r := none) (m := 0) hm c' lc h4 _ _ S2 w2 hf3 hv) fun e a4 w4 hq => ?_
       cases e with
       | normal => obtain ⟨S4, hf4, hq⟩ := hq; exact fin g cap S4 a4 w4 .returning (by simp) hok hf4 hq
       | ret => obtain ⟨S4, hf4, hq⟩ := hq; exact fin g cap S4 a4 w4 .returning (by simp) hok hf4 hq
       | exit i => obtain ⟨S4, hf4, hq⟩ := hq; exact hq.elim
       | panic ch => obtain ⟨S4, hf4, hq⟩ := hq; exact fin g cap S4 a4 w4 (.panicking ch) (by simp) hok hf4 hq
       | _ => exact hq.elim
      ·rintro ⟨_, _, hx⟩
       obtain ⟨_, h1, _⟩ := hx
       cases h1
     | ret => obtain ⟨S, hf, hq⟩ := hq; exact hq.elim
     | exit i => obtain ⟨S, hf, hq⟩ := hq; exact hq.elim
     | panic ch => obtain ⟨S, hf, hq⟩ := hq; exact hq.elim
     | _ => exact hq.elim
    ·cases hc
   ·cases hc
  ·cases hc
 ·cases hc
structure PFn where
 n : Nat
 res : List LRes
 d : Nat
 e : Nat
 rest : LC
def recOf (o : Oper) : Option Nat :=
 match o.guard, o.op, o.dst with
 | none, .call ⟨.builtin .recover, args, _⟩, some d => match args.toList with | [] => some d | _ => none
 | _, _, _ => none
def asgOf (o : Oper) : Option (Nat × Nat) :=
 match o.guard, o.op, o.dst with
 | none, .assign (.tmp d), some e => some (d, e)
 | _, _, _ => none
def compP' (P : Program) (fn : Func) : Code → Option PFn
 | .seq (.region _ ops false) c =>
  match ops.toList with
  | [o1, o2] => match recOf o1, asgOf o2, comp P fn.ntmps c, compResL P fn.results.toList with
   | some d, some (d', e), some lc, some r => if d = d' ∧ d < fn.ntmps ∧ e < fn.ntmps then some ⟨fn.ntmps, r, d, e, lc⟩ else none
   | _, _, _, _ => none
  | _ => none
 | _ => none
def compFP (P : Program) (f : FuncId) : Option PFn :=
 match P.funcs[f]? with
 | some fn => match fn.body with | some c => compP' P fn c | none => none
 | none => none
def recV : FrameMode → Value × FrameMode
 | .panicking ({ v, recovered := false, goexit := false } :: older) => (v, .panicking ({ v, recovered := true } :: older))
 | u => (.nilIface, u)
theorem recoverD_eq (c : Frame) (cs : List Frame) : (match recoverD (c :: cs) with | some (v, cs') => (v, cs') | none => (.nilIface, c :: cs)) = ((recV c.mode).1, { c with mode := (recV c.mode).2 } :: cs) := by
 obtain ⟨fn, tmps, todo, defers, mode, kind, ro⟩ := c
 unfold recoverD recV
 cases mode with
 | run => rfl
 | returning => rfl
 | panicking l =>
  cases l with
  | nil => rfl
  | cons p r =>
   obtain ⟨v, rc, ge⟩ := p
   cases rc <;> cases ge <;> rfl
theorem recOf_spec {o : Oper} {d : Nat} (h : recOf o = some d) : ∃ tys ty pos after, o = ⟨some d, .call ⟨.builtin .recover, #[], tys⟩, ty, pos, after, none⟩ := by
 obtain ⟨dst, op, ty, pos, after, guard⟩ := o
 unfold recOf at h
 split at h
 ·rename_i h1 h2 h3
  simp only at h1 h2 h3
  split at h
  ·rename_i h4
   injection h with h
   have h5 := Array.toList_eq_nil_iff.1 h4
   subst h1 h2 h3 h h5
   exact ⟨_, _, _, _, rfl⟩
  ·cases h
 ·cases h
theorem asgOf_spec {o : Oper} {d e : Nat} (h : asgOf o = some (d, e)) : ∃ ty pos after, o = ⟨some e, .assign (.tmp d), ty, pos, after, none⟩ := by
 obtain ⟨dst, op, ty, pos, after, guard⟩ := o
 unfold asgOf at h
 split at h
 ·rename_i h1 h2 h3
  simp only at h1 h2 h3
  injection h with h
  injection h with h5 h6
  subst h1 h2 h3 h5 h6
  exact ⟨_, _, _, rfl⟩
 ·cases h
theorem enterP {P : Program} {f : FuncId} {L : PFn} (hm : P.follows .mixedOrders = true) (hc : compFP P f = some L) {args : List Value} {u : FrameMode} {w : World} {R : Value → World → Prop} (ha : args.length ≤ L.n)
  (h : vc P L.rest (endQ L.res R) (upd (upd (fr0 args 0) L.d (recV u).1) L.e (recV u).1) w) : CallsD P f args.toArray u w fun e u' w' => u' = (recV u).2 ∧ ∃ v, e = .returned v ∧ R v w' := by
 unfold compFP at hc
 split at hc
 ·rename_i fn hfn
  split at hc
  ·rename_i c hb
   unfold compP' at hc
   split at hc
   ·rename_i id ops c'
    split at hc
    ·rename_i o1 o2 hops
     split at hc
     ·rename_i d d' e lc r h1 h2 h3 h4
      split at hc
      ·rename_i hde
       obtain ⟨hdd, hd, he⟩ := hde
       subst hdd
       injection hc with hc; subst hc
       obtain ⟨tys, ty1, pos1, after1, rfl⟩ := recOf_spec h1
       obtain ⟨ty2, pos2, after2, rfl⟩ := asgOf_spec h2
       refine callsD_of_wpS hfn hb fun c₀ cs hu => ?_
       refine wpS_seq (wpS_region ?_)
       have hsz : ops.size = 2 := by rw [← Array.length_toList, hops]; rfl
       have hg0 : ops[0]? = ops.toList[0]? := by simp
       have hg1 : ops[1]? = ops.toList[1]? := by simp
       rw [hops] at hg0 hg1
       simp only [List.getElem?_cons_zero, List.getElem?_cons_succ] at hg0 hg1
       have hr : List.range ops.size = [0, 1] := by rw [hsz]; rfl
       rw [hr]
       have hrec : ∀ (ρ : Operand → Value), (execOp ρ ⟨some d, .call ⟨.builtin .recover, #[], tys⟩, ty1, pos1, after1, none⟩).run P w = .ok .recover w := by
        intro ρ; simp [execOp, resolve, invoke, builtin, go_sem]
       have hw0 : ∀ (dst : Option Nat) (op : Op) (ty : TypeId) (pos : String) (after : Array Edge) (y : Nat → Option Bool), Region.wanted (⟨dst, op, ty, pos, after, none⟩ : Oper) y = true := fun _ _ _ _ _ _ => rfl
       have hf0 := fits0 (n := fn.ntmps) ha
       have key : ∀ (v : Value) (cs' : List Frame), vc P lc (endQ r R) (upd (upd (fr0 args 0) d v) e v) w → (cs' = { c₀ with mode := (recV u).2 } :: cs) →
         wpOpsS P ops (Exit.thenS (c'.wpS P (bodyPostS P fn c₀ cs fun e u' w' => u' = (recV u).2 ∧ ∃ v, e = .returned v ∧ R v w')) (bodyPostS P fn c₀ cs fun e u' w' => u' = (recV u).2 ∧ ∃ v, e = .returned v ∧ R v w')) [1]
          (({ tmps := args.toArray ++ Array.replicate (fn.ntmps - args.toArray.size) undef, defers := [] } : Act).put (some d) v) cs' w := by
        intro v cs' hv hcs
        have hf1 := hf0.put (d := some d) (by simpa [dstOk] using hd) v
        have hx : (execOp (({ tmps := args.toArray ++ Array.replicate (fn.ntmps - args.toArray.size) undef, defers := [] } : Act).put (some d) v).eval ⟨some e, .assign (.tmp d), ty2, pos2, after2, none⟩).run P w = .ok (.value v) w := by
         rw [hf1.eval]
         simp [execOp, ev, Lite.put, upd]
        simp only [wpOpsS, hg1, hw0, if_true, hx]
        rw [Oper.upon_value]
        have hf2 := hf1.put (d := some e) (by simpa [dstOk] using he) v
        refine wpS_of_wp ((wpIn_wide (n := 0)).1 (wpIn_mono (sound (ds := []) (r := none) (m := 0) hm c' lc h3 _ _ _ w hf2 hv) fun x a4 w4 hq => ?_))
        cases x with
        | normal =>
         obtain ⟨S4, hf4, hq⟩ := hq
         obtain ⟨vs, h6, h7⟩ := sound_res hf4 _ _ _ h4 hq
         exact ⟨hf4.1, _, hcs, _, results_run h6, rfl, _, rfl, h7⟩
        | ret =>
         obtain ⟨S4, hf4, hq⟩ := hq
         obtain ⟨vs, h6, h7⟩ := sound_res hf4 _ _ _ h4 hq
         exact ⟨hf4.1, _, hcs, _, results_run h6, rfl, _, rfl, h7⟩
        | exit i => obtain ⟨S4, hf4, hq⟩ := hq; exact hq.elim
        | panic ch => obtain ⟨S4, hf4, hq⟩ := hq; exact hq.elim
        | _ => exact hq.elim
       have hrd := recoverD_eq c₀ cs
       rw [hu] at hrd
       unfold wpOpsS
       simp only [hg0, hw0, if_true, hrec]
       cases hrc : recoverD (c₀ :: cs) with
       | none =>
        rw [hrc] at hrd
        injection hrd with e1 e2
        exact key .nilIface (c₀ :: cs) (by rw [e1]; exact h) e2
       | some vc' =>
        obtain ⟨v, cs'⟩ := vc'
        rw [hrc] at hrd
        injection hrd with e1 e2
        exact key v cs' (by rw [e1]; exact h) e2
      ·cases hc
     ·cases hc
    ·cases hc
   ·cases hc
  ·cases hc
 ·cases hc
end Lite
namespace Lite
open Go Go.RowKit
def DeferVC (P : Program) (v : Value) (K : FuncId → Array Value → Prop) : Prop := ∃ f cap, v = .func (.func f) #[] cap ∧ okF P f = true ∧ K f cap
section
variable {P : Program} {S : Fr} {w : World} {res : List LRes} {R : Value → World → Prop}
theorem K.startD {f : FuncId} {L : DFn} (hm : P.follows .mixedOrders = true) (hc : compFD P f = some L) {args : List Value} (ha : args.length ≤ L.n)
  (h : vch P L.pre (thenQh (fun S w => stepsh P L.ss S w (fun S w => DeferVC P (ev S L.fn) fun g cap => vch P L.rest (endQD P L.res g cap R) S w ⟨⟩) ⟨⟩) (fun _ _ _ => False) ⟨⟩) (fr0 args 0) w ⟨⟩) : Ret P f args.toArray w R := by
 refine enterD hm hc ha ?_
 unfold vch thenQh stepsh DeferVC at h
 exact h
theorem K.defer {g : FuncId} {cap : Array Value} {K : FuncId → Array Value → Prop} (hok : okF P g = true) (h : K g cap) : DeferVC P (.func (.func g) #[] cap) K := ⟨g, cap, rfl, hok, h⟩
theorem K.dret {g : FuncId} {cap : Array Value} (h : LeaveD P g cap .returning w fun w' => resVCh res S w' (fun vs => R (tup vs) w') ⟨⟩) : endQD P res g cap R .ret S w := by
 unfold resVCh at h; exact h
theorem K.dpan {g : FuncId} {cap : Array Value} {c : List PanicEntry} (h : LeaveD P g cap (.panicking c) w fun w' => resVCh res S w' (fun vs => R (tup vs) w') ⟨⟩) : endQD P res g cap R (.pan c) S w := by
 unfold resVCh at h; exact h
theorem LeaveD.of {g : FuncId} {cap : Array Value} {u u2 : FrameMode} {R1 R2 : World → Prop} (h : CallsD P g cap u w fun e u' w' => u' = u2 ∧ ∃ v, e = .returned v ∧ R1 w') (hs : settle u2 = .returning) (hk : ∀ w', R1 w' → R2 w') : LeaveD P g cap u w R2 :=
 CallsD.mono h fun e u' w' ⟨h1, v, h2, h3⟩ => ⟨⟨v, h2⟩, by rw [h1]; exact hs, hk _ h3⟩
theorem K.startP {f : FuncId} {L : PFn} (hm : P.follows .mixedOrders = true) (hc : compFP P f = some L) {args : List Value} {u : FrameMode} (ha : args.length ≤ L.n)
  (h : vch P L.rest (endQh L.res R ⟨⟩) (upd (upd (fr0 args 0) L.d (recV u).1) L.e (recV u).1) w ⟨⟩) : CallsD P f args.toArray u w fun e u' w' => u' = (recV u).2 ∧ ∃ v, e = .returned v ∧ R v w' := by
 refine enterP hm hc ha ?_
 unfold vch endQh at h
 exact h
theorem run_eqi (d : Nat) {t : TypeId} {ms : Array (String × TypeId)} (h : P.underlying t = some (.interface ms)) (w : World) : (Op.equalIn (d + 1) t .nilIface .nilIface).run P w = .ok true w ∧ ∀ T v, (Op.equalIn (d + 1) t (.iface T v) .nilIface).run P w = .ok false w := by
 constructor
 ·simp [Op.equalIn, run_underlying h]
 ·intro T v
  simp [Op.equalIn, run_underlying h]
theorem ifOf {t : TypeId} (h : (P.underlying t).map isIfD = some true) : ∃ ms, P.underlying t = some (.interface ms) := by
 obtain ⟨d, hd, hi⟩ := Option.map_eq_some_iff.1 h
 cases d <;> first | exact ⟨_, hd⟩ | (simp [isIfD] at hi; done)
theorem K.neNil0 {t' : TypeId} {x : Operand} {v : Value} {K3 : Value → Prop} {t} (h : (P.underlying t').map isIfD = some true) (hk : K3 (.bool false)) : BinVCh P .neq t' x (.const v) .nilIface .nilIface K3 t :=
 K.bin (v := .bool false) (fun w => by
  obtain ⟨ms, h⟩ := ifOf h
  have h1 := (run_eqi 9999 h w).1
  have h2 : (Op.equalIn Op.maxDepth t' .nilIface .nilIface).run P w = .ok true w := h1
  cases x <;> simp [eqGuard, binOp, Op.equal, go_sem, h2, Result.andThen]) hk
theorem K.neNil1 {t' T : TypeId} {x y : Operand} {v : Value} {K3 : Value → Prop} {t} (h : (P.underlying t').map isIfD = some true) (hk : K3 (.bool true)) : BinVCh P .neq t' x y (.iface T v) .nilIface K3 t :=
 K.bin (v := .bool true) (fun w => by
  obtain ⟨ms, h⟩ := ifOf h
  have h2 : (Op.equalIn Op.maxDepth t' (.iface T v) .nilIface).run P w = .ok false w := (run_eqi 9999 h w).2 T v
  simp [eqGuard, binOp, Op.equal, go_sem, h2, Result.andThen]) hk
theorem K.asrt {x : Operand} {xt T ty : TypeId} {v : Value} {KK : Value → World → Prop} {t} (hx : ev S x = .iface T v) (h : (P.underlying T).map isIfD = some false) (hk : KK (.tuple #[v, .bool true]) w) : RawVCh P (.typeAssert x xt T true) ty S w KK t := by
 refine K.raw (v := .tuple #[v, .bool true]) (w' := w) ?_ hk
 obtain ⟨d, hd, hi⟩ := Option.map_eq_some_iff.1 h
 have h1 : (Instr.typeAssert (.iface T v) xt T true).run P w = .ok (.tuple #[v, .bool true]) w := by
  cases d <;> first | (simp [isIfD] at hi; done) | (simp [Instr.typeAssert, run_underlying hd])
 simp [execOp, hx, h1, Result.andThen]
end
end Lite
end
section
namespace Go.Proofs.R
open Go Lite Go.Proofs
abbrev F.r : FuncId := 118
def DD.ah : DFn := ⟨16, [.cellA 4 2],
 (.reg [ye 1 (.box T.b (yt 0)), ye 2 (.new T.s (.agg #[yo, yo, yo, yo]))]),
 [yp 4 (.mkF F.r [] [(yt 2)])], (yt 4),
 (yR [ye 5 .mkM, ym 3 5]
 (.seq (.thr [yL 6 5 1, ym 7 3] (some 8) F.cw [(yt 6), (yt 7)])
 (.seq (.thr [yL 9 5 1, ym 10 3] (some 11) F.cx [(yt 9), (yt 10)])
 (.seq (.thr [yL 12 5 1, ym 13 3] (some 14) F.cy [(yt 12), (yt 13)])
 (yR [yp 15 (.bld [yo, yo, yo, yo] [(0, 1), (1, 1), (2, 1), (3, 1)] []), yS 4 2 15]
 .ret)))))⟩
theorem ED.ah : compFD Tryz.prog F.ah = some DD.ah := by kernel_rfl
def DP.r : PFn := ⟨17, [], 4, 1,
 (yR [ym 5 1, yp 6 (.bin .neq T.as (yt 5) (.const .nilIface))]
 (yC 6 (yR [ym 8 1, ye 9 (.raw (.typeAssert (yt 8) T.as T.aj true) T.ay), ym 7 9, yE 10 7 0, yE 11 7 1, ye 2 (.new T.aj (.agg #[yo, yo, yo, yo])), yS 4 2 10, ym 3 11]
 (.seq (yR [ym 12 3, yp 13 (.un .not (yt 12))]
 (yC 13 (.pnc [ym 14 1] (yt 14))
 .skip))
 (.reg [ya 15 0 2, yL 16 4 15, yS 4 0 16])))
 .skip))⟩
theorem EP.r : compFP Tryz.prog F.r = some DP.r := by kernel_rfl
end Go.Proofs.R
end