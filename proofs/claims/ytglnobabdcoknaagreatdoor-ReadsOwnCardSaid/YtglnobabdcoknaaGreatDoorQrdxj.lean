/- Texts joined: ExprF CmdA CmdB CmdQ CmdC ProcI ProcJ ProcK RefP ExprT ExprG ExprH ExprI ExprJ. -/
import Derived.Test.YtglnobabdcoknaaGreatDoorQrdxc
import Derived.Test.YtglnobabdcoknaaGreatDoorQrdxd
import Derived.Test.YtglnobabdcoknaaGreatDoorQrdxg
import Derived.Test.YtglnobabdcoknaaGreatDoorQrdxh
import Derived.Test.YtglnobabdcoknaaGreatDoorQrdxi
set_option linter.all false
set_option maxRecDepth 8000
set_option maxHeartbeats 4000000
section
set_option linter.unusedSimpArgs false
namespace Go.Proofs.R
open Go Go.RowKit Lite
theorem run_r (f : Abs.Node → List Int → Int × Int) (two : Abs.OpD → List Int → Int × Int) (leaf : Abs.Node → List Int → Int × Int) (hf : stepRes f two leaf) (good : Int → Prop)
  (b : Nat) (w0 w : World) (hw0 : Ext w0 w) (hb0 : w0.heap.size ≤ b) (ve vl v2 : Value) (e : List Abs.Node) (he : Abs.Nodes w0 ve e) (hb : w.heap[b]? = some (.cells #[.slice none 0 0, .map none] T.aa))
  (hgood : ∀ x st, x.ok → (∀ z ∈ st, good z) → 0 ≤ Abs.nparts x.op → Abs.nparts x.op ≤ st.length → (f x st).2 = 0 → good (f x st).1)
  (hleaf : ∀ x st base m w', x.ok → Mod (fun k => k = b) w w' → MachIs base b w' m st → (∀ z ∈ st, good z) → 0 ≤ Abs.nparts x.op → Abs.nparts x.op ≤ st.length → Abs.opOf x.op = none → ∀ w1 KK t, Ext w' w1 →
   (∀ w'', Ext w1 w'' → KK (.tuple #[.int .i64 (leaf x st).1, .int .i64 (leaf x st).2]) w'') → CallYh Tryz.prog vl [.agg x.enc.toArray] w1 KK t)
  (htwo : ∀ o ov lv l w' KK t, Mod (fun k => k = b) w w' → OpV w' o ov → (∃ x, Abs.opOf x = some o) → o.parts = l.length → Ints w' lv l →
   (∀ w'', Ext w' w'' → KK (.tuple #[.int .i64 (two o l).1, .int .i64 (two o l).2]) w'') → CallVh Tryz.prog v2 [ov, lv] w' KK t) :
  Ret Tryz.prog F.dt #[.pointer (some ⟨b, 0, none⟩), ve, vl, v2] w fun v w' =>
   v = .tuple #[.int .i64 (Abs.runE f e).1, .int .i64 (Abs.runE f e).2] ∧ Mod (fun k => k = b) w w' := by
 obtain ⟨oa, cap, rfl, hlen⟩ := he.form
 refine Ks E.dt ?_; dsimp only [C.dt]; refine Yy ?_
 refine St ?_
 apply K.cond <;> intro g1
 ·refine St ?_
  rw [Abs.runE, if_pos (by omega)]
  exact ⟨rfl, Mod.refl _ _⟩
 refine St ?_
 apply K.cond <;> intro g2
 ·refine St ?_
  rw [Abs.runE, if_neg (by omega), if_pos (by omega)]
  exact ⟨rfl, Mod.refl _ _⟩
 refine St ?_
 refine K.call (ops_r w) ?_
 rintro m w1 ⟨hops, he1⟩
 refine St ?_
 refine K.st1 (he1.obj hb) (by decide) (by obtain ⟨r, _, _, _, e, _⟩ := hops; rw [e]; rfl) fun w2 hw2 hc2 => ?_
 have hc2' : w2.heap[b]? = some (.cells #[.slice none 0 0, m] T.aa) := hc2
 clear hc2
 have hops2 : OpsIs w2 m := hops.mod (A := fun k => k = b) (hw2.mod rfl) fun k o h1 h2 hk => by
  subst hk
  rw [he1.obj hb] at h1
  injection h1 with h1
  rcases h2 with ⟨es, c, h2⟩ | ⟨cs, h2⟩
  ·rw [h2] at h1; cases h1
  ·rw [h2] at h1
   injection h1 with _ h1
   cases h1
 have hm02 : Mod (fun k => k = b) w w2 := he1.mod.trans (hw2.mod rfl)
 have hlt : b < w2.heap.size := lH hc2'
 refine St ?_
 refine K.for1 27 e.length (fun k S w' => Mod (fun k => k = b) w2 w' ∧ ∃ st, Abs.runL f (e.take k) [] = (0, st) ∧ MachIs w2.heap.size b w' m st ∧ (0 < k → 1 ≤ st.length) ∧ st.length ≤ 12 ∧ ∀ z ∈ st, good z)
  (by simp -dsimp only [LL,B9,Nat.reduceAdd,Nat.reduceEqDiff,reduceIte,reduceCtorEq,fE]) ⟨Mod.refl _ _, [], by simp [Abs.runL], ⟨⟨_, hc2', OwR.nil _ _ _ _ _⟩, hlt, Nat.le_refl _⟩, by simp, by simp, by simp⟩ ?_
 rintro k S w3 hS hk h27 ⟨hmod, st, hrun, hmach, h1st, h12, hgd⟩
 have h0 := hS 0 rfl; have h1 := hS 1 rfl; have h2 := hS 2 rfl; have h3 := hS 3 rfl; have h25 := hS 25 rfl; have h26 := hS 26 rfl; simp only [uA, Nat.reduceAdd, Nat.reduceEqDiff, reduceIte, fr0_cons, fr0_nil] at h0 h1 h2 h3 h25 h26; clear hS
 have hm03 : Mod (fun k => k = b) w w3 := hm02.trans hmod
 refine Sw (And.intro h0 (And.intro h1 (And.intro h2 (And.intro h3 (And.intro h25 (And.intro h26 h27)))))) ?_
 apply K.cond <;> intro g3
 ·have hk' : k < e.length := by omega
  have h03 : Ext w0 w3 := hm03.ext hw0 fun q hq e => by omega
  obtain ⟨a, rfl⟩ := he.addr (by omega)
  have hxk := (he.at k hk').ok
  have hrs := fun h0 => Abs.runE_err (f := f) (e := e) (by omega) hk' hrun h0
  have hrn := Abs.runL_step hk' hrun
  have hops3 : OpsIs w3 m := hops2.mod (A := fun k => k = b) hmod fun k o h1 h2 hk => by
   subst hk
   rw [hc2'] at h1
   injection h1 with h1
   rcases h2 with ⟨es, c, h2⟩ | ⟨cs, h2⟩
   ·rw [h2] at h1; cases h1
   ·rw [h2] at h1
    injection h1 with _ h1
    cases h1
  refine Sw (And.intro h0 (And.intro h1 (And.intro h2 (And.intro h3 (And.intro h25 (And.intro h26 h27)))))) ?_
  generalize hx : e[k] = x at *
  refine K.newst (vs := x.enc) (fun _ => by simp -dsimp only [LL,B9,Nat.reduceAdd,Nat.reduceEqDiff,reduceIte,reduceCtorEq,fE]) rfl rfl (by simp [Abs.Node.enc, Value.oneCell']) fun w4 b4 hb4 he4 hc4 => ?_
  refine Sw (And.intro h0 (And.intro h1 (And.intro h2 (And.intro h3 (And.intro h25 (And.intro h26 h27)))))) ?_
  refine K.ldAb (c := x.enc) hc4 (Ext.refl _) rfl ?_
  refine Sw (And.intro h0 (And.intro h1 (And.intro h2 (And.intro h3 (And.intro h25 (And.intro h26 h27)))))) ?_
  have hm04 : Mod (fun k => k = b) w w4 := hm03.trans he4.mod
  refine K.call (step_r f two leaf hf x w2.heap.size b w4 m vl v2 st (hmach.ext he4) (hops3.ext he4) (by omega)
   (fun q1 q2 q3 w' KK t hw' hk => hleaf x st _ m w4 hxk hm04 (hmach.ext he4) hgd q1 q2 q3 w' KK t hw' hk)
   (fun o ov lv w' KK t hw' q1 q2 q3 q4 hk => htwo o ov lv _ w' KK t (hm04.trans hw'.mod) q2 ⟨_, q1⟩ (by have := nparts_op q1; simp [List.length_drop]; omega) q4 hk)) ?_
  rintro _ w5 ⟨rfl, hm5, hst5⟩
  have hm05 : Mod (fun k => k = b) w w5 := hm04.then hm5 fun i hi h => by
   rcases h with h | h
   ·exact h
   ·have := hm02.size; omega
  refine Sw (And.intro h0 (And.intro h1 (And.intro h2 (And.intro h3 (And.intro h25 (And.intro h26 h27)))))) ?_
  apply K.cond <;> intro g4
  rotate_left
  ·refine Sw (And.intro h0 (And.intro h1 (And.intro h2 (And.intro h3 (And.intro h25 (And.intro h26 h27)))))) ?_
   rw [hrs g4]
   exact ⟨Tr, hm05⟩
  have hlen5 := Abs.step_len g4
  have hgood5 : ∀ z ∈ (Abs.stepG f x st).2, good z := by
   have hg := hgood x st hxk hgd
   clear hrs hrn hlen5 hst5
   unfold Abs.stepG at g4 ⊢
   by_cases q1 : Abs.nparts x.op < 0
   ·rw [if_pos q1] at g4; cases g4
   by_cases q2 : (st.length : Int) < Abs.nparts x.op
   ·rw [if_neg q1, if_pos q2] at g4; cases g4
   by_cases q3 : (f x st).2 ≠ 0
   ·rw [if_neg q1, if_neg q2, if_pos q3] at g4; exact absurd g4 q3
   by_cases q4 : (st.take (st.length - (Abs.nparts x.op).toNat) ++ [(f x st).1]).length > 12
   ·rw [if_neg q1, if_neg q2, if_neg q3, if_pos q4] at g4; cases g4
   rw [if_neg q1, if_neg q2, if_neg q3, if_neg q4]
   intro z hz
   rcases List.mem_append.1 hz with hz | hz
   ·exact hgd z (List.mem_of_mem_take hz)
   ·simp at hz; subst hz; exact hg (by omega) (by omega) (by simpa using q3)
  refine Sw (And.intro h0 (And.intro h1 (And.intro h2 (And.intro h3 (And.intro h25 (And.intro h26 h27)))))) ?_
  refine ⟨hk', Tr, ?_, (Abs.stepG f x st).2, ?_, hst5 g4, fun _ => hlen5.1, hlen5.2, hgood5⟩
  ·refine (hmod.trans he4.mod).then hm5 fun i hi h => ?_
   rcases h with h | h
   ·exact h
   ·omega
  ·rw [hrn]; exact Prod.ext g4 rfl
 ·have hk' : k = e.length := by omega
  subst hk'
  rw [List.take_length] at hrun
  obtain ⟨sv, hh, hown⟩ := hmach.ex
  obtain ⟨oa', cap', rfl, hcp, hml⟩ := hown.form
  have hi : Ints w3 _ st := OwR.slr (enc := encI) (sz := 1) (fun _ => rfl) hown
  have h1 := h1st (by omega)
  obtain ⟨a, rfl⟩ := hi.addr h1
  have hE : Abs.runE f e = if st.length > 1 then (0, 5) else (st.headD 0, 0) := by
   rw [Abs.runE, if_neg (by omega), if_neg (by omega), hrun, if_neg (by simp)]
  rw [hE]
  clear hE
  refine Sw (And.intro h0 (And.intro h1 (And.intro h2 (And.intro h3 (And.intro h25 (And.intro h26 h27)))))) ?_
  apply K.cond <;> intro g4
  ·refine St ?_
   rw [if_pos (by omega)]
   exact ⟨rfl, hm03⟩
  ·refine Sw (And.intro h0 (And.intro h1 (And.intro h2 (And.intro h3 (And.intro h25 (And.intro h26 h27)))))) ?_
   refine K.ian 0 rfl (by omega) ?_
   refine St ?_
   rw [if_neg (by omega)]
   have : st.headD 0 = st[0] := by
    cases st with
    | nil => simp at h1
    | cons z st => rfl
   rw [this]
   exact ⟨Tr, hm03⟩
theorem ktwo_r (o : Abs.OpD) (u lv : Value) (l : List Int) (w : World) (hl : Ints w lv l) :
  Ret Tryz.prog F.dw #[.agg #[.int .i64 o.parts, .int .i64 o.takes, .int .i64 o.makes, u], lv] w fun v w' => v = .tuple #[.int .i64 (Abs.ktwo o l).1, .int .i64 (Abs.ktwo o l).2] ∧ Ext w w' := by
 obtain ⟨oa, cap, rfl, hlen⟩ := hl.form
 refine Ks E.dw ?_; dsimp only [C.dw]; refine Yy ?_
 refine St ?_
 refine K.new fun w1 b hb he1 hc1 => ?_
 refine St ?_
 refine K.for1 10 l.length (fun k S w' => w' = w1 ∧ (l.take k).all (fun k => (decide (o.takes = -1) || decide (k = o.takes)) && decide (k = l.headD 0)) = true) (by simp -dsimp only [LL,B9,Nat.reduceAdd,Nat.reduceEqDiff,reduceIte,reduceCtorEq,fE]) ⟨rfl, by simp⟩ ?_
 rintro k S w2 hS hk h10 ⟨rfl, hall⟩
 have h1 := hS 1 rfl; have h2 := hS 2 rfl; have h8 := hS 8 rfl; have h9 := hS 9 rfl; simp only [uA, Nat.reduceAdd, Nat.reduceEqDiff, reduceIte, fr0_cons, fr0_nil] at h1 h2 h8 h9; clear hS
 refine Sw (And.intro h1 (And.intro h2 (And.intro h8 (And.intro h9 h10)))) ?_
 apply K.cond <;> intro g1
 rotate_left
 ·rw [List.take_of_length_le (by omega)] at hall
  refine Sw (And.intro h1 (And.intro h2 (And.intro h8 (And.intro h9 h10)))) ?_
  rw [Abs.ktwo, if_pos hall]
  exact En
 have hk' : k < l.length := by omega
 obtain ⟨a, rfl⟩ := hl.addr (by omega)
 have hsp : l.take (k + 1) = l.take k ++ [l[k]] := List.take_succ_eq_append_getElem hk'
 have hall2 := List.all_append (xs := l.take (k + 1)) (ys := l.drop (k + 1)) (f := fun k => (decide (o.takes = -1) || decide (k = o.takes)) && decide (k = l.headD 0))
 rw [List.take_append_drop, hsp, List.all_append] at hall2
 have h0 : l.headD 0 = l[0] := by
  cases l with
  | nil => simp at hk'
  | cons z l => rfl
 have hbad : ((decide (o.takes = -1) || decide (l[k] = o.takes)) && decide (l[k] = l.headD 0)) = false → Abs.ktwo o l = (0, 9) := by
  intro h
  rw [Abs.ktwo, if_neg (by rw [hall2]; simp only [List.all_cons, List.all_nil, h]; simp)]
 have hgood : ((decide (o.takes = -1) || decide (l[k] = o.takes)) && decide (l[k] = l.headD 0)) = true → (l.take (k + 1)).all (fun k => (decide (o.takes = -1) || decide (k = o.takes)) && decide (k = l.headD 0)) = true := by
  intro h
  rw [hsp, List.all_append, hall]
  simp only [List.all_cons, List.all_nil, h]; rfl
 rw [h0] at hbad
 clear hall2
 have hp : 0 < l.length := by omega
 have hl1 : Ints w2 (.slice (some a) l.length cap) l := hl.ext he1
 have hg0 := hgood
 rw [h0] at hgood hall
 (repeat' first
 | (refine K.cond (fun _ => ?_) (fun _ => ?_) <;> try (exfalso; omega))
 | (refine K.condb (fun _ => ?_) (fun _ => ?_))
 | assumption
 | exact Ext.refl _
 | refine Ext.trans ?_ (by assumption)
 | refine K.wrap (by omega) ?_
 | refine K.ldb (by assumption) ?_ rfl ?_
 | refine K.ldb0 (by assumption) ?_ rfl ?_
 | refine K.ldE (by assumption) ?_ (by omega) rfl ?_
 | refine K.ldE0 (by assumption) ?_ (by omega) rfl ?_
 | refine K.ldAE (by assumption) ?_ (by omega) rfl ?_
 | refine K.iaC (by omega) ?_
 | refine K.condT (by first | assumption | omega) ?_
 | refine K.condF (by first | assumption | omega) ?_
 | refine K.condbT (by assumption) ?_
 | refine K.condbF (by assumption) ?_
 | simp -dsimp only [LL,B9,Nat.reduceAdd,Nat.reduceEqDiff,reduceIte,reduceCtorEq,fE,h1, h2, h8, h9, h10])
 all_goals first
  | (have hh := hbad (by simp; omega); rw [hh]; refine ⟨Tr, he1⟩)
  | (refine ⟨by omega, Tr, trivial, ?_⟩; rw [h0]; exact hgood (by simp; omega))
theorem kind1_r (x : Abs.Node) (cs : List Value) (s : Abs.Scope) (base b pm ps : Nat) (w : World) (m : Value) (st : List Int) (tm : TypeId) (hx : x.ok) (h : Abs.SI w cs s) (hm : MachIs base b w m st) (h3 : x.op = 3 → 0 < st.length)
  (hpm : w.heap[pm]? = some (.cells #[.pointer (some ⟨b, 0, none⟩)] tm)) (hps : w.heap[ps]? = some (.cells cs.toArray T.d)) :
  Ret Tryz.prog F.du #[.agg x.enc.toArray, .pointer (some ⟨pm, 0, none⟩), .pointer (some ⟨ps, 0, none⟩)] w fun v w' =>
   v = .tuple #[.int .i64 (Abs.kleaf x s (st.getLastD 0)).1, .int .i64 (Abs.kleaf x s (st.getLastD 0)).2] ∧ Ext w w' := by
 obtain ⟨v0, v1, v2, v3, v4, rfl, _⟩ := h.ex
 refine Ks E.du ?_; dsimp only [C.du]; refine Yy ?_
 refine St ?_
 refine K.new fun w1 b1 hb1 he1 hc1 => ?_
 have k1 : w1.heap[b1]? = some (.cells x.enc.toArray T.n) := hc1
 refine St ?_
 refine K.ldAb (c := x.enc) k1 (Ext.refl _) rfl ?_
 refine St ?_
 refine K.ldAb hps he1 rfl ?_
 refine St ?_
 refine K.call (kleaf_r x _ s base b w1 m st hx (h.ext he1) (hm.ext he1) h3) ?_
 rintro _ w2 ⟨rfl, he2⟩
 refine St ?_
 exact En
theorem fKind_step (s : Abs.Scope) : stepRes (Abs.fKind s) Abs.ktwo fun x st => Abs.kleaf x s (st.getLastD 0) := fun _ _ => rfl
theorem kind_r (ve : Value) (e : List Abs.Node) (cs : List Value) (s : Abs.Scope) (w : World) (he : Abs.Nodes w ve e) (h : Abs.SI w cs s) :
  Ret Tryz.prog F.bh #[ve, .agg cs.toArray] w fun v w' => v = .tuple #[.int .i64 (Abs.kind e s).1, .int .i64 (Abs.kind e s).2] ∧ Ext w w' := by
 obtain ⟨v0, v1, v2, v3, v4, rfl, _⟩ := h.ex
 refine Ks E.bh ?_; dsimp only [C.bh]; refine Yy ?_
 refine St ?_
 refine K.new fun w1 ps hps he1 hc1 => ?_
 refine St ?_
 refine K.bld (cs := [.slice none 0 0, .map none]) (by simp [fillC]) ?_
 refine St ?_
 refine K.new fun w2 b hb he2 hc2 => ?_
 refine St ?_
 refine K.new fun w3 pm hpm he3 hc3 => ?_
 refine St ?_
 refine K.st0 hc3 (by decide) rfl fun w4 hw4 hc4 => ?_
 have hc4' : w4.heap[pm]? = some (.cells #[.pointer (some ⟨b, 0, none⟩)] T.aw) := hc4
 have he4 : Ext w2 w4 := hw4.ext he3 hpm
 have hq2 := lH hc2
 have hq1 := lH hc1
 have hew : Ext w w4 := (he1.trans he2).trans he4
 clear hc4 hw4 he3 hc3
 have hb4 := he4.obj hc2
 have hs4 := he4.obj (he2.obj hc1)
 have z1 := he1.size
 refine St ?_
 refine K.call (run_r (Abs.fKind s) Abs.ktwo (fun x st => Abs.kleaf x s (st.getLastD 0)) (fKind_step s) (fun _ => True) b w w4 hew (by omega) ve _ _ e he hb4 (fun _ _ _ _ _ _ _ => trivial) ?_ ?_) ?_
 ·intro x st base m w' hx hm hmach _ q1 q2 q3 w1' KK t hw1 hk
  refine K.callV (first := []) (cap := [.pointer (some ⟨pm, 0, none⟩), .pointer (some ⟨ps, 0, none⟩)]) (by kernel_rfl)
   (kind1_r x _ s base b pm ps w1' m st _ hx (h.ext ((hm.ext hew (by intro k hk e; omega)).trans hw1)) (hmach.ext hw1) ?_ (hw1.obj (hm.obj (by omega) hc4')) (hw1.obj (hm.obj (by omega) hs4))) fun v w'' ⟨h1, h2⟩ => by subst h1; exact hk w'' h2
  intro h3
  have : Abs.nparts x.op = 1 := by rw [h3]; rfl
  omega
 ·rintro o ov lv l w' KK t hm ⟨u, rfl, hd⟩ _ hl hi hk
  exact K.callV0 (first := []) (cap := []) (by kernel_rfl) (ktwo_r o u lv l w' hi) fun v w'' ⟨h1, h2⟩ => by subst h1; exact hk w'' h2
 rintro _ w5 ⟨rfl, hm5⟩
 have he5 : Ext w w5 := hm5.ext hew (by intro k hk e; omega)
 refine St ?_
 exact En
end Go.Proofs.R
end
section
namespace Abs
open Go Go.RowKit Lite
def DeclV (v : Value) : Option (Var × Int) → Prop
 | some q => v = .tuple #[.agg q.1.enc.toArray, .int .i64 q.2, .bool true]
 | none => ∃ (x : Var) (k : Int), v = .tuple #[.agg x.enc.toArray, .int .i64 k, .bool false]
end Abs
namespace Go.Proofs.R
open Go Go.RowKit Lite
theorem cthing_r (a b : Int) (cs : List Value) (s : Abs.Scope) (w : World) (h : Abs.SI w cs s) :
  Ret Tryz.prog F.cc #[.int .i64 a, .int .i64 b, .agg cs.toArray] w fun v w' => v = .tuple #[.int .i64 (Abs.thing a b s).1, .bool (Abs.thing a b s).2] ∧ Ext w w' := by
 obtain ⟨a0, c0, a1, c1, a2, c2, a3, c3, a4, c4, rfl, h0, h1, h2, h3, h4, l0, l1, l2, l3, l4⟩ := h.form
 refine Ks E.cc ?_; dsimp only [C.cc]; refine Yy ?_
 refine Sg ?_
 intro w1 b hb he1 hc1
 refine Sg ?_
 (repeat' first
 | (refine K.cond (fun _ => ?_) (fun _ => ?_) <;> try (exfalso; omega))
 | (refine K.condb (fun _ => ?_) (fun _ => ?_))
 | assumption
 | exact Ext.refl _
 | refine Ext.trans ?_ (by assumption)
 | refine K.wrap (by omega) ?_
 | refine K.ldb (by assumption) ?_ rfl ?_
 | refine K.ldb0 (by assumption) ?_ rfl ?_
 | refine K.ldE (by assumption) ?_ (by omega) rfl ?_
 | refine K.ldE0 (by assumption) ?_ (by omega) rfl ?_
 | refine K.ldAE (by assumption) ?_ (by omega) rfl ?_
 | refine K.iaC (by omega) ?_
 | refine K.condT (by first | assumption | omega) ?_
 | refine K.condF (by first | assumption | omega) ?_
 | refine K.condbT (by assumption) ?_
 | refine K.condbF (by assumption) ?_
 | simp -dsimp only [LL,B9,Nat.reduceAdd,Nat.reduceEqDiff,reduceIte,reduceCtorEq,fE])
 all_goals
  refine ⟨?_, Ex⟩
  unfold Abs.thing
  (repeat' split) <;> first | rfl | (exfalso; omega)
theorem declared_r (v : Value) (l : List Abs.Var) (n : Int) (cs : List Value) (s : Abs.Scope) (w : World) (hl : Abs.Vars w v l) (h : Abs.SI w cs s) :
  Ret Tryz.prog F.ax #[v, .int .i64 n, .agg cs.toArray] w fun v w' => Abs.DeclV v (Abs.declared l n s) ∧ Ext w w' := by
 obtain ⟨v0, v1, v2, v3, v4, rfl, _⟩ := h.ex
 obtain ⟨oa, cap, rfl, hlen⟩ := hl.form
 refine Ks E.ax ?_; dsimp only [C.ax]; refine Yy ?_
 refine Sg ?_
 intro w1 b1 hb1 he1 hc1
 refine Sg ?_
 intro w2 b2 hb2 he2 hc2
 have he := he1.trans he2
 refine Sg ?_
 apply K.cond <;> intro g1
 ·refine Sg ?_
  intro w3 hw3 hc3
  refine Sg ?_
  rw [Abs.declared, Abs.nth_none (.inl g1)]
  exact ⟨⟨(⟨⟨#[]⟩, 0, 0, 0, 0, 0⟩ : Abs.Var), 0, rfl⟩, hw3.ext he (by have := he1.size; omega)⟩
 refine Sg ?_
 apply K.cond <;> intro g2
 ·refine Sg ?_
  intro w3 hw3 hc3
  refine Sg ?_
  rw [Abs.declared, Abs.nth_none (.inr (by omega))]
  exact ⟨⟨(⟨⟨#[]⟩, 0, 0, 0, 0, 0⟩ : Abs.Var), 0, rfl⟩, hw3.ext he (by have := he1.size; omega)⟩
 obtain ⟨i, rfl⟩ := Int.eq_ofNat_of_zero_le (show 0 ≤ n by omega)
 have hi : i < l.length := by omega
 rw [Abs.declared, Abs.nth_some (by omega) (by omega)]
 simp only [Int.toNat_natCast]
 obtain ⟨a, rfl⟩ := hl.addr (by omega)
 refine Sg ?_
 refine K.qfn _ (fun w' e => cthing_r _ _ _ s w' (h.ext (he.trans e))) ?_
 refine Sg ?_
 intro w3 he3
 have hc2 := he3.obj hc2
 refine Sg ?_
 intro w4 hw4 hc4
 refine Sg ?_
 refine ⟨?_, hw4.ext (he.trans he3) (by have := he1.size; omega)⟩
 by_cases hb : (Abs.thing l[i].scalar l[i].over s).2 = true
 ·rw [if_pos hb, hb]; rfl
 ·rw [if_neg hb, Bool.eq_false_iff.2 hb]; exact ⟨_, _, rfl⟩
theorem channel_r (n : Int) (cs : List Value) (s : Abs.Scope) (w : World) (h : Abs.SI w cs s) :
  Ret Tryz.prog F.b1 #[.int .i64 n, .agg cs.toArray] w fun v w' => v = .tuple #[.int .i64 ((Abs.channel n s).getD 0), .bool (Abs.channel n s).isSome] ∧ Ext w w' := by
 obtain ⟨a0, c0, a1, c1, a2, c2, a3, c3, a4, c4, rfl, h0, h1, h2, h3, h4, l0, l1, l2, l3, l4⟩ := h.form
 refine Ks E.b1 ?_; dsimp only [C.b1]; refine Yy ?_
 refine Sg ?_
 intro w1 b1 hb1 he1 hc1
 refine Sg ?_
 apply K.cond <;> intro g1
 ·refine Sg ?_
  rw [Abs.channel, Abs.nth_none (.inl g1)]
  exact En
 refine Sg ?_
 apply K.cond <;> intro g2
 ·refine Sg ?_
  rw [Abs.channel, Abs.nth_none (.inr (by omega))]
  exact En
 obtain ⟨i, rfl⟩ := Int.eq_ofNat_of_zero_le (show 0 ≤ n by omega)
 have hi : i < s.chans.length := by omega
 rw [Abs.channel, Abs.nth_some (by omega) (by omega)]
 simp only [Int.toNat_natCast]
 obtain ⟨a, rfl⟩ := h2.addr (by omega)
 refine Sg ?_
 refine K.qfn _ (fun w' e => cthing_r _ _ _ s w' (h.ext (he1.trans e))) ?_
 refine Sg ?_
 intro w2 he2
 refine Sg ?_
 refine ⟨?_, Ex⟩
 by_cases hb : (Abs.thing s.chans[i].scalar 0 s).2 = true
 ·rw [if_pos hb, hb]; rfl
 ·rw [if_neg hb, Bool.eq_false_iff.2 hb]
  rw [Abs.thing_false (Bool.eq_false_iff.2 hb)]; rfl
theorem asked_r (ve : Value) (e : List Abs.Node) (k : Int) (cs : List Value) (s : Abs.Scope) (w : World) (hn : Abs.Nodes w ve e) (h : Abs.SI w cs s) :
  Ret Tryz.prog F.au #[ve, .int .i64 k, .agg cs.toArray] w fun v w' => v = .int .i64 (Abs.asked e k s) ∧ Ext w w' := by
 obtain ⟨v0, v1, v2, v3, v4, rfl, _⟩ := h.ex
 refine Ks E.au ?_; dsimp only [C.au]; refine Yy ?_
 refine Sg ?_
 intro w1 b1 hb1 he1 hc1
 refine Sg ?_
 refine K.call (kind_r ve e _ s w1 (hn.ext he1) (h.ext he1)) ?_
 rintro _ w2 ⟨rfl, he2⟩
 refine Sg ?_
 rw [Abs.asked]
 apply K.cond <;> intro g1
 ·rw [if_neg (by simpa using g1)]
  refine Sg ?_
  apply K.cond <;> intro g2
  ·refine Sg ?_
   rw [if_neg (by simpa using g2)]
   exact En
  refine Sg ?_
  rw [if_pos g2]
  exact En
 refine Sg ?_
 rw [if_pos g1]
 exact En
theorem talks_r (a : Abs.Act) (vi vv : Value) (w : World) : Ret Tryz.prog F.bz #[.agg (a.enc vi vv).toArray] w fun v w' => v = .bool (Abs.talks a) ∧ Ext w w' := by
 refine Ks E.bz ?_; dsimp only [C.bz]; refine Yy ?_
 refine Sg ?_
 intro w1 b1 hb1 he1 hc1
 refine Sg ?_
 rw [Abs.talks]
 apply K.cond <;> intro g1
 ·refine Sg ?_
  refine ⟨?_, Ex⟩
  congr 1; simp [g1]
 refine Sg ?_
 refine ⟨?_, Ex⟩
 congr 1; simp [g1]
theorem receives_r (a : Abs.Act) (vi vv : Value) (k : Int) (cs : List Value) (s : Abs.Scope) (w : World) (h : Abs.SI w cs s) :
  Ret Tryz.prog F.ec #[.agg (a.enc vi vv).toArray, .int .i64 k, .agg cs.toArray] w fun v w' => v = .int .i64 (Abs.receives a k s) ∧ Ext w w' := by
 obtain ⟨v0, v1, v2, v3, v4, rfl, h0, h1, h2, h3, h4, _⟩ := h.ex
 refine Ks E.ec ?_; dsimp only [C.ec]; refine Yy ?_
 refine Sg ?_
 intro w1 b1 hb1 he1 hc1
 refine Sg ?_
 intro w2 b2 hb2 he2 hc2
 have he := he1.trans he2
 refine Sg ?_
 refine K.call (declared_r v4 s.locals a.loc _ s w2 (h4.ext he) (h.ext he)) ?_
 rintro q w3 ⟨hq, he3⟩
 rw [Abs.receives]
 cases hd : Abs.declared s.locals a.loc s with
 | none =>
  rw [hd] at hq
  obtain ⟨x, k', rfl⟩ := hq
  refine Sg ?_
  intro w4 b4 hb4 he4 hc4
  refine Sg ?_
  exact En
 | some q =>
  obtain ⟨x, k'⟩ := q
  rw [hd] at hq
  subst hq
  refine Sg ?_
  intro w4 b4 hb4 he4 hc4
  refine Sg ?_
  apply K.cond <;> intro g1
  ·refine Sg ?_
   apply K.cond <;> intro g2
   ·refine Sg ?_
    simp only [g1, g2, ne_eq, not_true_eq_false, or_self, if_false]
    exact En
   refine Sg ?_
   simp only [g2, ne_eq, not_false_eq_true, or_true, if_true]
   exact En
  refine Sg ?_
  simp only [g1, ne_eq, not_false_eq_true, true_or, if_true]
  exact En
end Go.Proofs.R
end
section
namespace Abs
open Go Go.RowKit Lite
theorem actsE_cons {s : Scope} {l : List Act} {k : Nat} {t : Bool} (h : k < l.length) :
  actsE s (l.drop k) k t = if talks l[k] && t then (2 + (k : Int), 7) else if actE l[k] s ≠ 0 then (2 + (k : Int), actE l[k] s) else actsE s (l.drop (k + 1)) (k + 1) (t || talks l[k]) := by
 rw [List.drop_eq_getElem_cons h]; rfl
end Abs
namespace Go.Proofs.R
open Go Go.RowKit Lite
theorem act1_r (k : Int) (a : Abs.Act) (vi vv : Value) (cs : List Value) (s : Abs.Scope) (w : World) (b1 b2 : Nat) (hb1 : w.heap[b1]? = some (.cells (a.enc vi vv).toArray T.m)) (hb2 : w.heap[b2]? = some (.cells cs.toArray T.d))
  (hv : Abs.Nodes w vv a.value) (h : Abs.SI w cs s) :
  Ret Tryz.prog F.eb #[.int .i64 k, .pointer (some ⟨b1, 0, none⟩), .pointer (some ⟨b2, 0, none⟩)] w fun v w' => v = .int .i64 (Abs.asked a.value k s) ∧ Ext w w' := by
 obtain ⟨v0, v1, v2, v3, v4, rfl, _⟩ := h.ex
 refine Ks E.eb ?_; dsimp only [C.eb]; refine Yy ?_
 refine Sg ?_
 refine K.call (asked_r vv a.value k _ s w hv h) ?_
 rintro _ w2 ⟨rfl, he2⟩
 refine Sg ?_
 exact En
theorem act_r (a : Abs.Act) (vi vv : Value) (cs : List Value) (s : Abs.Scope) (w : World) (hi : Abs.Nodes w vi a.index) (hv : Abs.Nodes w vv a.value) (h : Abs.SI w cs s) :
  Ret Tryz.prog F.d1 #[.agg (a.enc vi vv).toArray, .agg cs.toArray] w fun v w' => v = .int .i64 (Abs.actE a s) ∧ Ext w w' := by
 obtain ⟨v0, v1, v2, v3, v4, rfl, h0, h1, h2, h3, h4, l0⟩ := h.ex
 refine Ks E.d1 ?_; dsimp only [C.d1]; refine Yy ?_
 refine Sg ?_
 intro w1 b1 hb1 he1 hc1
 refine Sg ?_
 intro w2 b2 hb2 he2 hc2
 have he := he1.trans he2
 have hc1 := he2.obj hc1
 by_cases q : a.kind = 1 ∨ a.kind = 2 ∨ a.kind = 3
 ·rw [Abs.actE, if_pos q]
  generalize hL : (if a.kind = 3 then s.locals else s.vars) = L
  have hcall : ∀ vl n, vl = (if a.kind = 3 then v4 else v1) → Ret Tryz.prog F.ax #[vl, .int .i64 n, .agg #[v0, v1, v2, v3, v4, .int .i64 s.self]] w2 fun v w' => Abs.DeclV v (Abs.declared L n s) ∧ Ext w2 w' := by
   rintro vl n rfl
   refine declared_r _ L n _ s w2 ?_ (h.ext he)
   rw [← hL]
   split
   ·exact h4.ext he
   ·exact h1.ext he
  by_cases q5 : a.kind = 2
  ·refine Sg ?_
   refine K.call (hcall _ _ (by simp [q5])) ?_
   rintro u w3 ⟨hq, he3⟩
   have hc1 := he3.obj hc1
   have hc2 := he3.obj hc2
   have he03 := he.trans he3
   cases hd : Abs.declared L a.to s with
   | none =>
    rw [hd] at hq
    obtain ⟨x, k', rfl⟩ := hq
    refine Sg ?_
    intro w4 b4 hb4 he4 hc4
    refine Sg ?_
    exact En
   | some u =>
    obtain ⟨x, k'⟩ := u
    rw [hd] at hq
    subst hq
    have hov := Abs.declared_over hd
    simp only at hov
    refine Sg ?_
    intro w4 b4 hb4 he4 hc4
    have hc1 := he4.obj hc1
    have hc2 := he4.obj hc2
    have he04 := he03.trans he4
    refine Sg ?_
    refine K.neb (by kernel_rfl) ?_
    refine Sg ?_
    by_cases q2 : x.over = 0
    ·refine K.condbT (by simp [q5, q2]) ?_
     refine Sg ?_
     exact ⟨by simp [q5, q2], Ex⟩
    refine K.condbF (by simp [q5, q2]) ?_
    refine Sg ?_
    refine K.call (asked_r vi a.index _ _ s w4 (hi.ext he04) (h.ext he04)) ?_
    rintro _ w5 ⟨rfl, he5⟩
    have hc1 := he5.obj hc1
    have hc2 := he5.obj hc2
    have he05 := he04.trans he5
    refine Sg ?_
    refine K.cond (fun q3 => ?_) (fun q3 => ?_)
    ·refine Sg ?_
     refine K.callV (first := []) (cap := [_, _]) (by kernel_rfl) (act1_r k' a vi vv _ s w5 b1 b2 hc1 hc2 (hv.ext he05) (h.ext he05)) ?_
     rintro _ w6 ⟨rfl, he6⟩
     refine Sg ?_
     exact ⟨by simp [q5, q2, q3], Ex⟩
    ·refine Sg ?_
     exact ⟨by simp [q5, q2, q3], Ex⟩
  have q6 : a.kind = 1 ∨ a.kind = 3 := by omega
  clear q
  rcases q6 with q | q
  all_goals
   refine Sg ?_
   refine K.call (hcall _ _ (by simp [q])) ?_
   rintro u w3 ⟨hq, he3⟩
   have hc1 := he3.obj hc1
   have hc2 := he3.obj hc2
   have he03 := he.trans he3
   cases hd : Abs.declared L a.to s with
   | none =>
    rw [hd] at hq
    obtain ⟨x, k', rfl⟩ := hq
    refine Sg ?_
    intro w4 b4 hb4 he4 hc4
    refine Sg ?_
    exact En
   | some u =>
    obtain ⟨x, k'⟩ := u
    rw [hd] at hq
    subst hq
    refine Sg ?_
    intro w4 b4 hb4 he4 hc4
    have hc1 := he4.obj hc1
    have hc2 := he4.obj hc2
    have he04 := he03.trans he4
    refine Sg ?_
    refine K.neb (by kernel_rfl) ?_
    refine Sg ?_
    by_cases q2 : x.over = 0
    ·refine K.condbF (by simp [q, q2]) ?_
     refine Sg ?_
     refine K.callV (first := []) (cap := [_, _]) (by kernel_rfl) (act1_r k' a vi vv _ s w4 b1 b2 hc1 hc2 (hv.ext he04) (h.ext he04)) ?_
     rintro _ w6 ⟨rfl, he6⟩
     refine Sg ?_
     exact ⟨by simp [q, q2], Ex⟩
    ·refine K.condbT (by simp [q, q2]) ?_
     refine Sg ?_
     exact ⟨by simp [q, q2], Ex⟩
 by_cases q4 : a.kind = 4 ∨ a.kind = 5
 ·rw [Abs.actE, if_neg q, if_pos q4]
  have q7 : a.kind ≠ 3 := by omega
  have q8 : a.kind ≠ 1 := by omega
  have q9 : a.kind ≠ 2 := by omega
  have step : ∀ (w' : World), Ext w2 w' → Ret Tryz.prog F.b1 #[.int .i64 a.to, .agg #[v0, v1, v2, v3, v4, .int .i64 s.self]] w' fun v w'' => v = .tuple #[.int .i64 ((Abs.channel a.to s).getD 0), .bool (Abs.channel a.to s).isSome] ∧ Ext w' w'' :=
   fun w' e => channel_r a.to _ s w' (h.ext (he.trans e))
  rcases q4 with q4 | q4
  ·refine Sg ?_
   refine K.call (step w2 (Ext.refl _)) ?_
   rintro _ w3 ⟨rfl, he3⟩
   have hc1 := he3.obj hc1
   have hc2 := he3.obj hc2
   have he03 := he.trans he3
   cases hd : Abs.channel a.to s with
   | none =>
    simp only [Option.isSome_none, Option.getD_none]
    refine Sg ?_
    exact En
   | some k =>
    simp only [Option.isSome_some, Option.getD_some]
    refine Sg ?_
    refine K.callV (first := []) (cap := [_, _]) (by kernel_rfl) (act1_r k a vi vv _ s w3 b1 b2 hc1 hc2 (hv.ext he03) (h.ext he03)) ?_
    rintro _ w6 ⟨rfl, he6⟩
    refine Sg ?_
    exact ⟨by simp [q4], Ex⟩
  ·refine Sg ?_
   refine K.call (step w2 (Ext.refl _)) ?_
   rintro _ w3 ⟨rfl, he3⟩
   have hc1 := he3.obj hc1
   have hc2 := he3.obj hc2
   have he03 := he.trans he3
   cases hd : Abs.channel a.to s with
   | none =>
    simp only [Option.isSome_none, Option.getD_none]
    refine Sg ?_
    exact En
   | some k =>
    simp only [Option.isSome_some, Option.getD_some]
    refine Sg ?_
    refine K.call (receives_r a vi vv k _ s w3 (h.ext he03)) ?_
    rintro _ w6 ⟨rfl, he6⟩
    refine Sg ?_
    exact ⟨by simp [q4], Ex⟩
 rw [Abs.actE, if_neg q, if_neg q4]
 have q7 : a.kind ≠ 3 := by omega
 have q8 : a.kind ≠ 1 := by omega
 have q9 : a.kind ≠ 2 := by omega
 have q10 : a.kind ≠ 4 := by omega
 have q11 : a.kind ≠ 5 := by omega
 refine Sg ?_
 exact En
end Go.Proofs.R
end
section
namespace Abs
open Go
theorem head_ok {c : Cmd} {n : Int} (h : head c n = 0) : isName c.name = true ∧ 0 ≤ c.from_ ∧ c.from_ < n ∧ 0 ≤ c.to ∧ c.to < n ∧ c.acts.length ≤ 6 := by
 unfold head at h
 by_cases h1 : isName c.name = false
 ·rw [if_pos h1] at h; cases h
 rw [if_neg h1] at h
 by_cases h2 : c.from_ < 0 ∨ n ≤ c.from_ ∨ c.to < 0 ∨ n ≤ c.to
 ·rw [if_pos h2] at h; cases h
 rw [if_neg h2] at h
 by_cases h3 : c.acts.length > 6
 ·rw [if_pos h3] at h; cases h
 exact ⟨by simpa using h1, by omega, by omega, by omega, by omega, by omega⟩
end Abs
end
section
namespace Go.Proofs.R
open Go Go.RowKit Lite
theorem head1_r (n : Int) (p : Abs.Proc) (pv pc : Value) (w : World) (b : Nat) (hb : w.heap[b]? = some (.cells (p.enc pv pc).toArray T.g)) :
  Ret Tryz.prog F.ea #[.int .i64 n, .pointer (some ⟨b, 0, none⟩)] w fun v w' => v = .bool (decide (n < 0 ∨ p.locs ≤ n)) ∧ w' = w := by
 refine Ks E.ea ?_; dsimp only [C.ea]; refine Yy ?_
 refine Sg ?_
 apply K.cond <;> intro g1
 ·refine Sg ?_
  exact ⟨by simp [g1], Tr⟩
 refine Sg ?_
 exact ⟨by simp [g1], Tr⟩
theorem head_r (c : Abs.Cmd) (vg va : Value) (p : Abs.Proc) (pv pc : Value) (w : World) (ho : OwnIs w) (hn : Abs.strOk c.name) (ha : Abs.Acts w va c.acts) :
  Ret Tryz.prog F.d0 #[.agg (c.enc vg va).toArray, .agg (p.enc pv pc).toArray] w fun v w' => v = .int .i64 (Abs.head c p.locs) ∧ Ext w w' := by
 obtain ⟨oa, cap, rfl, hlen⟩ := ha.form
 refine Ks E.d0 ?_; dsimp only [C.d0]; refine Yy ?_
 refine Sg ?_
 intro w1 b1 hb1 he1 hc1
 refine Sg ?_
 intro w2 b2 hb2 he2 hc2
 have he := he1.trans he2
 have hc1 := he2.obj hc1
 refine Sg ?_
 refine K.call (name_r c.name w2 (ho.ext he) hn) ?_
 rintro _ w3 ⟨rfl, he3⟩
 have hc1 := he3.obj hc1
 have hc2 := he3.obj hc2
 have he03 := he.trans he3
 rw [Abs.head]
 refine Sg ?_
 refine K.condb (fun g1 => ?_) (fun g1 => ?_)
 rotate_left
 ·refine Sg ?_
  exact ⟨by simp [g1], Ex⟩
 refine Sg ?_
 refine K.callV (first := []) (cap := [_]) (by kernel_rfl) (head1_r c.from_ p pv pc w3 b2 hc2) ?_
 rintro _ _ ⟨rfl, rfl⟩
 refine Sg ?_
 apply K.cond <;> intro g2
 ·refine Sg ?_
  refine ⟨?_, Ex⟩
  rw [if_neg (by simp [g1]), if_pos (by omega)]
 refine Sg ?_
 refine K.callV (first := []) (cap := [_]) (by kernel_rfl) (head1_r c.to p pv pc _ b2 hc2) ?_
 rintro _ _ ⟨rfl, rfl⟩
 refine Sg ?_
 apply K.cond <;> intro g3
 ·refine Sg ?_
  refine ⟨?_, Ex⟩
  rw [if_neg (by simp [g1]), if_pos (by omega)]
 refine Sg ?_
 apply K.cond <;> intro g4
 ·refine Sg ?_
  refine ⟨?_, Ex⟩
  rw [if_neg (by simp [g1]), if_neg (by omega), if_pos (by omega)]
 ·refine Sg ?_
  refine ⟨?_, Ex⟩
  rw [if_neg (by simp [g1]), if_neg (by omega), if_neg (by omega)]
theorem check_r (c : Abs.Cmd) (vg va : Value) (p : Abs.Proc) (pv pc : Value) (cs : List Value) (s : Abs.Scope) (w : World) (ho : OwnIs w) (hn : Abs.strOk c.name) (hg : Abs.Nodes w vg c.guard) (ha : Abs.Acts w va c.acts)
  (hv : Abs.Vars w pv p.vars) (hc : Abs.Cmds w pc p.cmds) (h : Abs.SI w cs s) :
  Ret Tryz.prog F.dq #[.agg (c.enc vg va).toArray, .agg (p.enc pv pc).toArray, .agg cs.toArray] w fun v w' =>
   v = .tuple #[.int .i64 (Abs.cmdCheck c p.locs s).1, .int .i64 (Abs.cmdCheck c p.locs s).2] ∧ Ext w w' := by
 obtain ⟨a0, c0, a1, c1, a2, c2, a3, c3, a4, c4, rfl, _⟩ := h.form
 obtain ⟨oa, cap, rfl, hlen⟩ := ha.form
 obtain ⟨og, capg, rfl, hleng⟩ := hg.form
 obtain ⟨_, _, rfl, _⟩ := hv.form
 obtain ⟨_, _, rfl, _⟩ := hc.form
 refine Ks E.dq ?_; dsimp only [C.dq]; refine Yy ?_
 refine Sg ?_
 intro w1 b1 hb1 he1 hc1
 refine Sg ?_
 intro w2 b2 hb2 he2 hc2
 refine Sg ?_
 intro w3 b3 hb3 he3 hc3
 have he := (he1.trans he2).trans he3
 have hc1 := (he2.trans he3).obj hc1
 have hc2 := he3.obj hc2
 refine Sg ?_
 refine K.call (head_r c _ _ p _ _ w3 (ho.ext he) hn (ha.ext he)) ?_
 rintro _ w4 ⟨rfl, he4⟩
 have hc1 := he4.obj hc1
 have hc3 := he4.obj hc3
 have he04 := he.trans he4
 rw [Abs.cmdCheck]
 refine Sg ?_
 apply K.cond <;> intro g1
 rotate_left
 ·refine Sg ?_
  exact ⟨by simp [g1], Ex⟩
 rw [if_neg (by simpa using g1)]
 have h6 := (Abs.head_ok g1).2.2.2.2.2
 refine Su ?_
 refine K.cutG [3, 4, 5] (fun _ => []) (fun (_ : Unit) w' => Ext w4 w' ∧ ¬ (c.guard.length > 0 ∧ Abs.asked c.guard 1 s ≠ 0)) ?_ ?_
 ·refine Sg ?_
  apply K.cond <;> intro g2
  ·refine Sg ?_
   refine K.call (asked_r _ c.guard 1 _ s w4 (hg.ext he04) (h.ext he04)) ?_
   rintro _ w5 ⟨rfl, he5⟩
   refine Sg ?_
   apply K.cond <;> intro g3
   ·refine Sg ?_
    exact ⟨(), trivial, Ex, fun hh => hh.2 g3⟩
   ·refine Sg ?_
    rw [if_pos ⟨by omega, g3⟩]
    exact En
  ·refine Sg ?_
   exact ⟨(), trivial, Ex, fun hh => g2 (by omega)⟩
 rintro _ S w5 ⟨he5, hgd⟩
 have hc1 := he5.obj hc1
 have hc3 := he5.obj hc3
 have he05 := he04.trans he5
 rw [if_neg hgd]
 refine Sg ?_
 refine K.forG 34 c.acts.length [3, 4, 5, 32, 33] (fun b => [(10, .bool b)]) false (fun k b w' => Ext w5 w' ∧ Abs.actsE s c.acts 0 false = Abs.actsE s (c.acts.drop k) k b) hZq hZq ⟨Ext.refl _, by simp⟩ ?_
 rintro k b S w6 hk ⟨he6, hI⟩
 have he06 := he05.trans he6
 refine Sg ?_
 apply K.cond <;> intro g1
 ·have hk' : k < c.acts.length := by omega
  obtain ⟨a, rfl⟩ := ha.addr (by omega)
  obtain ⟨vi, vv, hcell, hvi, hvv⟩ := ha.at k hk'
  obtain ⟨_, _, rfl, _⟩ := hvi.form
  obtain ⟨_, _, rfl, _⟩ := hvv.form
  rw [Abs.actsE_cons hk'] at hI
  refine Sg ?_
  intro w7 b7 hb7 he7 hc7
  refine Su ?_
  intro w8 hw8 hc8
  have he68 := hw8.ext he7 hb7
  have he08 := he06.trans he68
  have hc3 := (he6.trans he68).obj hc3
  refine Su ?_
  refine K.cutG [3, 5, 10, 11, 12, 32, 33, 34] (fun _ => []) (fun (_ : Unit) w' => Ext w8 w' ∧ ¬ (Abs.talks c.acts[k] && b) = true) ?_ ?_
  ·refine Sg ?_
   refine K.call (talks_r c.acts[k] _ _ w8) ?_
   rintro _ w9 ⟨rfl, he9⟩
   refine Sg ?_
   refine K.condb (fun g2 => ?_) (fun g2 => ?_)
   ·refine Sg ?_
    refine K.condb (fun g3 => ?_) (fun g3 => ?_)
    ·refine Sg ?_
     rw [hI, if_pos (by simp [g2, g3])]
     exact En
    ·refine Sg ?_
     exact ⟨(), trivial, Ex, by simp [g3]⟩
   ·refine Sg ?_
    exact ⟨(), trivial, Ex, by simp [g2]⟩
  rintro _ S w9 ⟨he9, g2⟩
  rw [if_neg g2] at hI
  have hc8 := he9.obj hc8
  have hc3 := he9.obj hc3
  refine Su ?_
  refine K.cutG [3, 5, 11, 12, 32, 33, 34] (fun u => [(10, .bool u)]) (fun u w' => Ext w9 w' ∧ u = (b || Abs.talks c.acts[k])) ?_ ?_
  ·refine Sg ?_
   refine K.condb (fun g3 => ?_) (fun g3 => ?_)
   ·refine Sg ?_
    exact ⟨true, hZq, Ex, by simp [g3]⟩
   ·refine Sg ?_
    refine K.call (talks_r c.acts[k] _ _ w9) ?_
    rintro _ w10 ⟨rfl, he10⟩
    refine Sg ?_
    exact ⟨Abs.talks c.acts[k], hZq, Ex, by simp [g3]⟩
  rintro _ S w10 ⟨he10, rfl⟩
  have hc8 := he10.obj hc8
  have hc3 := he10.obj hc3
  have he010 := (he08.trans he9).trans he10
  have he510 := ((he6.trans he68).trans he9).trans he10
  refine Sg ?_
  refine K.call (act_r c.acts[k] _ _ _ s w10 (hvi.ext he010) (hvv.ext he010) (h.ext he010)) ?_
  rintro _ w11 ⟨rfl, he11⟩
  refine Sg ?_
  apply K.cond <;> intro g3
  ·refine Sg ?_
   rw [if_neg (by simpa using g3)] at hI
   exact ⟨hk', Tr, _, hZq, Ex, hI⟩
  ·refine Sg ?_
   rw [hI, if_pos g3]
   exact En
 ·refine Sg ?_
  rw [hI, List.drop_eq_nil_of_le (by omega)]
  exact En
end Go.Proofs.R
end
section
namespace Abs
theorem localsE_drop {s : Scope} {l : List Var} {k : Nat} (h : k < l.length) : localsE s (l.drop k) k = if l[k].over ≠ 0 then ((k : Int), 9) else if s.vars.any (fun x => decide (x.name = l[k].name)) then ((k : Int), 7) else localsE s (l.drop (k + 1)) (k + 1) := by
 rw [List.drop_eq_getElem_cons h]; rfl
theorem cmdsE_drop {own : Scope} {locs : Int} {all l : List Cmd} {k : Nat} (h : k < l.length) : cmdsE own locs all (l.drop k) k = if (cmdCheck l[k] locs own).2 ≠ 0 then (2 + (k : Int), (cmdCheck l[k] locs own).1, (cmdCheck l[k] locs own).2)
  else if (all.take k).any (fun x => decide (x.name = l[k].name)) then (2 + (k : Int), 0, 7) else cmdsE own locs all (l.drop (k + 1)) (k + 1) := by
 rw [List.drop_eq_getElem_cons h]; rfl
end Abs
namespace Go.Proofs.R
open Go Go.RowKit Lite
theorem whole_r (p : Abs.Proc) (o3 o4 : Option Addr) (n3 c3 c4 : Nat) (cs : List Value) (s : Abs.Scope) (w : World) (ho : OwnIs w) (hn : Abs.strOk p.name) (h : Abs.SI w cs s) :
  Ret Tryz.prog F.dn #[.agg (p.enc (.slice o3 n3 c3) (.slice o4 p.cmds.length c4)).toArray, .agg cs.toArray] w fun v w' => v = .int .i64 (Abs.whole p s) ∧ Ext w w' := by
 obtain ⟨a0, c0, a1, c1, a2, c2, a3, d3, a4, d4, rfl, h0, h1, h2, h3, h4, l0, l1, l2, l3, l4⟩ := h.form
 refine Ks E.dn ?_; dsimp only [C.dn]; refine Yy ?_
 refine Sg ?_
 intro w1 b1 hb1 he1 hc1
 refine Sg ?_
 intro w2 b2 hb2 he2 hc2
 have E2 : ∀ {w'}, Ext w2 w' → Ext w w' := fun e => (he1.trans he2).trans e
 have hc1 := he2.obj hc1
 refine Sg ?_
 refine K.call (name_r p.name w2 (ho.ext (E2 (Ext.refl _))) hn) ?_
 rintro _ w3 ⟨rfl, he3⟩
 have hc1 := he3.obj hc1
 have hc2 := he3.obj hc2
 rw [Abs.whole]
 refine Sg ?_
 refine K.condb (fun g1 => ?_) (fun g1 => ?_)
 rotate_left
 ·refine Sg ?_
  exact ⟨by rw [if_pos g1], E2 he3⟩
 rw [if_neg (by simp [g1])]
 refine Sg ?_
 apply K.cond <;> intro g2
 ·refine Sg ?_
  exact ⟨by rw [if_pos (.inl g2)], E2 he3⟩
 refine Sg ?_
 apply K.cond <;> intro g3
 ·refine Sg ?_
  exact ⟨by rw [if_pos (.inr (by omega))], E2 he3⟩
 rw [if_neg (by omega)]
 refine Sg ?_
 apply K.cond <;> intro g4
 ·refine Sg ?_
  exact ⟨by rw [if_pos (.inl g4)], E2 he3⟩
 refine Sg ?_
 apply K.cond <;> intro g5
 ·refine Sg ?_
  exact ⟨by rw [if_pos (.inr (by omega))], E2 he3⟩
 rw [if_neg (by omega)]
 refine Sg ?_
 apply K.cond <;> intro g6
 ·refine Sg ?_
  exact ⟨by rw [if_pos (by omega)], E2 he3⟩
 refine Sg ?_
 exact ⟨by rw [if_neg (by omega)], E2 he3⟩
theorem locals1_r (x v : Abs.Var) (b : Nat) (w : World) (hc : w.heap[b]? = some (.cells v.enc.toArray T.f)) :
  Ret Tryz.prog F.bx #[.agg x.enc.toArray, .pointer (some ⟨b, 0, none⟩)] w fun u w' => u = .bool (decide (x.name = v.name)) ∧ Ext w w' := by
 refine Ks E.bx ?_; dsimp only [C.bx]; refine Yy ?_
 refine Sg ?_
 intro w1 b1 hb1 he1 hc1
 refine Sg ?_
 exact En
theorem check1_r (x c : Abs.Cmd) (o1 o2 o3 o4 : Option Addr) (n1 n2 n3 n4 c1 c2 c3 c4 : Nat) (b : Nat) (w : World) (hc : w.heap[b]? = some (.cells (c.enc (.slice o3 n3 c3) (.slice o4 n4 c4)).toArray T.l)) :
  Ret Tryz.prog F.bs #[.agg (x.enc (.slice o1 n1 c1) (.slice o2 n2 c2)).toArray, .pointer (some ⟨b, 0, none⟩)] w fun u w' => u = .bool (decide (x.name = c.name)) ∧ Ext w w' := by
 refine Ks E.bs ?_; dsimp only [C.bs]; refine Yy ?_
 refine Sg ?_
 intro w1 b1 hb1 he1 hc1
 refine Sg ?_
 exact En
theorem locals_r (p : Abs.Proc) (o3 o4 : Option Addr) (c3 n4 c4 : Nat) (cs : List Value) (s : Abs.Scope) (w : World) (ho : OwnIs w) (hv : Abs.Vars w (.slice o3 p.vars.length c3) p.vars) (h : Abs.SI w cs s) :
  Ret Tryz.prog F.dp #[.agg (p.enc (.slice o3 p.vars.length c3) (.slice o4 n4 c4)).toArray, .agg cs.toArray] w fun v w' => v = .tuple #[.int .i64 (Abs.plocals p s).1, .int .i64 (Abs.plocals p s).2] ∧ Ext w w' := by
 obtain ⟨a0, c0, a1, c1, a2, c2, a3, d3, a4, d4, rfl, h0, h1, h2, h3, h4, l0, l1, l2, l3, l4⟩ := h.form
 have lv : p.vars.length ≤ 9223372036854775807 := by have := (SlR.len hv).2; unfold maxLen at this; omega
 refine Ks E.dp ?_; dsimp only [C.dp]; refine Yy ?_
 refine Sg ?_
 intro w1 b1 hb1 he1 hc1
 refine Sg ?_
 intro w2 b2 hb2 he2 hc2
 have E2 : ∀ {w'}, Ext w2 w' → Ext w w' := fun e => (he1.trans he2).trans e
 have hc1 := he2.obj hc1
 refine Sg ?_
 refine K.call (vars_r _ _ p.vars s.scalars 4 w2 (ho.ext (E2 (Ext.refl _))) (hv.ext (E2 (Ext.refl _))) (h0.ext (E2 (Ext.refl _)))) ?_
 rintro _ w3 ⟨rfl, he3⟩
 have hc1 := he3.obj hc1
 have hc2 := he3.obj hc2
 rw [Abs.plocals]
 refine Sg ?_
 apply K.cond <;> intro g1
 rotate_left
 ·refine Sg ?_
  exact ⟨by rw [if_pos g1], E2 he3⟩
 rw [if_neg (by simpa using g1)]
 have E3 : ∀ {w'}, Ext w3 w' → Ext w w' := fun e => E2 (he3.trans e)
 refine Sg ?_
 refine K.forG 25 p.vars.length [3, 23, 24] (fun _ => []) () (fun k _ w' => Ext w3 w' ∧ Abs.localsE s p.vars 0 = Abs.localsE s (p.vars.drop k) k) hZq hZq ⟨Ext.refl _, by simp⟩ ?_
 rintro k _ S w4 hk ⟨he4, hI⟩
 refine Sg ?_
 apply K.cond <;> intro g2
 ·have hk' : k < p.vars.length := by omega
  obtain ⟨a, rfl⟩ := hv.addr (by omega)
  replace hv := hv.ext (E3 (Ext.refl _))
  rw [Abs.localsE_drop hk'] at hI
  refine Sg ?_
  intro wN b9 hb9 heN hcN
  refine Sg ?_
  intro w5 hw5 hc5
  have he5 := hw5.ext heN hb9
  refine Sg ?_
  apply K.cond <;> intro g3
  rotate_left
  ·refine Sg ?_
   exact ⟨by rw [hI, if_pos g3], E3 (he4.trans he5)⟩
  rw [if_neg (by simpa using g3)] at hI
  refine Sg ?_
  refine K.call (containsFunc_r hmix E.ej E.el _ s.vars w5 (h1.ext (E3 (he4.trans he5))) F.bx (by kernel_rfl) [] [_] (fun x => decide (x.name = p.vars[k].name)) ?_) ?_
  ·rintro i hi cs' w' e ⟨rfl, _⟩
   exact locals1_r _ _ b9 w' (e.obj hc5)
  rintro _ w6 ⟨rfl, he6⟩
  refine Sg ?_
  refine K.condb (fun g4 => ?_) (fun g4 => ?_)
  ·refine Sg ?_
   exact ⟨by rw [hI, if_pos g4], E3 ((he4.trans he5).trans he6)⟩
  ·refine Sg ?_
   exact ⟨hk', Tr, (), trivial, (he4.trans he5).trans he6, by rw [hI, if_neg (by simp [g4])]⟩
 ·refine Sg ?_
  exact ⟨by rw [hI, List.drop_eq_nil_of_le (by omega)]; rfl, E3 he4⟩
theorem pcheck_r (p : Abs.Proc) (pcs cs : List Value) (s : Abs.Scope) (w : World) (ho : OwnIs w) (hp : Abs.ProcIs w pcs p) (h : Abs.SI w cs s) (hg : s.good) (hpg : p.good) :
  Ret Tryz.prog F.de #[.agg pcs.toArray, .agg cs.toArray] w fun v w' => v = .tuple #[.int .i64 (Abs.procCheck p s).1, .int .i64 (Abs.procCheck p s).2.1, .int .i64 (Abs.procCheck p s).2.2] ∧ Ext w w' := by
 obtain ⟨a0, c0, a1, c1, a2, c2, a3, d3, a4, d4, rfl, h0, h1, h2, h3, h4, l0, l1, l2, l3, l4⟩ := h.form
 obtain ⟨hn, pv, pc, rfl, hv, hcm⟩ := hp
 obtain ⟨o3, c3, rfl, lv⟩ := hv.form
 obtain ⟨o4, c4, rfl, lc⟩ := hcm.form
 have hcb : p.cmds.length ≤ 140737488351232 := by have := hpg.cmds; unfold Abs.big at this; omega
 refine Ks E.de ?_; dsimp only [C.de]; refine Yy ?_
 refine Sg ?_
 intro w1 b1 hb1 he1 hc1
 refine Sg ?_
 intro w2 b2 hb2 he2 hc2
 have E2 : ∀ {w'}, Ext w2 w' → Ext w w' := fun e => (he1.trans he2).trans e
 replace hc1 := he2.obj hc1
 refine Sg ?_
 refine K.call (whole_r p _ _ _ _ _ _ s w2 (ho.ext (E2 (Ext.refl _))) hn (h.ext (E2 (Ext.refl _)))) ?_
 rintro _ w3 ⟨rfl, he3⟩
 replace hc1 := he3.obj hc1
 replace hc2 := he3.obj hc2
 have E3 : ∀ {w'}, Ext w3 w' → Ext w w' := fun e => E2 (he3.trans e)
 rw [Abs.procCheck]
 refine Sg ?_
 apply K.cond <;> intro g1
 rotate_left
 ·refine Sg ?_
  exact ⟨by rw [if_pos g1], E3 (Ext.refl _)⟩
 rw [if_neg (by simpa using g1)]
 refine Sg ?_
 refine K.call (locals_r p _ _ _ _ _ _ s w3 (ho.ext (E3 (Ext.refl _))) (hv.ext (E3 (Ext.refl _))) (h.ext (E3 (Ext.refl _)))) ?_
 rintro _ w4 ⟨rfl, he4⟩
 replace hc1 := he4.obj hc1
 replace hc2 := he4.obj hc2
 have E4 : ∀ {w'}, Ext w4 w' → Ext w w' := fun e => E3 (he4.trans e)
 refine Sg ?_
 apply K.cond <;> intro g2
 rotate_left
 ·refine Sg ?_
  exact ⟨by rw [if_pos g2], E4 (Ext.refl _)⟩
 rw [if_neg (by simpa using g2)]
 refine Sg ?_
 refine K.call (inner_r p _ _ _ _ _ _ _ _ _ _ _ _ _ _ _ _ _ _ _ _ _ _ w4) ?_
 rintro _ w5 ⟨rfl, he5⟩
 replace hc1 := he5.obj hc1
 have E5 : ∀ {w'}, Ext w5 w' → Ext w w' := fun e => E4 (he5.trans e)
 refine Sg ?_
 intro w6 b10 hb10 he6 hc6
 replace hc1 := he6.obj hc1
 have E6 : ∀ {w'}, Ext w6 w' → Ext w w' := fun e => E5 (he6.trans e)
 have hin : ∀ w', Ext w w' → Abs.SI w' [.slice a0 s.scalars.length c0, .slice a1 s.vars.length c1, .slice a2 s.chans.length c2, .slice a3 s.procs.length d3, .slice o3 p.vars.length c3, .int .i64 p.over] (Abs.inner p s) := fun w' e =>
  ⟨(hg.inner hpg).sm.1, _, _, _, _, _, rfl, h0.ext e, h1.ext e, h2.ext e, h3.ext e, hv.ext e, (hg.inner hpg).sm.2⟩
 refine Sg ?_
 refine K.forG 37 p.cmds.length [2, 10, 35, 36] (fun _ => []) () (fun k _ w' => Ext w6 w' ∧ Abs.cmdsE (Abs.inner p s) p.locs p.cmds p.cmds 0 = Abs.cmdsE (Abs.inner p s) p.locs p.cmds (p.cmds.drop k) k) hZq hZq ⟨Ext.refl _, by simp⟩ ?_
 rintro k _ S w7 hk ⟨he7, hI⟩
 replace hc1 := he7.obj hc1
 replace hc6 := he7.obj hc6
 refine Sg ?_
 apply K.cond <;> intro g3
 ·have hk' : k < p.cmds.length := by omega
  obtain ⟨a, rfl⟩ := hcm.addr (by omega)
  obtain ⟨hs, vg, va, hcc, hvg, hva⟩ := hcm.at k hk'
  obtain ⟨og, cg, rfl, lg⟩ := hvg.form
  obtain ⟨oa, ca, rfl, la⟩ := hva.form
  rw [Abs.cmdsE_drop hk'] at hI
  replace hcc := hcc.ext (E6 (Ext.refl _))
  refine Sg ?_
  intro wN b12 hb12 heN hcN
  refine Sg ?_
  intro w8 hw8 hc8
  have he8 := hw8.ext heN hb12
  replace hc1 := he8.obj hc1
  replace hc6 := he8.obj hc6
  have E8 : ∀ {w'}, Ext w8 w' → Ext w w' := fun e => E6 ((he7.trans he8).trans e)
  clear hcN heN
  refine Sg ?_
  refine K.call (check_r p.cmds[k] _ _ p _ _ _ (Abs.inner p s) w8 (ho.ext (E8 (Ext.refl _))) hs (hvg.ext (E8 (Ext.refl _))) (hva.ext (E8 (Ext.refl _))) (hv.ext (E8 (Ext.refl _))) (hcm.ext (E8 (Ext.refl _))) (hin _ (E8 (Ext.refl _)))) ?_
  rintro _ w9 ⟨rfl, he9⟩
  replace hc1 := he9.obj hc1
  replace hc8 := he9.obj hc8
  have E9 : ∀ {w'}, Ext w9 w' → Ext w w' := fun e => E8 (he9.trans e)
  refine Sg ?_
  apply K.cond <;> intro g4
  rotate_left
  ·refine Sg ?_
   exact ⟨by rw [hI, if_pos g4], E9 (Ext.refl _)⟩
  rw [if_neg (by simpa using g4)] at hI
  have hcap := (SlR.len hcm).2.1
  refine Sg ?_
  refine K.slcT (k := .i64) k (by rfl) (by omega) ?_
  refine Sg ?_
  refine K.call (containsFunc_r hmix E.ei E.ek _ (p.cmds.take k) w9 ((hcm.head k (by omega)).ext Abs.RCmd.ext (E9 (Ext.refl _))) F.bs (by kernel_rfl) [] [_] (fun x => decide (x.name = p.cmds[k].name)) ?_) ?_
  ·rintro i hi cs' w' e ⟨_, xg, xa, rfl, hxg, hxa⟩
   obtain ⟨_, _, rfl, _⟩ := hxg.form
   obtain ⟨_, _, rfl, _⟩ := hxa.form
   exact check1_r _ _ _ _ _ _ _ _ _ _ _ _ _ _ b12 w' (e.obj hc8)
  rintro _ w10 ⟨rfl, he10⟩
  refine Sg ?_
  refine K.condb (fun g5 => ?_) (fun g5 => ?_)
  ·refine Sg ?_
   exact ⟨by rw [hI, if_pos g5], E9 he10⟩
  ·refine Sg ?_
   exact ⟨hk', Tr, (), trivial, ((he7.trans he8).trans he9).trans he10, by rw [hI, if_neg (by simp [g5])]⟩
 ·refine Sg ?_
  exact ⟨by rw [hI, List.drop_eq_nil_of_le (by omega)]; rfl, E6 he7⟩
end Go.Proofs.R
end
section
namespace Lite
open Go Go.RowKit
theorem SlR.blkC {α : Type} {R : World → Addr → α → Prop} {C : World → List Value → α → Prop} {sz : Nat} [Rel R C sz] {w : World} {b n : Nat} {e : TypeId} {cells : List Value} {xs : List α} (css : List (Cs sz)) (hb : w.heap[b]? = some (.cells cells.toArray e)) (hcells : cells = css.flatMap encC)
  (hl : css.length = xs.length) (hn : n = xs.length) (hm : xs.length ≤ maxLen) (hc : ∀ i (h1 : i < css.length) (h2 : i < xs.length), C w css[i].1 xs[i]) : SlR sz R w (.slice (some ⟨b, 0, none⟩) n n) xs := by
 subst hcells
 exact SlR.ofCells hl (SlR.blk (enc := encC) encC_len hb (by omega) (by omega) fun _ _ _ h => h) hc
end Lite
namespace Abs
open Go
def exS : Scalar := ⟨⟨#[83]⟩, 2⟩
theorem inI_small {n : Int} (h : -1000 ≤ n ∧ n ≤ 1000) : inI n := by unfold inI; omega
theorem thing_k (a b : Int) (s : Scope) : (thing a b s).2 = ((kscalar a s).2 && (kscalar b s).2) ∧ ((thing a b s).2 = true → (thing a b s).1 = (if a = 0 then 0 else 1 + a)) := by
 unfold thing kscalar
 constructor
 ·(repeat' split) <;> first | rfl | (exfalso; omega)
 ·intro h
  (repeat' split) <;> first | rfl | (exfalso; omega) | simp_all
theorem declared_none {l : List Var} {n : Int} {s : Scope} (h : (kvar l n s).2.2 = false) : declared l n s = none := by
 unfold declared
 unfold kvar at h
 cases hn : nth l n with
 | none => rfl
 | some v =>
  rw [hn] at h
  simp only at h ⊢
  rw [if_neg]
  rw [(thing_k _ _ _).1, h]
  simp
theorem declared_some {l : List Var} {n : Int} {s : Scope} {x : Var} (h : (kvar l n s).2.2 = true) (hx : nth l n = some x) : declared l n s = some (x, if x.scalar = 0 then 0 else 1 + x.scalar) ∧ 0 ≤ x.scalar ∧ x.scalar ≤ s.scalars.length ∧ 0 ≤ x.over ∧ x.over ≤ s.scalars.length := by
 unfold kvar at h
 rw [hx] at h
 simp only at h
 have ht : (thing x.scalar x.over s).2 = true := by rw [(thing_k _ _ _).1]; exact h
 refine ⟨?_, ?_⟩
 ·unfold declared
  rw [hx]
  simp only
  rw [if_pos ht, (thing_k _ _ _).2 ht]
 ·unfold thing at ht
  split at ht
  ·cases ht
  ·omega
theorem channel_none {n : Int} {s : Scope} (h : ¬ (kLen n s).2 = 0) : channel n s = none := by
 unfold channel
 unfold kLen at h
 cases hn : nth s.chans n with
 | none => rfl
 | some c =>
  rw [hn] at h
  simp only at h ⊢
  rw [if_neg]
  intro ht
  rw [(thing_k _ _ _).1] at ht
  simp only [Bool.and_eq_true] at ht
  rw [if_pos ht.1] at h
  exact h rfl
theorem channel_some {n : Int} {s : Scope} {c : Chan} (h : (kLen n s).2 = 0) (hx : nth s.chans n = some c) : channel n s = some (if c.scalar = 0 then 0 else 1 + c.scalar) ∧ 0 ≤ c.scalar ∧ c.scalar ≤ s.scalars.length := by
 unfold kLen at h
 rw [hx] at h
 simp only at h
 have h1 : (kscalar c.scalar s).2 = true := by
  cases hk : (kscalar c.scalar s).2 with
  | true => rfl
  | false => rw [hk] at h; simp at h
 have ht : (thing c.scalar 0 s).2 = true := by rw [(thing_k _ _ _).1, h1]; simp [kscalar]
 refine ⟨?_, ?_⟩
 ·unfold channel
  rw [hx]
  simp only
  rw [if_pos ht, (thing_k _ _ _).2 ht]
 ·unfold thing at ht
  split at ht
  ·cases ht
  ·omega
def plainE (l : List Var) (n : Int) (s : Scope) : Int × Int := match declared l n s with | none => (0, 8) | some (v, k) => if v.over ≠ 0 then (0, 9) else (k, 0)
def itemE (a : Act) (s : Scope) : Int := match declared s.vars a.to s with | none => 8 | some (v, k) => if v.over = 0 then 9 else if asked a.index (1 + v.over) s ≠ 0 then asked a.index (1 + v.over) s else asked a.value k s
def ractE (a : Act) (s : Scope) (comm : Bool) : Int :=
 if a.kind < 1 ∨ 5 < a.kind then 3
 else if a.kind = 2 then itemE a s
 else if a.kind = 1 ∨ a.kind = 3 then (if (plainE (if a.kind = 3 then s.locals else s.vars) a.to s).2 ≠ 0 then (plainE (if a.kind = 3 then s.locals else s.vars) a.to s).2 else asked a.value (plainE (if a.kind = 3 then s.locals else s.vars) a.to s).1 s)
 else if comm = true then 7
 else match channel a.to s with
  | none => 8
  | some k => if a.kind = 4 then asked a.value k s else if (plainE s.locals a.loc s).2 ≠ 0 then (plainE s.locals a.loc s).2 else if (plainE s.locals a.loc s).1 ≠ k then 9 else 0
theorem ractE_eq (a : Act) (s : Scope) (comm : Bool) : ractE a s comm = if talks a && comm then 7 else actE a s := by
 by_cases h0 : a.kind < 1 ∨ 5 < a.kind
 ·have ht : talks a = false := by unfold talks; rw [decide_eq_false_iff_not]; omega
  unfold ractE actE
  rw [if_pos h0, ht, if_neg (by omega : ¬ (a.kind = 1 ∨ a.kind = 2 ∨ a.kind = 3)), if_neg (by omega : ¬ (a.kind = 4 ∨ a.kind = 5))]
  simp
 by_cases h2 : a.kind = 2
 ·have ht : talks a = false := by unfold talks; rw [decide_eq_false_iff_not]; omega
  unfold ractE actE
  rw [if_neg h0, if_pos h2, ht, if_pos (by omega : a.kind = 1 ∨ a.kind = 2 ∨ a.kind = 3)]
  simp only [Bool.false_and, Bool.false_eq_true, if_false]
  rw [if_neg (by omega : ¬ a.kind = 3)]
  unfold itemE
  cases hd : declared s.vars a.to s with
  | none => rfl
  | some q =>
   obtain ⟨v, k⟩ := q
   simp only [h2, true_and]
   by_cases hv : v.over = 0
   ·simp [hv]
   ·simp [hv]
 by_cases h1 : a.kind = 1 ∨ a.kind = 3
 ·have ht : talks a = false := by unfold talks; rw [decide_eq_false_iff_not]; omega
  unfold ractE actE
  rw [if_neg h0, if_neg h2, if_pos h1, ht, if_pos (by omega : a.kind = 1 ∨ a.kind = 2 ∨ a.kind = 3)]
  simp only [Bool.false_and, Bool.false_eq_true, if_false]
  unfold plainE
  cases hd : declared (if a.kind = 3 then s.locals else s.vars) a.to s with
  | none => simp
  | some q =>
   obtain ⟨v, k⟩ := q
   simp only [h2, false_and, if_false]
   by_cases hv : v.over = 0
   ·simp [hv]
   ·simp [hv]
 ·have h45 : a.kind = 4 ∨ a.kind = 5 := by omega
  have ht : talks a = true := by unfold talks; rw [decide_eq_true_eq]; omega
  unfold ractE actE
  rw [if_neg h0, if_neg h2, if_neg h1, ht, if_neg (by omega : ¬ (a.kind = 1 ∨ a.kind = 2 ∨ a.kind = 3)), if_pos h45]
  simp only [Bool.true_and]
  cases comm with
  | true => simp
  | false =>
   simp only [Bool.false_eq_true, if_false]
   cases hc : channel a.to s with
   | none => rfl
   | some k =>
    simp only
    by_cases h4 : a.kind = 4
    ·rw [if_pos h4, if_neg (by omega : ¬ a.kind = 5)]
    ·rw [if_neg h4, if_pos (by omega : a.kind = 5)]
     unfold plainE receives
     cases hd : declared s.locals a.loc s with
     | none => simp
     | some q =>
      obtain ⟨v, k'⟩ := q
      simp only
      by_cases hv : v.over = 0
      ·simp [hv]
      ·simp [hv]
end Abs
end
section
set_option linter.unusedSimpArgs false
namespace Go.Proofs.R
open Go Go.RowKit Lite
theorem takes_r (op : Int) (w : World) : Ret Tryz.prog F.lr10_Takes #[.int .i64 op] w fun v w' => v = .int .i64 (Abs.nparts op) ∧ w' = w := by
 have key : ∀ n : Int, (if op = 3 then (1 : Int) else if 1 ≤ op ∧ op ≤ 8 then 0 else if op = 9 ∨ op = 10 then 1 else if 11 ≤ op ∧ op ≤ 19 then 2 else -1) = n → Abs.nparts op = n := fun _ h => h
 refine Ks E.lr10_Takes ?_; dsimp only [C.lr10_Takes]; refine Yy ?_
 (repeat' first
 | (refine K.cond (fun _ => ?_) (fun _ => ?_) <;> try (exfalso; omega))
 | (refine K.condb (fun _ => ?_) (fun _ => ?_))
 | assumption
 | exact Ext.refl _
 | refine Ext.trans ?_ (by assumption)
 | refine K.wrap (by omega) ?_
 | refine K.ldb (by assumption) ?_ rfl ?_
 | refine K.ldb0 (by assumption) ?_ rfl ?_
 | refine K.ldE (by assumption) ?_ (by omega) rfl ?_
 | refine K.ldE0 (by assumption) ?_ (by omega) rfl ?_
 | refine K.ldAE (by assumption) ?_ (by omega) rfl ?_
 | refine K.iaC (by omega) ?_
 | refine K.condT (by first | assumption | omega) ?_
 | refine K.condF (by first | assumption | omega) ?_
 | refine K.condbT (by assumption) ?_
 | refine K.condbF (by assumption) ?_
 | simp -dsimp only [LL,B9,Nat.reduceAdd,Nat.reduceEqDiff,reduceIte,reduceCtorEq,fE])
 all_goals
  refine ⟨?_, Tr⟩
  congr 1
  refine (key _ ?_).symm
  (repeat' split) <;> first | rfl | (exfalso; omega)
theorem np0 {x : Int} (h : Abs.nparts x = 0) : 1 ≤ x ∧ x ≤ 8 ∧ x ≠ 3 ∧ Abs.opOf x = none := by
 have h1 : 1 ≤ x ∧ x ≤ 8 ∧ x ≠ 3 := by unfold Abs.nparts at h; (repeat' split at h) <;> omega
 exact ⟨h1.1, h1.2.1, h1.2.2, Abs.opOf_none (by simp [Abs.isOp]; omega)⟩
theorem np1 {x : Int} (h : Abs.nparts x = 1) : x = 3 ∨ x = 9 ∨ x = 10 := by unfold Abs.nparts at h; (repeat' split at h) <;> omega
theorem np2 {x : Int} (h : Abs.nparts x = 2) : 11 ≤ x ∧ x ≤ 19 := by unfold Abs.nparts at h; (repeat' split at h) <;> omega
theorem opOf_some {x : Int} (h : 9 ≤ x ∧ x ≤ 19) : ∃ o, Abs.opOf x = some o ∧ o.parts = Abs.nparts x := by
 cases ho : Abs.opOf x with
 | some o => exact ⟨o, rfl, (Abs.opOf_parts ho).1⟩
 | none =>
  exfalso
  unfold Abs.opOf at ho
  (repeat' split at ho)
  all_goals first | (cases ho; done) | omega
theorem drop1 {st : List Int} (h : 1 ≤ st.length) : st.drop (st.length - 1) = [st[st.length - 1]] := by
 rw [List.drop_eq_getElem_cons (by omega), List.drop_eq_nil_of_le (by omega)]
theorem drop2 {st : List Int} (h : 2 ≤ st.length) : st.drop (st.length - 2) = [st[st.length - 2], st[st.length - 1]] := by
 rw [List.drop_eq_getElem_cons (by omega)]
 have e : st.length - 2 + 1 = st.length - 1 := by omega
 congr 1
 rw [e]
 exact drop1 (by omega)
theorem encI1 : ∀ y, ∀ u ∈ encI y, u.oneCell' = true := fun y u h => by simp [encI] at h; subst h; rfl
end Go.Proofs.R
end
section
set_option linter.unusedSimpArgs false
namespace Go.Proofs.R
open Go Go.RowKit Lite
theorem rscalar_r (n : Int) (cs : List Value) (s : Abs.Scope) (w : World) (h : Abs.SI w cs s) :
  Ret Tryz.prog F.lr10_scalar #[.int .i64 n, .agg cs.toArray] w fun v w' => v = .bool (Abs.kscalar n s).2 ∧ Ext w w' := by
 obtain ⟨a0, c0, a1, c1, a2, c2, a3, c3, a4, c4, rfl, h0, h1, h2, h3, h4, l0, l1, l2, l3, l4⟩ := h.form
 refine Ks E.lr10_scalar ?_; dsimp only [C.lr10_scalar]; refine Yy ?_
 refine St ?_
 refine K.new fun w1 b hb he1 hc1 => ?_
 (repeat' first
 | (refine K.cond (fun _ => ?_) (fun _ => ?_) <;> try (exfalso; omega))
 | (refine K.condb (fun _ => ?_) (fun _ => ?_))
 | assumption
 | exact Ext.refl _
 | refine Ext.trans ?_ (by assumption)
 | refine K.wrap (by omega) ?_
 | refine K.ldb (by assumption) ?_ rfl ?_
 | refine K.ldb0 (by assumption) ?_ rfl ?_
 | refine K.ldE (by assumption) ?_ (by omega) rfl ?_
 | refine K.ldE0 (by assumption) ?_ (by omega) rfl ?_
 | refine K.ldAE (by assumption) ?_ (by omega) rfl ?_
 | refine K.iaC (by omega) ?_
 | refine K.condT (by first | assumption | omega) ?_
 | refine K.condF (by first | assumption | omega) ?_
 | refine K.condbT (by assumption) ?_
 | refine K.condbF (by assumption) ?_
 | simp -dsimp only [LL,B9,Nat.reduceAdd,Nat.reduceEqDiff,reduceIte,reduceCtorEq,fE])
 all_goals
  refine ⟨?_, Ex⟩
  congr 1
  unfold Abs.kscalar
  (repeat' split) <;> first | rfl | (exfalso; omega) | (simp; omega)
def kindOf (n : Int) : Int := if n = 0 then 0 else 1 + n
theorem kindOf_r (n : Int) (w : World) (h : 0 ≤ n ∧ n ≤ 4611686018427387904) : Ret Tryz.prog F.lr10_KindOf #[.int .i64 n] w fun v w' => v = .int .i64 (kindOf n) ∧ w' = w := by
 refine Ks E.lr10_KindOf ?_; dsimp only [C.lr10_KindOf]; refine Yy ?_
 (repeat' first
 | (refine K.cond (fun _ => ?_) (fun _ => ?_) <;> try (exfalso; omega))
 | (refine K.condb (fun _ => ?_) (fun _ => ?_))
 | assumption
 | exact Ext.refl _
 | refine Ext.trans ?_ (by assumption)
 | refine K.wrap (by omega) ?_
 | refine K.ldb (by assumption) ?_ rfl ?_
 | refine K.ldb0 (by assumption) ?_ rfl ?_
 | refine K.ldE (by assumption) ?_ (by omega) rfl ?_
 | refine K.ldE0 (by assumption) ?_ (by omega) rfl ?_
 | refine K.ldAE (by assumption) ?_ (by omega) rfl ?_
 | refine K.iaC (by omega) ?_
 | refine K.condT (by first | assumption | omega) ?_
 | refine K.condF (by first | assumption | omega) ?_
 | refine K.condbT (by assumption) ?_
 | refine K.condbF (by assumption) ?_
 | simp -dsimp only [LL,B9,Nat.reduceAdd,Nat.reduceEqDiff,reduceIte,reduceCtorEq,fE])
 all_goals
  refine ⟨?_, Tr⟩
  congr 1
  unfold kindOf
  split <;> first | rfl | (exfalso; omega)
theorem kscalar_ok {n : Int} {s : Abs.Scope} (h : (Abs.kscalar n s).2 = true) : 0 ≤ n ∧ n ≤ s.scalars.length ∧ (Abs.kscalar n s).1 = kindOf n := by
 unfold Abs.kscalar kindOf at *
 (repeat' split at h) <;> (repeat' split) <;> first | (cases h; done) | (refine ⟨by omega, by omega, ?_⟩; first | rfl | omega) | (exfalso; omega)
theorem rvariable_r (v : Value) (l : List Abs.Var) (n : Int) (cs : List Value) (s : Abs.Scope) (w : World) (hl : Abs.Vars w v l) (h : Abs.SI w cs s) :
  Ret Tryz.prog F.lr10_Variable #[v, .int .i64 n, .agg cs.toArray] w fun v w' =>
   (∃ x : Abs.Var, v = .tuple #[.agg x.enc.toArray, .bool (Abs.kvar l n s).2.2] ∧ ((Abs.kvar l n s).2.2 = true → Abs.nth l n = some x)) ∧ Ext w w' := by
 obtain ⟨a0, c0, a1, c1, a2, c2, a3, c3, a4, c4, rfl, _⟩ := h.form
 obtain ⟨oa, cap, rfl, hlen⟩ := hl.form
 refine Ks E.lr10_Variable ?_; dsimp only [C.lr10_Variable]; refine Yy ?_
 refine St ?_
 refine K.new fun w1 b hb he1 hc1 => ?_
 refine St ?_
 refine K.new fun w2 b2 hb2 he2 hc2 => ?_
 have he := he1.trans he2
 have hs2 := he2.obj hc1
 refine St ?_
 apply K.cond <;> intro g1
 ·have hk : (Abs.kvar l n s).2.2 = false := by rw [Abs.kvar, Abs.nth_none (.inl g1)]
  refine St ?_
  intro w3 he3
  refine St ?_
  refine K.bld (cs := (⟨⟨#[]⟩, 0, 0, 0, 0, 0⟩ : Abs.Var).enc) (by simp [fillC, Abs.Var.enc]) ?_
  refine St ?_
  refine K.stAb (cs := (⟨⟨#[]⟩, 0, 0, 0, 0, 0⟩ : Abs.Var).enc.toArray) (he3.obj hc2) rfl rfl (by simp [Abs.Var.enc, Value.oneCell']) fun w4 hw4 hc4 => ?_
  refine St ?_
  refine K.ldAb (c := Abs.Var.enc _) hc4 (Ext.refl _) rfl ?_
  refine St ?_
  exact ⟨⟨_, by rw [hk], by rw [hk]; intro h; cases h⟩, hw4.ext (he.trans he3) (by have := he1.size; omega)⟩
 refine St ?_
 apply K.cond <;> intro g2
 ·have hk : (Abs.kvar l n s).2.2 = false := by rw [Abs.kvar, Abs.nth_none (.inr (by omega))]
  refine St ?_
  intro w3 he3
  refine St ?_
  refine K.bld (cs := (⟨⟨#[]⟩, 0, 0, 0, 0, 0⟩ : Abs.Var).enc) (by simp [fillC, Abs.Var.enc]) ?_
  refine St ?_
  refine K.stAb (cs := (⟨⟨#[]⟩, 0, 0, 0, 0, 0⟩ : Abs.Var).enc.toArray) (he3.obj hc2) rfl rfl (by simp [Abs.Var.enc, Value.oneCell']) fun w4 hw4 hc4 => ?_
  refine St ?_
  refine K.ldAb (c := Abs.Var.enc _) hc4 (Ext.refl _) rfl ?_
  refine St ?_
  exact ⟨⟨_, by rw [hk], by rw [hk]; intro h; cases h⟩, hw4.ext (he.trans he3) (by have := he1.size; omega)⟩
 obtain ⟨i, rfl⟩ := Int.eq_ofNat_of_zero_le (show 0 ≤ n by omega)
 have hi : i < l.length := by omega
 have hn : Abs.nth l (i : Int) = some l[i] := by rw [Abs.nth_some (by omega) (by omega)]; simp only [Int.toNat_natCast]
 obtain ⟨a, rfl⟩ := hl.addr (by omega)
 refine St ?_
 refine K.ldAb (c := [_, _, _, _, _, _]) hs2 (Ext.refl _) rfl ?_
 refine St ?_
 refine K.qfn _ (fun w' e => rscalar_r _ _ s w' (h.ext (he.trans e))) ?_
 refine St ?_
 refine K.condb (fun g3 => ?_) (fun g3 => ?_)
 rotate_left
 ·have hk : (Abs.kvar l i s).2.2 = false := by rw [Abs.kvar, hn]; simp only [g3, Bool.false_and]
  refine St ?_
  intro w3 he3
  refine St ?_
  refine K.bld (cs := (⟨⟨#[]⟩, 0, 0, 0, 0, 0⟩ : Abs.Var).enc) (by simp [fillC, Abs.Var.enc]) ?_
  refine St ?_
  refine K.stAb (cs := (⟨⟨#[]⟩, 0, 0, 0, 0, 0⟩ : Abs.Var).enc.toArray) (he3.obj hc2) rfl rfl (by simp [Abs.Var.enc, Value.oneCell']) fun w4 hw4 hc4 => ?_
  refine St ?_
  refine K.ldAb (c := Abs.Var.enc _) hc4 (Ext.refl _) rfl ?_
  refine St ?_
  exact ⟨⟨_, by rw [hk], by rw [hk]; intro h; cases h⟩, hw4.ext (he.trans he3) (by have := he1.size; omega)⟩
 refine St ?_
 refine K.ldAb (c := [_, _, _, _, _, _]) hs2 (Ext.refl _) rfl ?_
 refine St ?_
 refine K.qfn _ (fun w' e => rscalar_r _ _ s w' (h.ext (he.trans e))) ?_
 refine St ?_
 cases g4 : (Abs.kscalar l[i].over s).2 with
 | false =>
  have hk : (Abs.kvar l i s).2.2 = false := by rw [Abs.kvar, hn]; simp only [g4, Bool.and_false]
  refine St ?_
  intro w3 he3
  refine St ?_
  refine K.bld (cs := (⟨⟨#[]⟩, 0, 0, 0, 0, 0⟩ : Abs.Var).enc) (by simp [fillC, Abs.Var.enc]) ?_
  refine St ?_
  refine K.stAb (cs := (⟨⟨#[]⟩, 0, 0, 0, 0, 0⟩ : Abs.Var).enc.toArray) (he3.obj hc2) rfl rfl (by simp [Abs.Var.enc, Value.oneCell']) fun w4 hw4 hc4 => ?_
  refine St ?_
  refine K.ldAb (c := Abs.Var.enc _) hc4 (Ext.refl _) rfl ?_
  refine St ?_
  exact ⟨⟨_, by rw [hk], by rw [hk]; intro h; cases h⟩, hw4.ext (he.trans he3) (by have := he1.size; omega)⟩
 | true =>
  have hk : (Abs.kvar l i s).2.2 = true := by rw [Abs.kvar, hn]; simp only [g3, g4, Bool.and_true]
  refine St ?_
  intro w3 he3
  refine St ?_
  refine K.stAb (cs := l[i].enc.toArray) (he3.obj hc2) rfl rfl (by simp [Abs.Var.enc, Value.oneCell']) fun w4 hw4 hc4 => ?_
  refine St ?_
  refine K.ldAb (c := Abs.Var.enc _) hc4 (Ext.refl _) rfl ?_
  refine St ?_
  exact ⟨⟨_, by rw [hk], fun _ => hn⟩, hw4.ext (he.trans he3) (by have := he1.size; omega)⟩
theorem rchannel_r (n : Int) (cs : List Value) (s : Abs.Scope) (w : World) (h : Abs.SI w cs s) :
  Ret Tryz.prog F.lr10_Channel #[.int .i64 n, .agg cs.toArray] w fun v w' =>
   (∃ x : Abs.Chan, v = .tuple #[.agg x.enc.toArray, .bool (decide ((Abs.kLen n s).2 = 0))] ∧ ((Abs.kLen n s).2 = 0 → Abs.nth s.chans n = some x)) ∧ Ext w w' := by
 obtain ⟨a0, c0, a1, c1, a2, c2, a3, c3, a4, c4, rfl, h0, h1, h2, h3, h4, l0, l1, l2, l3, l4⟩ := h.form
 refine Ks E.lr10_Channel ?_; dsimp only [C.lr10_Channel]; refine Yy ?_
 refine St ?_
 refine K.new fun w1 b hb he1 hc1 => ?_
 refine St ?_
 refine K.new fun w2 b2 hb2 he2 hc2 => ?_
 have he := he1.trans he2
 have hs2 := he2.obj hc1
 refine St ?_
 apply K.cond <;> intro g1
 ·have hk : (Abs.kLen n s).2 = 8 := by rw [Abs.kLen, Abs.nth_none (.inl g1)]
  refine St ?_
  intro w3 he3
  refine St ?_
  refine K.bld (cs := (⟨⟨#[]⟩, 0, 0, 0, 0, false⟩ : Abs.Chan).enc) (by simp [fillC, Abs.Chan.enc]) ?_
  refine St ?_
  refine K.stAb (cs := (⟨⟨#[]⟩, 0, 0, 0, 0, false⟩ : Abs.Chan).enc.toArray) (he3.obj hc2) rfl rfl (by simp [Abs.Chan.enc, Value.oneCell']) fun w4 hw4 hc4 => ?_
  refine St ?_
  refine K.ldAb (c := Abs.Chan.enc _) hc4 (Ext.refl _) rfl ?_
  refine St ?_
  exact ⟨⟨_, by rw [hk]; rfl, by rw [hk]; intro h; cases h⟩, hw4.ext (he.trans he3) (by have := he1.size; omega)⟩
 refine St ?_
 apply K.cond <;> intro g2
 ·have hk : (Abs.kLen n s).2 = 8 := by rw [Abs.kLen, Abs.nth_none (.inr (by omega))]
  refine St ?_
  intro w3 he3
  refine St ?_
  refine K.bld (cs := (⟨⟨#[]⟩, 0, 0, 0, 0, false⟩ : Abs.Chan).enc) (by simp [fillC, Abs.Chan.enc]) ?_
  refine St ?_
  refine K.stAb (cs := (⟨⟨#[]⟩, 0, 0, 0, 0, false⟩ : Abs.Chan).enc.toArray) (he3.obj hc2) rfl rfl (by simp [Abs.Chan.enc, Value.oneCell']) fun w4 hw4 hc4 => ?_
  refine St ?_
  refine K.ldAb (c := Abs.Chan.enc _) hc4 (Ext.refl _) rfl ?_
  refine St ?_
  exact ⟨⟨_, by rw [hk]; rfl, by rw [hk]; intro h; cases h⟩, hw4.ext (he.trans he3) (by have := he1.size; omega)⟩
 obtain ⟨i, rfl⟩ := Int.eq_ofNat_of_zero_le (show 0 ≤ n by omega)
 have hi : i < s.chans.length := by omega
 have hn : Abs.nth s.chans (i : Int) = some s.chans[i] := by rw [Abs.nth_some (by omega) (by omega)]; simp only [Int.toNat_natCast]
 obtain ⟨a, rfl⟩ := h2.addr (by omega)
 refine St ?_
 refine K.ldAb (c := [_, _, _, _, _, _]) hs2 (Ext.refl _) rfl ?_
 refine St ?_
 refine K.qfn _ (fun w' e => rscalar_r _ _ s w' (h.ext (he.trans e))) ?_
 refine St ?_
 cases g4 : (Abs.kscalar s.chans[i].scalar s).2 with
 | false =>
  have hk : (Abs.kLen i s).2 = 8 := by rw [Abs.kLen, hn]; simp only [g4, Bool.false_eq_true, if_false]
  refine St ?_
  intro w3 he3
  refine St ?_
  refine K.bld (cs := (⟨⟨#[]⟩, 0, 0, 0, 0, false⟩ : Abs.Chan).enc) (by simp [fillC, Abs.Chan.enc]) ?_
  refine St ?_
  refine K.stAb (cs := (⟨⟨#[]⟩, 0, 0, 0, 0, false⟩ : Abs.Chan).enc.toArray) (he3.obj hc2) rfl rfl (by simp [Abs.Chan.enc, Value.oneCell']) fun w4 hw4 hc4 => ?_
  refine St ?_
  refine K.ldAb (c := Abs.Chan.enc _) hc4 (Ext.refl _) rfl ?_
  refine St ?_
  exact ⟨⟨_, by rw [hk]; rfl, by rw [hk]; intro h; cases h⟩, hw4.ext (he.trans he3) (by have := he1.size; omega)⟩
 | true =>
  have hk : (Abs.kLen i s).2 = 0 := by rw [Abs.kLen, hn]; simp only [g4, if_true]
  refine St ?_
  intro w3 he3
  refine St ?_
  refine K.stAb (cs := s.chans[i].enc.toArray) (he3.obj hc2) rfl rfl (by simp [Abs.Chan.enc, Value.oneCell']) fun w4 hw4 hc4 => ?_
  refine St ?_
  refine K.ldAb (c := Abs.Chan.enc _) hc4 (Ext.refl _) rfl ?_
  refine St ?_
  exact ⟨⟨_, by rw [hk]; rfl, fun _ => hn⟩, hw4.ext (he.trans he3) (by have := he1.size; omega)⟩
end Go.Proofs.R
end
section
set_option linter.unusedSimpArgs false
namespace Go.Proofs.R
open Go Go.RowKit Lite
theorem kvar_ok {l : List Abs.Var} {n : Int} {s : Abs.Scope} {x : Abs.Var} (h : (Abs.kvar l n s).2.2 = true) (hx : Abs.nth l n = some x) :
  (Abs.kvar l n s).1 = kindOf x.scalar ∧ (Abs.kvar l n s).2.1 = kindOf x.over ∧ 0 ≤ x.scalar ∧ x.scalar ≤ s.scalars.length ∧ 0 ≤ x.over ∧ x.over ≤ s.scalars.length := by
 unfold Abs.kvar at h ⊢
 rw [hx] at h ⊢
 simp only [Bool.and_eq_true] at h ⊢
 obtain ⟨a1, a2, a3⟩ := kscalar_ok h.1
 obtain ⟨b1, b2, b3⟩ := kscalar_ok h.2
 exact ⟨a3, b3, a1, a2, b1, b2⟩
theorem rleaf_r (x : Abs.Node) (cs : List Value) (s : Abs.Scope) (w : World) (hx : x.ok) (h : Abs.SI w cs s) (hop : 1 ≤ x.op ∧ x.op ≤ 8) (h3 : x.op ≠ 3) (t : Int) :
  Ret Tryz.prog F.lr10_leaf #[.agg x.enc.toArray, .agg cs.toArray] w fun v w' => v = .tuple #[.int .i64 (Abs.kleaf x s t).1, .int .i64 (Abs.kleaf x s t).2] ∧ Ext w w' := by
 obtain ⟨a0, c0, a1, c1, a2, c2, a3, c3, a4, c4, rfl, q0, q1, q2, q3, q4, l0, l1, l2, l3, l4⟩ := h.form
 refine Ks E.lr10_leaf ?_; dsimp only [C.lr10_leaf]; refine Yy ?_
 refine St ?_
 refine K.new fun w1 b1 hb1 he1 hc1 => ?_
 refine St ?_
 refine K.new fun w2 b2 hb2 he2 hc2 => ?_
 have he := he1.trans he2
 have k1 : w2.heap[b1]? = some (.cells #[.int .i64 x.op, .int .i64 x.n] T.n) := he2.obj hc1
 clear hc1
 refine St ?_
 apply K.cond <;> intro g1
 ·have hk : Abs.kleaf x s t = if Abs.within x.n then (0, 0) else (0, 10) := by rw [Abs.kleaf, if_pos g1]
  (repeat' first
 | (refine K.cond (fun _ => ?_) (fun _ => ?_) <;> try (exfalso; omega))
 | (refine K.condb (fun _ => ?_) (fun _ => ?_))
 | assumption
 | exact Ext.refl _
 | refine Ext.trans ?_ (by assumption)
 | refine K.wrap (by omega) ?_
 | refine K.ldb (by assumption) ?_ rfl ?_
 | refine K.ldb0 (by assumption) ?_ rfl ?_
 | refine K.ldE (by assumption) ?_ (by omega) rfl ?_
 | refine K.ldE0 (by assumption) ?_ (by omega) rfl ?_
 | refine K.ldAE (by assumption) ?_ (by omega) rfl ?_
 | refine K.iaC (by omega) ?_
 | refine K.condT (by first | assumption | omega) ?_
 | refine K.condF (by first | assumption | omega) ?_
 | refine K.condbT (by assumption) ?_
 | refine K.condbF (by assumption) ?_
 | simp -dsimp only [LL,B9,Nat.reduceAdd,Nat.reduceEqDiff,reduceIte,reduceCtorEq,fE])
  all_goals
   refine ⟨?_, Ex⟩
   rw [hk]
   unfold Abs.within
   split <;> first | rfl | (rename_i hh; simp at hh; exfalso; omega)
 by_cases hv : x.op = 2 ∨ x.op = 4
 ·have hk : Abs.kleaf x s t = (let q := Abs.kvar (if x.op = 4 then s.locals else s.vars) x.n s; if q.2.2 = false then (0, 8) else if (x.op = 3 ∧ (q.2.1 = 0 ∨ t ≠ q.2.1)) ∨ (x.op ≠ 3 ∧ q.2.1 ≠ 0) then (0, 9) else (q.1, 0)) := by
   rw [Abs.kleaf, if_neg g1, if_pos (by omega)]
  by_cases g4 : x.op = 4
  ·rw [if_pos g4] at hk
   rw [hk]
   refine St ?_
   refine K.ldAb (c := [_, _, _, _, _, _]) hc2 (Ext.refl _) rfl ?_
   refine St ?_
   refine K.call (rvariable_r _ s.locals x.n _ s w2 (q4.ext he) (h.ext he)) ?_
   rintro _ w3 ⟨⟨y, rfl, hy⟩, he3⟩
   have hok : (Abs.kvar s.locals x.n s).2.2 = true → _ := fun g => kvar_ok g (hy g)
   clear hy hk
   generalize Abs.kvar s.locals x.n s = q at hok ⊢
   obtain ⟨qk, qo, qi⟩ := q
   refine St ?_
   refine K.newst (vs := y.enc) (fun _ => by simp -dsimp only [LL,B9,Nat.reduceAdd,Nat.reduceEqDiff,reduceIte,reduceCtorEq,fE]) rfl rfl (by simp [Abs.Var.enc, Value.oneCell']) fun w4 b4 hb4 he4 hc4 => ?_
   have k4 : w4.heap[b4]? = some (.cells #[.string y.name, .int .i64 y.scalar, .int .i64 y.over, .int .i64 y.lo, .int .i64 y.hi, .int .i64 y.init] T.f) := hc4
   clear hc4
   refine St ?_
   refine K.condb (fun g5 => ?_) (fun g5 => ?_)
   rotate_left
   ·refine St ?_
    simp only [g5, if_true]
    exact En
   obtain ⟨z1, z2, z3, z4, z5, z6⟩ := hok g5
   have hko : kindOf y.over = 0 ↔ y.over = 0 := by unfold kindOf; split <;> omega
   have z1' : qk = kindOf y.scalar := z1
   have z2' : qo = kindOf y.over := z2
   refine St ?_
   apply K.cond <;> intro g6
   ·refine St ?_
    refine K.call (kindOf_r y.scalar w4 (by omega)) ?_
    rintro _ _ ⟨rfl, rfl⟩
    refine St ?_
    simp only [g5, Bool.true_eq_false, if_false, z1', z2']
    rw [if_neg (by rw [ne_eq, hko]; omega)]
    exact En
   ·refine St ?_
    simp only [g5, Bool.true_eq_false, if_false, z1', z2']
    rw [if_pos (.inr ⟨h3, by rw [ne_eq, hko]; exact g6⟩)]
    exact En
  ·rw [if_neg g4] at hk
   rw [hk]
   refine St ?_
   refine K.ldAb (c := [_, _, _, _, _, _]) hc2 (Ext.refl _) rfl ?_
   refine St ?_
   refine K.call (rvariable_r _ s.vars x.n _ s w2 (q1.ext he) (h.ext he)) ?_
   rintro _ w3 ⟨⟨y, rfl, hy⟩, he3⟩
   have hok : (Abs.kvar s.vars x.n s).2.2 = true → _ := fun g => kvar_ok g (hy g)
   clear hy hk
   generalize Abs.kvar s.vars x.n s = q at hok ⊢
   obtain ⟨qk, qo, qi⟩ := q
   refine St ?_
   refine K.newst (vs := y.enc) (fun _ => by simp -dsimp only [LL,B9,Nat.reduceAdd,Nat.reduceEqDiff,reduceIte,reduceCtorEq,fE]) rfl rfl (by simp [Abs.Var.enc, Value.oneCell']) fun w4 b4 hb4 he4 hc4 => ?_
   have k4 : w4.heap[b4]? = some (.cells #[.string y.name, .int .i64 y.scalar, .int .i64 y.over, .int .i64 y.lo, .int .i64 y.hi, .int .i64 y.init] T.f) := hc4
   clear hc4
   refine St ?_
   refine K.condb (fun g5 => ?_) (fun g5 => ?_)
   rotate_left
   ·refine St ?_
    simp only [g5, if_true]
    exact En
   obtain ⟨z1, z2, z3, z4, z5, z6⟩ := hok g5
   have hko : kindOf y.over = 0 ↔ y.over = 0 := by unfold kindOf; split <;> omega
   have z1' : qk = kindOf y.scalar := z1
   have z2' : qo = kindOf y.over := z2
   refine St ?_
   apply K.cond <;> intro g6
   ·refine St ?_
    refine K.call (kindOf_r y.scalar w4 (by omega)) ?_
    rintro _ _ ⟨rfl, rfl⟩
    refine St ?_
    simp only [g5, Bool.true_eq_false, if_false, z1', z2']
    rw [if_neg (by rw [ne_eq, hko]; omega)]
    exact En
   ·refine St ?_
    simp only [g5, Bool.true_eq_false, if_false, z1', z2']
    rw [if_pos (.inr ⟨h3, by rw [ne_eq, hko]; exact g6⟩)]
    exact En
 have hk : Abs.kleaf x s t = Abs.knamed x s := by rw [Abs.kleaf, if_neg g1, if_neg (by omega)]
 rw [hk]
 clear hk
 refine St ?_
 apply K.cond <;> intro g5
 ·(repeat' first
 | (refine K.cond (fun _ => ?_) (fun _ => ?_) <;> try (exfalso; omega))
 | (refine K.condb (fun _ => ?_) (fun _ => ?_))
 | assumption
 | exact Ext.refl _
 | refine Ext.trans ?_ (by assumption)
 | refine K.wrap (by omega) ?_
 | refine K.ldb (by assumption) ?_ rfl ?_
 | refine K.ldb0 (by assumption) ?_ rfl ?_
 | refine K.ldE (by assumption) ?_ (by omega) rfl ?_
 | refine K.ldE0 (by assumption) ?_ (by omega) rfl ?_
 | refine K.ldAE (by assumption) ?_ (by omega) rfl ?_
 | refine K.iaC (by omega) ?_
 | refine K.condT (by first | assumption | omega) ?_
 | refine K.condF (by first | assumption | omega) ?_
 | refine K.condbT (by assumption) ?_
 | refine K.condbF (by assumption) ?_
 | simp -dsimp only [LL,B9,Nat.reduceAdd,Nat.reduceEqDiff,reduceIte,reduceCtorEq,fE])
  all_goals
   refine ⟨?_, Ex⟩
   rw [Abs.knamed, if_pos g5]
   split <;> first | rfl | (exfalso; omega)
 refine St ?_
 apply K.cond <;> intro g6
 ·have hk : Abs.knamed x s = Abs.kLen x.n s := by rw [Abs.knamed, if_neg g5, if_pos g6]
  rw [hk]
  have hk1 : (Abs.kLen x.n s).1 = 0 ∧ ((Abs.kLen x.n s).2 = 0 ∨ (Abs.kLen x.n s).2 = 8) := by
   unfold Abs.kLen; (repeat' split) <;> simp
  refine St ?_
  refine K.ldAb (c := [_, _, _, _, _, _]) hc2 (Ext.refl _) rfl ?_
  refine St ?_
  refine K.call (rchannel_r x.n _ s w2 (h.ext he)) ?_
  rintro _ w3 ⟨⟨y, rfl, hy⟩, he3⟩
  generalize Abs.kLen x.n s = q at *
  obtain ⟨q1, q2⟩ := q
  obtain ⟨rfl, hq⟩ := hk1
  refine St ?_
  refine K.newst (vs := y.enc) (fun _ => by simp -dsimp only [LL,B9,Nat.reduceAdd,Nat.reduceEqDiff,reduceIte,reduceCtorEq,fE]) rfl rfl (by simp [Abs.Chan.enc, Value.oneCell']) fun w4 b4 hb4 he4 hc4 => ?_
  refine St ?_
  apply K.cond <;> intro g7
  ·refine St ?_
   have g8 : q2 = 0 := g7
   rw [g8]
   exact En
  ·refine St ?_
   have : q2 = 8 := hq.resolve_left g7
   rw [this]
   exact En
 refine St ?_
 apply K.cond <;> intro g7
 ·have hk : Abs.knamed x s = Abs.kAt x.n s := by rw [Abs.knamed, if_neg g5, if_neg g6, if_pos g7]
  rw [hk, Abs.kAt]
  refine St ?_
  apply K.cond <;> intro g1
  ·refine St ?_
   intro w3 he3
   refine St ?_
   rw [if_neg (by omega)]
   exact En
  rw [if_pos (by omega)]
  obtain ⟨i, hi⟩ := Int.eq_ofNat_of_zero_le (show 0 ≤ x.n by omega)
  obtain ⟨_, hx2⟩ := hx.n
  rw [hi] at hx2
  have hq : x.n.tdiv 16 = ((i / 16 : Nat) : Int) := by rw [hi]; rfl
  have hm : x.n.tmod 16 = ((i % 16 : Nat) : Int) := by rw [hi]; rfl
  refine St ?_
  refine K.quo (by omega) ?_
  rw [hq]
  refine St ?_
  apply K.cond <;> intro g2
  ·refine St ?_
   intro w3 he3
   refine St ?_
   rw [Abs.nth_none (.inr (by omega))]
   exact En
  have hj : i / 16 < s.procs.length := by omega
  rw [Abs.nth_some (by omega) (by omega)]
  simp only [Int.toNat_natCast]
  refine St ?_
  refine K.rem (by omega) ?_
  refine St ?_
  refine K.quo (by omega) ?_
  rw [hq]
  obtain ⟨a, rfl⟩ := q3.addr (by omega)
  obtain ⟨_, vv, vc, hcp, _⟩ := q3.at (i / 16) hj
  have hcp2 : w.cell? ((a.add (i / 16 * 5)).add 2) = some (.int .i64 s.procs[i / 16].locs) := hcp 2 _ rfl
  refine St ?_
  refine K.ld ((he1.trans he2).cell hcp2) ?_
  refine St ?_
  rw [hm]
  intro w3 he3
  refine St ?_
  apply K.cond <;> intro g3
  all_goals
   refine St ?_
   refine ⟨?_, Ex⟩
   first | rw [if_pos (by omega)] | rw [if_neg (by omega)]
 (repeat' first
 | (refine K.cond (fun _ => ?_) (fun _ => ?_) <;> try (exfalso; omega))
 | (refine K.condb (fun _ => ?_) (fun _ => ?_))
 | assumption
 | exact Ext.refl _
 | refine Ext.trans ?_ (by assumption)
 | refine K.wrap (by omega) ?_
 | refine K.ldb (by assumption) ?_ rfl ?_
 | refine K.ldb0 (by assumption) ?_ rfl ?_
 | refine K.ldE (by assumption) ?_ (by omega) rfl ?_
 | refine K.ldE0 (by assumption) ?_ (by omega) rfl ?_
 | refine K.ldAE (by assumption) ?_ (by omega) rfl ?_
 | refine K.iaC (by omega) ?_
 | refine K.condT (by first | assumption | omega) ?_
 | refine K.condF (by first | assumption | omega) ?_
 | refine K.condbT (by assumption) ?_
 | refine K.condbF (by assumption) ?_
 | simp -dsimp only [LL,B9,Nat.reduceAdd,Nat.reduceEqDiff,reduceIte,reduceCtorEq,fE])
 all_goals
  refine ⟨?_, Ex⟩
  rw [Abs.knamed, if_neg g5, if_neg g6, if_neg g7, if_pos (by omega)]
  split <;> first | rfl | (exfalso; omega)
end Go.Proofs.R
end
section
set_option linter.unusedSimpArgs false
namespace Go.Proofs.R
open Go Go.RowKit Lite
theorem ktwo1 (o : Abs.OpD) (k : Int) : Abs.ktwo o [k] = if o.takes = -1 ∨ k = o.takes then (o.makes, 0) else (0, 9) := by
 simp [Abs.ktwo]
theorem ktwo2 (o : Abs.OpD) (a b : Int) : Abs.ktwo o [a, b] = if (o.takes = -1 ∨ a = o.takes) ∧ a = b then (o.makes, 0) else (0, 9) := by
 simp only [Abs.ktwo, List.all_cons, List.all_nil, List.headD_cons, Bool.and_true, decide_true]
 by_cases h : a = b
 ·subst h; simp
 ·have h' : ¬ b = a := fun e => h e.symm
  simp [h, h']
def oneK (x : Abs.Node) (k : Int) (s : Abs.Scope) : Int × Int := match Abs.opOf x.op with | some o => Abs.ktwo o [k] | none => Abs.kleaf x s k
theorem rone_r (x : Abs.Node) (k : Int) (cs : List Value) (s : Abs.Scope) (w : World) (h : Abs.SI w cs s) (hop : x.op = 3 ∨ x.op = 9 ∨ x.op = 10) :
  Ret Tryz.prog F.lr10_one #[.agg x.enc.toArray, .int .i64 k, .agg cs.toArray] w fun v w' => v = .tuple #[.int .i64 (oneK x k s).1, .int .i64 (oneK x k s).2] ∧ Ext w w' := by
 obtain ⟨a0, c0, a1, c1, a2, c2, a3, c3, a4, c4, rfl, q0, q1, q2, q3, q4, l0, l1, l2, l3, l4⟩ := h.form
 refine Ks E.lr10_one ?_; dsimp only [C.lr10_one]; refine Yy ?_
 refine St ?_
 refine K.new fun w1 b1 hb1 he1 hc1 => ?_
 refine St ?_
 refine K.new fun w2 b2 hb2 he2 hc2 => ?_
 have he := he1.trans he2
 have k1 : w2.heap[b1]? = some (.cells #[.int .i64 x.op, .int .i64 x.n] T.n) := he2.obj hc1
 clear hc1
 refine St ?_
 apply K.cond <;> intro g1
 ·have ho : Abs.opOf x.op = none := by rw [g1]; rfl
  have hk : oneK x k s = (let q := Abs.kvar s.vars x.n s; if q.2.2 = false then (0, 8) else if (x.op = 3 ∧ (q.2.1 = 0 ∨ k ≠ q.2.1)) ∨ (x.op ≠ 3 ∧ q.2.1 ≠ 0) then (0, 9) else (q.1, 0)) := by
   rw [oneK, ho]
   simp only
   rw [Abs.kleaf, if_neg (by omega), if_pos (by omega)]
   simp only [show ¬ x.op = 4 from by omega, if_false]
  rw [hk]
  refine St ?_
  refine K.ldAb (c := [_, _, _, _, _, _]) hc2 (Ext.refl _) rfl ?_
  refine St ?_
  refine K.call (rvariable_r _ s.vars x.n _ s w2 (q1.ext he) (h.ext he)) ?_
  rintro _ w3 ⟨⟨y, rfl, hy⟩, he3⟩
  have hok : (Abs.kvar s.vars x.n s).2.2 = true → _ := fun g => kvar_ok g (hy g)
  clear hy hk
  generalize Abs.kvar s.vars x.n s = q at hok ⊢
  obtain ⟨qk, qo, qi⟩ := q
  refine St ?_
  refine K.newst (vs := y.enc) (fun _ => by simp -dsimp only [LL,B9,Nat.reduceAdd,Nat.reduceEqDiff,reduceIte,reduceCtorEq,fE]) rfl rfl (by simp [Abs.Var.enc, Value.oneCell']) fun w4 b4 hb4 he4 hc4 => ?_
  have k4 : w4.heap[b4]? = some (.cells #[.string y.name, .int .i64 y.scalar, .int .i64 y.over, .int .i64 y.lo, .int .i64 y.hi, .int .i64 y.init] T.f) := hc4
  clear hc4
  refine St ?_
  refine K.condb (fun g5 => ?_) (fun g5 => ?_)
  rotate_left
  ·refine St ?_
   simp only [g5, if_true]
   exact En
  obtain ⟨z1, z2, z3, z4, z5, z6⟩ := hok g5
  have z1' : qk = kindOf y.scalar := z1
  have z2' : qo = kindOf y.over := z2
  have hko : qo = if y.over = 0 then 0 else 1 + y.over := z2'
  refine St ?_
  apply K.cond <;> intro g6
  ·refine St ?_
   simp only [g5, Bool.true_eq_false, if_false]
   rw [if_pos (.inl ⟨g1, .inl (by rw [hko, if_pos g6])⟩)]
   exact En
  rw [if_neg g6] at hko
  refine St ?_
  apply K.cond <;> intro g7
  rotate_left
  ·refine St ?_
   simp only [g5, Bool.true_eq_false, if_false]
   rw [if_pos (.inl ⟨g1, .inr (by omega)⟩)]
   exact En
  refine St ?_
  refine K.call (kindOf_r y.scalar w4 (by omega)) ?_
  rintro _ _ ⟨rfl, rfl⟩
  refine St ?_
  simp only [g5, Bool.true_eq_false, if_false, z1']
  rw [if_neg (by omega)]
  exact En
 have h9 : x.op = 9 → oneK x k s = if k = 1 then (1, 0) else (0, 9) := by
  intro e
  rw [oneK, e]
  show Abs.ktwo _ [k] = _
  rw [ktwo1]
  simp
 have h10 : x.op = 10 → oneK x k s = if k = 0 then (0, 0) else (0, 9) := by
  intro e
  rw [oneK, e]
  show Abs.ktwo _ [k] = _
  rw [ktwo1]
  simp
 (repeat' first
 | (refine K.cond (fun _ => ?_) (fun _ => ?_) <;> try (exfalso; omega))
 | (refine K.condb (fun _ => ?_) (fun _ => ?_))
 | assumption
 | exact Ext.refl _
 | refine Ext.trans ?_ (by assumption)
 | refine K.wrap (by omega) ?_
 | refine K.ldb (by assumption) ?_ rfl ?_
 | refine K.ldb0 (by assumption) ?_ rfl ?_
 | refine K.ldE (by assumption) ?_ (by omega) rfl ?_
 | refine K.ldE0 (by assumption) ?_ (by omega) rfl ?_
 | refine K.ldAE (by assumption) ?_ (by omega) rfl ?_
 | refine K.iaC (by omega) ?_
 | refine K.condT (by first | assumption | omega) ?_
 | refine K.condF (by first | assumption | omega) ?_
 | refine K.condbT (by assumption) ?_
 | refine K.condbF (by assumption) ?_
 | simp -dsimp only [LL,B9,Nat.reduceAdd,Nat.reduceEqDiff,reduceIte,reduceCtorEq,fE])
 all_goals
  refine ⟨?_, Ex⟩
  rcases hop with e | e | e
  ·exact absurd e g1
  ·rw [h9 e]; split <;> first | rfl | (exfalso; omega)
  ·rw [h10 e]; split <;> first | rfl | (exfalso; omega)
def twoK (op a b : Int) : Int × Int := match Abs.opOf op with | some o => Abs.ktwo o [a, b] | none => (0, 9)
theorem rtwo_r (op a b : Int) (w : World) (hop : 11 ≤ op ∧ op ≤ 19) :
  Ret Tryz.prog F.lr10_two #[.int .i64 op, .int .i64 a, .int .i64 b] w fun v w' => v = .tuple #[.int .i64 (twoK op a b).1, .int .i64 (twoK op a b).2] ∧ w' = w := by
 have key : twoK op a b = if a ≠ b then (0, 9) else if op = 14 ∨ op = 15 then (1, 0) else if op = 18 ∨ op = 19 then (if a = 1 then (1, 0) else (0, 9)) else if op = 16 ∨ op = 17 then (if a = 0 then (1, 0) else (0, 9)) else (if a = 0 then (0, 0) else (0, 9)) := by
  have hc : op = 11 ∨ op = 12 ∨ op = 13 ∨ op = 14 ∨ op = 15 ∨ op = 16 ∨ op = 17 ∨ op = 18 ∨ op = 19 := by omega
  rcases hc with e | e | e | e | e | e | e | e | e <;> subst e <;> (show Abs.ktwo _ [a, b] = _) <;> rw [ktwo2] <;> by_cases hab : a = b <;> simp [hab, Abs.sayD]
 refine Ks E.lr10_two ?_; dsimp only [C.lr10_two]; refine Yy ?_
 (repeat' first
 | (refine K.cond (fun _ => ?_) (fun _ => ?_) <;> try (exfalso; omega))
 | (refine K.condb (fun _ => ?_) (fun _ => ?_))
 | assumption
 | exact Ext.refl _
 | refine Ext.trans ?_ (by assumption)
 | refine K.wrap (by omega) ?_
 | refine K.ldb (by assumption) ?_ rfl ?_
 | refine K.ldb0 (by assumption) ?_ rfl ?_
 | refine K.ldE (by assumption) ?_ (by omega) rfl ?_
 | refine K.ldE0 (by assumption) ?_ (by omega) rfl ?_
 | refine K.ldAE (by assumption) ?_ (by omega) rfl ?_
 | refine K.iaC (by omega) ?_
 | refine K.condT (by first | assumption | omega) ?_
 | refine K.condF (by first | assumption | omega) ?_
 | refine K.condbT (by assumption) ?_
 | refine K.condbF (by assumption) ?_
 | simp -dsimp only [LL,B9,Nat.reduceAdd,Nat.reduceEqDiff,reduceIte,reduceCtorEq,fE])
 all_goals
  refine ⟨?_, Tr⟩
  rw [key]
  (repeat' split) <;> first | rfl | (exfalso; omega)
end Go.Proofs.R
end
section
set_option linter.unusedSimpArgs false
namespace Go.Proofs.R
open Go Go.RowKit Lite
theorem fKind_0 {s : Abs.Scope} {x : Abs.Node} {st : List Int} (h : Abs.nparts x.op = 0) : Abs.fKind s x st = Abs.kleaf x s (st.getLastD 0) := by
 unfold Abs.fKind; rw [(np0 h).2.2.2]
theorem fKind_1 {s : Abs.Scope} {x : Abs.Node} {st : List Int} (h : Abs.nparts x.op = 1) (hl : 1 ≤ st.length) : Abs.fKind s x st = oneK x st[st.length - 1] s := by
 unfold Abs.fKind oneK
 cases ho : Abs.opOf x.op with
 | none => simp only; rw [getLast_eq st (by omega)]
 | some o =>
  have := (Abs.opOf_parts ho).1
  simp only
  rw [show o.parts.toNat = 1 from by omega, drop1 hl]
theorem fKind_2 {s : Abs.Scope} {x : Abs.Node} {st : List Int} (h : Abs.nparts x.op = 2) (hl : 2 ≤ st.length) : Abs.fKind s x st = twoK x.op st[st.length - 2] st[st.length - 1] := by
 unfold Abs.fKind twoK
 obtain ⟨o, ho, hp⟩ := opOf_some (show 9 ≤ x.op ∧ x.op ≤ 19 by have := np2 h; omega)
 rw [ho]
 simp only
 rw [show o.parts.toNat = 2 from by omega, drop2 hl]
theorem refKind_r (ve : Value) (e : List Abs.Node) (cs : List Value) (s : Abs.Scope) (w : World) (he : Abs.Nodes w ve e) (h : Abs.SI w cs s) :
  Ret Tryz.prog F.lr10_Kind #[ve, .agg cs.toArray] w fun v w' => v = .tuple #[.int .i64 (Abs.kind e s).1, .int .i64 (Abs.kind e s).2] ∧ Ext w w' := by
 obtain ⟨v0, v1, v2, v3, v4, rfl, _⟩ := h.ex
 obtain ⟨oa, cap, rfl, hlen⟩ := he.form
 refine Ks E.lr10_Kind ?_; dsimp only [C.lr10_Kind]; refine Yy ?_
 refine St ?_
 refine K.new fun w1 ps hps he1 hc1 => ?_
 refine St ?_
 apply K.cond <;> intro g1
 ·refine St ?_
  rw [Abs.kind, Abs.runE, if_pos (by omega)]
  exact En
 refine St ?_
 apply K.cond <;> intro g2
 ·refine St ?_
  rw [Abs.kind, Abs.runE, if_neg (by omega), if_pos (by omega)]
  exact En
 refine St ?_
 refine K.for1 7 e.length (fun k S w' => ∃ v st, S 6 = v ∧ OwnI w1.heap.size w' v st ∧ Abs.runL (Abs.fKind s) (e.take k) [] = (0, st) ∧ (0 < k → 1 ≤ st.length) ∧ st.length ≤ 12 ∧ Ext w1 w')
  (by simp -dsimp only [LL,B9,Nat.reduceAdd,Nat.reduceEqDiff,reduceIte,reduceCtorEq,fE]) ⟨.slice none 0 0, [], by simp -dsimp only [LL,B9,Nat.reduceAdd,Nat.reduceEqDiff,reduceIte,reduceCtorEq,fE], OwR.nil _ _ _ _ _, by simp [Abs.runL], by simp, by simp, Ext.refl _⟩ ?_
 rintro k S w2 hS hk h7 ⟨v6, st, h6, hown, hrun, h1st, h12, he2⟩
 have h0 := hS 0 rfl; have h3 := hS 3 rfl; simp only [uA, Nat.reduceAdd, Nat.reduceEqDiff, reduceIte, fr0_cons, fr0_nil] at h0 h3; clear hS
 obtain ⟨oa6, c6, rfl, hc6, hm6⟩ := hown.form
 have hi : Ints w2 _ st := OwR.slr (enc := encI) (sz := 1) (fun _ => rfl) hown
 unfold maxLen at hm6
 refine Sw (And.intro h0 (And.intro h3 (And.intro h6 h7))) ?_
 apply K.cond <;> intro g3
 rotate_left
 ·have hk' : k = e.length := by omega
  subst hk'
  rw [List.take_length] at hrun
  have h1 := h1st (by omega)
  obtain ⟨a, rfl⟩ := hi.addr h1
  have hE : Abs.kind e s = if st.length > 1 then (0, 5) else (st.headD 0, 0) := by
   rw [Abs.kind, Abs.runE, if_neg (by omega), if_neg (by omega), hrun, if_neg (by simp)]
  rw [hE]
  clear hE
  refine Sw (And.intro h0 (And.intro h3 (And.intro h6 h7))) ?_
  apply K.cond <;> intro g4
  ·refine St ?_
   rw [if_pos (by omega)]
   exact En
  ·refine Sw (And.intro h0 (And.intro h3 (And.intro h6 h7))) ?_
   refine K.ian 0 rfl (by omega) ?_
   refine St ?_
   rw [if_neg (by omega)]
   have : st.headD 0 = st[0] := by
    cases st with
    | nil => simp at h1
    | cons z st => rfl
   rw [this]
   exact En
 have hk' : k < e.length := by omega
 obtain ⟨a, rfl⟩ := he.addr (by omega)
 have hxk := (he.at k hk').ok
 have hrs := fun h0 => Abs.runE_err (f := Abs.fKind s) (e := e) (by omega) hk' hrun h0
 have hrn := Abs.runL_step hk' hrun
 have h02 := he1.trans he2
 have hs2 := he2.obj hc1
 refine Sw (And.intro h0 (And.intro h3 (And.intro h6 h7))) ?_
 refine K.call (takes_r e[k].op w2) ?_
 rintro _ _ ⟨rfl, rfl⟩
 generalize hn : Abs.nparts e[k].op = n at *
 have hn2 : -1 ≤ n ∧ n ≤ 2 := by rw [← hn]; unfold Abs.nparts; (repeat' split) <;> omega
 refine Sw (And.intro h0 (And.intro h3 (And.intro h6 h7))) ?_
 apply K.cond <;> intro g4
 ·have hs : Abs.stepG (Abs.fKind s) e[k] st = (3, st) := by unfold Abs.stepG; rw [hn, if_pos g4]
  rw [hs] at hrs
  refine St ?_
  rw [Abs.kind, hrs (by simp)]
  exact En
 refine Sw (And.intro h0 (And.intro h3 (And.intro h6 h7))) ?_
 apply K.cond <;> intro g5
 ·have hs : Abs.stepG (Abs.fKind s) e[k] st = (4, st) := by unfold Abs.stepG; rw [hn, if_neg g4, if_pos g5]
  rw [hs] at hrs
  refine St ?_
  rw [Abs.kind, hrs (by simp)]
  exact En
 obtain ⟨p, rfl⟩ := Int.eq_ofNat_of_zero_le (show 0 ≤ n by omega)
 have hsg : Abs.stepG (Abs.fKind s) e[k] st = if (Abs.fKind s e[k] st).2 ≠ 0 then ((Abs.fKind s e[k] st).2, st) else if (st.take (st.length - p) ++ [(Abs.fKind s e[k] st).1]).length > 12 then (12, st) else (0, st.take (st.length - p) ++ [(Abs.fKind s e[k] st).1]) := by
  unfold Abs.stepG; rw [hn, if_neg g4, if_neg g5]; simp only [Int.toNat_natCast]
 have hml : (st.take (st.length - p) ++ [(Abs.fKind s e[k] st).1]).length = st.length - p + 1 := by simp [List.length_take]
 rw [hml] at hsg
 have fin : p = 0 ∨ p = 1 ∨ p = 2 := by omega
 rcases fin with hn0 | hn0 | hn0
 ·have hf := fKind_0 (s := s) (st := st) (x := e[k]) (by omega)
  obtain ⟨z1, z2, z3, z4⟩ := np0 (x := e[k].op) (by omega)
  refine Sw (And.intro h0 (And.intro h3 (And.intro h6 h7))) ?_
  refine K.ldAb (c := [_, _, _, _, _, _]) hs2 (Ext.refl _) rfl ?_
  refine Sw (And.intro h0 (And.intro h3 (And.intro h6 h7))) ?_
  refine K.qfn _ (fun w' e' => rleaf_r e[k] _ s w' hxk (h.ext (h02.trans e')) ⟨z1, z2⟩ z3 (st.getLastD 0)) ?_
  rw [← hf]
  refine Sw (And.intro h0 (And.intro h3 (And.intro h6 h7))) ?_
  intro w3 he3
  refine Sw (And.intro h0 (And.intro h3 (And.intro h6 h7))) ?_
  apply K.cond <;> intro g6
  rotate_left
  ·rw [if_pos g6] at hsg
   refine St ?_
   rw [Abs.kind, hrs (by rw [hsg]; exact g6), hsg]
   exact En
  rw [if_neg (by simpa using g6)] at hsg
  have ho3 := hown.ext he3
  refine Sw (And.intro h0 (And.intro h3 (And.intro h6 h7))) ?_
  refine K.bldSa (cs := []) (by simp [List.range, List.range.loop, fillC]) fun w4 b4 hb4 he4 hc4 => ?_
  have z12 := he2.size
  have z23 := he3.size
  have z34 := he4.size
  have hE4 : OwnI w1.heap.size w4 (.slice (some ⟨b4, 0, none⟩) 0 0) [] := OwR.empty (by omega) hc4
  have ho4 := ho3.ext he4
  have ho5 : OwnI w1.heap.size w4 (.slice _ (st.length - p) _) (st.take (st.length - p)) := OwR.head (enc := encI) (sz := 1) (xs := st) (fun _ => rfl) ho4 (st.length - p) (Nat.sub_le _ _)
  have hlt : (st.take (st.length - p)).length = st.length - p := by simp [List.length_take]
  refine Sw (And.intro h0 (And.intro h3 (And.intro h6 h7))) ?_
  refine K.slcT (st.length - p) (by refine Gw h6 ?_; first | rfl | (congr 1; omega)) (by omega) ?_
  refine St ?_
  refine K.appS (xs := []) (ys := st.take (st.length - p)) hE4 ho5 (fun _ => rfl) encI1 (by rw [hlt]; simp only [List.length_nil]; omega) (by rw [hlt]; simp only [List.length_nil, maxLen]; omega) (by omega) fun v5 w5 ho5' hg5 => ?_
  have he45 : Ext w3 w5 := he4.grown hg5 fun q hq => by simp [Value.ownBlock] at hq; omega
  rw [List.nil_append] at ho5'
  have z35 := he45.size
  refine St ?_
  refine K.bldSa (cs := [(Abs.fKind s e[k] st).1].flatMap encI) (by simp [List.range, List.range.loop, fillC, lay, ev_tmp, uA, Value.cells, encI]) fun w6 b6 hb6 he6 hc6 => ?_
  have z56 := he6.size
  have ho6 := ho5'.ext he6
  refine St ?_
  refine K.appO (xs := st.take (st.length - p)) (ys := [(Abs.fKind s e[k] st).1]) ho6 (fun _ => rfl) (cB hc6) rfl encI1 (by rw [hlt]; simp only [List.length_cons, List.length_nil]; omega) (by rw [hlt]; simp only [List.length_cons, List.length_nil, maxLen]; omega) (by omega) fun v7 w7 ho7 hg7 => ?_
  have he7 : Ext w1 w7 := Ext.grown (((he2.trans he3).trans he45).trans he6) hg7 fun q hq => (ho6.lt q hq).1
  obtain ⟨oa7, c7, rfl, _⟩ := ho7.form
  rw [hml] at ho7 ⊢
  by_cases g7 : 12 < st.length - p + 1
  ·rw [if_pos (by omega)] at hsg
   first
    | (exfalso; omega)
    | (refine St ?_
       rw [Abs.kind, hrs (by rw [hsg]; simp), hsg]
       exact ⟨Tr, he1.trans he7⟩)
  rw [if_neg (by omega)] at hsg
  refine Sw h7 ?_
  refine ⟨hk', Tr, _, _, rfl, ho7, by rw [hrn, hsg], fun _ => by rw [hml]; omega, by rw [hml]; omega, he7⟩
 ·have hf := fKind_1 (s := s) (st := st) (x := e[k]) (by omega) (by omega)
  obtain ⟨a6, rfl⟩ := hi.addr (by omega)
  refine Sw (And.intro h0 (And.intro h3 (And.intro h6 h7))) ?_
  refine K.ian (st.length - 1) (by omega) (by omega) ?_
  refine Sw (And.intro h0 (And.intro h3 (And.intro h6 h7))) ?_
  refine K.ldAb (c := [_, _, _, _, _, _]) hs2 (Ext.refl _) rfl ?_
  refine Sw (And.intro h0 (And.intro h3 (And.intro h6 h7))) ?_
  refine K.qfn _ (fun w' e' => rone_r e[k] _ _ s w' (h.ext (h02.trans e')) (np1 (by omega))) ?_
  rw [← hf]
  refine Sw (And.intro h0 (And.intro h3 (And.intro h6 h7))) ?_
  intro w3 he3
  refine Sw (And.intro h0 (And.intro h3 (And.intro h6 h7))) ?_
  apply K.cond <;> intro g6
  rotate_left
  ·rw [if_pos g6] at hsg
   refine St ?_
   rw [Abs.kind, hrs (by rw [hsg]; exact g6), hsg]
   exact En
  rw [if_neg (by simpa using g6)] at hsg
  have ho3 := hown.ext he3
  refine Sw (And.intro h0 (And.intro h3 (And.intro h6 h7))) ?_
  refine K.bldSa (cs := []) (by simp [List.range, List.range.loop, fillC]) fun w4 b4 hb4 he4 hc4 => ?_
  have z12 := he2.size
  have z23 := he3.size
  have z34 := he4.size
  have hE4 : OwnI w1.heap.size w4 (.slice (some ⟨b4, 0, none⟩) 0 0) [] := OwR.empty (by omega) hc4
  have ho4 := ho3.ext he4
  have ho5 : OwnI w1.heap.size w4 (.slice _ (st.length - p) _) (st.take (st.length - p)) := OwR.head (enc := encI) (sz := 1) (xs := st) (fun _ => rfl) ho4 (st.length - p) (Nat.sub_le _ _)
  have hlt : (st.take (st.length - p)).length = st.length - p := by simp [List.length_take]
  refine Sw (And.intro h0 (And.intro h3 (And.intro h6 h7))) ?_
  refine K.slcT (st.length - p) (by refine Gw h6 ?_; first | rfl | (congr 1; omega)) (by omega) ?_
  refine St ?_
  refine K.appS (xs := []) (ys := st.take (st.length - p)) hE4 ho5 (fun _ => rfl) encI1 (by rw [hlt]; simp only [List.length_nil]; omega) (by rw [hlt]; simp only [List.length_nil, maxLen]; omega) (by omega) fun v5 w5 ho5' hg5 => ?_
  have he45 : Ext w3 w5 := he4.grown hg5 fun q hq => by simp [Value.ownBlock] at hq; omega
  rw [List.nil_append] at ho5'
  have z35 := he45.size
  refine St ?_
  refine K.bldSa (cs := [(Abs.fKind s e[k] st).1].flatMap encI) (by simp [List.range, List.range.loop, fillC, lay, ev_tmp, uA, Value.cells, encI]) fun w6 b6 hb6 he6 hc6 => ?_
  have z56 := he6.size
  have ho6 := ho5'.ext he6
  refine St ?_
  refine K.appO (xs := st.take (st.length - p)) (ys := [(Abs.fKind s e[k] st).1]) ho6 (fun _ => rfl) (cB hc6) rfl encI1 (by rw [hlt]; simp only [List.length_cons, List.length_nil]; omega) (by rw [hlt]; simp only [List.length_cons, List.length_nil, maxLen]; omega) (by omega) fun v7 w7 ho7 hg7 => ?_
  have he7 : Ext w1 w7 := Ext.grown (((he2.trans he3).trans he45).trans he6) hg7 fun q hq => (ho6.lt q hq).1
  obtain ⟨oa7, c7, rfl, _⟩ := ho7.form
  rw [hml] at ho7 ⊢
  by_cases g7 : 12 < st.length - p + 1
  ·rw [if_pos (by omega)] at hsg
   first
    | (exfalso; omega)
    | (refine St ?_
       rw [Abs.kind, hrs (by rw [hsg]; simp), hsg]
       exact ⟨Tr, he1.trans he7⟩)
  rw [if_neg (by omega)] at hsg
  refine Sw h7 ?_
  refine ⟨hk', Tr, _, _, rfl, ho7, by rw [hrn, hsg], fun _ => by rw [hml]; omega, by rw [hml]; omega, he7⟩
 ·have hf := fKind_2 (s := s) (st := st) (x := e[k]) (by omega) (by omega)
  obtain ⟨a6, rfl⟩ := hi.addr (by omega)
  refine Sw (And.intro h0 (And.intro h3 (And.intro h6 h7))) ?_
  refine K.ian (st.length - 2) (by omega) (by omega) ?_
  refine Sw (And.intro h0 (And.intro h3 (And.intro h6 h7))) ?_
  refine K.ian (st.length - 1) (by omega) (by omega) ?_
  refine Sw (And.intro h0 (And.intro h3 (And.intro h6 h7))) ?_
  refine K.qfn _ (fun w' e' => (rtwo_r e[k].op _ _ w' (np2 (by omega))).mono fun v w'' h => ⟨h.1, h.2 ▸ Ext.refl _⟩) ?_
  rw [← hf]
  refine Sw (And.intro h0 (And.intro h3 (And.intro h6 h7))) ?_
  intro w3 he3
  refine Sw (And.intro h0 (And.intro h3 (And.intro h6 h7))) ?_
  apply K.cond <;> intro g6
  rotate_left
  ·rw [if_pos g6] at hsg
   refine St ?_
   rw [Abs.kind, hrs (by rw [hsg]; exact g6), hsg]
   exact En
  rw [if_neg (by simpa using g6)] at hsg
  have ho3 := hown.ext he3
  refine Sw (And.intro h0 (And.intro h3 (And.intro h6 h7))) ?_
  refine K.bldSa (cs := []) (by simp [List.range, List.range.loop, fillC]) fun w4 b4 hb4 he4 hc4 => ?_
  have z12 := he2.size
  have z23 := he3.size
  have z34 := he4.size
  have hE4 : OwnI w1.heap.size w4 (.slice (some ⟨b4, 0, none⟩) 0 0) [] := OwR.empty (by omega) hc4
  have ho4 := ho3.ext he4
  have ho5 : OwnI w1.heap.size w4 (.slice _ (st.length - p) _) (st.take (st.length - p)) := OwR.head (enc := encI) (sz := 1) (xs := st) (fun _ => rfl) ho4 (st.length - p) (Nat.sub_le _ _)
  have hlt : (st.take (st.length - p)).length = st.length - p := by simp [List.length_take]
  refine Sw (And.intro h0 (And.intro h3 (And.intro h6 h7))) ?_
  refine K.slcT (st.length - p) (by refine Gw h6 ?_; first | rfl | (congr 1; omega)) (by omega) ?_
  refine St ?_
  refine K.appS (xs := []) (ys := st.take (st.length - p)) hE4 ho5 (fun _ => rfl) encI1 (by rw [hlt]; simp only [List.length_nil]; omega) (by rw [hlt]; simp only [List.length_nil, maxLen]; omega) (by omega) fun v5 w5 ho5' hg5 => ?_
  have he45 : Ext w3 w5 := he4.grown hg5 fun q hq => by simp [Value.ownBlock] at hq; omega
  rw [List.nil_append] at ho5'
  have z35 := he45.size
  refine St ?_
  refine K.bldSa (cs := [(Abs.fKind s e[k] st).1].flatMap encI) (by simp [List.range, List.range.loop, fillC, lay, ev_tmp, uA, Value.cells, encI]) fun w6 b6 hb6 he6 hc6 => ?_
  have z56 := he6.size
  have ho6 := ho5'.ext he6
  refine St ?_
  refine K.appO (xs := st.take (st.length - p)) (ys := [(Abs.fKind s e[k] st).1]) ho6 (fun _ => rfl) (cB hc6) rfl encI1 (by rw [hlt]; simp only [List.length_cons, List.length_nil]; omega) (by rw [hlt]; simp only [List.length_cons, List.length_nil, maxLen]; omega) (by omega) fun v7 w7 ho7 hg7 => ?_
  have he7 : Ext w1 w7 := Ext.grown (((he2.trans he3).trans he45).trans he6) hg7 fun q hq => (ho6.lt q hq).1
  obtain ⟨oa7, c7, rfl, _⟩ := ho7.form
  rw [hml] at ho7 ⊢
  by_cases g7 : 12 < st.length - p + 1
  ·rw [if_pos (by omega)] at hsg
   first
    | (exfalso; omega)
    | (refine St ?_
       rw [Abs.kind, hrs (by rw [hsg]; simp), hsg]
       exact ⟨Tr, he1.trans he7⟩)
  rw [if_neg (by omega)] at hsg
  refine Sw h7 ?_
  refine ⟨hk', Tr, _, _, rfl, ho7, by rw [hrn, hsg], fun _ => by rw [hml]; omega, by rw [hml]; omega, he7⟩
end Go.Proofs.R
end