/- Texts joined: StaC StaD StaE StaR StaF StaG StaH StaI StaS StaJ LiteI LiteJ LiteK LiteL StaK StaL StaT. -/
import Derived.Test.YtglnobabdcoknaaGreatDoorQevxd
import Derived.Test.YtglnobabdcoknaaGreatDoorQevxg
import Derived.Test.YtglnobabdcoknaaGreatDoorQevxl
set_option linter.all false
set_option maxRecDepth 8000
set_option maxHeartbeats 3200000
section
namespace Go.Proofs.YtglnobabdcoknaaGreatDoor
open Go Go.RowKit Lite
theorem right_r (b : Nat) (v : Value) (s : List Int) (m : Abs.Model) (w : World) (hr : ReaderAt w b m) (hM : Abs.MayBe m) (hs : Nums w v s) :
  Ret Tryz.prog F.q #[.pointer (some ⟨b, 0, none⟩), v] w fun u w' => (∃ t : Bool, u = .bool t ∧ (t = true ↔ Abs.Fits m s)) ∧ Ext w w' := by
 obtain ⟨o0, c0, o1, c1, o2, c2, o3, c3, o4, c4, p0, d0, p1, d1, p2, d2, p3, d3, p4, d4, oi, ci, hb, r0, r1, r2, r3, r4, h0, h1, h2, h3, hI⟩ := hr.form
 obtain ⟨ov, cv, rfl, lv⟩ := hs.form
 have fc : (Abs.layout m).cells = (Abs.cellN m : Int) := rfl
 have f2 := Abs.layout_lo_len m
 have f3 := Abs.layout_hi_len m
 have h64 : Abs.cellN m ≤ 64 := Abs.layCells_le64 hM
 have few := hM.few
 refine Ks E.q ?_; dsimp only [C.q]; refine Yy ?_
 refine Sr ?_
 apply K.cond <;> intro g1
 rotate_left
 ·refine Sr ?_
  exact ⟨⟨false, rfl, by simp only [Bool.false_eq_true, false_iff]; intro h; have := h.len; omega⟩, Ext.refl _⟩
 have hl : s.length = Abs.cellN m := by omega
 clear h0 h1 h3 hI r0 r1 r2
 refine Sr ?_
 refine K.forG 22 m.chans.length [0, 1, 20, 21] (fun _ : Unit => []) () (fun k _ W => Ext w W ∧ ∀ j (h : j < m.chans.length), j < k → Abs.QueueOk m.scalars m.chans[j] (Abs.chanPart m j m.chans[j] s)) hZq hZq ⟨Ext.refl _, fun j _ h => absurd h (Nat.not_lt_zero _)⟩ ?_
 rintro k _ S w1 hk ⟨he1, hall⟩
 refine Sr ?_
 apply K.cond <;> intro g2
 ·have hk' : k < m.chans.length := by omega
  refine Sr ?_
  refine K.call (queue_r b k _ s m w1 (hr.ext he1) hM hk' (hs.ext Flat.ext he1) hl) ?_
  rintro _ w2 ⟨⟨t, rfl, ht⟩, he2⟩
  cases t with
  | false =>
   refine Sr ?_
   exact ⟨⟨false, rfl, by simp only [Bool.false_eq_true, false_iff]; intro h; exact absurd (ht.2 (h.queue k hk')) (by simp)⟩, he1.trans he2⟩
  | true =>
   refine Sr ?_
   refine ⟨hk', Tr, (), trivial, he1.trans he2, fun j h hj => ?_⟩
   by_cases hjk : j = k
   ·subst hjk; exact ht.1 rfl
   ·exact hall j h (by omega)
 have hqu : ∀ j (h : j < m.chans.length), Abs.QueueOk m.scalars m.chans[j] (Abs.chanPart m j m.chans[j] s) := fun j h => hall j h (by omega)
 have hb' := he1.obj hb
 refine Sr ?_
 refine K.forG 33 s.length [0, 1, 31, 32] (fun _ : Unit => []) () (fun k _ W => W = w1 ∧ ∀ j (h : j < s.length) (h' : j < (Abs.lC m).length), j < k → (Abs.lC m)[j].lo ≤ s[j] ∧ s[j] ≤ (Abs.lC m)[j].hi) hZq hZq ⟨rfl, fun j _ _ h => absurd h (Nat.not_lt_zero _)⟩ ?_
 clear hb
 rintro k' _ S' w2 hk2 ⟨rfl, hall2⟩
 refine Sr ?_
 apply K.cond <;> intro g3
 ·have hk' : k' < s.length := by omega
  have hk3 : k' < (Abs.lC m).length := by unfold Abs.cellN at hl; omega
  have l3 : (Abs.layout m).lo[k']'(by omega) = (Abs.lC m)[k'].lo := Abs.layout_lo_get _ hk3
  have l4 : (Abs.layout m).hi[k']'(by omega) = (Abs.lC m)[k'].hi := Abs.layout_hi_get _ hk3
  obtain ⟨av, rfl⟩ := hs.addr (by omega)
  obtain ⟨a3, rfl⟩ := r3.addr (by omega)
  obtain ⟨a4, rfl⟩ := r4.addr (by omega)
  have bad : ¬ ((Abs.lC m)[k'].lo ≤ s[k'] ∧ s[k'] ≤ (Abs.lC m)[k'].hi) → (false = true ↔ Abs.Fits m s) := fun h => by
   simp only [Bool.false_eq_true, false_iff]
   exact fun hh => h (hh.cell k' hk' hk3)
  refine Sr ?_
  apply K.cond <;> intro g4
  ·refine Sr ?_
   exact ⟨⟨false, rfl, bad (by omega)⟩, he1⟩
  refine Sr ?_
  apply K.cond <;> intro g5
  ·refine Sr ?_
   exact ⟨⟨false, rfl, bad (by omega)⟩, he1⟩
  refine Sr ?_
  refine ⟨hk', Tr, (), trivial, Tr, fun j h h' hj => ?_⟩
  by_cases hjk : j = k'
  ·subst hjk; omega
  ·exact hall2 j h h' (by omega)
 ·refine Sr ?_
  exact ⟨⟨true, rfl, by simp only [true_iff]; exact ⟨hl, hqu, fun j h h' => hall2 j h h' (by omega)⟩⟩, he1⟩
end Go.Proofs.YtglnobabdcoknaaGreatDoor
end
section
namespace Abs
open Classical in
noncomputable def queueB (s : List Scalar) (c : Chan) (l : List Int) : Bool := decide (QueueOk s c l)
theorem queueB_iff {s : List Scalar} {c : Chan} {l : List Int} : queueB s c l = true ↔ QueueOk s c l := by unfold queueB; simp
theorem queueB_of {s : List Scalar} {c : Chan} {l : List Int} {t : Bool} (h : t = true ↔ QueueOk s c l) : t = queueB s c l := by
 rw [← queueB_iff] at h
 cases t <;> cases hq : queueB s c l <;> simp_all
end Abs
namespace Go.Proofs.YtglnobabdcoknaaGreatDoor
open Go Go.RowKit Lite
theorem stRight_r (cs : List Value) (m : Abs.Model) (v : Value) (s : List Int) (w : World) (h : Abs.MI w cs m) (hg : m.good) (ho : OwnIs w) (hs : Nums w v s) :
  Ret Tryz.prog F.aq #[.agg cs.toArray, v] w fun u w' => (∃ t : Bool, u = .bool t ∧ (t = true ↔ Abs.Right m s)) ∧ Ext w w' := by
 have hM := h
 obtain ⟨o0, c0, o1, c1, o2, c2, o3, c3, o4, c4, rfl, _⟩ := h.form
 refine Ks E.aq ?_; dsimp only [C.aq]; refine Yy ?_
 refine Sr ?_
 intro w1 b1 hb1 he1 hc1
 refine Sr ?_
 refine K.call (read_r _ m w1 (hM.ext he1) hg (ho.ext he1)) ?_
 rintro _ w2 ⟨hr, he2⟩
 have e2 := he1.trans he2
 rcases hr with ⟨rfl, hk⟩ | ⟨b, rfl, hk, hr⟩
 ·refine Sr ?_
  refine K.ptrNe0 (by kernel_rfl) ?_
  refine Sr ?_
  exact ⟨⟨false, rfl, by simp only [Bool.false_eq_true, false_iff]; exact fun h => hk h.1⟩, e2⟩
 ·refine Sr ?_
  refine K.ptrNe1 (by kernel_rfl) ?_
  refine Sr ?_
  refine K.call (right_r b _ s m w2 hr (Abs.maybe_of hk) (hs.ext Flat.ext e2)) ?_
  rintro _ w3 ⟨⟨t, rfl, ht⟩, he3⟩
  refine Sr ?_
  exact ⟨⟨t, by cases t <;> rfl, ht.trans ⟨fun h => ⟨hk, h⟩, fun h => h.2⟩⟩, e2.trans he3⟩
theorem may15_r (cs : List Value) (m : Abs.Model) (w : World) (h : Abs.MI w cs m) (hg : m.good) :
  Ret Tryz.prog F.lr15_May #[.agg cs.toArray] w fun v w' => v = .bool (decide ((Abs.check m).why = 0)) ∧ Ext w w' := by
 obtain ⟨o0, c0, o1, c1, o2, c2, o3, c3, o4, c4, rfl, _⟩ := h.form
 refine Ks E.lr15_May ?_; dsimp only [C.lr15_May]; refine Yy ?_
 refine Sr ?_
 intro w1 b1 hb1 he1 hc1
 refine Sr ?_
 refine K.call (refCheck_r _ m w1 (h.ext he1) hg) ?_
 rintro _ w2 ⟨rfl, he2⟩
 unfold faultV
 refine Sr ?_
 refine K.fld (v := .int .i64 (Abs.check m).why) rfl ?_
 refine Sr ?_
 exact ⟨Tr, he1.trans he2⟩
theorem rchannel18_r (cs : List Value) (m : Abs.Model) (v : Value) (l : List Int) (i : Nat) (w : World) (h : Abs.MI w cs m) (hM : Abs.MayBe m) (hi : i < m.chans.length) (hp : Nums w v l) (hll : l.length = 1 + m.chans[i].cap.toNat) :
  Ret Tryz.prog F.lr18_channel #[.agg cs.toArray, v, .int .i64 i] w fun u w' => (∃ t : Bool, u = .bool t ∧ (t = true ↔ Abs.QueueOk m.scalars m.chans[i] l)) ∧ Ext w w' := by
 obtain ⟨o0, c0, o1, c1, o2, c2, o3, c3, o4, c4, rfl, h0, h1, h2, h3, h4, l0, l1, l2, l3, l4⟩ := h.form
 obtain ⟨ov, cv, rfl, lv⟩ := hp.form
 have hok := hM.chan _ (List.getElem_mem hi)
 have hcap := hok.cap
 have few := hM.few
 obtain ⟨ac, rfl⟩ := h2.addr (by omega)
 obtain ⟨ap, rfl⟩ := hp.addr (by omega)
 have hcv := (h2.at i hi).cells
 have hq := Abs.queue_iff (s := m.scalars) (c := m.chans[i]) (l := l) hll hcap.1
 obtain ⟨lo, hlo⟩ : ∃ lo, lo = (Abs.bdOf m.chans[i].scalar m.chans[i].lo m.chans[i].hi m.scalars).lo := ⟨_, rfl⟩
 obtain ⟨hi', hhi⟩ : ∃ hi, hi = (Abs.bdOf m.chans[i].scalar m.chans[i].lo m.chans[i].hi m.scalars).hi := ⟨_, rfl⟩
 rw [← hlo, ← hhi] at hq
 refine Ks E.lr18_channel ?_; dsimp only [C.lr18_channel]; refine Yy ?_
 refine Sr ?_
 intro w1 b1 hb1 he1 hc1
 replace hcv := hcv.ext he1
 refine Sr ?_
 intro w2 b7 hb7 he2 hc7
 replace hc1 := he2.obj hc1
 have e2 := he1.trans he2
 replace hp := hp.ext Flat.ext e2
 clear hcv
 refine Sr ?_
 refine K.ian 0 rfl (by omega) ?_
 refine Sr ?_
 apply K.cond <;> intro g1
 ·refine Sr ?_
  intro w3 he3
  refine Sr ?_
  exact ⟨⟨false, rfl, by simp only [Bool.false_eq_true, false_iff]; intro h; exact absurd (hq.1 h).1 (by omega)⟩, e2.trans he3⟩
 refine Sr ?_
 refine K.ian 0 rfl (by omega) ?_
 refine Sr ?_
 intro w3 he3
 replace hc1 := he3.obj hc1
 replace hc7 := he3.obj hc7
 replace hp := hp.ext Flat.ext he3
 have e3 := e2.trans he3
 apply K.cond <;> intro g2
 ·refine Sr ?_
  exact ⟨⟨false, rfl, by simp only [Bool.false_eq_true, false_iff]; intro h; exact absurd (hq.1 h).2.1 (by omega)⟩, e3⟩
 refine Sr ?_
 refine K.call (refBounds_r ⟨⟨#[]⟩, m.chans[i].scalar, 0, m.chans[i].lo, m.chans[i].hi, 0⟩ _ m.scalars w3 (h0.ext e3)) ?_
 rintro _ w4 ⟨rfl, he4⟩
 have ebd : ((Abs.bounds ⟨⟨#[]⟩, m.chans[i].scalar, 0, m.chans[i].lo, m.chans[i].hi, 0⟩ m.scalars).1 = lo) ∧ (Abs.bounds ⟨⟨#[]⟩, m.chans[i].scalar, 0, m.chans[i].lo, m.chans[i].hi, 0⟩ m.scalars).2 = hi' := by
  rw [hlo, hhi, show Abs.bdOf m.chans[i].scalar m.chans[i].lo m.chans[i].hi m.scalars = _ from Abs.bdOf_eq ⟨⟨#[]⟩, m.chans[i].scalar, 0, m.chans[i].lo, m.chans[i].hi, 0⟩ m.scalars]
  exact ⟨rfl, rfl⟩
 rw [ebd.1, ebd.2]
 have hc7' := he4.obj hc7
 replace hp := hp.ext Flat.ext he4
 have e4 := e3.trans he4
 refine Sr ?_
 refine K.whG [1, 7, 8, 9] (fun x : Nat => [(10, .int .i64 ((x : Int) + 1))]) 0 (fun x W => Ext w4 W ∧ (x : Int) ≤ m.chans[i].cap ∧ ∀ j (h : j + 1 < l.length), j < x → ((j : Int) < l[0] → lo ≤ l[j + 1] ∧ l[j + 1] ≤ hi') ∧ (l[0] ≤ j → l[j + 1] = 0)) (fun x => (m.chans[i].cap - x).toNat) hZq ⟨Ext.refl _, by omega, fun j _ h => absurd h (Nat.not_lt_zero _)⟩ ?_
 clear hc1 hc7
 rintro k S w5 ⟨he5, hk, hall⟩
 have hc7 := he5.obj hc7'
 have e5 := e4.trans he5
 replace hp := hp.ext Flat.ext he5
 refine Sr ?_
 apply K.cond <;> intro g3
 ·have hk2 : k + 1 < l.length := by omega
  have bad : ¬ (((k : Int) < l[0] → lo ≤ l[k + 1] ∧ l[k + 1] ≤ hi') ∧ (l[0] ≤ k → l[k + 1] = 0)) → (false = true ↔ Abs.QueueOk m.scalars m.chans[i] l) := fun h => by
   simp only [Bool.false_eq_true, false_iff]
   exact fun hh => h ((hq.1 hh).2.2 k hk2)
  refine Sr ?_
  refine K.ian 0 rfl (by omega) ?_
  refine Sr ?_
  apply K.cond <;> intro g4
  ·refine Sr ?_
   apply K.cond <;> intro g5
   ·refine Sr ?_
    exact ⟨⟨false, rfl, bad fun h => by have := h.1 (by omega); omega⟩, e5⟩
   refine Sr ?_
   apply K.cond <;> intro g6
   ·refine Sr ?_
    exact ⟨⟨false, rfl, bad fun h => by have := h.1 (by omega); omega⟩, e5⟩
   refine Sr ?_
   refine K.ian 0 rfl (by omega) ?_
   refine Sr ?_
   exact ⟨k + 1, hZq, ⟨he5, by omega, fun j h hj => by
    by_cases hjk : j = k
    ·subst hjk; exact ⟨fun _ => by omega, fun _ => by omega⟩
    ·exact hall j h (by omega)⟩, by omega⟩
  ·refine Sr ?_
   refine K.ian 0 rfl (by omega) ?_
   refine Sr ?_
   apply K.cond <;> intro g5
   ·refine Sr ?_
    exact ⟨k + 1, hZq, ⟨he5, by omega, fun j h hj => by
     by_cases hjk : j = k
     ·subst hjk; exact ⟨fun _ => by omega, fun _ => by omega⟩
     ·exact hall j h (by omega)⟩, by omega⟩
   ·refine Sr ?_
    exact ⟨⟨false, rfl, bad fun h => by have := h.2 (by omega); omega⟩, e5⟩
 ·refine Sr ?_
  exact ⟨⟨true, rfl, by simp only [true_iff]; exact hq.2 ⟨by omega, by omega, fun j h => hall j h (by omega)⟩⟩, e5⟩
theorem rfits18_r (xs : List Value) (m : Abs.Model) (v : Value) (s : List Int) (w : World) (hL : Abs.LayIs w xs (Abs.layout m)) (hM : Abs.MayBe m) (hs : Nums w v s) (hl : s.length = Abs.cellN m) :
  Ret Tryz.prog F.lr18_fits #[.agg xs.toArray, v] w fun u w' => (∃ t : Bool, u = .bool t ∧ (t = true ↔ ∀ i (h : i < s.length) (h' : i < (Abs.lC m).length), (Abs.lC m)[i].lo ≤ s[i] ∧ s[i] ≤ (Abs.lC m)[i].hi)) ∧ Ext w w' := by
 obtain ⟨x0, d0, x1, d1, x2, d2, x3, d3, x4, d4, rfl, r0, r1, r2, r3, r4⟩ := hL.form
 obtain ⟨ov, cv, rfl, lv⟩ := hs.form
 have fc : (Abs.layout m).cells = (Abs.cellN m : Int) := rfl
 have f2 := Abs.layout_lo_len m
 have f3 := Abs.layout_hi_len m
 have h64 : Abs.cellN m ≤ 64 := Abs.layCells_le64 hM
 have hlc : (Abs.lC m).length = s.length := hl.symm
 refine Ks E.lr18_fits ?_; dsimp only [C.lr18_fits]; refine Yy ?_
 refine Sr ?_
 intro w1 b1 hb1 he1 hc1
 have hc1' := hc1
 clear hc1
 replace hs := hs.ext Flat.ext he1
 replace r3 := r3.ext Flat.ext he1
 replace r4 := r4.ext Flat.ext he1
 refine Sr ?_
 refine K.forG 5 s.length [1, 2] (fun _ : Unit => []) () (fun k _ W => Ext w1 W ∧ ∀ j (h : j < s.length) (h' : j < (Abs.lC m).length), j < k → (Abs.lC m)[j].lo ≤ s[j] ∧ s[j] ≤ (Abs.lC m)[j].hi) hZq hZq ⟨Ext.refl _, fun j _ _ h => absurd h (Nat.not_lt_zero _)⟩ ?_
 rintro k _ S w2 hk ⟨he2, hall⟩
 have hc1 := he2.obj hc1'
 refine Sr ?_
 apply K.cond <;> intro g3
 ·have hk' : k < s.length := by omega
  have hk3 : k < (Abs.lC m).length := by omega
  have l3 : (Abs.layout m).lo[k]'(by omega) = (Abs.lC m)[k].lo := Abs.layout_lo_get _ hk3
  have l4 : (Abs.layout m).hi[k]'(by omega) = (Abs.lC m)[k].hi := Abs.layout_hi_get _ hk3
  obtain ⟨av, rfl⟩ := hs.addr (by omega)
  obtain ⟨a3, rfl⟩ := r3.addr (by omega)
  obtain ⟨a4, rfl⟩ := r4.addr (by omega)
  have bad : ¬ ((Abs.lC m)[k].lo ≤ s[k] ∧ s[k] ≤ (Abs.lC m)[k].hi) → (false = true ↔ ∀ i (h : i < s.length) (h' : i < (Abs.lC m).length), (Abs.lC m)[i].lo ≤ s[i] ∧ s[i] ≤ (Abs.lC m)[i].hi) := fun h => by
   simp only [Bool.false_eq_true, false_iff]
   exact fun hh => h (hh k hk' hk3)
  have e2 := he1.trans he2
  refine Sr ?_
  apply K.cond <;> intro g4
  ·refine Sr ?_
   intro w3 he3
   refine Sr ?_
   exact ⟨⟨false, rfl, bad (by omega)⟩, e2.trans he3⟩
  refine Sr ?_
  intro w3 he3
  apply K.cond <;> intro g5
  ·refine Sr ?_
   exact ⟨⟨false, rfl, bad (by omega)⟩, e2.trans he3⟩
  refine Sr ?_
  refine ⟨hk', Tr, (), trivial, he2.trans he3, fun j h h' hj => ?_⟩
  by_cases hjk : j = k
  ·subst hjk; omega
  ·exact hall j h h' (by omega)
 ·refine Sr ?_
  exact ⟨⟨true, rfl, by simp only [true_iff]; exact fun j h h' => hall j h h' (by omega)⟩, he1.trans he2⟩
theorem rFits_r (cs xs : List Value) (m : Abs.Model) (v : Value) (s : List Int) (w : World) (h : Abs.MI w cs m) (hL : Abs.LayIs w xs (Abs.layout m)) (hM : Abs.MayBe m) (hs : Nums w v s) :
  Ret Tryz.prog F.lr18_Fits #[.agg cs.toArray, .agg xs.toArray, v] w fun u w' => (∃ t : Bool, u = .bool t ∧ (t = true ↔ Abs.Fits m s)) ∧ Ext w w' := by
 have hMI := h
 have hLI := hL
 obtain ⟨o0, c0, o1, c1, o2, c2, o3, c3, o4, c4, rfl, h0, h1, h2, h3, h4, l0, l1, l2, l3, l4⟩ := h.form
 obtain ⟨x0, d0, x1, d1, x2, d2, x3, d3, x4, d4, rfl, r0, r1, r2, r3, r4⟩ := hL.form
 obtain ⟨ov, cv, rfl, lv⟩ := hs.form
 have fc : (Abs.layout m).cells = (Abs.cellN m : Int) := rfl
 have h64 : Abs.cellN m ≤ 64 := Abs.layCells_le64 hM
 have few := hM.few
 refine Ks E.lr18_Fits ?_; dsimp only [C.lr18_Fits]; refine Yy ?_
 refine Sr ?_
 intro w1 b1 hb1 he1 hc1
 refine Sr ?_
 intro w2 b2 hb2 he2 hc2
 replace hc1 := he2.obj hc1
 have e2 := he1.trans he2
 replace hs := hs.ext Flat.ext e2
 refine Sr ?_
 apply K.cond <;> intro g1
 rotate_left
 ·refine Sr ?_
  exact ⟨⟨false, rfl, by simp only [Bool.false_eq_true, false_iff]; intro h; have := h.len; omega⟩, e2⟩
 have hl : s.length = Abs.cellN m := by omega
 have hc1' := hc1
 have hc2' := hc2
 clear hc1 hc2
 refine Sr ?_
 refine K.forG 7 m.chans.length [2, 3, 4] (fun _ : Unit => []) () (fun k _ W => Ext w2 W ∧ ∀ j (h : j < m.chans.length), j < k → Abs.QueueOk m.scalars m.chans[j] (Abs.chanPart m j m.chans[j] s)) hZq hZq ⟨Ext.refl _, fun j _ h => absurd h (Nat.not_lt_zero _)⟩ ?_
 rintro k _ S w3 hk ⟨he3, hall⟩
 have hc1 := he3.obj hc1'
 have hc2 := he3.obj hc2'
 have e3 := e2.trans he3
 have hs3 := hs.ext Flat.ext he3
 refine Sr ?_
 apply K.cond <;> intro g2
 ·have hk' : k < m.chans.length := by omega
  obtain ⟨hci, hce⟩ := Abs.cAt_get hk'
  have hfit := Abs.cFit hk'
  have hcn := Abs.cellN_eq m
  have hcap := (hM.chan _ (List.getElem_mem hk')).cap
  obtain ⟨a1, rfl⟩ := r1.addr (by omega)
  obtain ⟨a2, rfl⟩ := h2.addr (by omega)
  have r1' := r1.ext Flat.ext e3
  have hcv := ((h2.at k hk').cells).ext e3
  refine Sr ?_
  refine K.slcB (k := .i64) (k' := .i64) (Abs.cAt m k) (Abs.cAt m k + (1 + m.chans[k].cap.toNat)) hs3 (by simp [ev_tmp, uA, hce]) (by simp [ev_tmp, uA, hce]; omega) (by omega) (by omega) fun o c hp => ?_
  rw [show Abs.cAt m k + (1 + m.chans[k].cap.toNat) - Abs.cAt m k = 1 + m.chans[k].cap.toNat from by omega] at hp ⊢
  replace hp : SlR 1 (Flat encN) w3 (.slice o (1 + m.chans[k].cap.toNat) c) (Abs.chanPart m k m.chans[k] s) := hp
  refine Sr ?_
  refine K.qfn (.bool (Abs.queueB m.scalars m.chans[k] (Abs.chanPart m k m.chans[k] s))) (fun w' e => (rchannel18_r _ m _ _ k w' (hMI.ext (e3.trans e)) hM hk' (hp.ext Flat.ext e) hp.len.1.symm).mono fun u w'' ⟨⟨t, ht, hq⟩, he⟩ => ⟨by rw [ht, Abs.queueB_of hq], he⟩) ?_
  refine Sr ?_
  intro w4 he4
  refine K.condb (fun hq => ?_) (fun hq => ?_)
  ·refine Sr ?_
   refine ⟨hk', Tr, (), trivial, he3.trans he4, fun j h hj => ?_⟩
   by_cases hjk : j = k
   ·subst hjk; exact Abs.queueB_iff.1 hq
   ·exact hall j h (by omega)
  ·refine Sr ?_
   exact ⟨⟨false, rfl, by simp only [Bool.false_eq_true, false_iff]; intro h; have := Abs.queueB_iff.2 (h.queue k hk'); rw [hq] at this; cases this⟩, e3.trans he4⟩
 ·refine Sr ?_
  refine K.call (rfits18_r _ m _ s w3 (hLI.ext e3) hM hs3 hl) ?_
  rintro _ w4 ⟨⟨t, rfl, ht⟩, he4⟩
  refine Sr ?_
  exact ⟨⟨t, rfl, ht.trans ⟨fun h => ⟨hl, fun j hj => hall j hj (by omega), h⟩, fun h => h.cell⟩⟩, e3.trans he4⟩
theorem rRight18_r (cs : List Value) (m : Abs.Model) (v : Value) (s : List Int) (w : World) (h : Abs.MI w cs m) (hg : m.good) (hs : Nums w v s) :
  Ret Tryz.prog F.lr18_Right #[.agg cs.toArray, v] w fun u w' => (∃ t : Bool, u = .bool t ∧ (t = true ↔ Abs.Right m s)) ∧ Ext w w' := by
 have hM := h
 obtain ⟨o0, c0, o1, c1, o2, c2, o3, c3, o4, c4, rfl, _⟩ := h.form
 obtain ⟨ov, cv, rfl, lv⟩ := hs.form
 refine Ks E.lr18_Right ?_; dsimp only [C.lr18_Right]; refine Yy ?_
 refine Sr ?_
 intro w1 b1 hb1 he1 hc1
 refine Sr ?_
 intro w2 he2
 replace hc1 := he2.obj hc1
 have e2 := he1.trans he2
 refine Sr ?_
 refine K.call (may15_r _ m w2 (hM.ext e2) hg) ?_
 rintro _ w3 ⟨rfl, he3⟩
 have e3 := e2.trans he3
 refine ⟨he3, ?_⟩
 by_cases hk : (Abs.check m).why = 0
 ·rw [decide_eq_true hk]
  refine Sr ?_
  refine K.call (refLayOf_r _ m w3 (hM.ext e3) hg) ?_
  rintro _ w4 ⟨⟨xs, rfl, hL⟩, he4⟩
  replace hL := hL.here
  rw [Abs.lay_ok hk] at hL
  have e4 := e3.trans he4
  refine ⟨he3.trans he4, ?_⟩
  refine Sr ?_
  refine K.call (rFits_r _ _ m _ s w4 (hM.ext e4) hL (Abs.maybe_of hk) (hs.ext Flat.ext e4)) ?_
  rintro _ w5 ⟨⟨t, rfl, ht⟩, he5⟩
  refine Sr ?_
  exact ⟨⟨t, by cases t <;> rfl, ht.trans ⟨fun h => ⟨hk, h⟩, fun h => h.2⟩⟩, e4.trans he5⟩
 ·rw [decide_eq_false hk]
  refine Sr ?_
  exact ⟨⟨false, rfl, by simp only [Bool.false_eq_true, false_iff]; exact fun h => hk h.1⟩, e3⟩
end Go.Proofs.YtglnobabdcoknaaGreatDoor
end
section
namespace Abs
open Go
def vI (m : Model) : List (List Int) := m.vars.map (varInit m)
def cI (m : Model) : List (List Int) := m.chans.map chanInit
def iI (m : Model) : List (List Int) := (insts m).map (instInit m)
theorem flat_cell : ∀ (L : List (List Int)) (B : List (List Bd)), L.map List.length = B.map List.length → ∀ (i j : Nat) (hi : i < L.length) (hj : j < L[i].length), L.flatten[total (B.take i) + j]? = some L[i][j]
 | [], _, _, i, _, hi, _ => by simp at hi
 | x :: r, [], h, _, _, _, _ => by simp at h
 | x :: r, b :: B, h, 0, j, _, hj => by
  simp only [List.take_zero, List.flatten_cons, total, List.map_nil, List.sum_nil, Nat.zero_add, List.getElem_cons_zero] at hj ⊢
  rw [List.getElem?_append_left hj, List.getElem?_eq_getElem hj]
 | x :: r, b :: B, h, i + 1, j, hi, hj => by
  simp only [List.map_cons, List.cons.injEq] at h
  simp only [List.take_succ_cons, List.flatten_cons, total_cons, List.getElem_cons_succ] at hj ⊢
  rw [List.getElem?_append_right (by omega), show b.length + total (B.take i) + j - x.length = total (B.take i) + j from by omega]
  exact flat_cell r B h.2 i j (by simpa using hi) hj
theorem flat_len {L : List (List Int)} {B : List (List Bd)} (h : L.map List.length = B.map List.length) : L.flatten.length = total B := by
 rw [List.length_flatten, h]; rfl
theorem vI_len (m : Model) : (vI m).map List.length = (vT m).map List.length := by
 simp [vI, vT, List.map_map, Function.comp_def, varInit, varBds_len]
theorem cI_len (m : Model) : (cI m).map List.length = (cT m).map List.length := by
 simp [cI, cT, List.map_map, Function.comp_def, chanInit, chanBds_len]
theorem instInit_len (m : Model) (x : Inst) : (instInit m x).length = (instBds m x).length := by
 unfold instInit instBds
 cases nth m.procs x.proc <;> simp [procBds]
theorem iI_len (m : Model) : (iI m).map List.length = (iT m).map List.length := by
 simp [iI, iT, List.map_map, Function.comp_def, instInit_len]
theorem firstState_eq (m : Model) : firstState m = (vI m).flatten ++ (cI m).flatten ++ (iI m).flatten := by
 simp [firstState, vI, cI, iI, List.flatMap_def]
theorem firstState_len (m : Model) : (firstState m).length = cellN m := by
 rw [firstState_eq, List.length_append, List.length_append, flat_len (vI_len m), flat_len (cI_len m), flat_len (iI_len m), cellN_eq]
theorem first_v {m : Model} {i j : Nat} (hi : i < m.vars.length) (hj : (j : Int) < cells m.vars[i] m.scalars) : (firstState m)[vAt m i + j]? = some m.vars[i].init := by
 have hi' : i < (vI m).length := by simpa [vI] using hi
 have e : (vI m)[i] = List.replicate (cells m.vars[i] m.scalars).toNat m.vars[i].init := by simp [vI, varInit]
 have hj' : j < (vI m)[i].length := by rw [e, List.length_replicate]; omega
 have h := flat_cell (vI m) (vT m) (vI_len m) i j hi' hj'
 have hf := vFit hi
 rw [firstState_eq, List.append_assoc, List.getElem?_append_left (by rw [flat_len (vI_len m)]; omega)]
 unfold vAt
 rw [h]
 simp [e]
theorem first_c {m : Model} {c : Nat} (h1 : total (vT m) ≤ c) (h2 : c < total (vT m) + total (cT m)) : (firstState m)[c]? = some 0 := by
 rw [firstState_eq, List.getElem?_append_left (by rw [List.length_append, flat_len (vI_len m), flat_len (cI_len m)]; omega), List.getElem?_append_right (by rw [flat_len (vI_len m)]; exact h1), flat_len (vI_len m)]
 have hl : c - total (vT m) < (cI m).flatten.length := by rw [flat_len (cI_len m)]; omega
 rw [List.getElem?_eq_getElem hl]
 have hm := List.getElem_mem hl
 rw [List.mem_flatten] at hm
 obtain ⟨l, hl1, hl2⟩ := hm
 obtain ⟨x, _, rfl⟩ := List.mem_map.1 hl1
 rw [(List.mem_replicate.1 hl2).2]
theorem first_i {m : Model} {i j : Nat} (hi : i < (insts m).length) (hj : j < (instInit m (insts m)[i]).length) : (firstState m)[iAt m i + j]? = some (instInit m (insts m)[i])[j] := by
 have hi' : i < (iI m).length := by simpa [iI] using hi
 have e : (iI m)[i] = instInit m (insts m)[i] := by simp [iI]
 have hj' : j < (iI m)[i].length := by rw [e]; exact hj
 have h := flat_cell (iI m) (iT m) (iI_len m) i j hi' hj'
 rw [firstState_eq, List.getElem?_append_right (by rw [List.length_append, flat_len (vI_len m), flat_len (cI_len m)]; unfold iAt; omega), List.length_append, flat_len (vI_len m), flat_len (cI_len m)]
 unfold iAt
 rw [show total (vT m) + total (cT m) + total ((iT m).take i) + j - (total (vT m) + total (cT m)) = total ((iT m).take i) + j from by omega, h]
 simp [e]
def pre (Xs : List Int) (d : Nat) : List Int := Xs.take d ++ List.replicate (Xs.length - d) 0
theorem pre_len {Xs : List Int} {d : Nat} (h : d ≤ Xs.length) : (pre Xs d).length = Xs.length := by simp [pre]; omega
theorem pre_zero (Xs : List Int) : pre Xs 0 = List.replicate Xs.length 0 := by simp [pre]
theorem pre_all (Xs : List Int) : pre Xs Xs.length = Xs := by simp [pre]
theorem pre_set {Xs : List Int} {d : Nat} {x : Int} (h : Xs[d]? = some x) : (pre Xs d).set d x = pre Xs (d + 1) := by
 obtain ⟨hd, rfl⟩ := List.getElem?_eq_some_iff.1 h
 apply List.ext_getElem?
 intro i
 unfold pre
 by_cases hi : i < d
 ·rw [List.getElem?_set_ne (by omega), List.getElem?_append_left (by simp; omega), List.getElem?_append_left (by simp; omega), List.getElem?_take_of_lt hi, List.getElem?_take_of_lt (by omega)]
 ·by_cases hid : i = d
  ·subst hid
   rw [List.getElem?_set_self (by simp; omega), List.getElem?_append_left (by simp; omega), List.getElem?_take_of_lt (by omega), List.getElem?_eq_getElem hd]
  ·rw [List.getElem?_set_ne (by omega), List.getElem?_append_right (by simp; omega), List.getElem?_append_right (by simp; omega), List.getElem?_replicate, List.getElem?_replicate]
   simp only [List.length_take]
   have e1 : min d Xs.length = d := by omega
   have e2 : min (d + 1) Xs.length = d + 1 := by omega
   rw [e1, e2]
   by_cases h : i < Xs.length
   ·rw [if_pos (by omega), if_pos (by omega)]
   ·rw [if_neg (by omega), if_neg (by omega)]
theorem pre_step {Xs : List Int} {d : Nat} (h : Xs[d]? = some 0) : pre Xs d = pre Xs (d + 1) := by
 rw [← pre_set h]
 obtain ⟨hd, _⟩ := List.getElem?_eq_some_iff.1 h
 apply List.ext_getElem?
 intro i
 by_cases hid : i = d
 ·subst hid
  rw [List.getElem?_set_self (by rw [pre_len (by omega)]; exact hd)]
  unfold pre
  rw [List.getElem?_append_right (by simp only [List.length_take]; omega), List.getElem?_replicate, if_pos (by simp only [List.length_take]; omega)]
 ·rw [List.getElem?_set_ne (by omega)]
theorem pre_jump {Xs : List Int} {d : Nat} : ∀ n, (∀ i, d ≤ i → i < d + n → Xs[i]? = some 0) → pre Xs d = pre Xs (d + n)
 | 0, _ => rfl
 | n + 1, h => by
  rw [pre_jump n fun i h1 h2 => h i h1 (by omega), pre_step (h (d + n) (by omega) (by omega))]
  rfl
theorem take_snoc {Xs : List Int} {d : Nat} {x : Int} (h : Xs[d]? = some x) : Xs.take (d + 1) = Xs.take d ++ [x] := by
 obtain ⟨hd, rfl⟩ := List.getElem?_eq_some_iff.1 h
 exact List.take_succ_eq_append_getElem hd
theorem vAt_succ {m : Model} {i : Nat} (h : i < m.vars.length) : vAt m (i + 1) = vAt m i + (cells m.vars[i] m.scalars).toNat := by
 have h' : i < (vT m).length := by simpa [vT] using h
 unfold vAt
 rw [total_take h']
 simp [vT, varBds_len]
theorem iAt_succ {m : Model} {i : Nat} (h : i < (insts m).length) : iAt m (i + 1) = iAt m i + (instBds m (insts m)[i]).length := by
 have h' : i < (iT m).length := by simpa [iT] using h
 unfold iAt
 rw [total_take h']
 simp [iT]
 omega
theorem vAt_end {m : Model} {i : Nat} (h : m.vars.length ≤ i) : vAt m i = total (vT m) := by
 unfold vAt; rw [List.take_of_length_le (by simpa [vT] using h)]
theorem iAt_zero (m : Model) : iAt m 0 = total (vT m) + total (cT m) := by simp [iAt, total]
theorem iAt_end {m : Model} {i : Nat} (h : (insts m).length ≤ i) : iAt m i = cellN m := by
 unfold iAt; rw [List.take_of_length_le (by simpa [iT] using h), cellN_eq]
end Abs
end
section
namespace Lite
open Go Go.RowKit
def intsC (l : List Int) : List Value := l.map (Value.int .i64)
theorem intsC_len (l : List Int) : (intsC l).length = l.length := by simp [intsC]
theorem intsC_set {l : List Int} {d j : Nat} {x : Int} (hj : j = d) (h : j < (intsC l).toArray.size) : (intsC l).toArray.set j (.int .i64 x) h = (intsC (l.set d x)).toArray := by
 subst hj
 simp [intsC, List.map_set]
theorem zeros_int (n : Nat) : zeros (Value.int .i64 0).cells (n * 1) = (intsC (List.replicate n 0)).toArray := by
 apply Array.ext_getElem?
 intro i
 by_cases h : i < n
 ·simp [zeros, intsC, Value.cells, h, Nat.mod_one]
 ·simp [zeros, intsC, h]
theorem K.mkN {KK : Value → World → Prop} {w : World} {e : TypeId} {n : Int} {t} (N : Nat) (hn : n = N) (hb : N ≤ 1000000) (hk : ∀ w1 b, w.heap.size ≤ b → Ext w w1 → w1.heap[b]? = some (.cells (intsC (List.replicate N 0)).toArray e) → KK (.slice (some ⟨b, 0, none⟩) N N) w1) :
  MkSVCh e 1 8 (.int .i64 0) (.int .i64 n) (.int .i64 n) w KK t := by
 subst hn
 refine K.mkS ⟨by omega, by omega, by omega, by omega⟩ ?_
 have h := hk (w.alloc (.cells (intsC (List.replicate N 0)).toArray e)) _ (Nat.le_refl _) ((Ext.refl w).alloc _) (heap_alloc_new w _)
 rw [Int.toNat_natCast, zeros_int]
 exact h
theorem intsC_flat : ∀ l : List Int, intsC l = l.flatMap encN
 | [] => rfl
 | x :: r => by
  have := intsC_flat r
  simp only [intsC, List.map_cons, List.flatMap_cons] at this ⊢
  rw [this]; rfl
theorem nums_blk {w : World} {b n : Nat} {e : TypeId} {l : List Int} (h : w.heap[b]? = some (.cells (intsC l).toArray e)) (hn : n = l.length) (hm : l.length ≤ maxLen) : SlR 1 (Flat encN) w (.slice (some ⟨b, 0, none⟩) n n) l :=
 SlR.blk (enc := encN) (fun _ => rfl) (by rw [h, intsC_flat]) hn hm fun _ _ _ h => h
end Lite
namespace Go.Proofs.YtglnobabdcoknaaGreatDoor
open Go Go.RowKit Lite
theorem first_r (cs : List Value) (m : Abs.Model) (w : World) (h : Abs.MI w cs m) (hg : m.good) (ho : OwnIs w) :
  Ret Tryz.prog F.b4 #[.agg cs.toArray] w fun v w' => (((Abs.check m).why = 0 → Nums w' v (Abs.firstState m)) ∧ (¬ (Abs.check m).why = 0 → v = .slice none 0 0)) ∧ Ext w w' := by
 have hMI := h
 obtain ⟨o0, c0, o1, c1, o2, c2, o3, c3, o4, c4, rfl, h0, h1, h2, h3, h4, l0, l1, l2, l3, l4⟩ := h.form
 refine Ks E.b4 ?_; dsimp only [C.b4]; refine Yy ?_
 refine Sr ?_
 intro w1 b1 hb1 he1 hc1
 refine Sr ?_
 refine K.call (read_r _ m w1 (hMI.ext he1) hg (ho.ext he1)) ?_
 rintro _ w2 ⟨hr, he2⟩
 replace hc1 := he2.obj hc1
 have e2 := he1.trans he2
 rcases hr with ⟨rfl, hk⟩ | ⟨b, rfl, hk, hr⟩
 ·refine Sr ?_
  refine K.ptrEq0 (by kernel_rfl) ?_
  refine Sr ?_
  exact ⟨⟨fun h => absurd h hk, fun _ => Tr⟩, e2⟩
 have hM := Abs.maybe_of hk
 have hlF := Abs.firstState_len m
 have h64 : Abs.cellN m ≤ 64 := Abs.layCells_le64 hM
 obtain ⟨f6, f7, f8⟩ := Abs.layout_lens m
 have few := hM.few
 have hil : (Abs.insts m).length ≤ 30 := by have := Abs.insts_len m; have := hM.procs; omega
 obtain ⟨x0, d0, x1, d1, x2, d2, x3, d3, x4, d4, p0, g0, p1, g1, p2, g2, p3, g3, p4, g4, oi, ci, hb, r0, r1, r2, r3, r4, k0, k1, k2, k3, hI⟩ := hr.form
 clear r1 r3 r4 k0 k1 k2 k3
 refine Sr ?_
 refine K.ptrEq1 (by kernel_rfl) ?_
 refine Sr ?_
 refine K.mkN (Abs.cellN m) rfl (by omega) ?_
 intro w3 bS hbS he3 hcS
 rw [← hlF, ← Abs.pre_zero] at hcS
 have hc1w := hc1
 have hbw := hb
 replace hc1 := he3.obj hc1
 replace hb := he3.obj hb
 have e3 := e2.trans he3
 have zS := lH hcS
 have z1 := lH hc1
 have z2 := e2.size
 have nb : bS ≠ b := by
  intro e; subst e
  have := lH hbw
  omega
 have n1 : bS ≠ b1 := by
  intro e; subst e
  have := lH hc1w
  omega
 have hx1 : ∀ {W}, Mod (fun k => k = bS) w3 W → W.heap[b1]? = w3.heap[b1]? := fun h => h.block _ z1 (Ne.symm n1)
 have hxb : ∀ {W}, Mod (fun k => k = bS) w3 W → W.heap[b]? = w3.heap[b]? := fun h => h.block _ (lH hb) (Ne.symm nb)
 have hE : ∀ {W}, Mod (fun k => k = bS) w3 W → Ext w2 W := fun h => h.ext he3 fun i hi e => by omega
 rw [hc1] at hx1
 rw [hb] at hxb
 clear hc1 hb
 refine Sr ?_
 refine K.forG 25 m.vars.length [1, 3, 4, 23, 24] (fun _ : Unit => []) () (fun k _ W => Mod (fun i => i = bS) w3 W ∧ W.heap[bS]? = some (.cells (intsC (Abs.pre (Abs.firstState m) (Abs.vAt m k))).toArray T.a)) hZq hZq ⟨Mod.refl _ _, by simpa [Abs.vAt, Abs.total] using hcS⟩ ?_
 clear hcS
 rintro k _ S w4 hk' ⟨hm, hcS⟩
 have hc1 := hx1 hm
 have hb := hxb hm
 have E4 := e2.trans (hE hm)
 refine Sr ?_
 apply K.cond <;> intro g1
 ·have hk2 : k < m.vars.length := by omega
  obtain ⟨a, rfl⟩ := h1.addr (by omega)
  have hcv := ((h1.at k hk2).cells).ext E4
  have hcl := Abs.cells_le m.vars[k] m.scalars
  have hfit := Abs.vFit hk2
  have hcn := Abs.cellN_eq m
  obtain ⟨hvi, hve⟩ := Abs.vAt_get hk2
  refine Sr ?_
  intro wn b6 hb6 hen hcn6
  refine Sr ?_
  intro w5 hw5 hc6
  have he5 : Ext w4 w5 := hw5.ext hen hb6
  replace hc6 : w5.heap[b6]? = some (.cells m.vars[k].enc.toArray T.e) := hc6
  replace hc1 := he5.obj hc1
  replace hb := he5.obj hb
  replace hcS := he5.obj hcS
  have E5 := E4.trans he5
  have z6 := lH hc6
  have zm := hm.size
  have n6 : bS ≠ b6 := by omega
  clear hw5 hen hcn6 hcv
  refine Sr ?_
  refine K.call (cells_r m.vars[k] _ m.scalars w5 (h0.ext E5)) ?_
  rintro _ w6 ⟨rfl, he6⟩
  replace hc1 := he6.obj hc1
  replace hb := he6.obj hb
  replace hc6 := he6.obj hc6
  replace hcS := he6.obj hcS
  have hm6 : Mod (fun i => i = bS) w3 w6 := (hm.trans he5.mod).trans he6.mod
  have hy1 : ∀ {W}, Mod (fun k => k = bS) w6 W → W.heap[b1]? = w6.heap[b1]? := fun h => h.block _ (lH hc1) (Ne.symm n1)
  have hyb : ∀ {W}, Mod (fun k => k = bS) w6 W → W.heap[b]? = w6.heap[b]? := fun h => h.block _ (lH hb) (Ne.symm nb)
  have hy6 : ∀ {W}, Mod (fun k => k = bS) w6 W → W.heap[b6]? = w6.heap[b6]? := fun h => h.block _ (lH hc6) (Ne.symm n6)
  rw [hc1] at hy1
  rw [hb] at hyb
  rw [hc6] at hy6
  clear hc1 hb hc6
  refine Sr ?_
  refine K.forG 34 (Abs.cells m.vars[k] m.scalars).toNat [1, 3, 4, 5, 6, 23, 24, 25, 33] (fun _ : Unit => []) () (fun j _ W => Mod (fun i => i = bS) w6 W ∧ W.heap[bS]? = some (.cells (intsC (Abs.pre (Abs.firstState m) (Abs.vAt m k + j))).toArray T.a)) hZq hZq ⟨Mod.refl _ _, by simpa using hcS⟩ ?_
  clear hcS
  rintro j _ S w7 hj ⟨hm7, hcS⟩
  have hc1 := hy1 hm7
  have hb := hyb hm7
  have hc6 := hy6 hm7
  refine Sr ?_
  apply K.cond <;> intro g2
  ·have hF := Abs.first_v hk2 (j := j) (by omega)
   have hlt : Abs.vAt m k + j < Abs.cellN m := by omega
   have r0' := r0.ext Flat.ext ((hE hm6).trans (Ext.refl _))
   obtain ⟨a0, rfl⟩ := r0.addr (by omega)
   replace r0' := r0.ext Flat.ext (hE (hm6.trans hm7))
   refine Sr ?_
   intro w8 he8
   replace hc1 := he8.obj hc1
   replace hb := he8.obj hb
   replace hc6 := he8.obj hc6
   replace hcS := he8.obj hcS
   have hlen := intsC_len (Abs.pre (Abs.firstState m) (Abs.vAt m k + j))
   rw [Abs.pre_len (by omega), hlF] at hlen
   refine Sr ?_
   refine K.ian (Abs.vAt m k + j) (by rw [hve]; omega) hlt ?_
   refine Sr ?_
   refine K.st1 hcS (by rw [List.size_toArray, hlen]; omega) rfl fun w9 hw9 hc9 => ?_
   rw [intsC_set (Nat.mul_one _), Abs.pre_set hF] at hc9
   refine Sr ?_
   exact ⟨by omega, Tr, (), trivial, (hm7.trans he8.mod).trans (hw9.mod rfl), hc9⟩
  ·have hjj : j = (Abs.cells m.vars[k] m.scalars).toNat := by omega
   rw [hjj, ← Abs.vAt_succ hk2] at hcS
   refine Sr ?_
   exact ⟨hk2, Tr, (), trivial, hm6.trans hm7, hcS⟩
 have hkv : m.vars.length ≤ k := by omega
 rw [Abs.vAt_end hkv, Abs.pre_jump (Abs.total (Abs.cT m)) fun i h1 h2 => Abs.first_c h1 h2, ← Abs.iAt_zero] at hcS
 refine Sr ?_
 refine K.forG 58 (Abs.insts m).length [1, 3, 4, 56, 57] (fun _ : Unit => []) () (fun k _ W => Mod (fun i => i = bS) w3 W ∧ W.heap[bS]? = some (.cells (intsC (Abs.pre (Abs.firstState m) (Abs.iAt m k))).toArray T.a)) hZq hZq ⟨hm, hcS⟩ ?_
 clear hcS hc1 hb hm E4
 rintro k _ S w4 hk' ⟨hm, hcS⟩
 have hc1 := hx1 hm
 have hb := hxb hm
 have E4 := e2.trans (hE hm)
 have hI4 := hI.ext Flat.ext (hE hm)
 refine Sr ?_
 apply K.cond <;> intro g1
 ·have hk2 : k < (Abs.insts m).length := by omega
  obtain ⟨ai, rfl⟩ := hI4.addr (by omega)
  have hof := Abs.insts_of _ (List.getElem_mem hk2)
  obtain ⟨p, hp, hpe, hbe⟩ := Abs.instBds_at hof
  have hok := hM.proc _ (List.getElem_mem hp)
  have hfew := hok.few.1
  have hie : Abs.instInit m (Abs.insts m)[k] = 0 :: m.procs[p].vars.map (·.init) := by
   unfold Abs.instInit
   rw [hpe, Abs.nth_some (by omega) (by omega)]
   simp
  have hfit := Abs.iFit hk2
  have hbl : (Abs.instBds m (Abs.insts m)[k]).length = 1 + m.procs[p].vars.length := by rw [hbe, Abs.procBds_len]
  have hi0 := Abs.first_i hk2 (j := 0) (by rw [hie]; simp)
  have e0 : (Abs.instInit m (Abs.insts m)[k])[0]'(by rw [hie]; simp) = 0 := by simp [hie]
  rw [e0, Nat.add_zero] at hi0
  rw [Abs.pre_step hi0] at hcS
  obtain ⟨hvi, hve⟩ := Abs.iAt_get hk2
  refine Sr ?_
  intro wn b9 hb9 hen hcn9
  refine Sr ?_
  intro w5 hw5 hc9
  have he5 : Ext w4 w5 := hw5.ext hen hb9
  replace hc9 : w5.heap[b9]? = some (.cells #[.int .i64 p, .int .i64 (Abs.insts m)[k].elem] T.m) := by rw [← hpe]; exact hc9
  replace hc1 := he5.obj hc1
  replace hb := he5.obj hb
  replace hcS := he5.obj hcS
  have E5 := E4.trans he5
  have zm := hm.size
  have n9 : bS ≠ b9 := by omega
  have hm5 : Mod (fun i => i = bS) w3 w5 := hm.trans he5.mod
  clear hw5 hen hcn9 hI4
  obtain ⟨a, rfl⟩ := h3.addr (by omega)
  obtain ⟨hsn, vv, vc, hpc, hpv, hpcm⟩ := h3.at p hp
  obtain ⟨ov, cv, rfl, lv⟩ := hpv.form
  obtain ⟨oc, cc, rfl, lc⟩ := hpcm.form
  replace hpc := hpc.ext E5
  refine Sr ?_
  have hy1 : ∀ {W}, Mod (fun k => k = bS) w5 W → W.heap[b1]? = w5.heap[b1]? := fun h => h.block _ (lH hc1) (Ne.symm n1)
  have hyb : ∀ {W}, Mod (fun k => k = bS) w5 W → W.heap[b]? = w5.heap[b]? := fun h => h.block _ (lH hb) (Ne.symm nb)
  have hy9 : ∀ {W}, Mod (fun k => k = bS) w5 W → W.heap[b9]? = w5.heap[b9]? := fun h => h.block _ (lH hc9) (Ne.symm n9)
  rw [hc1] at hy1
  rw [hb] at hyb
  rw [hc9] at hy9
  clear hc1 hb hc9 hpc
  refine K.forG 71 m.procs[p].vars.length [1, 3, 4, 8, 9, 56, 57, 58, 69, 70] (fun _ : Unit => []) () (fun j _ W => Mod (fun i => i = bS) w5 W ∧ W.heap[bS]? = some (.cells (intsC (Abs.pre (Abs.firstState m) (Abs.iAt m k + 1 + j))).toArray T.a)) hZq hZq ⟨Mod.refl _ _, by simpa using hcS⟩ ?_
  clear hcS
  rintro j _ S w7 hj ⟨hm7, hcS⟩
  have hc1 := hy1 hm7
  have hb := hyb hm7
  have hc9 := hy9 hm7
  have E7 := e2.trans (hE (hm5.trans hm7))
  refine Sr ?_
  apply K.cond <;> intro g2
  ·have hj' : j < m.procs[p].vars.length := by omega
   obtain ⟨aj, rfl⟩ := hpv.addr (by omega)
   have hcv := ((hpv.at j hj').cells).ext E7
   have hF := Abs.first_i hk2 (j := 1 + j) (by rw [hie]; simp; omega)
   have e1 : (Abs.instInit m (Abs.insts m)[k])[1 + j]'(by rw [hie]; simp; omega) = m.procs[p].vars[j].init := by
    simp only [hie]
    rw [List.getElem_cons, dif_neg (by omega)]
    simp
   rw [e1, ← Nat.add_assoc] at hF
   have hlt : Abs.iAt m k + 1 + j < Abs.cellN m := by omega
   obtain ⟨a2, rfl⟩ := r2.addr (by omega)
   refine Sr ?_
   intro wn b11 hb11 hen hcn11
   refine Sr ?_
   intro w8 hw8 hc11
   have he8 : Ext w7 w8 := hw8.ext hen hb11
   replace hc11 : w8.heap[b11]? = some (.cells m.procs[p].vars[j].enc.toArray T.e) := hc11
   have r2' := r2.ext Flat.ext ((hE (hm5.trans hm7)).trans he8)
   have n11 : bS ≠ b11 := by have := (hm5.trans hm7).size; omega
   replace hc1 := he8.obj hc1
   replace hb := he8.obj hb
   replace hcS := he8.obj hcS
   clear hw8 hen hcn11 hcv
   have hlen := intsC_len (Abs.pre (Abs.firstState m) (Abs.iAt m k + 1 + j))
   rw [Abs.pre_len (by omega), hlF] at hlen
   refine Sr ?_
   intro w9 he9
   replace hc1 := he9.obj hc1
   replace hb := he9.obj hb
   replace hcS := he9.obj hcS
   replace hc11 := he9.obj hc11
   refine Sr ?_
   refine K.ian (Abs.iAt m k + 1 + j) (by rw [hve]; omega) hlt ?_
   refine Sr ?_
   refine K.st1 hcS (by rw [List.size_toArray, hlen]; omega) rfl fun w10 hw10 hc10 => ?_
   rw [intsC_set (Nat.mul_one _), Abs.pre_set hF] at hc10
   refine Sr ?_
   exact ⟨by omega, Tr, (), trivial, ((hm7.trans he8.mod).trans he9.mod).trans (hw10.mod rfl), hc10⟩
  ·have hjj : j = m.procs[p].vars.length := by omega
   rw [hjj, show Abs.iAt m k + 1 + m.procs[p].vars.length = Abs.iAt m (k + 1) from by rw [Abs.iAt_succ hk2, hbl]; omega] at hcS
   refine Sr ?_
   exact ⟨hk2, Tr, (), trivial, hm5.trans hm7, hcS⟩
 have hki : (Abs.insts m).length ≤ k := by omega
 rw [Abs.iAt_end hki, ← hlF, Abs.pre_all] at hcS
 refine Sr ?_
 exact ⟨⟨fun _ => nums_blk hcS hlF.symm (by rw [hlF]; unfold maxLen; omega), fun h => absurd hk h⟩, E4⟩
def NumsRow (w : World) (a : Addr) (l : List Int) : Prop := ∃ v, w.cell? a = some v ∧ Nums w v l
theorem NumsRow.ext (w w' : World) (a : Addr) (l : List Int) (he : Ext w w') (h : NumsRow w a l) : NumsRow w' a l := let ⟨v, h1, h2⟩ := h; ⟨v, he.cell h1, h2.ext Flat.ext he⟩
abbrev Numss (w : World) (v : Value) (l : List (List Int)) : Prop := SlR 1 NumsRow w v l
theorem ints18_r (u v : Value) (s t : List Int) (w : World) (hs : Nums w u s) (ht : Nums w v t) :
  Ret Tryz.prog F.lw18_ints #[u, v] w fun x w' => x = .bool (decide (s = t)) ∧ Ext w w' := by
 obtain ⟨ou, cu, rfl, lu⟩ := hs.form
 obtain ⟨ov, cv, rfl, lv⟩ := ht.form
 refine Ks E.lw18_ints ?_; dsimp only [C.lw18_ints]; refine Yy ?_
 refine Sr ?_
 apply K.cond <;> intro g1
 rotate_left
 ·have : s ≠ t := fun e => by subst e; omega
  refine Sr ?_
  exact ⟨by rw [decide_eq_false this], Ext.refl _⟩
 have hl : s.length = t.length := by omega
 refine Sr ?_
 refine K.forG 5 s.length [0, 1] (fun _ : Unit => []) () (fun k _ W => Ext w W ∧ ∀ j (h : j < s.length), j < k → s[j] = t[j]) hZq hZq ⟨Ext.refl _, fun j _ h => absurd h (Nat.not_lt_zero _)⟩ ?_
 rintro k _ S w1 hk ⟨he1, hall⟩
 refine Sr ?_
 apply K.cond <;> intro g2
 ·have hk' : k < s.length := by omega
  have hk2 : k < t.length := by omega
  have hs1 := hs.ext Flat.ext he1
  have ht1 := ht.ext Flat.ext he1
  obtain ⟨au, rfl⟩ := hs.addr (by omega)
  obtain ⟨av, rfl⟩ := ht.addr (by omega)
  refine Sr ?_
  intro w2 he2
  refine Sr ?_
  apply K.cond <;> intro g3
  ·refine Sr ?_
   refine ⟨hk', Tr, (), trivial, he1.trans he2, fun j h hj => ?_⟩
   by_cases hjk : j = k
   ·subst hjk; omega
   ·exact hall j h (by omega)
  ·have : s ≠ t := fun e => by subst e; omega
   refine Sr ?_
   exact ⟨by rw [decide_eq_false this], he1.trans he2⟩
 ·have : s = t := List.ext_getElem hl fun j h _ => hall j h (by omega)
  refine Sr ?_
  exact ⟨by rw [decide_eq_true this], he1⟩
theorem lists18_r (u v : Value) (s t : List (List Int)) (w : World) (hs : Numss w u s) (ht : Numss w v t) :
  Ret Tryz.prog F.lw18_lists #[u, v] w fun x w' => x = .bool (decide (s = t)) ∧ Ext w w' := by
 obtain ⟨ou, cu, rfl, lu⟩ := hs.form
 obtain ⟨ov, cv, rfl, lv⟩ := ht.form
 refine Ks E.lw18_lists ?_; dsimp only [C.lw18_lists]; refine Yy ?_
 refine Sr ?_
 apply K.cond <;> intro g1
 rotate_left
 ·have : s ≠ t := fun e => by subst e; omega
  refine Sr ?_
  exact ⟨by rw [decide_eq_false this], Ext.refl _⟩
 have hl : s.length = t.length := by omega
 refine Sr ?_
 refine K.forG 5 s.length [0, 1] (fun _ : Unit => []) () (fun k _ W => Ext w W ∧ ∀ j (h : j < s.length), j < k → s[j] = t[j]) hZq hZq ⟨Ext.refl _, fun j _ h => absurd h (Nat.not_lt_zero _)⟩ ?_
 rintro k _ S w1 hk ⟨he1, hall⟩
 refine Sr ?_
 apply K.cond <;> intro g2
 ·have hk' : k < s.length := by omega
  have hk2 : k < t.length := by omega
  have hs1 := hs.ext NumsRow.ext he1
  have ht1 := ht.ext NumsRow.ext he1
  obtain ⟨au, rfl⟩ := hs.addr (by omega)
  obtain ⟨av, rfl⟩ := ht.addr (by omega)
  obtain ⟨x, hx, hxi⟩ := hs1.at k hk'
  obtain ⟨y, hy, hyi⟩ := ht1.at k hk2
  refine Sr ?_
  refine K.ld hx ?_
  refine Sr ?_
  refine K.ld hy ?_
  refine Sr ?_
  refine K.qfn _ (fun w' e => ints18_r x y s[k] t[k] w' (hxi.ext Flat.ext e) (hyi.ext Flat.ext e)) ?_
  refine Sr ?_
  intro w2 he2
  refine Sr ?_
  apply K.cond <;> intro g3
  ·refine Sr ?_
   refine ⟨hk', Tr, (), trivial, he1.trans he2, fun j h hj => ?_⟩
   by_cases hjk : j = k
   ·subst hjk; exact g3
   ·exact hall j h (by omega)
  ·have : s ≠ t := fun e => by subst e; exact g3 rfl
   refine Sr ?_
   exact ⟨by rw [decide_eq_false this], he1.trans he2⟩
 ·have : s = t := List.ext_getElem hl fun j h _ => hall j h (by omega)
  refine Sr ?_
  exact ⟨by rw [decide_eq_true this], he1⟩
end Go.Proofs.YtglnobabdcoknaaGreatDoor
end
section
namespace Abs
open Go
def exTiny : Model := ⟨[], [⟨⟨#[120]⟩, 0, 0, 0, 3, 1⟩], [], [⟨⟨#[80]⟩, 0, 1, [], []⟩], []⟩
theorem exTiny_ok : (check exTiny).why = 0 := by decide +kernel
theorem exTiny_first : firstState exTiny = [1, 0] := by decide +kernel
theorem exTiny_cells : (lC exTiny).map (fun c => (c.lo, c.hi)) = [(0, 3), (0, 0)] := by decide +kernel
theorem exTiny_lay : cellN exTiny = 2 := by decide +kernel
theorem exTiny_good : exTiny.good := by
 refine ⟨by simp [exTiny, big], by simp [exTiny, big], by simp [exTiny, big], by simp [exTiny, big], by simp [exTiny, big], ?_, ?_, ?_, ?_, by simp [exTiny]⟩
 ·intro a ha
  simp [exTiny] at ha
 ·intro a ha
  simp [exTiny] at ha
  subst ha
  exact ⟨inI_small (by simp), inI_small (by simp), inI_small (by simp), inI_small (by simp), inI_small (by simp)⟩
 ·intro a ha
  simp [exTiny] at ha
 ·intro a ha
  simp [exTiny] at ha
  subst ha
  refine ⟨inI_small (by simp), inI_small (by simp), by simp [big], by simp [big], ?_, by simp⟩
  intro b hb
  simp at hb
theorem exTiny_fits : Fits exTiny [3, 0] := by
 refine ⟨by rw [exTiny_lay]; rfl, fun j h => absurd h (Nat.not_lt_zero _), fun j h h' => ?_⟩
 have e := congrArg (fun l => l[j]?) exTiny_cells
 simp only [List.getElem?_map, List.getElem?_eq_getElem h', Option.map_some] at e
 match j, h, h', e with
 | 0, _, _, e => simp at e; simp [e.1, e.2]
 | 1, _, _, e => simp at e; simp [e.1, e.2]
 | n + 2, h, _, _ => simp at h; omega
theorem exTiny_unfit : ¬ Fits exTiny [3, 1] := by
 intro hf
 have hl : 1 < (lC exTiny).length := by have := congrArg List.length exTiny_cells; simp at this; omega
 have h := hf.cell 1 (by simp) hl
 have e := congrArg (fun l => l[1]?) exTiny_cells
 simp [List.getElem?_map, List.getElem?_eq_getElem hl] at e
 simp [e.2] at h
end Abs
namespace Go.Proofs.YtglnobabdcoknaaGreatDoor
open Go Go.RowKit Lite
theorem tiny_r (w : World) : Ret Tryz.prog F.lw18_small #[] w fun v w' => (∃ cs, v = .agg cs.toArray ∧ Abs.MI w' cs Abs.exTiny) ∧ Ext w w' := by
 refine Ks E.lw18_small ?_; dsimp only [C.lw18_small]; refine Yy ?_
 refine Sg ?_
 intro w1 b1 hb1 he1 hc1
 have z1 := lH hc1
 refine Sg ?_
 intro w3 b3 hb3 he3 hc3
 refine Sg ?_
 intro w6 b6 hb6 he6 hc6
 have hc1' := (he3.trans he6).obj hc1
 refine Sg ?_
 intro w7 hw7 hc7
 have y3 := he3.size
 have k3 := hw7.obj (he6.obj hc3) (by omega)
 have k6 := hw7.obj hc6 (by omega)
 have kV : Abs.Vars w7 (.slice (some ⟨b3, 0, none⟩) 1 1) Abs.exTiny.vars := Abs.Vars.blk k3 rfl (by decide) (by intro x hx; simp only [Abs.exTiny, List.mem_singleton] at hx; subst hx; decide)
 have kP : Abs.Procs w7 (.slice (some ⟨b6, 0, none⟩) 1 1) Abs.exTiny.procs := SlR.blkC [⟨(⟨⟨#[80]⟩, 0, 1, [], []⟩ : Abs.Proc).enc (.slice none 0 0) (.slice none 0 0), rfl, by simp [Abs.Proc.enc, Value.oneCell']⟩] k6 rfl rfl rfl (by decide) (by
  intro i h1 h2
  have : i = 0 := by simp at h1; omega
  subst this
  exact ⟨(show Abs.strOk ⟨#[80]⟩ by decide), _, _, rfl, SlR.nil, SlR.nil⟩)
 refine Sg ?_
 exact ⟨⟨_, rfl, ⟨_, _, _, _, _, rfl, SlR.nil, kV, SlR.nil, kP, SlR.nil⟩⟩, hw7.ext ((he1.trans he3).trans he6) hb1⟩
end Go.Proofs.YtglnobabdcoknaaGreatDoor
end
section
namespace Abs
open Go
theorem laidFrom_get (s w : Int) : ∀ (l : List Bd) (k j : Nat) (h : j < l.length), (laidFrom s w l k)[j]? = some ⟨s, w, (k + j : Nat), l[j].lo, l[j].hi, l[j].kind⟩
 | [], _, _, h => by simp at h
 | b :: l, k, 0, _ => by simp [laidFrom]
 | b :: l, k, j + 1, h => by
  simp only [laidFrom, List.getElem?_cons_succ, List.getElem_cons_succ]
  rw [laidFrom_get s w l (k + 1) j (by simpa using h), show k + 1 + j = k + (j + 1) from by omega]
theorem cellsOf_get (s : Int) : ∀ (ls : List (List Bd)) (i w k : Nat) (hw : w < ls.length) (hk : k < ls[w].length), (cellsOf s ls i)[total (ls.take w) + k]? = some ⟨s, (i + w : Nat), k, ls[w][k].lo, ls[w][k].hi, ls[w][k].kind⟩
 | [], _, _, _, hw, _ => by simp at hw
 | l :: r, i, 0, k, _, hk => by
  simp only [List.take_zero, total, List.map_nil, List.sum_nil, Nat.zero_add, List.getElem_cons_zero, cellsOf] at hk ⊢
  rw [List.getElem?_append_left (by rw [laidFrom_len]; exact hk), laidFrom_get s i l 0 k hk]
  simp
 | l :: r, i, w + 1, k, hw, hk => by
  simp only [List.take_succ_cons, total_cons, List.getElem_cons_succ, cellsOf] at hk ⊢
  rw [List.getElem?_append_right (by rw [laidFrom_len]; omega), laidFrom_len, show l.length + total (r.take w) + k - l.length = total (r.take w) + k from by omega, cellsOf_get s r (i + 1) w k (by simpa using hw) hk, show i + 1 + w = i + (w + 1) from by omega]
theorem lay_loc {m : Model} {k p : Nat} (hk : k < (insts m).length) (hp : p < m.procs.length) (hb : instBds m (insts m)[k] = procBds m.scalars m.procs[p]) : ∃ h : iAt m k < (lC m).length, (lC m)[iAt m k].lo = 0 ∧ (lC m)[iAt m k].hi = m.procs[p].locs - 1 := by
 have hw : k < (iT m).length := by simpa [iT] using hk
 have e : (iT m)[k] = procBds m.scalars m.procs[p] := by simp [iT, hb]
 have h0 : 0 < (iT m)[k].length := by rw [e, procBds_len]; omega
 have h1 := cellsOf_get 3 (iT m) 0 k 0 hw h0
 have h2 := lay_i (m := m) (c := iAt m k) (by unfold iAt; omega)
 rw [show iAt m k - (total (vT m) + total (cT m)) = total ((iT m).take k) + 0 from by unfold iAt; omega, h1] at h2
 obtain ⟨h3, h4⟩ := List.getElem?_eq_some_iff.1 h2
 refine ⟨h3, ?_, ?_⟩
 ·rw [h4]; simp only [e]; rfl
 ·rw [h4]; simp only [e]; rfl
theorem Fits.loc {m : Model} {s : List Int} (h : Fits m s) {k p : Nat} (hk : k < (insts m).length) (hp : p < m.procs.length) (hb : instBds m (insts m)[k] = procBds m.scalars m.procs[p]) : ∃ d : Nat, s[iAt m k]? = some (d : Int) ∧ (d : Int) < m.procs[p].locs := by
 obtain ⟨h1, h2, h3⟩ := lay_loc hk hp hb
 have hs : iAt m k < s.length := by rw [h.len]; exact h1
 have h4 := h.cell _ hs h1
 rw [h2, h3] at h4
 refine ⟨s[iAt m k].toNat, ?_, by omega⟩
 rw [List.getElem?_eq_getElem hs, Int.toNat_of_nonneg h4.1]
theorem atCount_succ (m : Model) (s : List Int) (p l : Int) (k : Nat) : atCount m s p l (k + 1) = atCount m s p l k + if ((insts m)[k]?.map (·.proc)) = some p ∧ s[iAt m k]? = some l then 1 else 0 := by
 unfold atCount
 rw [List.range_succ, List.filter_append, List.length_append, List.filter_cons, List.filter_nil]
 by_cases h : ((insts m)[k]?.map (·.proc)) = some p ∧ s[iAt m k]? = some l
 ·rw [decide_eq_true h, if_pos rfl, if_pos h]; rfl
 ·rw [decide_eq_false h, if_neg (by simp), if_neg h]; rfl
theorem atRow_len (m : Model) (s : List Int) (p : Nat) (n : Int) (k : Nat) : (atRow m s p n k).length = n.toNat := by simp [atRow]
theorem atRow_get {m : Model} {s : List Int} {p : Nat} {n : Int} {k d : Nat} (h : d < n.toNat) : (atRow m s p n k)[d]? = some ((atCount m s p d k : Nat) : Int) := by
 simp [atRow, h]
theorem atRow_zero (m : Model) (s : List Int) (p : Nat) (n : Int) : atRow m s p n 0 = List.replicate n.toNat 0 := by
 apply List.ext_getElem?
 intro i
 by_cases h : i < n.toNat
 ·rw [atRow_get h]; simp [atCount, h]
 ·rw [List.getElem?_eq_none (by rw [atRow_len]; omega), List.getElem?_eq_none (by simp; omega)]
theorem atRow_skip {m : Model} {s : List Int} {p : Nat} {n : Int} {k : Nat} (h : (insts m)[k]?.map (·.proc) ≠ some (p : Int)) : atRow m s p n (k + 1) = atRow m s p n k := by
 unfold atRow
 apply List.map_congr_left
 intro l _
 rw [atCount_succ, if_neg (fun e => h e.1), Nat.add_zero]
theorem atRow_step {m : Model} {s : List Int} {p : Nat} {n : Int} {k d : Nat} (h : (insts m)[k]?.map (·.proc) = some (p : Int)) (hs : s[iAt m k]? = some (d : Int)) (hd : d < n.toNat) : atRow m s p n (k + 1) = (atRow m s p n k).set d ((atCount m s p d k : Nat) + 1 : Int) := by
 apply List.ext_getElem?
 intro i
 rw [List.getElem?_set]
 by_cases hi : i < n.toNat
 ·rw [atRow_get hi, atCount_succ]
  by_cases hid : d = i
  ·subst hid
   rw [if_pos ⟨h, hs⟩, if_pos rfl, if_pos (by rw [atRow_len]; exact hd)]
   rfl
  ·rw [if_neg (fun e => hid (by have e2 := e.2; rw [hs] at e2; have e3 := Option.some.inj e2; omega)), if_neg hid, atRow_get hi, Nat.add_zero]
 ·rw [List.getElem?_eq_none (by rw [atRow_len]; omega), if_neg (by omega), List.getElem?_eq_none (by rw [atRow_len]; omega)]
theorem atCount_le (m : Model) (s : List Int) (p l : Int) (k : Nat) : atCount m s p l k ≤ k := by
 unfold atCount
 refine Nat.le_trans (List.length_filter_le _ _) ?_
 simp
end Abs
end
section
namespace Go.Proofs.YtglnobabdcoknaaGreatDoor
open Go Go.RowKit Lite
theorem rat18_r (cs ys : List Value) (v : Value) (m : Abs.Model) (s : List Int) (p : Nat) (w : World) (h : Abs.MI w cs m) (hg : m.good) (hM : Abs.MayBe m) (hL : Abs.LayIs w ys (Abs.layout m)) (hs : Nums w v s) (hf : Abs.Fits m s) (hp : p < m.procs.length) :
  Ret Tryz.prog F.lr18_at #[.agg cs.toArray, .agg ys.toArray, v, .int .i64 p] w fun u w' => OwR encN T.a 1 w.heap.size w' u (Abs.atRow m s p m.procs[p].locs (Abs.insts m).length) ∧ Ext w w' := by
 have hMI := h
 obtain ⟨o0, c0, o1, c1, o2, c2, o3, c3, o4, c4, rfl, h0, h1, h2, h3, h4, l0, l1, l2, l3, l4⟩ := h.form
 obtain ⟨x0, d0, x1, d1, x2, d2, x3, d3, x4, d4, rfl, r0, r1, r2, r3, r4, k0, k1, k2, k3⟩ := hL.form
 obtain ⟨ov, cv, rfl, lv⟩ := hs.form
 have hlen := hf.len
 have h64 : Abs.cellN m ≤ 64 := Abs.layCells_le64 hM
 have hil : (Abs.insts m).length ≤ 30 := by have := Abs.insts_len m; have := hM.procs; omega
 have hok := hM.proc _ (List.getElem_mem hp)
 have hlocs := hok.locs
 obtain ⟨f6, f7, f8⟩ := Abs.layout_lens m
 obtain ⟨a, rfl⟩ := h3.addr (by omega)
 obtain ⟨hsn, vv, vc, hpc, hpv, hpcm⟩ := h3.at p hp
 refine Ks E.lr18_at ?_; dsimp only [C.lr18_at]; refine Yy ?_
 refine Sr ?_
 intro w1 b1 hb1 he1 hc1
 refine Sr ?_
 intro w2 b2 hb2 he2 hc2
 replace hc1 := he2.obj hc1
 have e2 := he1.trans he2
 replace hpc := hpc.ext e2
 unfold Abs.Proc.enc at hpc
 refine Sr ?_
 refine K.mkN m.procs[p].locs.toNat (by omega) (by omega) ?_
 intro w3 bS hbS he3 hcS
 rw [← Abs.atRow_zero m s p] at hcS
 replace hc1 := he3.obj hc1
 replace hc2 := he3.obj hc2
 have e3 := e2.trans he3
 have z2 := e2.size
 clear hpc
 refine Sr ?_
 refine K.call (refInsts_r _ m w3 (hMI.ext e3) hg) ?_
 rintro vi wi ⟨hvi, hei⟩
 obtain ⟨oi, ci, rfl, _⟩ := hvi.form
 replace hc2 := hei.obj hc2
 replace hcS := hei.obj hcS
 have n2 : bS ≠ b2 := by
  intro e; subst e
  rw [hc2] at hcS; injection hcS with hcS; injection hcS with _ hcS; revert hcS; decide
 have hkt : ∀ {W}, Mod (fun k => k = bS) wi W → Kt [T.a] wi W := fun h => Kt.mod h fun k c t hc a => by
  subst a; rw [hcS] at hc; injection hc with hc; injection hc with _ hc; rw [← hc]; simp
 have hinx : ∀ {W : World}, Mod (fun k => k = bS) wi W → InstsAt W (.slice oi (Abs.insts m).length ci) (Abs.insts m) := fun k => OwR.slF (enc := Abs.Inst.enc) (fun _ => rfl) (hvi.kt (hkt k) (by decide))
 have hx2 : ∀ {W}, Mod (fun k => k = bS) wi W → W.heap[b2]? = wi.heap[b2]? := fun h => h.block _ (lH hc2) (Ne.symm n2)
 have hE : ∀ {W}, Mod (fun k => k = bS) wi W → Ext w2 W := fun h => h.ext (he3.trans hei) fun i hi e => by omega
 rw [hc2] at hx2
 clear hc1 hc2
 refine Sr ?_
 refine K.forG 11 (Abs.insts m).length [2, 3, 5, 9, 10] (fun _ : Unit => []) () (fun k _ W => Mod (fun i => i = bS) wi W ∧ W.heap[bS]? = some (.cells (intsC (Abs.atRow m s p m.procs[p].locs k)).toArray T.a)) hZq hZq ⟨Mod.refl _ _, hcS⟩ ?_
 clear hcS
 rintro k _ S w4 hk' ⟨hm, hcS⟩
 have hc2 := hx2 hm
 have hin := hinx hm
 have e4 := e2.trans (hE hm)
 refine Sr ?_
 apply K.cond <;> intro g1
 ·have hk2 : k < (Abs.insts m).length := by omega
  obtain ⟨ai, rfl⟩ := hin.addr (by omega)
  have hof := Abs.insts_of _ (List.getElem_mem hk2)
  obtain ⟨q, hq, hqe, hbe⟩ := Abs.instBds_at hof
  have hgt : (Abs.insts m)[k]?.map (·.proc) = some (q : Int) := by rw [List.getElem?_eq_getElem hk2, Option.map_some, hqe]
  obtain ⟨d, hsd, hdl⟩ := hf.loc hk2 hq hbe
  obtain ⟨hsl, hsd'⟩ := List.getElem?_eq_some_iff.1 hsd
  obtain ⟨hvi2, hve⟩ := Abs.iAt_get hk2
  obtain ⟨av, rfl⟩ := hs.addr (by omega)
  obtain ⟨a2, rfl⟩ := r2.addr (by omega)
  have hs4 := hs.ext Flat.ext e4
  have r24 := r2.ext Flat.ext e4
  refine Sr ?_
  apply K.cond <;> intro g2
  ·have hqp : q = p := by omega
   subst hqp
   have hdn : d < m.procs[q].locs.toNat := by omega
   have hrl := Abs.atRow_len m s q m.procs[q].locs k
   have hrg := Abs.atRow_get (m := m) (s := s) (p := q) (k := k) hdn
   have hcl := Abs.atCount_le m s q d k
   refine Sr ?_
   refine K.ian (Abs.iAt m k) (by rw [hve]) (by rw [hlen]; omega) ?_
   refine Sr ?_
   have hrow : Nums w4 (.slice (some ⟨bS, 0, none⟩) m.procs[q].locs.toNat m.procs[q].locs.toNat) (Abs.atRow m s q m.procs[q].locs k) := nums_blk hcS hrl.symm (by rw [hrl]; unfold maxLen; omega)
   have hdr : d < (Abs.atRow m s q m.procs[q].locs k).length := by omega
   obtain ⟨_, hrg'⟩ := List.getElem?_eq_some_iff.1 hrg
   refine K.ian d hsd' hdn ?_
   refine Sr ?_
   rw [hrg']
   refine Sr ?_
   refine K.ian d hsd' hdn ?_
   refine Sr ?_
   refine K.st1 hcS (by rw [List.size_toArray, intsC_len]; omega) rfl fun w5 hw5 hc5 => ?_
   rw [intsC_set (Nat.mul_one _), ← Abs.atRow_step hgt hsd hdn] at hc5
   refine Sr ?_
   exact ⟨by omega, Tr, (), trivial, hm.trans (hw5.mod rfl), hc5⟩
  ·refine Sr ?_
   refine ⟨hk2, Tr, (), trivial, hm, ?_⟩
   rw [Abs.atRow_skip (by rw [hgt]; intro e; have := Option.some.inj e; omega)]
   exact hcS
 ·have hki : (Abs.insts m).length = k := by omega
  refine Sr ?_
  exact ⟨by rw [hki]; exact OwR.low e2.size (OwR.blkN _ hcS hbS (intsC_flat _) (fun _ => rfl) (Abs.atRow_len _ _ _ _ _).symm (by rw [Abs.atRow_len]; unfold maxLen; omega)), e4⟩
end Go.Proofs.YtglnobabdcoknaaGreatDoor
end
section
namespace Lite
open Go Go.RowKit
section
variable {P : Program} {KK : Value → World → Prop} {e : TypeId} {sz base : Nat} {w : World} {s x : Value} {xs ys : List (Cs sz)}
theorem K.appL {ty : TypeId} {b : Nat} {t} (hs : OwC e sz base w s xs) (hx : SlR sz (Flat encC) w x ys) (hb : (xs.length + ys.length) * b ≤ 140737488355328) (h63 : xs.length + ys.length ≤ maxLen) (hbase : base ≤ w.heap.size)
  (hk : ∀ v' w', OwC e sz base w' v' (xs ++ ys) → w.grownBy w' s.ownBlock → KK v' w') : AppVCh P ty e sz b s x w KK t := by
 obtain ⟨oa, cap, rfl, h1, h2, h3, h4⟩ := hx.ex
 cases oa with
 | some a => exact K.appAt hs encC_len (SlR.flat encC_len (fun _ _ h => h) ⟨some a, cap, rfl, h1, h2, h3, h4⟩) rfl encC_one hb h63 hbase fun v' w' h5 h6 _ => hk v' w' h5 h6
 | none =>
  have : ys = [] := Classical.byContradiction fun hn => by have := h3 hn; cases this
  subst this
  rw [List.append_nil] at hk
  refine K.app fun ⟨ht, i, z, hi, hz, hsize, hby, hzs, hsz'⟩ => ?_
  refine ⟨ty, s, w, ?_, hk s w hs ⟨rfl, rfl, rfl, Nat.le_refl _, fun _ _ _ => rfl⟩⟩
  rcases hs.2 with ⟨rfl, h0⟩ | ⟨g, cap, cur, rfl, _, _, hnc, _⟩
  ·simp [Builtin.append_, run_underlying ht, Go.sizeOf, typeInfo, hi, Builtin.lenOf, Builtin.firstCells]
  ·simp [Builtin.append_, run_underlying ht, Go.sizeOf, typeInfo, hi, Builtin.lenOf, Builtin.firstCells, hnc, storeCells]
end
end Lite
end
section
namespace Lite
open Go Go.RowKit
structure RowSt {α : Type} (C : World → List Value → α → Prop) (e : TypeId) (sz base : Nat) (v : Value) (w0 ws : World) (xs : List α) (k : Nat) (x : List (Cs sz)) (W : World) : Prop where
 m : Mod (fun i => v.ownBlock = some i) ws W
 blk : ∀ i, v.ownBlock = some i → base ≤ i ∧ i < ws.heap.size ∧ ∃ cur, ws.heap[i]? = some (.cells cur e)
 len : x.length = xs.length
 own : OwC e sz base W v x
 new : ∀ i (h1 : i < x.length) (h2 : i < xs.length), i < k → Stab (fun j => j < ws.heap.size) (fun w => C w x[i].1 xs[i]) W
 old : ∀ i (h1 : i < x.length) (h2 : i < xs.length), k ≤ i → C w0 x[i].1 xs[i]
theorem K.copyL {α : Type} {P : Program} {KK : Value → World → Prop} {R : World → Addr → α → Prop} {C : World → List Value → α → Prop} {e : TypeId} {sz : Nat} [Rel R C sz] {w0 w wA : World} {x : Value} {xs : List α} {ty : TypeId} {b bA : Nat} {t}
  (hx : SlR sz R w0 x xs) (e0 : Ext w0 w) (hbA : w.heap.size ≤ bA) (heA : Ext w wA) (hcA : wA.heap[bA]? = some (.cells #[] e)) (hf : ∀ {w w' : World} {cs x}, C w cs x → C w' cs x) (hb : xs.length * b ≤ 140737488355328)
  (hk : ∀ oa c w', New w (fun w => SlR sz R w (.slice oa xs.length c) xs) w' → Ext w w' → Mod (fun i => i = bA) wA w' → KK (.slice oa xs.length c) w') : AppVCh P ty e sz b (.slice (some ⟨bA, 0, none⟩) 0 0) x wA KK t := by
 obtain ⟨css, hl, hfl, hC⟩ := hx.cells
 have ho : OwC e sz w.heap.size wA (.slice (some ⟨bA, 0, none⟩) 0 0) [] := OwR.empty hbA hcA
 have hm : css.length ≤ maxLen := by obtain ⟨_, _, _, h1, h2, _⟩ := hfl.ex; omega
 refine K.appL ho (SlR.ext Flat.ext (e0.trans heA) hfl) (by rw [List.length_nil, Nat.zero_add, hl]; exact hb) (by rw [List.length_nil, Nat.zero_add]; exact hm) heA.size fun v' w' ho' hg => ?_
 rw [List.nil_append] at ho'
 have hn : New w (fun w => SlR sz R w v' xs) w' := New.clone (R := R) hl ho' hf fun i h1 h2 => hf (hC i h1 h2)
 obtain ⟨oa, c, rfl, _⟩ := hn.here.form
 exact hk oa c w' hn (OwR.extG ho heA hg (Nat.le_refl _)) (Mod.grown (A := fun i => i = bA) hg fun k q => by injection q with q; exact q.symm)
end Lite
end
section
namespace Go.Proofs.YtglnobabdcoknaaGreatDoor
open Go Go.RowKit Lite
def NumsIs (w : World) (cs : List Value) (l : List Int) : Prop := ∃ v, cs = [v] ∧ Nums w v l
instance instRelNums : Rel NumsRow NumsIs 1 where
 out h := by
  obtain ⟨v, h1, h2⟩ := h
  exact ⟨[v], fun j u hj => by cases j with | zero => simp at hj; subst hj; rw [add_zero]; exact h1 | succ j => simp at hj, v, rfl, h2⟩
 inn h k := by
  obtain ⟨v, rfl, k⟩ := k
  have := h 0 v rfl
  rw [add_zero] at this
  exact ⟨v, this, k⟩
 len h := by obtain ⟨v, rfl, _⟩ := h; rfl
 one h := by obtain ⟨v, rfl, h⟩ := h; simpa using h.one
 ext e h := let ⟨v, h1, h2⟩ := h; ⟨v, h1, h2.ext Flat.ext e⟩
def NumIs (_ : World) (cs : List Value) (x : Int) : Prop := cs = encN x
instance instRelNum : Rel (Flat encN) NumIs 1 where
 out h := ⟨_, h, rfl⟩
 inn h k := by cases k; exact h
 len h := by cases h; rfl
 one h := by cases h; exact encN_one _
 ext _ h := h
theorem _root_.Lite.Mod.own {A : Nat → Prop} {a b c : World} {v : Value} (h : Mod A a b) (hg : b.grownBy c v.ownBlock) (hv : ∀ k, v.ownBlock = some k → a.heap.size ≤ k) : Mod A a c :=
 h.comp (Mod.grown (A := fun k => v.ownBlock = some k) hg fun k hk => hk) (fun _ _ a => a) fun i hi e => by have := hv i e; omega
structure EnvN (w : World) (cs : List Value) (x : Abs.Env) : Prop where
 ex : ∃ v0 v1 v2 v3, cs = [v0, v1, v2, v3, .int .i64 x.self] ∧ Numss w v0 x.vars ∧ Nums w v1 x.lens ∧ Nums w v2 x.locals ∧ Numss w v3 x.at_
end Go.Proofs.YtglnobabdcoknaaGreatDoor
namespace Abs
open Go
theorem spoken_vars_len (m : Model) (s : List Int) (inst : Int) : (spoken m s inst).vars.length = m.vars.length := by simp [spoken]
theorem spoken_var {m : Model} {s : List Int} {inst : Int} {k : Nat} (h : k < m.vars.length) : (spoken m s inst).vars[k]? = some ((s.drop (vAt m k)).take (cells m.vars[k] m.scalars).toNat) := by
 have e : (vT m)[k]!.length = (cells m.vars[k] m.scalars).toNat := by
  have h' : k < (vT m).length := by simpa [vT] using h
  rw [getElem!_pos (vT m) k h']
  simp [vT, varBds_len]
 simp only [spoken, List.getElem?_map, List.getElem?_range h, Option.map_some, e]
theorem spoken_lens_len (m : Model) (s : List Int) (inst : Int) : (spoken m s inst).lens.length = m.chans.length := by simp [spoken]
theorem spoken_len {m : Model} {s : List Int} {inst : Int} {k : Nat} (h : k < m.chans.length) (hs : cAt m k < s.length) : (spoken m s inst).lens[k]? = some s[cAt m k] := by
 simp only [spoken, List.getElem?_map, List.getElem?_range h, Option.map_some]
 rw [getElem!_pos s (cAt m k) hs]
theorem spoken_none {m : Model} {s : List Int} {inst : Int} (h : inst < 0) : (spoken m s inst).locals = [] ∧ (spoken m s inst).self = 0 := by
 simp only [spoken, spokenLocals, nth_none (.inl h), and_self]
theorem spoken_some {m : Model} (s : List Int) {q n : Nat} (h : q < (insts m).length) (hn : n = (instBds m (insts m)[q]).length - 1) : (spoken m s q).locals = (s.drop (iAt m q + 1)).take n ∧ (spoken m s q).self = (insts m)[q].elem := by
 simp only [spoken, spokenLocals, nth_some (show (0 : Int) ≤ q by omega) (show (q : Int) < (insts m).length by omega), Int.toNat_natCast, hn, and_self]
theorem spoken_at_len (m : Model) (s : List Int) (inst : Int) : (spoken m s inst).at_.length = m.procs.length := by simp [spoken]
theorem spoken_at {m : Model} {s : List Int} {inst : Int} {k : Nat} (h : k < m.procs.length) : (spoken m s inst).at_[k]? = some (atRow m s k m.procs[k].locs (insts m).length) := by
 simp only [spoken, List.getElem?_map, List.getElem?_range h, Option.map_some, List.getElem?_eq_getElem h, Option.getD_some]
end Abs
namespace Go.Proofs.YtglnobabdcoknaaGreatDoor
open Go Go.RowKit Lite
theorem rspoken18_r (cs ys : List Value) (v : Value) (m : Abs.Model) (s : List Int) (inst : Int) (w : World) (h : Abs.MI w cs m) (hg : m.good) (hM : Abs.MayBe m) (hL : Abs.LayIs w ys (Abs.layout m)) (hs : Nums w v s) (hf : Abs.Fits m s) (h1 : -1 ≤ inst) (h2 : inst < (Abs.insts m).length) :
  Ret Tryz.prog F.lr18_Spoken #[.agg cs.toArray, .agg ys.toArray, v, .int .i64 inst] w fun u w' => (∃ es, u = .agg es.toArray ∧ New w (fun w => EnvN w es (Abs.spoken m s inst)) w') ∧ Ext w w' := by
 have hMI := h
 have hLI := hL
 have hsI := hs
 obtain ⟨o0, c0, o1, c1, o2, c2, o3, c3, o4, c4, rfl, h0, h1, h2, h3, h4, l0, l1, l2, l3, l4⟩ := h.form
 obtain ⟨x0, d0, x1, d1, x2, d2, x3, d3, x4, d4, rfl, r0, r1, r2, r3, r4⟩ := hL.form
 obtain ⟨ov, cv, rfl, lv⟩ := hs.form
 have hlen := hf.len
 have h64 : Abs.cellN m ≤ 64 := Abs.layCells_le64 hM
 have few := hM.few
 have hil : (Abs.insts m).length ≤ 30 := by have := Abs.insts_len m; have := hM.procs; omega
 refine Ks E.lr18_Spoken ?_; dsimp only [C.lr18_Spoken]; refine Yy ?_
 refine Sr ?_
 intro w1 b1 hb1 he1 hc1
 refine Sr ?_
 intro w2 b2 hb2 he2 hc2
 replace hc1 := he2.obj hc1
 refine Sr ?_
 intro w3 b3 hb3 he3 hc3
 replace hc1 := he3.obj hc1
 replace hc2 := he3.obj hc2
 have e3 := (he1.trans he2).trans he3
 refine Sr ?_
 refine K.call (refInsts_r _ m w3 (hMI.ext e3) hg) ?_
 rintro vi w4 ⟨hvi, he4⟩
 obtain ⟨oi, ci, rfl, _⟩ := hvi.form
 have hin : InstsAt w4 _ _ := OwR.slF (enc := Abs.Inst.enc) (fun _ => rfl) hvi
 replace hc1 := he4.obj hc1
 replace hc2 := he4.obj hc2
 replace hc3 := he4.obj hc3
 have e4 := e3.trans he4
 refine Sr ?_
 intro w5 bE hbE he5 hcE
 have hx1 : ∀ {W}, Ext w4 W → W.heap[b1]? = _ := fun e => e.obj hc1
 have hx2 : ∀ {W}, Ext w4 W → W.heap[b2]? = _ := fun e => e.obj hc2
 have zE := lH hcE
 have hE5 : ∀ {W}, Mod (fun i => i = bE) w5 W → Ext w4 W := fun h => h.ext he5 fun i hi e => by omega
 refine K.forG 11 m.vars.length [2, 3, 4, 5, 8, 9, 10] (fun _ : SlP => []) (none, 0, 0) (fun k v W => (Mod (fun i => i = bE) w5 W ∧ W.heap[bE]? = some (.cells #[.slice v.1 v.2.1 v.2.2, .slice none 0 0, .slice none 0 0, .slice none 0 0, .int .i64 0] T.i)) ∧ RowC NumsIs T.b 1 w5.heap.size W (.slice v.1 v.2.1 v.2.2) (((Abs.spoken m s inst).vars).take k)) hZq hZq ⟨⟨Mod.refl _ _, hcE⟩, by simpa using RowC.nil _ _ _ _ _⟩ ?_
 clear hcE
 rintro k v S w6 hk ⟨⟨hm6, hcE⟩, ho6⟩
 have hc1 := hx1 (hE5 hm6)
 have hc2 := hx2 (hE5 hm6)
 have E6 := e4.trans (hE5 hm6)
 refine Sr ?_
 apply K.cond <;> intro g1
 ·have hk2 : k < m.vars.length := by omega
  obtain ⟨a, rfl⟩ := h1.addr (by omega)
  have hcl := Abs.cells_le m.vars[k] m.scalars
  have hfit := Abs.vFit hk2
  have hcn := Abs.cellN_eq m
  obtain ⟨hvi, hve⟩ := Abs.vAt_get hk2
  have hcv := ((h1.at k hk2).cells).ext E6
  refine Sr ?_
  refine K.qfn _ (fun w' e => refCells_r m.vars[k] _ m.scalars w' (h0.ext (E6.trans e))) ?_
  refine Sr ?_
  intro w7 he7
  replace hc1 := he7.obj hc1
  replace hc2 := he7.obj hc2
  replace hcE := he7.obj hcE
  have ho7 := ho6.ext he7
  have E7 := E6.trans he7
  have hm7 : Mod (fun i => i = bE) w5 w7 := hm6.trans he7.mod
  have hs7 := hs.ext Flat.ext E7
  have r07 := r0.ext Flat.ext E7
  obtain ⟨a0, rfl⟩ := r0.addr (by omega)
  clear hcv
  refine Sr ?_
  intro w8 he8
  replace hc1 := he8.obj hc1
  replace hc2 := he8.obj hc2
  replace hcE := he8.obj hcE
  have ho8 := ho7.ext he8
  have E8 := E7.trans he8
  have hm8 : Mod (fun i => i = bE) w5 w8 := hm7.trans he8.mod
  have hs8 := hs7.ext Flat.ext he8
  have r08 := r07.ext Flat.ext he8
  clear hs7 r07 ho6 ho7
  refine Sr ?_
  refine K.slcB (k := .i64) (k' := .i64) (Abs.vAt m k) (Abs.vAt m k + (Abs.cells m.vars[k] m.scalars).toNat) hs8 (by simp [ev_tmp, uA, hve]) (by simp [ev_tmp, uA, hve]; omega) (by omega) (by omega) fun o c hp => ?_
  refine Sr ?_
  intro w9 b9 hb9 he9 hc9
  refine ⟨he9, ?_⟩
  rw [show Abs.vAt m k + (Abs.cells m.vars[k] m.scalars).toNat - Abs.vAt m k = (Abs.cells m.vars[k] m.scalars).toNat from by omega] at hp ⊢
  have hvk := Abs.spoken_var (s := s) (inst := inst) hk2
  refine K.copyL hp (Ext.refl _) hb9 he9 hc9 (fun h => h) (by simp; omega) fun oa ca w10 hn10 he10 _ => ?_
  refine ⟨he10, ?_⟩
  refine Sr ?_
  intro w11 b11 hb11 he11 hc11
  refine ⟨he10.trans he11, ?_⟩
  have z58 := hm8.size
  have z810 := he10.size
  have z1011 := he11.size
  have ho11 := ho8.ext (he10.trans he11)
  have hlt : (((Abs.spoken m s inst).vars).take k).length ≤ 12 := by rw [List.length_take, Abs.spoken_vars_len]; omega
  refine K.appC (x := (s.drop (Abs.vAt m k)).take (Abs.cells m.vars[k] m.scalars).toNat) (cs := [.slice oa ((s.drop (Abs.vAt m k)).take (Abs.cells m.vars[k] m.scalars).toNat).length ca]) ho11 (cB hc11)
   (((New.own hn10 ho8 (by omega)).imp fun w h => ⟨_, rfl, h⟩).ext he11 fun i hi hk => by have := ho8.under (by omega) i hk; omega) rfl (by simp [Value.oneCell']) (by omega) (by unfold maxLen; omega) (by omega) fun v' w12 hr hg12 => ?_
  have hcE12 := ho11.box hg12 ((he10.trans he11).obj hcE) (by decide)
  have hm12 := ((hm8.trans he10.mod).trans he11.mod).own hg12 fun q hq => (ho11.lt q hq).1
  obtain ⟨oa', cap', rfl, _⟩ := hr.form
  clear hcE hn10 ho11 ho8 hc11 hc9 hp
  refine Sr ?_
  intro w13 hw13 hc13
  refine Sr ?_
  refine ⟨hk2, Tr, (oa', _, cap'), trivial, ⟨hm12.trans (hw13.mod rfl), hc13⟩, ?_⟩
  rw [List.take_succ, hvk]
  exact hr.wr hw13 zE
 have hkv : m.vars.length = k := by omega
 rw [List.take_of_length_le (by rw [Abs.spoken_vars_len]; omega)] at ho6
 have hV := ho6.new (R := NumsRow)
 obtain ⟨va, na, ca⟩ := v
 have z6 := lH hcE
 have z56 := hm6.size
 have E46 := hE5 hm6
 have hE6 : ∀ {W}, Mod (fun i => i = bE) w6 W → Ext w4 W := fun h => hE5 (hm6.trans h)
 clear hc1 hc2 ho6
 refine Sr ?_
 refine K.forG 13 m.chans.length [2, 3, 4, 5, 8, 9, 10] (fun _ : SlP => []) (none, 0, 0) (fun k v W => (Mod (fun i => i = bE) w6 W ∧ W.heap[bE]? = some (.cells #[.slice va na ca, .slice v.1 v.2.1 v.2.2, .slice none 0 0, .slice none 0 0, .int .i64 0] T.i)) ∧ OwR encN T.a 1 w6.heap.size W (.slice v.1 v.2.1 v.2.2) (((Abs.spoken m s inst).lens).take k)) hZq hZq ⟨⟨Mod.refl _ _, hcE⟩, by simpa using OwR.nil _ _ _ _ _⟩ ?_
 clear hcE
 rintro k v S w7 hk ⟨⟨hm7, hcE⟩, ho7⟩
 have hc1 := hx1 (hE6 hm7)
 have hc2 := hx2 (hE6 hm7)
 have E7 := e4.trans (hE6 hm7)
 refine Sr ?_
 apply K.cond <;> intro g1
 ·have hk2 : k < m.chans.length := by omega
  have hfit := Abs.cFit hk2
  have hcn := Abs.cellN_eq m
  obtain ⟨hvi, hce⟩ := Abs.cAt_get hk2
  obtain ⟨a1, rfl⟩ := r1.addr (by omega)
  obtain ⟨as', rfl⟩ := hs.addr (by omega)
  have hs7 := hs.ext Flat.ext E7
  have r17 := r1.ext Flat.ext E7
  refine Sr ?_
  intro w8 he8
  replace hc2 := he8.obj hc2
  replace hcE := he8.obj hcE
  have ho8 := ho7.ext he8
  have hm8 : Mod (fun i => i = bE) w6 w8 := hm7.trans he8.mod
  have hs8 := hs7.ext Flat.ext he8
  have r18 := r17.ext Flat.ext he8
  clear hs7 r17 ho7 hc1
  refine Sr ?_
  refine K.ian (Abs.cAt m k) (by rw [hce]) (by omega) ?_
  refine Sr ?_
  intro w9 b9 hb9 he9 hc9
  refine ⟨he9, ?_⟩
  have hcs : Abs.cAt m k < s.length := by omega
  have hvk := Abs.spoken_len (inst := inst) hk2 hcs
  have hl12 : (((Abs.spoken m s inst).lens).take k).length ≤ 12 := by rw [List.length_take, Abs.spoken_lens_len]; omega
  have ho9 := ho8.ext he9
  have z68 := hm8.size
  have z89 := he9.size
  refine K.app1 (y := s[Abs.cAt m k]) ho9 hc9 rfl (fun _ => rfl) encN_one (by omega) (by unfold maxLen; omega) (by omega) fun oa n c w10 ho10 hg10 => ?_
  have hcE10 := ho9.box hg10 (he9.obj hcE) (by decide)
  have hm10 := (hm8.trans he9.mod).own hg10 fun q hq => (ho9.lt q hq).1
  clear hcE ho9 ho8 hc9
  refine Sr ?_
  intro w11 hw11 hc11
  refine Sr ?_
  refine ⟨hk2, Tr, (oa, n, c), trivial, ⟨hm10.trans (hw11.mod rfl), hc11⟩, ?_⟩
  rw [List.take_succ, hvk]
  exact ho10.mod (hw11.mod (A := fun i => i = bE) rfl) fun q hq e => by have := (ho10.lt q hq).1; omega
 have hkc : m.chans.length = k := by omega
 rw [List.take_of_length_le (by rw [Abs.spoken_lens_len]; omega)] at ho7
 have hV7 : Stab (fun i => i < w5.heap.size) (fun w => Numss w (.slice va na ca) (Abs.spoken m s inst).vars) w7 := hV.move hm7 (fun i _ e => by omega) fun i _ e => e
 have hN7 : New w6 (fun w => Nums w (.slice v.1 v.2.1 v.2.2) (Abs.spoken m s inst).lens) w7 := OwR.new (fun _ => rfl) ho7
 clear hV
 obtain ⟨vb, nb, cb⟩ := v
 have z7 := lH hcE
 have z67 := hm7.size
 have hE7 : ∀ {W}, Mod (fun i => i = bE) w7 W → Ext w4 W := fun h => hE6 (hm7.trans h)
 clear hc1 hc2 ho7
 refine Sr ?_
 refine K.forG 14 m.procs.length [2, 3, 4, 5, 8, 9, 10] (fun _ : SlP => []) (none, 0, 0) (fun k v W => (Mod (fun i => i = bE) w7 W ∧ W.heap[bE]? = some (.cells #[.slice va na ca, .slice vb nb cb, .slice none 0 0, .slice v.1 v.2.1 v.2.2, .int .i64 0] T.i)) ∧ RowC NumsIs T.b 1 w7.heap.size W (.slice v.1 v.2.1 v.2.2) (((Abs.spoken m s inst).at_).take k)) hZq hZq ⟨⟨Mod.refl _ _, hcE⟩, by simpa using RowC.nil _ _ _ _ _⟩ ?_
 clear hcE
 rintro k v S w8 hk ⟨⟨hm8, hcE⟩, ho8⟩
 have hc1 := hx1 (hE7 hm8)
 have hc2 := hx2 (hE7 hm8)
 have E8 := e4.trans (hE7 hm8)
 refine Sr ?_
 apply K.cond <;> intro g1
 ·have hk2 : k < m.procs.length := by omega
  refine Sr ?_
  intro w9 he9
  replace hc1 := he9.obj hc1
  replace hc2 := he9.obj hc2
  replace hcE := he9.obj hcE
  have ho9 := ho8.ext he9
  have E9 := E8.trans he9
  have hm9 : Mod (fun i => i = bE) w7 w9 := hm8.trans he9.mod
  clear ho8
  refine Sr ?_
  refine K.call (rat18_r _ _ _ m s k w9 (hMI.ext E9) hg hM (hLI.ext E9) (hsI.ext Flat.ext E9) hf hk2) ?_
  rintro _ w10 ⟨hn10, he10⟩
  obtain ⟨oa, ca, rfl, _⟩ := hn10.form
  replace hn10 : New w9 (fun w => Nums w (.slice oa (Abs.atRow m s k m.procs[k].locs (Abs.insts m).length).length ca) (Abs.atRow m s k m.procs[k].locs (Abs.insts m).length)) w10 := OwR.new (enc := encN) (sz := 1) (fun _ => rfl) hn10
  refine ⟨he10, ?_⟩
  have hvk := Abs.spoken_at (s := s) (inst := inst) hk2
  refine Sr ?_
  intro w11 b11 hb11 he11 hc11
  refine ⟨he10.trans he11, ?_⟩
  have z79 := hm9.size
  have z910 := he10.size
  have z1011 := he11.size
  have ho11 := ho9.ext (he10.trans he11)
  have hlt : (((Abs.spoken m s inst).at_).take k).length ≤ 12 := by rw [List.length_take, Abs.spoken_at_len]; have := hM.procs; omega
  refine K.appC (x := Abs.atRow m s k m.procs[k].locs (Abs.insts m).length) (cs := [.slice oa (Abs.atRow m s k m.procs[k].locs (Abs.insts m).length).length ca]) ho11 (cB hc11)
   (((New.own hn10 ho9 (by omega)).imp fun w h => ⟨_, rfl, h⟩).ext he11 fun i hi hk => by have := ho9.under (by omega) i hk; omega) rfl (by simp [Value.oneCell']) (by omega) (by unfold maxLen; omega) (by omega) fun v' w12 hr hg12 => ?_
  have hcE12 := ho11.box hg12 ((he10.trans he11).obj hcE) (by decide)
  have hm12 := ((hm9.trans he10.mod).trans he11.mod).own hg12 fun q hq => (ho11.lt q hq).1
  obtain ⟨oa', cap', rfl, _⟩ := hr.form
  clear hcE hn10 ho11 ho9 hc11
  refine Sr ?_
  intro w13 hw13 hc13
  refine Sr ?_
  refine ⟨hk2, Tr, (oa', _, cap'), trivial, ⟨hm12.trans (hw13.mod rfl), hc13⟩, ?_⟩
  rw [List.take_succ, hvk]
  exact hr.wr hw13 z7
 have hkp : m.procs.length = k := by omega
 rw [List.take_of_length_le (by rw [Abs.spoken_at_len]; omega)] at ho8
 have hV8 : Stab (fun i => i < w5.heap.size) (fun w => Numss w (.slice va na ca) (Abs.spoken m s inst).vars) w8 := hV7.move hm8 (fun i _ e => by omega) fun i _ e => e
 have hN8 : New w6 (fun w => Nums w (.slice vb nb cb) (Abs.spoken m s inst).lens) w8 := hN7.move hm8 (fun i _ e => by omega) fun i _ e => e
 have hA8 := ho8.new (R := NumsRow)
 clear hV7 hN7
 obtain ⟨vd, nd, cd⟩ := v
 have z8 := lH hcE
 have z78 := hm8.size
 have hE8 : ∀ {W}, Mod (fun i => i = bE) w8 W → Ext w4 W := fun h => hE7 (hm8.trans h)
 clear ho8
 have E8 := e4.trans (hE8 (Mod.refl _ _))
 have z3 := lH hc3
 have z45 := he5.size
 have z03 := (he1.trans he2).size
 replace hc3 := (hE8 (Mod.refl _ _)).obj hc3
 refine Sr ?_
 apply K.cond <;> intro g2
 rotate_left
 ·refine Sr ?_
  intro w9 hw9 hc9
  refine Sr ?_
  obtain ⟨e0, e1⟩ := Abs.spoken_none (m := m) (s := s) (inst := inst) (by omega)
  refine ⟨⟨_, rfl, fun W hW => ⟨_, _, _, _, by rw [e1], ?_, ?_, ?_, ?_⟩⟩, hw9.ext E8 (by omega)⟩
  ·exact (hV8.move (A' := fun i => i < w.heap.size) (hw9.mod (A := fun i => i = b3) rfl) (fun i _ e => by omega) fun i _ e => by omega) W hW
  ·exact (hN8.move (A' := fun i => i < w.heap.size) (hw9.mod (A := fun i => i = b3) rfl) (fun i _ e => by omega) fun i _ e => by omega) W hW
  ·rw [e0]; exact SlR.nil
  ·exact (hA8.move (A' := fun i => i < w.heap.size) (hw9.mod (A := fun i => i = b3) rfl) (fun i _ e => by omega) fun i _ e => by omega) W hW
 ·obtain ⟨q, rfl⟩ := Int.eq_ofNat_of_zero_le (show 0 ≤ inst by omega)
  have hq : q < (Abs.insts m).length := by omega
  have hfit := Abs.iFit hq
  obtain ⟨hvi, hve⟩ := Abs.iAt_get hq
  obtain ⟨a2, rfl⟩ := r2.addr (by omega)
  have r28 := r2.ext Flat.ext E8
  have hc1 := hx1 (hE8 (Mod.refl _ _))
  have hc2 := hx2 (hE8 (Mod.refl _ _))
  obtain ⟨ai, rfl⟩ := hin.addr (by omega)
  have hin8 := hin.ext Flat.ext (hE8 (Mod.refl _ _))
  have hof := Abs.insts_of _ (List.getElem_mem hq)
  obtain ⟨p, hp, hpe, hbe⟩ := Abs.instBds_at hof
  have hbl : (Abs.instBds m (Abs.insts m)[q]).length = 1 + m.procs[p].vars.length := by rw [hbe, Abs.procBds_len]
  obtain ⟨a, rfl⟩ := h3.addr (by omega)
  obtain ⟨hsn, vv, vc, hpc, hpv, hpcm⟩ := h3.at p hp
  obtain ⟨ov', cv', rfl, lv'⟩ := hpv.form
  obtain ⟨oc', cc', rfl, lc'⟩ := hpcm.form
  replace hpc := hpc.ext E8
  unfold Abs.Proc.enc at hpc
  refine Sr ?_
  refine K.ian p hpe hp ?_
  refine Sr ?_
  intro wa hea w9 hea9
  have he9 := hea.trans hea9
  replace hc1 := he9.obj hc1
  replace hc2 := he9.obj hc2
  replace hcE := he9.obj hcE
  replace hc3 := he9.obj hc3
  have E9 := E8.trans he9
  have hs9 := hs.ext Flat.ext E9
  have z89 := he9.size
  clear hpc hin8 r28
  refine Sr ?_
  refine K.slcB (k := .i64) (k' := .i64) (Abs.iAt m q + 1) (Abs.iAt m q + 1 + m.procs[p].vars.length) hs9 (by simp [ev_tmp, uA, hve]) (by simp [ev_tmp, uA, hve]) (by omega) (by omega) fun o c hpt => ?_
  rw [show Abs.iAt m q + 1 + m.procs[p].vars.length - (Abs.iAt m q + 1) = m.procs[p].vars.length from by omega] at hpt ⊢
  obtain ⟨css, hl, hfl, hC⟩ := hpt.cells
  have hcl : css.length ≤ 64 := by rw [hl, List.length_take, List.length_drop]; omega
  refine Sr ?_
  refine K.appL (sz := 1) (base := w9.heap.size) (OwR.nil _ _ _ _ _) hfl (by rw [List.length_nil]; omega) (by rw [List.length_nil]; unfold maxLen; omega) (Nat.le_refl _) fun v' w10 ho10 hg10 => ?_
  rw [List.nil_append] at ho10
  have hn10 : New w9 (fun w => Nums w v' ((s.drop (Abs.iAt m q + 1)).take m.procs[p].vars.length)) w10 := New.clone (R := Flat encN) hl ho10 (fun h => h) fun i h1 h2 => hC i h1 h2
  have he10 : Ext w9 w10 := (Ext.refl _).grown hg10 fun k hk => by simp [Value.ownBlock] at hk
  replace hc2 := he10.obj hc2
  replace hcE := he10.obj hcE
  replace hc3 := he10.obj hc3
  have z910 := he10.size
  obtain ⟨ol, cl, rfl, _⟩ := hn10.here.form
  clear hc1
  refine Sr ?_
  intro w11 hw11 hc11
  have hm11 : Mod (fun i => i = bE) w8 w11 := (he9.mod.trans he10.mod).trans (hw11.mod rfl)
  have hin11 := hin.ext Flat.ext (hE8 hm11)
  replace hc3 := hw11.obj hc3 (by omega)
  refine Sr ?_
  intro w12 hw12 hc12
  have hm12 : Mod (fun i => i = bE) w8 w12 := hm11.trans (hw12.mod rfl)
  replace hc3 := hw12.obj hc3 (by omega)
  refine Sr ?_
  intro w13 hw13 hc13
  refine Sr ?_
  obtain ⟨e0, e1⟩ := Abs.spoken_some s hq (n := m.procs[p].vars.length) (by omega)
  have z1011 := hw11.size
  have z1112 := hw12.size
  refine ⟨⟨_, rfl, fun W hW => ⟨_, _, _, _, by rw [e1]; rfl, ?_, ?_, ?_, ?_⟩⟩, hw13.ext (e4.trans (hE8 hm12)) (by omega)⟩
  ·exact (hV8.move (A' := fun i => i < w.heap.size) (hm12.comp (B := fun i => i = bE ∨ i = b3) (hw13.mod (A := fun i => i = b3) rfl) (fun i _ e => .inl e) fun i _ e => .inr e) (fun i _ e => by omega) fun i _ e => by omega) W hW
  ·exact (hN8.move (A' := fun i => i < w.heap.size) (hm12.comp (B := fun i => i = bE ∨ i = b3) (hw13.mod (A := fun i => i = b3) rfl) (fun i _ e => .inl e) fun i _ e => .inr e) (fun i _ e => by omega) fun i _ e => by omega) W hW
  ·rw [e0]
   exact ((((hn10.wr hw11 (by omega)).wr hw12 (by omega)).wr hw13 (by omega)).mono fun i _ e => by omega) W hW
  ·exact (hA8.move (A' := fun i => i < w.heap.size) (hm12.comp (B := fun i => i = bE ∨ i = b3) (hw13.mod (A := fun i => i = b3) rfl) (fun i _ e => .inl e) fun i _ e => .inr e) (fun i _ e => by omega) fun i _ e => by omega) W hW
end Go.Proofs.YtglnobabdcoknaaGreatDoor
end
section
namespace Abs
open Go
def Env.nought : Env := ⟨[], [], [], [], 0⟩
noncomputable def envOf (m : Model) (s : List Int) (inst : Int) : Env := open Classical in if Right m s ∧ -1 ≤ inst ∧ inst < (insts m).length then spoken m s inst else Env.nought
end Abs
namespace Go.Proofs.YtglnobabdcoknaaGreatDoor
open Go Go.RowKit Lite
theorem EnvN.zero (w : World) : EnvN w [.slice none 0 0, .slice none 0 0, .slice none 0 0, .slice none 0 0, .int .i64 0] Abs.Env.nought := ⟨_, _, _, _, rfl, SlR.nil, SlR.nil, SlR.nil, SlR.nil⟩
theorem rEnv18_r (cs : List Value) (v : Value) (m : Abs.Model) (s : List Int) (inst : Int) (w : World) (h : Abs.MI w cs m) (hg : m.good) (hs : Nums w v s) :
  Ret Tryz.prog F.lr18_Env #[.agg cs.toArray, v, .int .i64 inst] w fun u w' => (∃ es, u = .agg es.toArray ∧ New w (fun w => EnvN w es (Abs.envOf m s inst)) w') ∧ Ext w w' := by
 have hMI := h
 have hsI := hs
 obtain ⟨o0, c0, o1, c1, o2, c2, o3, c3, o4, c4, rfl, _⟩ := h.form
 obtain ⟨ov, cv, rfl, lv⟩ := hs.form
 refine Ks E.lr18_Env ?_; dsimp only [C.lr18_Env]; refine Yy ?_
 refine Sr ?_
 intro w1 b1 hb1 he1 hc1
 refine Sr ?_
 intro w2 b2 hb2 he2 hc2
 have z1 := lH hc1
 have z2 := lH hc2
 have zz1 := he1.size
 replace hc1 := he2.obj hc1
 have e2 := he1.trans he2
 refine Sr ?_
 refine K.call (rRight18_r _ m _ s w2 (hMI.ext e2) hg (hsI.ext Flat.ext e2)) ?_
 rintro _ w3 ⟨⟨t, rfl, ht⟩, he3⟩
 replace hc1 := he3.obj hc1
 replace hc2 := he3.obj hc2
 have e3 := e2.trans he3
 cases t with
 | false =>
  have hn : Abs.envOf m s inst = Abs.Env.nought := by unfold Abs.envOf; rw [if_neg]; intro h; have := ht.2 h.1; cases this
  refine Sr ?_
  intro w4 hw4 hc4
  refine Sr ?_
  exact ⟨⟨_, rfl, by rw [hn]; exact Stab.of fun _ => EnvN.zero _⟩, hw4.ext e3 (by omega)⟩
 | true =>
  have hR := ht.1 rfl
  have hM := Abs.maybe_of hR.1
  refine Sr ?_
  apply K.cond <;> intro g1
  ·have hn : Abs.envOf m s inst = Abs.Env.nought := by unfold Abs.envOf; rw [if_neg]; intro h; omega
   refine Sr ?_
   intro w4 hw4 hc4
   refine Sr ?_
   exact ⟨⟨_, rfl, by rw [hn]; exact Stab.of fun _ => EnvN.zero _⟩, hw4.ext e3 (by omega)⟩
  refine Sr ?_
  refine K.call (refInsts_r _ m w3 (hMI.ext e3) hg) ?_
  rintro vi w4 ⟨hvi, he4⟩
  obtain ⟨oi, ci, rfl, _⟩ := hvi.form
  replace hc1 := he4.obj hc1
  replace hc2 := he4.obj hc2
  have e4 := e3.trans he4
  refine Sr ?_
  apply K.cond <;> intro g2
  ·have hn : Abs.envOf m s inst = Abs.Env.nought := by unfold Abs.envOf; rw [if_neg]; intro h; omega
   refine Sr ?_
   intro w5 hw5 hc5
   refine Sr ?_
   exact ⟨⟨_, rfl, by rw [hn]; exact Stab.of fun _ => EnvN.zero _⟩, hw5.ext e4 (by omega)⟩
  have hn : Abs.envOf m s inst = Abs.spoken m s inst := by unfold Abs.envOf; rw [if_pos ⟨hR, by omega, by omega⟩]
  refine Sr ?_
  intro w5 he5
  replace hc1 := he5.obj hc1
  replace hc2 := he5.obj hc2
  have e5 := e4.trans he5
  refine Sr ?_
  refine K.call (refLayOf_r _ m w5 (hMI.ext e5) hg) ?_
  rintro _ w6 ⟨⟨xs, rfl, hL⟩, he6⟩
  replace hL := hL.here
  rw [show Abs.lay m = Abs.layout m from by unfold Abs.lay; rw [if_pos hR.1]] at hL
  obtain ⟨x0, d0, x1, d1, x2, d2, x3, d3, x4, d4, rfl, _⟩ := hL.form
  refine ⟨he6, ?_⟩
  replace hc2 := he6.obj hc2
  have e6 := e5.trans he6
  refine Sr ?_
  refine K.call (rspoken18_r _ _ _ m s inst w6 (hMI.ext e6) hg hM hL (hsI.ext Flat.ext e6) hR.2 (by omega) (by omega)) ?_
  rintro _ w7 ⟨⟨es, rfl, hE⟩, he7⟩
  obtain ⟨u0, u1, u2, u3, rfl, q0, q1, q2, q3⟩ := hE.here.ex
  obtain ⟨_, _, rfl, _⟩ := q0.form
  obtain ⟨_, _, rfl, _⟩ := q1.form
  obtain ⟨_, _, rfl, _⟩ := q2.form
  obtain ⟨_, _, rfl, _⟩ := q3.form
  replace hc2 := he7.obj hc2
  have zz : b2 < w6.heap.size := by have := he3.size; have := he4.size; have := he5.size; have := he6.size; omega
  refine Sr ?_
  intro w8 hw8 hc8
  refine Sr ?_
  exact ⟨⟨_, rfl, by rw [hn]; exact (hE.wr hw8 zz).low (by have := e6.size; omega)⟩, hw8.ext (e6.trans he7) (by omega)⟩
end Go.Proofs.YtglnobabdcoknaaGreatDoor
end
section
end