/- Commands: the reference's communication; the example of the laws. -/
import Derived.Test.YteaboocppcbkiaaDoorCmdC
import Derived.Test.YteaboocppcbkiaaDoorOpen2
set_option linter.all false
set_option maxRecDepth 4000
set_option maxHeartbeats 1600000
namespace Go.Proofs.YteaboocppcbkiaaDoor
open Go Go.RowKit Lite
theorem rcomm_r (c : Abs.Cmd) (vg va : Value) (w : World) (ha : Abs.Acts w va c.acts) :
    Ret Tryd.prog F.lariatref13_Comm #[.agg (c.enc vg va).toArray] w fun v w' => v = .tuple #[.int .i64 (Abs.comm c.acts).1, .int .i64 (Abs.comm c.acts).2] ∧ Ext w w' := by
  obtain ⟨oa, cap, rfl, hlen⟩ := ha.form
  refine K.start hmix E.lariatref13_Comm (args := [_]) (Nat.le_of_ble_eq_true rfl) ?_; dsimp only [C.lariatref13_Comm,yt,yi,yb,yp,yr,ye,yc,yv,yg,ym,yw,ya,yl,yx,ys,yn]
  refine Sg ?_
  intro w1 b1 hb1 he1 hc1
  refine Sg ?_
  refine K.forG 4 c.acts.length [1] (fun _ => []) () (fun k _ w' => Ext w w' ∧ Ext w1 w' ∧ Abs.comm c.acts = Abs.comm (c.acts.drop k)) (by first | trivial | rfl | exact ⟨rfl, trivial⟩ | (simp -dsimp only [LL,slots_nil,slots_cons,keepV_nil,keepV_cons,has_nil,has_cons,Nat.reduceAdd,Nat.reduceEqDiff,reduceIte,and_self]; done) | (simp -dsimp only [LL,slots_nil,slots_cons,keepV_nil,keepV_cons,has_nil,has_cons,Nat.reduceAdd,Nat.reduceEqDiff,reduceIte,and_self]; exact ⟨rfl, trivial⟩)) (by first | trivial | rfl | exact ⟨rfl, trivial⟩ | (simp -dsimp only [LL,slots_nil,slots_cons,keepV_nil,keepV_cons,has_nil,has_cons,Nat.reduceAdd,Nat.reduceEqDiff,reduceIte,and_self]; done) | (simp -dsimp only [LL,slots_nil,slots_cons,keepV_nil,keepV_cons,has_nil,has_cons,Nat.reduceAdd,Nat.reduceEqDiff,reduceIte,and_self]; exact ⟨rfl, trivial⟩)) ⟨he1, Ext.refl _, by simp⟩ ?_
  rintro k _ S w2 hk ⟨he2, he12, hI⟩
  have hc1 := he12.obj hc1
  refine Sg ?_
  refine K.cond (fun g1 => ?_) (fun g1 => ?_)
  · have hk' : k < c.acts.length := by omega
    obtain ⟨a, rfl⟩ := ha.addr (by omega)
    obtain ⟨vi, vv, hcell, hvi, hvv⟩ := ha.at k hk'
    rw [Abs.comm_cons hk'] at hI
    have hk0 : w2.cell? (a.add (k * 5)) = some (.int .i64 c.acts[k].kind) := by have := (hcell.ext he2) 0 _ rfl; rwa [add_zero] at this
    have hk1 : w2.cell? ((a.add (k * 5)).add 1) = some (.int .i64 c.acts[k].to) := (hcell.ext he2) 1 _ rfl
    refine Sg ?_
    refine K.ld hk0 ?_
    refine Sg ?_
    refine K.cond (fun g2 => ?_) (fun g2 => ?_)
    · refine Sg ?_
      refine K.ld hk0 ?_
      refine Sg ?_
      refine K.ld hk1 ?_
      refine Sg ?_
      intro w3 he3
      refine Sg ?_
      rw [hI, if_pos (by simp [Abs.talks, g2])]
      (refine ⟨?_, ?_⟩ <;> first | trivial | rfl | (repeat' first | assumption | exact Ext.refl _ | refine Ext.trans ?_ (by assumption)))
    refine Sg ?_
    refine K.ld hk0 ?_
    refine Sg ?_
    refine K.cond (fun g3 => ?_) (fun g3 => ?_)
    · refine Sg ?_
      refine K.ld hk0 ?_
      refine Sg ?_
      refine K.ld hk1 ?_
      refine Sg ?_
      intro w3 he3
      refine Sg ?_
      rw [hI, if_pos (by simp [Abs.talks, g3])]
      (refine ⟨?_, ?_⟩ <;> first | trivial | rfl | (repeat' first | assumption | exact Ext.refl _ | refine Ext.trans ?_ (by assumption)))
    refine Sg ?_
    rw [if_neg (by simp [Abs.talks, g2, g3])] at hI
    exact ⟨hk', by first | trivial | rfl, (), by trivial, by (repeat' first | assumption | exact Ext.refl _ | refine Ext.trans ?_ (by assumption)), by (repeat' first | assumption | exact Ext.refl _ | refine Ext.trans ?_ (by assumption)), hI⟩
  · refine Sg ?_
    rw [hI, List.drop_eq_nil_of_le (by omega)]
    (refine ⟨?_, ?_⟩ <;> first | trivial | rfl | (repeat' first | assumption | exact Ext.refl _ | refine Ext.trans ?_ (by assumption)))
theorem rways_r (c : Abs.Cmd) (vg va vc : Value) (l : List Abs.Chan) (w : World) (ha : Abs.Acts w va c.acts) (hl : Abs.Chans w vc l) :
    Ret Tryd.prog F.lariatref13_Ways #[.agg (c.enc vg va).toArray, vc] w fun v w' => v = .int .i64 (Abs.ways c l) ∧ Ext w w' := by
  obtain ⟨oa, cap, rfl, hlen⟩ := hl.form
  obtain ⟨oa2, cap2, rfl, hlen2⟩ := ha.form
  refine K.start hmix E.lariatref13_Ways (args := [_, _]) (Nat.le_of_ble_eq_true rfl) ?_; dsimp only [C.lariatref13_Ways,yt,yi,yb,yp,yr,ye,yc,yv,yg,ym,yw,ya,yl,yx,ys,yn]
  refine Sg ?_
  intro w1 b1 hb1 he1 hc1
  refine Sg ?_
  refine K.call (rcomm_r c vg _ w1 (ha.ext he1)) ?_
  rintro _ w2 ⟨rfl, he2⟩
  rw [Abs.ways]
  refine Sg ?_
  refine K.cond (fun g1 => ?_) (fun g1 => ?_)
  rotate_left
  · refine Sg ?_
    exact ⟨by simp [g1], by (repeat' first | assumption | exact Ext.refl _ | refine Ext.trans ?_ (by assumption))⟩
  rw [if_pos g1]
  refine Sg ?_
  refine K.cond (fun g2 => ?_) (fun g2 => ?_)
  rotate_left
  · refine Sg ?_
    rw [Abs.nth_none (.inl (by omega))]
    (refine ⟨?_, ?_⟩ <;> first | trivial | rfl | (repeat' first | assumption | exact Ext.refl _ | refine Ext.trans ?_ (by assumption)))
  refine Sg ?_
  refine K.cond (fun g3 => ?_) (fun g3 => ?_)
  rotate_left
  · refine Sg ?_
    rw [Abs.nth_none (.inr (by omega))]
    (refine ⟨?_, ?_⟩ <;> first | trivial | rfl | (repeat' first | assumption | exact Ext.refl _ | refine Ext.trans ?_ (by assumption)))
  rw [Abs.nth_some (by omega) (by omega)]
  obtain ⟨a, rfl⟩ := hl.addr (by omega)
  have hi : (Abs.comm c.acts).2.toNat < l.length := by omega
  refine Sg ?_
  refine K.ian (Abs.comm c.acts).2.toNat (by omega) hi ?_
  refine Sg ?_
  refine K.condb (fun g4 => ?_) (fun g4 => ?_)
  · refine Sg ?_
    exact ⟨by simp [g4], by (repeat' first | assumption | exact Ext.refl _ | refine Ext.trans ?_ (by assumption))⟩
  · refine Sg ?_
    exact ⟨by simp [g4], by (repeat' first | assumption | exact Ext.refl _ | refine Ext.trans ?_ (by assumption))⟩
end Go.Proofs.YteaboocppcbkiaaDoor
namespace Abs
open Go Go.RowKit Lite
theorem Nodes.blk {w : World} {b n : Nat} {e : TypeId} {f : Nat × Nat} {xs : List Node} (hb : w.heap[b]? = some (.cells (xs.flatMap Node.enc).toArray e f)) (hn : n = xs.length) (hm : xs.length ≤ maxLen) (hok : ∀ x ∈ xs, x.ok) :
    Nodes w (.slice (some ⟨b, 0, none⟩) n n) xs := SlR.blk (enc := Node.enc) (fun _ => rfl) hb hn hm fun _ x hx hc => ⟨hc, hok x hx⟩
def exOne : List Node := [⟨1, 1⟩]
def exAct : Act := ⟨4, 0, 0, [], exOne⟩
def exChan : Chan := ⟨⟨#[99]⟩, 0, 1, 0, 0, true⟩
def exCmd : Cmd := ⟨⟨#[103, 111]⟩, 0, 0, [], [exAct, exAct], false⟩
def exProc : Proc := ⟨⟨#[]⟩, 0, 1, [], []⟩
def exScope : Scope := ⟨[], [], [exChan], [], [], 0⟩
theorem exCheck : cmdCheck exCmd 1 exScope = (3, 7) := by decide +kernel
theorem exComm : comm exCmd.acts = (4, 0) := by decide
theorem exWays : ways exCmd [exChan] = 2 := by decide
end Abs
namespace Go.Proofs.YteaboocppcbkiaaDoor
open Go Go.RowKit Lite
theorem clives_r (w : World) (ho : OwnIs w) : Ret Tryd.prog F.lariatlaw13_lives #[] w fun v w' => v = .bool true ∧ Ext w w' := by
  refine K.start hmix E.lariatlaw13_lives (args := []) (Nat.le_of_ble_eq_true rfl) ?_; dsimp only [C.lariatlaw13_lives,yt,yi,yb,yp,yr,ye,yc,yv,yg,ym,yw,ya,yl,yx,ys,yn]
  refine Sg ?_
  intro w1 b1 hb1 he1 hc1
  refine Sg ?_
  intro w2 b2 hb2 he2 hc2
  refine Sg ?_
  intro w3 b3 hb3 he3 hc3
  refine Sg ?_
  intro w4 b4 hb4 he4 hc4
  refine Sg ?_
  intro w5 b5 hb5 he5 hc5
  have e15 := ((he2.trans he3).trans he4).trans he5
  have e25 := (he3.trans he4).trans he5
  have e35 := he4.trans he5
  have e05 := he1.trans e15
  have hN : Abs.Nodes w5 (.slice (some ⟨b1, 0, none⟩) 1 1) Abs.exOne := Abs.Nodes.blk (e15.obj hc1) rfl (by decide) (by
    intro x hx
    simp only [Abs.exOne, List.mem_cons, List.not_mem_nil, or_false] at hx
    subst hx
    exact ⟨⟨by decide, by decide⟩, ⟨by decide, by decide⟩⟩)
  have hC : Abs.Chans w5 (.slice (some ⟨b2, 0, none⟩) 1 1) [Abs.exChan] := Abs.Chans.blk (e25.obj hc2) rfl (by decide) (by
    intro x hx
    simp only [List.mem_cons, List.not_mem_nil, or_false] at hx
    subst hx
    decide)
  have hA : Abs.Acts w5 (.slice (some ⟨b4, 0, none⟩) 2 2) Abs.exCmd.acts := ⟨_, _, rfl, by decide, by decide, fun _ => rfl, fun a ha i hi => by
    injection ha with ha
    subst ha
    have hi2 : i < 2 := hi
    have hv : ∀ j v, (Abs.exAct.enc (.slice none 0 0) (.slice (some ⟨b1, 0, none⟩) 1 1))[j]? = some v → w5.cell? ((Addr.add ⟨b4, 0, none⟩ (i * 5)).add j) = some v := fun j v hj => by
      rw [add_add]
      refine cell_blk (he5.obj hc4) ?_
      have hj5 : j < 5 := (List.getElem?_eq_some_iff.1 hj).1
      rw [← hj]
      have : i = 0 ∨ i = 1 := by omega
      rcases this with rfl | rfl
      · have : j = 0 ∨ j = 1 ∨ j = 2 ∨ j = 3 ∨ j = 4 := by omega
        rcases this with rfl | rfl | rfl | rfl | rfl <;> rfl
      · have : j = 0 ∨ j = 1 ∨ j = 2 ∨ j = 3 ∨ j = 4 := by omega
        rcases this with rfl | rfl | rfl | rfl | rfl <;> rfl
    have : i = 0 ∨ i = 1 := by omega
    rcases this with rfl | rfl
    · exact ⟨_, _, hv, SlR.nil, hN⟩
    · exact ⟨_, _, hv, SlR.nil, hN⟩⟩
  have hS : Abs.ScopeIs w5 [.slice none 0 0, .slice none 0 0, .slice (some ⟨b2, 0, none⟩) 1 1, .slice none 0 0, .slice none 0 0, .int .i64 0] Abs.exScope :=
    ⟨by simp [Abs.exScope, Abs.inI], _, _, _, _, _, rfl, SlR.nil, SlR.nil, hC, SlR.nil, SlR.nil, by simp [Abs.exScope]⟩
  refine Sg ?_
  refine K.call (check_r Abs.exCmd (.slice none 0 0) (.slice (some ⟨b4, 0, none⟩) 2 2) Abs.exProc (.slice none 0 0) (.slice none 0 0) _ Abs.exScope w5 (ho.ext e05) (by decide) SlR.nil hA SlR.nil SlR.nil hS) ?_
  rintro _ w6 ⟨rfl, he6⟩
  rw [show Abs.exProc.locs = 1 from rfl, Abs.exCheck]
  refine Sg ?_
  refine K.call (comm_r Abs.exCmd (.slice none 0 0) _ w6 (hA.ext he6)) ?_
  rintro _ w7 ⟨rfl, he7⟩
  rw [Abs.exComm]
  refine Sg ?_
  refine K.call (ways_r Abs.exCmd (.slice none 0 0) _ _ [Abs.exChan] w7 (hA.ext (he6.trans he7)) (hC.ext (he6.trans he7))) ?_
  rintro _ w8 ⟨rfl, he8⟩
  rw [Abs.exWays]
  refine Sg ?_
  (refine ⟨?_, ?_⟩ <;> first | trivial | rfl | (repeat' first | assumption | exact Ext.refl _ | refine Ext.trans ?_ (by assumption)))
end Go.Proofs.YteaboocppcbkiaaDoor
