/- What fills the environment of the law on fits. -/
import Derived.Test.YteaboocppcbkiaaFitP
import Derived.Test.YteaboocppcbkiaaSpanA
import Derived.Test.YteaboocppcbkiaaExprM
import Derived.Test.YteaboocppcbkiaaOpen3
import Derived.Test.YteaboocppcbkiaaLite13
set_option linter.all false
set_option maxRecDepth 4000
set_option maxHeartbeats 1600000
namespace Abs
open Go
theorem good_inI {most x : Int} (h : good most x) (hm : most ≤ 50) : inI x := by
  unfold good at h
  unfold inI
  split at h <;> omega
theorem wrap_u64 (x : Int) : 0 ≤ IntKind.u64.wrap x ∧ IntKind.u64.wrap x ≤ 18446744073709551615 := by
  have h : IntKind.u64.wrap x = x % 18446744073709551616 := by simp [IntKind.wrap, IntKind.signed, IntKind.bits]
  rw [h]
  omega
/-- What a scalar's size says, read in Go's way. -/
theorem ssize_get {s : Scope} {k : Int} (h1 : 1 ≤ k) (h2 : k ≤ s.scalars.length) : ssize s k = (s.scalars[(k - 1).toNat]'(by omega)).size := by
  unfold ssize
  rw [nth_some (by omega) (by omega)]
end Abs
namespace Go.Proofs.Yteaboocppcbkiaa
open Go Go.RowKit Lite
theorem fcells_r (x : Abs.Var) (cs : List Value) (s : Abs.Scope) (w : World) (h : Abs.ScopeIs w cs s) :
    Ret Try.prog F.lariatlaw10_cells #[.agg x.enc.toArray, .agg cs.toArray] w fun v w' => v = .tuple #[.int .i64 (Abs.cellsOf x s).1, .int .i64 (Abs.cellsOf x s).2.1, .bool (Abs.cellsOf x s).2.2] ∧ Ext w w' := by
  obtain ⟨a0, c0, a1, c1, a2, c2, a3, c3, a4, c4, rfl, h0, h1, h2, h3, h4, l0, l1, l2, l3, l4⟩ := h.form
  refine K.start hmix E.lariatlaw10_cells (args := [_, _]) (Nat.le_of_ble_eq_true rfl) ?_; dsimp only [C.lariatlaw10_cells,yt,yi,yb,yp,yr,ye,yc,yv,yg,ym,yw,ya,yl,yx,ys,yn]
  refine Sg ?_
  intro w1 b1 hb1 he1 hc1
  refine Sg ?_
  intro w2 b2 hb2 he2 hc2
  have hc1 := he2.obj hc1
  have he := he1.trans he2
  rw [Abs.cellsOf]
  refine Sg ?_
  refine K.cond (fun g1 => ?_) (fun g1 => ?_)
  · refine Sg ?_
    refine ⟨?_, by (repeat' first | assumption | exact Ext.refl _ | refine Ext.trans ?_ (by assumption))⟩
    rw [if_pos (by omega)]
  refine Sg ?_
  refine K.cond (fun g2 => ?_) (fun g2 => ?_)
  · refine Sg ?_
    refine ⟨?_, by (repeat' first | assumption | exact Ext.refl _ | refine Ext.trans ?_ (by assumption))⟩
    rw [if_pos (by omega)]
  refine Sg ?_
  refine K.cond (fun g3 => ?_) (fun g3 => ?_)
  · refine Sg ?_
    refine ⟨?_, by (repeat' first | assumption | exact Ext.refl _ | refine Ext.trans ?_ (by assumption))⟩
    rw [if_pos (by omega)]
  refine Sg ?_
  refine K.cond (fun g4 => ?_) (fun g4 => ?_)
  · refine Sg ?_
    refine ⟨?_, by (repeat' first | assumption | exact Ext.refl _ | refine Ext.trans ?_ (by assumption))⟩
    rw [if_pos (by omega)]
  rw [if_neg (by omega)]
  generalize hn : (if 0 < x.over then Abs.ssize s x.over else 1) = n
  generalize hm : (if 0 < x.scalar then Abs.ssize s x.scalar else 0) = m
  refine Su ?_
  refine K.cutG [2, 3] (fun _ => [(7, .int .i64 n), (8, .int .i64 0)]) (fun (_ : Unit) w' => Ext w2 w') ?_ ?_
  · refine Sg ?_
    refine K.cond (fun q1 => ?_) (fun q1 => ?_)
    · rw [if_pos q1, Abs.ssize_get (by omega) (by omega)] at hn
      obtain ⟨a, rfl⟩ := h0.addr (by omega)
      refine Sg ?_
      refine K.ian (x.over - 1).toNat (by omega) (by omega) ?_
      refine Sg ?_
      exact ⟨(), by rw [hn]; exact (by first | trivial | rfl | exact ⟨rfl, trivial⟩ | (simp -dsimp only [LL,slots_nil,slots_cons,keepV_nil,keepV_cons,has_nil,has_cons,Nat.reduceAdd,Nat.reduceEqDiff,reduceIte,and_self]; done) | (simp -dsimp only [LL,slots_nil,slots_cons,keepV_nil,keepV_cons,has_nil,has_cons,Nat.reduceAdd,Nat.reduceEqDiff,reduceIte,and_self]; exact ⟨rfl, trivial⟩)), by (repeat' first | assumption | exact Ext.refl _ | refine Ext.trans ?_ (by assumption))⟩
    · rw [if_neg q1] at hn
      subst hn
      refine Sg ?_
      exact ⟨(), (by first | trivial | rfl | exact ⟨rfl, trivial⟩ | (simp -dsimp only [LL,slots_nil,slots_cons,keepV_nil,keepV_cons,has_nil,has_cons,Nat.reduceAdd,Nat.reduceEqDiff,reduceIte,and_self]; done) | (simp -dsimp only [LL,slots_nil,slots_cons,keepV_nil,keepV_cons,has_nil,has_cons,Nat.reduceAdd,Nat.reduceEqDiff,reduceIte,and_self]; exact ⟨rfl, trivial⟩)), by (repeat' first | assumption | exact Ext.refl _ | refine Ext.trans ?_ (by assumption))⟩
  rintro _ S w3 he3
  have hc1 := he3.obj hc1
  have hc2 := he3.obj hc2
  have he03 := he.trans he3
  refine Su ?_
  refine K.cutG [2, 3, 7] (fun _ => [(8, .int .i64 m)]) (fun (_ : Unit) w' => Ext w3 w') ?_ ?_
  · refine Sg ?_
    refine K.cond (fun q1 => ?_) (fun q1 => ?_)
    · rw [if_pos q1, Abs.ssize_get (by omega) (by omega)] at hm
      obtain ⟨a, rfl⟩ := h0.addr (by omega)
      refine Sg ?_
      refine K.ian (x.scalar - 1).toNat (by omega) (by omega) ?_
      refine Sg ?_
      exact ⟨(), by rw [hm]; exact (by first | trivial | rfl | exact ⟨rfl, trivial⟩ | (simp -dsimp only [LL,slots_nil,slots_cons,keepV_nil,keepV_cons,has_nil,has_cons,Nat.reduceAdd,Nat.reduceEqDiff,reduceIte,and_self]; done) | (simp -dsimp only [LL,slots_nil,slots_cons,keepV_nil,keepV_cons,has_nil,has_cons,Nat.reduceAdd,Nat.reduceEqDiff,reduceIte,and_self]; exact ⟨rfl, trivial⟩)), by (repeat' first | assumption | exact Ext.refl _ | refine Ext.trans ?_ (by assumption))⟩
    · rw [if_neg q1] at hm
      subst hm
      refine Sg ?_
      exact ⟨(), (by first | trivial | rfl | exact ⟨rfl, trivial⟩ | (simp -dsimp only [LL,slots_nil,slots_cons,keepV_nil,keepV_cons,has_nil,has_cons,Nat.reduceAdd,Nat.reduceEqDiff,reduceIte,and_self]; done) | (simp -dsimp only [LL,slots_nil,slots_cons,keepV_nil,keepV_cons,has_nil,has_cons,Nat.reduceAdd,Nat.reduceEqDiff,reduceIte,and_self]; exact ⟨rfl, trivial⟩)), by (repeat' first | assumption | exact Ext.refl _ | refine Ext.trans ?_ (by assumption))⟩
  rintro _ S w4 he4
  have he04 := he03.trans he4
  refine Sg ?_
  refine K.cond (fun q1 => ?_) (fun q1 => ?_)
  · refine Sg ?_
    exact ⟨by simp [q1], by (repeat' first | assumption | exact Ext.refl _ | refine Ext.trans ?_ (by assumption))⟩
  · refine Sg ?_
    exact ⟨by simp [q1], by (repeat' first | assumption | exact Ext.refl _ | refine Ext.trans ?_ (by assumption))⟩
/-- A row of numbers at a block. -/
def RowI (w : World) (x : Value) (l : List Int) : Prop :=
  ((x = .slice none 0 0 ∧ l = []) ∨ ∃ b cap cur, x = .slice (some ⟨b, 0, none⟩) l.length cap ∧ l.length ≤ cap ∧ cap ≤ maxLen ∧ w.heap[b]? = some (.cells cur T.int) ∧ ∀ (j : Nat) (z : Int), l[j]? = some z → cur[j]? = some (.int .i64 z)) ∧ ∀ z ∈ l, Abs.inI z
theorem RowI.ints {w : World} {x : Value} {l : List Int} (h : RowI w x l) : IntsB w x l := by
  obtain ⟨⟨rfl, rfl⟩ | ⟨b, cap, cur, rfl, h1, h2, h3, h4⟩, h5⟩ := h
  · exact SlR.nil
  · refine ⟨_, _, rfl, h1, h2, fun _ => rfl, fun a ha i hi => ?_⟩
    injection ha with ha
    subst ha
    refine ⟨fun j v hj => ?_, h5 _ (List.getElem_mem hi)⟩
    have hj0 : j = 0 := by
      have := (List.getElem?_eq_some_iff.1 hj).1
      simp at this
      omega
    subst hj0
    simp only [List.getElem?_cons_zero, Option.some.injEq] at hj
    subst hj
    rw [add_add, Nat.mul_one, Nat.add_zero]
    exact cell_blk h3 (h4 i _ (List.getElem?_eq_getElem hi))
theorem RowI.form {w : World} {x : Value} {l : List Int} (h : RowI w x l) : ∃ oa cap, x = .slice oa l.length cap := by
  obtain ⟨⟨rfl, rfl⟩ | ⟨b, cap, cur, rfl, _⟩, _⟩ := h
  · exact ⟨_, _, rfl⟩
  · exact ⟨_, _, rfl⟩
/-- So many numbers, each good. -/
theorem fill_r (n : Nat) (most at_ : Int) (vr : Value) (raw : List Int) (w : World) (hn : n ≤ 50) (hm : 0 ≤ most ∧ most ≤ 50) (ha : 0 ≤ at_ ∧ at_ ≤ 100000) (hr : IntsB w vr raw) :
    Ret Try.prog F.lariatlaw10_fill #[.int .i64 n, .int .i64 most, vr, .int .i64 at_] w fun v w' =>
      (∃ (l : List Int) (b : Nat), v = .slice (some ⟨b, 0, none⟩) n n ∧ w'.heap[b]? = some (.cells (l.map (Value.int .i64)).toArray T.int) ∧ l.length = n ∧ ∀ z ∈ l, Abs.good most z) ∧ Ext w w' := by
  obtain ⟨oa, cap, rfl, hlen⟩ := hr.form
  refine K.start hmix E.lariatlaw10_fill (args := [_, _, _, _]) (Nat.le_of_ble_eq_true rfl) ?_; dsimp only [C.lariatlaw10_fill,yt,yi,yb,yp,yr,ye,yc,yv,yg,ym,yw,ya,yl,yx,ys,yn]
  refine Sg ?_
  refine K.mkSa (n := n) rfl (by omega) (by omega) fun w1 b hb he1 hc1 => ?_
  refine Sg ?_
  refine K.forG 16 n [0, 1, 2, 3, 9, 15] (fun _ => []) () (fun k _ w' => Ext w w' ∧ ∃ l : List Int, w'.heap[b]? = some (.cells (l.map (Value.int .i64)).toArray T.int) ∧ l.length = n ∧ ∀ j (hj : j < l.length), j < k → Abs.good most l[j]) (by first | trivial | rfl | exact ⟨rfl, trivial⟩ | (simp -dsimp only [LL,slots_nil,slots_cons,keepV_nil,keepV_cons,has_nil,has_cons,Nat.reduceAdd,Nat.reduceEqDiff,reduceIte,and_self]; done) | (simp -dsimp only [LL,slots_nil,slots_cons,keepV_nil,keepV_cons,has_nil,has_cons,Nat.reduceAdd,Nat.reduceEqDiff,reduceIte,and_self]; exact ⟨rfl, trivial⟩)) (by first | trivial | rfl | exact ⟨rfl, trivial⟩ | (simp -dsimp only [LL,slots_nil,slots_cons,keepV_nil,keepV_cons,has_nil,has_cons,Nat.reduceAdd,Nat.reduceEqDiff,reduceIte,and_self]; done) | (simp -dsimp only [LL,slots_nil,slots_cons,keepV_nil,keepV_cons,has_nil,has_cons,Nat.reduceAdd,Nat.reduceEqDiff,reduceIte,and_self]; exact ⟨rfl, trivial⟩))
    ⟨he1, List.replicate n 0, by rw [List.map_replicate]; exact hc1, by simp, fun j _ h => absurd h (Nat.not_lt_zero _)⟩ ?_
  rintro k _ S w2 hk ⟨he2, l, hc2, hl, hg⟩
  refine Sg ?_
  refine K.cond (fun g1 => ?_) (fun g1 => ?_)
  · have hk' : k < n := by omega
    refine Su ?_
    simp -dsimp only [B9]
    refine Su ?_
    simp -dsimp only [B9]
    refine Su ?_
    simp -dsimp only [B9]
    refine Su ?_
    refine K.cutG [0, 1, 2, 3, 9, 10, 15, 16] (fun x => [(11, .int .i64 x)]) (fun (x : Int) w' => w' = w2) ?_ ?_
    · refine Sg ?_
      refine K.cond (fun g2 => ?_) (fun g2 => ?_)
      · obtain ⟨a, rfl⟩ := hr.addr (by omega)
        refine Sg ?_
        refine K.rem (by omega) ?_
        have h1 : 0 ≤ (at_ + (k : Int)).tmod raw.length := Int.tmod_nonneg _ (by omega)
        have h2 : (at_ + (k : Int)).tmod raw.length < raw.length := Int.tmod_lt_of_pos _ (by omega)
        refine Sg ?_
        refine K.ian ((at_ + (k : Int)).tmod raw.length).toNat (by omega) (by omega) ?_
        refine Sg ?_
        exact ⟨_, ⟨rfl, trivial⟩, by first | trivial | rfl⟩
      · refine Sg ?_
        exact ⟨0, (by first | trivial | rfl | exact ⟨rfl, trivial⟩ | (simp -dsimp only [LL,slots_nil,slots_cons,keepV_nil,keepV_cons,has_nil,has_cons,Nat.reduceAdd,Nat.reduceEqDiff,reduceIte,and_self]; done) | (simp -dsimp only [LL,slots_nil,slots_cons,keepV_nil,keepV_cons,has_nil,has_cons,Nat.reduceAdd,Nat.reduceEqDiff,reduceIte,and_self]; exact ⟨rfl, trivial⟩)), by first | trivial | rfl⟩
    rintro x S w2' rfl
    have fin : ∀ (z : Int) (w3 : World) hlt, Wr b w2' w3 → w3.heap[b]? = some (.cells ((l.map (Value.int .i64)).toArray.set k (.int .i64 z) hlt) T.int) → Abs.good most z →
        Ext w w3 ∧ ∃ l : List Int, w3.heap[b]? = some (.cells (l.map (Value.int .i64)).toArray T.int) ∧ l.length = n ∧ ∀ j (hj : j < l.length), j < k + 1 → Abs.good most l[j] := by
      intro z w3 hlt hw hc hz
      refine ⟨hw.ext he2 hb, l.set k z, ?_, by simp [hl], fun j hj hjk => ?_⟩
      · rw [hc, List.map_set]
        simp
      · rw [List.getElem_set]
        split
        · exact hz
        · exact hg j (by simpa using hj) (by omega)
    refine Sg ?_
    refine K.cond (fun g3 => ?_) (fun g3 => ?_)
    · have hu := Abs.wrap_u64 x
      have h1 : 0 ≤ (IntKind.u64.wrap x).tmod (most + 1) := Int.tmod_nonneg _ hu.1
      have h2 : (IntKind.u64.wrap x).tmod (most + 1) < most + 1 := Int.tmod_lt_of_pos _ (by omega)
      refine Sg ?_
      refine K.wrapr ?_
      refine Sg ?_
      refine K.wrapk (IntWalk.u64_in _ (by omega)) ?_
      refine Sg ?_
      refine K.rem (by omega) ?_
      refine Sg ?_
      rw [Nat.mul_one]
      refine K.st1 (j := k) hc2 (by simp; omega) rfl fun w3 hw3 hc3 => ?_
      refine Sg ?_
      exact ⟨hk', by first | trivial | rfl, (), trivial, fin _ _ _ hw3 hc3 (by unfold Abs.good; rw [if_pos (by omega)]; omega)⟩
    · have h1 : -1048577 < x.tmod 1048577 := Int.lt_tmod_of_pos _ (by decide)
      have h2 : x.tmod 1048577 < 1048577 := Int.tmod_lt_of_pos _ (by decide)
      refine Sg ?_
      refine K.rem (by decide) ?_
      refine Sg ?_
      rw [Nat.mul_one]
      refine K.st1 (j := k) hc2 (by simp; omega) rfl fun w3 hw3 hc3 => ?_
      refine Sg ?_
      exact ⟨hk', by first | trivial | rfl, (), trivial, fin _ _ _ hw3 hc3 (by unfold Abs.good; rw [if_neg (by omega)]; omega)⟩
  · refine Sg ?_
    refine ⟨⟨l, b, rfl, hc2, hl, fun z hz => ?_⟩, he2⟩
    obtain ⟨j, hj, rfl⟩ := List.mem_iff_getElem.1 hz
    exact hg j hj (by omega)
end Go.Proofs.Yteaboocppcbkiaa
