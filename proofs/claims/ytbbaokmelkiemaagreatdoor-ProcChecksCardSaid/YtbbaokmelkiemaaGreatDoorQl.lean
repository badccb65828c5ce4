/- Texts joined: DeclS RefA RefB DeclU DeclV RefC RefD ProcZ. -/
import Derived.Test.YtbbaokmelkiemaaGreatDoorQf
import Derived.Test.YtbbaokmelkiemaaGreatDoorQi
import Derived.Test.YtbbaokmelkiemaaGreatDoorQj
import Derived.Test.YtbbaokmelkiemaaGreatDoorQk
set_option linter.all false
section
/- What the references of layer 9 compute of names. -/
set_option maxRecDepth 4000
set_option linter.unusedSimpArgs false
set_option maxHeartbeats 1000000
namespace Go.Proofs.YtbbaokmelkiemaaGreatDoor
open Go Go.RowKit Lite

theorem rletter_r (n : Int) (w : World) : Ret Tryz.prog F.lariatref09_letter #[.int .u8 n] w fun v w' => v = .bool (Abs.letter n) ∧ w' = w := by
  refine K.start hmix E.lariatref09_letter (args := [_]) (Nat.le_of_ble_eq_true rfl) ?_
  dsimp only [C.lariatref09_letter,yt,yi,yb,yp,yr,ye,yc,yv,yg,ym,yw,ya,yl,yx,ys,yn]
  (repeat' first
    | (refine K.cond (fun _ => ?_) (fun _ => ?_) <;> try (exfalso; omega))
    | (refine K.condb (fun _ => ?_) (fun _ => ?_))
    | (refine K.wrap (by omega) ?_)
    | (refine K.ld (by assumption) ?_)
    | (refine K.ia (by omega) ?_)
    | simp -dsimp only [LL,B9,Nat.reduceAdd,Nat.reduceEqDiff,reduceIte,reduceCtorEq,Bool.false_eq_true])
  all_goals (refine ⟨?_, by first | rfl | trivial⟩; congr 1; rw [Bool.eq_iff_iff]; simp [Abs.letter]; omega)
theorem rdigit_r (n : Int) (w : World) : Ret Tryz.prog F.lariatref09_digit #[.int .u8 n] w fun v w' => v = .bool (Abs.digit n) ∧ w' = w := by
  refine K.start hmix E.lariatref09_digit (args := [_]) (Nat.le_of_ble_eq_true rfl) ?_
  dsimp only [C.lariatref09_digit,yt,yi,yb,yp,yr,ye,yc,yv,yg,ym,yw,ya,yl,yx,ys,yn]
  (repeat' first
    | (refine K.cond (fun _ => ?_) (fun _ => ?_) <;> try (exfalso; omega))
    | (refine K.condb (fun _ => ?_) (fun _ => ?_))
    | (refine K.wrap (by omega) ?_)
    | (refine K.ld (by assumption) ?_)
    | (refine K.ia (by omega) ?_)
    | simp -dsimp only [LL,B9,Nat.reduceAdd,Nat.reduceEqDiff,reduceIte,reduceCtorEq,Bool.false_eq_true])
  all_goals (refine ⟨?_, by first | rfl | trivial⟩; congr 1; rw [Bool.eq_iff_iff]; simp [Abs.digit]; omega)
def signL : List ByteArray := [⟨#[58, 61]⟩, ⟨#[61, 61]⟩, ⟨#[33, 61]⟩, ⟨#[60, 61]⟩, ⟨#[45, 62]⟩, ⟨#[38, 38]⟩, ⟨#[124, 124]⟩, ⟨#[61, 62]⟩, ⟨#[40]⟩, ⟨#[41]⟩, ⟨#[91]⟩, ⟨#[93]⟩, ⟨#[123]⟩, ⟨#[125]⟩, ⟨#[59]⟩, ⟨#[44]⟩, ⟨#[58]⟩, ⟨#[46]⟩, ⟨#[60]⟩, ⟨#[43]⟩, ⟨#[45]⟩, ⟨#[42]⟩, ⟨#[33]⟩, ⟨#[63]⟩, ⟨#[64]⟩]
theorem signs_r (w : World) : Ret Tryz.prog F.lariatref09_signs #[] w fun v w' => (∃ b, v = .slice (some ⟨b, 0, none⟩) 25 25 ∧ CellsAt w' ⟨b, 0, none⟩ (signL.map Value.string)) ∧ Ext w w' := by
  refine K.start hmix E.lariatref09_signs (args := []) (Nat.le_of_ble_eq_true rfl) ?_
  dsimp only [C.lariatref09_signs,yt,yi,yb,yp,yr,ye,yc,yv,yg,ym,yw,ya,yl,yx,ys,yn]
  simp -dsimp only [LL,B9,Nat.reduceAdd,Nat.reduceEqDiff,reduceIte,reduceCtorEq,Bool.false_eq_true]
  refine K.bldSa (cs := signL.map Value.string) (by simp [List.range, List.range.loop, fillC, lay, ev_tmp, ev_const, upd_at, Value.cells, signL]) fun w1 b1 hb1 he1 hc1 => ?_
  simp -dsimp only [LL,B9,Nat.reduceAdd,Nat.reduceEqDiff,reduceIte,reduceCtorEq,Bool.false_eq_true]
  exact ⟨⟨b1, rfl, cellsAt_blk hc1⟩, he1⟩
theorem begins0_r (s : ByteArray) (w : World) (h : 0 < s.size) (hs : s.size ≤ 16) :
    Ret Tryz.prog F.lariatref09_begins #[.string s, .int .i64 0] w fun v w' => (∃ n k : Int, v = .tuple #[.int .i64 n, .int .i64 k] ∧ if Abs.letter (Abs.byteAt s 0 : Nat) = true then n = Abs.run Abs.part s ∧ k = 1 else k ≠ 1) ∧ Ext w w' := by
  refine K.start hmix E.lariatref09_begins (args := [_, _]) (Nat.le_of_ble_eq_true rfl) ?_
  dsimp only [C.lariatref09_begins,yt,yi,yb,yp,yr,ye,yc,yv,yg,ym,yw,ya,yl,yx,ys,yn]
  simp -dsimp only [LL,B9,Nat.reduceAdd,Nat.reduceEqDiff,reduceIte,reduceCtorEq,Bool.false_eq_true]
  refine K.ixS (s.get! 0) (by decide) (Abs.get?_eq s 0 h) ?_
  simp -dsimp only [LL,B9,Nat.reduceAdd,Nat.reduceEqDiff,reduceIte,reduceCtorEq,Bool.false_eq_true]
  refine K.call (rletter_r _ w) ?_
  rintro _ w ⟨rfl, rfl⟩
  simp -dsimp only [LL,B9,Nat.reduceAdd,Nat.reduceEqDiff,reduceIte,reduceCtorEq,Bool.false_eq_true]
  refine K.condb (fun h1 => ?_) (fun h1 => ?_)
  · have h1' : Abs.letter (Abs.byteAt s 0 : Nat) = true := h1
    simp -dsimp only [LL,B9,Nat.reduceAdd,Nat.reduceEqDiff,reduceIte,reduceCtorEq,Bool.false_eq_true]
    refine K.loop (fun S w' => ∃ i : Nat, i ≤ s.size ∧ S 6 = .int .i64 i ∧ (∀ j (hj : j < s.size), j < i → Abs.part s[j].toNat = true) ∧ w' = w)
      (fun S _ => (s.size - intOf (S 6)).toNat) ⟨0, by omega, by simp -dsimp only [LL,B9,Nat.reduceAdd,Nat.reduceEqDiff,reduceIte,reduceCtorEq,Bool.false_eq_true]; rfl, fun _ _ h => absurd h (Nat.not_lt_zero _), rfl⟩ ?_
    rintro S w hS ⟨i, hi, h6, hall, rfl⟩
    have h0 := hS 0 rfl; have h1 := hS 1 rfl; simp only [upd_at, Nat.reduceAdd, Nat.reduceEqDiff, reduceIte, fr0_cons, fr0_nil] at h0 h1; clear hS
    simp -dsimp only [LL,B9,Nat.reduceAdd,Nat.reduceEqDiff,reduceIte,reduceCtorEq,Bool.false_eq_true,h0, h1, h6]
    refine K.cond (fun h2 => ?_) (fun h2 => ?_)
    · have hi' : i < s.size := by omega
      simp -dsimp only [LL,B9,Nat.reduceAdd,Nat.reduceEqDiff,reduceIte,reduceCtorEq,Bool.false_eq_true,h0, h1, h6]
      refine K.ixS (s.get! i) (by omega) (Abs.get?_eq s i hi') ?_
      rw [Abs.get_eq s i hi']
      simp -dsimp only [LL,B9,Nat.reduceAdd,Nat.reduceEqDiff,reduceIte,reduceCtorEq,Bool.false_eq_true,h0, h1, h6]
      refine K.call (rletter_r _ _) ?_
      rintro _ w ⟨rfl, rfl⟩
      simp -dsimp only [LL,B9,Nat.reduceAdd,Nat.reduceEqDiff,reduceIte,reduceCtorEq,Bool.false_eq_true,h0, h1, h6]
      refine K.condb (fun h3 => ?_) (fun h3 => ?_)
      · simp -dsimp only [LL,B9,Nat.reduceAdd,Nat.reduceEqDiff,reduceIte,reduceCtorEq,Bool.false_eq_true,h0, h1, h6]
        refine K.wrap (by omega) ?_
        simp -dsimp only [LL,B9,Nat.reduceAdd,Nat.reduceEqDiff,reduceIte,reduceCtorEq,Bool.false_eq_true,h0, h1, h6]
        refine ⟨⟨i + 1, by omega, rfl, fun j hj hji => ?_, trivial⟩, by simp [intOf]; omega⟩
        by_cases hjj : j < i
        · exact hall j hj hjj
        · have : j = i := by omega
          subst this; simp [Abs.part, h3]
      simp -dsimp only [LL,B9,Nat.reduceAdd,Nat.reduceEqDiff,reduceIte,reduceCtorEq,Bool.false_eq_true,h0, h1, h6]
      refine K.ixS (s.get! i) (by omega) (Abs.get?_eq s i hi') ?_
      rw [Abs.get_eq s i hi']
      simp -dsimp only [LL,B9,Nat.reduceAdd,Nat.reduceEqDiff,reduceIte,reduceCtorEq,Bool.false_eq_true,h0, h1, h6]
      refine K.call (rdigit_r _ _) ?_
      rintro _ w ⟨rfl, rfl⟩
      simp -dsimp only [LL,B9,Nat.reduceAdd,Nat.reduceEqDiff,reduceIte,reduceCtorEq,Bool.false_eq_true,h0, h1, h6]
      refine K.condb (fun h4 => ?_) (fun h4 => ?_)
      · simp -dsimp only [LL,B9,Nat.reduceAdd,Nat.reduceEqDiff,reduceIte,reduceCtorEq,Bool.false_eq_true,h0, h1, h6]
        refine K.wrap (by omega) ?_
        simp -dsimp only [LL,B9,Nat.reduceAdd,Nat.reduceEqDiff,reduceIte,reduceCtorEq,Bool.false_eq_true,h0, h1, h6]
        refine ⟨⟨i + 1, by omega, rfl, fun j hj hji => ?_, trivial⟩, by simp [intOf]; omega⟩
        by_cases hjj : j < i
        · exact hall j hj hjj
        · have : j = i := by omega
          subst this; simp [Abs.part, h4]
      simp -dsimp only [LL,B9,Nat.reduceAdd,Nat.reduceEqDiff,reduceIte,reduceCtorEq,Bool.false_eq_true,h0, h1, h6]
      refine K.ixS (s.get! i) (by omega) (Abs.get?_eq s i hi') ?_
      rw [Abs.get_eq s i hi']
      simp -dsimp only [LL,B9,Nat.reduceAdd,Nat.reduceEqDiff,reduceIte,reduceCtorEq,Bool.false_eq_true,h0, h1, h6]
      refine K.cond (fun h5 => ?_) (fun h5 => ?_)
      · simp -dsimp only [LL,B9,Nat.reduceAdd,Nat.reduceEqDiff,reduceIte,reduceCtorEq,Bool.false_eq_true,h0, h1, h6]
        refine K.wrap (by omega) ?_
        simp -dsimp only [LL,B9,Nat.reduceAdd,Nat.reduceEqDiff,reduceIte,reduceCtorEq,Bool.false_eq_true,h0, h1, h6]
        refine ⟨⟨i + 1, by omega, rfl, fun j hj hji => ?_, trivial⟩, by simp [intOf]; omega⟩
        by_cases hjj : j < i
        · exact hall j hj hjj
        · have : j = i := by omega
          subst this; simp [Abs.part]; omega
      · simp -dsimp only [LL,B9,Nat.reduceAdd,Nat.reduceEqDiff,reduceIte,reduceCtorEq,Bool.false_eq_true,h0, h1, h6]
        refine K.wrap (by omega) ?_
        simp -dsimp only [LL,B9,Nat.reduceAdd,Nat.reduceEqDiff,reduceIte,reduceCtorEq,Bool.false_eq_true,h0, h1, h6]
        refine ⟨⟨_, _, rfl, ?_⟩, Ext.refl _⟩
        rw [if_pos h1']
        rw [Abs.run_stop Abs.part s i hi' (fun j hj => hall j (by omega) hj) (by simp only [Abs.part, h3, h4, Bool.false_or, decide_eq_false_iff_not]; omega)]
        exact ⟨by omega, rfl⟩
    · simp -dsimp only [LL,B9,Nat.reduceAdd,Nat.reduceEqDiff,reduceIte,reduceCtorEq,Bool.false_eq_true,h0, h1, h6]
      refine K.wrap (by omega) ?_
      simp -dsimp only [LL,B9,Nat.reduceAdd,Nat.reduceEqDiff,reduceIte,reduceCtorEq,Bool.false_eq_true,h0, h1, h6]
      refine ⟨⟨_, _, rfl, ?_⟩, Ext.refl _⟩
      rw [if_pos h1']
      rw [Abs.run_all Abs.part s (fun j hj => hall j hj (by omega))]
      exact ⟨by omega, rfl⟩
  have h1' : Abs.letter (Abs.byteAt s 0 : Nat) = false := h1
  have hno : ¬ Abs.letter (Abs.byteAt s 0 : Nat) = true := by simp [h1']
  simp -dsimp only [LL,B9,Nat.reduceAdd,Nat.reduceEqDiff,reduceIte,reduceCtorEq,Bool.false_eq_true]
  refine K.ixS (s.get! 0) (by decide) (Abs.get?_eq s 0 h) ?_
  simp -dsimp only [LL,B9,Nat.reduceAdd,Nat.reduceEqDiff,reduceIte,reduceCtorEq,Bool.false_eq_true]
  refine K.call (rdigit_r _ w) ?_
  rintro _ w ⟨rfl, rfl⟩
  simp -dsimp only [LL,B9,Nat.reduceAdd,Nat.reduceEqDiff,reduceIte,reduceCtorEq,Bool.false_eq_true]
  refine K.condb (fun h2 => ?_) (fun h2 => ?_)
  · simp -dsimp only [LL,B9,Nat.reduceAdd,Nat.reduceEqDiff,reduceIte,reduceCtorEq,Bool.false_eq_true]
    refine K.loop (fun S w' => ∃ i : Nat, i ≤ s.size ∧ S 6 = .int .i64 i ∧ w' = w)
      (fun S _ => (s.size - intOf (S 6)).toNat) ⟨0, by omega, by simp -dsimp only [LL,B9,Nat.reduceAdd,Nat.reduceEqDiff,reduceIte,reduceCtorEq,Bool.false_eq_true]; rfl, rfl⟩ ?_
    rintro S w hS ⟨i, hi, h6, rfl⟩
    have h0 := hS 0 rfl; have h1 := hS 1 rfl; simp only [upd_at, Nat.reduceAdd, Nat.reduceEqDiff, reduceIte, fr0_cons, fr0_nil] at h0 h1; clear hS
    simp -dsimp only [LL,B9,Nat.reduceAdd,Nat.reduceEqDiff,reduceIte,reduceCtorEq,Bool.false_eq_true,h0, h1, h6]
    refine K.cond (fun h2 => ?_) (fun h2 => ?_)
    · have hi' : i < s.size := by omega
      simp -dsimp only [LL,B9,Nat.reduceAdd,Nat.reduceEqDiff,reduceIte,reduceCtorEq,Bool.false_eq_true,h0, h1, h6]
      refine K.ixS (s.get! i) (by omega) (Abs.get?_eq s i hi') ?_
      simp -dsimp only [LL,B9,Nat.reduceAdd,Nat.reduceEqDiff,reduceIte,reduceCtorEq,Bool.false_eq_true,h0, h1, h6]
      refine K.call (rdigit_r _ _) ?_
      rintro _ w ⟨rfl, rfl⟩
      simp -dsimp only [LL,B9,Nat.reduceAdd,Nat.reduceEqDiff,reduceIte,reduceCtorEq,Bool.false_eq_true,h0, h1, h6]
      refine K.condb (fun h4 => ?_) (fun h4 => ?_)
      · simp -dsimp only [LL,B9,Nat.reduceAdd,Nat.reduceEqDiff,reduceIte,reduceCtorEq,Bool.false_eq_true,h0, h1, h6]
        refine K.wrap (by omega) ?_
        simp -dsimp only [LL,B9,Nat.reduceAdd,Nat.reduceEqDiff,reduceIte,reduceCtorEq,Bool.false_eq_true,h0, h1, h6]
        exact ⟨⟨i + 1, by omega, rfl, trivial⟩, by simp [intOf]; omega⟩
      · simp -dsimp only [LL,B9,Nat.reduceAdd,Nat.reduceEqDiff,reduceIte,reduceCtorEq,Bool.false_eq_true,h0, h1, h6]
        refine K.wrap (by omega) ?_
        simp -dsimp only [LL,B9,Nat.reduceAdd,Nat.reduceEqDiff,reduceIte,reduceCtorEq,Bool.false_eq_true,h0, h1, h6]
        exact ⟨⟨_, _, rfl, by rw [if_neg hno]; decide⟩, Ext.refl _⟩
    · simp -dsimp only [LL,B9,Nat.reduceAdd,Nat.reduceEqDiff,reduceIte,reduceCtorEq,Bool.false_eq_true,h0, h1, h6]
      refine K.wrap (by omega) ?_
      simp -dsimp only [LL,B9,Nat.reduceAdd,Nat.reduceEqDiff,reduceIte,reduceCtorEq,Bool.false_eq_true,h0, h1, h6]
      exact ⟨⟨_, _, rfl, by rw [if_neg hno]; decide⟩, Ext.refl _⟩
  simp -dsimp only [LL,B9,Nat.reduceAdd,Nat.reduceEqDiff,reduceIte,reduceCtorEq,Bool.false_eq_true]
  refine K.call (signs_r w) ?_
  rintro _ w1 ⟨⟨b, rfl, hc⟩, he⟩
  simp -dsimp only [LL,B9,Nat.reduceAdd,Nat.reduceEqDiff,reduceIte,reduceCtorEq,Bool.false_eq_true]
  refine K.loop (fun S w' => ∃ i : Nat, i ≤ 25 ∧ S 8 = .int .i64 i ∧ Ext w1 w')
    (fun S _ => (25 - intOf (S 8)).toNat) ⟨0, by omega, by simp -dsimp only [LL,B9,Nat.reduceAdd,Nat.reduceEqDiff,reduceIte,reduceCtorEq,Bool.false_eq_true]; rfl, Ext.refl _⟩ ?_
  rintro S w' hS ⟨i, hi, h8, he2⟩
  have h0 := hS 0 rfl; have h1 := hS 1 rfl; have h7 := hS 7 rfl; simp only [upd_at, Nat.reduceAdd, Nat.reduceEqDiff, reduceIte, fr0_cons, fr0_nil] at h0 h1 h7; clear hS
  simp -dsimp only [LL,B9,Nat.reduceAdd,Nat.reduceEqDiff,reduceIte,reduceCtorEq,Bool.false_eq_true,h0, h1, h7, h8]
  refine K.cond (fun h2 => ?_) (fun h2 => ?_)
  · have hi' : i < signL.length := by simp [signL]; omega
    have hcell : w'.cell? (Addr.add ⟨b, 0, none⟩ (i * 1)) = some (.string signL[i]) := by
      rw [Nat.mul_one]
      exact hc.ext he2 i _ (by rw [List.getElem?_map, List.getElem?_eq_getElem hi']; rfl)
    have hz : signL[i].size ≤ 2 := by
      have : ∀ x ∈ signL, x.size ≤ 2 := by decide
      exact this _ (List.getElem_mem _)
    generalize signL[i] = x at hcell hz
    simp -dsimp only [LL,B9,Nat.reduceAdd,Nat.reduceEqDiff,reduceIte,reduceCtorEq,Bool.false_eq_true,h0, h1, h7, h8]
    refine K.wrap (by omega) ?_
    simp -dsimp only [LL,B9,Nat.reduceAdd,Nat.reduceEqDiff,reduceIte,reduceCtorEq,Bool.false_eq_true,h0, h1, h7, h8]
    refine K.ian i rfl (by omega) ?_
    simp -dsimp only [LL,B9,Nat.reduceAdd,Nat.reduceEqDiff,reduceIte,reduceCtorEq,Bool.false_eq_true,h0, h1, h7, h8]
    refine K.ld hcell ?_
    simp -dsimp only [LL,B9,Nat.reduceAdd,Nat.reduceEqDiff,reduceIte,reduceCtorEq,Bool.false_eq_true,h0, h1, h7, h8]
    refine K.cond (fun h3 => ?_) (fun h3 => ?_)
    · simp -dsimp only [LL,B9,Nat.reduceAdd,Nat.reduceEqDiff,reduceIte,reduceCtorEq,Bool.false_eq_true,h0, h1, h7, h8]
      refine K.ian i rfl (by omega) ?_
      simp -dsimp only [LL,B9,Nat.reduceAdd,Nat.reduceEqDiff,reduceIte,reduceCtorEq,Bool.false_eq_true,h0, h1, h7, h8]
      refine K.ld hcell ?_
      simp -dsimp only [LL,B9,Nat.reduceAdd,Nat.reduceEqDiff,reduceIte,reduceCtorEq,Bool.false_eq_true,h0, h1, h7, h8]
      refine K.wrap (by omega) ?_
      simp -dsimp only [LL,B9,Nat.reduceAdd,Nat.reduceEqDiff,reduceIte,reduceCtorEq,Bool.false_eq_true,h0, h1, h7, h8]
      refine K.slcS 0 x.size (by simp [bnd, ev_tmp, upd_at, h1]) (by simp [bnd, ev_tmp, upd_at, h1]) (by omega) ?_
      simp -dsimp only [LL,B9,Nat.reduceAdd,Nat.reduceEqDiff,reduceIte,reduceCtorEq,Bool.false_eq_true,h0, h1, h7, h8]
      refine K.ian i rfl (by omega) ?_
      simp -dsimp only [LL,B9,Nat.reduceAdd,Nat.reduceEqDiff,reduceIte,reduceCtorEq,Bool.false_eq_true,h0, h1, h7, h8]
      refine K.ld hcell ?_
      simp -dsimp only [LL,B9,Nat.reduceAdd,Nat.reduceEqDiff,reduceIte,reduceCtorEq,Bool.false_eq_true,h0, h1, h7, h8]
      intro w2 he3
      refine K.cond (fun h4 => ?_) (fun h4 => ?_)
      · simp -dsimp only [LL,B9,Nat.reduceAdd,Nat.reduceEqDiff,reduceIte,reduceCtorEq,Bool.false_eq_true,h0, h1, h7, h8]
        refine K.ian i rfl (by omega) ?_
        simp -dsimp only [LL,B9,Nat.reduceAdd,Nat.reduceEqDiff,reduceIte,reduceCtorEq,Bool.false_eq_true,h0, h1, h7, h8]
        refine K.ld (he3.cell hcell) ?_
        simp -dsimp only [LL,B9,Nat.reduceAdd,Nat.reduceEqDiff,reduceIte,reduceCtorEq,Bool.false_eq_true,h0, h1, h7, h8]
        exact ⟨⟨_, _, rfl, by rw [if_neg hno]; decide⟩, he.trans (he2.trans he3)⟩
      · simp -dsimp only [LL,B9,Nat.reduceAdd,Nat.reduceEqDiff,reduceIte,reduceCtorEq,Bool.false_eq_true,h0, h1, h7, h8]
        refine K.wrap (by omega) ?_
        simp -dsimp only [LL,B9,Nat.reduceAdd,Nat.reduceEqDiff,reduceIte,reduceCtorEq,Bool.false_eq_true,h0, h1, h7, h8]
        exact ⟨⟨i + 1, by omega, rfl, he2.trans he3⟩, by simp [intOf]; omega⟩
    · simp -dsimp only [LL,B9,Nat.reduceAdd,Nat.reduceEqDiff,reduceIte,reduceCtorEq,Bool.false_eq_true,h0, h1, h7, h8]
      intro w2 he3
      refine K.wrap (by omega) ?_
      simp -dsimp only [LL,B9,Nat.reduceAdd,Nat.reduceEqDiff,reduceIte,reduceCtorEq,Bool.false_eq_true,h0, h1, h7, h8]
      exact ⟨⟨i + 1, by omega, rfl, he2.trans he3⟩, by simp [intOf]; omega⟩
  · simp -dsimp only [LL,B9,Nat.reduceAdd,Nat.reduceEqDiff,reduceIte,reduceCtorEq,Bool.false_eq_true,h0, h1, h7, h8]
    exact ⟨⟨_, _, rfl, by rw [if_neg hno]; decide⟩, he.trans he2⟩
theorem rname_r (s : ByteArray) (w : World) (hs : s.size ≤ 9223372036854775807) : Ret Tryz.prog F.lariatref09_Name #[.string s] w fun v w' => v = .bool (Abs.isName s) ∧ Ext w w' := by
  refine K.start hmix E.lariatref09_Name (args := [_]) (Nat.le_of_ble_eq_true rfl) ?_
  dsimp only [C.lariatref09_Name,yt,yi,yb,yp,yr,ye,yc,yv,yg,ym,yw,ya,yl,yx,ys,yn]
  simp -dsimp only [LL,B9,Nat.reduceAdd,Nat.reduceEqDiff,reduceIte,reduceCtorEq,Bool.false_eq_true]
  refine K.cond (fun h0 => ?_) (fun h0 => ?_)
  · simp -dsimp only [LL,B9,Nat.reduceAdd,Nat.reduceEqDiff,reduceIte,reduceCtorEq,Bool.false_eq_true]
    refine ⟨?_, Ext.refl w⟩; subst h0; rfl
  have hz : s.size ≠ 0 := fun h => h0 (by
    cases s with | mk d =>
    have : d = #[] := by simpa [ByteArray.size] using h
    rw [this])
  simp -dsimp only [LL,B9,Nat.reduceAdd,Nat.reduceEqDiff,reduceIte,reduceCtorEq,Bool.false_eq_true]
  refine K.cond (fun h1 => ?_) (fun h1 => ?_)
  · simp -dsimp only [LL,B9,Nat.reduceAdd,Nat.reduceEqDiff,reduceIte,reduceCtorEq,Bool.false_eq_true]
    refine ⟨?_, Ext.refl w⟩
    have : ¬ s.size ≤ 16 := by omega
    simp [Abs.isName, this]
  have h1' : s.size ≤ 16 := by omega
  simp -dsimp only [LL,B9,Nat.reduceAdd,Nat.reduceEqDiff,reduceIte,reduceCtorEq,Bool.false_eq_true]
  refine K.cond (fun h2 => ?_) (fun h2 => ?_)
  · simp -dsimp only [LL,B9,Nat.reduceAdd,Nat.reduceEqDiff,reduceIte,reduceCtorEq,Bool.false_eq_true]
    exact ⟨by subst h2; exact congrArg Value.bool (by decide +kernel), Ext.refl w⟩
  simp -dsimp only [LL,B9,Nat.reduceAdd,Nat.reduceEqDiff,reduceIte,reduceCtorEq,Bool.false_eq_true]
  refine K.cond (fun h3 => ?_) (fun h3 => ?_)
  · simp -dsimp only [LL,B9,Nat.reduceAdd,Nat.reduceEqDiff,reduceIte,reduceCtorEq,Bool.false_eq_true]
    exact ⟨by subst h3; exact congrArg Value.bool (by decide +kernel), Ext.refl w⟩
  simp -dsimp only [LL,B9,Nat.reduceAdd,Nat.reduceEqDiff,reduceIte,reduceCtorEq,Bool.false_eq_true]
  refine K.cond (fun h4 => ?_) (fun h4 => ?_)
  · simp -dsimp only [LL,B9,Nat.reduceAdd,Nat.reduceEqDiff,reduceIte,reduceCtorEq,Bool.false_eq_true]
    exact ⟨by subst h4; exact congrArg Value.bool (by decide +kernel), Ext.refl w⟩
  simp -dsimp only [LL,B9,Nat.reduceAdd,Nat.reduceEqDiff,reduceIte,reduceCtorEq,Bool.false_eq_true]
  refine K.cond (fun h5 => ?_) (fun h5 => ?_)
  · simp -dsimp only [LL,B9,Nat.reduceAdd,Nat.reduceEqDiff,reduceIte,reduceCtorEq,Bool.false_eq_true]
    exact ⟨by subst h5; exact congrArg Value.bool (by decide +kernel), Ext.refl w⟩
  have hm : s ∉ Abs.ownL := by simp [Abs.ownL, h2, h3, h4, h5]
  simp -dsimp only [LL,B9,Nat.reduceAdd,Nat.reduceEqDiff,reduceIte,reduceCtorEq,Bool.false_eq_true]
  refine K.call (begins0_r s w (by omega) h1') ?_
  rintro _ w1 ⟨⟨n, k, rfl, hnk⟩, he⟩
  simp -dsimp only [LL,B9,Nat.reduceAdd,Nat.reduceEqDiff,reduceIte,reduceCtorEq,Bool.false_eq_true]
  refine K.cond (fun h6 => ?_) (fun h6 => ?_)
  · simp -dsimp only [LL,B9,Nat.reduceAdd,Nat.reduceEqDiff,reduceIte,reduceCtorEq,Bool.false_eq_true]
    refine ⟨?_, he⟩
    have hl : Abs.letter (Abs.byteAt s 0 : Nat) = true := by
      by_cases hx : Abs.letter (Abs.byteAt s 0 : Nat) = true
      · exact hx
      · rw [if_neg hx] at hnk; exact absurd h6 hnk
    rw [if_pos hl] at hnk
    congr 1
    simp [Abs.isName, hl, hz, h1', hm, hnk.1]
    omega
  · simp -dsimp only [LL,B9,Nat.reduceAdd,Nat.reduceEqDiff,reduceIte,reduceCtorEq,Bool.false_eq_true]
    refine ⟨?_, he⟩
    have hl : Abs.letter (Abs.byteAt s 0 : Nat) = false := by
      by_cases hx : Abs.letter (Abs.byteAt s 0 : Nat) = true
      · rw [if_pos hx] at hnk; exact absurd hnk.2 h6
      · simpa using hx
    simp [Abs.isName, hl]
end Go.Proofs.YtbbaokmelkiemaaGreatDoor
end
section
/- What the reference says of commands. -/
set_option maxRecDepth 4000
set_option maxHeartbeats 8000000
namespace Go.Proofs.YtbbaokmelkiemaaGreatDoor
open Go Go.RowKit Lite
theorem ris_r (ve : Value) (e : List Abs.Node) (k : Int) (cs : List Value) (s : Abs.Scope) (w : World) (hn : Abs.Nodes w ve e) (h : Abs.ScopeIs w cs s) :
    Ret Tryz.prog F.lariatref13_is #[ve, .int .i64 k, .agg cs.toArray] w fun v w' => v = .int .i64 (Abs.asked e k s) ∧ Ext w w' := by
  obtain ⟨a0, c0, a1, c1, a2, c2, a3, c3, a4, c4, rfl, _⟩ := h.form
  obtain ⟨oa, cap, rfl, _⟩ := hn.form
  refine K.start hmix E.lariatref13_is (args := [_, _, _]) (Nat.le_of_ble_eq_true rfl) ?_; dsimp only [C.lariatref13_is,yt,yi,yb,yp,yr,ye,yc,yv,yg,ym,yw,ya,yl,yx,ys,yn]
  refine Sg ?_
  intro w1 b1 hb1 he1 hc1
  refine Sg ?_
  refine K.call (refKind_r _ e _ s w1 (hn.ext he1) (h.ext he1)) ?_
  rintro _ w2 ⟨rfl, he2⟩
  rw [Abs.asked]
  refine Sg ?_
  refine K.cond (fun g1 => ?_) (fun g1 => ?_)
  rotate_left
  · refine Sg ?_
    exact ⟨by rw [if_pos g1], he1.trans he2⟩
  rw [if_neg (by simpa using g1)]
  refine Sg ?_
  refine K.cond (fun g2 => ?_) (fun g2 => ?_)
  rotate_left
  · refine Sg ?_
    exact ⟨by rw [if_pos g2], he1.trans he2⟩
  · refine Sg ?_
    exact ⟨by rw [if_neg (by simpa using g2)], he1.trans he2⟩
theorem kindOf_r' (n : Int) (w : World) (h : 0 ≤ n ∧ n ≤ 4611686018427387904) : Ret Tryz.prog F.lariatref10_KindOf #[.int .i64 n] w fun v w' => v = .int .i64 (if n = 0 then 0 else 1 + n) ∧ w' = w := kindOf_r n w h
theorem plain_r (v : Value) (l : List Abs.Var) (n : Int) (cs : List Value) (s : Abs.Scope) (w : World) (hl : Abs.Vars w v l) (h : Abs.ScopeIs w cs s) :
    Ret Tryz.prog F.lariatref13_plain #[v, .int .i64 n, .agg cs.toArray] w fun v w' => v = .tuple #[.int .i64 (Abs.plainE l n s).1, .int .i64 (Abs.plainE l n s).2] ∧ Ext w w' := by
  obtain ⟨a0, c0, a1, c1, a2, c2, a3, c3, a4, c4, rfl, _, _, _, _, _, l0, l1, l2, l3, l4⟩ := h.form
  obtain ⟨oa, cap, rfl, _⟩ := hl.form
  refine K.start hmix E.lariatref13_plain (args := [_, _, _]) (Nat.le_of_ble_eq_true rfl) ?_; dsimp only [C.lariatref13_plain,yt,yi,yb,yp,yr,ye,yc,yv,yg,ym,yw,ya,yl,yx,ys,yn]
  refine Sg ?_
  intro w1 b1 hb1 he1 hc1
  refine Sg ?_
  refine K.call (rvariable_r _ l n _ s w1 (hl.ext he1) (h.ext he1)) ?_
  rintro u w2 ⟨⟨x, hu, hx⟩, he2⟩
  cases hk : (Abs.kvar l n s).2.2 with
  | false =>
    rw [hk] at hu
    subst hu
    refine Sg ?_
    intro w3 b3 hb3 he3 hc3
    refine Sg ?_
    exact ⟨by rw [Abs.plainE, Abs.declared_none hk], (he1.trans he2).trans he3⟩
  | true =>
    rw [hk] at hu
    subst hu
    obtain ⟨hd, p1, p2, p3, p4⟩ := Abs.declared_some hk (hx hk)
    have hpe : Abs.plainE l n s = if x.over ≠ 0 then (0, 9) else ((if x.scalar = 0 then 0 else 1 + x.scalar), 0) := by unfold Abs.plainE; rw [hd]
    refine Sg ?_
    intro w3 b3 hb3 he3 hc3
    refine Sg ?_
    refine K.cond (fun g1 => ?_) (fun g1 => ?_)
    · rw [if_neg (by simpa using g1)] at hpe
      refine Sg ?_
      refine K.call (kindOf_r' _ w3 ⟨p1, by omega⟩) ?_
      rintro _ _ ⟨rfl, rfl⟩
      refine Sg ?_
      exact ⟨by rw [hpe], (he1.trans he2).trans he3⟩
    · rw [if_pos g1] at hpe
      refine Sg ?_
      exact ⟨by rw [hpe], (he1.trans he2).trans he3⟩
theorem item_r (a : Abs.Act) (vi vv : Value) (cs : List Value) (s : Abs.Scope) (w : World) (hi : Abs.Nodes w vi a.index) (hv : Abs.Nodes w vv a.value) (h : Abs.ScopeIs w cs s) :
    Ret Tryz.prog F.lariatref13_item #[.agg (a.enc vi vv).toArray, .agg cs.toArray] w fun v w' => v = .int .i64 (Abs.itemE a s) ∧ Ext w w' := by
  obtain ⟨a0, c0, a1, c1, a2, c2, a3, c3, a4, c4, rfl, _, hsv, _, _, _, l0, l1, l2, l3, l4⟩ := h.form
  obtain ⟨_, _, rfl, _⟩ := hi.form
  obtain ⟨_, _, rfl, _⟩ := hv.form
  refine K.start hmix E.lariatref13_item (args := [_, _]) (Nat.le_of_ble_eq_true rfl) ?_; dsimp only [C.lariatref13_item,yt,yi,yb,yp,yr,ye,yc,yv,yg,ym,yw,ya,yl,yx,ys,yn]
  refine Sg ?_
  intro w1 b1 hb1 he1 hc1
  refine Sg ?_
  intro w2 b2 hb2 he2 hc2
  replace hc1 := he2.obj hc1
  have E2 : ∀ {w'}, Ext w2 w' → Ext w w' := fun e => (he1.trans he2).trans e
  refine Sg ?_
  refine K.call (rvariable_r _ s.vars a.to _ s w2 (hsv.ext (E2 (Ext.refl _))) (h.ext (E2 (Ext.refl _)))) ?_
  rintro u w3 ⟨⟨x, hu, hx⟩, he3⟩
  replace hc1 := he3.obj hc1
  replace hc2 := he3.obj hc2
  cases hk : (Abs.kvar s.vars a.to s).2.2 with
  | false =>
    rw [hk] at hu
    subst hu
    refine Sg ?_
    intro w4 b4 hb4 he4 hc4
    refine Sg ?_
    exact ⟨by rw [Abs.itemE, Abs.declared_none hk], E2 (he3.trans he4)⟩
  | true =>
    rw [hk] at hu
    subst hu
    obtain ⟨hd, p1, p2, p3, p4⟩ := Abs.declared_some hk (hx hk)
    have hpe : Abs.itemE a s = if x.over = 0 then 9 else if Abs.asked a.index (1 + x.over) s ≠ 0 then Abs.asked a.index (1 + x.over) s else Abs.asked a.value (if x.scalar = 0 then 0 else 1 + x.scalar) s := by unfold Abs.itemE; rw [hd]
    refine Sg ?_
    intro w4 b4 hb4 he4 hc4
    replace hc1 := he4.obj hc1
    replace hc2 := he4.obj hc2
    have E4 : ∀ {w'}, Ext w4 w' → Ext w w' := fun e => E2 ((he3.trans he4).trans e)
    refine Sg ?_
    refine K.cond (fun g1 => ?_) (fun g1 => ?_)
    · rw [if_pos g1] at hpe
      refine Sg ?_
      exact ⟨by rw [hpe], E4 (Ext.refl _)⟩
    rw [if_neg g1] at hpe
    refine Sg ?_
    refine K.call (ris_r _ a.index (1 + x.over) _ s w4 (hi.ext (E4 (Ext.refl _))) (h.ext (E4 (Ext.refl _)))) ?_
    rintro _ w5 ⟨rfl, he5⟩
    replace hc1 := he5.obj hc1
    replace hc2 := he5.obj hc2
    replace hc4 := he5.obj hc4
    have E5 : ∀ {w'}, Ext w5 w' → Ext w w' := fun e => E4 (he5.trans e)
    refine Sg ?_
    refine K.cond (fun g2 => ?_) (fun g2 => ?_)
    rotate_left
    · rw [if_pos g2] at hpe
      refine Sg ?_
      exact ⟨by rw [hpe], E5 (Ext.refl _)⟩
    rw [if_neg (by simpa using g2)] at hpe
    refine Sg ?_
    refine K.qfn (.int .i64 (if x.scalar = 0 then 0 else 1 + x.scalar)) (fun w' e => (kindOf_r' _ w' ⟨p1, by omega⟩).mono fun v w'' hh => ⟨hh.1, by rw [hh.2]; exact Ext.refl _⟩) ?_
    refine Sg ?_
    refine K.qfn (.int .i64 (Abs.itemE a s)) (fun w' e => by rw [hpe]; exact ris_r _ a.value _ _ s w' (hv.ext (E5 e)) (h.ext (E5 e))) ?_
    refine Sg ?_
    intro w6 he6
    refine Sg ?_
    exact ⟨by first | trivial | rfl, E5 he6⟩
theorem ract_r (a : Abs.Act) (comm : Bool) (vi vv : Value) (cs : List Value) (s : Abs.Scope) (w : World) (hi : Abs.Nodes w vi a.index) (hv : Abs.Nodes w vv a.value) (h : Abs.ScopeIs w cs s) :
    Ret Tryz.prog F.lariatref13_act #[.agg (a.enc vi vv).toArray, .agg cs.toArray, .bool comm] w fun v w' => v = .int .i64 (Abs.ractE a s comm) ∧ Ext w w' := by
  obtain ⟨a0, c0, a1, c1, a2, c2, a3, c3, a4, c4, rfl, _, hsv, _, _, hsl, l0, l1, l2, l3, l4⟩ := h.form
  obtain ⟨_, _, rfl, _⟩ := hi.form
  obtain ⟨_, _, rfl, _⟩ := hv.form
  refine K.start hmix E.lariatref13_act (args := [_, _, _]) (Nat.le_of_ble_eq_true rfl) ?_; dsimp only [C.lariatref13_act,yt,yi,yb,yp,yr,ye,yc,yv,yg,ym,yw,ya,yl,yx,ys,yn]
  refine Sg ?_
  intro w1 b1 hb1 he1 hc1
  refine Sg ?_
  intro w2 b2 hb2 he2 hc2
  replace hc1 := he2.obj hc1
  have E2 : ∀ {w'}, Ext w2 w' → Ext w w' := fun e => (he1.trans he2).trans e
  refine Sg ?_
  refine K.cond (fun g1 => ?_) (fun g1 => ?_)
  · refine Sg ?_
    exact ⟨by rw [Abs.ractE, if_pos (.inl g1)], E2 (Ext.refl _)⟩
  refine Sg ?_
  refine K.cond (fun g2 => ?_) (fun g2 => ?_)
  · refine Sg ?_
    exact ⟨by rw [Abs.ractE, if_pos (.inr g2)], E2 (Ext.refl _)⟩
  have h12 : ¬ (a.kind < 1 ∨ 5 < a.kind) := by omega
  refine Sg ?_
  refine K.cond (fun g3 => ?_) (fun g3 => ?_)
  · refine Sg ?_
    refine K.call (item_r a _ _ _ s w2 (hi.ext (E2 (Ext.refl _))) (hv.ext (E2 (Ext.refl _))) (h.ext (E2 (Ext.refl _)))) ?_
    rintro _ w3 ⟨rfl, he3⟩
    refine Sg ?_
    exact ⟨by rw [Abs.ractE, if_neg h12, if_pos g3], E2 he3⟩
  refine Sg ?_
  refine K.cond (fun g4 => ?_) (fun g4 => ?_)
  · have hr : Abs.ractE a s comm = if (Abs.plainE s.vars a.to s).2 ≠ 0 then (Abs.plainE s.vars a.to s).2 else Abs.asked a.value (Abs.plainE s.vars a.to s).1 s := by
      rw [Abs.ractE, if_neg h12, if_neg g3, if_pos (.inl g4)]; simp only [if_neg (by omega : ¬ a.kind = 3)]
    refine Sg ?_
    refine K.call (plain_r _ s.vars a.to _ s w2 (hsv.ext (E2 (Ext.refl _))) (h.ext (E2 (Ext.refl _)))) ?_
    rintro _ w3 ⟨rfl, he3⟩
    replace hc1 := he3.obj hc1
    replace hc2 := he3.obj hc2
    refine Sg ?_
    refine K.cond (fun g5 => ?_) (fun g5 => ?_)
    rotate_left
    · rw [if_pos g5] at hr
      refine Sg ?_
      exact ⟨by rw [hr], E2 he3⟩
    rw [if_neg (by simpa using g5)] at hr
    refine Sg ?_
    refine K.call (ris_r _ a.value _ _ s w3 (hv.ext (E2 he3)) (h.ext (E2 he3))) ?_
    rintro _ w4 ⟨rfl, he4⟩
    refine Sg ?_
    exact ⟨by rw [hr], E2 (he3.trans he4)⟩
  refine Sg ?_
  refine K.cond (fun g5 => ?_) (fun g5 => ?_)
  · have hr : Abs.ractE a s comm = if (Abs.plainE s.locals a.to s).2 ≠ 0 then (Abs.plainE s.locals a.to s).2 else Abs.asked a.value (Abs.plainE s.locals a.to s).1 s := by
      rw [Abs.ractE, if_neg h12, if_neg g3, if_pos (.inr g5)]; simp only [if_pos g5]
    refine Sg ?_
    refine K.call (plain_r _ s.locals a.to _ s w2 (hsl.ext (E2 (Ext.refl _))) (h.ext (E2 (Ext.refl _)))) ?_
    rintro _ w3 ⟨rfl, he3⟩
    replace hc1 := he3.obj hc1
    replace hc2 := he3.obj hc2
    refine Sg ?_
    refine K.cond (fun g5 => ?_) (fun g5 => ?_)
    rotate_left
    · rw [if_pos g5] at hr
      refine Sg ?_
      exact ⟨by rw [hr], E2 he3⟩
    rw [if_neg (by simpa using g5)] at hr
    refine Sg ?_
    refine K.call (ris_r _ a.value _ _ s w3 (hv.ext (E2 he3)) (h.ext (E2 he3))) ?_
    rintro _ w4 ⟨rfl, he4⟩
    refine Sg ?_
    exact ⟨by rw [hr], E2 (he3.trans he4)⟩
  have h13 : ¬ (a.kind = 1 ∨ a.kind = 3) := by omega
  refine Sg ?_
  refine K.condb (fun g6 => ?_) (fun g6 => ?_)
  · refine Sg ?_
    exact ⟨by rw [Abs.ractE, if_neg h12, if_neg g3, if_neg h13, if_pos g6], E2 (Ext.refl _)⟩
  refine Sg ?_
  refine K.call (rchannel_r a.to _ s w2 (h.ext (E2 (Ext.refl _)))) ?_
  rintro u w3 ⟨⟨x, hu, hx⟩, he3⟩
  replace hc1 := he3.obj hc1
  replace hc2 := he3.obj hc2
  by_cases hk : (Abs.kLen a.to s).2 = 0
  rotate_left
  · rw [decide_eq_false hk] at hu
    subst hu
    refine Sg ?_
    intro w4 b4 hb4 he4 hc4
    refine Sg ?_
    exact ⟨by rw [Abs.ractE, if_neg h12, if_neg g3, if_neg h13, if_neg (by simp [g6]), Abs.channel_none hk], E2 (he3.trans he4)⟩
  rw [decide_eq_true hk] at hu
  subst hu
  obtain ⟨hd, p1, p2⟩ := Abs.channel_some hk (hx hk)
  have hr : Abs.ractE a s comm = if a.kind = 4 then Abs.asked a.value (if x.scalar = 0 then 0 else 1 + x.scalar) s else if (Abs.plainE s.locals a.loc s).2 ≠ 0 then (Abs.plainE s.locals a.loc s).2 else if (Abs.plainE s.locals a.loc s).1 ≠ (if x.scalar = 0 then 0 else 1 + x.scalar) then 9 else 0 := by
    rw [Abs.ractE, if_neg h12, if_neg g3, if_neg h13, if_neg (by simp [g6]), hd]
  refine Sg ?_
  intro w4 b4 hb4 he4 hc4
  replace hc1 := he4.obj hc1
  replace hc2 := he4.obj hc2
  have E4 : ∀ {w'}, Ext w4 w' → Ext w w' := fun e => E2 ((he3.trans he4).trans e)
  refine Sg ?_
  refine K.cond (fun g7 => ?_) (fun g7 => ?_)
  · rw [if_pos g7] at hr
    refine Sg ?_
    refine K.qfn (.int .i64 (if x.scalar = 0 then 0 else 1 + x.scalar)) (fun w' e => (kindOf_r' _ w' ⟨p1, by omega⟩).mono fun v w'' hh => ⟨hh.1, by rw [hh.2]; exact Ext.refl _⟩) ?_
    refine Sg ?_
    refine K.qfn (.int .i64 (Abs.ractE a s comm)) (fun w' e => by rw [hr]; exact ris_r _ a.value _ _ s w' (hv.ext (E4 e)) (h.ext (E4 e))) ?_
    refine Sg ?_
    intro w6 he6
    refine Sg ?_
    exact ⟨by first | trivial | rfl, E4 he6⟩
  rw [if_neg g7] at hr
  refine Sg ?_
  refine K.call (plain_r _ s.locals a.loc _ s w4 (hsl.ext (E4 (Ext.refl _))) (h.ext (E4 (Ext.refl _)))) ?_
  rintro _ w5 ⟨rfl, he5⟩
  replace hc4 := he5.obj hc4
  refine Sg ?_
  refine K.cond (fun g8 => ?_) (fun g8 => ?_)
  rotate_left
  · rw [if_pos g8] at hr
    refine Sg ?_
    exact ⟨by rw [hr], E4 he5⟩
  rw [if_neg (by simpa using g8)] at hr
  refine Sg ?_
  refine K.call (kindOf_r' _ w5 ⟨p1, by omega⟩) ?_
  rintro _ _ ⟨rfl, rfl⟩
  refine Sg ?_
  refine K.cond (fun g9 => ?_) (fun g9 => ?_)
  · rw [if_neg (by simpa using g9)] at hr
    refine Sg ?_
    exact ⟨by rw [hr], E4 he5⟩
  · rw [if_pos g9] at hr
    refine Sg ?_
    exact ⟨by rw [hr], E4 he5⟩
end Go.Proofs.YtbbaokmelkiemaaGreatDoor
end
section
/- What the reference says of whole commands. -/
set_option maxRecDepth 4000
set_option maxHeartbeats 16000000
namespace Abs
theorem actsE_ract {s : Scope} {a : Act} {k : Nat} {b : Bool} {Z : Int × Int} : (if talks a && b then ((2 + (k : Int)), (7 : Int)) else if actE a s ≠ 0 then (2 + (k : Int), actE a s) else Z) = if ractE a s b ≠ 0 then (2 + (k : Int), ractE a s b) else Z := by
  rw [ractE_eq]
  by_cases h : (talks a && b) = true
  · simp [h]
  · simp [h]
end Abs
namespace Go.Proofs.YtbbaokmelkiemaaGreatDoor
open Go Go.RowKit Lite
theorem rcheck_r (c : Abs.Cmd) (vg va : Value) (p : Abs.Proc) (pv pc : Value) (cs : List Value) (s : Abs.Scope) (w : World) (hn : Abs.strOk c.name) (hg : Abs.Nodes w vg c.guard) (ha : Abs.Acts w va c.acts)
    (hv : Abs.Vars w pv p.vars) (hc : Abs.Cmds w pc p.cmds) (h : Abs.ScopeIs w cs s) :
    Ret Tryz.prog F.lariatref13_Check #[.agg (c.enc vg va).toArray, .agg (p.enc pv pc).toArray, .agg cs.toArray] w fun v w' =>
      v = .tuple #[.int .i64 (Abs.cmdCheck c p.locs s).1, .int .i64 (Abs.cmdCheck c p.locs s).2] ∧ Ext w w' := by
  obtain ⟨a0, c0, a1, c1, a2, c2, a3, c3, a4, c4, rfl, _⟩ := h.form
  obtain ⟨oa, cap, rfl, hlen⟩ := ha.form
  obtain ⟨og, capg, rfl, hleng⟩ := hg.form
  obtain ⟨_, _, rfl, _⟩ := hv.form
  obtain ⟨_, _, rfl, _⟩ := hc.form
  refine K.start hmix E.lariatref13_Check (args := [_, _, _]) (Nat.le_of_ble_eq_true rfl) ?_; dsimp only [C.lariatref13_Check,yt,yi,yb,yp,yr,ye,yc,yv,yg,ym,yw,ya,yl,yx,ys,yn]
  refine Sg ?_
  intro w1 b1 hb1 he1 hc1
  refine Sg ?_
  intro w2 b2 hb2 he2 hc2
  refine Sg ?_
  intro w3 b3 hb3 he3 hc3
  replace hc1 := (he2.trans he3).obj hc1
  replace hc2 := he3.obj hc2
  have E3 : ∀ {w'}, Ext w3 w' → Ext w w' := fun e => ((he1.trans he2).trans he3).trans e
  refine Sg ?_
  refine K.call (rname_r c.name w3 hn) ?_
  rintro u w4 ⟨hu, he4⟩
  replace hc1 := he4.obj hc1
  replace hc2 := he4.obj hc2
  replace hc3 := he4.obj hc3
  have E4 : ∀ {w'}, Ext w4 w' → Ext w w' := fun e => E3 (he4.trans e)
  have hd : ∀ n, Abs.head c p.locs = n → n ≠ 0 → Abs.cmdCheck c p.locs s = (0, n) := fun n e h0 => by unfold Abs.cmdCheck; rw [e, if_pos h0]
  cases hnm : Abs.isName c.name with
  | false =>
    rw [hnm] at hu
    subst hu
    refine Sg ?_
    exact ⟨by rw [hd 6 (by unfold Abs.head; rw [if_pos hnm]) (by decide)], E4 (Ext.refl _)⟩
  | true =>
    rw [hnm] at hu
    subst hu
    have hnn : ¬ Abs.isName c.name = false := by rw [hnm]; simp
    refine Sg ?_
    refine K.cond (fun g1 => ?_) (fun g1 => ?_)
    · refine Sg ?_
      exact ⟨by rw [hd 10 (by unfold Abs.head; rw [if_neg hnn, if_pos (by omega)]) (by decide)], E4 (Ext.refl _)⟩
    refine Sg ?_
    refine K.cond (fun g2 => ?_) (fun g2 => ?_)
    · refine Sg ?_
      exact ⟨by rw [hd 10 (by unfold Abs.head; rw [if_neg hnn, if_pos (by omega)]) (by decide)], E4 (Ext.refl _)⟩
    refine Sg ?_
    refine K.cond (fun g3 => ?_) (fun g3 => ?_)
    · refine Sg ?_
      exact ⟨by rw [hd 10 (by unfold Abs.head; rw [if_neg hnn, if_pos (by omega)]) (by decide)], E4 (Ext.refl _)⟩
    refine Sg ?_
    refine K.cond (fun g4 => ?_) (fun g4 => ?_)
    · refine Sg ?_
      exact ⟨by rw [hd 10 (by unfold Abs.head; rw [if_neg hnn, if_pos (by omega)]) (by decide)], E4 (Ext.refl _)⟩
    have hno : ¬ (c.from_ < 0 ∨ p.locs ≤ c.from_ ∨ c.to < 0 ∨ p.locs ≤ c.to) := by omega
    refine Sg ?_
    refine K.cond (fun g5 => ?_) (fun g5 => ?_)
    · refine Sg ?_
      exact ⟨by rw [hd 11 (by unfold Abs.head; rw [if_neg hnn, if_neg hno, if_pos (by omega)]) (by decide)], E4 (Ext.refl _)⟩
    have hr0 : Abs.cmdCheck c p.locs s = if c.guard.length > 0 ∧ Abs.asked c.guard 1 s ≠ 0 then (1, Abs.asked c.guard 1 s) else Abs.actsE s c.acts 0 false := by
      unfold Abs.cmdCheck
      rw [if_neg]
      unfold Abs.head
      rw [if_neg hnn, if_neg hno, if_neg (by omega)]
      simp
    clear hd
    refine Sg ?_
    refine K.cond (fun g6 => ?_) (fun g6 => ?_)
    · refine Sg ?_
      refine K.call (ris_r _ c.guard 1 _ s w4 (hg.ext (E4 (Ext.refl _))) (h.ext (E4 (Ext.refl _)))) ?_
      rintro _ w5 ⟨rfl, he5⟩
      replace hc1 := he5.obj hc1
      replace hc3 := he5.obj hc3
      have E5 : ∀ {w'}, Ext w5 w' → Ext w w' := fun e => E4 (he5.trans e)
      refine Sg ?_
      refine K.cond (fun g7 => ?_) (fun g7 => ?_)
      rotate_left
      · rw [if_pos ⟨by omega, g7⟩] at hr0
        refine Sg ?_
        exact ⟨by rw [hr0], E5 (Ext.refl _)⟩
      have hr : Abs.cmdCheck c p.locs s = Abs.actsE s c.acts 0 false := by rw [hr0, if_neg (fun hh => hh.2 (by simpa using g7))]
      refine Sg ?_
      refine K.forG 10 c.acts.length [3, 4, 5] (fun b => [(9, .bool b)]) false (fun k b w' => Ext w5 w' ∧ Abs.actsE s c.acts 0 false = Abs.actsE s (c.acts.drop k) k b) (by first | trivial | rfl | exact ⟨rfl, trivial⟩ | (simp -dsimp only [LL,slots_nil,slots_cons,keepV_nil,keepV_cons,has_nil,has_cons,Nat.reduceAdd,Nat.reduceEqDiff,reduceIte,and_self]; done) | (simp -dsimp only [LL,slots_nil,slots_cons,keepV_nil,keepV_cons,has_nil,has_cons,Nat.reduceAdd,Nat.reduceEqDiff,reduceIte,and_self]; exact ⟨rfl, trivial⟩)) (by first | trivial | rfl | exact ⟨rfl, trivial⟩ | (simp -dsimp only [LL,slots_nil,slots_cons,keepV_nil,keepV_cons,has_nil,has_cons,Nat.reduceAdd,Nat.reduceEqDiff,reduceIte,and_self]; done) | (simp -dsimp only [LL,slots_nil,slots_cons,keepV_nil,keepV_cons,has_nil,has_cons,Nat.reduceAdd,Nat.reduceEqDiff,reduceIte,and_self]; exact ⟨rfl, trivial⟩)) ⟨Ext.refl _, by simp⟩ ?_
      rintro k b S w6 hk ⟨he6, hI⟩
      replace hc1 := he6.obj hc1
      replace hc3 := he6.obj hc3
      refine Sg ?_
      refine K.cond (fun g1 => ?_) (fun g1 => ?_)
      · have hk' : k < c.acts.length := by omega
        obtain ⟨a, rfl⟩ := ha.addr (by omega)
        obtain ⟨vi, vv, hcell, hvi, hvv⟩ := ha.at k hk'
        obtain ⟨_, _, rfl, _⟩ := hvi.form
        obtain ⟨_, _, rfl, _⟩ := hvv.form
        rw [Abs.actsE_cons hk', Abs.actsE_ract] at hI
        replace hcell := hcell.ext (E5 (Ext.refl _))
        refine Sg ?_
        refine K.qfn (.int .i64 (Abs.ractE c.acts[k] s b)) (fun w' e => ract_r c.acts[k] b _ _ _ s w' (hvi.ext (E5 (he6.trans e))) (hvv.ext (E5 (he6.trans e))) (h.ext (E5 (he6.trans e)))) ?_
        refine Sg ?_
        intro w7 he7
        replace hc1 := he7.obj hc1
        replace hc3 := he7.obj hc3
        refine Sg ?_
        refine K.cond (fun g2 => ?_) (fun g2 => ?_)
        rotate_left
        · rw [if_pos g2] at hI
          refine Sg ?_
          exact ⟨by rw [hr, hI], E5 (he6.trans he7)⟩
        rw [if_neg (by simpa using g2)] at hI
        refine Sg ?_
        refine K.condb (fun g3 => ?_) (fun g3 => ?_)
        · subst g3
          refine Sg ?_
          exact ⟨hk', by first | trivial | rfl, true, (by first | trivial | rfl | exact ⟨rfl, trivial⟩ | (simp -dsimp only [LL,slots_nil,slots_cons,keepV_nil,keepV_cons,has_nil,has_cons,Nat.reduceAdd,Nat.reduceEqDiff,reduceIte,and_self]; done) | (simp -dsimp only [LL,slots_nil,slots_cons,keepV_nil,keepV_cons,has_nil,has_cons,Nat.reduceAdd,Nat.reduceEqDiff,reduceIte,and_self]; exact ⟨rfl, trivial⟩)), he6.trans he7, by simpa using hI⟩
        subst g3
        refine Sg ?_
        refine K.cond (fun g4 => ?_) (fun g4 => ?_)
        · have ht : Abs.talks c.acts[k] = true := by unfold Abs.talks; rw [decide_eq_true_eq]; omega
          refine Sg ?_
          exact ⟨hk', by first | trivial | rfl, true, (by first | trivial | rfl | exact ⟨rfl, trivial⟩ | (simp -dsimp only [LL,slots_nil,slots_cons,keepV_nil,keepV_cons,has_nil,has_cons,Nat.reduceAdd,Nat.reduceEqDiff,reduceIte,and_self]; done) | (simp -dsimp only [LL,slots_nil,slots_cons,keepV_nil,keepV_cons,has_nil,has_cons,Nat.reduceAdd,Nat.reduceEqDiff,reduceIte,and_self]; exact ⟨rfl, trivial⟩)), he6.trans he7, by simpa [ht] using hI⟩
        have ht : Abs.talks c.acts[k] = decide (c.acts[k].kind = 5) := by unfold Abs.talks; rw [Bool.eq_iff_iff, decide_eq_true_eq, decide_eq_true_eq]; omega
        rw [Bool.false_or, ht] at hI
        refine Sg ?_
        exact ⟨hk', by first | trivial | rfl, decide (c.acts[k].kind = 5), (by first | trivial | rfl | exact ⟨rfl, trivial⟩ | (simp -dsimp only [LL,slots_nil,slots_cons,keepV_nil,keepV_cons,has_nil,has_cons,Nat.reduceAdd,Nat.reduceEqDiff,reduceIte,and_self]; done) | (simp -dsimp only [LL,slots_nil,slots_cons,keepV_nil,keepV_cons,has_nil,has_cons,Nat.reduceAdd,Nat.reduceEqDiff,reduceIte,and_self]; exact ⟨rfl, trivial⟩)), he6.trans he7, hI⟩
      · rw [List.drop_eq_nil_of_le (by omega)] at hI
        refine Sg ?_
        exact ⟨by rw [hr, hI]; rfl, E5 he6⟩
    · have hr : Abs.cmdCheck c p.locs s = Abs.actsE s c.acts 0 false := by rw [hr0, if_neg (fun hh => g6 (by omega))]
      refine Sg ?_
      refine K.forG 10 c.acts.length [3, 4, 5] (fun b => [(9, .bool b)]) false (fun k b w' => Ext w4 w' ∧ Abs.actsE s c.acts 0 false = Abs.actsE s (c.acts.drop k) k b) (by first | trivial | rfl | exact ⟨rfl, trivial⟩ | (simp -dsimp only [LL,slots_nil,slots_cons,keepV_nil,keepV_cons,has_nil,has_cons,Nat.reduceAdd,Nat.reduceEqDiff,reduceIte,and_self]; done) | (simp -dsimp only [LL,slots_nil,slots_cons,keepV_nil,keepV_cons,has_nil,has_cons,Nat.reduceAdd,Nat.reduceEqDiff,reduceIte,and_self]; exact ⟨rfl, trivial⟩)) (by first | trivial | rfl | exact ⟨rfl, trivial⟩ | (simp -dsimp only [LL,slots_nil,slots_cons,keepV_nil,keepV_cons,has_nil,has_cons,Nat.reduceAdd,Nat.reduceEqDiff,reduceIte,and_self]; done) | (simp -dsimp only [LL,slots_nil,slots_cons,keepV_nil,keepV_cons,has_nil,has_cons,Nat.reduceAdd,Nat.reduceEqDiff,reduceIte,and_self]; exact ⟨rfl, trivial⟩)) ⟨Ext.refl _, by simp⟩ ?_
      rintro k b S w6 hk ⟨he6, hI⟩
      replace hc1 := he6.obj hc1
      replace hc3 := he6.obj hc3
      refine Sg ?_
      refine K.cond (fun g1 => ?_) (fun g1 => ?_)
      · have hk' : k < c.acts.length := by omega
        obtain ⟨a, rfl⟩ := ha.addr (by omega)
        obtain ⟨vi, vv, hcell, hvi, hvv⟩ := ha.at k hk'
        obtain ⟨_, _, rfl, _⟩ := hvi.form
        obtain ⟨_, _, rfl, _⟩ := hvv.form
        rw [Abs.actsE_cons hk', Abs.actsE_ract] at hI
        replace hcell := hcell.ext (E4 (Ext.refl _))
        refine Sg ?_
        refine K.qfn (.int .i64 (Abs.ractE c.acts[k] s b)) (fun w' e => ract_r c.acts[k] b _ _ _ s w' (hvi.ext (E4 (he6.trans e))) (hvv.ext (E4 (he6.trans e))) (h.ext (E4 (he6.trans e)))) ?_
        refine Sg ?_
        intro w7 he7
        replace hc1 := he7.obj hc1
        replace hc3 := he7.obj hc3
        refine Sg ?_
        refine K.cond (fun g2 => ?_) (fun g2 => ?_)
        rotate_left
        · rw [if_pos g2] at hI
          refine Sg ?_
          exact ⟨by rw [hr, hI], E4 (he6.trans he7)⟩
        rw [if_neg (by simpa using g2)] at hI
        refine Sg ?_
        refine K.condb (fun g3 => ?_) (fun g3 => ?_)
        · subst g3
          refine Sg ?_
          exact ⟨hk', by first | trivial | rfl, true, (by first | trivial | rfl | exact ⟨rfl, trivial⟩ | (simp -dsimp only [LL,slots_nil,slots_cons,keepV_nil,keepV_cons,has_nil,has_cons,Nat.reduceAdd,Nat.reduceEqDiff,reduceIte,and_self]; done) | (simp -dsimp only [LL,slots_nil,slots_cons,keepV_nil,keepV_cons,has_nil,has_cons,Nat.reduceAdd,Nat.reduceEqDiff,reduceIte,and_self]; exact ⟨rfl, trivial⟩)), he6.trans he7, by simpa using hI⟩
        subst g3
        refine Sg ?_
        refine K.cond (fun g4 => ?_) (fun g4 => ?_)
        · have ht : Abs.talks c.acts[k] = true := by unfold Abs.talks; rw [decide_eq_true_eq]; omega
          refine Sg ?_
          exact ⟨hk', by first | trivial | rfl, true, (by first | trivial | rfl | exact ⟨rfl, trivial⟩ | (simp -dsimp only [LL,slots_nil,slots_cons,keepV_nil,keepV_cons,has_nil,has_cons,Nat.reduceAdd,Nat.reduceEqDiff,reduceIte,and_self]; done) | (simp -dsimp only [LL,slots_nil,slots_cons,keepV_nil,keepV_cons,has_nil,has_cons,Nat.reduceAdd,Nat.reduceEqDiff,reduceIte,and_self]; exact ⟨rfl, trivial⟩)), he6.trans he7, by simpa [ht] using hI⟩
        have ht : Abs.talks c.acts[k] = decide (c.acts[k].kind = 5) := by unfold Abs.talks; rw [Bool.eq_iff_iff, decide_eq_true_eq, decide_eq_true_eq]; omega
        rw [Bool.false_or, ht] at hI
        refine Sg ?_
        exact ⟨hk', by first | trivial | rfl, decide (c.acts[k].kind = 5), (by first | trivial | rfl | exact ⟨rfl, trivial⟩ | (simp -dsimp only [LL,slots_nil,slots_cons,keepV_nil,keepV_cons,has_nil,has_cons,Nat.reduceAdd,Nat.reduceEqDiff,reduceIte,and_self]; done) | (simp -dsimp only [LL,slots_nil,slots_cons,keepV_nil,keepV_cons,has_nil,has_cons,Nat.reduceAdd,Nat.reduceEqDiff,reduceIte,and_self]; exact ⟨rfl, trivial⟩)), he6.trans he7, hI⟩
      · rw [List.drop_eq_nil_of_le (by omega)] at hI
        refine Sg ?_
        exact ⟨by rw [hr, hI]; rfl, E4 he6⟩
end Go.Proofs.YtbbaokmelkiemaaGreatDoor
end
section
/- What the references of layer 12 compute: scalars, variables, channels. -/
set_option maxRecDepth 4000
set_option linter.unusedSimpArgs false
set_option maxHeartbeats 1000000
namespace Go.Proofs.YtbbaokmelkiemaaGreatDoor
open Go Go.RowKit Lite

theorem err_many {most : Int} {nm : Nat → ByteArray} {mo : Nat → Int} {i : Nat} (h : most ≤ i) : Abs.err most nm mo i = 11 := by rw [Abs.err, if_pos h]
theorem err_name {most : Int} {nm : Nat → ByteArray} {mo : Nat → Int} {i : Nat} (h : ¬ most ≤ i) (h2 : Abs.isName (nm i) = false) : Abs.err most nm mo i = 6 := by rw [Abs.err, if_neg h, if_pos h2]
theorem err_twice {most : Int} {nm : Nat → ByteArray} {mo : Nat → Int} {i j : Nat} (h : ¬ most ≤ i) (h2 : Abs.isName (nm i) = true) (hj : j < i) (he : nm j = nm i) : Abs.err most nm mo i = 7 := by
  rw [Abs.err, if_neg h, if_neg (by simp [h2]), if_pos ⟨j, hj, he⟩]
theorem err_own {most : Int} {nm : Nat → ByteArray} {mo : Nat → Int} {i : Nat} (h : ¬ most ≤ i) (h2 : Abs.isName (nm i) = true) (hj : ∀ j, j < i → nm j ≠ nm i) : Abs.err most nm mo i = mo i := by
  rw [Abs.err, if_neg h, if_neg (by simp [h2]), if_neg (fun ⟨j, h1, h2⟩ => hj j h1 h2)]
end Go.Proofs.YtbbaokmelkiemaaGreatDoor
end
section
/- What the references of layer 12 compute: one variable. -/
set_option maxRecDepth 4000
set_option linter.unusedSimpArgs false
set_option maxHeartbeats 1000000
namespace Go.Proofs.YtbbaokmelkiemaaGreatDoor
open Go Go.RowKit Lite

theorem span_r (lo hi : Int) (w : World) : Ret Tryz.prog F.lariatref12_span #[.int .i64 lo, .int .i64 hi] w fun v w' => v = .bool (Abs.narrow lo hi) ∧ w' = w := by
  refine K.start hmix E.lariatref12_span (args := [_, _]) (Nat.le_of_ble_eq_true rfl) ?_
  dsimp only [C.lariatref12_span,yt,yi,yb,yp,yr,ye,yc,yv,yg,ym,yw,ya,yl,yx,ys,yn]
  (repeat' first
    | (refine K.cond (fun _ => ?_) (fun _ => ?_) <;> try (exfalso; omega))
    | (refine K.condb (fun _ => ?_) (fun _ => ?_))
    | (refine K.wrap (by omega) ?_)
    | (refine K.ld (by assumption) ?_)
    | (refine K.ia (by omega) ?_)
    | simp -dsimp only [LL,B9,Nat.reduceAdd,Nat.reduceEqDiff,reduceIte,reduceCtorEq,Bool.false_eq_true])
  all_goals (refine ⟨?_, by first | rfl | trivial⟩; congr 1; rw [Bool.eq_iff_iff]; simp [Abs.narrow]; omega)
def vErr (v : Abs.Var) (s : List Abs.Scalar) : Int :=
  if (v.scalar ≠ 0 ∧ Abs.size v.scalar s = 0) ∨ (v.over ≠ 0 ∧ Abs.size v.over s = 0) then 8
  else if v.scalar = 0 ∧ (Abs.narrow v.lo v.hi = false ∨ v.init < v.lo ∨ v.init > v.hi) then 10
  else if v.scalar ≠ 0 ∧ (v.init < 0 ∨ v.init > Abs.size v.scalar s) then 10 else 0
theorem varErr_eq (l : List Abs.Var) (s : List Abs.Scalar) (i : Nat) (h : i < l.length) : Abs.varErr l s i = vErr l[i] s := by
  rw [Abs.varErr, List.getElem?_eq_getElem h]
  simp only [vErr, Abs.there, Abs.bounds, decide_eq_false_iff_not]
  by_cases h0 : l[i].scalar = 0
  · simp only [h0, if_true]
    by_cases h1 : l[i].over = 0
    · simp [h1]
    · simp [h1]
  · simp only [h0, if_false]
    by_cases h1 : l[i].over = 0
    · simp [h0, h1]
    · simp [h0, h1]
theorem refVariable_r (x : Abs.Var) (v : Value) (l : List Abs.Scalar) (w : World) (hl : Abs.Scalars w v l) :
    Ret Tryz.prog F.lariatref12_variable #[.agg x.enc.toArray, v] w fun v w' => v = .int .i64 (vErr x l) ∧ Ext w w' := by
  obtain ⟨oa, cap, rfl, hlen⟩ := hl.form
  refine K.start hmix E.lariatref12_variable (args := [_, _]) (Nat.le_of_ble_eq_true rfl) ?_
  dsimp only [C.lariatref12_variable,yt,yi,yb,yp,yr,ye,yc,yv,yg,ym,yw,ya,yl,yx,ys,yn]
  simp -dsimp only [LL,B9,Nat.reduceAdd,Nat.reduceEqDiff,reduceIte,reduceCtorEq,Bool.false_eq_true]
  refine K.new fun w1 b hb he1 hc1 => ?_
  have hl1 := SlR.ext Abs.RScalar.ext he1 hl
  have c1 : w1.cell? (Addr.add ⟨b, 0, none⟩ 1) = some (.int .i64 x.scalar) := cell_blk hc1 rfl
  have c2 : w1.cell? (Addr.add ⟨b, 0, none⟩ 2) = some (.int .i64 x.over) := cell_blk hc1 rfl
  have c3 : w1.cell? (Addr.add ⟨b, 0, none⟩ 3) = some (.int .i64 x.lo) := cell_blk hc1 rfl
  have c4 : w1.cell? (Addr.add ⟨b, 0, none⟩ 4) = some (.int .i64 x.hi) := cell_blk hc1 rfl
  have c5 : w1.cell? (Addr.add ⟨b, 0, none⟩ 5) = some (.int .i64 x.init) := cell_blk hc1 rfl
  have hq : ∀ k w', Ext w1 w' → Ret Tryz.prog F.lariatref12_Size #[.slice oa l.length cap, .int .i64 k] w' fun u w'' => u = .int .i64 (Abs.size k l) ∧ Ext w' w'' := fun k w' he =>
    (refSize_r k _ l w' (SlR.ext Abs.RScalar.ext he hl1)).mono fun v w'' h => ⟨h.1, h.2 ▸ Ext.refl _⟩
  (repeat' first
    | (refine K.cond (fun _ => ?_) (fun _ => ?_) <;> try (exfalso; omega))
    | (refine K.condb (fun _ => ?_) (fun _ => ?_))
    | (refine K.ld (by assumption) ?_)
    | (refine K.call (refSize_r _ _ l _ hl1) ?_; rintro _ w1 ⟨rfl, rfl⟩)
    | (refine K.call (span_r _ _ _) ?_; rintro _ w1 ⟨rfl, rfl⟩)
    | (refine K.qfn _ (hq _) ?_)
    | simp -dsimp only [LL,B9,Nat.reduceAdd,Nat.reduceEqDiff,reduceIte,reduceCtorEq,Bool.false_eq_true]
    | (intro w2 he2; replace he2 := he1.trans he2))
  all_goals (refine ⟨?_, by assumption⟩; congr 1; unfold vErr; simp only [Abs.narrow, decide_eq_false_iff_not])
  all_goals (repeat' split)
  all_goals first | rfl | (exfalso; omega)
theorem refVars_r (v v2 : Value) (l : List Abs.Var) (s : List Abs.Scalar) (most : Int) (w : World) (hl : Abs.Vars w v l) (hs : Abs.Scalars w v2 s) :
    Ret Tryz.prog F.lariatref12_Vars #[v, v2, .int .i64 most] w fun v w' => v = .tuple #[.int .i64 (Abs.vars l s most).1, .int .i64 (Abs.vars l s most).2] ∧ Ext w w' := by
  obtain ⟨oa, cap, rfl, hlen⟩ := hl.form
  refine K.start hmix E.lariatref12_Vars (args := [_, _, _]) (Nat.le_of_ble_eq_true rfl) ?_
  dsimp only [C.lariatref12_Vars,yt,yi,yb,yp,yr,ye,yc,yv,yg,ym,yw,ya,yl,yx,ys,yn]
  simp -dsimp only [LL,B9,Nat.reduceAdd,Nat.reduceEqDiff,reduceIte,reduceCtorEq,Bool.false_eq_true]
  refine K.loop (fun S w' => ∃ i : Nat, i ≤ l.length ∧ S 8 = .int .i64 i ∧ (∀ j, j < i → Abs.err (max most 0) (Abs.nameAt (·.name) l) (Abs.varErr l s) j = 0) ∧ Ext w w')
    (fun S _ => (l.length - intOf (S 8)).toNat) ⟨0, by omega, by simp -dsimp only [LL,B9,Nat.reduceAdd,Nat.reduceEqDiff,reduceIte,reduceCtorEq,Bool.false_eq_true]; rfl, fun _ h => absurd h (Nat.not_lt_zero _), Ext.refl _⟩ ?_
  rintro S w' hS ⟨i, hi, h8, hall, he⟩
  have h0 := hS 0 rfl; have h1 := hS 1 rfl; have h2 := hS 2 rfl; simp only [upd_at, Nat.reduceAdd, Nat.reduceEqDiff, reduceIte, fr0_cons, fr0_nil] at h0 h1 h2; clear hS
  simp -dsimp only [LL,B9,Nat.reduceAdd,Nat.reduceEqDiff,reduceIte,reduceCtorEq,Bool.false_eq_true,h0, h1, h2, h8]
  refine K.cond (fun g1 => ?_) (fun g1 => ?_)
  rotate_left
  · simp -dsimp only [LL,B9,Nat.reduceAdd,Nat.reduceEqDiff,reduceIte,reduceCtorEq,Bool.false_eq_true,h0, h1, h2, h8]
    rw [Abs.vars, Abs.first_none (fun j hj => hall j (by omega))]
    exact ⟨rfl, he⟩
  have hi' : i < l.length := by omega
  obtain ⟨a, rfl⟩ := hl.addr (by omega)
  have hl' := SlR.ext Abs.RVar.ext he hl
  have hc0 := (hl'.at i hi').cells 0 _ rfl
  have hok : Abs.strOk l[i].name := (hl'.at i hi').ok
  have hnm : Abs.nameAt (fun x : Abs.Var => x.name) l i = l[i].name := nameAt_lt _ _ _ hi'
  simp -dsimp only [LL,B9,Nat.reduceAdd,Nat.reduceEqDiff,reduceIte,reduceCtorEq,Bool.false_eq_true,h0, h1, h2, h8]
  refine K.cond (fun g2 => ?_) (fun g2 => ?_)
  · simp -dsimp only [LL,B9,Nat.reduceAdd,Nat.reduceEqDiff,reduceIte,reduceCtorEq,Bool.false_eq_true,h0, h1, h2, h8]
    rw [Abs.vars, Abs.first_stop hi' hall (by rw [err_many (by omega)]; decide), err_many (by omega)]
    exact ⟨rfl, he⟩
  have hm : ¬ (max most 0 : Int) ≤ (i : Int) := by omega
  simp -dsimp only [LL,B9,Nat.reduceAdd,Nat.reduceEqDiff,reduceIte,reduceCtorEq,Bool.false_eq_true,h0, h1, h2, h8]
  refine K.ian i rfl hi' ?_
  simp -dsimp only [LL,B9,Nat.reduceAdd,Nat.reduceEqDiff,reduceIte,reduceCtorEq,Bool.false_eq_true,h0, h1, h2, h8]
  refine K.ld hc0 ?_
  simp -dsimp only [LL,B9,Nat.reduceAdd,Nat.reduceEqDiff,reduceIte,reduceCtorEq,Bool.false_eq_true,h0, h1, h2, h8]
  refine K.call (rname_r _ _ hok) ?_
  rintro _ w2 ⟨rfl, he2⟩
  simp -dsimp only [LL,B9,Nat.reduceAdd,Nat.reduceEqDiff,reduceIte,reduceCtorEq,Bool.false_eq_true,h0, h1, h2, h8]
  refine K.condb (fun g3 => ?_) (fun g3 => ?_)
  rotate_left
  · simp -dsimp only [LL,B9,Nat.reduceAdd,Nat.reduceEqDiff,reduceIte,reduceCtorEq,Bool.false_eq_true,h0, h1, h2, h8]
    rw [← hnm] at g3
    rw [Abs.vars, Abs.first_stop hi' hall (by rw [err_name hm g3]; decide), err_name hm g3]
    exact ⟨rfl, he.trans he2⟩
  have g3' := g3
  rw [← hnm] at g3'
  replace he2 := he.trans he2
  clear he hl'
  simp -dsimp only [LL,B9,Nat.reduceAdd,Nat.reduceEqDiff,reduceIte,reduceCtorEq,Bool.false_eq_true,h0, h1, h2, h8]
  refine K.loop (fun S' w' => ∃ k : Nat, k ≤ i ∧ S' 9 = .int .i64 k ∧ (∀ j, j < k → Abs.nameAt (fun x : Abs.Var => x.name) l j ≠ Abs.nameAt (fun x : Abs.Var => x.name) l i) ∧ Ext w w')
    (fun S _ => (i - intOf (S 9)).toNat) ⟨0, by omega, by simp -dsimp only [LL,B9,Nat.reduceAdd,Nat.reduceEqDiff,reduceIte,reduceCtorEq,Bool.false_eq_true]; rfl, fun _ h => absurd h (Nat.not_lt_zero _), he2⟩ ?_
  rintro S2 w3 hS2 ⟨k, hk, h9, hne, he3⟩
  have o0 := h0; have o1 := h1; have o2 := h2; have o8 := h8
  have h0 := hS2 0 rfl; have h1 := hS2 1 rfl; have h2 := hS2 2 rfl; have h8 := hS2 8 rfl; simp only [upd_at, Nat.reduceAdd, Nat.reduceEqDiff, reduceIte, fr0_cons, fr0_nil] at h0 h1 h2 h8; clear hS2
  rw [o0] at h0; rw [o1] at h1; rw [o2] at h2; rw [o8] at h8
  have hl' := SlR.ext Abs.RVar.ext he3 hl
  have hc0 := (hl'.at i hi').cells 0 _ rfl
  simp -dsimp only [LL,B9,Nat.reduceAdd,Nat.reduceEqDiff,reduceIte,reduceCtorEq,Bool.false_eq_true,h0, h1, h2, h8, h9]
  refine K.cond (fun g4 => ?_) (fun g4 => ?_)
  · have hk' : k < l.length := by omega
    have hck := (hl'.at k hk').cells 0 _ rfl
    have hnk : Abs.nameAt (fun x : Abs.Var => x.name) l k = l[k].name := nameAt_lt _ _ _ hk'
    simp -dsimp only [LL,B9,Nat.reduceAdd,Nat.reduceEqDiff,reduceIte,reduceCtorEq,Bool.false_eq_true,h0, h1, h2, h8, h9]
    refine K.ian k rfl hk' ?_
    simp -dsimp only [LL,B9,Nat.reduceAdd,Nat.reduceEqDiff,reduceIte,reduceCtorEq,Bool.false_eq_true,h0, h1, h2, h8, h9]
    refine K.ld hck ?_
    simp -dsimp only [LL,B9,Nat.reduceAdd,Nat.reduceEqDiff,reduceIte,reduceCtorEq,Bool.false_eq_true,h0, h1, h2, h8, h9]
    refine K.ian i rfl hi' ?_
    simp -dsimp only [LL,B9,Nat.reduceAdd,Nat.reduceEqDiff,reduceIte,reduceCtorEq,Bool.false_eq_true,h0, h1, h2, h8, h9]
    refine K.ld hc0 ?_
    simp -dsimp only [LL,B9,Nat.reduceAdd,Nat.reduceEqDiff,reduceIte,reduceCtorEq,Bool.false_eq_true,h0, h1, h2, h8, h9]
    intro w4 he4
    refine K.cond (fun g5 => ?_) (fun g5 => ?_)
    · simp -dsimp only [LL,B9,Nat.reduceAdd,Nat.reduceEqDiff,reduceIte,reduceCtorEq,Bool.false_eq_true,h0, h1, h2, h8, h9]
      have ht := err_twice (mo := Abs.varErr l s) hm g3' (show k < i by omega) (by rw [hnk, hnm]; exact g5)
      rw [Abs.vars, Abs.first_stop hi' hall (by rw [ht]; decide), ht]
      exact ⟨rfl, he3.trans he4⟩
    · simp -dsimp only [LL,B9,Nat.reduceAdd,Nat.reduceEqDiff,reduceIte,reduceCtorEq,Bool.false_eq_true,h0, h1, h2, h8, h9]
      refine K.wrap (by omega) ?_
      simp -dsimp only [LL,B9,Nat.reduceAdd,Nat.reduceEqDiff,reduceIte,reduceCtorEq,Bool.false_eq_true,h0, h1, h2, h8, h9]
      refine ⟨⟨k + 1, by omega, rfl, fun j hj => ?_, he3.trans he4⟩, by simp [intOf]; omega⟩
      by_cases hjk : j < k
      · exact hne j hjk
      · have : j = k := by omega
        subst this; rw [hnk, hnm]; exact g5
  have herr := err_own (mo := Abs.varErr l s) hm g3' (fun j hj => hne j (by omega))
  rw [varErr_eq l s i hi'] at herr
  have hs' := SlR.ext Abs.RScalar.ext he3 hs
  have hci := (hl'.at i hi').cells
  generalize l[i] = x at hci herr
  simp -dsimp only [LL,B9,Nat.reduceAdd,Nat.reduceEqDiff,reduceIte,reduceCtorEq,Bool.false_eq_true,h0, h1, h2, h8, h9]
  refine K.ian i rfl hi' ?_
  simp -dsimp only [LL,B9,Nat.reduceAdd,Nat.reduceEqDiff,reduceIte,reduceCtorEq,Bool.false_eq_true,h0, h1, h2, h8, h9]
  refine K.ldA hci rfl ?_
  simp -dsimp only [LL,B9,Nat.reduceAdd,Nat.reduceEqDiff,reduceIte,reduceCtorEq,Bool.false_eq_true,h0, h1, h2, h8, h9]
  refine K.call (refVariable_r x _ s _ hs') ?_
  rintro _ w4 ⟨rfl, he4⟩
  replace he4 := he3.trans he4
  simp -dsimp only [LL,B9,Nat.reduceAdd,Nat.reduceEqDiff,reduceIte,reduceCtorEq,Bool.false_eq_true,h0, h1, h2, h8, h9]
  refine K.cond (fun g6 => ?_) (fun g6 => ?_)
  rotate_left
  · simp -dsimp only [LL,B9,Nat.reduceAdd,Nat.reduceEqDiff,reduceIte,reduceCtorEq,Bool.false_eq_true,h0, h1, h2, h8, h9]
    rw [Abs.vars, Abs.first_stop hi' hall (by rw [herr]; exact g6), herr]
    exact ⟨rfl, he4⟩
  · simp -dsimp only [LL,B9,Nat.reduceAdd,Nat.reduceEqDiff,reduceIte,reduceCtorEq,Bool.false_eq_true,h0, h1, h2, h8, h9]
    rw [g6] at herr
    refine K.wrap (by omega) ?_
    simp -dsimp only [LL,B9,Nat.reduceAdd,Nat.reduceEqDiff,reduceIte,reduceCtorEq,Bool.false_eq_true,h0, h1, h2, h8, h9]
    refine ⟨⟨i + 1, by omega, rfl, fun j hj => ?_, he4⟩, by simp [intOf, o8]; omega⟩
    by_cases hji : j < i
    · exact hall j hji
    · have : j = i := by omega
      subst this; exact herr
end Go.Proofs.YtbbaokmelkiemaaGreatDoor
end
section
/- What the reference says of processes. (Draft of session 4.) -/
set_option maxRecDepth 8000
set_option maxHeartbeats 16000000
namespace Go.Proofs.YtbbaokmelkiemaaGreatDoor
open Go Go.RowKit Lite
theorem rpcheck_r (p : Abs.Proc) (pcs cs : List Value) (s : Abs.Scope) (w : World) (hp : Abs.ProcIs w pcs p) (h : Abs.ScopeIs w cs s) (hg : s.good) (hpg : p.good) :
    Ret Tryz.prog F.lariatref14_Check #[.agg pcs.toArray, .agg cs.toArray] w fun v w' => v = .tuple #[.int .i64 (Abs.procCheck p s).1, .int .i64 (Abs.procCheck p s).2.1, .int .i64 (Abs.procCheck p s).2.2] ∧ Ext w w' := by
  obtain ⟨a0, c0, a1, c1, a2, c2, a3, d3, a4, d4, rfl, h0, h1, h2, h3, h4, l0, l1, l2, l3, l4⟩ := h.form
  obtain ⟨hn, pv, pc, rfl, hv, hcm⟩ := hp
  obtain ⟨o3, c3, rfl, lv⟩ := hv.form
  obtain ⟨o4, c4, rfl, lc⟩ := hcm.form
  refine K.start hmix E.lariatref14_Check (args := [_, _]) (Nat.le_of_ble_eq_true rfl) ?_; dsimp only [C.lariatref14_Check,yt,yi,yb,yp,yr,ye,yc,yv,yg,ym,yw,ya,yl,yx,ys,yn]
  refine Sg ?_
  intro w1 b1 hb1 he1 hc1
  refine Sg ?_
  intro w2 b2 hb2 he2 hc2
  replace hc1 := he2.obj hc1
  have E2 : ∀ {w'}, Ext w2 w' → Ext w w' := fun e => (he1.trans he2).trans e
  refine Sg ?_
  refine K.call (rname_r p.name w2 hn) ?_
  rintro u w3 ⟨hu, he3⟩
  replace hc1 := he3.obj hc1
  replace hc2 := he3.obj hc2
  have E3 : ∀ {w'}, Ext w3 w' → Ext w w' := fun e => E2 (he3.trans e)
  have hd : ∀ n, Abs.whole p s = n → n ≠ 0 → Abs.procCheck p s = (0, 0, n) := fun n e h0 => by unfold Abs.procCheck; rw [e, if_pos h0]
  cases hnm : Abs.isName p.name with
  | false =>
    rw [hnm] at hu
    subst hu
    refine Sg ?_
    exact ⟨by rw [hd 6 (by unfold Abs.whole; rw [if_pos hnm]) (by decide)], E3 (Ext.refl _)⟩
  | true =>
    rw [hnm] at hu
    subst hu
    have hnn : ¬ Abs.isName p.name = false := by rw [hnm]; simp
    refine Sg ?_
    refine K.cond (fun g1 => ?_) (fun g1 => ?_)
    · refine Sg ?_
      exact ⟨by rw [hd 8 (by unfold Abs.whole; rw [if_neg hnn, if_pos (.inl g1)]) (by decide)], E3 (Ext.refl _)⟩
    refine Sg ?_
    refine K.cond (fun g2 => ?_) (fun g2 => ?_)
    · refine Sg ?_
      exact ⟨by rw [hd 8 (by unfold Abs.whole; rw [if_neg hnn, if_pos (.inr (by omega))]) (by decide)], E3 (Ext.refl _)⟩
    have n1 : ¬ (p.over < 0 ∨ (s.scalars.length : Int) < p.over) := by omega
    refine Sg ?_
    refine K.cond (fun g3 => ?_) (fun g3 => ?_)
    · refine Sg ?_
      exact ⟨by rw [hd 10 (by unfold Abs.whole; rw [if_neg hnn, if_neg n1, if_pos (.inl g3)]) (by decide)], E3 (Ext.refl _)⟩
    refine Sg ?_
    refine K.cond (fun g4 => ?_) (fun g4 => ?_)
    · refine Sg ?_
      exact ⟨by rw [hd 10 (by unfold Abs.whole; rw [if_neg hnn, if_neg n1, if_pos (.inr (by omega))]) (by decide)], E3 (Ext.refl _)⟩
    have n2 : ¬ (p.locs < 1 ∨ 12 < p.locs) := by omega
    refine Sg ?_
    refine K.cond (fun g5 => ?_) (fun g5 => ?_)
    · refine Sg ?_
      exact ⟨by rw [hd 11 (by unfold Abs.whole; rw [if_neg hnn, if_neg n1, if_neg n2, if_pos (by omega)]) (by decide)], E3 (Ext.refl _)⟩
    have hr : Abs.procCheck p s = if (Abs.plocals p s).2 ≠ 0 then (1, (Abs.plocals p s).1, (Abs.plocals p s).2) else Abs.cmdsE (Abs.inner p s) p.locs p.cmds p.cmds 0 := by
      unfold Abs.procCheck
      rw [if_neg]
      unfold Abs.whole
      rw [if_neg hnn, if_neg n1, if_neg n2, if_neg (by omega)]
      simp
    clear hd
    refine Sg ?_
    refine K.call (refVars_r _ _ p.vars s.scalars 4 w3 (hv.ext (E3 (Ext.refl _))) (h0.ext (E3 (Ext.refl _)))) ?_
    rintro _ w4 ⟨rfl, he4⟩
    replace hc1 := he4.obj hc1
    replace hc2 := he4.obj hc2
    have E4 : ∀ {w'}, Ext w4 w' → Ext w w' := fun e => E3 (he4.trans e)
    refine Sg ?_
    refine K.cond (fun g6 => ?_) (fun g6 => ?_)
    rotate_left
    · have hl : Abs.plocals p s = Abs.vars p.vars s.scalars 4 := by unfold Abs.plocals; rw [if_pos g6]
      rw [hl, if_pos g6] at hr
      refine Sg ?_
      exact ⟨by rw [hr], E4 (Ext.refl _)⟩
    have hl : Abs.plocals p s = Abs.localsE s p.vars 0 := by unfold Abs.plocals; rw [if_neg (by simpa using g6)]
    rw [hl] at hr
    refine Sg ?_
    refine K.forG 9 p.vars.length [2, 3] (fun _ : Unit => []) () (fun k _ w' => Ext w4 w' ∧ Abs.localsE s p.vars 0 = Abs.localsE s (p.vars.drop k) k) (by first | trivial | rfl | exact ⟨rfl, trivial⟩ | (simp -dsimp only [LL,slots_nil,slots_cons,keepV_nil,keepV_cons,has_nil,has_cons,Nat.reduceAdd,Nat.reduceEqDiff,reduceIte,and_self]; done) | (simp -dsimp only [LL,slots_nil,slots_cons,keepV_nil,keepV_cons,has_nil,has_cons,Nat.reduceAdd,Nat.reduceEqDiff,reduceIte,and_self]; exact ⟨rfl, trivial⟩)) (by first | trivial | rfl | exact ⟨rfl, trivial⟩ | (simp -dsimp only [LL,slots_nil,slots_cons,keepV_nil,keepV_cons,has_nil,has_cons,Nat.reduceAdd,Nat.reduceEqDiff,reduceIte,and_self]; done) | (simp -dsimp only [LL,slots_nil,slots_cons,keepV_nil,keepV_cons,has_nil,has_cons,Nat.reduceAdd,Nat.reduceEqDiff,reduceIte,and_self]; exact ⟨rfl, trivial⟩)) ⟨Ext.refl _, by simp⟩ ?_
    rintro k _ S w5 hk ⟨he5, hI⟩
    replace hc1 := he5.obj hc1
    replace hc2 := he5.obj hc2
    refine Sg ?_
    refine K.cond (fun g7 => ?_) (fun g7 => ?_)
    · have hk' : k < p.vars.length := by omega
      obtain ⟨a, rfl⟩ := hv.addr (by omega)
      have hcv := ((hv.at k hk').cells).ext (E4 he5)
      rw [Abs.localsE_drop hk'] at hI
      refine Sg ?_
      refine K.cond (fun g8 => ?_) (fun g8 => ?_)
      rotate_left
      · rw [if_pos g8] at hI
        refine Sg ?_
        exact ⟨by rw [hr, hI]; rfl, E4 he5⟩
      rw [if_neg (by simpa using g8)] at hI
      refine Sg ?_
      refine K.forG 10 s.vars.length [2, 3, 9] (fun _ : Unit => []) () (fun j _ w' => Ext w5 w' ∧ ∀ t (ht : t < s.vars.length), t < j → ¬ s.vars[t].name = p.vars[k].name) (by first | trivial | rfl | exact ⟨rfl, trivial⟩ | (simp -dsimp only [LL,slots_nil,slots_cons,keepV_nil,keepV_cons,has_nil,has_cons,Nat.reduceAdd,Nat.reduceEqDiff,reduceIte,and_self]; done) | (simp -dsimp only [LL,slots_nil,slots_cons,keepV_nil,keepV_cons,has_nil,has_cons,Nat.reduceAdd,Nat.reduceEqDiff,reduceIte,and_self]; exact ⟨rfl, trivial⟩)) (by first | trivial | rfl | exact ⟨rfl, trivial⟩ | (simp -dsimp only [LL,slots_nil,slots_cons,keepV_nil,keepV_cons,has_nil,has_cons,Nat.reduceAdd,Nat.reduceEqDiff,reduceIte,and_self]; done) | (simp -dsimp only [LL,slots_nil,slots_cons,keepV_nil,keepV_cons,has_nil,has_cons,Nat.reduceAdd,Nat.reduceEqDiff,reduceIte,and_self]; exact ⟨rfl, trivial⟩)) ⟨Ext.refl _, fun _ _ h => absurd h (Nat.not_lt_zero _)⟩ ?_
      rintro j _ S' w6 hj ⟨he6, hJ⟩
      replace hc1 := he6.obj hc1
      replace hc2 := he6.obj hc2
      have E6 : ∀ {w'}, Ext w6 w' → Ext w w' := fun e => E4 ((he5.trans he6).trans e)
      refine Sg ?_
      refine K.cond (fun g9 => ?_) (fun g9 => ?_)
      · have hj' : j < s.vars.length := by omega
        obtain ⟨a', rfl⟩ := h1.addr (by omega)
        have hcs := ((h1.at j hj').cells).ext (E6 (Ext.refl _))
        replace hcv := hcv.ext he6
        refine Sg ?_
        intro w7 he7
        replace hc1 := he7.obj hc1
        replace hc2 := he7.obj hc2
        refine Sg ?_
        refine K.cond (fun g10 => ?_) (fun g10 => ?_)
        · have hany : s.vars.any (fun x => decide (x.name = p.vars[k].name)) = true := List.any_eq_true.2 ⟨s.vars[j], List.getElem_mem _, by simpa using g10⟩
          rw [if_pos hany] at hI
          refine Sg ?_
          exact ⟨by rw [hr, hI]; rfl, E6 he7⟩
        · refine Sg ?_
          exact ⟨hj', by first | trivial | rfl, (), trivial, he6.trans he7, fun t ht h => by
            by_cases e : t = j
            · subst e; exact g10
            · exact hJ t ht (by omega)⟩
      · have hany : ¬ s.vars.any (fun x => decide (x.name = p.vars[k].name)) = true := by
          intro hh
          obtain ⟨x, hx, hx2⟩ := List.any_eq_true.1 hh
          obtain ⟨t, ht, rfl⟩ := List.mem_iff_getElem.1 hx
          exact hJ t ht (by omega) (by simpa using hx2)
        rw [if_neg hany] at hI
        refine Sg ?_
        exact ⟨hk', by first | trivial | rfl, (), trivial, he5.trans he6, hI⟩
    rw [List.drop_eq_nil_of_le (by omega)] at hI
    replace hr : Abs.procCheck p s = Abs.cmdsE (Abs.inner p s) p.locs p.cmds p.cmds 0 := by rw [hr, hI]; rfl
    clear hI hl
    have hin : ∀ w', Ext w w' → Abs.ScopeIs w' [.slice a0 s.scalars.length c0, .slice a1 s.vars.length c1, .slice a2 s.chans.length c2, .slice a3 s.procs.length d3, .slice o3 p.vars.length c3, .int .i64 p.over] (Abs.inner p s) := fun w' e =>
      ⟨(hg.inner hpg).sm.1, _, _, _, _, _, rfl, h0.ext e, h1.ext e, h2.ext e, h3.ext e, hv.ext e, (hg.inner hpg).sm.2⟩
    refine Sg ?_
    intro w6 b3 hb3 he6 hc3
    replace hc1 := he6.obj hc1
    replace hc2 := he6.obj hc2
    have E6 : ∀ {w'}, Ext w6 w' → Ext w w' := fun e => E4 ((he5.trans he6).trans e)
    refine Sg ?_
    refine K.forG 12 p.cmds.length [2, 3, 11] (fun _ : Unit => []) () (fun k _ w' => Ext w6 w' ∧ Abs.cmdsE (Abs.inner p s) p.locs p.cmds p.cmds 0 = Abs.cmdsE (Abs.inner p s) p.locs p.cmds (p.cmds.drop k) k) (by first | trivial | rfl | exact ⟨rfl, trivial⟩ | (simp -dsimp only [LL,slots_nil,slots_cons,keepV_nil,keepV_cons,has_nil,has_cons,Nat.reduceAdd,Nat.reduceEqDiff,reduceIte,and_self]; done) | (simp -dsimp only [LL,slots_nil,slots_cons,keepV_nil,keepV_cons,has_nil,has_cons,Nat.reduceAdd,Nat.reduceEqDiff,reduceIte,and_self]; exact ⟨rfl, trivial⟩)) (by first | trivial | rfl | exact ⟨rfl, trivial⟩ | (simp -dsimp only [LL,slots_nil,slots_cons,keepV_nil,keepV_cons,has_nil,has_cons,Nat.reduceAdd,Nat.reduceEqDiff,reduceIte,and_self]; done) | (simp -dsimp only [LL,slots_nil,slots_cons,keepV_nil,keepV_cons,has_nil,has_cons,Nat.reduceAdd,Nat.reduceEqDiff,reduceIte,and_self]; exact ⟨rfl, trivial⟩)) ⟨Ext.refl _, by simp⟩ ?_

    rintro k _ S w7 hk ⟨he7, hI⟩
    replace hc1 := he7.obj hc1
    replace hc2 := he7.obj hc2
    replace hc3 := he7.obj hc3
    have E7 : ∀ {w'}, Ext w7 w' → Ext w w' := fun e => E6 (he7.trans e)
    refine Sg ?_
    refine K.cond (fun g7 => ?_) (fun g7 => ?_)
    · have hk' : k < p.cmds.length := by omega
      obtain ⟨a, rfl⟩ := hcm.addr (by omega)
      obtain ⟨hs, vg, va, hcc, hvg, hva⟩ := hcm.at k hk'
      obtain ⟨og, cg, rfl, lg⟩ := hvg.form
      obtain ⟨oa, ca, rfl, la⟩ := hva.form
      rw [Abs.cmdsE_drop hk'] at hI
      replace hcc := hcc.ext (E7 (Ext.refl _))
      refine Sg ?_
      refine K.qfn (.tuple #[.int .i64 (Abs.cmdCheck p.cmds[k] p.locs (Abs.inner p s)).1, .int .i64 (Abs.cmdCheck p.cmds[k] p.locs (Abs.inner p s)).2]) (fun w' e => rcheck_r p.cmds[k] _ _ p _ _ _ (Abs.inner p s) w' hs (hvg.ext (E7 e)) (hva.ext (E7 e)) (hv.ext (E7 e)) (hcm.ext (E7 e)) (hin _ (E7 e))) ?_
      refine Sg ?_
      intro w8 he8
      replace hc1 := he8.obj hc1
      replace hc2 := he8.obj hc2
      replace hc3 := he8.obj hc3
      replace hcc := hcc.ext he8
      have E8 : ∀ {w'}, Ext w8 w' → Ext w w' := fun e => E7 (he8.trans e)
      refine Sg ?_
      refine K.cond (fun g8 => ?_) (fun g8 => ?_)
      rotate_left
      · rw [if_pos g8] at hI
        refine Sg ?_
        exact ⟨by rw [hr, hI], E8 (Ext.refl _)⟩
      rw [if_neg (by simpa using g8)] at hI
      refine Sg ?_
      refine K.forG 15 k [2, 3, 11, 12] (fun _ : Unit => []) () (fun j _ w' => Ext w8 w' ∧ ∀ t (ht : t < p.cmds.length), t < j → ¬ p.cmds[t].name = p.cmds[k].name) (by first | trivial | rfl | exact ⟨rfl, trivial⟩ | (simp -dsimp only [LL,slots_nil,slots_cons,keepV_nil,keepV_cons,has_nil,has_cons,Nat.reduceAdd,Nat.reduceEqDiff,reduceIte,and_self]; done) | (simp -dsimp only [LL,slots_nil,slots_cons,keepV_nil,keepV_cons,has_nil,has_cons,Nat.reduceAdd,Nat.reduceEqDiff,reduceIte,and_self]; exact ⟨rfl, trivial⟩)) (by first | trivial | rfl | exact ⟨rfl, trivial⟩ | (simp -dsimp only [LL,slots_nil,slots_cons,keepV_nil,keepV_cons,has_nil,has_cons,Nat.reduceAdd,Nat.reduceEqDiff,reduceIte,and_self]; done) | (simp -dsimp only [LL,slots_nil,slots_cons,keepV_nil,keepV_cons,has_nil,has_cons,Nat.reduceAdd,Nat.reduceEqDiff,reduceIte,and_self]; exact ⟨rfl, trivial⟩)) ⟨Ext.refl _, fun _ _ h => absurd h (Nat.not_lt_zero _)⟩ ?_
      rintro j _ S' w9 hj ⟨he9, hJ⟩
      replace hc1 := he9.obj hc1
      replace hc2 := he9.obj hc2
      replace hc3 := he9.obj hc3
      have E9 : ∀ {w'}, Ext w9 w' → Ext w w' := fun e => E8 (he9.trans e)
      refine Sg ?_
      refine K.cond (fun g9 => ?_) (fun g9 => ?_)
      · have hj' : j < p.cmds.length := by omega
        obtain ⟨_, vg', va', hcj, _, _⟩ := hcm.at j hj'
        replace hcj := hcj.ext (E9 (Ext.refl _))
        replace hcc := hcc.ext he9
        refine Sg ?_
        intro w10 he10
        replace hc1 := he10.obj hc1
        replace hc2 := he10.obj hc2
        replace hc3 := he10.obj hc3
        refine Sg ?_
        refine K.cond (fun g10 => ?_) (fun g10 => ?_)
        · have hany : (p.cmds.take k).any (fun x => decide (x.name = p.cmds[k].name)) = true := List.any_eq_true.2 ⟨p.cmds[j], by rw [List.mem_iff_getElem]; exact ⟨j, by simp; omega, by simp⟩, by simpa using g10⟩
          rw [if_pos hany] at hI
          refine Sg ?_
          exact ⟨by rw [hr, hI], E9 he10⟩
        · refine Sg ?_
          exact ⟨by omega, by first | trivial | rfl, (), trivial, he9.trans he10, fun t ht h => by
            by_cases e : t = j
            · subst e; exact g10
            · exact hJ t ht (by omega)⟩
      · have hany : ¬ (p.cmds.take k).any (fun x => decide (x.name = p.cmds[k].name)) = true := by
          intro hh
          obtain ⟨x, hx, hx2⟩ := List.any_eq_true.1 hh
          obtain ⟨t, ht, rfl⟩ := List.mem_iff_getElem.1 hx
          have ht2 : t < k ∧ t < p.cmds.length := by simp at ht; omega
          exact hJ t ht2.2 (by omega) (by simpa using hx2)
        rw [if_neg hany] at hI
        refine Sg ?_
        exact ⟨hk', by first | trivial | rfl, (), trivial, (he7.trans he8).trans he9, hI⟩
    · rw [List.drop_eq_nil_of_le (by omega)] at hI
      refine Sg ?_
      exact ⟨by rw [hr, hI]; rfl, E7 (Ext.refl _)⟩
end Go.Proofs.YtbbaokmelkiemaaGreatDoor
end
section
/- Processes: the law on checks, walked. -/
set_option maxRecDepth 8000
set_option maxHeartbeats 16000000
namespace Abs
def loneProc (p : Proc) : Model := ⟨[], [], [], [p], []⟩
end Abs
namespace Go.Proofs.YtbbaokmelkiemaaGreatDoor
open Go Go.RowKit Lite
theorem lawChecks_r (pcs : List Value) (p : Abs.Proc) (cs : List Value) (m : Abs.Model) (w : World) (hp : Abs.ProcIs w pcs p) (hpg : p.good) (h : Abs.ModelIs w cs m) (hg : m.good) (ho : OwnIs w) :
    Ret Tryz.prog F.lariatlaw14_ProcChecks #[.agg pcs.toArray, .agg cs.toArray] w fun v w' => v = .bool true ∧ Ext w w' := by
  obtain ⟨o0, c0, o1, c1, o2, c2, o3, c3, o4, c4, rfl, _⟩ := h.form
  obtain ⟨hn, pv, pc, rfl, hv, hcm⟩ := hp
  obtain ⟨q3, d3, rfl, lv⟩ := hv.form
  obtain ⟨q4, d4, rfl, lc⟩ := hcm.form
  refine K.start hmix E.lariatlaw14_ProcChecks (args := [_, _]) (Nat.le_of_ble_eq_true rfl) ?_; dsimp only [C.lariatlaw14_ProcChecks,yt,yi,yb,yp,yr,ye,yc,yv,yg,ym,yw,ya,yl,yx,ys,yn]
  refine Sg ?_
  intro w1 b1 hb1 he1 hc1
  refine Sg ?_
  intro w2 b2 hb2 he2 hc2
  replace hc1 := he2.obj hc1
  have E2 : ∀ {w'}, Ext w2 w' → Ext w w' := fun e => (he1.trans he2).trans e
  refine Sg ?_
  refine K.call (heavy_r _ m w2 (h.ext (E2 (Ext.refl _)))) ?_
  rintro _ w3 ⟨hv3, he3⟩
  replace hc1 := he3.obj hc1
  replace hc2 := he3.obj hc2
  have E3 : ∀ {w'}, Ext w3 w' → Ext w w' := fun e => E2 (he3.trans e)
  rcases hv3 with rfl | ⟨rfl, hH⟩
  · refine Sg ?_
    refine K.call (pworks_r w3 (ho.ext (E3 (Ext.refl _)))) ?_
    rintro _ w4 ⟨rfl, he4⟩
    refine Sg ?_
    exact ⟨by first | trivial | rfl, E3 he4⟩
  refine Sg ?_
  intro w4 b3 hb3 he4 hc4
  replace hc1 := he4.obj hc1
  replace hc2 := he4.obj hc2
  have E4 : ∀ {w'}, Ext w4 w' → Ext w w' := fun e => E3 (he4.trans e)
  have hone : Abs.ModelIs w4 [.slice none 0 0, .slice none 0 0, .slice none 0 0, .slice (some ⟨b3, 0, none⟩) 1 1, .slice none 0 0] (Abs.loneProc p) := ⟨_, _, _, _, _, rfl, SlR.nil, SlR.nil, SlR.nil, SlR.blkC [⟨p.enc (.slice q3 p.vars.length d3) (.slice q4 p.cmds.length d4), rfl, by simp [Abs.Proc.enc, Value.oneCell']⟩] hc4 rfl rfl rfl (Nat.le_of_ble_eq_true rfl) (by
    intro i h1 h2
    have : i = 0 := by simp at h1; omega
    subst this
    exact ⟨hn, _, _, rfl, hv.ext (E4 (Ext.refl _)), hcm.ext (E4 (Ext.refl _))⟩), SlR.nil⟩
  refine Sg ?_
  refine K.call (heavy_r _ (Abs.loneProc p) w4 hone) ?_
  rintro _ w5 ⟨hv5, he5⟩
  replace hc1 := he5.obj hc1
  replace hc2 := he5.obj hc2
  have E5 : ∀ {w'}, Ext w5 w' → Ext w w' := fun e => E4 (he5.trans e)
  rcases hv5 with rfl | ⟨rfl, hH1⟩
  · refine Sg ?_
    refine K.call (pworks_r w5 (ho.ext (E5 (Ext.refl _)))) ?_
    rintro _ w6 ⟨rfl, he6⟩
    refine Sg ?_
    exact ⟨by first | trivial | rfl, E5 he6⟩
  clear hone hc4 hH hH1
  refine Sg ?_
  refine K.call (refScope_r (w0 := w) _ m (-1) w5 h (E5 (Ext.refl _)) hg) ?_
  rintro _ w6 ⟨⟨cs', rfl, hsc⟩, he6⟩
  replace hc1 := he6.obj hc1
  replace hc2 := he6.obj hc2
  have E6 : ∀ {w'}, Ext w6 w' → Ext w w' := fun e => E5 (he6.trans e)
  obtain ⟨x0, y0, x1, y1, x2, y2, x3, y3, x4, y4, rfl, _⟩ := (hsc _ (E6 (Ext.refl _))).form
  refine Sg ?_
  intro w7 b5 hb5 he7 hc7
  replace hc1 := he7.obj hc1
  have E7 : ∀ {w'}, Ext w7 w' → Ext w w' := fun e => E6 (he7.trans e)
  have hpr : ∀ w', Ext w w' → Abs.ProcIs w' (p.enc (.slice q3 p.vars.length d3) (.slice q4 p.cmds.length d4)) p := fun w' e => ⟨hn, _, _, rfl, hv.ext e, hcm.ext e⟩
  refine Sg ?_
  refine K.call (pcheck_r p _ _ (Abs.pscope m (-1)) w7 (ho.ext (E7 (Ext.refl _))) (hpr _ (E7 (Ext.refl _))) (hsc _ (E7 (Ext.refl _))) (hg.pscope _) hpg) ?_
  rintro _ w8 ⟨rfl, he8⟩
  replace hc1 := he8.obj hc1
  replace hc7 := he8.obj hc7
  have E8 : ∀ {w'}, Ext w8 w' → Ext w w' := fun e => E7 (he8.trans e)
  refine Sg ?_
  refine K.call (rpcheck_r p _ _ (Abs.pscope m (-1)) w8 (hpr _ (E8 (Ext.refl _))) (hsc _ (E8 (Ext.refl _))) (hg.pscope _) hpg) ?_
  rintro _ w9 ⟨rfl, he9⟩
  have E9 : ∀ {w'}, Ext w9 w' → Ext w w' := fun e => E8 (he9.trans e)
  refine Sg ?_
  refine K.call (pworks_r w9 (ho.ext (E9 (Ext.refl _)))) ?_
  rintro _ w10 ⟨rfl, he10⟩
  refine Sg ?_
  exact ⟨by first | trivial | rfl, E9 he10⟩
end Go.Proofs.YtbbaokmelkiemaaGreatDoor
end
section
/- The walk of the law on checks, from what its arguments are. -/
set_option maxRecDepth 4000
namespace Go.Proofs.YtbbaokmelkiemaaGreatDoor
open Go Go.RowKit Lite Go.ChangeShapes Go.WideShapes Go.Deep
theorem walk_ProcChecks {H : Type} {enc : TypeId × Value → H} {r : Reach} {b0 : Nat} {d0 d1 : DataW H} {p0 p1 : List MemPlace} (v0 v1 : Value) (W : World) (ho : OwnIs W)
    (k0 : Value.okWide Tryz.prog W r b0 T.api_Proc v0) (h0 : DataW.Trod enc Tryz.prog W 0 (fun _ => true) true T.api_Proc v0 d0 p0) (s0 : Small Tryz.prog T.api_Proc d0)
    (k1 : Value.okWide Tryz.prog W r b0 T.api_Model v1) (h1 : DataW.Trod enc Tryz.prog W 0 (fun _ => true) true T.api_Model v1 d1 p1) (s1 : Small Tryz.prog T.api_Model d1) :
    Ret Tryz.prog F.lariatlaw14_ProcChecks #[v0, v1] W fun v w' => v = .bool true ∧ Ext W w' := by
  obtain ⟨pcs, p, rfl, hp, hpg⟩ := open_proc k0 h0 s0
  obtain ⟨cs, m, rfl, hm, hg⟩ := open_modelG k1 h1 s1
  exact lawChecks_r pcs p cs m W hp hpg hm hg ho
end Go.Proofs.YtbbaokmelkiemaaGreatDoor
end
