/- Texts joined: DeclS DeclU DeclV DeclW ModI ModB ModC RefP ExprT ExprG ExprH ExprI. -/
import Derived.Test.YtpaahhleopalaaaGreatDoorQd
import Derived.Test.YtpaahhleopalaaaGreatDoorQf
import Derived.Test.YtpaahhleopalaaaGreatDoorQg
import Derived.Test.YtpaahhleopalaaaGreatDoorQh
import Derived.Test.YtpaahhleopalaaaGreatDoorQi
set_option linter.all false
section
/- What the references of layer 9 compute of names. -/
set_option maxRecDepth 4000
set_option linter.unusedSimpArgs false
set_option maxHeartbeats 1000000
namespace Go.Proofs.YtpaahhleopalaaaGreatDoor
open Go Go.RowKit Lite

theorem rletter_r (n : Int) (w : World) : Ret Tryz.prog F.lariatref09_letter #[.int .u8 n] w fun v w' => v = .bool (Abs.letter n) ∧ w' = w := by
  refine K.start hmix E.lariatref09_letter (args := [_]) (Nat.le_of_ble_eq_true rfl) ?_
  dsimp only [C.lariatref09_letter]; refine Yy ?_
  (repeat' first
    | (refine K.cond (fun _ => ?_) (fun _ => ?_) <;> try (exfalso; omega))
    | (refine K.condb (fun _ => ?_) (fun _ => ?_))
    | (refine K.wrap (by omega) ?_)
    | (refine K.ld (by assumption) ?_)
    | (refine K.ia (by omega) ?_)
    | simp -dsimp only [LL,B9,Nat.reduceAdd,Nat.reduceEqDiff,reduceIte,reduceCtorEq,Bool.false_eq_true])
  all_goals (refine ⟨?_, by first | rfl | trivial⟩; congr 1; rw [Bool.eq_iff_iff]; simp [Abs.letter]; omega)
theorem rdigit_r (n : Int) (w : World) : Ret Tryz.prog F.lariatref09_digit #[.int .u8 n] w fun v w' => v = .bool (Abs.digit n) ∧ w' = w := by
  refine K.start hmix E.lariatref09_digit (args := [_]) (Nat.le_of_ble_eq_true rfl) ?_
  dsimp only [C.lariatref09_digit]; refine Yy ?_
  (repeat' first
    | (refine K.cond (fun _ => ?_) (fun _ => ?_) <;> try (exfalso; omega))
    | (refine K.condb (fun _ => ?_) (fun _ => ?_))
    | (refine K.wrap (by omega) ?_)
    | (refine K.ld (by assumption) ?_)
    | (refine K.ia (by omega) ?_)
    | simp -dsimp only [LL,B9,Nat.reduceAdd,Nat.reduceEqDiff,reduceIte,reduceCtorEq,Bool.false_eq_true])
  all_goals (refine ⟨?_, by first | rfl | trivial⟩; congr 1; rw [Bool.eq_iff_iff]; simp [Abs.digit]; omega)
def signL : List ByteArray := [⟨#[58, 61]⟩, ⟨#[61, 61]⟩, ⟨#[33, 61]⟩, ⟨#[60, 61]⟩, ⟨#[45, 62]⟩, ⟨#[38, 38]⟩, ⟨#[124, 124]⟩, ⟨#[61, 62]⟩, ⟨#[40]⟩, ⟨#[41]⟩, ⟨#[91]⟩, ⟨#[93]⟩, ⟨#[123]⟩, ⟨#[125]⟩, ⟨#[59]⟩, ⟨#[44]⟩, ⟨#[58]⟩, ⟨#[46]⟩, ⟨#[60]⟩, ⟨#[43]⟩, ⟨#[45]⟩, ⟨#[42]⟩, ⟨#[33]⟩, ⟨#[63]⟩, ⟨#[64]⟩]
theorem signs_r (w : World) : Ret Tryz.prog F.lariatref09_signs #[] w fun v w' => (∃ b, v = .slice (some ⟨b, 0, none⟩) 25 25 ∧ CellsAt w' ⟨b, 0, none⟩ (signL.map Value.string)) ∧ Ext w w' := by
  refine K.start hmix E.lariatref09_signs (args := []) (Nat.le_of_ble_eq_true rfl) ?_
  dsimp only [C.lariatref09_signs]; refine Yy ?_
  refine Go1 ?_
  refine K.bldSa (cs := signL.map Value.string) (by simp [List.range, List.range.loop, fillC, lay, ev_tmp, ev_const, upd_at, Value.cells, signL]) fun w1 b1 hb1 he1 hc1 => ?_
  refine Go1 ?_
  exact ⟨⟨b1, rfl, cellsAt_blk hc1⟩, he1⟩
theorem begins0_r (s : ByteArray) (w : World) (h : 0 < s.size) (hs : s.size ≤ 16) :
    Ret Tryz.prog F.lariatref09_begins #[.string s, .int .i64 0] w fun v w' => (∃ n k : Int, v = .tuple #[.int .i64 n, .int .i64 k] ∧ if Abs.letter (Abs.byteAt s 0 : Nat) = true then n = Abs.run Abs.part s ∧ k = 1 else k ≠ 1) ∧ Ext w w' := by
  refine K.start hmix E.lariatref09_begins (args := [_, _]) (Nat.le_of_ble_eq_true rfl) ?_
  dsimp only [C.lariatref09_begins]; refine Yy ?_
  refine Go1 ?_
  refine K.ixS (s.get! 0) (by decide) (Abs.get?_eq s 0 h) ?_
  refine Go1 ?_
  refine K.call (rletter_r _ w) ?_
  rintro _ w ⟨rfl, rfl⟩
  refine Go1 ?_
  refine K.condb (fun h1 => ?_) (fun h1 => ?_)
  · have h1' : Abs.letter (Abs.byteAt s 0 : Nat) = true := h1
    refine Go1 ?_
    refine K.loop (fun S w' => ∃ i : Nat, i ≤ s.size ∧ S 6 = .int .i64 i ∧ (∀ j (hj : j < s.size), j < i → Abs.part s[j].toNat = true) ∧ w' = w)
      (fun S _ => (s.size - intOf (S 6)).toNat) ⟨0, by omega, by refine Go1 ?_; rfl, fun _ _ h => absurd h (Nat.not_lt_zero _), rfl⟩ ?_
    rintro S w hS ⟨i, hi, h6, hall, rfl⟩
    have h0 := hS 0 rfl; have h1 := hS 1 rfl; simp only [upd_at, Nat.reduceAdd, Nat.reduceEqDiff, reduceIte, fr0_cons, fr0_nil] at h0 h1; clear hS
    simp -dsimp only [LL,B9,Nat.reduceAdd,Nat.reduceEqDiff,reduceIte,reduceCtorEq,Bool.false_eq_true,h0, h1, h6]
    refine K.cond (fun h2 => ?_) (fun h2 => ?_)
    · have hi' : i < s.size := by omega
      simp -dsimp only [LL,B9,Nat.reduceAdd,Nat.reduceEqDiff,reduceIte,reduceCtorEq,Bool.false_eq_true,h0, h1, h6]
      refine K.ixS (s.get! i) (by omega) (Abs.get?_eq s i hi') ?_
      rw [Abs.get_eq s i hi']
      simp -dsimp only [LL,B9,Nat.reduceAdd,Nat.reduceEqDiff,reduceIte,reduceCtorEq,Bool.false_eq_true,h0, h1, h6]
      refine K.call (rletter_r _ _) ?_
      rintro _ w ⟨rfl, rfl⟩
      simp -dsimp only [LL,B9,Nat.reduceAdd,Nat.reduceEqDiff,reduceIte,reduceCtorEq,Bool.false_eq_true,h0, h1, h6]
      refine K.condb (fun h3 => ?_) (fun h3 => ?_)
      · simp -dsimp only [LL,B9,Nat.reduceAdd,Nat.reduceEqDiff,reduceIte,reduceCtorEq,Bool.false_eq_true,h0, h1, h6]
        refine K.wrap (by omega) ?_
        simp -dsimp only [LL,B9,Nat.reduceAdd,Nat.reduceEqDiff,reduceIte,reduceCtorEq,Bool.false_eq_true,h0, h1, h6]
        refine ⟨⟨i + 1, by omega, rfl, fun j hj hji => ?_, trivial⟩, by simp [intOf]; omega⟩
        by_cases hjj : j < i
        · exact hall j hj hjj
        · have : j = i := by omega
          subst this; simp [Abs.part, h3]
      simp -dsimp only [LL,B9,Nat.reduceAdd,Nat.reduceEqDiff,reduceIte,reduceCtorEq,Bool.false_eq_true,h0, h1, h6]
      refine K.ixS (s.get! i) (by omega) (Abs.get?_eq s i hi') ?_
      rw [Abs.get_eq s i hi']
      simp -dsimp only [LL,B9,Nat.reduceAdd,Nat.reduceEqDiff,reduceIte,reduceCtorEq,Bool.false_eq_true,h0, h1, h6]
      refine K.call (rdigit_r _ _) ?_
      rintro _ w ⟨rfl, rfl⟩
      simp -dsimp only [LL,B9,Nat.reduceAdd,Nat.reduceEqDiff,reduceIte,reduceCtorEq,Bool.false_eq_true,h0, h1, h6]
      refine K.condb (fun h4 => ?_) (fun h4 => ?_)
      · simp -dsimp only [LL,B9,Nat.reduceAdd,Nat.reduceEqDiff,reduceIte,reduceCtorEq,Bool.false_eq_true,h0, h1, h6]
        refine K.wrap (by omega) ?_
        simp -dsimp only [LL,B9,Nat.reduceAdd,Nat.reduceEqDiff,reduceIte,reduceCtorEq,Bool.false_eq_true,h0, h1, h6]
        refine ⟨⟨i + 1, by omega, rfl, fun j hj hji => ?_, trivial⟩, by simp [intOf]; omega⟩
        by_cases hjj : j < i
        · exact hall j hj hjj
        · have : j = i := by omega
          subst this; simp [Abs.part, h4]
      simp -dsimp only [LL,B9,Nat.reduceAdd,Nat.reduceEqDiff,reduceIte,reduceCtorEq,Bool.false_eq_true,h0, h1, h6]
      refine K.ixS (s.get! i) (by omega) (Abs.get?_eq s i hi') ?_
      rw [Abs.get_eq s i hi']
      simp -dsimp only [LL,B9,Nat.reduceAdd,Nat.reduceEqDiff,reduceIte,reduceCtorEq,Bool.false_eq_true,h0, h1, h6]
      refine K.cond (fun h5 => ?_) (fun h5 => ?_)
      · simp -dsimp only [LL,B9,Nat.reduceAdd,Nat.reduceEqDiff,reduceIte,reduceCtorEq,Bool.false_eq_true,h0, h1, h6]
        refine K.wrap (by omega) ?_
        simp -dsimp only [LL,B9,Nat.reduceAdd,Nat.reduceEqDiff,reduceIte,reduceCtorEq,Bool.false_eq_true,h0, h1, h6]
        refine ⟨⟨i + 1, by omega, rfl, fun j hj hji => ?_, trivial⟩, by simp [intOf]; omega⟩
        by_cases hjj : j < i
        · exact hall j hj hjj
        · have : j = i := by omega
          subst this; simp [Abs.part]; omega
      · simp -dsimp only [LL,B9,Nat.reduceAdd,Nat.reduceEqDiff,reduceIte,reduceCtorEq,Bool.false_eq_true,h0, h1, h6]
        refine K.wrap (by omega) ?_
        simp -dsimp only [LL,B9,Nat.reduceAdd,Nat.reduceEqDiff,reduceIte,reduceCtorEq,Bool.false_eq_true,h0, h1, h6]
        refine ⟨⟨_, _, rfl, ?_⟩, Ext.refl _⟩
        rw [if_pos h1']
        rw [Abs.run_stop Abs.part s i hi' (fun j hj => hall j (by omega) hj) (by simp only [Abs.part, h3, h4, Bool.false_or, decide_eq_false_iff_not]; omega)]
        exact ⟨by omega, rfl⟩
    · simp -dsimp only [LL,B9,Nat.reduceAdd,Nat.reduceEqDiff,reduceIte,reduceCtorEq,Bool.false_eq_true,h0, h1, h6]
      refine K.wrap (by omega) ?_
      simp -dsimp only [LL,B9,Nat.reduceAdd,Nat.reduceEqDiff,reduceIte,reduceCtorEq,Bool.false_eq_true,h0, h1, h6]
      refine ⟨⟨_, _, rfl, ?_⟩, Ext.refl _⟩
      rw [if_pos h1']
      rw [Abs.run_all Abs.part s (fun j hj => hall j hj (by omega))]
      exact ⟨by omega, rfl⟩
  have h1' : Abs.letter (Abs.byteAt s 0 : Nat) = false := h1
  have hno : ¬ Abs.letter (Abs.byteAt s 0 : Nat) = true := by simp [h1']
  refine Go1 ?_
  refine K.ixS (s.get! 0) (by decide) (Abs.get?_eq s 0 h) ?_
  refine Go1 ?_
  refine K.call (rdigit_r _ w) ?_
  rintro _ w ⟨rfl, rfl⟩
  refine Go1 ?_
  refine K.condb (fun h2 => ?_) (fun h2 => ?_)
  · refine Go1 ?_
    refine K.loop (fun S w' => ∃ i : Nat, i ≤ s.size ∧ S 6 = .int .i64 i ∧ w' = w)
      (fun S _ => (s.size - intOf (S 6)).toNat) ⟨0, by omega, by refine Go1 ?_; rfl, rfl⟩ ?_
    rintro S w hS ⟨i, hi, h6, rfl⟩
    have h0 := hS 0 rfl; have h1 := hS 1 rfl; simp only [upd_at, Nat.reduceAdd, Nat.reduceEqDiff, reduceIte, fr0_cons, fr0_nil] at h0 h1; clear hS
    simp -dsimp only [LL,B9,Nat.reduceAdd,Nat.reduceEqDiff,reduceIte,reduceCtorEq,Bool.false_eq_true,h0, h1, h6]
    refine K.cond (fun h2 => ?_) (fun h2 => ?_)
    · have hi' : i < s.size := by omega
      simp -dsimp only [LL,B9,Nat.reduceAdd,Nat.reduceEqDiff,reduceIte,reduceCtorEq,Bool.false_eq_true,h0, h1, h6]
      refine K.ixS (s.get! i) (by omega) (Abs.get?_eq s i hi') ?_
      simp -dsimp only [LL,B9,Nat.reduceAdd,Nat.reduceEqDiff,reduceIte,reduceCtorEq,Bool.false_eq_true,h0, h1, h6]
      refine K.call (rdigit_r _ _) ?_
      rintro _ w ⟨rfl, rfl⟩
      simp -dsimp only [LL,B9,Nat.reduceAdd,Nat.reduceEqDiff,reduceIte,reduceCtorEq,Bool.false_eq_true,h0, h1, h6]
      refine K.condb (fun h4 => ?_) (fun h4 => ?_)
      · simp -dsimp only [LL,B9,Nat.reduceAdd,Nat.reduceEqDiff,reduceIte,reduceCtorEq,Bool.false_eq_true,h0, h1, h6]
        refine K.wrap (by omega) ?_
        simp -dsimp only [LL,B9,Nat.reduceAdd,Nat.reduceEqDiff,reduceIte,reduceCtorEq,Bool.false_eq_true,h0, h1, h6]
        exact ⟨⟨i + 1, by omega, rfl, trivial⟩, by simp [intOf]; omega⟩
      · simp -dsimp only [LL,B9,Nat.reduceAdd,Nat.reduceEqDiff,reduceIte,reduceCtorEq,Bool.false_eq_true,h0, h1, h6]
        refine K.wrap (by omega) ?_
        simp -dsimp only [LL,B9,Nat.reduceAdd,Nat.reduceEqDiff,reduceIte,reduceCtorEq,Bool.false_eq_true,h0, h1, h6]
        exact ⟨⟨_, _, rfl, by rw [if_neg hno]; decide⟩, Ext.refl _⟩
    · simp -dsimp only [LL,B9,Nat.reduceAdd,Nat.reduceEqDiff,reduceIte,reduceCtorEq,Bool.false_eq_true,h0, h1, h6]
      refine K.wrap (by omega) ?_
      simp -dsimp only [LL,B9,Nat.reduceAdd,Nat.reduceEqDiff,reduceIte,reduceCtorEq,Bool.false_eq_true,h0, h1, h6]
      exact ⟨⟨_, _, rfl, by rw [if_neg hno]; decide⟩, Ext.refl _⟩
  refine Go1 ?_
  refine K.call (signs_r w) ?_
  rintro _ w1 ⟨⟨b, rfl, hc⟩, he⟩
  refine Go1 ?_
  refine K.loop (fun S w' => ∃ i : Nat, i ≤ 25 ∧ S 8 = .int .i64 i ∧ Ext w1 w')
    (fun S _ => (25 - intOf (S 8)).toNat) ⟨0, by omega, by refine Go1 ?_; rfl, Ext.refl _⟩ ?_
  rintro S w' hS ⟨i, hi, h8, he2⟩
  have h0 := hS 0 rfl; have h1 := hS 1 rfl; have h7 := hS 7 rfl; simp only [upd_at, Nat.reduceAdd, Nat.reduceEqDiff, reduceIte, fr0_cons, fr0_nil] at h0 h1 h7; clear hS
  simp -dsimp only [LL,B9,Nat.reduceAdd,Nat.reduceEqDiff,reduceIte,reduceCtorEq,Bool.false_eq_true,h0, h1, h7, h8]
  refine K.cond (fun h2 => ?_) (fun h2 => ?_)
  · have hi' : i < signL.length := by simp [signL]; omega
    have hcell : w'.cell? (Addr.add ⟨b, 0, none⟩ (i * 1)) = some (.string signL[i]) := by
      rw [Nat.mul_one]
      exact hc.ext he2 i _ (by rw [List.getElem?_map, List.getElem?_eq_getElem hi']; rfl)
    have hz : signL[i].size ≤ 2 := by
      have : ∀ x ∈ signL, x.size ≤ 2 := by decide
      exact this _ (List.getElem_mem _)
    generalize signL[i] = x at hcell hz
    simp -dsimp only [LL,B9,Nat.reduceAdd,Nat.reduceEqDiff,reduceIte,reduceCtorEq,Bool.false_eq_true,h0, h1, h7, h8]
    refine K.wrap (by omega) ?_
    simp -dsimp only [LL,B9,Nat.reduceAdd,Nat.reduceEqDiff,reduceIte,reduceCtorEq,Bool.false_eq_true,h0, h1, h7, h8]
    refine K.ian i rfl (by omega) ?_
    simp -dsimp only [LL,B9,Nat.reduceAdd,Nat.reduceEqDiff,reduceIte,reduceCtorEq,Bool.false_eq_true,h0, h1, h7, h8]
    refine K.ld hcell ?_
    simp -dsimp only [LL,B9,Nat.reduceAdd,Nat.reduceEqDiff,reduceIte,reduceCtorEq,Bool.false_eq_true,h0, h1, h7, h8]
    refine K.cond (fun h3 => ?_) (fun h3 => ?_)
    · simp -dsimp only [LL,B9,Nat.reduceAdd,Nat.reduceEqDiff,reduceIte,reduceCtorEq,Bool.false_eq_true,h0, h1, h7, h8]
      refine K.ian i rfl (by omega) ?_
      simp -dsimp only [LL,B9,Nat.reduceAdd,Nat.reduceEqDiff,reduceIte,reduceCtorEq,Bool.false_eq_true,h0, h1, h7, h8]
      refine K.ld hcell ?_
      simp -dsimp only [LL,B9,Nat.reduceAdd,Nat.reduceEqDiff,reduceIte,reduceCtorEq,Bool.false_eq_true,h0, h1, h7, h8]
      refine K.wrap (by omega) ?_
      simp -dsimp only [LL,B9,Nat.reduceAdd,Nat.reduceEqDiff,reduceIte,reduceCtorEq,Bool.false_eq_true,h0, h1, h7, h8]
      refine K.slcS 0 x.size (by simp [bnd, ev_tmp, upd_at, h1]) (by simp [bnd, ev_tmp, upd_at, h1]) (by omega) ?_
      simp -dsimp only [LL,B9,Nat.reduceAdd,Nat.reduceEqDiff,reduceIte,reduceCtorEq,Bool.false_eq_true,h0, h1, h7, h8]
      refine K.ian i rfl (by omega) ?_
      simp -dsimp only [LL,B9,Nat.reduceAdd,Nat.reduceEqDiff,reduceIte,reduceCtorEq,Bool.false_eq_true,h0, h1, h7, h8]
      refine K.ld hcell ?_
      simp -dsimp only [LL,B9,Nat.reduceAdd,Nat.reduceEqDiff,reduceIte,reduceCtorEq,Bool.false_eq_true,h0, h1, h7, h8]
      intro w2 he3
      refine K.cond (fun h4 => ?_) (fun h4 => ?_)
      · simp -dsimp only [LL,B9,Nat.reduceAdd,Nat.reduceEqDiff,reduceIte,reduceCtorEq,Bool.false_eq_true,h0, h1, h7, h8]
        refine K.ian i rfl (by omega) ?_
        simp -dsimp only [LL,B9,Nat.reduceAdd,Nat.reduceEqDiff,reduceIte,reduceCtorEq,Bool.false_eq_true,h0, h1, h7, h8]
        refine K.ld (he3.cell hcell) ?_
        simp -dsimp only [LL,B9,Nat.reduceAdd,Nat.reduceEqDiff,reduceIte,reduceCtorEq,Bool.false_eq_true,h0, h1, h7, h8]
        exact ⟨⟨_, _, rfl, by rw [if_neg hno]; decide⟩, he.trans (he2.trans he3)⟩
      · simp -dsimp only [LL,B9,Nat.reduceAdd,Nat.reduceEqDiff,reduceIte,reduceCtorEq,Bool.false_eq_true,h0, h1, h7, h8]
        refine K.wrap (by omega) ?_
        simp -dsimp only [LL,B9,Nat.reduceAdd,Nat.reduceEqDiff,reduceIte,reduceCtorEq,Bool.false_eq_true,h0, h1, h7, h8]
        exact ⟨⟨i + 1, by omega, rfl, he2.trans he3⟩, by simp [intOf]; omega⟩
    · simp -dsimp only [LL,B9,Nat.reduceAdd,Nat.reduceEqDiff,reduceIte,reduceCtorEq,Bool.false_eq_true,h0, h1, h7, h8]
      intro w2 he3
      refine K.wrap (by omega) ?_
      simp -dsimp only [LL,B9,Nat.reduceAdd,Nat.reduceEqDiff,reduceIte,reduceCtorEq,Bool.false_eq_true,h0, h1, h7, h8]
      exact ⟨⟨i + 1, by omega, rfl, he2.trans he3⟩, by simp [intOf]; omega⟩
  · simp -dsimp only [LL,B9,Nat.reduceAdd,Nat.reduceEqDiff,reduceIte,reduceCtorEq,Bool.false_eq_true,h0, h1, h7, h8]
    exact ⟨⟨_, _, rfl, by rw [if_neg hno]; decide⟩, he.trans he2⟩
theorem rname_r (s : ByteArray) (w : World) (hs : s.size ≤ 9223372036854775807) : Ret Tryz.prog F.lariatref09_Name #[.string s] w fun v w' => v = .bool (Abs.isName s) ∧ Ext w w' := by
  refine K.start hmix E.lariatref09_Name (args := [_]) (Nat.le_of_ble_eq_true rfl) ?_
  dsimp only [C.lariatref09_Name]; refine Yy ?_
  refine Go1 ?_
  refine K.cond (fun h0 => ?_) (fun h0 => ?_)
  · refine Go1 ?_
    refine ⟨?_, Ext.refl w⟩; subst h0; rfl
  have hz : s.size ≠ 0 := fun h => h0 (by
    cases s with | mk d =>
    have : d = #[] := by simpa [ByteArray.size] using h
    rw [this])
  refine Go1 ?_
  refine K.cond (fun h1 => ?_) (fun h1 => ?_)
  · refine Go1 ?_
    refine ⟨?_, Ext.refl w⟩
    have : ¬ s.size ≤ 16 := by omega
    simp [Abs.isName, this]
  have h1' : s.size ≤ 16 := by omega
  refine Go1 ?_
  refine K.cond (fun h2 => ?_) (fun h2 => ?_)
  · refine Go1 ?_
    exact ⟨by subst h2; exact congrArg Value.bool (by decide +kernel), Ext.refl w⟩
  refine Go1 ?_
  refine K.cond (fun h3 => ?_) (fun h3 => ?_)
  · refine Go1 ?_
    exact ⟨by subst h3; exact congrArg Value.bool (by decide +kernel), Ext.refl w⟩
  refine Go1 ?_
  refine K.cond (fun h4 => ?_) (fun h4 => ?_)
  · refine Go1 ?_
    exact ⟨by subst h4; exact congrArg Value.bool (by decide +kernel), Ext.refl w⟩
  refine Go1 ?_
  refine K.cond (fun h5 => ?_) (fun h5 => ?_)
  · refine Go1 ?_
    exact ⟨by subst h5; exact congrArg Value.bool (by decide +kernel), Ext.refl w⟩
  have hm : s ∉ Abs.ownL := by simp [Abs.ownL, h2, h3, h4, h5]
  refine Go1 ?_
  refine K.call (begins0_r s w (by omega) h1') ?_
  rintro _ w1 ⟨⟨n, k, rfl, hnk⟩, he⟩
  refine Go1 ?_
  refine K.cond (fun h6 => ?_) (fun h6 => ?_)
  · refine Go1 ?_
    refine ⟨?_, he⟩
    have hl : Abs.letter (Abs.byteAt s 0 : Nat) = true := by
      by_cases hx : Abs.letter (Abs.byteAt s 0 : Nat) = true
      · exact hx
      · rw [if_neg hx] at hnk; exact absurd h6 hnk
    rw [if_pos hl] at hnk
    congr 1
    simp [Abs.isName, hl, hz, h1', hm, hnk.1]
    omega
  · refine Go1 ?_
    refine ⟨?_, he⟩
    have hl : Abs.letter (Abs.byteAt s 0 : Nat) = false := by
      by_cases hx : Abs.letter (Abs.byteAt s 0 : Nat) = true
      · rw [if_pos hx] at hnk; exact absurd hnk.2 h6
      · simpa using hx
    simp [Abs.isName, hl]
end Go.Proofs.YtpaahhleopalaaaGreatDoor
end
section
/- What the references of layer 12 compute: scalars, variables, channels. -/
set_option maxRecDepth 4000
set_option linter.unusedSimpArgs false
set_option maxHeartbeats 1000000
namespace Go.Proofs.YtpaahhleopalaaaGreatDoor
open Go Go.RowKit Lite

theorem err_many {most : Int} {nm : Nat → ByteArray} {mo : Nat → Int} {i : Nat} (h : most ≤ i) : Abs.err most nm mo i = 11 := by rw [Abs.err, if_pos h]
theorem err_name {most : Int} {nm : Nat → ByteArray} {mo : Nat → Int} {i : Nat} (h : ¬ most ≤ i) (h2 : Abs.isName (nm i) = false) : Abs.err most nm mo i = 6 := by rw [Abs.err, if_neg h, if_pos h2]
theorem err_twice {most : Int} {nm : Nat → ByteArray} {mo : Nat → Int} {i j : Nat} (h : ¬ most ≤ i) (h2 : Abs.isName (nm i) = true) (hj : j < i) (he : nm j = nm i) : Abs.err most nm mo i = 7 := by
  rw [Abs.err, if_neg h, if_neg (by simp [h2]), if_pos ⟨j, hj, he⟩]
theorem err_own {most : Int} {nm : Nat → ByteArray} {mo : Nat → Int} {i : Nat} (h : ¬ most ≤ i) (h2 : Abs.isName (nm i) = true) (hj : ∀ j, j < i → nm j ≠ nm i) : Abs.err most nm mo i = mo i := by
  rw [Abs.err, if_neg h, if_neg (by simp [h2]), if_neg (fun ⟨j, h1, h2⟩ => hj j h1 h2)]
theorem lt_of_err {most : Int} {nm : Nat → ByteArray} {mo : Nat → Int} {i : Nat} (hm : 0 ≤ most) (h : ∀ j, j < i → Abs.err most nm mo j = 0) : (i : Int) ≤ most := by
  by_cases hx : (i : Int) ≤ most
  · exact hx
  · have := h most.toNat (by omega)
    rw [err_many (by omega)] at this
    cases this

theorem refScalars_r (v : Value) (l : List Abs.Scalar) (w : World) (hl : Abs.Scalars w v l) :
    Ret Tryz.prog F.lariatref12_Scalars #[v] w fun v w' => v = .tuple #[.int .i64 (Abs.scalars l).1, .int .i64 (Abs.scalars l).2] ∧ Ext w w' := by
  obtain ⟨oa, cap, rfl, hlen⟩ := hl.form
  refine K.start hmix E.lariatref12_Scalars (args := [_]) (Nat.le_of_ble_eq_true rfl) ?_
  dsimp only [C.lariatref12_Scalars]; refine Yy ?_
  simp -dsimp only [LL,B9,Nat.reduceAdd,Nat.reduceEqDiff,reduceIte,reduceCtorEq,Bool.false_eq_true]
  refine K.loop (fun S w' => ∃ i : Nat, i ≤ l.length ∧ S 4 = .int .i64 i ∧ (∀ j, j < i → Abs.err 2 (Abs.nameAt (·.name) l) (Abs.scalarErr l) j = 0) ∧ Ext w w')
    (fun S _ => (l.length - intOf (S 4)).toNat) ⟨0, by omega, by simp -dsimp only [LL,B9,Nat.reduceAdd,Nat.reduceEqDiff,reduceIte,reduceCtorEq,Bool.false_eq_true]; rfl, fun _ h => absurd h (Nat.not_lt_zero _), Ext.refl _⟩ ?_
  rintro S w' hS ⟨i, hi, h4, hall, he⟩
  have h0 := hS 0 rfl; simp only [upd_at, Nat.reduceAdd, Nat.reduceEqDiff, reduceIte, fr0_cons, fr0_nil] at h0; clear hS
  have hi2 := lt_of_err (by omega) hall
  simp -dsimp only [LL,B9,Nat.reduceAdd,Nat.reduceEqDiff,reduceIte,reduceCtorEq,Bool.false_eq_true,h0, h4]
  refine K.cond (fun g1 => ?_) (fun g1 => ?_)
  rotate_left
  · simp -dsimp only [LL,B9,Nat.reduceAdd,Nat.reduceEqDiff,reduceIte,reduceCtorEq,Bool.false_eq_true,h0, h4]
    rw [Abs.scalars, Abs.first_none (fun j hj => hall j (by omega))]
    exact ⟨rfl, he⟩
  have hi' : i < l.length := by omega
  obtain ⟨a, rfl⟩ := hl.addr (by omega)
  have hl' := SlR.ext Abs.RScalar.ext he hl
  have hc0 := (hl'.at i hi').cells 0 _ rfl
  have hc1 := (hl'.at i hi').cells 1 _ rfl
  have hok : Abs.strOk l[i].name := (hl'.at i hi').ok
  have hnm : Abs.nameAt (fun x : Abs.Scalar => x.name) l i = l[i].name := nameAt_lt _ _ _ hi'
  simp -dsimp only [LL,B9,Nat.reduceAdd,Nat.reduceEqDiff,reduceIte,reduceCtorEq,Bool.false_eq_true,h0, h4]
  refine K.cond (fun g2 => ?_) (fun g2 => ?_)
  · simp -dsimp only [LL,B9,Nat.reduceAdd,Nat.reduceEqDiff,reduceIte,reduceCtorEq,Bool.false_eq_true,h0, h4]
    rw [Abs.scalars, Abs.first_stop hi' hall (by rw [err_many (by omega)]; decide), err_many (by omega)]
    exact ⟨rfl, he⟩
  have hm : ¬ (2 : Int) ≤ (i : Int) := by omega
  simp -dsimp only [LL,B9,Nat.reduceAdd,Nat.reduceEqDiff,reduceIte,reduceCtorEq,Bool.false_eq_true,h0, h4]
  refine K.ian i rfl hi' ?_
  simp -dsimp only [LL,B9,Nat.reduceAdd,Nat.reduceEqDiff,reduceIte,reduceCtorEq,Bool.false_eq_true,h0, h4]
  refine K.ld hc0 ?_
  simp -dsimp only [LL,B9,Nat.reduceAdd,Nat.reduceEqDiff,reduceIte,reduceCtorEq,Bool.false_eq_true,h0, h4]
  refine K.call (rname_r _ _ hok) ?_
  rintro _ w2 ⟨rfl, he2⟩
  simp -dsimp only [LL,B9,Nat.reduceAdd,Nat.reduceEqDiff,reduceIte,reduceCtorEq,Bool.false_eq_true,h0, h4]
  refine K.condb (fun g3 => ?_) (fun g3 => ?_)
  rotate_left
  · simp -dsimp only [LL,B9,Nat.reduceAdd,Nat.reduceEqDiff,reduceIte,reduceCtorEq,Bool.false_eq_true,h0, h4]
    rw [← hnm] at g3
    rw [Abs.scalars, Abs.first_stop hi' hall (by rw [err_name hm g3]; decide), err_name hm g3]
    exact ⟨rfl, he.trans he2⟩
  have g3' := g3
  rw [← hnm] at g3'
  replace he2 := he.trans he2
  clear he hl'
  simp -dsimp only [LL,B9,Nat.reduceAdd,Nat.reduceEqDiff,reduceIte,reduceCtorEq,Bool.false_eq_true,h0, h4]
  refine K.loop (fun S' w' => ∃ k : Nat, k ≤ i ∧ S' 5 = .int .i64 k ∧ (∀ j, j < k → Abs.nameAt (fun x : Abs.Scalar => x.name) l j ≠ Abs.nameAt (fun x : Abs.Scalar => x.name) l i) ∧ Ext w w')
    (fun S _ => (i - intOf (S 5)).toNat) ⟨0, by omega, by simp -dsimp only [LL,B9,Nat.reduceAdd,Nat.reduceEqDiff,reduceIte,reduceCtorEq,Bool.false_eq_true]; rfl, fun _ h => absurd h (Nat.not_lt_zero _), he2⟩ ?_
  rintro S2 w3 hS2 ⟨k, hk, h5, hne, he3⟩
  have o0 := h0; have o4 := h4
  have h0 := hS2 0 rfl; have h4 := hS2 4 rfl; simp only [upd_at, Nat.reduceAdd, Nat.reduceEqDiff, reduceIte, fr0_cons, fr0_nil] at h0 h4; clear hS2
  rw [o0] at h0; rw [o4] at h4
  have hl' := SlR.ext Abs.RScalar.ext he3 hl
  have hc0 := (hl'.at i hi').cells 0 _ rfl
  have hc1 := (hl'.at i hi').cells 1 _ rfl
  simp -dsimp only [LL,B9,Nat.reduceAdd,Nat.reduceEqDiff,reduceIte,reduceCtorEq,Bool.false_eq_true,h0, h4, h5]
  refine K.cond (fun g4 => ?_) (fun g4 => ?_)
  · have hk' : k < l.length := by omega
    have hck := (hl'.at k hk').cells 0 _ rfl
    have hnk : Abs.nameAt (fun x : Abs.Scalar => x.name) l k = l[k].name := nameAt_lt _ _ _ hk'
    simp -dsimp only [LL,B9,Nat.reduceAdd,Nat.reduceEqDiff,reduceIte,reduceCtorEq,Bool.false_eq_true,h0, h4, h5]
    refine K.ian k rfl hk' ?_
    simp -dsimp only [LL,B9,Nat.reduceAdd,Nat.reduceEqDiff,reduceIte,reduceCtorEq,Bool.false_eq_true,h0, h4, h5]
    refine K.ld hck ?_
    simp -dsimp only [LL,B9,Nat.reduceAdd,Nat.reduceEqDiff,reduceIte,reduceCtorEq,Bool.false_eq_true,h0, h4, h5]
    refine K.ian i rfl hi' ?_
    simp -dsimp only [LL,B9,Nat.reduceAdd,Nat.reduceEqDiff,reduceIte,reduceCtorEq,Bool.false_eq_true,h0, h4, h5]
    refine K.ld hc0 ?_
    simp -dsimp only [LL,B9,Nat.reduceAdd,Nat.reduceEqDiff,reduceIte,reduceCtorEq,Bool.false_eq_true,h0, h4, h5]
    intro w4 he4
    refine K.cond (fun g5 => ?_) (fun g5 => ?_)
    · simp -dsimp only [LL,B9,Nat.reduceAdd,Nat.reduceEqDiff,reduceIte,reduceCtorEq,Bool.false_eq_true,h0, h4, h5]
      have ht := err_twice (mo := Abs.scalarErr l) hm g3' (show k < i by omega) (by rw [hnk, hnm]; exact g5)
      rw [Abs.scalars, Abs.first_stop hi' hall (by rw [ht]; decide), ht]
      exact ⟨rfl, he3.trans he4⟩
    · simp -dsimp only [LL,B9,Nat.reduceAdd,Nat.reduceEqDiff,reduceIte,reduceCtorEq,Bool.false_eq_true,h0, h4, h5]
      refine K.wrap (by omega) ?_
      simp -dsimp only [LL,B9,Nat.reduceAdd,Nat.reduceEqDiff,reduceIte,reduceCtorEq,Bool.false_eq_true,h0, h4, h5]
      refine ⟨⟨k + 1, by omega, rfl, fun j hj => ?_, he3.trans he4⟩, by simp [intOf]; omega⟩
      by_cases hjk : j < k
      · exact hne j hjk
      · have : j = k := by omega
        subst this; rw [hnk, hnm]; exact g5
  have herr := err_own (mo := Abs.scalarErr l) hm g3' (fun j hj => hne j (by omega))
  have hse : Abs.scalarErr l i = if 1 ≤ l[i].size ∧ l[i].size ≤ 4 then 0 else 10 := by simp [Abs.scalarErr, hi']
  rw [hse] at herr
  generalize l[i].size = z at hc1 herr
  simp -dsimp only [LL,B9,Nat.reduceAdd,Nat.reduceEqDiff,reduceIte,reduceCtorEq,Bool.false_eq_true,h0, h4, h5]
  refine K.ian i rfl hi' ?_
  simp -dsimp only [LL,B9,Nat.reduceAdd,Nat.reduceEqDiff,reduceIte,reduceCtorEq,Bool.false_eq_true,h0, h4, h5]
  refine K.ld hc1 ?_
  simp -dsimp only [LL,B9,Nat.reduceAdd,Nat.reduceEqDiff,reduceIte,reduceCtorEq,Bool.false_eq_true,h0, h4, h5]
  refine K.cond (fun g6 => ?_) (fun g6 => ?_)
  · simp -dsimp only [LL,B9,Nat.reduceAdd,Nat.reduceEqDiff,reduceIte,reduceCtorEq,Bool.false_eq_true,h0, h4, h5]
    rw [if_neg (by omega)] at herr
    rw [Abs.scalars, Abs.first_stop hi' hall (by rw [herr]; decide), herr]
    exact ⟨rfl, he3⟩
  simp -dsimp only [LL,B9,Nat.reduceAdd,Nat.reduceEqDiff,reduceIte,reduceCtorEq,Bool.false_eq_true,h0, h4, h5]
  refine K.ian i rfl hi' ?_
  simp -dsimp only [LL,B9,Nat.reduceAdd,Nat.reduceEqDiff,reduceIte,reduceCtorEq,Bool.false_eq_true,h0, h4, h5]
  refine K.ld hc1 ?_
  simp -dsimp only [LL,B9,Nat.reduceAdd,Nat.reduceEqDiff,reduceIte,reduceCtorEq,Bool.false_eq_true,h0, h4, h5]
  refine K.cond (fun g7 => ?_) (fun g7 => ?_)
  · simp -dsimp only [LL,B9,Nat.reduceAdd,Nat.reduceEqDiff,reduceIte,reduceCtorEq,Bool.false_eq_true,h0, h4, h5]
    rw [if_neg (by omega)] at herr
    rw [Abs.scalars, Abs.first_stop hi' hall (by rw [herr]; decide), herr]
    exact ⟨rfl, he3⟩
  · simp -dsimp only [LL,B9,Nat.reduceAdd,Nat.reduceEqDiff,reduceIte,reduceCtorEq,Bool.false_eq_true,h0, h4, h5]
    rw [if_pos (by omega)] at herr
    refine K.wrap (by omega) ?_
    simp -dsimp only [LL,B9,Nat.reduceAdd,Nat.reduceEqDiff,reduceIte,reduceCtorEq,Bool.false_eq_true,h0, h4, h5]
    refine ⟨⟨i + 1, by omega, rfl, fun j hj => ?_, he3⟩, by simp [intOf, o4]; omega⟩
    by_cases hji : j < i
    · exact hall j hji
    · have : j = i := by omega
      subst this; exact herr
end Go.Proofs.YtpaahhleopalaaaGreatDoor
end
section
/- What the references of layer 12 compute: one variable. -/
set_option maxRecDepth 4000
set_option linter.unusedSimpArgs false
set_option maxHeartbeats 1000000
namespace Go.Proofs.YtpaahhleopalaaaGreatDoor
open Go Go.RowKit Lite

theorem span_r (lo hi : Int) (w : World) : Ret Tryz.prog F.lariatref12_span #[.int .i64 lo, .int .i64 hi] w fun v w' => v = .bool (Abs.narrow lo hi) ∧ w' = w := by
  refine K.start hmix E.lariatref12_span (args := [_, _]) (Nat.le_of_ble_eq_true rfl) ?_
  dsimp only [C.lariatref12_span]; refine Yy ?_
  (repeat' first
    | (refine K.cond (fun _ => ?_) (fun _ => ?_) <;> try (exfalso; omega))
    | (refine K.condb (fun _ => ?_) (fun _ => ?_))
    | (refine K.wrap (by omega) ?_)
    | (refine K.ld (by assumption) ?_)
    | (refine K.ia (by omega) ?_)
    | simp -dsimp only [LL,B9,Nat.reduceAdd,Nat.reduceEqDiff,reduceIte,reduceCtorEq,Bool.false_eq_true])
  all_goals (refine ⟨?_, by first | rfl | trivial⟩; congr 1; rw [Bool.eq_iff_iff]; simp [Abs.narrow]; omega)
def vErr (v : Abs.Var) (s : List Abs.Scalar) : Int :=
  if (v.scalar ≠ 0 ∧ Abs.size v.scalar s = 0) ∨ (v.over ≠ 0 ∧ Abs.size v.over s = 0) then 8
  else if v.scalar = 0 ∧ (Abs.narrow v.lo v.hi = false ∨ v.init < v.lo ∨ v.init > v.hi) then 10
  else if v.scalar ≠ 0 ∧ (v.init < 0 ∨ v.init > Abs.size v.scalar s) then 10 else 0
theorem varErr_eq (l : List Abs.Var) (s : List Abs.Scalar) (i : Nat) (h : i < l.length) : Abs.varErr l s i = vErr l[i] s := by
  rw [Abs.varErr, List.getElem?_eq_getElem h]
  simp only [vErr, Abs.there, Abs.bounds, decide_eq_false_iff_not]
  by_cases h0 : l[i].scalar = 0
  · simp only [h0, if_true]
    by_cases h1 : l[i].over = 0
    · simp [h1]
    · simp [h1]
  · simp only [h0, if_false]
    by_cases h1 : l[i].over = 0
    · simp [h0, h1]
    · simp [h0, h1]
theorem refVariable_r (x : Abs.Var) (v : Value) (l : List Abs.Scalar) (w : World) (hl : Abs.Scalars w v l) :
    Ret Tryz.prog F.lariatref12_variable #[.agg x.enc.toArray, v] w fun v w' => v = .int .i64 (vErr x l) ∧ Ext w w' := by
  obtain ⟨oa, cap, rfl, hlen⟩ := hl.form
  refine K.start hmix E.lariatref12_variable (args := [_, _]) (Nat.le_of_ble_eq_true rfl) ?_
  dsimp only [C.lariatref12_variable]; refine Yy ?_
  simp -dsimp only [LL,B9,Nat.reduceAdd,Nat.reduceEqDiff,reduceIte,reduceCtorEq,Bool.false_eq_true]
  refine K.new fun w1 b hb he1 hc1 => ?_
  have hl1 := SlR.ext Abs.RScalar.ext he1 hl
  have c1 : w1.cell? (Addr.add ⟨b, 0, none⟩ 1) = some (.int .i64 x.scalar) := cell_blk hc1 rfl
  have c2 : w1.cell? (Addr.add ⟨b, 0, none⟩ 2) = some (.int .i64 x.over) := cell_blk hc1 rfl
  have c3 : w1.cell? (Addr.add ⟨b, 0, none⟩ 3) = some (.int .i64 x.lo) := cell_blk hc1 rfl
  have c4 : w1.cell? (Addr.add ⟨b, 0, none⟩ 4) = some (.int .i64 x.hi) := cell_blk hc1 rfl
  have c5 : w1.cell? (Addr.add ⟨b, 0, none⟩ 5) = some (.int .i64 x.init) := cell_blk hc1 rfl
  have hq : ∀ k w', Ext w1 w' → Ret Tryz.prog F.lariatref12_Size #[.slice oa l.length cap, .int .i64 k] w' fun u w'' => u = .int .i64 (Abs.size k l) ∧ Ext w' w'' := fun k w' he =>
    (refSize_r k _ l w' (SlR.ext Abs.RScalar.ext he hl1)).mono fun v w'' h => ⟨h.1, h.2 ▸ Ext.refl _⟩
  (repeat' first
    | (refine K.cond (fun _ => ?_) (fun _ => ?_) <;> try (exfalso; omega))
    | (refine K.condb (fun _ => ?_) (fun _ => ?_))
    | (refine K.ld (by assumption) ?_)
    | (refine K.call (refSize_r _ _ l _ hl1) ?_; rintro _ w1 ⟨rfl, rfl⟩)
    | (refine K.call (span_r _ _ _) ?_; rintro _ w1 ⟨rfl, rfl⟩)
    | (refine K.qfn _ (hq _) ?_)
    | simp -dsimp only [LL,B9,Nat.reduceAdd,Nat.reduceEqDiff,reduceIte,reduceCtorEq,Bool.false_eq_true]
    | (intro w2 he2; replace he2 := he1.trans he2))
  all_goals (refine ⟨?_, by assumption⟩; congr 1; unfold vErr; simp only [Abs.narrow, decide_eq_false_iff_not])
  all_goals (repeat' split)
  all_goals first | rfl | (exfalso; omega)
theorem refVars_r (v v2 : Value) (l : List Abs.Var) (s : List Abs.Scalar) (most : Int) (w : World) (hl : Abs.Vars w v l) (hs : Abs.Scalars w v2 s) :
    Ret Tryz.prog F.lariatref12_Vars #[v, v2, .int .i64 most] w fun v w' => v = .tuple #[.int .i64 (Abs.vars l s most).1, .int .i64 (Abs.vars l s most).2] ∧ Ext w w' := by
  obtain ⟨oa, cap, rfl, hlen⟩ := hl.form
  refine K.start hmix E.lariatref12_Vars (args := [_, _, _]) (Nat.le_of_ble_eq_true rfl) ?_
  dsimp only [C.lariatref12_Vars]; refine Yy ?_
  simp -dsimp only [LL,B9,Nat.reduceAdd,Nat.reduceEqDiff,reduceIte,reduceCtorEq,Bool.false_eq_true]
  refine K.loop (fun S w' => ∃ i : Nat, i ≤ l.length ∧ S 8 = .int .i64 i ∧ (∀ j, j < i → Abs.err (max most 0) (Abs.nameAt (·.name) l) (Abs.varErr l s) j = 0) ∧ Ext w w')
    (fun S _ => (l.length - intOf (S 8)).toNat) ⟨0, by omega, by simp -dsimp only [LL,B9,Nat.reduceAdd,Nat.reduceEqDiff,reduceIte,reduceCtorEq,Bool.false_eq_true]; rfl, fun _ h => absurd h (Nat.not_lt_zero _), Ext.refl _⟩ ?_
  rintro S w' hS ⟨i, hi, h8, hall, he⟩
  have h0 := hS 0 rfl; have h1 := hS 1 rfl; have h2 := hS 2 rfl; simp only [upd_at, Nat.reduceAdd, Nat.reduceEqDiff, reduceIte, fr0_cons, fr0_nil] at h0 h1 h2; clear hS
  simp -dsimp only [LL,B9,Nat.reduceAdd,Nat.reduceEqDiff,reduceIte,reduceCtorEq,Bool.false_eq_true,h0, h1, h2, h8]
  refine K.cond (fun g1 => ?_) (fun g1 => ?_)
  rotate_left
  · simp -dsimp only [LL,B9,Nat.reduceAdd,Nat.reduceEqDiff,reduceIte,reduceCtorEq,Bool.false_eq_true,h0, h1, h2, h8]
    rw [Abs.vars, Abs.first_none (fun j hj => hall j (by omega))]
    exact ⟨rfl, he⟩
  have hi' : i < l.length := by omega
  obtain ⟨a, rfl⟩ := hl.addr (by omega)
  have hl' := SlR.ext Abs.RVar.ext he hl
  have hc0 := (hl'.at i hi').cells 0 _ rfl
  have hok : Abs.strOk l[i].name := (hl'.at i hi').ok
  have hnm : Abs.nameAt (fun x : Abs.Var => x.name) l i = l[i].name := nameAt_lt _ _ _ hi'
  simp -dsimp only [LL,B9,Nat.reduceAdd,Nat.reduceEqDiff,reduceIte,reduceCtorEq,Bool.false_eq_true,h0, h1, h2, h8]
  refine K.cond (fun g2 => ?_) (fun g2 => ?_)
  · simp -dsimp only [LL,B9,Nat.reduceAdd,Nat.reduceEqDiff,reduceIte,reduceCtorEq,Bool.false_eq_true,h0, h1, h2, h8]
    rw [Abs.vars, Abs.first_stop hi' hall (by rw [err_many (by omega)]; decide), err_many (by omega)]
    exact ⟨rfl, he⟩
  have hm : ¬ (max most 0 : Int) ≤ (i : Int) := by omega
  simp -dsimp only [LL,B9,Nat.reduceAdd,Nat.reduceEqDiff,reduceIte,reduceCtorEq,Bool.false_eq_true,h0, h1, h2, h8]
  refine K.ian i rfl hi' ?_
  simp -dsimp only [LL,B9,Nat.reduceAdd,Nat.reduceEqDiff,reduceIte,reduceCtorEq,Bool.false_eq_true,h0, h1, h2, h8]
  refine K.ld hc0 ?_
  simp -dsimp only [LL,B9,Nat.reduceAdd,Nat.reduceEqDiff,reduceIte,reduceCtorEq,Bool.false_eq_true,h0, h1, h2, h8]
  refine K.call (rname_r _ _ hok) ?_
  rintro _ w2 ⟨rfl, he2⟩
  simp -dsimp only [LL,B9,Nat.reduceAdd,Nat.reduceEqDiff,reduceIte,reduceCtorEq,Bool.false_eq_true,h0, h1, h2, h8]
  refine K.condb (fun g3 => ?_) (fun g3 => ?_)
  rotate_left
  · simp -dsimp only [LL,B9,Nat.reduceAdd,Nat.reduceEqDiff,reduceIte,reduceCtorEq,Bool.false_eq_true,h0, h1, h2, h8]
    rw [← hnm] at g3
    rw [Abs.vars, Abs.first_stop hi' hall (by rw [err_name hm g3]; decide), err_name hm g3]
    exact ⟨rfl, he.trans he2⟩
  have g3' := g3
  rw [← hnm] at g3'
  replace he2 := he.trans he2
  clear he hl'
  simp -dsimp only [LL,B9,Nat.reduceAdd,Nat.reduceEqDiff,reduceIte,reduceCtorEq,Bool.false_eq_true,h0, h1, h2, h8]
  refine K.loop (fun S' w' => ∃ k : Nat, k ≤ i ∧ S' 9 = .int .i64 k ∧ (∀ j, j < k → Abs.nameAt (fun x : Abs.Var => x.name) l j ≠ Abs.nameAt (fun x : Abs.Var => x.name) l i) ∧ Ext w w')
    (fun S _ => (i - intOf (S 9)).toNat) ⟨0, by omega, by simp -dsimp only [LL,B9,Nat.reduceAdd,Nat.reduceEqDiff,reduceIte,reduceCtorEq,Bool.false_eq_true]; rfl, fun _ h => absurd h (Nat.not_lt_zero _), he2⟩ ?_
  rintro S2 w3 hS2 ⟨k, hk, h9, hne, he3⟩
  have o0 := h0; have o1 := h1; have o2 := h2; have o8 := h8
  have h0 := hS2 0 rfl; have h1 := hS2 1 rfl; have h2 := hS2 2 rfl; have h8 := hS2 8 rfl; simp only [upd_at, Nat.reduceAdd, Nat.reduceEqDiff, reduceIte, fr0_cons, fr0_nil] at h0 h1 h2 h8; clear hS2
  rw [o0] at h0; rw [o1] at h1; rw [o2] at h2; rw [o8] at h8
  have hl' := SlR.ext Abs.RVar.ext he3 hl
  have hc0 := (hl'.at i hi').cells 0 _ rfl
  simp -dsimp only [LL,B9,Nat.reduceAdd,Nat.reduceEqDiff,reduceIte,reduceCtorEq,Bool.false_eq_true,h0, h1, h2, h8, h9]
  refine K.cond (fun g4 => ?_) (fun g4 => ?_)
  · have hk' : k < l.length := by omega
    have hck := (hl'.at k hk').cells 0 _ rfl
    have hnk : Abs.nameAt (fun x : Abs.Var => x.name) l k = l[k].name := nameAt_lt _ _ _ hk'
    simp -dsimp only [LL,B9,Nat.reduceAdd,Nat.reduceEqDiff,reduceIte,reduceCtorEq,Bool.false_eq_true,h0, h1, h2, h8, h9]
    refine K.ian k rfl hk' ?_
    simp -dsimp only [LL,B9,Nat.reduceAdd,Nat.reduceEqDiff,reduceIte,reduceCtorEq,Bool.false_eq_true,h0, h1, h2, h8, h9]
    refine K.ld hck ?_
    simp -dsimp only [LL,B9,Nat.reduceAdd,Nat.reduceEqDiff,reduceIte,reduceCtorEq,Bool.false_eq_true,h0, h1, h2, h8, h9]
    refine K.ian i rfl hi' ?_
    simp -dsimp only [LL,B9,Nat.reduceAdd,Nat.reduceEqDiff,reduceIte,reduceCtorEq,Bool.false_eq_true,h0, h1, h2, h8, h9]
    refine K.ld hc0 ?_
    simp -dsimp only [LL,B9,Nat.reduceAdd,Nat.reduceEqDiff,reduceIte,reduceCtorEq,Bool.false_eq_true,h0, h1, h2, h8, h9]
    intro w4 he4
    refine K.cond (fun g5 => ?_) (fun g5 => ?_)
    · simp -dsimp only [LL,B9,Nat.reduceAdd,Nat.reduceEqDiff,reduceIte,reduceCtorEq,Bool.false_eq_true,h0, h1, h2, h8, h9]
      have ht := err_twice (mo := Abs.varErr l s) hm g3' (show k < i by omega) (by rw [hnk, hnm]; exact g5)
      rw [Abs.vars, Abs.first_stop hi' hall (by rw [ht]; decide), ht]
      exact ⟨rfl, he3.trans he4⟩
    · simp -dsimp only [LL,B9,Nat.reduceAdd,Nat.reduceEqDiff,reduceIte,reduceCtorEq,Bool.false_eq_true,h0, h1, h2, h8, h9]
      refine K.wrap (by omega) ?_
      simp -dsimp only [LL,B9,Nat.reduceAdd,Nat.reduceEqDiff,reduceIte,reduceCtorEq,Bool.false_eq_true,h0, h1, h2, h8, h9]
      refine ⟨⟨k + 1, by omega, rfl, fun j hj => ?_, he3.trans he4⟩, by simp [intOf]; omega⟩
      by_cases hjk : j < k
      · exact hne j hjk
      · have : j = k := by omega
        subst this; rw [hnk, hnm]; exact g5
  have herr := err_own (mo := Abs.varErr l s) hm g3' (fun j hj => hne j (by omega))
  rw [varErr_eq l s i hi'] at herr
  have hs' := SlR.ext Abs.RScalar.ext he3 hs
  have hci := (hl'.at i hi').cells
  generalize l[i] = x at hci herr
  simp -dsimp only [LL,B9,Nat.reduceAdd,Nat.reduceEqDiff,reduceIte,reduceCtorEq,Bool.false_eq_true,h0, h1, h2, h8, h9]
  refine K.ian i rfl hi' ?_
  simp -dsimp only [LL,B9,Nat.reduceAdd,Nat.reduceEqDiff,reduceIte,reduceCtorEq,Bool.false_eq_true,h0, h1, h2, h8, h9]
  refine K.ldA hci rfl ?_
  simp -dsimp only [LL,B9,Nat.reduceAdd,Nat.reduceEqDiff,reduceIte,reduceCtorEq,Bool.false_eq_true,h0, h1, h2, h8, h9]
  refine K.call (refVariable_r x _ s _ hs') ?_
  rintro _ w4 ⟨rfl, he4⟩
  replace he4 := he3.trans he4
  simp -dsimp only [LL,B9,Nat.reduceAdd,Nat.reduceEqDiff,reduceIte,reduceCtorEq,Bool.false_eq_true,h0, h1, h2, h8, h9]
  refine K.cond (fun g6 => ?_) (fun g6 => ?_)
  rotate_left
  · simp -dsimp only [LL,B9,Nat.reduceAdd,Nat.reduceEqDiff,reduceIte,reduceCtorEq,Bool.false_eq_true,h0, h1, h2, h8, h9]
    rw [Abs.vars, Abs.first_stop hi' hall (by rw [herr]; exact g6), herr]
    exact ⟨rfl, he4⟩
  · simp -dsimp only [LL,B9,Nat.reduceAdd,Nat.reduceEqDiff,reduceIte,reduceCtorEq,Bool.false_eq_true,h0, h1, h2, h8, h9]
    rw [g6] at herr
    refine K.wrap (by omega) ?_
    simp -dsimp only [LL,B9,Nat.reduceAdd,Nat.reduceEqDiff,reduceIte,reduceCtorEq,Bool.false_eq_true,h0, h1, h2, h8, h9]
    refine ⟨⟨i + 1, by omega, rfl, fun j hj => ?_, he4⟩, by simp [intOf, o8]; omega⟩
    by_cases hji : j < i
    · exact hall j hji
    · have : j = i := by omega
      subst this; exact herr
end Go.Proofs.YtpaahhleopalaaaGreatDoor
end
section
/- What the references of layer 12 compute: channels; the laws. -/
set_option maxRecDepth 4000
set_option linter.unusedSimpArgs false
set_option maxHeartbeats 1000000
namespace Go.Proofs.YtpaahhleopalaaaGreatDoor
open Go Go.RowKit Lite

theorem refChans_r (v v2 : Value) (l : List Abs.Chan) (s : List Abs.Scalar) (w : World) (hl : Abs.Chans w v l) (hs : Abs.Scalars w v2 s) :
    Ret Tryz.prog F.lariatref12_Chans #[v, v2] w fun v w' => v = .tuple #[.int .i64 (Abs.chans l s).1, .int .i64 (Abs.chans l s).2] ∧ Ext w w' := by
  obtain ⟨oa, cap, rfl, hlen⟩ := hl.form
  refine K.start hmix E.lariatref12_Chans (args := [_, _]) (Nat.le_of_ble_eq_true rfl) ?_
  dsimp only [C.lariatref12_Chans]; refine Yy ?_
  refine Go1 ?_
  refine K.loop (fun S w' => ∃ i : Nat, i ≤ l.length ∧ S 6 = .int .i64 i ∧ (∀ j, j < i → Abs.err 4 (Abs.nameAt (·.name) l) (Abs.chanErr l s) j = 0) ∧ Ext w w')
    (fun S _ => (l.length - intOf (S 6)).toNat) ⟨0, by omega, by refine Go1 ?_; rfl, fun _ h => absurd h (Nat.not_lt_zero _), Ext.refl _⟩ ?_
  rintro S w' hS ⟨i, hi, h6, hall, he⟩
  have h0 := hS 0 rfl; have h1 := hS 1 rfl; simp only [upd_at, Nat.reduceAdd, Nat.reduceEqDiff, reduceIte, fr0_cons, fr0_nil] at h0 h1; clear hS
  have hi2 := lt_of_err (by omega) hall
  simp -dsimp only [LL,B9,Nat.reduceAdd,Nat.reduceEqDiff,reduceIte,reduceCtorEq,Bool.false_eq_true,h0, h1, h6]
  refine K.cond (fun g1 => ?_) (fun g1 => ?_)
  rotate_left
  · simp -dsimp only [LL,B9,Nat.reduceAdd,Nat.reduceEqDiff,reduceIte,reduceCtorEq,Bool.false_eq_true,h0, h1, h6]
    rw [Abs.chans, Abs.first_none (fun j hj => hall j (by omega))]
    exact ⟨rfl, he⟩
  have hi' : i < l.length := by omega
  obtain ⟨a, rfl⟩ := hl.addr (by omega)
  have hl' := SlR.ext Abs.RChan.ext he hl
  have hc0 := (hl'.at i hi').cells 0 _ rfl
  have hok : Abs.strOk l[i].name := (hl'.at i hi').ok
  have hnm : Abs.nameAt (fun x : Abs.Chan => x.name) l i = l[i].name := nameAt_lt _ _ _ hi'
  simp -dsimp only [LL,B9,Nat.reduceAdd,Nat.reduceEqDiff,reduceIte,reduceCtorEq,Bool.false_eq_true,h0, h1, h6]
  refine K.cond (fun g2 => ?_) (fun g2 => ?_)
  · simp -dsimp only [LL,B9,Nat.reduceAdd,Nat.reduceEqDiff,reduceIte,reduceCtorEq,Bool.false_eq_true,h0, h1, h6]
    rw [Abs.chans, Abs.first_stop hi' hall (by rw [err_many (by omega)]; decide), err_many (by omega)]
    exact ⟨rfl, he⟩
  have hm : ¬ (4 : Int) ≤ (i : Int) := by omega
  simp -dsimp only [LL,B9,Nat.reduceAdd,Nat.reduceEqDiff,reduceIte,reduceCtorEq,Bool.false_eq_true,h0, h1, h6]
  refine K.ian i rfl hi' ?_
  simp -dsimp only [LL,B9,Nat.reduceAdd,Nat.reduceEqDiff,reduceIte,reduceCtorEq,Bool.false_eq_true,h0, h1, h6]
  refine K.ld hc0 ?_
  simp -dsimp only [LL,B9,Nat.reduceAdd,Nat.reduceEqDiff,reduceIte,reduceCtorEq,Bool.false_eq_true,h0, h1, h6]
  refine K.call (rname_r _ _ hok) ?_
  rintro _ w2 ⟨rfl, he2⟩
  simp -dsimp only [LL,B9,Nat.reduceAdd,Nat.reduceEqDiff,reduceIte,reduceCtorEq,Bool.false_eq_true,h0, h1, h6]
  refine K.condb (fun g3 => ?_) (fun g3 => ?_)
  rotate_left
  · simp -dsimp only [LL,B9,Nat.reduceAdd,Nat.reduceEqDiff,reduceIte,reduceCtorEq,Bool.false_eq_true,h0, h1, h6]
    rw [← hnm] at g3
    rw [Abs.chans, Abs.first_stop hi' hall (by rw [err_name hm g3]; decide), err_name hm g3]
    exact ⟨rfl, he.trans he2⟩
  have g3' := g3
  rw [← hnm] at g3'
  replace he2 := he.trans he2
  clear he hl'
  simp -dsimp only [LL,B9,Nat.reduceAdd,Nat.reduceEqDiff,reduceIte,reduceCtorEq,Bool.false_eq_true,h0, h1, h6]
  refine K.loop (fun S' w' => ∃ k : Nat, k ≤ i ∧ S' 7 = .int .i64 k ∧ (∀ j, j < k → Abs.nameAt (fun x : Abs.Chan => x.name) l j ≠ Abs.nameAt (fun x : Abs.Chan => x.name) l i) ∧ Ext w w')
    (fun S _ => (i - intOf (S 7)).toNat) ⟨0, by omega, by refine Go1 ?_; rfl, fun _ h => absurd h (Nat.not_lt_zero _), he2⟩ ?_
  rintro S2 w3 hS2 ⟨k, hk, h7, hne, he3⟩
  have o0 := h0; have o1 := h1; have o6 := h6
  have h0 := hS2 0 rfl; have h1 := hS2 1 rfl; have h6 := hS2 6 rfl; simp only [upd_at, Nat.reduceAdd, Nat.reduceEqDiff, reduceIte, fr0_cons, fr0_nil] at h0 h1 h6; clear hS2
  rw [o0] at h0; rw [o1] at h1; rw [o6] at h6
  have hl' := SlR.ext Abs.RChan.ext he3 hl
  have hc0 := (hl'.at i hi').cells 0 _ rfl
  simp -dsimp only [LL,B9,Nat.reduceAdd,Nat.reduceEqDiff,reduceIte,reduceCtorEq,Bool.false_eq_true,h0, h1, h6, h7]
  refine K.cond (fun g4 => ?_) (fun g4 => ?_)
  · have hk' : k < l.length := by omega
    have hck := (hl'.at k hk').cells 0 _ rfl
    have hnk : Abs.nameAt (fun x : Abs.Chan => x.name) l k = l[k].name := nameAt_lt _ _ _ hk'
    simp -dsimp only [LL,B9,Nat.reduceAdd,Nat.reduceEqDiff,reduceIte,reduceCtorEq,Bool.false_eq_true,h0, h1, h6, h7]
    refine K.ian k rfl hk' ?_
    simp -dsimp only [LL,B9,Nat.reduceAdd,Nat.reduceEqDiff,reduceIte,reduceCtorEq,Bool.false_eq_true,h0, h1, h6, h7]
    refine K.ld hck ?_
    simp -dsimp only [LL,B9,Nat.reduceAdd,Nat.reduceEqDiff,reduceIte,reduceCtorEq,Bool.false_eq_true,h0, h1, h6, h7]
    refine K.ian i rfl hi' ?_
    simp -dsimp only [LL,B9,Nat.reduceAdd,Nat.reduceEqDiff,reduceIte,reduceCtorEq,Bool.false_eq_true,h0, h1, h6, h7]
    refine K.ld hc0 ?_
    simp -dsimp only [LL,B9,Nat.reduceAdd,Nat.reduceEqDiff,reduceIte,reduceCtorEq,Bool.false_eq_true,h0, h1, h6, h7]
    intro w4 he4
    refine K.cond (fun g5 => ?_) (fun g5 => ?_)
    · simp -dsimp only [LL,B9,Nat.reduceAdd,Nat.reduceEqDiff,reduceIte,reduceCtorEq,Bool.false_eq_true,h0, h1, h6, h7]
      have ht := err_twice (mo := Abs.chanErr l s) hm g3' (show k < i by omega) (by rw [hnk, hnm]; exact g5)
      rw [Abs.chans, Abs.first_stop hi' hall (by rw [ht]; decide), ht]
      exact ⟨rfl, he3.trans he4⟩
    · simp -dsimp only [LL,B9,Nat.reduceAdd,Nat.reduceEqDiff,reduceIte,reduceCtorEq,Bool.false_eq_true,h0, h1, h6, h7]
      refine K.wrap (by omega) ?_
      simp -dsimp only [LL,B9,Nat.reduceAdd,Nat.reduceEqDiff,reduceIte,reduceCtorEq,Bool.false_eq_true,h0, h1, h6, h7]
      refine ⟨⟨k + 1, by omega, rfl, fun j hj => ?_, he3.trans he4⟩, by simp [intOf]; omega⟩
      by_cases hjk : j < k
      · exact hne j hjk
      · have : j = k := by omega
        subst this; rw [hnk, hnm]; exact g5
  have herr := err_own (mo := Abs.chanErr l s) hm g3' (fun j hj => hne j (by omega))
  have hce : Abs.chanErr l s i = if Abs.there l[i].scalar s = false then 8 else if l[i].cap < 1 ∨ l[i].cap > 4 ∨ (l[i].scalar = 0 ∧ Abs.narrow l[i].lo l[i].hi = false) then 10 else 0 := by simp [Abs.chanErr, hi']
  rw [hce] at herr
  have hs' := SlR.ext Abs.RScalar.ext he3 hs
  have c1 := (hl'.at i hi').cells 1 _ rfl
  have c2 := (hl'.at i hi').cells 2 _ rfl
  have c3 := (hl'.at i hi').cells 3 _ rfl
  have c4 := (hl'.at i hi').cells 4 _ rfl
  simp only [Abs.there, Abs.narrow, decide_eq_false_iff_not] at herr
  generalize l[i].scalar = xs at c1 herr
  generalize l[i].cap = xc at c2 herr
  generalize l[i].lo = xl at c3 herr
  generalize l[i].hi = xh at c4 herr
  clear hce
  have hq : ∀ w', Ext w3 w' → Ret Tryz.prog F.lariatref12_span #[.int .i64 xl, .int .i64 xh] w' fun u w'' => u = .bool (Abs.narrow xl xh) ∧ Ext w' w'' := fun w' he =>
    (span_r xl xh w').mono fun v w'' h => ⟨h.1, h.2 ▸ Ext.refl _⟩
  simp -dsimp only [LL,B9,Nat.reduceAdd,Nat.reduceEqDiff,reduceIte,reduceCtorEq,Bool.false_eq_true,h0, h1, h6, h7]
  (repeat' first
    | (refine K.cond (fun _ => ?_) (fun _ => ?_) <;> try (exfalso; omega))
    | (refine K.condb (fun _ => ?_) (fun _ => ?_))
    | (refine K.ian i rfl hi' ?_)
    | (refine K.ld (by assumption) ?_)
    | (refine K.call (refSize_r _ _ s _ hs') ?_; rintro _ w3 ⟨rfl, rfl⟩)
    | (refine K.qfn _ hq ?_)
    | simp -dsimp only [LL,B9,Nat.reduceAdd,Nat.reduceEqDiff,reduceIte,reduceCtorEq,Bool.false_eq_true,h0, h1, h6, h7]
    | (intro w4 he4; replace he4 := he3.trans he4))
  all_goals first
    | (rw [if_pos (by omega)] at herr
       rw [Abs.chans, Abs.first_stop hi' hall (by rw [herr]; decide), herr]
       exact ⟨rfl, by assumption⟩)
    | (rw [if_neg (by omega), if_pos (by omega)] at herr
       rw [Abs.chans, Abs.first_stop hi' hall (by rw [herr]; decide), herr]
       exact ⟨rfl, by assumption⟩)
    | (rw [if_neg (by omega), if_neg (by omega)] at herr
       refine K.wrap (by omega) ?_
       simp -dsimp only [LL,B9,Nat.reduceAdd,Nat.reduceEqDiff,reduceIte,reduceCtorEq,Bool.false_eq_true,h0, h1, h6, h7]
       refine ⟨⟨i + 1, by omega, rfl, fun j hj => ?_, by assumption⟩, by simp [intOf, o6]; omega⟩
       by_cases hji : j < i
       · exact hall j hji
       · have : j = i := by omega
         subst this; exact herr)

end Go.Proofs.YtpaahhleopalaaaGreatDoor
end
section
/- Whole models: what is wrong with scalars, variables and channels; the document's. -/
set_option maxRecDepth 8000
set_option maxHeartbeats 16000000
namespace Abs
theorem aheadV (m : Model) (i : Nat) : aheadL m 2 i = nSV m i := by
  have e1 : upN 1 2 i m.vars.length = min m.vars.length i := by unfold upN; rw [if_pos (by decide), if_neg (by decide)]; simp
  have e2 : upN 2 2 i m.chans.length = 0 := by unfold upN; rw [if_neg (by decide)]
  have e3 : upN 3 2 i m.procs.length = 0 := by unfold upN; rw [if_neg (by decide)]
  have e4 : upL 2 i m.props.length = 0 := by unfold upL; rw [if_neg (by decide)]
  unfold aheadL
  rw [e1, e2, e3, e4]
  simp only [nSV, nS, nV, List.take_zero, List.map_nil, List.append_nil]
  rw [Nat.min_comm, ← List.take_take]
  simp only [List.take_length]
theorem aheadC (m : Model) (i : Nat) : aheadL m 3 i = nSVC m i := by
  have e1 : upN 1 3 i m.vars.length = m.vars.length := by unfold upN; rw [if_pos (by decide), if_pos (by decide)]
  have e2 : upN 2 3 i m.chans.length = min m.chans.length i := by unfold upN; rw [if_pos (by decide), if_neg (by decide)]; simp
  have e3 : upN 3 3 i m.procs.length = 0 := by unfold upN; rw [if_neg (by decide)]
  have e4 : upL 3 i m.props.length = 0 := by unfold upL; rw [if_neg (by decide)]
  unfold aheadL
  rw [e1, e2, e3, e4]
  simp only [nSVC, nSV, nS, nV, nC, List.take_zero, List.map_nil, List.append_nil]
  rw [Nat.min_comm, ← List.take_take]
  simp only [List.take_length]
theorem aheadP (m : Model) (i : Nat) : aheadL m 4 i = nSVCP m i := by
  have e1 : upN 1 4 i m.vars.length = m.vars.length := by unfold upN; rw [if_pos (by decide), if_pos (by decide)]
  have e2 : upN 2 4 i m.chans.length = m.chans.length := by unfold upN; rw [if_pos (by decide), if_pos (by decide)]
  have e3 : upN 3 4 i m.procs.length = min m.procs.length i := by unfold upN; rw [if_pos (by decide), if_neg (by decide)]; simp
  have e4 : upL 4 i m.props.length = 0 := by unfold upL; rw [if_neg (by decide)]
  unfold aheadL
  rw [e1, e2, e3, e4]
  simp only [nSVCP, nSVC, nSV, nS, nV, nC, nP, List.take_zero, List.map_nil, List.append_nil]
  rw [Nat.min_comm, ← List.take_take]
  simp only [List.take_length]
theorem aheadR (m : Model) (i : Nat) : aheadL m 5 i = nAll m i := by
  have e1 : upN 1 5 i m.vars.length = m.vars.length := by unfold upN; rw [if_pos (by decide), if_pos (by decide)]
  have e2 : upN 2 5 i m.chans.length = m.chans.length := by unfold upN; rw [if_pos (by decide), if_pos (by decide)]
  have e3 : upN 3 5 i m.procs.length = m.procs.length := by unfold upN; rw [if_pos (by decide), if_pos (by decide)]
  have e4 : upL 5 i m.props.length = min m.props.length i := by unfold upL; rw [if_pos (by decide)]; simp
  unfold aheadL
  rw [e1, e2, e3, e4]
  simp only [nAll, nSVCP, nSVC, nSV, nS, nV, nC, nP, nR]
  rw [Nat.min_comm, ← List.take_take]
  simp only [List.take_length]
theorem upN_le (q p i : Int) (len : Nat) : upN q p i len ≤ len := by unfold upN; (repeat' split) <;> omega
end Abs
namespace Go.Proofs.YtpaahhleopalaaaGreatDoor
open Go Go.RowKit Lite
def faultV (f : Abs.Fault) : Value := .agg #[.int .i64 f.why, .int .i64 f.part, .int .i64 f.item, .int .i64 f.sub]
theorem refData_r (cs : List Value) (m : Abs.Model) (w : World) (h : Abs.ModelIs w cs m) :
    Ret Tryz.prog F.lariatref15_data #[.agg cs.toArray] w fun v w' => v = faultV (Abs.data m) ∧ Ext w w' := by
  have hM := h
  obtain ⟨o0, c0, o1, c1, o2, c2, o3, c3, o4, c4, rfl, h0, h1, h2, h3, h4, l0, l1, l2, l3, l4⟩ := h.form
  refine K.start hmix E.lariatref15_data (args := [_]) (Nat.le_of_ble_eq_true rfl) ?_; dsimp only [C.lariatref15_data]; refine Yy ?_
  refine Sg ?_
  intro w1 b1 hb1 he1 hc1
  refine Sg ?_
  intro w2 b2 hb2 he2 hc2
  replace hc1 := he2.obj hc1
  have e2 := he1.trans he2
  have z1 := lt_of_heap hc1
  have z2 := he1.size
  refine Sg ?_
  refine K.call (refScalars_r _ m.scalars w2 (h0.ext e2)) ?_
  rintro _ w3 ⟨rfl, he3⟩
  replace hc1 := he3.obj hc1
  replace hc2 := he3.obj hc2
  have e3 := e2.trans he3
  clear e2
  refine Sg ?_
  refine K.cond (fun g1 => ?_) (fun g1 => ?_)
  rotate_left
  · have hd := Abs.data_s g1
    refine Sg ?_
    intro w4 hw4 hc4
    refine Sg ?_
    exact ⟨by rw [hd]; rfl, hw4.ext e3 (by omega)⟩
  have hS : (Abs.scalars m.scalars).2 = 0 := by simpa using g1
  have hS2 := Abs.scalars_lt hS
  have hc1w := hc1
  have hc2w := hc2
  refine Sg ?_
  refine K.forG 5 m.vars.length [1, 2] (fun _ : Unit => []) () (fun k _ w' => Ext w3 w' ∧ ∀ j, j < k → Abs.evar m j = 0) hZq hZq ⟨Ext.refl _, fun j h => absurd h (Nat.not_lt_zero _)⟩ ?_
  clear hc1 hc2
  rintro k _ S w4 hk ⟨he4, hz⟩
  have hc1 := he4.obj hc1w
  have hc2 := he4.obj hc2w
  have e4 := e3.trans he4
  refine Sg ?_
  refine K.cond (fun g2 => ?_) (fun g2 => ?_)
  · have hk' : k < m.vars.length := by omega
    have hcap := (SlR.len h1).2
    have hcap2 := hcap.2
    unfold maxLen at hcap2
    obtain ⟨a, rfl⟩ := h1.addr (by omega)
    have hnm := Abs.nameAt_get (f := fun x : Abs.Var => x.name) hk'
    have hcv := ((h1.at k hk').cells).ext e4
    have hvz : ∀ j, j < k → Abs.verr m j = 0 := fun j hj => Abs.verr_of (hz j hj)
    refine Sg ?_
    refine K.slcT (k := .i64) (k + 1) (by simp [ev_tmp, upd_at]) (by omega) ?_
    refine Sg ?_
    refine K.qfn (.tuple #[.int .i64 (Abs.vars (m.vars.take (k + 1)) m.scalars 12).1, .int .i64 (Abs.vars (m.vars.take (k + 1)) m.scalars 12).2]) (fun w' e => refVars_r _ _ (m.vars.take (k + 1)) m.scalars 12 w' ((h1.head (k + 1) (by omega)).ext Abs.RVar.ext (e4.trans e)) (h0.ext (e4.trans e))) ?_
    refine Sg ?_
    intro w5 he5
    replace hc1 := he5.obj hc1
    replace hc2 := he5.obj hc2
    replace hcv := hcv.ext he5
    have e5 := e4.trans he5
    rw [Abs.vars_take hk' hvz]
    refine Sg ?_
    refine K.cond (fun g3 => ?_) (fun g3 => ?_)
    rotate_left
    · have hev : Abs.evar m k = Abs.verr m k := by unfold Abs.evar; rw [if_pos g3]
      have hd := Abs.data_v hS hk' hz (by rw [hev]; exact g3)
      rw [hev] at hd
      refine Sg ?_
      intro w6 hw6 hc6
      refine Sg ?_
      exact ⟨by rw [hd]; rfl, hw6.ext e5 (by omega)⟩
    have hv0 : Abs.verr m k = 0 := by simpa using g3
    have hk12 : k < 12 := by
      apply Classical.byContradiction
      intro hn
      have h := hv0
      unfold Abs.verr Abs.err at h
      rw [if_pos (by omega)] at h
      cases h
    refine Sg ?_
    intro w6 he6
    replace hc1 := he6.obj hc1
    replace hc2 := he6.obj hc2
    refine Sg ?_
    refine K.call (ahead_r _ m 2 k w6 (hM.ext (e5.trans he6)) (by omega) (by omega) (by
      have q1 : Abs.upN 1 2 k m.vars.length ≤ k := by unfold Abs.upN; (repeat' split) <;> omega
      have q2 : Abs.upN 2 2 k m.chans.length = 0 := by unfold Abs.upN; rw [if_neg (by decide)]
      have q3 : Abs.upN 3 2 k m.procs.length = 0 := by unfold Abs.upN; rw [if_neg (by decide)]
      have q4 : Abs.upL 2 k m.props.length = 0 := by unfold Abs.upL; rw [if_neg (by decide)]
      omega)) ?_
    rintro _ w7 ⟨⟨v, rfl, hown⟩, he7⟩
    refine ⟨he7, ?_⟩
    rw [Abs.aheadV] at hown
    refine Sg ?_
    refine K.call (has_r v _ m.vars[k].name _ w7 hown) ?_
    rintro _ wA ⟨rfl, rfl⟩
    replace hc1 := he7.obj hc1
    replace hc2 := he7.obj hc2
    have he57 := he6.trans he7
    have e7 := e5.trans he57
    refine Sg ?_
    refine K.cond (fun g4 => ?_) (fun g4 => ?_)
    · have hev : Abs.evar m k = 7 := by unfold Abs.evar; rw [if_neg (by simpa using hv0), hnm, if_pos g4]
      have hd := Abs.data_v hS hk' hz (by rw [hev]; decide)
      rw [hev] at hd
      refine Sg ?_
      intro w8 hw8 hc8
      refine Sg ?_
      exact ⟨by rw [hd]; rfl, hw8.ext e7 (by omega)⟩
    · refine Sg ?_
      refine ⟨hk', by first | trivial | rfl, (), trivial, (he4.trans he5).trans he57, fun j hj => ?_⟩
      by_cases hjk : j = k
      · subst hjk
        unfold Abs.evar
        rw [if_neg (by simpa using hv0), hnm, if_neg g4]
      · exact hz j (by omega)
  have hV : ∀ j, j < m.vars.length → Abs.evar m j = 0 := fun j hj => hz j (by omega)
  have hV12 : m.vars.length ≤ 12 := by
    apply Classical.byContradiction
    intro hn
    have := Abs.evar_lt (hV 12 (by omega))
    omega
  clear hc1 hc2
  refine Sg ?_
  refine K.forG 8 m.chans.length [1, 2] (fun _ : Unit => []) () (fun k _ w' => Ext w3 w' ∧ ∀ j, j < k → Abs.echan m j = 0) hZq hZq ⟨he4, fun j h => absurd h (Nat.not_lt_zero _)⟩ ?_
  clear e4
  rintro k _ S' w5 hk ⟨he5, hz⟩
  have hc1 := he5.obj hc1w
  have hc2 := he5.obj hc2w
  have e4 := e3.trans he5
  refine Sg ?_
  refine K.cond (fun g2 => ?_) (fun g2 => ?_)
  · have hk' : k < m.chans.length := by omega
    have hcap := (SlR.len h2).2
    have hcap2 := hcap.2
    unfold maxLen at hcap2
    obtain ⟨a, rfl⟩ := h2.addr (by omega)
    have hnm := Abs.nameAt_get (f := fun x : Abs.Chan => x.name) hk'
    have hcv := ((h2.at k hk').cells).ext e4
    have hvz : ∀ j, j < k → Abs.cerr m j = 0 := fun j hj => Abs.cerr_of (hz j hj)
    refine Sg ?_
    refine K.slcT (k := .i64) (k + 1) (by simp [ev_tmp, upd_at]) (by omega) ?_
    refine Sg ?_
    refine K.qfn (.tuple #[.int .i64 (Abs.chans (m.chans.take (k + 1)) m.scalars).1, .int .i64 (Abs.chans (m.chans.take (k + 1)) m.scalars).2]) (fun w' e => refChans_r _ _ (m.chans.take (k + 1)) m.scalars w' ((h2.head (k + 1) (by omega)).ext Abs.RChan.ext (e4.trans e)) (h0.ext (e4.trans e))) ?_
    refine Sg ?_
    intro w6 he6
    replace hc1 := he6.obj hc1
    replace hc2 := he6.obj hc2
    replace hcv := hcv.ext he6
    have e5 := e4.trans he6
    rw [Abs.chans_take hk' hvz]
    refine Sg ?_
    refine K.cond (fun g3 => ?_) (fun g3 => ?_)
    rotate_left
    · have hev : Abs.echan m k = Abs.cerr m k := by unfold Abs.echan; rw [if_pos g3]
      have hd := Abs.data_c hS hV hk' hz (by rw [hev]; exact g3)
      rw [hev] at hd
      refine Sg ?_
      intro w6 hw6 hc6
      refine Sg ?_
      exact ⟨by rw [hd]; rfl, hw6.ext e5 (by omega)⟩
    have hv0 : Abs.cerr m k = 0 := by simpa using g3
    have hk4 : k < 4 := by
      apply Classical.byContradiction
      intro hn
      have h := hv0
      unfold Abs.cerr Abs.err at h
      rw [if_pos (by omega)] at h
      cases h
    refine Sg ?_
    intro w7 he7
    replace hc1 := he7.obj hc1
    replace hc2 := he7.obj hc2
    refine Sg ?_
    refine K.call (ahead_r _ m 3 k w7 (hM.ext (e5.trans he7)) (by omega) (by omega) (by
      have q1 := Abs.upN_le 1 3 k m.vars.length
      have q2 : Abs.upN 2 3 k m.chans.length ≤ k := by unfold Abs.upN; (repeat' split) <;> omega
      have q3 : Abs.upN 3 3 k m.procs.length = 0 := by unfold Abs.upN; rw [if_neg (by decide)]
      have q4 : Abs.upL 3 k m.props.length = 0 := by unfold Abs.upL; rw [if_neg (by decide)]
      omega)) ?_
    rintro _ w8 ⟨⟨v, rfl, hown⟩, he8⟩
    refine ⟨he8, ?_⟩
    rw [Abs.aheadC] at hown
    refine Sg ?_
    refine K.call (has_r v _ m.chans[k].name _ w8 hown) ?_
    rintro _ wA ⟨rfl, rfl⟩
    replace hc1 := he8.obj hc1
    replace hc2 := he8.obj hc2
    have he68 := he7.trans he8
    have e7 := e5.trans he68
    refine Sg ?_
    refine K.cond (fun g4 => ?_) (fun g4 => ?_)
    · have hev : Abs.echan m k = 7 := by unfold Abs.echan; rw [if_neg (by simpa using hv0), hnm, if_pos g4]
      have hd := Abs.data_c hS hV hk' hz (by rw [hev]; decide)
      rw [hev] at hd
      refine Sg ?_
      intro w8 hw8 hc8
      refine Sg ?_
      exact ⟨by rw [hd]; rfl, hw8.ext e7 (by omega)⟩
    · refine Sg ?_
      refine ⟨hk', by first | trivial | rfl, (), trivial, (he5.trans he6).trans he68, fun j hj => ?_⟩
      by_cases hjk : j = k
      · subst hjk
        unfold Abs.echan
        rw [if_neg (by simpa using hv0), hnm, if_neg g4]
      · exact hz j (by omega)
  have hd := Abs.data_0 hS hV fun j hj => hz j (by omega)
  refine Sg ?_
  intro w6 hw6 hc6
  refine Sg ?_
  exact ⟨by rw [hd]; rfl, hw6.ext e4 (by omega)⟩
end Go.Proofs.YtpaahhleopalaaaGreatDoor
end
section
/- Whole models: how many pieces. -/
set_option maxRecDepth 4000
set_option maxHeartbeats 6400000
namespace Abs
structure Few (m : Model) : Prop where
  v : m.vars.length ≤ 1000000
  c : m.chans.length ≤ 1000000
  p : m.procs.length ≤ 1000000
  i : ∀ p ∈ m.procs, p.vars.length ≤ 1000000 ∧ p.cmds.length ≤ 1000000
def c1 (m : Model) (k : Nat) : Int := sumI ((m.vars.take k).map fun v => cells v m.scalars)
def c2 (m : Model) (k : Nat) : Int := sumI ((m.chans.take k).map ccap)
def i1 (m : Model) (k : Nat) : Int := sumI ((m.procs.take k).map (pinsts m))
def i2 (m : Model) (k : Nat) : Int := sumI ((m.procs.take k).map fun p => pinsts m p * p.cmds.length)
def i3 (m : Model) (k : Nat) : Int := sumI ((m.procs.take k).map fun p => pinsts m p * (1 + p.vars.length))
theorem mem_of_take {α : Type} {l : List α} {k : Nat} {x : α} (h : x ∈ l.take k) : x ∈ l := List.mem_of_mem_take h
theorem c1_le {m : Model} (h : Few m) (k : Nat) : 0 ≤ c1 m k ∧ c1 m k ≤ 4000000 := by
  have := sumI_le (fun v => cells v m.scalars) 4 (by decide) (m.vars.take k) fun v _ => cells_le v _
  have h1 := h.v
  have h2 : (m.vars.take k).length ≤ m.vars.length := by simp; omega
  unfold c1
  omega
theorem c2_le {m : Model} (h : Few m) (k : Nat) : 0 ≤ c2 m k ∧ c2 m k ≤ 5000000 := by
  have := sumI_le ccap 5 (by decide) (m.chans.take k) fun c _ => by have := ccap_le c; omega
  have h1 := h.c
  have h2 : (m.chans.take k).length ≤ m.chans.length := by simp; omega
  unfold c2
  omega
theorem i1_le {m : Model} (h : Few m) (k : Nat) : 0 ≤ i1 m k ∧ i1 m k ≤ 4000000 := by
  have := sumI_le (pinsts m) 4 (by decide) (m.procs.take k) fun p _ => pinsts_le m p
  have h1 := h.p
  have h2 : (m.procs.take k).length ≤ m.procs.length := by simp; omega
  unfold i1
  omega
theorem mul_le {a b : Int} (ha : 0 ≤ a ∧ a ≤ 4) (hb : 0 ≤ b ∧ b ≤ 1000001) : 0 ≤ a * b ∧ a * b ≤ 4000004 := by
  have : a = 0 ∨ a = 1 ∨ a = 2 ∨ a = 3 ∨ a = 4 := by omega
  rcases this with rfl | rfl | rfl | rfl | rfl <;> omega
theorem i2_le {m : Model} (h : Few m) (k : Nat) : 0 ≤ i2 m k ∧ i2 m k ≤ 4000004000000 := by
  have := sumI_le (fun p => pinsts m p * p.cmds.length) 4000004 (by decide) (m.procs.take k) fun p hp => mul_le (pinsts_le m p) (by have := (h.i p (mem_of_take hp)).2; omega)
  have h1 := h.p
  have h2 : (m.procs.take k).length ≤ m.procs.length := by simp; omega
  unfold i2
  omega
theorem i3_le {m : Model} (h : Few m) (k : Nat) : 0 ≤ i3 m k ∧ i3 m k ≤ 4000004000000 := by
  have := sumI_le (fun p => pinsts m p * (1 + p.vars.length)) 4000004 (by decide) (m.procs.take k) fun p hp => mul_le (pinsts_le m p) (by have := (h.i p (mem_of_take hp)).1; omega)
  have h1 := h.p
  have h2 : (m.procs.take k).length ≤ m.procs.length := by simp; omega
  unfold i3
  omega
theorem c1_succ {m : Model} {k : Nat} (h : k < m.vars.length) : c1 m (k + 1) = c1 m k + cells m.vars[k] m.scalars := sumI_take _ _ h
theorem c2_succ {m : Model} {k : Nat} (h : k < m.chans.length) : c2 m (k + 1) = c2 m k + ccap m.chans[k] := sumI_take _ _ h
theorem i1_succ {m : Model} {k : Nat} (h : k < m.procs.length) : i1 m (k + 1) = i1 m k + pinsts m m.procs[k] := sumI_take _ _ h
theorem i2_succ {m : Model} {k : Nat} (h : k < m.procs.length) : i2 m (k + 1) = i2 m k + pinsts m m.procs[k] * m.procs[k].cmds.length := sumI_take _ _ h
theorem i3_succ {m : Model} {k : Nat} (h : k < m.procs.length) : i3 m (k + 1) = i3 m k + pinsts m m.procs[k] * (1 + m.procs[k].vars.length) := sumI_take _ _ h
theorem pieces_eq (m : Model) {a b c : Nat} (ha : m.vars.length ≤ a) (hb : m.chans.length ≤ b) (hc : m.procs.length ≤ c) : pieces m = (i1 m c, i2 m c, c1 m a + c2 m b + i3 m c) := by
  unfold pieces i1 i2 i3 c1 c2
  rw [List.take_of_length_le ha, List.take_of_length_le hb, List.take_of_length_le hc]
end Abs
namespace Go.Proofs.YtpaahhleopalaaaGreatDoor
open Go Go.RowKit Lite
theorem pieces_r (cs : List Value) (m : Abs.Model) (w : World) (h : Abs.ModelIs w cs m) (hf : Abs.Few m) :
    Ret Tryz.prog F.model_Pieces #[.agg cs.toArray] w fun v w' => v = .tuple #[.int .i64 (Abs.pieces m).1, .int .i64 (Abs.pieces m).2.1, .int .i64 (Abs.pieces m).2.2] ∧ Ext w w' := by
  obtain ⟨o0, c0, o1, c1, o2, c2, o3, c3, o4, c4, rfl, h0, h1, h2, h3, h4, l0, l1, l2, l3, l4⟩ := h.form
  refine K.start hmix E.model_Pieces (args := [_]) (Nat.le_of_ble_eq_true rfl) ?_; dsimp only [C.model_Pieces]; refine Yy ?_
  refine Sg ?_
  intro w1 b1 hb1 he1 hc1
  have hcw := hc1
  clear hc1
  refine Sg ?_
  refine K.forG 18 m.vars.length [1, 5, 6, 16, 17] (fun s : Int => [(7, .int .i64 s)]) 0 (fun k s w' => Ext w1 w' ∧ s = Abs.c1 m k) hZq hZq ⟨Ext.refl _, by simp [Abs.c1, Abs.sumI]⟩ ?_
  rintro k _ S w2 hk ⟨he2, rfl⟩
  have hc1 := he2.obj hcw
  have E2 : ∀ {w'}, Ext w2 w' → Ext w w' := fun e => (he1.trans he2).trans e
  refine Sg ?_
  refine K.cond (fun g1 => ?_) (fun g1 => ?_)
  · have hk' : k < m.vars.length := by omega
    obtain ⟨a, rfl⟩ := h1.addr (by omega)
    have hcv := ((h1.at k hk').cells).ext (E2 (Ext.refl _))
    refine Sg ?_
    intro w3 b3 hb3 he3 hc3
    replace hc1 := he3.obj hc1
    refine Sg ?_
    refine K.call (cells_r m.vars[k] _ m.scalars w3 (h0.ext (E2 he3))) ?_
    rintro _ w4 ⟨rfl, he4⟩
    have q1 := Abs.c1_le hf k
    have q2 := Abs.cells_le m.vars[k] m.scalars
    refine Sg ?_
    exact ⟨hk', by first | trivial | rfl, _, hZq, (he2.trans he3).trans he4, (Abs.c1_succ hk').symm⟩
  have hkv : m.vars.length ≤ k := by omega
  refine Sg ?_
  refine K.forG 32 m.chans.length [1, 5, 6, 30, 31] (fun s : Int => [(7, .int .i64 s)]) (Abs.c1 m k) (fun j s w' => Ext w1 w' ∧ s = Abs.c1 m k + Abs.c2 m j) hZq hZq ⟨he2, by simp [Abs.c2, Abs.sumI]⟩ ?_
  clear hc1 E2
  rintro j _ S' w3 hj ⟨he3, rfl⟩
  have hc1 := he3.obj hcw
  have E3 : ∀ {w'}, Ext w3 w' → Ext w w' := fun e => (he1.trans he3).trans e
  refine Sg ?_
  refine K.cond (fun g2 => ?_) (fun g2 => ?_)
  · have hj' : j < m.chans.length := by omega
    obtain ⟨a, rfl⟩ := h2.addr (by omega)
    have hcv := ((h2.at j hj').cells).ext (E3 (Ext.refl _))
    refine Sg ?_
    intro w4 b3 hb3 he4 hc3
    have q1 := Abs.c1_le hf k
    have q2 := Abs.c2_le hf j
    have q3 := Abs.ccap_le m.chans[j]
    unfold Abs.ccap at q3
    refine Sg ?_
    exact ⟨hj', by first | trivial | rfl, _, hZq, he3.trans he4, by rw [Abs.c2_succ hj']; unfold Abs.ccap; omega⟩
  have hjc : m.chans.length ≤ j := by omega
  refine Sg ?_
  refine K.forG 47 m.procs.length [1, 45, 46] (fun s : Int × Int × Int => [(5, .int .i64 s.1), (6, .int .i64 s.2.1), (7, .int .i64 s.2.2)]) (0, 0, Abs.c1 m k + Abs.c2 m j)
    (fun i s w' => Ext w1 w' ∧ s = (Abs.i1 m i, Abs.i2 m i, Abs.c1 m k + Abs.c2 m j + Abs.i3 m i)) hZq hZq ⟨he3, by simp [Abs.i1, Abs.i2, Abs.i3, Abs.sumI]⟩ ?_
  clear hc1 E3
  rintro i _ S'' w4 hi ⟨he4, rfl⟩
  have hc1 := he4.obj hcw
  have E4 : ∀ {w'}, Ext w4 w' → Ext w w' := fun e => (he1.trans he4).trans e
  refine Sg ?_
  refine K.cond (fun g3 => ?_) (fun g3 => ?_)
  · have hi' : i < m.procs.length := by omega
    obtain ⟨a, rfl⟩ := h3.addr (by omega)
    obtain ⟨_, vv, vc, hp, hpv, hpc⟩ := h3.at i hi'
    obtain ⟨ov, cv, rfl, lv⟩ := hpv.form
    obtain ⟨oc, cc, rfl, lc⟩ := hpc.form
    replace hp := hp.ext (E4 (Ext.refl _))
    have hfi := hf.i _ (List.getElem_mem hi')
    refine Sg ?_
    intro w5 b3 hb3 he5 hc3
    replace hc1 := he5.obj hc1
    refine Sg ?_
    refine K.call (cells_r ⟨⟨#[]⟩, 0, m.procs[i].over, 0, 0, 0⟩ _ m.scalars w5 (h0.ext (E4 he5))) ?_
    rintro _ w6 ⟨rfl, he6⟩
    have hpi : Abs.cells ⟨⟨#[]⟩, 0, m.procs[i].over, 0, 0, 0⟩ m.scalars = Abs.pinsts m m.procs[i] := rfl
    rw [hpi]
    replace hc3 := he6.obj hc3
    have q1 := Abs.c1_le hf k
    have q2 := Abs.c2_le hf j
    have q3 := Abs.i1_le hf i
    have q4 := Abs.i2_le hf i
    have q5 := Abs.i3_le hf i
    have q6 := Abs.pinsts_le m m.procs[i]
    have q7 := Abs.mul_le q6 (b := m.procs[i].cmds.length) (by omega)
    have q8 := Abs.mul_le q6 (b := 1 + m.procs[i].vars.length) (by omega)
    refine Sg ?_
    exact ⟨hi', by first | trivial | rfl, (_, _, _), (by first | exact ⟨rfl, rfl, rfl, trivial⟩ | exact ⟨rfl, rfl, trivial⟩ | (simp -dsimp only [LL,slots_nil,slots_cons,keepV_nil,keepV_cons,has_nil,has_cons,Nat.reduceAdd,Nat.reduceEqDiff,reduceIte,and_self]; exact ⟨rfl, rfl, rfl, trivial⟩) | (simp -dsimp only [LL,slots_nil,slots_cons,keepV_nil,keepV_cons,has_nil,has_cons,Nat.reduceAdd,Nat.reduceEqDiff,reduceIte,and_self]; exact ⟨rfl, rfl, trivial⟩)), (he4.trans he5).trans he6, by rw [Abs.i1_succ hi', Abs.i2_succ hi', Abs.i3_succ hi']; exact Prod.ext rfl (Prod.ext rfl (Int.add_assoc _ _ _))⟩
  have hip : m.procs.length ≤ i := by omega
  refine Sg ?_
  exact ⟨by rw [Abs.pieces_eq m hkv hjc hip], E4 (Ext.refl _)⟩
end Go.Proofs.YtpaahhleopalaaaGreatDoor
end
section
/- Whole models: how many pieces, the document's. -/
set_option maxRecDepth 4000
set_option maxHeartbeats 6400000
namespace Go.Proofs.YtpaahhleopalaaaGreatDoor
open Go Go.RowKit Lite
theorem insts15_r (cs : List Value) (m : Abs.Model) (p : Abs.Proc) (vv vc : Value) (w : World) (h : Abs.ModelIs w cs m) :
    Ret Tryz.prog F.lariatref15_Insts #[.agg cs.toArray, .agg (p.enc vv vc).toArray] w fun v w' => v = .int .i64 (Abs.pinsts m p) ∧ Ext w w' := by
  obtain ⟨o0, c0, o1, c1, o2, c2, o3, c3, o4, c4, rfl, h0, _⟩ := h.form
  refine K.start hmix E.lariatref15_Insts (args := [_, _]) (Nat.le_of_ble_eq_true rfl) ?_; dsimp only [C.lariatref15_Insts]; refine Yy ?_
  refine Sg ?_
  intro w1 b1 hb1 he1 hc1
  refine Sg ?_
  intro w2 b2 hb2 he2 hc2
  refine Sg ?_
  refine K.cond (fun g => ?_) (fun g => ?_)
  · refine Sg ?_
    exact ⟨by rw [Abs.pinsts, if_pos g], he1.trans he2⟩
  refine Sg ?_
  refine K.call (refSize_r p.over _ m.scalars w2 (h0.ext (he1.trans he2))) ?_
  rintro _ _ ⟨rfl, rfl⟩
  refine Sg ?_
  exact ⟨by rw [Abs.pinsts, if_neg g], he1.trans he2⟩
theorem refPieces_r (cs : List Value) (m : Abs.Model) (w : World) (h : Abs.ModelIs w cs m) (hf : Abs.Few m) :
    Ret Tryz.prog F.lariatref15_Pieces #[.agg cs.toArray] w fun v w' => v = .tuple #[.int .i64 (Abs.pieces m).1, .int .i64 (Abs.pieces m).2.1, .int .i64 (Abs.pieces m).2.2] ∧ Ext w w' := by
  have hM := h
  obtain ⟨o0, c0, o1, c1, o2, c2, o3, c3, o4, c4, rfl, h0, h1, h2, h3, h4, l0, l1, l2, l3, l4⟩ := h.form
  refine K.start hmix E.lariatref15_Pieces (args := [_]) (Nat.le_of_ble_eq_true rfl) ?_; dsimp only [C.lariatref15_Pieces]; refine Yy ?_
  refine Sg ?_
  intro w1 b1 hb1 he1 hc1
  have hcw := hc1
  clear hc1
  refine Sg ?_
  refine K.forG 8 m.vars.length [1, 5, 6] (fun s : Int => [(7, .int .i64 s)]) 0 (fun k s w' => Ext w1 w' ∧ s = Abs.c1 m k) hZq hZq ⟨Ext.refl _, by simp [Abs.c1, Abs.sumI]⟩ ?_
  rintro k _ S w2 hk ⟨he2, rfl⟩
  have hc1 := he2.obj hcw
  have E2 : ∀ {w'}, Ext w2 w' → Ext w w' := fun e => (he1.trans he2).trans e
  refine Sg ?_
  refine K.cond (fun g1 => ?_) (fun g1 => ?_)
  · have hk' : k < m.vars.length := by omega
    obtain ⟨a, rfl⟩ := h1.addr (by omega)
    have hcv := ((h1.at k hk').cells).ext (E2 (Ext.refl _))
    have q1 := Abs.c1_le hf k
    have q2 := Abs.cells_le m.vars[k] m.scalars
    refine Sg ?_
    refine K.qfn (.int .i64 (Abs.cells m.vars[k] m.scalars)) (fun w' e => refCells_r m.vars[k] _ m.scalars w' (h0.ext (E2 e))) ?_
    refine Sg ?_
    intro w4 he4
    refine Sg ?_
    exact ⟨hk', by first | trivial | rfl, _, hZq, he2.trans he4, (Abs.c1_succ hk').symm⟩
  have hkv : m.vars.length ≤ k := by omega
  refine Sg ?_
  refine K.forG 9 m.chans.length [1, 5, 6] (fun s : Int => [(7, .int .i64 s)]) (Abs.c1 m k) (fun j s w' => Ext w1 w' ∧ s = Abs.c1 m k + Abs.c2 m j) hZq hZq ⟨he2, by simp [Abs.c2, Abs.sumI]⟩ ?_
  clear hc1 E2
  rintro j _ S' w3 hj ⟨he3, rfl⟩
  have hc1 := he3.obj hcw
  have E3 : ∀ {w'}, Ext w3 w' → Ext w w' := fun e => (he1.trans he3).trans e
  refine Sg ?_
  refine K.cond (fun g2 => ?_) (fun g2 => ?_)
  · have hj' : j < m.chans.length := by omega
    obtain ⟨a, rfl⟩ := h2.addr (by omega)
    have hcv := ((h2.at j hj').cells).ext (E3 (Ext.refl _))
    have q1 := Abs.c1_le hf k
    have q2 := Abs.c2_le hf j
    have q3 := Abs.ccap_le m.chans[j]
    unfold Abs.ccap at q3
    refine Sg ?_
    exact ⟨hj', by first | trivial | rfl, _, hZq, he3, by rw [Abs.c2_succ hj']; unfold Abs.ccap; omega⟩
  have hjc : m.chans.length ≤ j := by omega
  refine Sg ?_
  refine K.forG 10 m.procs.length [1] (fun s : Int × Int × Int => [(5, .int .i64 s.1), (6, .int .i64 s.2.1), (7, .int .i64 s.2.2)]) (0, 0, Abs.c1 m k + Abs.c2 m j)
    (fun i s w' => Ext w1 w' ∧ s = (Abs.i1 m i, Abs.i2 m i, Abs.c1 m k + Abs.c2 m j + Abs.i3 m i)) hZq hZq ⟨he3, by simp [Abs.i1, Abs.i2, Abs.i3, Abs.sumI]⟩ ?_
  clear hc1 E3
  rintro i _ S'' w4 hi ⟨he4, rfl⟩
  have hc1 := he4.obj hcw
  have E4 : ∀ {w'}, Ext w4 w' → Ext w w' := fun e => (he1.trans he4).trans e
  refine Sg ?_
  refine K.cond (fun g3 => ?_) (fun g3 => ?_)
  · have hi' : i < m.procs.length := by omega
    obtain ⟨a, rfl⟩ := h3.addr (by omega)
    obtain ⟨_, vv, vc, hp, hpv, hpc⟩ := h3.at i hi'
    obtain ⟨ov, cv, rfl, lv⟩ := hpv.form
    obtain ⟨oc, cc, rfl, lc⟩ := hpc.form
    replace hp := hp.ext (E4 (Ext.refl _))
    have hfi := hf.i _ (List.getElem_mem hi')
    refine Sg ?_
    refine K.qfn (.int .i64 (Abs.pinsts m m.procs[i])) (fun w' e => insts15_r _ m m.procs[i] _ _ w' (hM.ext (E4 e))) ?_
    refine Sg ?_
    intro w6 he6
    replace hc1 := he6.obj hc1
    replace hp := hp.ext he6
    have q1 := Abs.c1_le hf k
    have q2 := Abs.c2_le hf j
    have q3 := Abs.i1_le hf i
    have q4 := Abs.i2_le hf i
    have q5 := Abs.i3_le hf i
    have q6 := Abs.pinsts_le m m.procs[i]
    have q7 := Abs.mul_le q6 (b := m.procs[i].cmds.length) (by omega)
    have q8 := Abs.mul_le q6 (b := 1 + m.procs[i].vars.length) (by omega)
    refine Sg ?_
    exact ⟨hi', by first | trivial | rfl, (_, _, _), (by first | exact ⟨rfl, rfl, rfl, trivial⟩ | exact ⟨rfl, rfl, trivial⟩ | (simp -dsimp only [LL,slots_nil,slots_cons,keepV_nil,keepV_cons,has_nil,has_cons,Nat.reduceAdd,Nat.reduceEqDiff,reduceIte,and_self]; exact ⟨rfl, rfl, rfl, trivial⟩) | (simp -dsimp only [LL,slots_nil,slots_cons,keepV_nil,keepV_cons,has_nil,has_cons,Nat.reduceAdd,Nat.reduceEqDiff,reduceIte,and_self]; exact ⟨rfl, rfl, trivial⟩)), he4.trans he6, by rw [Abs.i1_succ hi', Abs.i2_succ hi', Abs.i3_succ hi']; exact Prod.ext rfl (Prod.ext rfl (Int.add_assoc _ _ _))⟩
  have hip : m.procs.length ≤ i := by omega
  refine Sg ?_
  exact ⟨by rw [Abs.pieces_eq m hkv hjc hip], E4 (Ext.refl _)⟩
end Go.Proofs.YtpaahhleopalaaaGreatDoor
end
section
/- Plain: what the reference finds is what is declared. No program in sight. -/
namespace Abs
open Go
theorem thing_k (a b : Int) (s : Scope) : (thing a b s).2 = ((kscalar a s).2 && (kscalar b s).2) ∧ ((thing a b s).2 = true → (thing a b s).1 = (if a = 0 then 0 else 1 + a)) := by
  unfold thing kscalar
  constructor
  · (repeat' split) <;> first | rfl | (exfalso; omega)
  · intro h
    (repeat' split) <;> first | rfl | (exfalso; omega) | simp_all
theorem declared_none {l : List Var} {n : Int} {s : Scope} (h : (kvar l n s).2.2 = false) : declared l n s = none := by
  unfold declared
  unfold kvar at h
  cases hn : nth l n with
  | none => rfl
  | some v =>
    rw [hn] at h
    simp only at h ⊢
    rw [if_neg]
    rw [(thing_k _ _ _).1, h]
    simp
theorem declared_some {l : List Var} {n : Int} {s : Scope} {x : Var} (h : (kvar l n s).2.2 = true) (hx : nth l n = some x) : declared l n s = some (x, if x.scalar = 0 then 0 else 1 + x.scalar) ∧ 0 ≤ x.scalar ∧ x.scalar ≤ s.scalars.length ∧ 0 ≤ x.over ∧ x.over ≤ s.scalars.length := by
  unfold kvar at h
  rw [hx] at h
  simp only at h
  have ht : (thing x.scalar x.over s).2 = true := by rw [(thing_k _ _ _).1]; exact h
  refine ⟨?_, ?_⟩
  · unfold declared
    rw [hx]
    simp only
    rw [if_pos ht, (thing_k _ _ _).2 ht]
  · unfold thing at ht
    split at ht
    · cases ht
    · omega
theorem channel_none {n : Int} {s : Scope} (h : ¬ (kLen n s).2 = 0) : channel n s = none := by
  unfold channel
  unfold kLen at h
  cases hn : nth s.chans n with
  | none => rfl
  | some c =>
    rw [hn] at h
    simp only at h ⊢
    rw [if_neg]
    intro ht
    rw [(thing_k _ _ _).1] at ht
    simp only [Bool.and_eq_true] at ht
    rw [if_pos ht.1] at h
    exact h rfl
theorem channel_some {n : Int} {s : Scope} {c : Chan} (h : (kLen n s).2 = 0) (hx : nth s.chans n = some c) : channel n s = some (if c.scalar = 0 then 0 else 1 + c.scalar) ∧ 0 ≤ c.scalar ∧ c.scalar ≤ s.scalars.length := by
  unfold kLen at h
  rw [hx] at h
  simp only at h
  have h1 : (kscalar c.scalar s).2 = true := by
    cases hk : (kscalar c.scalar s).2 with
    | true => rfl
    | false => rw [hk] at h; simp at h
  have ht : (thing c.scalar 0 s).2 = true := by rw [(thing_k _ _ _).1, h1]; simp [kscalar]
  refine ⟨?_, ?_⟩
  · unfold channel
    rw [hx]
    simp only
    rw [if_pos ht, (thing_k _ _ _).2 ht]
  · unfold thing at ht
    split at ht
    · cases ht
    · omega
/-- A plain variable's kind, or why it has none. -/
def plainE (l : List Var) (n : Int) (s : Scope) : Int × Int := match declared l n s with | none => (0, 8) | some (v, k) => if v.over ≠ 0 then (0, 9) else (k, 0)
def itemE (a : Act) (s : Scope) : Int := match declared s.vars a.to s with | none => 8 | some (v, k) => if v.over = 0 then 9 else if asked a.index (1 + v.over) s ≠ 0 then asked a.index (1 + v.over) s else asked a.value k s
/-- As the reference asks. -/
def ractE (a : Act) (s : Scope) (comm : Bool) : Int :=
  if a.kind < 1 ∨ 5 < a.kind then 3
  else if a.kind = 2 then itemE a s
  else if a.kind = 1 ∨ a.kind = 3 then (if (plainE (if a.kind = 3 then s.locals else s.vars) a.to s).2 ≠ 0 then (plainE (if a.kind = 3 then s.locals else s.vars) a.to s).2 else asked a.value (plainE (if a.kind = 3 then s.locals else s.vars) a.to s).1 s)
  else if comm = true then 7
  else match channel a.to s with
    | none => 8
    | some k => if a.kind = 4 then asked a.value k s else if (plainE s.locals a.loc s).2 ≠ 0 then (plainE s.locals a.loc s).2 else if (plainE s.locals a.loc s).1 ≠ k then 9 else 0
theorem ractE_eq (a : Act) (s : Scope) (comm : Bool) : ractE a s comm = if talks a && comm then 7 else actE a s := by
  by_cases h0 : a.kind < 1 ∨ 5 < a.kind
  · have ht : talks a = false := by unfold talks; rw [decide_eq_false_iff_not]; omega
    unfold ractE actE
    rw [if_pos h0, ht, if_neg (by omega : ¬ (a.kind = 1 ∨ a.kind = 2 ∨ a.kind = 3)), if_neg (by omega : ¬ (a.kind = 4 ∨ a.kind = 5))]
    simp
  by_cases h2 : a.kind = 2
  · have ht : talks a = false := by unfold talks; rw [decide_eq_false_iff_not]; omega
    unfold ractE actE
    rw [if_neg h0, if_pos h2, ht, if_pos (by omega : a.kind = 1 ∨ a.kind = 2 ∨ a.kind = 3)]
    simp only [Bool.false_and, Bool.false_eq_true, if_false]
    rw [if_neg (by omega : ¬ a.kind = 3)]
    unfold itemE
    cases hd : declared s.vars a.to s with
    | none => rfl
    | some q =>
      obtain ⟨v, k⟩ := q
      simp only [h2, true_and]
      by_cases hv : v.over = 0
      · simp [hv]
      · simp [hv]
  by_cases h1 : a.kind = 1 ∨ a.kind = 3
  · have ht : talks a = false := by unfold talks; rw [decide_eq_false_iff_not]; omega
    unfold ractE actE
    rw [if_neg h0, if_neg h2, if_pos h1, ht, if_pos (by omega : a.kind = 1 ∨ a.kind = 2 ∨ a.kind = 3)]
    simp only [Bool.false_and, Bool.false_eq_true, if_false]
    unfold plainE
    cases hd : declared (if a.kind = 3 then s.locals else s.vars) a.to s with
    | none => simp
    | some q =>
      obtain ⟨v, k⟩ := q
      simp only [h2, false_and, if_false]
      by_cases hv : v.over = 0
      · simp [hv]
      · simp [hv]
  · have h45 : a.kind = 4 ∨ a.kind = 5 := by omega
    have ht : talks a = true := by unfold talks; rw [decide_eq_true_eq]; omega
    unfold ractE actE
    rw [if_neg h0, if_neg h2, if_neg h1, ht, if_neg (by omega : ¬ (a.kind = 1 ∨ a.kind = 2 ∨ a.kind = 3)), if_pos h45]
    simp only [Bool.true_and]
    cases comm with
    | true => simp
    | false =>
      simp only [Bool.false_eq_true, if_false]
      cases hc : channel a.to s with
      | none => rfl
      | some k =>
        simp only
        by_cases h4 : a.kind = 4
        · rw [if_pos h4, if_neg (by omega : ¬ a.kind = 5)]
        · rw [if_neg h4, if_pos (by omega : a.kind = 5)]
          unfold plainE receives
          cases hd : declared s.locals a.loc s with
          | none => simp
          | some q =>
            obtain ⟨v, k'⟩ := q
            simp only
            by_cases hv : v.over = 0
            · simp [hv]
            · simp [hv]
end Abs
end
section
/- How many parts operations take; the ends of rows. -/
set_option maxRecDepth 4000
set_option linter.unusedSimpArgs false
set_option maxHeartbeats 1600000
namespace Go.Proofs.YtpaahhleopalaaaGreatDoor
open Go Go.RowKit Lite

theorem takes_r (op : Int) (w : World) : Ret Tryz.prog F.lariatref10_Takes #[.int .i64 op] w fun v w' => v = .int .i64 (Abs.nparts op) ∧ w' = w := by
  have key : ∀ n : Int, (if op = 3 then (1 : Int) else if 1 ≤ op ∧ op ≤ 8 then 0 else if op = 9 ∨ op = 10 then 1 else if 11 ≤ op ∧ op ≤ 19 then 2 else -1) = n → Abs.nparts op = n := fun _ h => h
  refine K.start hmix E.lariatref10_Takes (args := [_]) (Nat.le_of_ble_eq_true rfl) ?_
  dsimp only [C.lariatref10_Takes]; refine Yy ?_
  (repeat' first
 | (refine K.cond (fun _ => ?_) (fun _ => ?_) <;> try (exfalso; omega))
 | (refine K.condb (fun _ => ?_) (fun _ => ?_))
 | assumption
 | exact Ext.refl _
 | refine Ext.trans ?_ (by assumption)
 | refine K.wrap (by omega) ?_
 | refine K.ldb (by assumption) ?_ rfl ?_
 | refine K.ldb0 (by assumption) ?_ rfl ?_
 | refine K.ldE (by assumption) ?_ (by omega) rfl ?_
 | refine K.ldE0 (by assumption) ?_ (by omega) rfl ?_
 | refine K.ldAE (by assumption) ?_ (by omega) rfl ?_
 | refine K.iaC (by omega) ?_
 | refine K.condT (by first | assumption | omega) ?_
 | refine K.condF (by first | assumption | omega) ?_
 | refine K.condbT (by assumption) ?_
 | refine K.condbF (by assumption) ?_
 | simp -dsimp only [LL,B9,Nat.reduceAdd,Nat.reduceEqDiff,reduceIte,reduceCtorEq,Bool.false_eq_true])
  all_goals
    refine ⟨?_, by first | trivial | rfl⟩
    congr 1
    refine (key _ ?_).symm
    (repeat' split) <;> first | rfl | (exfalso; omega)
theorem np0 {x : Int} (h : Abs.nparts x = 0) : 1 ≤ x ∧ x ≤ 8 ∧ x ≠ 3 ∧ Abs.opOf x = none := by
  have h1 : 1 ≤ x ∧ x ≤ 8 ∧ x ≠ 3 := by unfold Abs.nparts at h; (repeat' split at h) <;> omega
  exact ⟨h1.1, h1.2.1, h1.2.2, Abs.opOf_none (by simp [Abs.isOp]; omega)⟩
theorem np1 {x : Int} (h : Abs.nparts x = 1) : x = 3 ∨ x = 9 ∨ x = 10 := by unfold Abs.nparts at h; (repeat' split at h) <;> omega
theorem np2 {x : Int} (h : Abs.nparts x = 2) : 11 ≤ x ∧ x ≤ 19 := by unfold Abs.nparts at h; (repeat' split at h) <;> omega
theorem opOf_some {x : Int} (h : 9 ≤ x ∧ x ≤ 19) : ∃ o, Abs.opOf x = some o ∧ o.parts = Abs.nparts x := by
  cases ho : Abs.opOf x with
  | some o => exact ⟨o, rfl, (Abs.opOf_parts ho).1⟩
  | none =>
    exfalso
    unfold Abs.opOf at ho
    (repeat' split at ho)
    all_goals first | (cases ho; done) | omega
theorem drop1 {st : List Int} (h : 1 ≤ st.length) : st.drop (st.length - 1) = [st[st.length - 1]] := by
  rw [List.drop_eq_getElem_cons (by omega), List.drop_eq_nil_of_le (by omega)]
theorem drop2 {st : List Int} (h : 2 ≤ st.length) : st.drop (st.length - 2) = [st[st.length - 2], st[st.length - 1]] := by
  rw [List.drop_eq_getElem_cons (by omega)]
  have e : st.length - 2 + 1 = st.length - 1 := by omega
  congr 1
  rw [e]
  exact drop1 (by omega)
theorem encI1 : ∀ y, ∀ u ∈ encI y, u.oneCell' = true := fun y u h => by simp [encI] at h; subst h; rfl
end Go.Proofs.YtpaahhleopalaaaGreatDoor
end
section
/- What the reference says of kinds. -/
set_option maxRecDepth 4000
set_option linter.unusedSimpArgs false
set_option maxHeartbeats 4000000
namespace Go.Proofs.YtpaahhleopalaaaGreatDoor
open Go Go.RowKit Lite

theorem rscalar_r (n : Int) (cs : List Value) (s : Abs.Scope) (w : World) (h : Abs.ScopeIs w cs s) :
    Ret Tryz.prog F.lariatref10_scalar #[.int .i64 n, .agg cs.toArray] w fun v w' => v = .bool (Abs.kscalar n s).2 ∧ Ext w w' := by
  obtain ⟨a0, c0, a1, c1, a2, c2, a3, c3, a4, c4, rfl, h0, h1, h2, h3, h4, l0, l1, l2, l3, l4⟩ := h.form
  refine K.start hmix E.lariatref10_scalar (args := [_, _]) (Nat.le_of_ble_eq_true rfl) ?_
  dsimp only [C.lariatref10_scalar]; refine Yy ?_
  refine St ?_
  refine K.new fun w1 b hb he1 hc1 => ?_
  (repeat' first
 | (refine K.cond (fun _ => ?_) (fun _ => ?_) <;> try (exfalso; omega))
 | (refine K.condb (fun _ => ?_) (fun _ => ?_))
 | assumption
 | exact Ext.refl _
 | refine Ext.trans ?_ (by assumption)
 | refine K.wrap (by omega) ?_
 | refine K.ldb (by assumption) ?_ rfl ?_
 | refine K.ldb0 (by assumption) ?_ rfl ?_
 | refine K.ldE (by assumption) ?_ (by omega) rfl ?_
 | refine K.ldE0 (by assumption) ?_ (by omega) rfl ?_
 | refine K.ldAE (by assumption) ?_ (by omega) rfl ?_
 | refine K.iaC (by omega) ?_
 | refine K.condT (by first | assumption | omega) ?_
 | refine K.condF (by first | assumption | omega) ?_
 | refine K.condbT (by assumption) ?_
 | refine K.condbF (by assumption) ?_
 | simp -dsimp only [LL,B9,Nat.reduceAdd,Nat.reduceEqDiff,reduceIte,reduceCtorEq,Bool.false_eq_true])
  all_goals
    refine ⟨?_, by (repeat' first | assumption | exact Ext.refl _ | refine Ext.trans ?_ (by assumption))⟩
    congr 1
    unfold Abs.kscalar
    (repeat' split) <;> first | rfl | (exfalso; omega) | (simp; omega)
def kindOf (n : Int) : Int := if n = 0 then 0 else 1 + n
theorem kindOf_r (n : Int) (w : World) (h : 0 ≤ n ∧ n ≤ 4611686018427387904) : Ret Tryz.prog F.lariatref10_KindOf #[.int .i64 n] w fun v w' => v = .int .i64 (kindOf n) ∧ w' = w := by
  refine K.start hmix E.lariatref10_KindOf (args := [_]) (Nat.le_of_ble_eq_true rfl) ?_
  dsimp only [C.lariatref10_KindOf]; refine Yy ?_
  (repeat' first
 | (refine K.cond (fun _ => ?_) (fun _ => ?_) <;> try (exfalso; omega))
 | (refine K.condb (fun _ => ?_) (fun _ => ?_))
 | assumption
 | exact Ext.refl _
 | refine Ext.trans ?_ (by assumption)
 | refine K.wrap (by omega) ?_
 | refine K.ldb (by assumption) ?_ rfl ?_
 | refine K.ldb0 (by assumption) ?_ rfl ?_
 | refine K.ldE (by assumption) ?_ (by omega) rfl ?_
 | refine K.ldE0 (by assumption) ?_ (by omega) rfl ?_
 | refine K.ldAE (by assumption) ?_ (by omega) rfl ?_
 | refine K.iaC (by omega) ?_
 | refine K.condT (by first | assumption | omega) ?_
 | refine K.condF (by first | assumption | omega) ?_
 | refine K.condbT (by assumption) ?_
 | refine K.condbF (by assumption) ?_
 | simp -dsimp only [LL,B9,Nat.reduceAdd,Nat.reduceEqDiff,reduceIte,reduceCtorEq,Bool.false_eq_true])
  all_goals
    refine ⟨?_, by first | trivial | rfl⟩
    congr 1
    unfold kindOf
    split <;> first | rfl | (exfalso; omega)
theorem kscalar_ok {n : Int} {s : Abs.Scope} (h : (Abs.kscalar n s).2 = true) : 0 ≤ n ∧ n ≤ s.scalars.length ∧ (Abs.kscalar n s).1 = kindOf n := by
  unfold Abs.kscalar kindOf at *
  (repeat' split at h) <;> (repeat' split) <;> first | (cases h; done) | (refine ⟨by omega, by omega, ?_⟩; first | rfl | omega) | (exfalso; omega)
theorem rvariable_r (v : Value) (l : List Abs.Var) (n : Int) (cs : List Value) (s : Abs.Scope) (w : World) (hl : Abs.Vars w v l) (h : Abs.ScopeIs w cs s) :
    Ret Tryz.prog F.lariatref10_Variable #[v, .int .i64 n, .agg cs.toArray] w fun v w' =>
      (∃ x : Abs.Var, v = .tuple #[.agg x.enc.toArray, .bool (Abs.kvar l n s).2.2] ∧ ((Abs.kvar l n s).2.2 = true → Abs.nth l n = some x)) ∧ Ext w w' := by
  obtain ⟨a0, c0, a1, c1, a2, c2, a3, c3, a4, c4, rfl, _⟩ := h.form
  obtain ⟨oa, cap, rfl, hlen⟩ := hl.form
  refine K.start hmix E.lariatref10_Variable (args := [_, _, _]) (Nat.le_of_ble_eq_true rfl) ?_
  dsimp only [C.lariatref10_Variable]; refine Yy ?_
  refine St ?_
  refine K.new fun w1 b hb he1 hc1 => ?_
  refine St ?_
  refine K.new fun w2 b2 hb2 he2 hc2 => ?_
  have he := he1.trans he2
  have hs2 := he2.obj hc1
  refine St ?_
  refine K.cond (fun g1 => ?_) (fun g1 => ?_)
  · have hk : (Abs.kvar l n s).2.2 = false := by rw [Abs.kvar, Abs.nth_none (.inl g1)]
    refine St ?_
    intro w3 he3
    refine St ?_
    refine K.bld (cs := (⟨⟨#[]⟩, 0, 0, 0, 0, 0⟩ : Abs.Var).enc) (by simp [fillC, Abs.Var.enc]) ?_
    refine St ?_
    refine K.stAb (cs := (⟨⟨#[]⟩, 0, 0, 0, 0, 0⟩ : Abs.Var).enc.toArray) (he3.obj hc2) rfl rfl (by simp [Abs.Var.enc, Value.oneCell']) fun w4 hw4 hc4 => ?_
    refine St ?_
    refine K.ldAb (c := Abs.Var.enc _) hc4 (Ext.refl _) rfl ?_
    refine St ?_
    exact ⟨⟨_, by rw [hk], by rw [hk]; intro h; cases h⟩, hw4.ext (he.trans he3) (by have := he1.size; omega)⟩
  refine St ?_
  refine K.cond (fun g2 => ?_) (fun g2 => ?_)
  · have hk : (Abs.kvar l n s).2.2 = false := by rw [Abs.kvar, Abs.nth_none (.inr (by omega))]
    refine St ?_
    intro w3 he3
    refine St ?_
    refine K.bld (cs := (⟨⟨#[]⟩, 0, 0, 0, 0, 0⟩ : Abs.Var).enc) (by simp [fillC, Abs.Var.enc]) ?_
    refine St ?_
    refine K.stAb (cs := (⟨⟨#[]⟩, 0, 0, 0, 0, 0⟩ : Abs.Var).enc.toArray) (he3.obj hc2) rfl rfl (by simp [Abs.Var.enc, Value.oneCell']) fun w4 hw4 hc4 => ?_
    refine St ?_
    refine K.ldAb (c := Abs.Var.enc _) hc4 (Ext.refl _) rfl ?_
    refine St ?_
    exact ⟨⟨_, by rw [hk], by rw [hk]; intro h; cases h⟩, hw4.ext (he.trans he3) (by have := he1.size; omega)⟩
  obtain ⟨i, rfl⟩ := Int.eq_ofNat_of_zero_le (show 0 ≤ n by omega)
  have hi : i < l.length := by omega
  have hn : Abs.nth l (i : Int) = some l[i] := by rw [Abs.nth_some (by omega) (by omega)]; simp only [Int.toNat_natCast]
  obtain ⟨a, rfl⟩ := hl.addr (by omega)
  refine St ?_
  refine K.ldAb (c := [_, _, _, _, _, _]) hs2 (Ext.refl _) rfl ?_
  refine St ?_
  refine K.qfn _ (fun w' e => rscalar_r _ _ s w' (h.ext (he.trans e))) ?_
  refine St ?_
  refine K.condb (fun g3 => ?_) (fun g3 => ?_)
  rotate_left
  · have hk : (Abs.kvar l i s).2.2 = false := by rw [Abs.kvar, hn]; simp only [g3, Bool.false_and]
    refine St ?_
    intro w3 he3
    refine St ?_
    refine K.bld (cs := (⟨⟨#[]⟩, 0, 0, 0, 0, 0⟩ : Abs.Var).enc) (by simp [fillC, Abs.Var.enc]) ?_
    refine St ?_
    refine K.stAb (cs := (⟨⟨#[]⟩, 0, 0, 0, 0, 0⟩ : Abs.Var).enc.toArray) (he3.obj hc2) rfl rfl (by simp [Abs.Var.enc, Value.oneCell']) fun w4 hw4 hc4 => ?_
    refine St ?_
    refine K.ldAb (c := Abs.Var.enc _) hc4 (Ext.refl _) rfl ?_
    refine St ?_
    exact ⟨⟨_, by rw [hk], by rw [hk]; intro h; cases h⟩, hw4.ext (he.trans he3) (by have := he1.size; omega)⟩
  refine St ?_
  refine K.ldAb (c := [_, _, _, _, _, _]) hs2 (Ext.refl _) rfl ?_
  refine St ?_
  refine K.qfn _ (fun w' e => rscalar_r _ _ s w' (h.ext (he.trans e))) ?_
  refine St ?_
  cases g4 : (Abs.kscalar l[i].over s).2 with
  | false =>
    have hk : (Abs.kvar l i s).2.2 = false := by rw [Abs.kvar, hn]; simp only [g4, Bool.and_false]
    refine St ?_
    intro w3 he3
    refine St ?_
    refine K.bld (cs := (⟨⟨#[]⟩, 0, 0, 0, 0, 0⟩ : Abs.Var).enc) (by simp [fillC, Abs.Var.enc]) ?_
    refine St ?_
    refine K.stAb (cs := (⟨⟨#[]⟩, 0, 0, 0, 0, 0⟩ : Abs.Var).enc.toArray) (he3.obj hc2) rfl rfl (by simp [Abs.Var.enc, Value.oneCell']) fun w4 hw4 hc4 => ?_
    refine St ?_
    refine K.ldAb (c := Abs.Var.enc _) hc4 (Ext.refl _) rfl ?_
    refine St ?_
    exact ⟨⟨_, by rw [hk], by rw [hk]; intro h; cases h⟩, hw4.ext (he.trans he3) (by have := he1.size; omega)⟩
  | true =>
    have hk : (Abs.kvar l i s).2.2 = true := by rw [Abs.kvar, hn]; simp only [g3, g4, Bool.and_true]
    refine St ?_
    intro w3 he3
    refine St ?_
    refine K.stAb (cs := l[i].enc.toArray) (he3.obj hc2) rfl rfl (by simp [Abs.Var.enc, Value.oneCell']) fun w4 hw4 hc4 => ?_
    refine St ?_
    refine K.ldAb (c := Abs.Var.enc _) hc4 (Ext.refl _) rfl ?_
    refine St ?_
    exact ⟨⟨_, by rw [hk], fun _ => hn⟩, hw4.ext (he.trans he3) (by have := he1.size; omega)⟩
theorem rchannel_r (n : Int) (cs : List Value) (s : Abs.Scope) (w : World) (h : Abs.ScopeIs w cs s) :
    Ret Tryz.prog F.lariatref10_Channel #[.int .i64 n, .agg cs.toArray] w fun v w' =>
      (∃ x : Abs.Chan, v = .tuple #[.agg x.enc.toArray, .bool (decide ((Abs.kLen n s).2 = 0))] ∧ ((Abs.kLen n s).2 = 0 → Abs.nth s.chans n = some x)) ∧ Ext w w' := by
  obtain ⟨a0, c0, a1, c1, a2, c2, a3, c3, a4, c4, rfl, h0, h1, h2, h3, h4, l0, l1, l2, l3, l4⟩ := h.form
  refine K.start hmix E.lariatref10_Channel (args := [_, _]) (Nat.le_of_ble_eq_true rfl) ?_
  dsimp only [C.lariatref10_Channel]; refine Yy ?_
  refine St ?_
  refine K.new fun w1 b hb he1 hc1 => ?_
  refine St ?_
  refine K.new fun w2 b2 hb2 he2 hc2 => ?_
  have he := he1.trans he2
  have hs2 := he2.obj hc1
  refine St ?_
  refine K.cond (fun g1 => ?_) (fun g1 => ?_)
  · have hk : (Abs.kLen n s).2 = 8 := by rw [Abs.kLen, Abs.nth_none (.inl g1)]
    refine St ?_
    intro w3 he3
    refine St ?_
    refine K.bld (cs := (⟨⟨#[]⟩, 0, 0, 0, 0, false⟩ : Abs.Chan).enc) (by simp [fillC, Abs.Chan.enc]) ?_
    refine St ?_
    refine K.stAb (cs := (⟨⟨#[]⟩, 0, 0, 0, 0, false⟩ : Abs.Chan).enc.toArray) (he3.obj hc2) rfl rfl (by simp [Abs.Chan.enc, Value.oneCell']) fun w4 hw4 hc4 => ?_
    refine St ?_
    refine K.ldAb (c := Abs.Chan.enc _) hc4 (Ext.refl _) rfl ?_
    refine St ?_
    exact ⟨⟨_, by rw [hk]; rfl, by rw [hk]; intro h; cases h⟩, hw4.ext (he.trans he3) (by have := he1.size; omega)⟩
  refine St ?_
  refine K.cond (fun g2 => ?_) (fun g2 => ?_)
  · have hk : (Abs.kLen n s).2 = 8 := by rw [Abs.kLen, Abs.nth_none (.inr (by omega))]
    refine St ?_
    intro w3 he3
    refine St ?_
    refine K.bld (cs := (⟨⟨#[]⟩, 0, 0, 0, 0, false⟩ : Abs.Chan).enc) (by simp [fillC, Abs.Chan.enc]) ?_
    refine St ?_
    refine K.stAb (cs := (⟨⟨#[]⟩, 0, 0, 0, 0, false⟩ : Abs.Chan).enc.toArray) (he3.obj hc2) rfl rfl (by simp [Abs.Chan.enc, Value.oneCell']) fun w4 hw4 hc4 => ?_
    refine St ?_
    refine K.ldAb (c := Abs.Chan.enc _) hc4 (Ext.refl _) rfl ?_
    refine St ?_
    exact ⟨⟨_, by rw [hk]; rfl, by rw [hk]; intro h; cases h⟩, hw4.ext (he.trans he3) (by have := he1.size; omega)⟩
  obtain ⟨i, rfl⟩ := Int.eq_ofNat_of_zero_le (show 0 ≤ n by omega)
  have hi : i < s.chans.length := by omega
  have hn : Abs.nth s.chans (i : Int) = some s.chans[i] := by rw [Abs.nth_some (by omega) (by omega)]; simp only [Int.toNat_natCast]
  obtain ⟨a, rfl⟩ := h2.addr (by omega)
  refine St ?_
  refine K.ldAb (c := [_, _, _, _, _, _]) hs2 (Ext.refl _) rfl ?_
  refine St ?_
  refine K.qfn _ (fun w' e => rscalar_r _ _ s w' (h.ext (he.trans e))) ?_
  refine St ?_
  cases g4 : (Abs.kscalar s.chans[i].scalar s).2 with
  | false =>
    have hk : (Abs.kLen i s).2 = 8 := by rw [Abs.kLen, hn]; simp only [g4, Bool.false_eq_true, if_false]
    refine St ?_
    intro w3 he3
    refine St ?_
    refine K.bld (cs := (⟨⟨#[]⟩, 0, 0, 0, 0, false⟩ : Abs.Chan).enc) (by simp [fillC, Abs.Chan.enc]) ?_
    refine St ?_
    refine K.stAb (cs := (⟨⟨#[]⟩, 0, 0, 0, 0, false⟩ : Abs.Chan).enc.toArray) (he3.obj hc2) rfl rfl (by simp [Abs.Chan.enc, Value.oneCell']) fun w4 hw4 hc4 => ?_
    refine St ?_
    refine K.ldAb (c := Abs.Chan.enc _) hc4 (Ext.refl _) rfl ?_
    refine St ?_
    exact ⟨⟨_, by rw [hk]; rfl, by rw [hk]; intro h; cases h⟩, hw4.ext (he.trans he3) (by have := he1.size; omega)⟩
  | true =>
    have hk : (Abs.kLen i s).2 = 0 := by rw [Abs.kLen, hn]; simp only [g4, if_true]
    refine St ?_
    intro w3 he3
    refine St ?_
    refine K.stAb (cs := s.chans[i].enc.toArray) (he3.obj hc2) rfl rfl (by simp [Abs.Chan.enc, Value.oneCell']) fun w4 hw4 hc4 => ?_
    refine St ?_
    refine K.ldAb (c := Abs.Chan.enc _) hc4 (Ext.refl _) rfl ?_
    refine St ?_
    exact ⟨⟨_, by rw [hk]; rfl, fun _ => hn⟩, hw4.ext (he.trans he3) (by have := he1.size; omega)⟩
end Go.Proofs.YtpaahhleopalaaaGreatDoor
end
section
/- What the reference says of kinds: leaves, operations. -/
set_option maxRecDepth 4000
set_option linter.unusedSimpArgs false
set_option maxHeartbeats 1600000
namespace Go.Proofs.YtpaahhleopalaaaGreatDoor
open Go Go.RowKit Lite

theorem kvar_ok {l : List Abs.Var} {n : Int} {s : Abs.Scope} {x : Abs.Var} (h : (Abs.kvar l n s).2.2 = true) (hx : Abs.nth l n = some x) :
    (Abs.kvar l n s).1 = kindOf x.scalar ∧ (Abs.kvar l n s).2.1 = kindOf x.over ∧ 0 ≤ x.scalar ∧ x.scalar ≤ s.scalars.length ∧ 0 ≤ x.over ∧ x.over ≤ s.scalars.length := by
  unfold Abs.kvar at h ⊢
  rw [hx] at h ⊢
  simp only [Bool.and_eq_true] at h ⊢
  obtain ⟨a1, a2, a3⟩ := kscalar_ok h.1
  obtain ⟨b1, b2, b3⟩ := kscalar_ok h.2
  exact ⟨a3, b3, a1, a2, b1, b2⟩
theorem rleaf_r (x : Abs.Node) (cs : List Value) (s : Abs.Scope) (w : World) (hx : x.ok) (h : Abs.ScopeIs w cs s) (hop : 1 ≤ x.op ∧ x.op ≤ 8) (h3 : x.op ≠ 3) (t : Int) :
    Ret Tryz.prog F.lariatref10_leaf #[.agg x.enc.toArray, .agg cs.toArray] w fun v w' => v = .tuple #[.int .i64 (Abs.kleaf x s t).1, .int .i64 (Abs.kleaf x s t).2] ∧ Ext w w' := by
  obtain ⟨a0, c0, a1, c1, a2, c2, a3, c3, a4, c4, rfl, q0, q1, q2, q3, q4, l0, l1, l2, l3, l4⟩ := h.form
  refine K.start hmix E.lariatref10_leaf (args := [_, _]) (Nat.le_of_ble_eq_true rfl) ?_
  dsimp only [C.lariatref10_leaf]; refine Yy ?_
  refine St ?_
  refine K.new fun w1 b1 hb1 he1 hc1 => ?_
  refine St ?_
  refine K.new fun w2 b2 hb2 he2 hc2 => ?_
  have he := he1.trans he2
  have k1 : w2.heap[b1]? = some (.cells #[.int .i64 x.op, .int .i64 x.n] T.api_Node) := he2.obj hc1
  clear hc1
  refine St ?_
  refine K.cond (fun g1 => ?_) (fun g1 => ?_)
  · have hk : Abs.kleaf x s t = if Abs.within x.n then (0, 0) else (0, 10) := by rw [Abs.kleaf, if_pos g1]
    (repeat' first
 | (refine K.cond (fun _ => ?_) (fun _ => ?_) <;> try (exfalso; omega))
 | (refine K.condb (fun _ => ?_) (fun _ => ?_))
 | assumption
 | exact Ext.refl _
 | refine Ext.trans ?_ (by assumption)
 | refine K.wrap (by omega) ?_
 | refine K.ldb (by assumption) ?_ rfl ?_
 | refine K.ldb0 (by assumption) ?_ rfl ?_
 | refine K.ldE (by assumption) ?_ (by omega) rfl ?_
 | refine K.ldE0 (by assumption) ?_ (by omega) rfl ?_
 | refine K.ldAE (by assumption) ?_ (by omega) rfl ?_
 | refine K.iaC (by omega) ?_
 | refine K.condT (by first | assumption | omega) ?_
 | refine K.condF (by first | assumption | omega) ?_
 | refine K.condbT (by assumption) ?_
 | refine K.condbF (by assumption) ?_
 | simp -dsimp only [LL,B9,Nat.reduceAdd,Nat.reduceEqDiff,reduceIte,reduceCtorEq,Bool.false_eq_true])
    all_goals
      refine ⟨?_, by (repeat' first | assumption | exact Ext.refl _ | refine Ext.trans ?_ (by assumption))⟩
      rw [hk]
      unfold Abs.within
      split <;> first | rfl | (rename_i hh; simp at hh; exfalso; omega)
  by_cases hv : x.op = 2 ∨ x.op = 4
  · have hk : Abs.kleaf x s t = (let q := Abs.kvar (if x.op = 4 then s.locals else s.vars) x.n s; if q.2.2 = false then (0, 8) else if (x.op = 3 ∧ (q.2.1 = 0 ∨ t ≠ q.2.1)) ∨ (x.op ≠ 3 ∧ q.2.1 ≠ 0) then (0, 9) else (q.1, 0)) := by
      rw [Abs.kleaf, if_neg g1, if_pos (by omega)]
    by_cases g4 : x.op = 4
    · rw [if_pos g4] at hk
      rw [hk]
      refine St ?_
      refine K.ldAb (c := [_, _, _, _, _, _]) hc2 (Ext.refl _) rfl ?_
      refine St ?_
      refine K.call (rvariable_r _ s.locals x.n _ s w2 (q4.ext he) (h.ext he)) ?_
      rintro _ w3 ⟨⟨y, rfl, hy⟩, he3⟩
      have hok : (Abs.kvar s.locals x.n s).2.2 = true → _ := fun g => kvar_ok g (hy g)
      clear hy hk
      generalize Abs.kvar s.locals x.n s = q at hok ⊢
      obtain ⟨qk, qo, qi⟩ := q
      refine St ?_
      refine K.newst (vs := y.enc) (fun _ => by simp -dsimp only [LL,B9,Nat.reduceAdd,Nat.reduceEqDiff,reduceIte,reduceCtorEq,Bool.false_eq_true]) rfl rfl (by simp [Abs.Var.enc, Value.oneCell']) fun w4 b4 hb4 he4 hc4 => ?_
      have k4 : w4.heap[b4]? = some (.cells #[.string y.name, .int .i64 y.scalar, .int .i64 y.over, .int .i64 y.lo, .int .i64 y.hi, .int .i64 y.init] T.api_Var) := hc4
      clear hc4
      refine St ?_
      refine K.condb (fun g5 => ?_) (fun g5 => ?_)
      rotate_left
      · refine St ?_
        simp only [g5, if_true]
        (refine ⟨?_, ?_⟩ <;> first | trivial | rfl | (repeat' first | assumption | exact Ext.refl _ | refine Ext.trans ?_ (by assumption)))
      obtain ⟨z1, z2, z3, z4, z5, z6⟩ := hok g5
      have hko : kindOf y.over = 0 ↔ y.over = 0 := by unfold kindOf; split <;> omega
      have z1' : qk = kindOf y.scalar := z1
      have z2' : qo = kindOf y.over := z2
      refine St ?_
      refine K.cond (fun g6 => ?_) (fun g6 => ?_)
      · refine St ?_
        refine K.call (kindOf_r y.scalar w4 (by omega)) ?_
        rintro _ _ ⟨rfl, rfl⟩
        refine St ?_
        simp only [g5, Bool.true_eq_false, if_false, z1', z2']
        rw [if_neg (by rw [ne_eq, hko]; omega)]
        (refine ⟨?_, ?_⟩ <;> first | trivial | rfl | (repeat' first | assumption | exact Ext.refl _ | refine Ext.trans ?_ (by assumption)))
      · refine St ?_
        simp only [g5, Bool.true_eq_false, if_false, z1', z2']
        rw [if_pos (.inr ⟨h3, by rw [ne_eq, hko]; exact g6⟩)]
        (refine ⟨?_, ?_⟩ <;> first | trivial | rfl | (repeat' first | assumption | exact Ext.refl _ | refine Ext.trans ?_ (by assumption)))
    · rw [if_neg g4] at hk
      rw [hk]
      refine St ?_
      refine K.ldAb (c := [_, _, _, _, _, _]) hc2 (Ext.refl _) rfl ?_
      refine St ?_
      refine K.call (rvariable_r _ s.vars x.n _ s w2 (q1.ext he) (h.ext he)) ?_
      rintro _ w3 ⟨⟨y, rfl, hy⟩, he3⟩
      have hok : (Abs.kvar s.vars x.n s).2.2 = true → _ := fun g => kvar_ok g (hy g)
      clear hy hk
      generalize Abs.kvar s.vars x.n s = q at hok ⊢
      obtain ⟨qk, qo, qi⟩ := q
      refine St ?_
      refine K.newst (vs := y.enc) (fun _ => by simp -dsimp only [LL,B9,Nat.reduceAdd,Nat.reduceEqDiff,reduceIte,reduceCtorEq,Bool.false_eq_true]) rfl rfl (by simp [Abs.Var.enc, Value.oneCell']) fun w4 b4 hb4 he4 hc4 => ?_
      have k4 : w4.heap[b4]? = some (.cells #[.string y.name, .int .i64 y.scalar, .int .i64 y.over, .int .i64 y.lo, .int .i64 y.hi, .int .i64 y.init] T.api_Var) := hc4
      clear hc4
      refine St ?_
      refine K.condb (fun g5 => ?_) (fun g5 => ?_)
      rotate_left
      · refine St ?_
        simp only [g5, if_true]
        (refine ⟨?_, ?_⟩ <;> first | trivial | rfl | (repeat' first | assumption | exact Ext.refl _ | refine Ext.trans ?_ (by assumption)))
      obtain ⟨z1, z2, z3, z4, z5, z6⟩ := hok g5
      have hko : kindOf y.over = 0 ↔ y.over = 0 := by unfold kindOf; split <;> omega
      have z1' : qk = kindOf y.scalar := z1
      have z2' : qo = kindOf y.over := z2
      refine St ?_
      refine K.cond (fun g6 => ?_) (fun g6 => ?_)
      · refine St ?_
        refine K.call (kindOf_r y.scalar w4 (by omega)) ?_
        rintro _ _ ⟨rfl, rfl⟩
        refine St ?_
        simp only [g5, Bool.true_eq_false, if_false, z1', z2']
        rw [if_neg (by rw [ne_eq, hko]; omega)]
        (refine ⟨?_, ?_⟩ <;> first | trivial | rfl | (repeat' first | assumption | exact Ext.refl _ | refine Ext.trans ?_ (by assumption)))
      · refine St ?_
        simp only [g5, Bool.true_eq_false, if_false, z1', z2']
        rw [if_pos (.inr ⟨h3, by rw [ne_eq, hko]; exact g6⟩)]
        (refine ⟨?_, ?_⟩ <;> first | trivial | rfl | (repeat' first | assumption | exact Ext.refl _ | refine Ext.trans ?_ (by assumption)))
  have hk : Abs.kleaf x s t = Abs.knamed x s := by rw [Abs.kleaf, if_neg g1, if_neg (by omega)]
  rw [hk]
  clear hk
  refine St ?_
  refine K.cond (fun g5 => ?_) (fun g5 => ?_)
  · (repeat' first
 | (refine K.cond (fun _ => ?_) (fun _ => ?_) <;> try (exfalso; omega))
 | (refine K.condb (fun _ => ?_) (fun _ => ?_))
 | assumption
 | exact Ext.refl _
 | refine Ext.trans ?_ (by assumption)
 | refine K.wrap (by omega) ?_
 | refine K.ldb (by assumption) ?_ rfl ?_
 | refine K.ldb0 (by assumption) ?_ rfl ?_
 | refine K.ldE (by assumption) ?_ (by omega) rfl ?_
 | refine K.ldE0 (by assumption) ?_ (by omega) rfl ?_
 | refine K.ldAE (by assumption) ?_ (by omega) rfl ?_
 | refine K.iaC (by omega) ?_
 | refine K.condT (by first | assumption | omega) ?_
 | refine K.condF (by first | assumption | omega) ?_
 | refine K.condbT (by assumption) ?_
 | refine K.condbF (by assumption) ?_
 | simp -dsimp only [LL,B9,Nat.reduceAdd,Nat.reduceEqDiff,reduceIte,reduceCtorEq,Bool.false_eq_true])
    all_goals
      refine ⟨?_, by (repeat' first | assumption | exact Ext.refl _ | refine Ext.trans ?_ (by assumption))⟩
      rw [Abs.knamed, if_pos g5]
      split <;> first | rfl | (exfalso; omega)
  refine St ?_
  refine K.cond (fun g6 => ?_) (fun g6 => ?_)
  · have hk : Abs.knamed x s = Abs.kLen x.n s := by rw [Abs.knamed, if_neg g5, if_pos g6]
    rw [hk]
    have hk1 : (Abs.kLen x.n s).1 = 0 ∧ ((Abs.kLen x.n s).2 = 0 ∨ (Abs.kLen x.n s).2 = 8) := by
      unfold Abs.kLen; (repeat' split) <;> simp
    refine St ?_
    refine K.ldAb (c := [_, _, _, _, _, _]) hc2 (Ext.refl _) rfl ?_
    refine St ?_
    refine K.call (rchannel_r x.n _ s w2 (h.ext he)) ?_
    rintro _ w3 ⟨⟨y, rfl, hy⟩, he3⟩
    generalize Abs.kLen x.n s = q at *
    obtain ⟨q1, q2⟩ := q
    obtain ⟨rfl, hq⟩ := hk1
    refine St ?_
    refine K.newst (vs := y.enc) (fun _ => by simp -dsimp only [LL,B9,Nat.reduceAdd,Nat.reduceEqDiff,reduceIte,reduceCtorEq,Bool.false_eq_true]) rfl rfl (by simp [Abs.Chan.enc, Value.oneCell']) fun w4 b4 hb4 he4 hc4 => ?_
    refine St ?_
    refine K.cond (fun g7 => ?_) (fun g7 => ?_)
    · refine St ?_
      have g8 : q2 = 0 := g7
      rw [g8]
      (refine ⟨?_, ?_⟩ <;> first | trivial | rfl | (repeat' first | assumption | exact Ext.refl _ | refine Ext.trans ?_ (by assumption)))
    · refine St ?_
      have : q2 = 8 := hq.resolve_left g7
      rw [this]
      (refine ⟨?_, ?_⟩ <;> first | trivial | rfl | (repeat' first | assumption | exact Ext.refl _ | refine Ext.trans ?_ (by assumption)))
  refine St ?_
  refine K.cond (fun g7 => ?_) (fun g7 => ?_)
  · have hk : Abs.knamed x s = Abs.kAt x.n s := by rw [Abs.knamed, if_neg g5, if_neg g6, if_pos g7]
    rw [hk, Abs.kAt]
    refine St ?_
    refine K.cond (fun g1 => ?_) (fun g1 => ?_)
    · refine St ?_
      intro w3 he3
      refine St ?_
      rw [if_neg (by omega)]
      (refine ⟨?_, ?_⟩ <;> first | trivial | rfl | (repeat' first | assumption | exact Ext.refl _ | refine Ext.trans ?_ (by assumption)))
    rw [if_pos (by omega)]
    obtain ⟨i, hi⟩ := Int.eq_ofNat_of_zero_le (show 0 ≤ x.n by omega)
    obtain ⟨_, hx2⟩ := hx.n
    rw [hi] at hx2
    have hq : x.n.tdiv 16 = ((i / 16 : Nat) : Int) := by rw [hi]; rfl
    have hm : x.n.tmod 16 = ((i % 16 : Nat) : Int) := by rw [hi]; rfl
    refine St ?_
    refine K.quo (by omega) ?_
    rw [hq]
    refine St ?_
    refine K.cond (fun g2 => ?_) (fun g2 => ?_)
    · refine St ?_
      intro w3 he3
      refine St ?_
      rw [Abs.nth_none (.inr (by omega))]
      (refine ⟨?_, ?_⟩ <;> first | trivial | rfl | (repeat' first | assumption | exact Ext.refl _ | refine Ext.trans ?_ (by assumption)))
    have hj : i / 16 < s.procs.length := by omega
    rw [Abs.nth_some (by omega) (by omega)]
    simp only [Int.toNat_natCast]
    refine St ?_
    refine K.rem (by omega) ?_
    refine St ?_
    refine K.quo (by omega) ?_
    rw [hq]
    obtain ⟨a, rfl⟩ := q3.addr (by omega)
    obtain ⟨_, vv, vc, hcp, _⟩ := q3.at (i / 16) hj
    have hcp2 : w.cell? ((a.add (i / 16 * 5)).add 2) = some (.int .i64 s.procs[i / 16].locs) := hcp 2 _ rfl
    refine St ?_
    refine K.ld ((he1.trans he2).cell hcp2) ?_
    refine St ?_
    rw [hm]
    intro w3 he3
    refine St ?_
    refine K.cond (fun g3 => ?_) (fun g3 => ?_)
    all_goals
      refine St ?_
      refine ⟨?_, by (repeat' first | assumption | exact Ext.refl _ | refine Ext.trans ?_ (by assumption))⟩
      first | rw [if_pos (by omega)] | rw [if_neg (by omega)]
  (repeat' first
 | (refine K.cond (fun _ => ?_) (fun _ => ?_) <;> try (exfalso; omega))
 | (refine K.condb (fun _ => ?_) (fun _ => ?_))
 | assumption
 | exact Ext.refl _
 | refine Ext.trans ?_ (by assumption)
 | refine K.wrap (by omega) ?_
 | refine K.ldb (by assumption) ?_ rfl ?_
 | refine K.ldb0 (by assumption) ?_ rfl ?_
 | refine K.ldE (by assumption) ?_ (by omega) rfl ?_
 | refine K.ldE0 (by assumption) ?_ (by omega) rfl ?_
 | refine K.ldAE (by assumption) ?_ (by omega) rfl ?_
 | refine K.iaC (by omega) ?_
 | refine K.condT (by first | assumption | omega) ?_
 | refine K.condF (by first | assumption | omega) ?_
 | refine K.condbT (by assumption) ?_
 | refine K.condbF (by assumption) ?_
 | simp -dsimp only [LL,B9,Nat.reduceAdd,Nat.reduceEqDiff,reduceIte,reduceCtorEq,Bool.false_eq_true])
  all_goals
    refine ⟨?_, by (repeat' first | assumption | exact Ext.refl _ | refine Ext.trans ?_ (by assumption))⟩
    rw [Abs.knamed, if_neg g5, if_neg g6, if_neg g7, if_pos (by omega)]
    split <;> first | rfl | (exfalso; omega)
end Go.Proofs.YtpaahhleopalaaaGreatDoor
end
section
/- What the reference says of kinds: all. -/
set_option maxRecDepth 4000
set_option linter.unusedSimpArgs false
set_option maxHeartbeats 1600000
namespace Go.Proofs.YtpaahhleopalaaaGreatDoor
open Go Go.RowKit Lite

theorem ktwo1 (o : Abs.OpD) (k : Int) : Abs.ktwo o [k] = if o.takes = -1 ∨ k = o.takes then (o.makes, 0) else (0, 9) := by
  simp [Abs.ktwo]
theorem ktwo2 (o : Abs.OpD) (a b : Int) : Abs.ktwo o [a, b] = if (o.takes = -1 ∨ a = o.takes) ∧ a = b then (o.makes, 0) else (0, 9) := by
  simp only [Abs.ktwo, List.all_cons, List.all_nil, List.headD_cons, Bool.and_true, decide_true]
  by_cases h : a = b
  · subst h; simp
  · have h' : ¬ b = a := fun e => h e.symm
    simp [h, h']
def oneK (x : Abs.Node) (k : Int) (s : Abs.Scope) : Int × Int := match Abs.opOf x.op with | some o => Abs.ktwo o [k] | none => Abs.kleaf x s k
theorem rone_r (x : Abs.Node) (k : Int) (cs : List Value) (s : Abs.Scope) (w : World) (h : Abs.ScopeIs w cs s) (hop : x.op = 3 ∨ x.op = 9 ∨ x.op = 10) :
    Ret Tryz.prog F.lariatref10_one #[.agg x.enc.toArray, .int .i64 k, .agg cs.toArray] w fun v w' => v = .tuple #[.int .i64 (oneK x k s).1, .int .i64 (oneK x k s).2] ∧ Ext w w' := by
  obtain ⟨a0, c0, a1, c1, a2, c2, a3, c3, a4, c4, rfl, q0, q1, q2, q3, q4, l0, l1, l2, l3, l4⟩ := h.form
  refine K.start hmix E.lariatref10_one (args := [_, _, _]) (Nat.le_of_ble_eq_true rfl) ?_
  dsimp only [C.lariatref10_one]; refine Yy ?_
  refine St ?_
  refine K.new fun w1 b1 hb1 he1 hc1 => ?_
  refine St ?_
  refine K.new fun w2 b2 hb2 he2 hc2 => ?_
  have he := he1.trans he2
  have k1 : w2.heap[b1]? = some (.cells #[.int .i64 x.op, .int .i64 x.n] T.api_Node) := he2.obj hc1
  clear hc1
  refine St ?_
  refine K.cond (fun g1 => ?_) (fun g1 => ?_)
  · have ho : Abs.opOf x.op = none := by rw [g1]; rfl
    have hk : oneK x k s = (let q := Abs.kvar s.vars x.n s; if q.2.2 = false then (0, 8) else if (x.op = 3 ∧ (q.2.1 = 0 ∨ k ≠ q.2.1)) ∨ (x.op ≠ 3 ∧ q.2.1 ≠ 0) then (0, 9) else (q.1, 0)) := by
      rw [oneK, ho]
      simp only
      rw [Abs.kleaf, if_neg (by omega), if_pos (by omega)]
      simp only [show ¬ x.op = 4 from by omega, if_false]
    rw [hk]
    refine St ?_
    refine K.ldAb (c := [_, _, _, _, _, _]) hc2 (Ext.refl _) rfl ?_
    refine St ?_
    refine K.call (rvariable_r _ s.vars x.n _ s w2 (q1.ext he) (h.ext he)) ?_
    rintro _ w3 ⟨⟨y, rfl, hy⟩, he3⟩
    have hok : (Abs.kvar s.vars x.n s).2.2 = true → _ := fun g => kvar_ok g (hy g)
    clear hy hk
    generalize Abs.kvar s.vars x.n s = q at hok ⊢
    obtain ⟨qk, qo, qi⟩ := q
    refine St ?_
    refine K.newst (vs := y.enc) (fun _ => by simp -dsimp only [LL,B9,Nat.reduceAdd,Nat.reduceEqDiff,reduceIte,reduceCtorEq,Bool.false_eq_true]) rfl rfl (by simp [Abs.Var.enc, Value.oneCell']) fun w4 b4 hb4 he4 hc4 => ?_
    have k4 : w4.heap[b4]? = some (.cells #[.string y.name, .int .i64 y.scalar, .int .i64 y.over, .int .i64 y.lo, .int .i64 y.hi, .int .i64 y.init] T.api_Var) := hc4
    clear hc4
    refine St ?_
    refine K.condb (fun g5 => ?_) (fun g5 => ?_)
    rotate_left
    · refine St ?_
      simp only [g5, if_true]
      (refine ⟨?_, ?_⟩ <;> first | trivial | rfl | (repeat' first | assumption | exact Ext.refl _ | refine Ext.trans ?_ (by assumption)))
    obtain ⟨z1, z2, z3, z4, z5, z6⟩ := hok g5
    have z1' : qk = kindOf y.scalar := z1
    have z2' : qo = kindOf y.over := z2
    have hko : qo = if y.over = 0 then 0 else 1 + y.over := z2'
    refine St ?_
    refine K.cond (fun g6 => ?_) (fun g6 => ?_)
    · refine St ?_
      simp only [g5, Bool.true_eq_false, if_false]
      rw [if_pos (.inl ⟨g1, .inl (by rw [hko, if_pos g6])⟩)]
      (refine ⟨?_, ?_⟩ <;> first | trivial | rfl | (repeat' first | assumption | exact Ext.refl _ | refine Ext.trans ?_ (by assumption)))
    rw [if_neg g6] at hko
    refine St ?_
    refine K.cond (fun g7 => ?_) (fun g7 => ?_)
    rotate_left
    · refine St ?_
      simp only [g5, Bool.true_eq_false, if_false]
      rw [if_pos (.inl ⟨g1, .inr (by omega)⟩)]
      (refine ⟨?_, ?_⟩ <;> first | trivial | rfl | (repeat' first | assumption | exact Ext.refl _ | refine Ext.trans ?_ (by assumption)))
    refine St ?_
    refine K.call (kindOf_r y.scalar w4 (by omega)) ?_
    rintro _ _ ⟨rfl, rfl⟩
    refine St ?_
    simp only [g5, Bool.true_eq_false, if_false, z1']
    rw [if_neg (by omega)]
    (refine ⟨?_, ?_⟩ <;> first | trivial | rfl | (repeat' first | assumption | exact Ext.refl _ | refine Ext.trans ?_ (by assumption)))
  have h9 : x.op = 9 → oneK x k s = if k = 1 then (1, 0) else (0, 9) := by
    intro e
    rw [oneK, e]
    show Abs.ktwo _ [k] = _
    rw [ktwo1]
    simp
  have h10 : x.op = 10 → oneK x k s = if k = 0 then (0, 0) else (0, 9) := by
    intro e
    rw [oneK, e]
    show Abs.ktwo _ [k] = _
    rw [ktwo1]
    simp
  (repeat' first
 | (refine K.cond (fun _ => ?_) (fun _ => ?_) <;> try (exfalso; omega))
 | (refine K.condb (fun _ => ?_) (fun _ => ?_))
 | assumption
 | exact Ext.refl _
 | refine Ext.trans ?_ (by assumption)
 | refine K.wrap (by omega) ?_
 | refine K.ldb (by assumption) ?_ rfl ?_
 | refine K.ldb0 (by assumption) ?_ rfl ?_
 | refine K.ldE (by assumption) ?_ (by omega) rfl ?_
 | refine K.ldE0 (by assumption) ?_ (by omega) rfl ?_
 | refine K.ldAE (by assumption) ?_ (by omega) rfl ?_
 | refine K.iaC (by omega) ?_
 | refine K.condT (by first | assumption | omega) ?_
 | refine K.condF (by first | assumption | omega) ?_
 | refine K.condbT (by assumption) ?_
 | refine K.condbF (by assumption) ?_
 | simp -dsimp only [LL,B9,Nat.reduceAdd,Nat.reduceEqDiff,reduceIte,reduceCtorEq,Bool.false_eq_true])
  all_goals
    refine ⟨?_, by (repeat' first | assumption | exact Ext.refl _ | refine Ext.trans ?_ (by assumption))⟩
    rcases hop with e | e | e
    · exact absurd e g1
    · rw [h9 e]; split <;> first | rfl | (exfalso; omega)
    · rw [h10 e]; split <;> first | rfl | (exfalso; omega)
def twoK (op a b : Int) : Int × Int := match Abs.opOf op with | some o => Abs.ktwo o [a, b] | none => (0, 9)
theorem rtwo_r (op a b : Int) (w : World) (hop : 11 ≤ op ∧ op ≤ 19) :
    Ret Tryz.prog F.lariatref10_two #[.int .i64 op, .int .i64 a, .int .i64 b] w fun v w' => v = .tuple #[.int .i64 (twoK op a b).1, .int .i64 (twoK op a b).2] ∧ w' = w := by
  have key : twoK op a b = if a ≠ b then (0, 9) else if op = 14 ∨ op = 15 then (1, 0) else if op = 18 ∨ op = 19 then (if a = 1 then (1, 0) else (0, 9)) else if op = 16 ∨ op = 17 then (if a = 0 then (1, 0) else (0, 9)) else (if a = 0 then (0, 0) else (0, 9)) := by
    have hc : op = 11 ∨ op = 12 ∨ op = 13 ∨ op = 14 ∨ op = 15 ∨ op = 16 ∨ op = 17 ∨ op = 18 ∨ op = 19 := by omega
    rcases hc with e | e | e | e | e | e | e | e | e <;> subst e <;> (show Abs.ktwo _ [a, b] = _) <;> rw [ktwo2] <;> by_cases hab : a = b <;> simp [hab, Abs.sayD]
  refine K.start hmix E.lariatref10_two (args := [_, _, _]) (Nat.le_of_ble_eq_true rfl) ?_
  dsimp only [C.lariatref10_two]; refine Yy ?_
  (repeat' first
 | (refine K.cond (fun _ => ?_) (fun _ => ?_) <;> try (exfalso; omega))
 | (refine K.condb (fun _ => ?_) (fun _ => ?_))
 | assumption
 | exact Ext.refl _
 | refine Ext.trans ?_ (by assumption)
 | refine K.wrap (by omega) ?_
 | refine K.ldb (by assumption) ?_ rfl ?_
 | refine K.ldb0 (by assumption) ?_ rfl ?_
 | refine K.ldE (by assumption) ?_ (by omega) rfl ?_
 | refine K.ldE0 (by assumption) ?_ (by omega) rfl ?_
 | refine K.ldAE (by assumption) ?_ (by omega) rfl ?_
 | refine K.iaC (by omega) ?_
 | refine K.condT (by first | assumption | omega) ?_
 | refine K.condF (by first | assumption | omega) ?_
 | refine K.condbT (by assumption) ?_
 | refine K.condbF (by assumption) ?_
 | simp -dsimp only [LL,B9,Nat.reduceAdd,Nat.reduceEqDiff,reduceIte,reduceCtorEq,Bool.false_eq_true])
  all_goals
    refine ⟨?_, by first | trivial | rfl⟩
    rw [key]
    (repeat' split) <;> first | rfl | (exfalso; omega)
end Go.Proofs.YtpaahhleopalaaaGreatDoor
end
