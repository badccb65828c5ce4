/- What the functions of lex (and of its reference) compute. -/
import Derived.Test.YtoakjdilnkjcgaaDoorCode
import Derived.Test.YtoakjdilnkjcgaaDoorLexP
set_option linter.all false
set_option maxRecDepth 4000
set_option linter.unusedSimpArgs false
namespace Go.Proofs.YtoakjdilnkjcgaaDoor
open Go Go.RowKit Lite

theorem letter_r (n : Int) (w : World) : Ret Tryd.prog F.lex_letter #[.int .i32 n] w fun v w' => v = .bool (Abs.letter n) ∧ w' = w := by
  refine K.start hmix E.lex_letter (args := [_]) (Nat.le_of_ble_eq_true rfl) ?_
  dsimp only [C.lex_letter,yt,yi,yb,yp,yr,ye,yc,yv,yg,ym,yw,ya,yl,yx,ys,yn]
  (repeat' first
    | (refine K.cond (fun _ => ?_) (fun _ => ?_) <;> try (exfalso; omega))
    | (refine K.condb (fun _ => ?_) (fun _ => ?_))
    | (refine K.wrap (by omega) ?_)
    | (refine K.ld (by assumption) ?_)
    | (refine K.ia (by omega) ?_)
    | simp -dsimp only [LL,B9,Nat.reduceAdd,Nat.reduceEqDiff,reduceIte,reduceCtorEq,Bool.false_eq_true])
  all_goals (refine ⟨?_, by first | rfl | trivial⟩; congr 1; rw [Bool.eq_iff_iff]; simp [Abs.letter]; omega)
theorem digit_r (n : Int) (w : World) : Ret Tryd.prog F.lex_digit #[.int .i32 n] w fun v w' => v = .bool (Abs.digit n) ∧ w' = w := by
  refine K.start hmix E.lex_digit (args := [_]) (Nat.le_of_ble_eq_true rfl) ?_
  dsimp only [C.lex_digit,yt,yi,yb,yp,yr,ye,yc,yv,yg,ym,yw,ya,yl,yx,ys,yn]
  (repeat' first
    | (refine K.cond (fun _ => ?_) (fun _ => ?_) <;> try (exfalso; omega))
    | (refine K.condb (fun _ => ?_) (fun _ => ?_))
    | (refine K.wrap (by omega) ?_)
    | (refine K.ld (by assumption) ?_)
    | (refine K.ia (by omega) ?_)
    | simp -dsimp only [LL,B9,Nat.reduceAdd,Nat.reduceEqDiff,reduceIte,reduceCtorEq,Bool.false_eq_true])
  all_goals (refine ⟨?_, by first | rfl | trivial⟩; congr 1; rw [Bool.eq_iff_iff]; simp [Abs.digit]; omega)
theorem part_r (n : Int) (w : World) : Ret Tryd.prog F.lex_part #[.int .i32 n] w fun v w' => v = .bool (Abs.part n) ∧ w' = w := by
  refine K.start hmix E.lex_part (args := [_]) (Nat.le_of_ble_eq_true rfl) ?_
  dsimp only [C.lex_part,yt,yi,yb,yp,yr,ye,yc,yv,yg,ym,yw,ya,yl,yx,ys,yn]
  simp -dsimp only [LL,B9,Nat.reduceAdd,Nat.reduceEqDiff,reduceIte,reduceCtorEq,Bool.false_eq_true]
  refine K.call (letter_r n w) ?_
  rintro _ _ ⟨rfl, rfl⟩
  simp -dsimp only [LL,B9,Nat.reduceAdd,Nat.reduceEqDiff,reduceIte,reduceCtorEq,Bool.false_eq_true]
  refine K.condb (fun h1 => ?_) (fun h1 => ?_)
  · simp -dsimp only [LL,B9,Nat.reduceAdd,Nat.reduceEqDiff,reduceIte,reduceCtorEq,Bool.false_eq_true]
    refine ⟨?_, by first | rfl | trivial⟩; congr 1; simp [Abs.part, h1]
  · simp -dsimp only [LL,B9,Nat.reduceAdd,Nat.reduceEqDiff,reduceIte,reduceCtorEq,Bool.false_eq_true]
    refine K.call (digit_r n _) ?_
    rintro _ _ ⟨rfl, rfl⟩
    simp -dsimp only [LL,B9,Nat.reduceAdd,Nat.reduceEqDiff,reduceIte,reduceCtorEq,Bool.false_eq_true]
    refine K.condb (fun h2 => ?_) (fun h2 => ?_)
    · simp -dsimp only [LL,B9,Nat.reduceAdd,Nat.reduceEqDiff,reduceIte,reduceCtorEq,Bool.false_eq_true]
      refine ⟨?_, by first | rfl | trivial⟩; congr 1; simp [Abs.part, h2]
    · simp -dsimp only [LL,B9,Nat.reduceAdd,Nat.reduceEqDiff,reduceIte,reduceCtorEq,Bool.false_eq_true]
      refine ⟨?_, by first | rfl | trivial⟩; congr 1; simp [Abs.part, h1, h2]
def iterLeft (w : World) (b : Nat) : Nat := match w.heap[b]? with | some (.stringIter s pos) => s.size - pos | _ => 0
theorem lrun_r (s : ByteArray) (p : Int → Bool) (hp : ∀ r, 128 ≤ r → p r = false) (f : FuncId) (hf : okF Tryd.prog f = true) (w : World)
    (hc : ∀ (r : Int) (w' : World), Ext w w' → Ret Tryd.prog f #[.int .i32 r] w' fun v w'' => v = .bool (p r) ∧ Ext w' w'') :
    Ret Tryd.prog F.lex_run #[.string s, .func (.func f) #[] #[]] w fun v w' => v = .int .i64 (Abs.run p s) ∧ Ext w w' := by
  refine K.start hmix E.lex_run (args := [_, _]) (Nat.le_of_ble_eq_true rfl) ?_
  dsimp only [C.lex_run,yt,yi,yb,yp,yr,ye,yc,yv,yg,ym,yw,ya,yl,yx,ys,yn]
  simp -dsimp only [LL,B9,Nat.reduceAdd,Nat.reduceEqDiff,reduceIte,reduceCtorEq,Bool.false_eq_true]
  refine K.rngS fun w1 b hb he1 hit1 => ?_
  simp -dsimp only [LL,B9,Nat.reduceAdd,Nat.reduceEqDiff,reduceIte,reduceCtorEq,Bool.false_eq_true]
  refine K.loop (fun S w' => ∃ pos, pos ≤ s.size ∧ (∀ j (hj : j < s.size), j < pos → p s[j].toNat = true) ∧ w'.heap[b]? = some (.stringIter s pos) ∧ Ext w w')
    (fun _ w' => iterLeft w' b) ⟨0, Nat.zero_le _, fun _ _ h => absurd h (Nat.not_lt_zero _), hit1, he1⟩ ?_
  rintro S w' hS ⟨pos, hpos, hall, hit, he⟩
  have h0 := hS 0 rfl; have h1 := hS 1 rfl; have h8 := hS 8 rfl; simp only [upd_at, Nat.reduceAdd, Nat.reduceEqDiff, reduceIte, fr0_cons, fr0_nil] at h0 h1 h8; clear hS
  simp -dsimp only [LL,B9,Nat.reduceAdd,Nat.reduceEqDiff,reduceIte,reduceCtorEq,Bool.false_eq_true,h0, h1, h8]
  refine K.nxtS hit (fun hlt => ?_) (fun hge => ?_)
  · have hd := Abs.decode_part hp s pos hlt
    have hs : (setO w' b (.stringIter s (pos + (Utf8.decode s pos).2))).heap[b]? = some (.stringIter s (pos + (Utf8.decode s pos).2)) := setO_same (lt_of_heap hit)
    have he2 : Ext w (setO w' b (.stringIter s (pos + (Utf8.decode s pos).2))) := he.setO hb _
    generalize setO w' b (.stringIter s (pos + (Utf8.decode s pos).2)) = w2 at hs he2
    simp -dsimp only [LL,B9,Nat.reduceAdd,Nat.reduceEqDiff,reduceIte,reduceCtorEq,Bool.false_eq_true,h0, h1, h8]
    refine K.callV (first := []) (cap := []) hf (hc _ _ he2) ?_
    rintro _ w3 ⟨rfl, he3⟩
    simp -dsimp only [LL,B9,Nat.reduceAdd,Nat.reduceEqDiff,reduceIte,reduceCtorEq,Bool.false_eq_true,h0, h1, h8]
    refine K.condb (fun hb => ?_) (fun hb => ?_)
    · simp -dsimp only [LL,B9,Nat.reduceAdd,Nat.reduceEqDiff,reduceIte,reduceCtorEq,Bool.false_eq_true]
      rw [hd.1] at hb
      have hw := hd.2 hb
      rw [hw] at hs
      refine ⟨⟨pos + 1, by omega, fun j hj hjp => ?_, he3.obj hs, he2.trans he3⟩, ?_⟩
      · by_cases h : j < pos
        · exact hall j hj h
        · have : j = pos := by omega
          subst this; exact hb
      · simp only [iterLeft, he3.obj hs, hit]; omega
    · simp -dsimp only [LL,B9,Nat.reduceAdd,Nat.reduceEqDiff,reduceIte,reduceCtorEq,Bool.false_eq_true]
      rw [hd.1] at hb
      refine ⟨?_, he2.trans he3⟩
      rw [Abs.run_stop p s pos hlt (fun j hj => hall j (by omega) hj) hb]
  · simp -dsimp only [LL,B9,Nat.reduceAdd,Nat.reduceEqDiff,reduceIte,reduceCtorEq,Bool.false_eq_true,h0, h1, h8]
    refine ⟨?_, he⟩
    rw [Abs.run_all p s (fun j hj => hall j hj (by omega))]
/-- What lex.own holds. -/
def OwnIs (w : World) : Prop := CellsAt w ⟨G.lex_own, 0, none⟩ (Abs.ownL.map Value.string)
theorem OwnIs.ext {w w' : World} (he : Ext w w') (h : OwnIs w) : OwnIs w' := CellsAt.ext he h
theorem name_r (s : ByteArray) (w : World) (ho : OwnIs w) (hs : s.size ≤ 9223372036854775807) :
    Ret Tryd.prog F.lex_Name #[.string s] w fun v w' => v = .bool (Abs.isName s) ∧ Ext w w' := by
  refine K.start hmix E.lex_Name (args := [_]) (Nat.le_of_ble_eq_true rfl) ?_
  dsimp only [C.lex_Name,yt,yi,yb,yp,yr,ye,yc,yv,yg,ym,yw,ya,yl,yx,ys,yn]
  simp -dsimp only [LL,B9,Nat.reduceAdd,Nat.reduceEqDiff,reduceIte,reduceCtorEq,Bool.false_eq_true]
  refine K.cond (fun h0 => ?_) (fun h0 => ?_)
  · simp -dsimp only [LL,B9,Nat.reduceAdd,Nat.reduceEqDiff,reduceIte,reduceCtorEq,Bool.false_eq_true]
    refine ⟨?_, Ext.refl w⟩; subst h0; rfl
  have hz : s.size ≠ 0 := fun h => h0 (by
    cases s with | mk d =>
    have : d = #[] := by simpa [ByteArray.size] using h
    rw [this])
  simp -dsimp only [LL,B9,Nat.reduceAdd,Nat.reduceEqDiff,reduceIte,reduceCtorEq,Bool.false_eq_true]
  refine K.cond (fun h1 => ?_) (fun h1 => ?_)
  · simp -dsimp only [LL,B9,Nat.reduceAdd,Nat.reduceEqDiff,reduceIte,reduceCtorEq,Bool.false_eq_true]
    refine ⟨?_, Ext.refl w⟩
    have : ¬ s.size ≤ 16 := by omega
    simp [Abs.isName, this]
  have h1' : s.size ≤ 16 := by omega
  simp -dsimp only [LL,B9,Nat.reduceAdd,Nat.reduceEqDiff,reduceIte,reduceCtorEq,Bool.false_eq_true]
  refine K.ixS (s.get! 0) (by decide) (Abs.get?_eq s 0 (by omega)) ?_
  simp -dsimp only [LL,B9,Nat.reduceAdd,Nat.reduceEqDiff,reduceIte,reduceCtorEq,Bool.false_eq_true]
  have hb : (s.get! 0).toNat < 256 := UInt8.toNat_lt _
  refine K.wrapk (IntWalk.i32_in _ (by omega)) ?_
  simp -dsimp only [LL,B9,Nat.reduceAdd,Nat.reduceEqDiff,reduceIte,reduceCtorEq,Bool.false_eq_true]
  refine K.call (letter_r _ w) ?_
  rintro _ _ ⟨rfl, rfl⟩
  simp -dsimp only [LL,B9,Nat.reduceAdd,Nat.reduceEqDiff,reduceIte,reduceCtorEq,Bool.false_eq_true]
  refine K.condb (fun h2 => ?_) (fun h2 => ?_)
  rotate_left
  · simp -dsimp only [LL,B9,Nat.reduceAdd,Nat.reduceEqDiff,reduceIte,reduceCtorEq,Bool.false_eq_true]
    refine ⟨?_, Ext.refl _⟩
    have h2' : Abs.letter (Abs.byteAt s 0 : Nat) = false := h2
    simp [Abs.isName, h2']
  simp -dsimp only [LL,B9,Nat.reduceAdd,Nat.reduceEqDiff,reduceIte,reduceCtorEq,Bool.false_eq_true]
  refine K.call (lrun_r s Abs.part Abs.part_high F.lex_part (by kernel_rfl) _ fun r w' _ => (part_r r w').mono fun v w'' ⟨h3, h4⟩ => ⟨h3, h4 ▸ Ext.refl _⟩) ?_
  rintro _ w2 ⟨rfl, he⟩
  simp -dsimp only [LL,B9,Nat.reduceAdd,Nat.reduceEqDiff,reduceIte,reduceCtorEq,Bool.false_eq_true]
  refine K.cond (fun h3 => ?_) (fun h3 => ?_)
  · simp -dsimp only [LL,B9,Nat.reduceAdd,Nat.reduceEqDiff,reduceIte,reduceCtorEq,Bool.false_eq_true]
    refine ⟨?_, he⟩
    have h3' : ¬ Abs.run Abs.part s = s.size := by omega
    simp [Abs.isName, h3']
  have h3' : Abs.run Abs.part s = s.size := by have := Abs.run_le Abs.part s; omega
  have h2' : Abs.letter (Abs.byteAt s 0 : Nat) = true := h2
  have hname : Abs.isName s = !decide (s ∈ Abs.ownL) := by simp [Abs.isName, h3', h2', h1', hz]
  simp -dsimp only [LL,B9,Nat.reduceAdd,Nat.reduceEqDiff,reduceIte,reduceCtorEq,Bool.false_eq_true]
  refine K.ldA (ho.ext he) rfl ?_
  simp -dsimp only [LL,B9,Nat.reduceAdd,Nat.reduceEqDiff,reduceIte,reduceCtorEq,Bool.false_eq_true]
  refine K.loop (fun S w' => ∃ i : Nat, i ≤ 4 ∧ S 27 = .int .i64 i ∧ (∀ j (hj : j < Abs.ownL.length), j < i → Abs.ownL[j] ≠ s) ∧ Ext w2 w')
    (fun S _ => (4 - intOf (S 27)).toNat) ⟨0, by omega, by simp -dsimp only [LL,B9,Nat.reduceAdd,Nat.reduceEqDiff,reduceIte,reduceCtorEq,Bool.false_eq_true]; rfl, fun _ _ h => absurd h (Nat.not_lt_zero _), Ext.refl _⟩ ?_
  rintro S w' hS ⟨i, hi, h27, hall, he2⟩
  have h0 := hS 0 rfl; have h26 := hS 26 rfl; simp only [upd_at, Nat.reduceAdd, Nat.reduceEqDiff, reduceIte, fr0_cons, fr0_nil] at h0 h26; clear hS
  simp -dsimp only [LL,B9,Nat.reduceAdd,Nat.reduceEqDiff,reduceIte,reduceCtorEq,Bool.false_eq_true,h0, h26, h27]
  refine K.cond (fun h4 => ?_) (fun h4 => ?_)
  · simp -dsimp only [LL,B9,Nat.reduceAdd,Nat.reduceEqDiff,reduceIte,reduceCtorEq,Bool.false_eq_true,h0, h26, h27]
    have hi4 : i < Abs.ownL.length := by simp [Abs.ownL]; omega
    refine K.ixA (.string Abs.ownL[i]) (by omega) (by simp [List.getElem?_map, hi4]) ?_
    simp -dsimp only [LL,B9,Nat.reduceAdd,Nat.reduceEqDiff,reduceIte,reduceCtorEq,Bool.false_eq_true,h0, h26, h27]
    refine K.cond (fun h5 => ?_) (fun h5 => ?_)
    · simp -dsimp only [LL,B9,Nat.reduceAdd,Nat.reduceEqDiff,reduceIte,reduceCtorEq,Bool.false_eq_true]
      refine ⟨?_, he.trans he2⟩
      rw [hname]
      have : s ∈ Abs.ownL := h5 ▸ List.getElem_mem _
      simp [this]
    · simp -dsimp only [LL,B9,Nat.reduceAdd,Nat.reduceEqDiff,reduceIte,reduceCtorEq,Bool.false_eq_true,h0, h26, h27]
      refine K.wrap (by omega) ?_
      simp -dsimp only [LL,B9,Nat.reduceAdd,Nat.reduceEqDiff,reduceIte,reduceCtorEq,Bool.false_eq_true,h0, h26, h27]
      refine ⟨⟨i + 1, by omega, rfl, fun j hj hji => ?_, he2⟩, by simp [intOf]; omega⟩
      by_cases h : j < i
      · exact hall j hj h
      · have : j = i := by omega
        subst this; exact h5
  · simp -dsimp only [LL,B9,Nat.reduceAdd,Nat.reduceEqDiff,reduceIte,reduceCtorEq,Bool.false_eq_true,h0, h26, h27]
    refine ⟨?_, he.trans he2⟩
    rw [hname]
    have : s ∉ Abs.ownL := fun hm => by
      obtain ⟨j, hj, he⟩ := List.mem_iff_getElem.1 hm
      exact hall j hj (by have : Abs.ownL.length = 4 := rfl; omega) he
    simp [this]
end Go.Proofs.YtoakjdilnkjcgaaDoor
