/- What the functions of decl compute. -/
import Derived.Test.YtoakjdilnkjcgaaDoorLexC
import Derived.Test.YtoakjdilnkjcgaaDoorRep
set_option linter.all false
set_option maxRecDepth 4000
set_option linter.unusedSimpArgs false
namespace Go.Proofs.YtoakjdilnkjcgaaDoor
open Go Go.RowKit Lite

theorem narrow_r (lo hi : Int) (w : World) : Ret Tryd.prog F.decl_narrow #[.int .i64 lo, .int .i64 hi] w fun v w' => v = .bool (Abs.narrow lo hi) ∧ w' = w := by
  refine K.start hmix E.decl_narrow (args := [_, _]) (Nat.le_of_ble_eq_true rfl) ?_
  dsimp only [C.decl_narrow,yt,yi,yb,yp,yr,ye,yc,yv,yg,ym,yw,ya,yl,yx,ys,yn]
  (repeat' first
    | (refine K.cond (fun _ => ?_) (fun _ => ?_) <;> try (exfalso; omega))
    | (refine K.condb (fun _ => ?_) (fun _ => ?_))
    | (refine K.wrap (by omega) ?_)
    | (refine K.ld (by assumption) ?_)
    | (refine K.ia (by omega) ?_)
    | simp -dsimp only [LL,B9,Nat.reduceAdd,Nat.reduceEqDiff,reduceIte,reduceCtorEq,Bool.false_eq_true])
  all_goals (refine ⟨?_, by first | rfl | trivial⟩; congr 1; rw [Bool.eq_iff_iff]; simp [Abs.narrow]; omega)
theorem size_at {k : Int} {l : List Abs.Scalar} (h1 : 1 ≤ k) (h2 : k ≤ l.length) : Abs.size k l = if 1 ≤ (l[k.toNat - 1]'(by omega)).size ∧ (l[k.toNat - 1]'(by omega)).size ≤ 4 then (l[k.toNat - 1]'(by omega)).size else 0 := by
  have e : (k - 1).toNat = k.toNat - 1 := by omega
  have hlt : k.toNat - 1 < l.length := by omega
  simp only [Abs.size, e, List.getElem?_eq_getElem hlt, h1, true_and]
theorem size_no {k : Int} {l : List Abs.Scalar} (h : k < 1 ∨ l.length < k) : Abs.size k l = 0 := by
  unfold Abs.size
  split
  · rename_i x hx
    rw [if_neg]
    rintro ⟨h1, _⟩
    have := (List.getElem?_eq_some_iff.1 hx).1
    omega
  · rfl
theorem size_r (k : Int) (v : Value) (l : List Abs.Scalar) (w : World) (hl : Abs.Scalars w v l) :
    Ret Tryd.prog F.decl_size #[.int .i64 k, v] w fun v w' => v = .tuple #[.int .i64 (Abs.size k l), .bool (decide (Abs.size k l ≠ 0))] ∧ w' = w := by
  obtain ⟨oa, cap, rfl, hlen⟩ := hl.form
  refine K.start hmix E.decl_size (args := [_, _]) (Nat.le_of_ble_eq_true rfl) ?_
  dsimp only [C.decl_size,yt,yi,yb,yp,yr,ye,yc,yv,yg,ym,yw,ya,yl,yx,ys,yn]
  simp -dsimp only [LL,B9,Nat.reduceAdd,Nat.reduceEqDiff,reduceIte,reduceCtorEq,Bool.false_eq_true]
  refine K.cond (fun h1 => ?_) (fun h1 => ?_)
  · simp -dsimp only [LL,B9,Nat.reduceAdd,Nat.reduceEqDiff,reduceIte,reduceCtorEq,Bool.false_eq_true]
    rw [size_no (.inl h1)]; exact ⟨rfl, trivial⟩
  simp -dsimp only [LL,B9,Nat.reduceAdd,Nat.reduceEqDiff,reduceIte,reduceCtorEq,Bool.false_eq_true]
  refine K.cond (fun h2 => ?_) (fun h2 => ?_)
  · simp -dsimp only [LL,B9,Nat.reduceAdd,Nat.reduceEqDiff,reduceIte,reduceCtorEq,Bool.false_eq_true]
    rw [size_no (.inr h2)]; exact ⟨rfl, trivial⟩
  simp -dsimp only [LL,B9,Nat.reduceAdd,Nat.reduceEqDiff,reduceIte,reduceCtorEq,Bool.false_eq_true]
  refine K.wrap (by omega) ?_
  simp -dsimp only [LL,B9,Nat.reduceAdd,Nat.reduceEqDiff,reduceIte,reduceCtorEq,Bool.false_eq_true]
  obtain ⟨a, rfl⟩ := hl.addr (by omega)
  have hc := (hl.at (k.toNat - 1) (by omega)).cells 1 _ rfl
  refine K.ian (k.toNat - 1) (by omega) (by omega) ?_
  simp -dsimp only [LL,B9,Nat.reduceAdd,Nat.reduceEqDiff,reduceIte,reduceCtorEq,Bool.false_eq_true]
  refine K.ld hc ?_
  rw [size_at (by omega) (by omega)]
  generalize l[k.toNat - 1].size = z at hc
  simp -dsimp only [LL,B9,Nat.reduceAdd,Nat.reduceEqDiff,reduceIte,reduceCtorEq,Bool.false_eq_true]
  refine K.cond (fun h3 => ?_) (fun h3 => ?_)
  · simp -dsimp only [LL,B9,Nat.reduceAdd,Nat.reduceEqDiff,reduceIte,reduceCtorEq,Bool.false_eq_true]
    rw [if_neg (by omega)]; exact ⟨rfl, trivial⟩
  simp -dsimp only [LL,B9,Nat.reduceAdd,Nat.reduceEqDiff,reduceIte,reduceCtorEq,Bool.false_eq_true]
  refine K.wrap (by omega) ?_
  simp -dsimp only [LL,B9,Nat.reduceAdd,Nat.reduceEqDiff,reduceIte,reduceCtorEq,Bool.false_eq_true]
  refine K.ian (k.toNat - 1) (by omega) (by omega) ?_
  simp -dsimp only [LL,B9,Nat.reduceAdd,Nat.reduceEqDiff,reduceIte,reduceCtorEq,Bool.false_eq_true]
  refine K.ld hc ?_
  simp -dsimp only [LL,B9,Nat.reduceAdd,Nat.reduceEqDiff,reduceIte,reduceCtorEq,Bool.false_eq_true]
  refine K.cond (fun h4 => ?_) (fun h4 => ?_)
  · simp -dsimp only [LL,B9,Nat.reduceAdd,Nat.reduceEqDiff,reduceIte,reduceCtorEq,Bool.false_eq_true]
    rw [if_neg (by omega)]; exact ⟨rfl, trivial⟩
  simp -dsimp only [LL,B9,Nat.reduceAdd,Nat.reduceEqDiff,reduceIte,reduceCtorEq,Bool.false_eq_true]
  refine K.wrap (by omega) ?_
  simp -dsimp only [LL,B9,Nat.reduceAdd,Nat.reduceEqDiff,reduceIte,reduceCtorEq,Bool.false_eq_true]
  refine K.ian (k.toNat - 1) (by omega) (by omega) ?_
  simp -dsimp only [LL,B9,Nat.reduceAdd,Nat.reduceEqDiff,reduceIte,reduceCtorEq,Bool.false_eq_true]
  refine K.ld hc ?_
  simp -dsimp only [LL,B9,Nat.reduceAdd,Nat.reduceEqDiff,reduceIte,reduceCtorEq,Bool.false_eq_true]
  rw [if_pos (by omega)]
  refine ⟨?_, by trivial⟩
  have : z ≠ 0 := by omega
  simp [this]
theorem there_r (k : Int) (v : Value) (l : List Abs.Scalar) (w : World) (hl : Abs.Scalars w v l) :
    Ret Tryd.prog F.decl_there #[.int .i64 k, v] w fun v w' => v = .bool (Abs.there k l) ∧ w' = w := by
  refine K.start hmix E.decl_there (args := [_, _]) (Nat.le_of_ble_eq_true rfl) ?_
  dsimp only [C.decl_there,yt,yi,yb,yp,yr,ye,yc,yv,yg,ym,yw,ya,yl,yx,ys,yn]
  simp -dsimp only [LL,B9,Nat.reduceAdd,Nat.reduceEqDiff,reduceIte,reduceCtorEq,Bool.false_eq_true]
  refine K.call (size_r k v l w hl) ?_
  rintro _ _ ⟨rfl, rfl⟩
  simp -dsimp only [LL,B9,Nat.reduceAdd,Nat.reduceEqDiff,reduceIte,reduceCtorEq,Bool.false_eq_true]
  refine K.cond (fun h1 => ?_) (fun h1 => ?_)
  · simp -dsimp only [LL,B9,Nat.reduceAdd,Nat.reduceEqDiff,reduceIte,reduceCtorEq,Bool.false_eq_true]
    refine ⟨?_, by trivial⟩; simp [Abs.there, h1]
  · simp -dsimp only [LL,B9,Nat.reduceAdd,Nat.reduceEqDiff,reduceIte,reduceCtorEq,Bool.false_eq_true]
    refine ⟨?_, by trivial⟩; simp [Abs.there, h1]

def seen (l : List ByteArray) : List (ByteArray × Value) := l.map fun x => (x, .bool true)
theorem seen_find (l : List ByteArray) (x : ByteArray) : ((seen l).find? (fun p => decide (x = p.1))).map (·.2) = if x ∈ l then some (.bool true) else none := by
  induction l with
  | nil => rfl
  | cons y l ih =>
    simp only [seen, List.map_cons, List.find?_cons, List.mem_cons]
    by_cases h : x = y
    · simp [h]
    · simp only [h, decide_false, false_or]
      exact ih
set_option maxHeartbeats 2000000 in
theorem named_r (n most : Int) (hn : 0 ≤ n ∧ n ≤ 9223372036854775807) (nm : Nat → ByteArray) (mo : Nat → Int) (f1 f2 : FuncId) (c1 c2 : List Value) (hf1 : okF Tryd.prog f1 = true) (hf2 : okF Tryd.prog f2 = true) (w : World) (ho : OwnIs w)
    (hnm : ∀ i : Nat, i < n → Abs.strOk (nm i))
    (k1 : ∀ (i : Nat) (w' : World), i < n → Ext w w' → Ret Tryd.prog f1 (.int .i64 i :: c1).toArray w' fun v w'' => v = .string (nm i) ∧ Ext w' w'')
    (k2 : ∀ (i : Nat) (w' : World), i < n → Ext w w' → Ret Tryd.prog f2 (.int .i64 i :: c2).toArray w' fun v w'' => v = .int .i64 (mo i) ∧ Ext w' w'') :
    Ret Tryd.prog F.decl_named #[.int .i64 n, .int .i64 most, .func (.func f1) #[] c1.toArray, .func (.func f2) #[] c2.toArray] w
      fun v w' => v = .tuple #[.int .i64 (Abs.first n.toNat (Abs.err most nm mo)).1, .int .i64 (Abs.first n.toNat (Abs.err most nm mo)).2] ∧ Ext w w' := by
  refine K.start hmix E.decl_named (args := [_, _, _, _]) (Nat.le_of_ble_eq_true rfl) ?_
  dsimp only [C.decl_named,yt,yi,yb,yp,yr,ye,yc,yv,yg,ym,yw,ya,yl,yx,ys,yn]
  simp -dsimp only [LL,B9,Nat.reduceAdd,Nat.reduceEqDiff,reduceIte,reduceCtorEq,Bool.false_eq_true]
  refine K.newM fun w1 b hb he1 hm1 => ?_
  simp -dsimp only [LL,B9,Nat.reduceAdd,Nat.reduceEqDiff,reduceIte,reduceCtorEq,Bool.false_eq_true]
  refine K.loop (fun S w' => ∃ i : Nat, i ≤ n ∧ S 16 = .int .i64 i ∧ (∀ j, j < i → Abs.err most nm mo j = 0) ∧ Ext w w' ∧
      ∃ es c, w'.heap[b]? = some (.map es c) ∧ KV Value.string es.toList (seen ((List.range i).map nm)))
    (fun S _ => (n - intOf (S 16)).toNat) ⟨0, by omega, by simp -dsimp only [LL,B9,Nat.reduceAdd,Nat.reduceEqDiff,reduceIte,reduceCtorEq,Bool.false_eq_true]; rfl, fun _ h => absurd h (Nat.not_lt_zero _), he1, _, _, hm1, rfl⟩ ?_
  rintro S w2 hS ⟨i, hi, h16, hz, he, es, c, hm, hkv⟩
  have h0 := hS 0 rfl; have h1 := hS 1 rfl; have h2 := hS 2 rfl; have h3 := hS 3 rfl; have h10 := hS 10 rfl; have h15 := hS 15 rfl; simp only [upd_at, Nat.reduceAdd, Nat.reduceEqDiff, reduceIte, fr0_cons, fr0_nil] at h0 h1 h2 h3 h10 h15; clear hS
  simp -dsimp only [LL,B9,Nat.reduceAdd,Nat.reduceEqDiff,reduceIte,reduceCtorEq,Bool.false_eq_true,h0, h1, h2, h3, h10, h15, h16]
  refine K.cond (fun hlt => ?_) (fun hge => ?_)
  rotate_left
  · simp -dsimp only [LL,B9,Nat.reduceAdd,Nat.reduceEqDiff,reduceIte,reduceCtorEq,Bool.false_eq_true]
    refine ⟨?_, he⟩
    rw [Abs.first_none fun j hj => hz j (by omega)]
  have stop : ∀ e : Int, Abs.err most nm mo i = e → e ≠ 0 → Abs.first n.toNat (Abs.err most nm mo) = ((i : Int), e) := fun e h hne => by
    rw [Abs.first_stop (by omega) hz (by rw [h]; exact hne), h]
  simp -dsimp only [LL,B9,Nat.reduceAdd,Nat.reduceEqDiff,reduceIte,reduceCtorEq,Bool.false_eq_true,h0, h1, h2, h3, h10, h15, h16]
  refine K.callV (first := []) hf1 (k1 i w2 hlt he) ?_
  rintro _ w3 ⟨rfl, he3⟩
  simp -dsimp only [LL,B9,Nat.reduceAdd,Nat.reduceEqDiff,reduceIte,reduceCtorEq,Bool.false_eq_true,h0, h1, h2, h3, h10, h15, h16]
  refine K.cond (fun ha => ?_) (fun ha => ?_)
  · simp -dsimp only [LL,B9,Nat.reduceAdd,Nat.reduceEqDiff,reduceIte,reduceCtorEq,Bool.false_eq_true,h0, h1, h2, h3, h10, h15, h16]
    refine K.cond (fun h => absurd h (by decide)) (fun _ => ?_)
    simp -dsimp only [LL,B9,Nat.reduceAdd,Nat.reduceEqDiff,reduceIte,reduceCtorEq,Bool.false_eq_true]
    rw [stop 11 (by simp [Abs.err, ha]) (by decide)]
    exact ⟨rfl, he.trans he3⟩
  simp -dsimp only [LL,B9,Nat.reduceAdd,Nat.reduceEqDiff,reduceIte,reduceCtorEq,Bool.false_eq_true,h0, h1, h2, h3, h10, h15, h16]
  refine K.call (name_r (nm i) w3 (ho.ext (he.trans he3)) (hnm i hlt)) ?_
  rintro _ w4 ⟨rfl, he4⟩
  simp -dsimp only [LL,B9,Nat.reduceAdd,Nat.reduceEqDiff,reduceIte,reduceCtorEq,Bool.false_eq_true,h0, h1, h2, h3, h10, h15, h16]
  refine K.condb (fun hn1 => ?_) (fun hn1 => ?_)
  rotate_left
  · simp -dsimp only [LL,B9,Nat.reduceAdd,Nat.reduceEqDiff,reduceIte,reduceCtorEq,Bool.false_eq_true,h0, h1, h2, h3, h10, h15, h16]
    refine K.cond (fun h => absurd h (by decide)) (fun _ => ?_)
    simp -dsimp only [LL,B9,Nat.reduceAdd,Nat.reduceEqDiff,reduceIte,reduceCtorEq,Bool.false_eq_true]
    rw [stop 6 (by simp [Abs.err, ha, hn1]) (by decide)]
    exact ⟨rfl, (he.trans he3).trans he4⟩
  simp -dsimp only [LL,B9,Nat.reduceAdd,Nat.reduceEqDiff,reduceIte,reduceCtorEq,Bool.false_eq_true,h0, h1, h2, h3, h10, h15, h16]
  have hm4 : w4.heap[b]? = some (.map es c) := he4.obj (he3.obj hm)
  obtain ⟨r, hr1, hr2⟩ := findNow_kv same_str (nm i) es.toList _ 0 hkv
  rw [seen_find] at hr2
  refine K.lkp (.inr ⟨b, c, rfl, hm4⟩) hr1 ?_
  have hmem : nm i ∈ (List.range i).map nm ↔ ∃ j, j < i ∧ nm j = nm i := by simp
  by_cases hin : ∃ j, j < i ∧ nm j = nm i
  · rw [if_pos (hmem.2 hin)] at hr2
    have hv : lkpV (.bool false) false r = .bool true := by simp [lkpV, hr2]
    rw [hv]
    simp -dsimp only [LL,B9,Nat.reduceAdd,Nat.reduceEqDiff,reduceIte,reduceCtorEq,Bool.false_eq_true,h0, h1, h2, h3, h10, h15, h16]
    refine K.cond (fun h => absurd h (by decide)) (fun _ => ?_)
    simp -dsimp only [LL,B9,Nat.reduceAdd,Nat.reduceEqDiff,reduceIte,reduceCtorEq,Bool.false_eq_true]
    rw [stop 7 (by simp [Abs.err, ha, hn1, hin]) (by decide)]
    exact ⟨rfl, (he.trans he3).trans he4⟩
  rw [if_neg (fun h => hin (hmem.1 h))] at hr2
  have hr0 : r = none := by cases r <;> simp at hr2 ⊢
  subst hr0
  have hv : lkpV (.bool false) false none = .bool false := rfl
  rw [hv]
  simp -dsimp only [LL,B9,Nat.reduceAdd,Nat.reduceEqDiff,reduceIte,reduceCtorEq,Bool.false_eq_true,h0, h1, h2, h3, h10, h15, h16]
  refine K.callV (first := []) hf2 (k2 i w4 hlt ((he.trans he3).trans he4)) ?_
  rintro _ w5 ⟨rfl, he5⟩
  have herr : Abs.err most nm mo i = mo i := by simp [Abs.err, ha, hn1, hin]
  simp -dsimp only [LL,B9,Nat.reduceAdd,Nat.reduceEqDiff,reduceIte,reduceCtorEq,Bool.false_eq_true,h0, h1, h2, h3, h10, h15, h16]
  refine K.cond (fun h => ?_) (fun h => ?_)
  rotate_left
  · simp -dsimp only [LL,B9,Nat.reduceAdd,Nat.reduceEqDiff,reduceIte,reduceCtorEq,Bool.false_eq_true]
    rw [stop (mo i) herr h]
    exact ⟨rfl, ((he.trans he3).trans he4).trans he5⟩
  simp -dsimp only [LL,B9,Nat.reduceAdd,Nat.reduceEqDiff,reduceIte,reduceCtorEq,Bool.false_eq_true,h0, h1, h2, h3, h10, h15, h16]
  have hm5 := he5.obj hm4
  refine K.mup hm5 hr1 ?_
  have hs : (setO w5 b (mupO es c (.string (nm i)) (.bool true) none)).heap[b]? = some (mupO es c (.string (nm i)) (.bool true) none) := setO_same (lt_of_heap hm5)
  have he6 : Ext w (setO w5 b (mupO es c (.string (nm i)) (.bool true) none)) := (((he.trans he3).trans he4).trans he5).setO hb _
  generalize setO w5 b (mupO es c (.string (nm i)) (.bool true) none) = w6 at hs he6
  simp -dsimp only [LL,B9,Nat.reduceAdd,Nat.reduceEqDiff,reduceIte,reduceCtorEq,Bool.false_eq_true,h0, h1, h2, h3, h10, h15, h16]
  refine K.wrap (by omega) ?_
  simp -dsimp only [LL,B9,Nat.reduceAdd,Nat.reduceEqDiff,reduceIte,reduceCtorEq,Bool.false_eq_true,h0, h1, h2, h3, h10, h15, h16]
  refine ⟨⟨i + 1, by omega, rfl, fun j hj => ?_, he6, _, _, hs, ?_⟩, by simp [intOf]; omega⟩
  · by_cases h' : j < i
    · exact hz j h'
    · have : j = i := by omega
      subst this; rw [herr, h]
  · have := KV.push hkv (nm i) (.bool true) c
    simpa [seen, List.range_succ] using this
end Go.Proofs.YtoakjdilnkjcgaaDoor
