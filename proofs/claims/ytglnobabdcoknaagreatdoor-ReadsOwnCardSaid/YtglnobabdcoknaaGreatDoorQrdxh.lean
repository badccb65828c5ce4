/- Texts joined: LexC DeclC DeclD DeclA DeclR DeclS DeclU DeclV DeclW ModI ModB ModC ProcC ProcD. -/
import Derived.Test.YtglnobabdcoknaaGreatDoorQrdxd
import Derived.Test.YtglnobabdcoknaaGreatDoorQrdxf
import Derived.Test.YtglnobabdcoknaaGreatDoorQrdxg
set_option linter.all false
set_option maxRecDepth 100000
set_option maxHeartbeats 16000000
section
set_option linter.unusedSimpArgs false
namespace Go.Proofs.R
open Go Go.RowKit Lite
theorem letter_r (n : Int) (w : World) : Ret Tryz.prog F.bt #[.int .i32 n] w fun v w' => v = .bool (Abs.letter n) ∧ w' = w := by
 refine Ks E.bt ?_; dsimp only [C.bt]; refine Yy ?_
 (repeat' first
  | (refine K.cond (fun _ => ?_) (fun _ => ?_) <;> try (exfalso; omega))
  | (refine K.condb (fun _ => ?_) (fun _ => ?_))
  | (refine K.wrap (by omega) ?_)
  | (refine K.ld (by assumption) ?_)
  | (refine K.ia (by omega) ?_)
  | simp -dsimp only [LL,B9,Nat.reduceAdd,Nat.reduceEqDiff,reduceIte,reduceCtorEq,fE])
 all_goals (refine ⟨?_, by first | rfl | trivial⟩; congr 1; rw [Bool.eq_iff_iff]; simp [Abs.letter]; omega)
theorem digit_r (n : Int) (w : World) : Ret Tryz.prog F.d3 #[.int .i32 n] w fun v w' => v = .bool (Abs.digit n) ∧ w' = w := by
 refine Ks E.d3 ?_; dsimp only [C.d3]; refine Yy ?_
 (repeat' first
  | (refine K.cond (fun _ => ?_) (fun _ => ?_) <;> try (exfalso; omega))
  | (refine K.condb (fun _ => ?_) (fun _ => ?_))
  | (refine K.wrap (by omega) ?_)
  | (refine K.ld (by assumption) ?_)
  | (refine K.ia (by omega) ?_)
  | simp -dsimp only [LL,B9,Nat.reduceAdd,Nat.reduceEqDiff,reduceIte,reduceCtorEq,fE])
 all_goals (refine ⟨?_, by first | rfl | trivial⟩; congr 1; rw [Bool.eq_iff_iff]; simp [Abs.digit]; omega)
theorem part_r (n : Int) (w : World) : Ret Tryz.prog F.bu #[.int .i32 n] w fun v w' => v = .bool (Abs.part n) ∧ w' = w := by
 refine Ks E.bu ?_; dsimp only [C.bu]; refine Yy ?_
 refine Go1 ?_
 refine K.call (letter_r n w) ?_
 rintro _ _ ⟨rfl, rfl⟩
 refine Go1 ?_
 refine K.condb (fun h1 => ?_) (fun h1 => ?_)
 ·refine Go1 ?_
  refine ⟨?_, by first | rfl | trivial⟩; congr 1; simp [Abs.part, h1]
 ·refine Go1 ?_
  refine K.call (digit_r n _) ?_
  rintro _ _ ⟨rfl, rfl⟩
  refine Go1 ?_
  refine K.condb (fun h2 => ?_) (fun h2 => ?_)
  ·refine Go1 ?_
   refine ⟨?_, by first | rfl | trivial⟩; congr 1; simp [Abs.part, h2]
  ·refine Go1 ?_
   refine ⟨?_, by first | rfl | trivial⟩; congr 1; simp [Abs.part, h1, h2]
def iterLeft (w : World) (b : Nat) : Nat := match w.heap[b]? with | some (.stringIter s pos) => s.size - pos | _ => 0
theorem lrun_r (s : ByteArray) (p : Int → Bool) (hp : ∀ r, 128 ≤ r → p r = false) (f : FuncId) (hf : okF Tryz.prog f = true) (w : World)
  (hc : ∀ (r : Int) (w' : World), Ext w w' → Ret Tryz.prog f #[.int .i32 r] w' fun v w'' => v = .bool (p r) ∧ Ext w' w'') :
  Ret Tryz.prog F.ds #[.string s, .func (.func f) #[] #[]] w fun v w' => v = .int .i64 (Abs.run p s) ∧ Ext w w' := by
 refine Ks E.ds ?_; dsimp only [C.ds]; refine Yy ?_
 refine Go1 ?_
 refine K.rngS fun w1 b hb he1 hit1 => ?_
 refine Go1 ?_
 refine K.loop (fun S w' => ∃ pos, pos ≤ s.size ∧ (∀ j (hj : j < s.size), j < pos → p s[j].toNat = true) ∧ w'.heap[b]? = some (.stringIter s pos) ∧ Ext w w')
  (fun _ w' => iterLeft w' b) ⟨0, Nat.zero_le _, fun _ _ h => absurd h (Nat.not_lt_zero _), hit1, he1⟩ ?_
 rintro S w' hS ⟨pos, hpos, hall, hit, he⟩
 have h0 := hS 0 rfl; have h1 := hS 1 rfl; have h8 := hS 8 rfl; simp only [uA, Nat.reduceAdd, Nat.reduceEqDiff, reduceIte, fr0_cons, fr0_nil] at h0 h1 h8; clear hS
 refine Gw (And.intro h0 (And.intro h1 h8)) ?_
 refine K.nxtS hit (fun hlt => ?_) (fun hge => ?_)
 ·have hd := Abs.decode_part hp s pos hlt
  have hs : (setO w' b (.stringIter s (pos + (Utf8.decode s pos).2))).heap[b]? = some (.stringIter s (pos + (Utf8.decode s pos).2)) := setO_same (lH hit)
  have he2 : Ext w (setO w' b (.stringIter s (pos + (Utf8.decode s pos).2))) := he.setO hb _
  generalize setO w' b (.stringIter s (pos + (Utf8.decode s pos).2)) = w2 at hs he2
  refine Gw (And.intro h0 (And.intro h1 h8)) ?_
  refine K.callV (first := []) (cap := []) hf (hc _ _ he2) ?_
  rintro _ w3 ⟨rfl, he3⟩
  refine Gw (And.intro h0 (And.intro h1 h8)) ?_
  refine K.condb (fun hb => ?_) (fun hb => ?_)
  ·refine Go1 ?_
   rw [hd.1] at hb
   have hw := hd.2 hb
   rw [hw] at hs
   refine ⟨⟨pos + 1, by omega, fun j hj hjp => ?_, he3.obj hs, he2.trans he3⟩, ?_⟩
   ·by_cases h : j < pos
    ·exact hall j hj h
    ·have : j = pos := by omega
     subst this; exact hb
   ·simp only [iterLeft, he3.obj hs, hit]; omega
  ·refine Go1 ?_
   rw [hd.1] at hb
   refine ⟨?_, he2.trans he3⟩
   rw [Abs.run_stop p s pos hlt (fun j hj => hall j (by omega) hj) hb]
 ·refine Gw (And.intro h0 (And.intro h1 h8)) ?_
  refine ⟨?_, he⟩
  rw [Abs.run_all p s (fun j hj => hall j hj (by omega))]
def OwnIs (w : World) : Prop := CellsAt w ⟨G.lex_own, 0, none⟩ (Abs.ownL.map Value.string)
theorem OwnIs.ext {w w' : World} (he : Ext w w') (h : OwnIs w) : OwnIs w' := CellsAt.ext he h
theorem name_r (s : ByteArray) (w : World) (ho : OwnIs w) (hs : s.size ≤ 9223372036854775807) :
  Ret Tryz.prog F.ab #[.string s] w fun v w' => v = .bool (Abs.isName s) ∧ Ext w w' := by
 refine Ks E.ab ?_; dsimp only [C.ab]; refine Yy ?_
 refine Go1 ?_
 refine K.cond (fun h0 => ?_) (fun h0 => ?_)
 ·refine Go1 ?_
  refine ⟨?_, Ext.refl w⟩; subst h0; rfl
 have hz : s.size ≠ 0 := fun h => h0 (by
  cases s with | mk d =>
  have : d = #[] := by simpa [ByteArray.size] using h
  rw [this])
 refine Go1 ?_
 refine K.cond (fun h1 => ?_) (fun h1 => ?_)
 ·refine Go1 ?_
  refine ⟨?_, Ext.refl w⟩
  have : ¬ s.size ≤ 16 := by omega
  simp [Abs.isName, this]
 have h1' : s.size ≤ 16 := by omega
 refine Go1 ?_
 refine K.ixS (s.get! 0) (by decide) (Abs.get?_eq s 0 (by omega)) ?_
 refine Go1 ?_
 have hb : (s.get! 0).toNat < 256 := UInt8.toNat_lt _
 refine K.wrapk (IntWalk.i32_in _ (by omega)) ?_
 refine Go1 ?_
 refine K.call (letter_r _ w) ?_
 rintro _ _ ⟨rfl, rfl⟩
 refine Go1 ?_
 refine K.condb (fun h2 => ?_) (fun h2 => ?_)
 rotate_left
 ·refine Go1 ?_
  refine ⟨?_, Ext.refl _⟩
  have h2' : Abs.letter (Abs.byteAt s 0 : Nat) = false := h2
  simp [Abs.isName, h2']
 refine Go1 ?_
 refine K.call (lrun_r s Abs.part Abs.part_high F.bu (by kernel_rfl) _ fun r w' _ => (part_r r w').mono fun v w'' ⟨h3, h4⟩ => ⟨h3, h4 ▸ Ext.refl _⟩) ?_
 rintro _ w2 ⟨rfl, he⟩
 refine Go1 ?_
 refine K.cond (fun h3 => ?_) (fun h3 => ?_)
 ·refine Go1 ?_
  refine ⟨?_, he⟩
  have h3' : ¬ Abs.run Abs.part s = s.size := by omega
  simp [Abs.isName, h3']
 have h3' : Abs.run Abs.part s = s.size := by have := Abs.run_le Abs.part s; omega
 have h2' : Abs.letter (Abs.byteAt s 0 : Nat) = true := h2
 have hname : Abs.isName s = !decide (s ∈ Abs.ownL) := by simp [Abs.isName, h3', h2', h1', hz]
 refine Go1 ?_
 refine K.ldA (ho.ext he) rfl ?_
 refine Go1 ?_
 refine K.loop (fun S w' => ∃ i : Nat, i ≤ 4 ∧ S 27 = .int .i64 i ∧ (∀ j (hj : j < Abs.ownL.length), j < i → Abs.ownL[j] ≠ s) ∧ Ext w2 w')
  (fun S _ => (4 - intOf (S 27)).toNat) ⟨0, by omega, by refine Go1 ?_; rfl, fun _ _ h => absurd h (Nat.not_lt_zero _), Ext.refl _⟩ ?_
 rintro S w' hS ⟨i, hi, h27, hall, he2⟩
 have h0 := hS 0 rfl; have h26 := hS 26 rfl; simp only [uA, Nat.reduceAdd, Nat.reduceEqDiff, reduceIte, fr0_cons, fr0_nil] at h0 h26; clear hS
 refine Gw (And.intro h0 (And.intro h26 h27)) ?_
 refine K.cond (fun h4 => ?_) (fun h4 => ?_)
 ·refine Gw (And.intro h0 (And.intro h26 h27)) ?_
  have hi4 : i < Abs.ownL.length := by simp [Abs.ownL]; omega
  refine K.ixA (.string Abs.ownL[i]) (by omega) (by simp [List.getElem?_map, hi4]) ?_
  refine Gw (And.intro h0 (And.intro h26 h27)) ?_
  refine K.cond (fun h5 => ?_) (fun h5 => ?_)
  ·refine Go1 ?_
   refine ⟨?_, he.trans he2⟩
   rw [hname]
   have : s ∈ Abs.ownL := h5 ▸ List.getElem_mem _
   simp [this]
  ·refine Gw (And.intro h0 (And.intro h26 h27)) ?_
   refine K.wrap (by omega) ?_
   refine Gw (And.intro h0 (And.intro h26 h27)) ?_
   refine ⟨⟨i + 1, by omega, rfl, fun j hj hji => ?_, he2⟩, by simp [intOf]; omega⟩
   by_cases h : j < i
   ·exact hall j hj h
   ·have : j = i := by omega
    subst this; exact h5
 ·refine Gw (And.intro h0 (And.intro h26 h27)) ?_
  refine ⟨?_, he.trans he2⟩
  rw [hname]
  have : s ∉ Abs.ownL := fun hm => by
   obtain ⟨j, hj, he⟩ := List.mem_iff_getElem.1 hm
   exact hall j hj (by have : Abs.ownL.length = 4 := rfl; omega) he
  simp [this]
end Go.Proofs.R
end
section
set_option linter.unusedSimpArgs false
namespace Go.Proofs.R
open Go Go.RowKit Lite
theorem narrow_r (lo hi : Int) (w : World) : Ret Tryz.prog F.bo #[.int .i64 lo, .int .i64 hi] w fun v w' => v = .bool (Abs.narrow lo hi) ∧ w' = w := by
 refine Ks E.bo ?_; dsimp only [C.bo]; refine Yy ?_
 (repeat' first
  | (refine K.cond (fun _ => ?_) (fun _ => ?_) <;> try (exfalso; omega))
  | (refine K.condb (fun _ => ?_) (fun _ => ?_))
  | (refine K.wrap (by omega) ?_)
  | (refine K.ld (by assumption) ?_)
  | (refine K.ia (by omega) ?_)
  | simp -dsimp only [LL,B9,Nat.reduceAdd,Nat.reduceEqDiff,reduceIte,reduceCtorEq,fE])
 all_goals (refine ⟨?_, by first | rfl | trivial⟩; congr 1; rw [Bool.eq_iff_iff]; simp [Abs.narrow]; omega)
theorem size_at {k : Int} {l : List Abs.Scalar} (h1 : 1 ≤ k) (h2 : k ≤ l.length) : Abs.size k l = if 1 ≤ (l[k.toNat - 1]'(by omega)).size ∧ (l[k.toNat - 1]'(by omega)).size ≤ 4 then (l[k.toNat - 1]'(by omega)).size else 0 := by
 have e : (k - 1).toNat = k.toNat - 1 := by omega
 have hlt : k.toNat - 1 < l.length := by omega
 simp only [Abs.size, e, List.getElem?_eq_getElem hlt, h1, true_and]
theorem size_no {k : Int} {l : List Abs.Scalar} (h : k < 1 ∨ l.length < k) : Abs.size k l = 0 := by
 unfold Abs.size
 split
 ·rename_i x hx
  rw [if_neg]
  rintro ⟨h1, _⟩
  have := (List.getElem?_eq_some_iff.1 hx).1
  omega
 ·rfl
theorem size_r (k : Int) (v : Value) (l : List Abs.Scalar) (w : World) (hl : Abs.Scalars w v l) :
  Ret Tryz.prog F.aj #[.int .i64 k, v] w fun v w' => v = .tuple #[.int .i64 (Abs.size k l), .bool (decide (Abs.size k l ≠ 0))] ∧ w' = w := by
 obtain ⟨oa, cap, rfl, hlen⟩ := hl.form
 refine Ks E.aj ?_; dsimp only [C.aj]; refine Yy ?_
 refine Go1 ?_
 refine K.cond (fun h1 => ?_) (fun h1 => ?_)
 ·refine Go1 ?_
  rw [size_no (.inl h1)]; exact ⟨rfl, trivial⟩
 refine Go1 ?_
 refine K.cond (fun h2 => ?_) (fun h2 => ?_)
 ·refine Go1 ?_
  rw [size_no (.inr h2)]; exact ⟨rfl, trivial⟩
 refine Go1 ?_
 refine K.wrap (by omega) ?_
 refine Go1 ?_
 obtain ⟨a, rfl⟩ := hl.addr (by omega)
 have hc := (hl.at (k.toNat - 1) (by omega)).cells 1 _ rfl
 refine K.ian (k.toNat - 1) (by omega) (by omega) ?_
 refine Go1 ?_
 refine K.ld hc ?_
 rw [size_at (by omega) (by omega)]
 generalize l[k.toNat - 1].size = z at hc
 refine Go1 ?_
 refine K.cond (fun h3 => ?_) (fun h3 => ?_)
 ·refine Go1 ?_
  rw [if_neg (by omega)]; exact ⟨rfl, trivial⟩
 refine Go1 ?_
 refine K.wrap (by omega) ?_
 refine Go1 ?_
 refine K.ian (k.toNat - 1) (by omega) (by omega) ?_
 refine Go1 ?_
 refine K.ld hc ?_
 refine Go1 ?_
 refine K.cond (fun h4 => ?_) (fun h4 => ?_)
 ·refine Go1 ?_
  rw [if_neg (by omega)]; exact ⟨rfl, trivial⟩
 refine Go1 ?_
 refine K.wrap (by omega) ?_
 refine Go1 ?_
 refine K.ian (k.toNat - 1) (by omega) (by omega) ?_
 refine Go1 ?_
 refine K.ld hc ?_
 refine Go1 ?_
 rw [if_pos (by omega)]
 refine ⟨?_, by trivial⟩
 have : z ≠ 0 := by omega
 simp [this]
theorem there_r (k : Int) (v : Value) (l : List Abs.Scalar) (w : World) (hl : Abs.Scalars w v l) :
  Ret Tryz.prog F.ar #[.int .i64 k, v] w fun v w' => v = .bool (Abs.there k l) ∧ w' = w := by
 refine Ks E.ar ?_; dsimp only [C.ar]; refine Yy ?_
 refine Go1 ?_
 refine K.call (size_r k v l w hl) ?_
 rintro _ _ ⟨rfl, rfl⟩
 refine Go1 ?_
 refine K.cond (fun h1 => ?_) (fun h1 => ?_)
 ·refine Go1 ?_
  refine ⟨?_, by trivial⟩; simp [Abs.there, h1]
 ·refine Go1 ?_
  refine ⟨?_, by trivial⟩; simp [Abs.there, h1]
def seen (l : List ByteArray) : List (ByteArray × Value) := l.map fun x => (x, .bool true)
theorem seen_find (l : List ByteArray) (x : ByteArray) : ((seen l).find? (fun p => decide (x = p.1))).map (·.2) = if x ∈ l then some (.bool true) else none := by
 induction l with
 | nil => rfl
 | cons y l ih =>
  simp only [seen, List.map_cons, List.find?_cons, List.mem_cons]
  by_cases h : x = y
  ·simp [h]
  ·simp only [h, decide_false, false_or]
   exact ih
set_option maxHeartbeats 2000000 in
theorem named_r (n most : Int) (hn : 0 ≤ n ∧ n ≤ 9223372036854775807) (nm : Nat → ByteArray) (mo : Nat → Int) (f1 f2 : FuncId) (c1 c2 : List Value) (hf1 : okF Tryz.prog f1 = true) (hf2 : okF Tryz.prog f2 = true) (w : World) (ho : OwnIs w)
  (hnm : ∀ i : Nat, i < n → Abs.strOk (nm i))
  (k1 : ∀ (i : Nat) (w' : World), i < n → Ext w w' → Ret Tryz.prog f1 (.int .i64 i :: c1).toArray w' fun v w'' => v = .string (nm i) ∧ Ext w' w'')
  (k2 : ∀ (i : Nat) (w' : World), i < n → Ext w w' → Ret Tryz.prog f2 (.int .i64 i :: c2).toArray w' fun v w'' => v = .int .i64 (mo i) ∧ Ext w' w'') :
  Ret Tryz.prog F.aq #[.int .i64 n, .int .i64 most, .func (.func f1) #[] c1.toArray, .func (.func f2) #[] c2.toArray] w
   fun v w' => v = .tuple #[.int .i64 (Abs.first n.toNat (Abs.err most nm mo)).1, .int .i64 (Abs.first n.toNat (Abs.err most nm mo)).2] ∧ Ext w w' := by
 refine Ks E.aq ?_; dsimp only [C.aq]; refine Yy ?_
 refine Go1 ?_
 refine K.newM fun w1 b hb he1 hm1 => ?_
 refine Go1 ?_
 refine K.loop (fun S w' => ∃ i : Nat, i ≤ n ∧ S 16 = .int .i64 i ∧ (∀ j, j < i → Abs.err most nm mo j = 0) ∧ Ext w w' ∧
   ∃ es c, w'.heap[b]? = some (.map es c) ∧ KV Value.string es.toList (seen ((List.range i).map nm)))
  (fun S _ => (n - intOf (S 16)).toNat) ⟨0, by omega, by refine Go1 ?_; rfl, fun _ h => absurd h (Nat.not_lt_zero _), he1, _, _, hm1, rfl⟩ ?_
 rintro S w2 hS ⟨i, hi, h16, hz, he, es, c, hm, hkv⟩
 have h0 := hS 0 rfl; have h1 := hS 1 rfl; have h2 := hS 2 rfl; have h3 := hS 3 rfl; have h10 := hS 10 rfl; have h15 := hS 15 rfl; simp only [uA, Nat.reduceAdd, Nat.reduceEqDiff, reduceIte, fr0_cons, fr0_nil] at h0 h1 h2 h3 h10 h15; clear hS
 refine Gw (And.intro h0 (And.intro h1 (And.intro h2 (And.intro h3 (And.intro h10 (And.intro h15 h16)))))) ?_
 refine K.cond (fun hlt => ?_) (fun hge => ?_)
 rotate_left
 ·refine Go1 ?_
  refine ⟨?_, he⟩
  rw [Abs.first_none fun j hj => hz j (by omega)]
 have stop : ∀ e : Int, Abs.err most nm mo i = e → e ≠ 0 → Abs.first n.toNat (Abs.err most nm mo) = ((i : Int), e) := fun e h hne => by
  rw [Abs.first_stop (by omega) hz (by rw [h]; exact hne), h]
 refine Gw (And.intro h0 (And.intro h1 (And.intro h2 (And.intro h3 (And.intro h10 (And.intro h15 h16)))))) ?_
 refine K.callV (first := []) hf1 (k1 i w2 hlt he) ?_
 rintro _ w3 ⟨rfl, he3⟩
 refine Gw (And.intro h0 (And.intro h1 (And.intro h2 (And.intro h3 (And.intro h10 (And.intro h15 h16)))))) ?_
 refine K.cond (fun ha => ?_) (fun ha => ?_)
 ·refine Gw (And.intro h0 (And.intro h1 (And.intro h2 (And.intro h3 (And.intro h10 (And.intro h15 h16)))))) ?_
  refine K.cond (fun h => absurd h (by decide)) (fun _ => ?_)
  refine Go1 ?_
  rw [stop 11 (by simp [Abs.err, ha]) (by decide)]
  exact ⟨rfl, he.trans he3⟩
 refine Gw (And.intro h0 (And.intro h1 (And.intro h2 (And.intro h3 (And.intro h10 (And.intro h15 h16)))))) ?_
 refine K.call (name_r (nm i) w3 (ho.ext (he.trans he3)) (hnm i hlt)) ?_
 rintro _ w4 ⟨rfl, he4⟩
 refine Gw (And.intro h0 (And.intro h1 (And.intro h2 (And.intro h3 (And.intro h10 (And.intro h15 h16)))))) ?_
 refine K.condb (fun hn1 => ?_) (fun hn1 => ?_)
 rotate_left
 ·refine Gw (And.intro h0 (And.intro h1 (And.intro h2 (And.intro h3 (And.intro h10 (And.intro h15 h16)))))) ?_
  refine K.cond (fun h => absurd h (by decide)) (fun _ => ?_)
  refine Go1 ?_
  rw [stop 6 (by simp [Abs.err, ha, hn1]) (by decide)]
  exact ⟨rfl, (he.trans he3).trans he4⟩
 refine Gw (And.intro h0 (And.intro h1 (And.intro h2 (And.intro h3 (And.intro h10 (And.intro h15 h16)))))) ?_
 have hm4 : w4.heap[b]? = some (.map es c) := he4.obj (he3.obj hm)
 obtain ⟨r, hr1, hr2⟩ := findNow_kv same_str (nm i) es.toList _ 0 hkv
 rw [seen_find] at hr2
 refine K.lkp (.inr ⟨b, c, rfl, hm4⟩) hr1 ?_
 have hmem : nm i ∈ (List.range i).map nm ↔ ∃ j, j < i ∧ nm j = nm i := by simp
 by_cases hin : ∃ j, j < i ∧ nm j = nm i
 ·rw [if_pos (hmem.2 hin)] at hr2
  have hv : lkpV (.bool false) false r = .bool true := by simp [lkpV, hr2]
  rw [hv]
  refine Gw (And.intro h0 (And.intro h1 (And.intro h2 (And.intro h3 (And.intro h10 (And.intro h15 h16)))))) ?_
  refine K.cond (fun h => absurd h (by decide)) (fun _ => ?_)
  refine Go1 ?_
  rw [stop 7 (by simp [Abs.err, ha, hn1, hin]) (by decide)]
  exact ⟨rfl, (he.trans he3).trans he4⟩
 rw [if_neg (fun h => hin (hmem.1 h))] at hr2
 have hr0 : r = none := by cases r <;> simp at hr2 ⊢
 subst hr0
 have hv : lkpV (.bool false) false none = .bool false := rfl
 rw [hv]
 refine Gw (And.intro h0 (And.intro h1 (And.intro h2 (And.intro h3 (And.intro h10 (And.intro h15 h16)))))) ?_
 refine K.callV (first := []) hf2 (k2 i w4 hlt ((he.trans he3).trans he4)) ?_
 rintro _ w5 ⟨rfl, he5⟩
 have herr : Abs.err most nm mo i = mo i := by simp [Abs.err, ha, hn1, hin]
 refine Gw (And.intro h0 (And.intro h1 (And.intro h2 (And.intro h3 (And.intro h10 (And.intro h15 h16)))))) ?_
 refine K.cond (fun h => ?_) (fun h => ?_)
 rotate_left
 ·refine Go1 ?_
  rw [stop (mo i) herr h]
  exact ⟨rfl, ((he.trans he3).trans he4).trans he5⟩
 refine Gw (And.intro h0 (And.intro h1 (And.intro h2 (And.intro h3 (And.intro h10 (And.intro h15 h16)))))) ?_
 have hm5 := he5.obj hm4
 refine K.mup hm5 hr1 ?_
 have hs : (setO w5 b (mupO es c (.string (nm i)) (.bool true) none)).heap[b]? = some (mupO es c (.string (nm i)) (.bool true) none) := setO_same (lH hm5)
 have he6 : Ext w (setO w5 b (mupO es c (.string (nm i)) (.bool true) none)) := (((he.trans he3).trans he4).trans he5).setO hb _
 generalize setO w5 b (mupO es c (.string (nm i)) (.bool true) none) = w6 at hs he6
 refine Gw (And.intro h0 (And.intro h1 (And.intro h2 (And.intro h3 (And.intro h10 (And.intro h15 h16)))))) ?_
 refine K.wrap (by omega) ?_
 refine Gw (And.intro h0 (And.intro h1 (And.intro h2 (And.intro h3 (And.intro h10 (And.intro h15 h16)))))) ?_
 refine ⟨⟨i + 1, by omega, rfl, fun j hj => ?_, he6, _, _, hs, ?_⟩, by simp [intOf]; omega⟩
 ·by_cases h' : j < i
  ·exact hz j h'
  ·have : j = i := by omega
   subst this; rw [herr, h]
 ·have := KV.push hkv (nm i) (.bool true) c
  simpa [seen, List.range_succ] using this
end Go.Proofs.R
end
section
set_option linter.unusedSimpArgs false
namespace Go.Proofs.R
open Go Go.RowKit Lite
theorem nameAt_lt {α : Type} (f : α → ByteArray) (l : List α) (i : Nat) (h : i < l.length) : Abs.nameAt f l i = f l[i] := by simp [Abs.nameAt, h]
theorem scalars1_r (i : Nat) (b : Nat) (v : Value) (l : List Abs.Scalar) (w : World) (hl : Abs.Scalars w v l) (hb : w.cell? ⟨b, 0, none⟩ = some v) (hi : i < l.length) :
  Ret Tryz.prog F.bk #[.int .i64 i, .pointer (some ⟨b, 0, none⟩)] w fun v w' => v = .string (Abs.nameAt (·.name) l i) ∧ Ext w w' := by
 obtain ⟨oa, cap, rfl, hlen⟩ := hl.form
 refine Ks E.bk ?_; dsimp only [C.bk]; refine Yy ?_
 refine Go1 ?_
 refine K.ld hb ?_
 refine Go1 ?_
 obtain ⟨a, rfl⟩ := hl.addr (by omega)
 have hc := (hl.at i hi).cells 0 _ rfl
 refine K.ian i rfl hi ?_
 refine Go1 ?_
 refine K.ld hc ?_
 refine Go1 ?_
 rw [nameAt_lt _ _ _ hi]
 exact ⟨rfl, Ext.refl w⟩
theorem scalars2_r (i : Nat) (b : Nat) (v : Value) (l : List Abs.Scalar) (w : World) (hl : Abs.Scalars w v l) (hb : w.cell? ⟨b, 0, none⟩ = some v) (hi : i < l.length) :
  Ret Tryz.prog F.bl #[.int .i64 i, .pointer (some ⟨b, 0, none⟩)] w fun v w' => v = .int .i64 (Abs.scalarErr l i) ∧ Ext w w' := by
 obtain ⟨oa, cap, rfl, hlen⟩ := hl.form
 refine Ks E.bl ?_; dsimp only [C.bl]; refine Yy ?_
 refine Go1 ?_
 refine K.ld hb ?_
 refine Go1 ?_
 obtain ⟨a, rfl⟩ := hl.addr (by omega)
 have hc := (hl.at i hi).cells 1 _ rfl
 have hr : Abs.scalarErr l i = if 1 ≤ l[i].size ∧ l[i].size ≤ 4 then 0 else 10 := by simp [Abs.scalarErr, hi]
 rw [hr]
 generalize l[i].size = z at hc
 refine K.ian i rfl hi ?_
 refine Go1 ?_
 refine K.ld hc ?_
 refine Go1 ?_
 refine K.cond (fun h1 => ?_) (fun h1 => ?_)
 ·refine Go1 ?_
  rw [if_neg (by omega)]; exact ⟨rfl, Ext.refl w⟩
 refine Go1 ?_
 refine K.ld hb ?_
 refine Go1 ?_
 refine K.ian i rfl hi ?_
 refine Go1 ?_
 refine K.ld hc ?_
 refine Go1 ?_
 refine K.cond (fun h1 => ?_) (fun h1 => ?_)
 ·refine Go1 ?_
  rw [if_neg (by omega)]; exact ⟨rfl, Ext.refl w⟩
 ·refine Go1 ?_
  rw [if_pos (by omega)]; exact ⟨rfl, Ext.refl w⟩
theorem scalars_r (v : Value) (l : List Abs.Scalar) (w : World) (ho : OwnIs w) (hl : Abs.Scalars w v l) :
  Ret Tryz.prog F.dc #[v] w fun v w' => v = .tuple #[.int .i64 (Abs.scalars l).1, .int .i64 (Abs.scalars l).2] ∧ Ext w w' := by
 obtain ⟨oa, cap, rfl, hlen⟩ := hl.form
 refine Ks E.dc ?_; dsimp only [C.dc]; refine Yy ?_
 refine Go1 ?_
 refine K.new fun w1 b hb he1 hc1 => ?_
 have hl1 := SlR.ext Abs.RScalar.ext he1 hl
 have hb1 : w1.cell? ⟨b, 0, none⟩ = some (.slice oa l.length cap) := cell_blk0 hc1 rfl
 refine Go1 ?_
 refine K.ld hb1 ?_
 refine Go1 ?_
 refine K.call (named_r l.length 2 (by omega) (Abs.nameAt (·.name) l) (Abs.scalarErr l) F.bk F.bl [_] [_] (by kernel_rfl) (by kernel_rfl) w1 (ho.ext he1)
  (fun i hi => by rw [nameAt_lt _ _ _ (by omega)]; obtain ⟨a, rfl⟩ := hl.addr (by omega); exact (hl.at i (by omega)).ok)
  (fun i w' hi he => scalars1_r i b _ l w' (SlR.ext Abs.RScalar.ext he hl1) (he.cell hb1) (by omega))
  (fun i w' hi he => scalars2_r i b _ l w' (SlR.ext Abs.RScalar.ext he hl1) (he.cell hb1) (by omega))) ?_
 rintro _ w2 ⟨rfl, he2⟩
 refine Go1 ?_
 exact ⟨rfl, he1.trans he2⟩
theorem bounds_r (x : Abs.Var) (v : Value) (l : List Abs.Scalar) (w : World) (hl : Abs.Scalars w v l) :
  Ret Tryz.prog F.bi #[.agg x.enc.toArray, v] w fun v w' => v = .tuple #[.int .i64 (Abs.bounds x l).1, .int .i64 (Abs.bounds x l).2] ∧ Ext w w' := by
 obtain ⟨oa, cap, rfl, hlen⟩ := hl.form
 refine Ks E.bi ?_; dsimp only [C.bi]; refine Yy ?_
 refine Go1 ?_
 refine K.new fun w1 b hb he1 hc1 => ?_
 have c1 : w1.cell? (Addr.add ⟨b, 0, none⟩ 1) = some (.int .i64 x.scalar) := kB hc1 rfl
 have c3 : w1.cell? (Addr.add ⟨b, 0, none⟩ 3) = some (.int .i64 x.lo) := kB hc1 rfl
 have c4 : w1.cell? (Addr.add ⟨b, 0, none⟩ 4) = some (.int .i64 x.hi) := kB hc1 rfl
 refine Go1 ?_
 refine K.ld c1 ?_
 refine Go1 ?_
 refine K.cond (fun h1 => ?_) (fun h1 => ?_)
 ·refine Go1 ?_
  refine K.ld c3 ?_
  refine Go1 ?_
  refine K.ld c4 ?_
  refine Go1 ?_
  intro w2 he2
  simp only [Abs.bounds, h1, if_true]
  exact ⟨trivial, he1.trans he2⟩
 ·refine Go1 ?_
  refine K.ld c1 ?_
  refine Go1 ?_
  refine K.call (size_r x.scalar _ l w1 (SlR.ext Abs.RScalar.ext he1 hl)) ?_
  rintro _ _ ⟨rfl, rfl⟩
  refine Go1 ?_
  simp only [Abs.bounds, h1, if_false]
  exact ⟨trivial, he1⟩
theorem cells_r (x : Abs.Var) (v : Value) (l : List Abs.Scalar) (w : World) (hl : Abs.Scalars w v l) :
  Ret Tryz.prog F.u #[.agg x.enc.toArray, v] w fun v w' => v = .int .i64 (Abs.cells x l) ∧ Ext w w' := by
 obtain ⟨oa, cap, rfl, hlen⟩ := hl.form
 refine Ks E.u ?_; dsimp only [C.u]; refine Yy ?_
 refine Go1 ?_
 refine K.new fun w1 b hb he1 hc1 => ?_
 have c2 : w1.cell? (Addr.add ⟨b, 0, none⟩ 2) = some (.int .i64 x.over) := kB hc1 rfl
 refine Go1 ?_
 refine K.ld c2 ?_
 refine Go1 ?_
 refine K.cond (fun h1 => ?_) (fun h1 => ?_)
 ·refine Go1 ?_
  simp only [Abs.cells, h1, if_true]
  exact ⟨trivial, he1⟩
 ·refine Go1 ?_
  refine K.ld c2 ?_
  refine Go1 ?_
  refine K.call (size_r x.over _ l w1 (SlR.ext Abs.RScalar.ext he1 hl)) ?_
  rintro _ _ ⟨rfl, rfl⟩
  refine Go1 ?_
  simp only [Abs.cells, h1, if_false]
  exact ⟨trivial, he1⟩
theorem vars1_r (i : Nat) (b : Nat) (v : Value) (l : List Abs.Var) (w : World) (hl : Abs.Vars w v l) (hb : w.cell? ⟨b, 0, none⟩ = some v) (hi : i < l.length) :
  Ret Tryz.prog F.bm #[.int .i64 i, .pointer (some ⟨b, 0, none⟩)] w fun v w' => v = .string (Abs.nameAt (·.name) l i) ∧ Ext w w' := by
 obtain ⟨oa, cap, rfl, hlen⟩ := hl.form
 refine Ks E.bm ?_; dsimp only [C.bm]; refine Yy ?_
 refine Go1 ?_
 refine K.ld hb ?_
 refine Go1 ?_
 obtain ⟨a, rfl⟩ := hl.addr (by omega)
 have hc := (hl.at i hi).cells 0 _ rfl
 refine K.ian i rfl hi ?_
 refine Go1 ?_
 refine K.ld hc ?_
 refine Go1 ?_
 rw [nameAt_lt _ _ _ hi]
 exact ⟨rfl, Ext.refl w⟩
theorem vars2_r (i : Nat) (b b2 : Nat) (v v2 : Value) (l : List Abs.Var) (s : List Abs.Scalar) (w : World) (hl : Abs.Vars w v l) (hs : Abs.Scalars w v2 s) (hb : w.cell? ⟨b, 0, none⟩ = some v) (hb2 : w.cell? ⟨b2, 0, none⟩ = some v2)
  (hi : i < l.length) : Ret Tryz.prog F.bn #[.int .i64 i, .pointer (some ⟨b, 0, none⟩), .pointer (some ⟨b2, 0, none⟩)] w fun v w' => v = .int .i64 (Abs.varErr l s i) ∧ Ext w w' := by
 obtain ⟨oa, cap, rfl, hlen⟩ := hl.form
 obtain ⟨ob, cap2, rfl, hlen2⟩ := hs.form
 refine Ks E.bn ?_; dsimp only [C.bn]; refine Yy ?_
 refine Go1 ?_
 refine K.ld hb ?_
 refine Go1 ?_
 obtain ⟨a, rfl⟩ := hl.addr (by omega)
 have hc := (hl.at i hi).cells
 have hr : Abs.varErr l s i = if Abs.there l[i].scalar s = false ∨ Abs.there l[i].over s = false then 8
  else if (l[i].scalar = 0 ∧ Abs.narrow l[i].lo l[i].hi = false) ∨ l[i].init < (Abs.bounds l[i] s).1 ∨ l[i].init > (Abs.bounds l[i] s).2 then 10 else 0 := by simp [Abs.varErr, hi]
 rw [hr]
 clear hr
 generalize l[i] = x at hc
 refine K.ian i rfl hi ?_
 refine Go1 ?_
 refine K.ldA hc rfl ?_
 refine Go1 ?_
 refine K.new fun w1 q hq he1 hc1 => ?_
 refine Go1 ?_
 refine K.stAb hc1 rfl rfl (by simp [Abs.Var.enc, Value.oneCell']) fun w2 hw hc2 => ?_
 have he2 : Ext w w2 := hw.ext he1 hq
 clear hw hc1 he1 w1
 have c1 : w2.cell? (Addr.add ⟨q, 0, none⟩ 1) = some (.int .i64 x.scalar) := kB hc2 rfl
 have c2 : w2.cell? (Addr.add ⟨q, 0, none⟩ 2) = some (.int .i64 x.over) := kB hc2 rfl
 have c5 : w2.cell? (Addr.add ⟨q, 0, none⟩ 5) = some (.int .i64 x.init) := kB hc2 rfl
 have d2 := he2.cell hb2
 have hs2 := SlR.ext Abs.RScalar.ext he2 hs
 refine Go1 ?_
 refine K.ld c1 ?_
 refine Go1 ?_
 refine K.ld d2 ?_
 refine Go1 ?_
 refine K.call (there_r x.scalar _ s w2 hs2) ?_
 rintro _ _ ⟨rfl, rfl⟩
 refine Go1 ?_
 refine K.condb (fun h1 => ?_) (fun h1 => ?_)
 rotate_left
 ·refine Go1 ?_
  simp only [h1, true_or, if_true]; exact ⟨trivial, he2⟩
 refine Go1 ?_
 refine K.ld c2 ?_
 refine Go1 ?_
 refine K.ld d2 ?_
 refine Go1 ?_
 refine K.call (there_r x.over _ s _ hs2) ?_
 rintro _ _ ⟨rfl, rfl⟩
 refine Go1 ?_
 refine K.condb (fun h2 => ?_) (fun h2 => ?_)
 rotate_left
 ·refine Go1 ?_
  simp only [h2, or_true, if_true]; exact ⟨trivial, he2⟩
 refine Go1 ?_
 refine K.ldA (cB hc2) rfl ?_
 refine Go1 ?_
 refine K.ld d2 ?_
 refine Go1 ?_
 refine K.call (bounds_r x _ s _ hs2) ?_
 rintro _ w3 ⟨rfl, he3⟩
 rename_i w2'
 have e1 := he3.cell c1
 have e5 := he3.cell c5
 have he := he2.trans he3
 refine Go1 ?_
 refine K.ld e1 ?_
 have hA : ¬ (Abs.there x.scalar s = false ∨ Abs.there x.over s = false) := by simp [h1, h2]
 refine Go1 ?_
 refine K.cond (fun h3 => ?_) (fun h3 => ?_)
 ·refine Go1 ?_
  have hbd : Abs.bounds x s = (x.lo, x.hi) := by simp [Abs.bounds, h3]
  rw [hbd]
  refine K.call (narrow_r x.lo x.hi w3) ?_
  rintro _ _ ⟨rfl, rfl⟩
  refine Go1 ?_
  refine K.condb (fun h4 => ?_) (fun h4 => ?_)
  rotate_left
  ·refine Go1 ?_
   rw [if_neg hA, if_pos (.inl ⟨h3, h4⟩)]; exact ⟨rfl, he⟩
  refine Go1 ?_
  refine K.ld e5 ?_
  refine Go1 ?_
  refine K.cond (fun h5 => ?_) (fun h5 => ?_)
  ·refine Go1 ?_
   rw [if_neg hA, if_pos (.inr (.inl h5))]; exact ⟨rfl, he⟩
  refine Go1 ?_
  refine K.ld e5 ?_
  refine Go1 ?_
  refine K.cond (fun h6 => ?_) (fun h6 => ?_)
  ·refine Go1 ?_
   rw [if_neg hA, if_pos (.inr (.inr h6))]; exact ⟨rfl, he⟩
  ·refine Go1 ?_
   rw [if_neg hA, if_neg (by rw [h4]; simp; omega)]; exact ⟨rfl, he⟩
 ·refine Go1 ?_
  refine K.ld e5 ?_
  refine Go1 ?_
  refine K.cond (fun h5 => ?_) (fun h5 => ?_)
  ·refine Go1 ?_
   rw [if_neg hA, if_pos (.inr (.inl h5))]; exact ⟨rfl, he⟩
  refine Go1 ?_
  refine K.ld e5 ?_
  refine Go1 ?_
  refine K.cond (fun h6 => ?_) (fun h6 => ?_)
  ·refine Go1 ?_
   rw [if_neg hA, if_pos (.inr (.inr h6))]; exact ⟨rfl, he⟩
  ·refine Go1 ?_
   rw [if_neg hA, if_neg (by simp [h3]; omega)]; exact ⟨rfl, he⟩
theorem vars_r (v v2 : Value) (l : List Abs.Var) (s : List Abs.Scalar) (most : Int) (w : World) (ho : OwnIs w) (hl : Abs.Vars w v l) (hs : Abs.Scalars w v2 s) :
  Ret Tryz.prog F.bf #[v, v2, .int .i64 most] w fun v w' => v = .tuple #[.int .i64 (Abs.vars l s most).1, .int .i64 (Abs.vars l s most).2] ∧ Ext w w' := by
 obtain ⟨oa, cap, rfl, hlen⟩ := hl.form
 obtain ⟨ob, cap2, rfl, hlen2⟩ := hs.form
 refine Ks E.bf ?_; dsimp only [C.bf]; refine Yy ?_
 refine Go1 ?_
 refine K.new fun w1 b hb he1 hc1 => ?_
 refine Go1 ?_
 refine K.new fun w2 b2 hb2 he2 hc2 => ?_
 have he := he1.trans he2
 have hl1 := SlR.ext Abs.RVar.ext he hl
 have hs1 := SlR.ext Abs.RScalar.ext he hs
 have d1 : w2.cell? ⟨b, 0, none⟩ = some (.slice oa l.length cap) := cell_blk0 (he2.obj hc1) rfl
 have d2 : w2.cell? ⟨b2, 0, none⟩ = some (.slice ob s.length cap2) := cell_blk0 hc2 rfl
 refine Go1 ?_
 refine K.ld d1 ?_
 refine Go1 ?_
 refine K.call (named_r l.length (max most 0) (by omega) (Abs.nameAt (·.name) l) (Abs.varErr l s) F.bm F.bn [_] [_, _] (by kernel_rfl) (by kernel_rfl) w2 (ho.ext he)
  (fun i hi => by rw [nameAt_lt _ _ _ (by omega)]; obtain ⟨a, rfl⟩ := hl.addr (by omega); exact (hl.at i (by omega)).ok)
  (fun i w' hi he => vars1_r i b _ l w' (SlR.ext Abs.RVar.ext he hl1) (he.cell d1) (by omega))
  (fun i w' hi he => vars2_r i b b2 _ _ l s w' (SlR.ext Abs.RVar.ext he hl1) (SlR.ext Abs.RScalar.ext he hs1) (he.cell d1) (he.cell d2) (by omega))) ?_
 rintro _ w3 ⟨rfl, he3⟩
 refine Go1 ?_
 exact ⟨rfl, he.trans he3⟩
theorem chans1_r (i : Nat) (b : Nat) (v : Value) (l : List Abs.Chan) (w : World) (hl : Abs.Chans w v l) (hb : w.cell? ⟨b, 0, none⟩ = some v) (hi : i < l.length) :
  Ret Tryz.prog F.bp #[.int .i64 i, .pointer (some ⟨b, 0, none⟩)] w fun v w' => v = .string (Abs.nameAt (·.name) l i) ∧ Ext w w' := by
 obtain ⟨oa, cap, rfl, hlen⟩ := hl.form
 refine Ks E.bp ?_; dsimp only [C.bp]; refine Yy ?_
 refine Go1 ?_
 refine K.ld hb ?_
 refine Go1 ?_
 obtain ⟨a, rfl⟩ := hl.addr (by omega)
 have hc := (hl.at i hi).cells 0 _ rfl
 refine K.ian i rfl hi ?_
 refine Go1 ?_
 refine K.ld hc ?_
 refine Go1 ?_
 rw [nameAt_lt _ _ _ hi]
 exact ⟨rfl, Ext.refl w⟩
theorem chans2_r (i : Nat) (b b2 : Nat) (v v2 : Value) (l : List Abs.Chan) (s : List Abs.Scalar) (w : World) (hl : Abs.Chans w v l) (hs : Abs.Scalars w v2 s) (hb : w.cell? ⟨b, 0, none⟩ = some v) (hb2 : w.cell? ⟨b2, 0, none⟩ = some v2)
  (hi : i < l.length) : Ret Tryz.prog F.bq #[.int .i64 i, .pointer (some ⟨b, 0, none⟩), .pointer (some ⟨b2, 0, none⟩)] w fun v w' => v = .int .i64 (Abs.chanErr l s i) ∧ Ext w w' := by
 obtain ⟨oa, cap, rfl, hlen⟩ := hl.form
 obtain ⟨ob, cap2, rfl, hlen2⟩ := hs.form
 refine Ks E.bq ?_; dsimp only [C.bq]; refine Yy ?_
 refine Go1 ?_
 refine K.ld hb ?_
 refine Go1 ?_
 obtain ⟨a, rfl⟩ := hl.addr (by omega)
 have hc := (hl.at i hi).cells
 have hr : Abs.chanErr l s i = if Abs.there l[i].scalar s = false then 8
  else if l[i].cap < 1 ∨ l[i].cap > 4 ∨ (l[i].scalar = 0 ∧ Abs.narrow l[i].lo l[i].hi = false) then 10 else 0 := by simp [Abs.chanErr, hi]
 rw [hr]
 clear hr
 generalize l[i] = x at hc
 refine K.ian i rfl hi ?_
 refine Go1 ?_
 refine K.ldA hc rfl ?_
 refine Go1 ?_
 refine K.new fun w1 q hq he1 hc1 => ?_
 refine Go1 ?_
 refine K.stAb hc1 rfl rfl (by simp [Abs.Chan.enc, Value.oneCell']) fun w2 hw hc2 => ?_
 have he2 : Ext w w2 := hw.ext he1 hq
 clear hw hc1 he1 w1
 have c1 : w2.cell? (Addr.add ⟨q, 0, none⟩ 1) = some (.int .i64 x.scalar) := kB hc2 rfl
 have c2 : w2.cell? (Addr.add ⟨q, 0, none⟩ 2) = some (.int .i64 x.cap) := kB hc2 rfl
 have c3 : w2.cell? (Addr.add ⟨q, 0, none⟩ 3) = some (.int .i64 x.lo) := kB hc2 rfl
 have c4 : w2.cell? (Addr.add ⟨q, 0, none⟩ 4) = some (.int .i64 x.hi) := kB hc2 rfl
 have d2 := he2.cell hb2
 have hs2 := SlR.ext Abs.RScalar.ext he2 hs
 refine Go1 ?_
 refine K.ld c1 ?_
 refine Go1 ?_
 refine K.ld d2 ?_
 refine Go1 ?_
 refine K.call (there_r x.scalar _ s w2 hs2) ?_
 rintro _ _ ⟨rfl, rfl⟩
 refine Go1 ?_
 refine K.condb (fun h1 => ?_) (fun h1 => ?_)
 rotate_left
 ·refine Go1 ?_
  simp only [h1, if_true]; exact ⟨trivial, he2⟩
 have hA : ¬ (Abs.there x.scalar s = false) := by simp [h1]
 refine Go1 ?_
 refine K.ld c2 ?_
 refine Go1 ?_
 refine K.cond (fun h2 => ?_) (fun h2 => ?_)
 ·refine Go1 ?_
  rw [if_neg hA, if_pos (.inl h2)]; exact ⟨rfl, he2⟩
 refine Go1 ?_
 refine K.ld c2 ?_
 refine Go1 ?_
 refine K.cond (fun h3 => ?_) (fun h3 => ?_)
 ·refine Go1 ?_
  rw [if_neg hA, if_pos (.inr (.inl h3))]; exact ⟨rfl, he2⟩
 refine Go1 ?_
 refine K.ld c1 ?_
 refine Go1 ?_
 refine K.cond (fun h4 => ?_) (fun h4 => ?_)
 ·refine Go1 ?_
  refine K.ld c3 ?_
  refine Go1 ?_
  refine K.ld c4 ?_
  refine Go1 ?_
  refine K.call (narrow_r x.lo x.hi _) ?_
  rintro _ _ ⟨rfl, rfl⟩
  refine Go1 ?_
  refine K.condb (fun h5 => ?_) (fun h5 => ?_)
  ·refine Go1 ?_
   rw [if_neg hA, if_neg (by rw [h5]; simp; omega)]; exact ⟨rfl, he2⟩
  ·refine Go1 ?_
   rw [if_neg hA, if_pos (.inr (.inr ⟨h4, h5⟩))]; exact ⟨rfl, he2⟩
 ·refine Go1 ?_
  rw [if_neg hA, if_neg (by simp [h4]; omega)]; exact ⟨rfl, he2⟩
theorem chans_r (v v2 : Value) (l : List Abs.Chan) (s : List Abs.Scalar) (w : World) (ho : OwnIs w) (hl : Abs.Chans w v l) (hs : Abs.Scalars w v2 s) :
  Ret Tryz.prog F.dd #[v, v2] w fun v w' => v = .tuple #[.int .i64 (Abs.chans l s).1, .int .i64 (Abs.chans l s).2] ∧ Ext w w' := by
 obtain ⟨oa, cap, rfl, hlen⟩ := hl.form
 obtain ⟨ob, cap2, rfl, hlen2⟩ := hs.form
 refine Ks E.dd ?_; dsimp only [C.dd]; refine Yy ?_
 refine Go1 ?_
 refine K.new fun w1 b hb he1 hc1 => ?_
 refine Go1 ?_
 refine K.new fun w2 b2 hb2 he2 hc2 => ?_
 have he := he1.trans he2
 have hl1 := SlR.ext Abs.RChan.ext he hl
 have hs1 := SlR.ext Abs.RScalar.ext he hs
 have d1 : w2.cell? ⟨b, 0, none⟩ = some (.slice oa l.length cap) := cell_blk0 (he2.obj hc1) rfl
 have d2 : w2.cell? ⟨b2, 0, none⟩ = some (.slice ob s.length cap2) := cell_blk0 hc2 rfl
 refine Go1 ?_
 refine K.ld d1 ?_
 refine Go1 ?_
 refine K.call (named_r l.length 4 (by omega) (Abs.nameAt (·.name) l) (Abs.chanErr l s) F.bp F.bq [_] [_, _] (by kernel_rfl) (by kernel_rfl) w2 (ho.ext he)
  (fun i hi => by rw [nameAt_lt _ _ _ (by omega)]; obtain ⟨a, rfl⟩ := hl.addr (by omega); exact (hl.at i (by omega)).ok)
  (fun i w' hi he => chans1_r i b _ l w' (SlR.ext Abs.RChan.ext he hl1) (he.cell d1) (by omega))
  (fun i w' hi he => chans2_r i b b2 _ _ l s w' (SlR.ext Abs.RChan.ext he hl1) (SlR.ext Abs.RScalar.ext he hs1) (he.cell d1) (he.cell d2) (by omega))) ?_
 rintro _ w3 ⟨rfl, he3⟩
 refine Go1 ?_
 exact ⟨rfl, he.trans he3⟩
end Go.Proofs.R
end
section
set_option linter.unusedSimpArgs false
end
section
set_option linter.unusedSimpArgs false
namespace Go.Proofs.R
open Go Go.RowKit Lite
theorem refSize_r (k : Int) (v : Value) (l : List Abs.Scalar) (w : World) (hl : Abs.Scalars w v l) :
  Ret Tryz.prog F.lr12_Size #[v, .int .i64 k] w fun v w' => v = .int .i64 (Abs.size k l) ∧ w' = w := by
 obtain ⟨oa, cap, rfl, hlen⟩ := hl.form
 refine Ks E.lr12_Size ?_; dsimp only [C.lr12_Size]; refine Yy ?_
 refine Go1 ?_
 refine K.cond (fun h1 => ?_) (fun h1 => ?_)
 ·refine Go1 ?_
  rw [size_no (.inl h1)]; exact ⟨rfl, trivial⟩
 refine Go1 ?_
 refine K.cond (fun h2 => ?_) (fun h2 => ?_)
 ·refine Go1 ?_
  rw [size_no (.inr h2)]; exact ⟨rfl, trivial⟩
 obtain ⟨a, rfl⟩ := hl.addr (by omega)
 have hc := (hl.at (k.toNat - 1) (by omega)).cells 1 _ rfl
 have hk : (k - 1).toNat * 2 = (k.toNat - 1) * 2 := by omega
 rw [size_at (by omega) (by omega)]
 rw [← hk] at hc
 generalize l[k.toNat - 1].size = z at hc
 (repeat' first
  | (refine K.cond (fun _ => ?_) (fun _ => ?_) <;> try (exfalso; omega))
  | (refine K.condb (fun _ => ?_) (fun _ => ?_))
  | (refine K.wrap (by omega) ?_)
  | (refine K.ld (by assumption) ?_)
  | (refine K.ia (by omega) ?_)
  | simp -dsimp only [LL,B9,Nat.reduceAdd,Nat.reduceEqDiff,reduceIte,reduceCtorEq,fE])
 ·rw [if_neg (by omega)]; exact ⟨rfl, trivial⟩
 ·rw [if_neg (by omega)]; exact ⟨rfl, trivial⟩
 ·rw [if_pos (by omega)]; exact ⟨rfl, trivial⟩
theorem refBounds_r (x : Abs.Var) (v : Value) (l : List Abs.Scalar) (w : World) (hl : Abs.Scalars w v l) :
  Ret Tryz.prog F.lr12_Bounds #[.agg x.enc.toArray, v] w fun v w' => v = .tuple #[.int .i64 (Abs.bounds x l).1, .int .i64 (Abs.bounds x l).2] ∧ Ext w w' := by
 obtain ⟨oa, cap, rfl, hlen⟩ := hl.form
 refine Ks E.lr12_Bounds ?_; dsimp only [C.lr12_Bounds]; refine Yy ?_
 refine Go1 ?_
 refine K.new fun w1 b hb he1 hc1 => ?_
 have c1 : w1.cell? (Addr.add ⟨b, 0, none⟩ 1) = some (.int .i64 x.scalar) := kB hc1 rfl
 have c3 : w1.cell? (Addr.add ⟨b, 0, none⟩ 3) = some (.int .i64 x.lo) := kB hc1 rfl
 have c4 : w1.cell? (Addr.add ⟨b, 0, none⟩ 4) = some (.int .i64 x.hi) := kB hc1 rfl
 refine Go1 ?_
 refine K.ld c1 ?_
 refine Go1 ?_
 refine K.cond (fun h1 => ?_) (fun h1 => ?_)
 ·refine Go1 ?_
  refine K.ld c3 ?_
  refine Go1 ?_
  refine K.ld c4 ?_
  refine Go1 ?_
  intro w2 he2
  simp only [Abs.bounds, h1, if_true]
  exact ⟨trivial, he1.trans he2⟩
 ·refine Go1 ?_
  refine K.ld c1 ?_
  refine Go1 ?_
  refine K.call (refSize_r x.scalar _ l w1 (SlR.ext Abs.RScalar.ext he1 hl)) ?_
  rintro _ _ ⟨rfl, rfl⟩
  refine Go1 ?_
  simp only [Abs.bounds, h1, if_false]
  exact ⟨trivial, he1⟩
theorem refCells_r (x : Abs.Var) (v : Value) (l : List Abs.Scalar) (w : World) (hl : Abs.Scalars w v l) :
  Ret Tryz.prog F.lr12_Cells #[.agg x.enc.toArray, v] w fun v w' => v = .int .i64 (Abs.cells x l) ∧ Ext w w' := by
 obtain ⟨oa, cap, rfl, hlen⟩ := hl.form
 refine Ks E.lr12_Cells ?_; dsimp only [C.lr12_Cells]; refine Yy ?_
 refine Go1 ?_
 refine K.new fun w1 b hb he1 hc1 => ?_
 have c2 : w1.cell? (Addr.add ⟨b, 0, none⟩ 2) = some (.int .i64 x.over) := kB hc1 rfl
 refine Go1 ?_
 refine K.ld c2 ?_
 refine Go1 ?_
 refine K.cond (fun h1 => ?_) (fun h1 => ?_)
 ·refine Go1 ?_
  simp only [Abs.cells, h1, if_true]
  exact ⟨trivial, he1⟩
 ·refine Go1 ?_
  refine K.ld c2 ?_
  refine Go1 ?_
  refine K.call (refSize_r x.over _ l w1 (SlR.ext Abs.RScalar.ext he1 hl)) ?_
  rintro _ _ ⟨rfl, rfl⟩
  refine Go1 ?_
  simp only [Abs.cells, h1, if_false]
  exact ⟨trivial, he1⟩
end Go.Proofs.R
end
section
set_option linter.unusedSimpArgs false
namespace Go.Proofs.R
open Go Go.RowKit Lite
theorem rletter_r (n : Int) (w : World) : Ret Tryz.prog F.lr09_letter #[.int .u8 n] w fun v w' => v = .bool (Abs.letter n) ∧ w' = w := by
 refine Ks E.lr09_letter ?_; dsimp only [C.lr09_letter]; refine Yy ?_
 (repeat' first
  | (refine K.cond (fun _ => ?_) (fun _ => ?_) <;> try (exfalso; omega))
  | (refine K.condb (fun _ => ?_) (fun _ => ?_))
  | (refine K.wrap (by omega) ?_)
  | (refine K.ld (by assumption) ?_)
  | (refine K.ia (by omega) ?_)
  | simp -dsimp only [LL,B9,Nat.reduceAdd,Nat.reduceEqDiff,reduceIte,reduceCtorEq,fE])
 all_goals (refine ⟨?_, by first | rfl | trivial⟩; congr 1; rw [Bool.eq_iff_iff]; simp [Abs.letter]; omega)
theorem rdigit_r (n : Int) (w : World) : Ret Tryz.prog F.lr09_digit #[.int .u8 n] w fun v w' => v = .bool (Abs.digit n) ∧ w' = w := by
 refine Ks E.lr09_digit ?_; dsimp only [C.lr09_digit]; refine Yy ?_
 (repeat' first
  | (refine K.cond (fun _ => ?_) (fun _ => ?_) <;> try (exfalso; omega))
  | (refine K.condb (fun _ => ?_) (fun _ => ?_))
  | (refine K.wrap (by omega) ?_)
  | (refine K.ld (by assumption) ?_)
  | (refine K.ia (by omega) ?_)
  | simp -dsimp only [LL,B9,Nat.reduceAdd,Nat.reduceEqDiff,reduceIte,reduceCtorEq,fE])
 all_goals (refine ⟨?_, by first | rfl | trivial⟩; congr 1; rw [Bool.eq_iff_iff]; simp [Abs.digit]; omega)
def signL : List ByteArray := [⟨#[58, 61]⟩, ⟨#[61, 61]⟩, ⟨#[33, 61]⟩, ⟨#[60, 61]⟩, ⟨#[45, 62]⟩, ⟨#[38, 38]⟩, ⟨#[124, 124]⟩, ⟨#[61, 62]⟩, ⟨#[40]⟩, ⟨#[41]⟩, ⟨#[91]⟩, ⟨#[93]⟩, ⟨#[123]⟩, ⟨#[125]⟩, ⟨#[59]⟩, ⟨#[44]⟩, ⟨#[58]⟩, ⟨#[46]⟩, ⟨#[60]⟩, ⟨#[43]⟩, ⟨#[45]⟩, ⟨#[42]⟩, ⟨#[33]⟩, ⟨#[63]⟩, ⟨#[64]⟩]
theorem signs_r (w : World) : Ret Tryz.prog F.lr09_signs #[] w fun v w' => (∃ b, v = .slice (some ⟨b, 0, none⟩) 25 25 ∧ CellsAt w' ⟨b, 0, none⟩ (signL.map Value.string)) ∧ Ext w w' := by
 refine Ks E.lr09_signs ?_; dsimp only [C.lr09_signs]; refine Yy ?_
 refine Go1 ?_
 refine K.bldSa (cs := signL.map Value.string) (by simp [List.range, List.range.loop, fillC, lay, ev_tmp, ev_const, uA, Value.cells, signL]) fun w1 b1 hb1 he1 hc1 => ?_
 refine Go1 ?_
 exact ⟨⟨b1, rfl, cB hc1⟩, he1⟩
theorem begins0_r (s : ByteArray) (w : World) (h : 0 < s.size) (hs : s.size ≤ 16) :
  Ret Tryz.prog F.lr09_begins #[.string s, .int .i64 0] w fun v w' => (∃ n k : Int, v = .tuple #[.int .i64 n, .int .i64 k] ∧ if Abs.letter (Abs.byteAt s 0 : Nat) = true then n = Abs.run Abs.part s ∧ k = 1 else k ≠ 1) ∧ Ext w w' := by
 refine Ks E.lr09_begins ?_; dsimp only [C.lr09_begins]; refine Yy ?_
 refine Go1 ?_
 refine K.ixS (s.get! 0) (by decide) (Abs.get?_eq s 0 h) ?_
 refine Go1 ?_
 refine K.call (rletter_r _ w) ?_
 rintro _ w ⟨rfl, rfl⟩
 refine Go1 ?_
 refine K.condb (fun h1 => ?_) (fun h1 => ?_)
 ·have h1' : Abs.letter (Abs.byteAt s 0 : Nat) = true := h1
  refine Go1 ?_
  refine K.loop (fun S w' => ∃ i : Nat, i ≤ s.size ∧ S 6 = .int .i64 i ∧ (∀ j (hj : j < s.size), j < i → Abs.part s[j].toNat = true) ∧ w' = w)
   (fun S _ => (s.size - intOf (S 6)).toNat) ⟨0, by omega, by refine Go1 ?_; rfl, fun _ _ h => absurd h (Nat.not_lt_zero _), rfl⟩ ?_
  rintro S w hS ⟨i, hi, h6, hall, rfl⟩
  have h0 := hS 0 rfl; have h1 := hS 1 rfl; simp only [uA, Nat.reduceAdd, Nat.reduceEqDiff, reduceIte, fr0_cons, fr0_nil] at h0 h1; clear hS
  refine Gw (And.intro h0 (And.intro h1 h6)) ?_
  refine K.cond (fun h2 => ?_) (fun h2 => ?_)
  ·have hi' : i < s.size := by omega
   refine Gw (And.intro h0 (And.intro h1 h6)) ?_
   refine K.ixS (s.get! i) (by omega) (Abs.get?_eq s i hi') ?_
   rw [Abs.get_eq s i hi']
   refine Gw (And.intro h0 (And.intro h1 h6)) ?_
   refine K.call (rletter_r _ _) ?_
   rintro _ w ⟨rfl, rfl⟩
   refine Gw (And.intro h0 (And.intro h1 h6)) ?_
   refine K.condb (fun h3 => ?_) (fun h3 => ?_)
   ·refine Gw (And.intro h0 (And.intro h1 h6)) ?_
    refine K.wrap (by omega) ?_
    refine Gw (And.intro h0 (And.intro h1 h6)) ?_
    refine ⟨⟨i + 1, by omega, rfl, fun j hj hji => ?_, trivial⟩, by simp [intOf]; omega⟩
    by_cases hjj : j < i
    ·exact hall j hj hjj
    ·have : j = i := by omega
     subst this; simp [Abs.part, h3]
   refine Gw (And.intro h0 (And.intro h1 h6)) ?_
   refine K.ixS (s.get! i) (by omega) (Abs.get?_eq s i hi') ?_
   rw [Abs.get_eq s i hi']
   refine Gw (And.intro h0 (And.intro h1 h6)) ?_
   refine K.call (rdigit_r _ _) ?_
   rintro _ w ⟨rfl, rfl⟩
   refine Gw (And.intro h0 (And.intro h1 h6)) ?_
   refine K.condb (fun h4 => ?_) (fun h4 => ?_)
   ·refine Gw (And.intro h0 (And.intro h1 h6)) ?_
    refine K.wrap (by omega) ?_
    refine Gw (And.intro h0 (And.intro h1 h6)) ?_
    refine ⟨⟨i + 1, by omega, rfl, fun j hj hji => ?_, trivial⟩, by simp [intOf]; omega⟩
    by_cases hjj : j < i
    ·exact hall j hj hjj
    ·have : j = i := by omega
     subst this; simp [Abs.part, h4]
   refine Gw (And.intro h0 (And.intro h1 h6)) ?_
   refine K.ixS (s.get! i) (by omega) (Abs.get?_eq s i hi') ?_
   rw [Abs.get_eq s i hi']
   refine Gw (And.intro h0 (And.intro h1 h6)) ?_
   refine K.cond (fun h5 => ?_) (fun h5 => ?_)
   ·refine Gw (And.intro h0 (And.intro h1 h6)) ?_
    refine K.wrap (by omega) ?_
    refine Gw (And.intro h0 (And.intro h1 h6)) ?_
    refine ⟨⟨i + 1, by omega, rfl, fun j hj hji => ?_, trivial⟩, by simp [intOf]; omega⟩
    by_cases hjj : j < i
    ·exact hall j hj hjj
    ·have : j = i := by omega
     subst this; simp [Abs.part]; omega
   ·refine Gw (And.intro h0 (And.intro h1 h6)) ?_
    refine K.wrap (by omega) ?_
    refine Gw (And.intro h0 (And.intro h1 h6)) ?_
    refine ⟨⟨_, _, rfl, ?_⟩, Ext.refl _⟩
    rw [if_pos h1']
    rw [Abs.run_stop Abs.part s i hi' (fun j hj => hall j (by omega) hj) (by simp only [Abs.part, h3, h4, Bool.false_or, decide_eq_false_iff_not]; omega)]
    exact ⟨by omega, rfl⟩
  ·refine Gw (And.intro h0 (And.intro h1 h6)) ?_
   refine K.wrap (by omega) ?_
   refine Gw (And.intro h0 (And.intro h1 h6)) ?_
   refine ⟨⟨_, _, rfl, ?_⟩, Ext.refl _⟩
   rw [if_pos h1']
   rw [Abs.run_all Abs.part s (fun j hj => hall j hj (by omega))]
   exact ⟨by omega, rfl⟩
 have h1' : Abs.letter (Abs.byteAt s 0 : Nat) = false := h1
 have hno : ¬ Abs.letter (Abs.byteAt s 0 : Nat) = true := by simp [h1']
 refine Go1 ?_
 refine K.ixS (s.get! 0) (by decide) (Abs.get?_eq s 0 h) ?_
 refine Go1 ?_
 refine K.call (rdigit_r _ w) ?_
 rintro _ w ⟨rfl, rfl⟩
 refine Go1 ?_
 refine K.condb (fun h2 => ?_) (fun h2 => ?_)
 ·refine Go1 ?_
  refine K.loop (fun S w' => ∃ i : Nat, i ≤ s.size ∧ S 6 = .int .i64 i ∧ w' = w)
   (fun S _ => (s.size - intOf (S 6)).toNat) ⟨0, by omega, by refine Go1 ?_; rfl, rfl⟩ ?_
  rintro S w hS ⟨i, hi, h6, rfl⟩
  have h0 := hS 0 rfl; have h1 := hS 1 rfl; simp only [uA, Nat.reduceAdd, Nat.reduceEqDiff, reduceIte, fr0_cons, fr0_nil] at h0 h1; clear hS
  refine Gw (And.intro h0 (And.intro h1 h6)) ?_
  refine K.cond (fun h2 => ?_) (fun h2 => ?_)
  ·have hi' : i < s.size := by omega
   refine Gw (And.intro h0 (And.intro h1 h6)) ?_
   refine K.ixS (s.get! i) (by omega) (Abs.get?_eq s i hi') ?_
   refine Gw (And.intro h0 (And.intro h1 h6)) ?_
   refine K.call (rdigit_r _ _) ?_
   rintro _ w ⟨rfl, rfl⟩
   refine Gw (And.intro h0 (And.intro h1 h6)) ?_
   refine K.condb (fun h4 => ?_) (fun h4 => ?_)
   ·refine Gw (And.intro h0 (And.intro h1 h6)) ?_
    refine K.wrap (by omega) ?_
    refine Gw (And.intro h0 (And.intro h1 h6)) ?_
    exact ⟨⟨i + 1, by omega, rfl, trivial⟩, by simp [intOf]; omega⟩
   ·refine Gw (And.intro h0 (And.intro h1 h6)) ?_
    refine K.wrap (by omega) ?_
    refine Gw (And.intro h0 (And.intro h1 h6)) ?_
    exact ⟨⟨_, _, rfl, by rw [if_neg hno]; decide⟩, Ext.refl _⟩
  ·refine Gw (And.intro h0 (And.intro h1 h6)) ?_
   refine K.wrap (by omega) ?_
   refine Gw (And.intro h0 (And.intro h1 h6)) ?_
   exact ⟨⟨_, _, rfl, by rw [if_neg hno]; decide⟩, Ext.refl _⟩
 refine Go1 ?_
 refine K.call (signs_r w) ?_
 rintro _ w1 ⟨⟨b, rfl, hc⟩, he⟩
 refine Go1 ?_
 refine K.loop (fun S w' => ∃ i : Nat, i ≤ 25 ∧ S 8 = .int .i64 i ∧ Ext w1 w')
  (fun S _ => (25 - intOf (S 8)).toNat) ⟨0, by omega, by refine Go1 ?_; rfl, Ext.refl _⟩ ?_
 rintro S w' hS ⟨i, hi, h8, he2⟩
 have h0 := hS 0 rfl; have h1 := hS 1 rfl; have h7 := hS 7 rfl; simp only [uA, Nat.reduceAdd, Nat.reduceEqDiff, reduceIte, fr0_cons, fr0_nil] at h0 h1 h7; clear hS
 refine Gw (And.intro h0 (And.intro h1 (And.intro h7 h8))) ?_
 refine K.cond (fun h2 => ?_) (fun h2 => ?_)
 ·have hi' : i < signL.length := by simp [signL]; omega
  have hcell : w'.cell? (Addr.add ⟨b, 0, none⟩ (i * 1)) = some (.string signL[i]) := by
   rw [Nat.mul_one]
   exact hc.ext he2 i _ (by rw [List.getElem?_map, List.getElem?_eq_getElem hi']; rfl)
  have hz : signL[i].size ≤ 2 := by
   have : ∀ x ∈ signL, x.size ≤ 2 := by decide
   exact this _ (List.getElem_mem _)
  generalize signL[i] = x at hcell hz
  refine Gw (And.intro h0 (And.intro h1 (And.intro h7 h8))) ?_
  refine K.wrap (by omega) ?_
  refine Gw (And.intro h0 (And.intro h1 (And.intro h7 h8))) ?_
  refine K.ian i rfl (by omega) ?_
  refine Gw (And.intro h0 (And.intro h1 (And.intro h7 h8))) ?_
  refine K.ld hcell ?_
  refine Gw (And.intro h0 (And.intro h1 (And.intro h7 h8))) ?_
  refine K.cond (fun h3 => ?_) (fun h3 => ?_)
  ·refine Gw (And.intro h0 (And.intro h1 (And.intro h7 h8))) ?_
   refine K.ian i rfl (by omega) ?_
   refine Gw (And.intro h0 (And.intro h1 (And.intro h7 h8))) ?_
   refine K.ld hcell ?_
   refine Gw (And.intro h0 (And.intro h1 (And.intro h7 h8))) ?_
   refine K.wrap (by omega) ?_
   refine Gw (And.intro h0 (And.intro h1 (And.intro h7 h8))) ?_
   refine K.slcS 0 x.size (by simp [bnd, ev_tmp, uA, h1]) (by simp [bnd, ev_tmp, uA, h1]) (by omega) ?_
   refine Gw (And.intro h0 (And.intro h1 (And.intro h7 h8))) ?_
   refine K.ian i rfl (by omega) ?_
   refine Gw (And.intro h0 (And.intro h1 (And.intro h7 h8))) ?_
   refine K.ld hcell ?_
   refine Gw (And.intro h0 (And.intro h1 (And.intro h7 h8))) ?_
   intro w2 he3
   refine K.cond (fun h4 => ?_) (fun h4 => ?_)
   ·refine Gw (And.intro h0 (And.intro h1 (And.intro h7 h8))) ?_
    refine K.ian i rfl (by omega) ?_
    refine Gw (And.intro h0 (And.intro h1 (And.intro h7 h8))) ?_
    refine K.ld (he3.cell hcell) ?_
    refine Gw (And.intro h0 (And.intro h1 (And.intro h7 h8))) ?_
    exact ⟨⟨_, _, rfl, by rw [if_neg hno]; decide⟩, he.trans (he2.trans he3)⟩
   ·refine Gw (And.intro h0 (And.intro h1 (And.intro h7 h8))) ?_
    refine K.wrap (by omega) ?_
    refine Gw (And.intro h0 (And.intro h1 (And.intro h7 h8))) ?_
    exact ⟨⟨i + 1, by omega, rfl, he2.trans he3⟩, by simp [intOf]; omega⟩
  ·refine Gw (And.intro h0 (And.intro h1 (And.intro h7 h8))) ?_
   intro w2 he3
   refine K.wrap (by omega) ?_
   refine Gw (And.intro h0 (And.intro h1 (And.intro h7 h8))) ?_
   exact ⟨⟨i + 1, by omega, rfl, he2.trans he3⟩, by simp [intOf]; omega⟩
 ·refine Gw (And.intro h0 (And.intro h1 (And.intro h7 h8))) ?_
  exact ⟨⟨_, _, rfl, by rw [if_neg hno]; decide⟩, he.trans he2⟩
theorem rname_r (s : ByteArray) (w : World) (hs : s.size ≤ 9223372036854775807) : Ret Tryz.prog F.lr09_Name #[.string s] w fun v w' => v = .bool (Abs.isName s) ∧ Ext w w' := by
 refine Ks E.lr09_Name ?_; dsimp only [C.lr09_Name]; refine Yy ?_
 refine Go1 ?_
 refine K.cond (fun h0 => ?_) (fun h0 => ?_)
 ·refine Go1 ?_
  refine ⟨?_, Ext.refl w⟩; subst h0; rfl
 have hz : s.size ≠ 0 := fun h => h0 (by
  cases s with | mk d =>
  have : d = #[] := by simpa [ByteArray.size] using h
  rw [this])
 refine Go1 ?_
 refine K.cond (fun h1 => ?_) (fun h1 => ?_)
 ·refine Go1 ?_
  refine ⟨?_, Ext.refl w⟩
  have : ¬ s.size ≤ 16 := by omega
  simp [Abs.isName, this]
 have h1' : s.size ≤ 16 := by omega
 refine Go1 ?_
 refine K.cond (fun h2 => ?_) (fun h2 => ?_)
 ·refine Go1 ?_
  exact ⟨by subst h2; exact congrArg Value.bool (by decide +kernel), Ext.refl w⟩
 refine Go1 ?_
 refine K.cond (fun h3 => ?_) (fun h3 => ?_)
 ·refine Go1 ?_
  exact ⟨by subst h3; exact congrArg Value.bool (by decide +kernel), Ext.refl w⟩
 refine Go1 ?_
 refine K.cond (fun h4 => ?_) (fun h4 => ?_)
 ·refine Go1 ?_
  exact ⟨by subst h4; exact congrArg Value.bool (by decide +kernel), Ext.refl w⟩
 refine Go1 ?_
 refine K.cond (fun h5 => ?_) (fun h5 => ?_)
 ·refine Go1 ?_
  exact ⟨by subst h5; exact congrArg Value.bool (by decide +kernel), Ext.refl w⟩
 have hm : s ∉ Abs.ownL := by simp [Abs.ownL, h2, h3, h4, h5]
 refine Go1 ?_
 refine K.call (begins0_r s w (by omega) h1') ?_
 rintro _ w1 ⟨⟨n, k, rfl, hnk⟩, he⟩
 refine Go1 ?_
 refine K.cond (fun h6 => ?_) (fun h6 => ?_)
 ·refine Go1 ?_
  refine ⟨?_, he⟩
  have hl : Abs.letter (Abs.byteAt s 0 : Nat) = true := by
   by_cases hx : Abs.letter (Abs.byteAt s 0 : Nat) = true
   ·exact hx
   ·rw [if_neg hx] at hnk; exact absurd h6 hnk
  rw [if_pos hl] at hnk
  congr 1
  simp [Abs.isName, hl, hz, h1', hm, hnk.1]
  omega
 ·refine Go1 ?_
  refine ⟨?_, he⟩
  have hl : Abs.letter (Abs.byteAt s 0 : Nat) = false := by
   by_cases hx : Abs.letter (Abs.byteAt s 0 : Nat) = true
   ·rw [if_pos hx] at hnk; exact absurd hnk.2 h6
   ·simpa using hx
  simp [Abs.isName, hl]
end Go.Proofs.R
end
section
set_option linter.unusedSimpArgs false
namespace Go.Proofs.R
open Go Go.RowKit Lite
theorem err_many {most : Int} {nm : Nat → ByteArray} {mo : Nat → Int} {i : Nat} (h : most ≤ i) : Abs.err most nm mo i = 11 := by rw [Abs.err, if_pos h]
theorem err_name {most : Int} {nm : Nat → ByteArray} {mo : Nat → Int} {i : Nat} (h : ¬ most ≤ i) (h2 : Abs.isName (nm i) = false) : Abs.err most nm mo i = 6 := by rw [Abs.err, if_neg h, if_pos h2]
theorem err_twice {most : Int} {nm : Nat → ByteArray} {mo : Nat → Int} {i j : Nat} (h : ¬ most ≤ i) (h2 : Abs.isName (nm i) = true) (hj : j < i) (he : nm j = nm i) : Abs.err most nm mo i = 7 := by
 rw [Abs.err, if_neg h, if_neg (by simp [h2]), if_pos ⟨j, hj, he⟩]
theorem err_own {most : Int} {nm : Nat → ByteArray} {mo : Nat → Int} {i : Nat} (h : ¬ most ≤ i) (h2 : Abs.isName (nm i) = true) (hj : ∀ j, j < i → nm j ≠ nm i) : Abs.err most nm mo i = mo i := by
 rw [Abs.err, if_neg h, if_neg (by simp [h2]), if_neg (fun ⟨j, h1, h2⟩ => hj j h1 h2)]
theorem lt_of_err {most : Int} {nm : Nat → ByteArray} {mo : Nat → Int} {i : Nat} (hm : 0 ≤ most) (h : ∀ j, j < i → Abs.err most nm mo j = 0) : (i : Int) ≤ most := by
 by_cases hx : (i : Int) ≤ most
 ·exact hx
 ·have := h most.toNat (by omega)
  rw [err_many (by omega)] at this
  cases this
theorem refScalars_r (v : Value) (l : List Abs.Scalar) (w : World) (hl : Abs.Scalars w v l) :
  Ret Tryz.prog F.lr12_Scalars #[v] w fun v w' => v = .tuple #[.int .i64 (Abs.scalars l).1, .int .i64 (Abs.scalars l).2] ∧ Ext w w' := by
 obtain ⟨oa, cap, rfl, hlen⟩ := hl.form
 refine Ks E.lr12_Scalars ?_; dsimp only [C.lr12_Scalars]; refine Yy ?_
 simp -dsimp only [LL,B9,Nat.reduceAdd,Nat.reduceEqDiff,reduceIte,reduceCtorEq,fE]
 refine K.loop (fun S w' => ∃ i : Nat, i ≤ l.length ∧ S 4 = .int .i64 i ∧ (∀ j, j < i → Abs.err 2 (Abs.nameAt (·.name) l) (Abs.scalarErr l) j = 0) ∧ Ext w w')
  (fun S _ => (l.length - intOf (S 4)).toNat) ⟨0, by omega, by simp -dsimp only [LL,B9,Nat.reduceAdd,Nat.reduceEqDiff,reduceIte,reduceCtorEq,fE]; rfl, fun _ h => absurd h (Nat.not_lt_zero _), Ext.refl _⟩ ?_
 rintro S w' hS ⟨i, hi, h4, hall, he⟩
 have h0 := hS 0 rfl; simp only [uA, Nat.reduceAdd, Nat.reduceEqDiff, reduceIte, fr0_cons, fr0_nil] at h0; clear hS
 have hi2 := lt_of_err (by omega) hall
 refine Gw (And.intro h0 h4) ?_
 apply K.cond <;> intro g1
 rotate_left
 ·refine Gw (And.intro h0 h4) ?_
  rw [Abs.scalars, Abs.first_none (fun j hj => hall j (by omega))]
  exact ⟨rfl, he⟩
 have hi' : i < l.length := by omega
 obtain ⟨a, rfl⟩ := hl.addr (by omega)
 have hl' := SlR.ext Abs.RScalar.ext he hl
 have hc0 := (hl'.at i hi').cells 0 _ rfl
 have hc1 := (hl'.at i hi').cells 1 _ rfl
 have hok : Abs.strOk l[i].name := (hl'.at i hi').ok
 have hnm : Abs.nameAt (fun x : Abs.Scalar => x.name) l i = l[i].name := nameAt_lt _ _ _ hi'
 refine Gw (And.intro h0 h4) ?_
 apply K.cond <;> intro g2
 ·refine Gw (And.intro h0 h4) ?_
  rw [Abs.scalars, Abs.first_stop hi' hall (by rw [err_many (by omega)]; decide), err_many (by omega)]
  exact ⟨rfl, he⟩
 have hm : ¬ (2 : Int) ≤ (i : Int) := by omega
 refine Gw (And.intro h0 h4) ?_
 refine K.ian i rfl hi' ?_
 refine Gw (And.intro h0 h4) ?_
 refine K.ld hc0 ?_
 refine Gw (And.intro h0 h4) ?_
 refine K.call (rname_r _ _ hok) ?_
 rintro _ w2 ⟨rfl, he2⟩
 refine Gw (And.intro h0 h4) ?_
 refine K.condb (fun g3 => ?_) (fun g3 => ?_)
 rotate_left
 ·refine Gw (And.intro h0 h4) ?_
  rw [← hnm] at g3
  rw [Abs.scalars, Abs.first_stop hi' hall (by rw [err_name hm g3]; decide), err_name hm g3]
  exact ⟨rfl, he.trans he2⟩
 have g3' := g3
 rw [← hnm] at g3'
 replace he2 := he.trans he2
 clear he hl'
 refine Gw (And.intro h0 h4) ?_
 refine K.loop (fun S' w' => ∃ k : Nat, k ≤ i ∧ S' 5 = .int .i64 k ∧ (∀ j, j < k → Abs.nameAt (fun x : Abs.Scalar => x.name) l j ≠ Abs.nameAt (fun x : Abs.Scalar => x.name) l i) ∧ Ext w w')
  (fun S _ => (i - intOf (S 5)).toNat) ⟨0, by omega, by simp -dsimp only [LL,B9,Nat.reduceAdd,Nat.reduceEqDiff,reduceIte,reduceCtorEq,fE]; rfl, fun _ h => absurd h (Nat.not_lt_zero _), he2⟩ ?_
 rintro S2 w3 hS2 ⟨k, hk, h5, hne, he3⟩
 have o0 := h0; have o4 := h4
 have h0 := hS2 0 rfl; have h4 := hS2 4 rfl; simp only [uA, Nat.reduceAdd, Nat.reduceEqDiff, reduceIte, fr0_cons, fr0_nil] at h0 h4; clear hS2
 rw [o0] at h0; rw [o4] at h4
 have hl' := SlR.ext Abs.RScalar.ext he3 hl
 have hc0 := (hl'.at i hi').cells 0 _ rfl
 have hc1 := (hl'.at i hi').cells 1 _ rfl
 refine Gw (And.intro h0 (And.intro h4 h5)) ?_
 apply K.cond <;> intro g4
 ·have hk' : k < l.length := by omega
  have hck := (hl'.at k hk').cells 0 _ rfl
  have hnk : Abs.nameAt (fun x : Abs.Scalar => x.name) l k = l[k].name := nameAt_lt _ _ _ hk'
  refine Gw (And.intro h0 (And.intro h4 h5)) ?_
  refine K.ian k rfl hk' ?_
  refine Gw (And.intro h0 (And.intro h4 h5)) ?_
  refine K.ld hck ?_
  refine Gw (And.intro h0 (And.intro h4 h5)) ?_
  refine K.ian i rfl hi' ?_
  refine Gw (And.intro h0 (And.intro h4 h5)) ?_
  refine K.ld hc0 ?_
  refine Gw (And.intro h0 (And.intro h4 h5)) ?_
  intro w4 he4
  apply K.cond <;> intro g5
  ·refine Gw (And.intro h0 (And.intro h4 h5)) ?_
   have ht := err_twice (mo := Abs.scalarErr l) hm g3' (show k < i by omega) (by rw [hnk, hnm]; exact g5)
   rw [Abs.scalars, Abs.first_stop hi' hall (by rw [ht]; decide), ht]
   exact ⟨rfl, he3.trans he4⟩
  ·refine Gw (And.intro h0 (And.intro h4 h5)) ?_
   refine K.wrap (by omega) ?_
   refine Gw (And.intro h0 (And.intro h4 h5)) ?_
   refine ⟨⟨k + 1, by omega, rfl, fun j hj => ?_, he3.trans he4⟩, by simp [intOf]; omega⟩
   by_cases hjk : j < k
   ·exact hne j hjk
   ·have : j = k := by omega
    subst this; rw [hnk, hnm]; exact g5
 have herr := err_own (mo := Abs.scalarErr l) hm g3' (fun j hj => hne j (by omega))
 have hse : Abs.scalarErr l i = if 1 ≤ l[i].size ∧ l[i].size ≤ 4 then 0 else 10 := by simp [Abs.scalarErr, hi']
 rw [hse] at herr
 generalize l[i].size = z at hc1 herr
 refine Gw (And.intro h0 (And.intro h4 h5)) ?_
 refine K.ian i rfl hi' ?_
 refine Gw (And.intro h0 (And.intro h4 h5)) ?_
 refine K.ld hc1 ?_
 refine Gw (And.intro h0 (And.intro h4 h5)) ?_
 apply K.cond <;> intro g6
 ·refine Gw (And.intro h0 (And.intro h4 h5)) ?_
  rw [if_neg (by omega)] at herr
  rw [Abs.scalars, Abs.first_stop hi' hall (by rw [herr]; decide), herr]
  exact ⟨rfl, he3⟩
 refine Gw (And.intro h0 (And.intro h4 h5)) ?_
 refine K.ian i rfl hi' ?_
 refine Gw (And.intro h0 (And.intro h4 h5)) ?_
 refine K.ld hc1 ?_
 refine Gw (And.intro h0 (And.intro h4 h5)) ?_
 apply K.cond <;> intro g7
 ·refine Gw (And.intro h0 (And.intro h4 h5)) ?_
  rw [if_neg (by omega)] at herr
  rw [Abs.scalars, Abs.first_stop hi' hall (by rw [herr]; decide), herr]
  exact ⟨rfl, he3⟩
 ·refine Gw (And.intro h0 (And.intro h4 h5)) ?_
  rw [if_pos (by omega)] at herr
  refine K.wrap (by omega) ?_
  refine Gw (And.intro h0 (And.intro h4 h5)) ?_
  refine ⟨⟨i + 1, by omega, rfl, fun j hj => ?_, he3⟩, by simp [intOf, o4]; omega⟩
  by_cases hji : j < i
  ·exact hall j hji
  ·have : j = i := by omega
   subst this; exact herr
end Go.Proofs.R
end
section
set_option linter.unusedSimpArgs false
namespace Go.Proofs.R
open Go Go.RowKit Lite
theorem span_r (lo hi : Int) (w : World) : Ret Tryz.prog F.lr12_span #[.int .i64 lo, .int .i64 hi] w fun v w' => v = .bool (Abs.narrow lo hi) ∧ w' = w := by
 refine Ks E.lr12_span ?_; dsimp only [C.lr12_span]; refine Yy ?_
 (repeat' first
  | (refine K.cond (fun _ => ?_) (fun _ => ?_) <;> try (exfalso; omega))
  | (refine K.condb (fun _ => ?_) (fun _ => ?_))
  | (refine K.wrap (by omega) ?_)
  | (refine K.ld (by assumption) ?_)
  | (refine K.ia (by omega) ?_)
  | simp -dsimp only [LL,B9,Nat.reduceAdd,Nat.reduceEqDiff,reduceIte,reduceCtorEq,fE])
 all_goals (refine ⟨?_, by first | rfl | trivial⟩; congr 1; rw [Bool.eq_iff_iff]; simp [Abs.narrow]; omega)
def vErr (v : Abs.Var) (s : List Abs.Scalar) : Int :=
 if (v.scalar ≠ 0 ∧ Abs.size v.scalar s = 0) ∨ (v.over ≠ 0 ∧ Abs.size v.over s = 0) then 8
 else if v.scalar = 0 ∧ (Abs.narrow v.lo v.hi = false ∨ v.init < v.lo ∨ v.init > v.hi) then 10
 else if v.scalar ≠ 0 ∧ (v.init < 0 ∨ v.init > Abs.size v.scalar s) then 10 else 0
theorem varErr_eq (l : List Abs.Var) (s : List Abs.Scalar) (i : Nat) (h : i < l.length) : Abs.varErr l s i = vErr l[i] s := by
 rw [Abs.varErr, List.getElem?_eq_getElem h]
 simp only [vErr, Abs.there, Abs.bounds, decide_eq_false_iff_not]
 by_cases h0 : l[i].scalar = 0
 ·simp only [h0, if_true]
  by_cases h1 : l[i].over = 0
  ·simp [h1]
  ·simp [h1]
 ·simp only [h0, if_false]
  by_cases h1 : l[i].over = 0
  ·simp [h0, h1]
  ·simp [h0, h1]
theorem refVariable_r (x : Abs.Var) (v : Value) (l : List Abs.Scalar) (w : World) (hl : Abs.Scalars w v l) :
  Ret Tryz.prog F.lr12_variable #[.agg x.enc.toArray, v] w fun v w' => v = .int .i64 (vErr x l) ∧ Ext w w' := by
 obtain ⟨oa, cap, rfl, hlen⟩ := hl.form
 refine Ks E.lr12_variable ?_; dsimp only [C.lr12_variable]; refine Yy ?_
 simp -dsimp only [LL,B9,Nat.reduceAdd,Nat.reduceEqDiff,reduceIte,reduceCtorEq,fE]
 refine K.new fun w1 b hb he1 hc1 => ?_
 have hl1 := SlR.ext Abs.RScalar.ext he1 hl
 have c1 : w1.cell? (Addr.add ⟨b, 0, none⟩ 1) = some (.int .i64 x.scalar) := kB hc1 rfl
 have c2 : w1.cell? (Addr.add ⟨b, 0, none⟩ 2) = some (.int .i64 x.over) := kB hc1 rfl
 have c3 : w1.cell? (Addr.add ⟨b, 0, none⟩ 3) = some (.int .i64 x.lo) := kB hc1 rfl
 have c4 : w1.cell? (Addr.add ⟨b, 0, none⟩ 4) = some (.int .i64 x.hi) := kB hc1 rfl
 have c5 : w1.cell? (Addr.add ⟨b, 0, none⟩ 5) = some (.int .i64 x.init) := kB hc1 rfl
 have hq : ∀ k w', Ext w1 w' → Ret Tryz.prog F.lr12_Size #[.slice oa l.length cap, .int .i64 k] w' fun u w'' => u = .int .i64 (Abs.size k l) ∧ Ext w' w'' := fun k w' he =>
  (refSize_r k _ l w' (SlR.ext Abs.RScalar.ext he hl1)).mono fun v w'' h => ⟨h.1, h.2 ▸ Ext.refl _⟩
 (repeat' first
  | (refine K.cond (fun _ => ?_) (fun _ => ?_) <;> try (exfalso; omega))
  | (refine K.condb (fun _ => ?_) (fun _ => ?_))
  | (refine K.ld (by assumption) ?_)
  | (refine K.call (refSize_r _ _ l _ hl1) ?_; rintro _ w1 ⟨rfl, rfl⟩)
  | (refine K.call (span_r _ _ _) ?_; rintro _ w1 ⟨rfl, rfl⟩)
  | (refine K.qfn _ (hq _) ?_)
  | simp -dsimp only [LL,B9,Nat.reduceAdd,Nat.reduceEqDiff,reduceIte,reduceCtorEq,fE]
  | (intro w2 he2; replace he2 := he1.trans he2))
 all_goals (refine ⟨?_, by assumption⟩; congr 1; unfold vErr; simp only [Abs.narrow, decide_eq_false_iff_not])
 all_goals (repeat' split)
 all_goals first | rfl | (exfalso; omega)
theorem refVars_r (v v2 : Value) (l : List Abs.Var) (s : List Abs.Scalar) (most : Int) (w : World) (hl : Abs.Vars w v l) (hs : Abs.Scalars w v2 s) :
  Ret Tryz.prog F.lr12_Vars #[v, v2, .int .i64 most] w fun v w' => v = .tuple #[.int .i64 (Abs.vars l s most).1, .int .i64 (Abs.vars l s most).2] ∧ Ext w w' := by
 obtain ⟨oa, cap, rfl, hlen⟩ := hl.form
 refine Ks E.lr12_Vars ?_; dsimp only [C.lr12_Vars]; refine Yy ?_
 simp -dsimp only [LL,B9,Nat.reduceAdd,Nat.reduceEqDiff,reduceIte,reduceCtorEq,fE]
 refine K.loop (fun S w' => ∃ i : Nat, i ≤ l.length ∧ S 8 = .int .i64 i ∧ (∀ j, j < i → Abs.err (max most 0) (Abs.nameAt (·.name) l) (Abs.varErr l s) j = 0) ∧ Ext w w')
  (fun S _ => (l.length - intOf (S 8)).toNat) ⟨0, by omega, by simp -dsimp only [LL,B9,Nat.reduceAdd,Nat.reduceEqDiff,reduceIte,reduceCtorEq,fE]; rfl, fun _ h => absurd h (Nat.not_lt_zero _), Ext.refl _⟩ ?_
 rintro S w' hS ⟨i, hi, h8, hall, he⟩
 have h0 := hS 0 rfl; have h1 := hS 1 rfl; have h2 := hS 2 rfl; simp only [uA, Nat.reduceAdd, Nat.reduceEqDiff, reduceIte, fr0_cons, fr0_nil] at h0 h1 h2; clear hS
 refine Gw (And.intro h0 (And.intro h1 (And.intro h2 h8))) ?_
 apply K.cond <;> intro g1
 rotate_left
 ·refine Gw (And.intro h0 (And.intro h1 (And.intro h2 h8))) ?_
  rw [Abs.vars, Abs.first_none (fun j hj => hall j (by omega))]
  exact ⟨rfl, he⟩
 have hi' : i < l.length := by omega
 obtain ⟨a, rfl⟩ := hl.addr (by omega)
 have hl' := SlR.ext Abs.RVar.ext he hl
 have hc0 := (hl'.at i hi').cells 0 _ rfl
 have hok : Abs.strOk l[i].name := (hl'.at i hi').ok
 have hnm : Abs.nameAt (fun x : Abs.Var => x.name) l i = l[i].name := nameAt_lt _ _ _ hi'
 refine Gw (And.intro h0 (And.intro h1 (And.intro h2 h8))) ?_
 apply K.cond <;> intro g2
 ·refine Gw (And.intro h0 (And.intro h1 (And.intro h2 h8))) ?_
  rw [Abs.vars, Abs.first_stop hi' hall (by rw [err_many (by omega)]; decide), err_many (by omega)]
  exact ⟨rfl, he⟩
 have hm : ¬ (max most 0 : Int) ≤ (i : Int) := by omega
 refine Gw (And.intro h0 (And.intro h1 (And.intro h2 h8))) ?_
 refine K.ian i rfl hi' ?_
 refine Gw (And.intro h0 (And.intro h1 (And.intro h2 h8))) ?_
 refine K.ld hc0 ?_
 refine Gw (And.intro h0 (And.intro h1 (And.intro h2 h8))) ?_
 refine K.call (rname_r _ _ hok) ?_
 rintro _ w2 ⟨rfl, he2⟩
 refine Gw (And.intro h0 (And.intro h1 (And.intro h2 h8))) ?_
 refine K.condb (fun g3 => ?_) (fun g3 => ?_)
 rotate_left
 ·refine Gw (And.intro h0 (And.intro h1 (And.intro h2 h8))) ?_
  rw [← hnm] at g3
  rw [Abs.vars, Abs.first_stop hi' hall (by rw [err_name hm g3]; decide), err_name hm g3]
  exact ⟨rfl, he.trans he2⟩
 have g3' := g3
 rw [← hnm] at g3'
 replace he2 := he.trans he2
 clear he hl'
 refine Gw (And.intro h0 (And.intro h1 (And.intro h2 h8))) ?_
 refine K.loop (fun S' w' => ∃ k : Nat, k ≤ i ∧ S' 9 = .int .i64 k ∧ (∀ j, j < k → Abs.nameAt (fun x : Abs.Var => x.name) l j ≠ Abs.nameAt (fun x : Abs.Var => x.name) l i) ∧ Ext w w')
  (fun S _ => (i - intOf (S 9)).toNat) ⟨0, by omega, by simp -dsimp only [LL,B9,Nat.reduceAdd,Nat.reduceEqDiff,reduceIte,reduceCtorEq,fE]; rfl, fun _ h => absurd h (Nat.not_lt_zero _), he2⟩ ?_
 rintro S2 w3 hS2 ⟨k, hk, h9, hne, he3⟩
 have o0 := h0; have o1 := h1; have o2 := h2; have o8 := h8
 have h0 := hS2 0 rfl; have h1 := hS2 1 rfl; have h2 := hS2 2 rfl; have h8 := hS2 8 rfl; simp only [uA, Nat.reduceAdd, Nat.reduceEqDiff, reduceIte, fr0_cons, fr0_nil] at h0 h1 h2 h8; clear hS2
 rw [o0] at h0; rw [o1] at h1; rw [o2] at h2; rw [o8] at h8
 have hl' := SlR.ext Abs.RVar.ext he3 hl
 have hc0 := (hl'.at i hi').cells 0 _ rfl
 refine Gw (And.intro h0 (And.intro h1 (And.intro h2 (And.intro h8 h9)))) ?_
 apply K.cond <;> intro g4
 ·have hk' : k < l.length := by omega
  have hck := (hl'.at k hk').cells 0 _ rfl
  have hnk : Abs.nameAt (fun x : Abs.Var => x.name) l k = l[k].name := nameAt_lt _ _ _ hk'
  refine Gw (And.intro h0 (And.intro h1 (And.intro h2 (And.intro h8 h9)))) ?_
  refine K.ian k rfl hk' ?_
  refine Gw (And.intro h0 (And.intro h1 (And.intro h2 (And.intro h8 h9)))) ?_
  refine K.ld hck ?_
  refine Gw (And.intro h0 (And.intro h1 (And.intro h2 (And.intro h8 h9)))) ?_
  refine K.ian i rfl hi' ?_
  refine Gw (And.intro h0 (And.intro h1 (And.intro h2 (And.intro h8 h9)))) ?_
  refine K.ld hc0 ?_
  refine Gw (And.intro h0 (And.intro h1 (And.intro h2 (And.intro h8 h9)))) ?_
  intro w4 he4
  apply K.cond <;> intro g5
  ·refine Gw (And.intro h0 (And.intro h1 (And.intro h2 (And.intro h8 h9)))) ?_
   have ht := err_twice (mo := Abs.varErr l s) hm g3' (show k < i by omega) (by rw [hnk, hnm]; exact g5)
   rw [Abs.vars, Abs.first_stop hi' hall (by rw [ht]; decide), ht]
   exact ⟨rfl, he3.trans he4⟩
  ·refine Gw (And.intro h0 (And.intro h1 (And.intro h2 (And.intro h8 h9)))) ?_
   refine K.wrap (by omega) ?_
   refine Gw (And.intro h0 (And.intro h1 (And.intro h2 (And.intro h8 h9)))) ?_
   refine ⟨⟨k + 1, by omega, rfl, fun j hj => ?_, he3.trans he4⟩, by simp [intOf]; omega⟩
   by_cases hjk : j < k
   ·exact hne j hjk
   ·have : j = k := by omega
    subst this; rw [hnk, hnm]; exact g5
 have herr := err_own (mo := Abs.varErr l s) hm g3' (fun j hj => hne j (by omega))
 rw [varErr_eq l s i hi'] at herr
 have hs' := SlR.ext Abs.RScalar.ext he3 hs
 have hci := (hl'.at i hi').cells
 generalize l[i] = x at hci herr
 refine Gw (And.intro h0 (And.intro h1 (And.intro h2 (And.intro h8 h9)))) ?_
 refine K.ian i rfl hi' ?_
 refine Gw (And.intro h0 (And.intro h1 (And.intro h2 (And.intro h8 h9)))) ?_
 refine K.ldA hci rfl ?_
 refine Gw (And.intro h0 (And.intro h1 (And.intro h2 (And.intro h8 h9)))) ?_
 refine K.call (refVariable_r x _ s _ hs') ?_
 rintro _ w4 ⟨rfl, he4⟩
 replace he4 := he3.trans he4
 refine Gw (And.intro h0 (And.intro h1 (And.intro h2 (And.intro h8 h9)))) ?_
 apply K.cond <;> intro g6
 rotate_left
 ·refine Gw (And.intro h0 (And.intro h1 (And.intro h2 (And.intro h8 h9)))) ?_
  rw [Abs.vars, Abs.first_stop hi' hall (by rw [herr]; exact g6), herr]
  exact ⟨rfl, he4⟩
 ·refine Gw (And.intro h0 (And.intro h1 (And.intro h2 (And.intro h8 h9)))) ?_
  rw [g6] at herr
  refine K.wrap (by omega) ?_
  refine Gw (And.intro h0 (And.intro h1 (And.intro h2 (And.intro h8 h9)))) ?_
  refine ⟨⟨i + 1, by omega, rfl, fun j hj => ?_, he4⟩, by simp [intOf, o8]; omega⟩
  by_cases hji : j < i
  ·exact hall j hji
  ·have : j = i := by omega
   subst this; exact herr
end Go.Proofs.R
end
section
set_option linter.unusedSimpArgs false
namespace Go.Proofs.R
open Go Go.RowKit Lite
theorem refChans_r (v v2 : Value) (l : List Abs.Chan) (s : List Abs.Scalar) (w : World) (hl : Abs.Chans w v l) (hs : Abs.Scalars w v2 s) :
  Ret Tryz.prog F.lr12_Chans #[v, v2] w fun v w' => v = .tuple #[.int .i64 (Abs.chans l s).1, .int .i64 (Abs.chans l s).2] ∧ Ext w w' := by
 obtain ⟨oa, cap, rfl, hlen⟩ := hl.form
 refine Ks E.lr12_Chans ?_; dsimp only [C.lr12_Chans]; refine Yy ?_
 refine Go1 ?_
 refine K.loop (fun S w' => ∃ i : Nat, i ≤ l.length ∧ S 6 = .int .i64 i ∧ (∀ j, j < i → Abs.err 4 (Abs.nameAt (·.name) l) (Abs.chanErr l s) j = 0) ∧ Ext w w')
  (fun S _ => (l.length - intOf (S 6)).toNat) ⟨0, by omega, by refine Go1 ?_; rfl, fun _ h => absurd h (Nat.not_lt_zero _), Ext.refl _⟩ ?_
 rintro S w' hS ⟨i, hi, h6, hall, he⟩
 have h0 := hS 0 rfl; have h1 := hS 1 rfl; simp only [uA, Nat.reduceAdd, Nat.reduceEqDiff, reduceIte, fr0_cons, fr0_nil] at h0 h1; clear hS
 have hi2 := lt_of_err (by omega) hall
 simp -dsimp only [LL,B9,Nat.reduceAdd,Nat.reduceEqDiff,reduceIte,reduceCtorEq,fE,h0, h1, h6]
 apply K.cond <;> intro g1
 rotate_left
 ·simp -dsimp only [LL,B9,Nat.reduceAdd,Nat.reduceEqDiff,reduceIte,reduceCtorEq,fE,h0, h1, h6]
  rw [Abs.chans, Abs.first_none (fun j hj => hall j (by omega))]
  exact ⟨rfl, he⟩
 have hi' : i < l.length := by omega
 obtain ⟨a, rfl⟩ := hl.addr (by omega)
 have hl' := SlR.ext Abs.RChan.ext he hl
 have hc0 := (hl'.at i hi').cells 0 _ rfl
 have hok : Abs.strOk l[i].name := (hl'.at i hi').ok
 have hnm : Abs.nameAt (fun x : Abs.Chan => x.name) l i = l[i].name := nameAt_lt _ _ _ hi'
 simp -dsimp only [LL,B9,Nat.reduceAdd,Nat.reduceEqDiff,reduceIte,reduceCtorEq,fE,h0, h1, h6]
 apply K.cond <;> intro g2
 ·simp -dsimp only [LL,B9,Nat.reduceAdd,Nat.reduceEqDiff,reduceIte,reduceCtorEq,fE,h0, h1, h6]
  rw [Abs.chans, Abs.first_stop hi' hall (by rw [err_many (by omega)]; decide), err_many (by omega)]
  exact ⟨rfl, he⟩
 have hm : ¬ (4 : Int) ≤ (i : Int) := by omega
 simp -dsimp only [LL,B9,Nat.reduceAdd,Nat.reduceEqDiff,reduceIte,reduceCtorEq,fE,h0, h1, h6]
 refine K.ian i rfl hi' ?_
 simp -dsimp only [LL,B9,Nat.reduceAdd,Nat.reduceEqDiff,reduceIte,reduceCtorEq,fE,h0, h1, h6]
 refine K.ld hc0 ?_
 simp -dsimp only [LL,B9,Nat.reduceAdd,Nat.reduceEqDiff,reduceIte,reduceCtorEq,fE,h0, h1, h6]
 refine K.call (rname_r _ _ hok) ?_
 rintro _ w2 ⟨rfl, he2⟩
 simp -dsimp only [LL,B9,Nat.reduceAdd,Nat.reduceEqDiff,reduceIte,reduceCtorEq,fE,h0, h1, h6]
 refine K.condb (fun g3 => ?_) (fun g3 => ?_)
 rotate_left
 ·simp -dsimp only [LL,B9,Nat.reduceAdd,Nat.reduceEqDiff,reduceIte,reduceCtorEq,fE,h0, h1, h6]
  rw [← hnm] at g3
  rw [Abs.chans, Abs.first_stop hi' hall (by rw [err_name hm g3]; decide), err_name hm g3]
  exact ⟨rfl, he.trans he2⟩
 have g3' := g3
 rw [← hnm] at g3'
 replace he2 := he.trans he2
 clear he hl'
 simp -dsimp only [LL,B9,Nat.reduceAdd,Nat.reduceEqDiff,reduceIte,reduceCtorEq,fE,h0, h1, h6]
 refine K.loop (fun S' w' => ∃ k : Nat, k ≤ i ∧ S' 7 = .int .i64 k ∧ (∀ j, j < k → Abs.nameAt (fun x : Abs.Chan => x.name) l j ≠ Abs.nameAt (fun x : Abs.Chan => x.name) l i) ∧ Ext w w')
  (fun S _ => (i - intOf (S 7)).toNat) ⟨0, by omega, by refine Go1 ?_; rfl, fun _ h => absurd h (Nat.not_lt_zero _), he2⟩ ?_
 rintro S2 w3 hS2 ⟨k, hk, h7, hne, he3⟩
 have o0 := h0; have o1 := h1; have o6 := h6
 have h0 := hS2 0 rfl; have h1 := hS2 1 rfl; have h6 := hS2 6 rfl; simp only [uA, Nat.reduceAdd, Nat.reduceEqDiff, reduceIte, fr0_cons, fr0_nil] at h0 h1 h6; clear hS2
 rw [o0] at h0; rw [o1] at h1; rw [o6] at h6
 have hl' := SlR.ext Abs.RChan.ext he3 hl
 have hc0 := (hl'.at i hi').cells 0 _ rfl
 simp -dsimp only [LL,B9,Nat.reduceAdd,Nat.reduceEqDiff,reduceIte,reduceCtorEq,fE,h0, h1, h6, h7]
 apply K.cond <;> intro g4
 ·have hk' : k < l.length := by omega
  have hck := (hl'.at k hk').cells 0 _ rfl
  have hnk : Abs.nameAt (fun x : Abs.Chan => x.name) l k = l[k].name := nameAt_lt _ _ _ hk'
  simp -dsimp only [LL,B9,Nat.reduceAdd,Nat.reduceEqDiff,reduceIte,reduceCtorEq,fE,h0, h1, h6, h7]
  refine K.ian k rfl hk' ?_
  simp -dsimp only [LL,B9,Nat.reduceAdd,Nat.reduceEqDiff,reduceIte,reduceCtorEq,fE,h0, h1, h6, h7]
  refine K.ld hck ?_
  simp -dsimp only [LL,B9,Nat.reduceAdd,Nat.reduceEqDiff,reduceIte,reduceCtorEq,fE,h0, h1, h6, h7]
  refine K.ian i rfl hi' ?_
  simp -dsimp only [LL,B9,Nat.reduceAdd,Nat.reduceEqDiff,reduceIte,reduceCtorEq,fE,h0, h1, h6, h7]
  refine K.ld hc0 ?_
  simp -dsimp only [LL,B9,Nat.reduceAdd,Nat.reduceEqDiff,reduceIte,reduceCtorEq,fE,h0, h1, h6, h7]
  intro w4 he4
  apply K.cond <;> intro g5
  ·simp -dsimp only [LL,B9,Nat.reduceAdd,Nat.reduceEqDiff,reduceIte,reduceCtorEq,fE,h0, h1, h6, h7]
   have ht := err_twice (mo := Abs.chanErr l s) hm g3' (show k < i by omega) (by rw [hnk, hnm]; exact g5)
   rw [Abs.chans, Abs.first_stop hi' hall (by rw [ht]; decide), ht]
   exact ⟨rfl, he3.trans he4⟩
  ·simp -dsimp only [LL,B9,Nat.reduceAdd,Nat.reduceEqDiff,reduceIte,reduceCtorEq,fE,h0, h1, h6, h7]
   refine K.wrap (by omega) ?_
   simp -dsimp only [LL,B9,Nat.reduceAdd,Nat.reduceEqDiff,reduceIte,reduceCtorEq,fE,h0, h1, h6, h7]
   refine ⟨⟨k + 1, by omega, rfl, fun j hj => ?_, he3.trans he4⟩, by simp [intOf]; omega⟩
   by_cases hjk : j < k
   ·exact hne j hjk
   ·have : j = k := by omega
    subst this; rw [hnk, hnm]; exact g5
 have herr := err_own (mo := Abs.chanErr l s) hm g3' (fun j hj => hne j (by omega))
 have hce : Abs.chanErr l s i = if Abs.there l[i].scalar s = false then 8 else if l[i].cap < 1 ∨ l[i].cap > 4 ∨ (l[i].scalar = 0 ∧ Abs.narrow l[i].lo l[i].hi = false) then 10 else 0 := by simp [Abs.chanErr, hi']
 rw [hce] at herr
 have hs' := SlR.ext Abs.RScalar.ext he3 hs
 have c1 := (hl'.at i hi').cells 1 _ rfl
 have c2 := (hl'.at i hi').cells 2 _ rfl
 have c3 := (hl'.at i hi').cells 3 _ rfl
 have c4 := (hl'.at i hi').cells 4 _ rfl
 simp only [Abs.there, Abs.narrow, decide_eq_false_iff_not] at herr
 generalize l[i].scalar = xs at c1 herr
 generalize l[i].cap = xc at c2 herr
 generalize l[i].lo = xl at c3 herr
 generalize l[i].hi = xh at c4 herr
 clear hce
 have hq : ∀ w', Ext w3 w' → Ret Tryz.prog F.lr12_span #[.int .i64 xl, .int .i64 xh] w' fun u w'' => u = .bool (Abs.narrow xl xh) ∧ Ext w' w'' := fun w' he =>
  (span_r xl xh w').mono fun v w'' h => ⟨h.1, h.2 ▸ Ext.refl _⟩
 simp -dsimp only [LL,B9,Nat.reduceAdd,Nat.reduceEqDiff,reduceIte,reduceCtorEq,fE,h0, h1, h6, h7]
 (repeat' first
  | (refine K.cond (fun _ => ?_) (fun _ => ?_) <;> try (exfalso; omega))
  | (refine K.condb (fun _ => ?_) (fun _ => ?_))
  | (refine K.ian i rfl hi' ?_)
  | (refine K.ld (by assumption) ?_)
  | (refine K.call (refSize_r _ _ s _ hs') ?_; rintro _ w3 ⟨rfl, rfl⟩)
  | (refine K.qfn _ hq ?_)
  | simp -dsimp only [LL,B9,Nat.reduceAdd,Nat.reduceEqDiff,reduceIte,reduceCtorEq,fE,h0, h1, h6, h7]
  | (intro w4 he4; replace he4 := he3.trans he4))
 all_goals first
  | (rw [if_pos (by omega)] at herr
     rw [Abs.chans, Abs.first_stop hi' hall (by rw [herr]; decide), herr]
     exact ⟨rfl, by assumption⟩)
  | (rw [if_neg (by omega), if_pos (by omega)] at herr
     rw [Abs.chans, Abs.first_stop hi' hall (by rw [herr]; decide), herr]
     exact ⟨rfl, by assumption⟩)
  | (rw [if_neg (by omega), if_neg (by omega)] at herr
     refine K.wrap (by omega) ?_
     simp -dsimp only [LL,B9,Nat.reduceAdd,Nat.reduceEqDiff,reduceIte,reduceCtorEq,fE,h0, h1, h6, h7]
     refine ⟨⟨i + 1, by omega, rfl, fun j hj => ?_, by assumption⟩, by simp [intOf, o6]; omega⟩
     by_cases hji : j < i
     ·exact hall j hji
     ·have : j = i := by omega
      subst this; exact herr)
end Go.Proofs.R
end
section
namespace Abs
theorem aheadV (m : Model) (i : Nat) : aheadL m 2 i = nSV m i := by
 have e1 : upN 1 2 i m.vars.length = min m.vars.length i := by unfold upN; rw [if_pos (by decide), if_neg (by decide)]; simp
 have e2 : upN 2 2 i m.chans.length = 0 := by unfold upN; rw [if_neg (by decide)]
 have e3 : upN 3 2 i m.procs.length = 0 := by unfold upN; rw [if_neg (by decide)]
 have e4 : upL 2 i m.props.length = 0 := by unfold upL; rw [if_neg (by decide)]
 unfold aheadL
 rw [e1, e2, e3, e4]
 simp only [nSV, nS, nV, List.take_zero, List.map_nil, List.append_nil]
 rw [Nat.min_comm, ← List.take_take]
 simp only [List.take_length]
theorem aheadC (m : Model) (i : Nat) : aheadL m 3 i = nSVC m i := by
 have e1 : upN 1 3 i m.vars.length = m.vars.length := by unfold upN; rw [if_pos (by decide), if_pos (by decide)]
 have e2 : upN 2 3 i m.chans.length = min m.chans.length i := by unfold upN; rw [if_pos (by decide), if_neg (by decide)]; simp
 have e3 : upN 3 3 i m.procs.length = 0 := by unfold upN; rw [if_neg (by decide)]
 have e4 : upL 3 i m.props.length = 0 := by unfold upL; rw [if_neg (by decide)]
 unfold aheadL
 rw [e1, e2, e3, e4]
 simp only [nSVC, nSV, nS, nV, nC, List.take_zero, List.map_nil, List.append_nil]
 rw [Nat.min_comm, ← List.take_take]
 simp only [List.take_length]
theorem aheadP (m : Model) (i : Nat) : aheadL m 4 i = nSVCP m i := by
 have e1 : upN 1 4 i m.vars.length = m.vars.length := by unfold upN; rw [if_pos (by decide), if_pos (by decide)]
 have e2 : upN 2 4 i m.chans.length = m.chans.length := by unfold upN; rw [if_pos (by decide), if_pos (by decide)]
 have e3 : upN 3 4 i m.procs.length = min m.procs.length i := by unfold upN; rw [if_pos (by decide), if_neg (by decide)]; simp
 have e4 : upL 4 i m.props.length = 0 := by unfold upL; rw [if_neg (by decide)]
 unfold aheadL
 rw [e1, e2, e3, e4]
 simp only [nSVCP, nSVC, nSV, nS, nV, nC, nP, List.take_zero, List.map_nil, List.append_nil]
 rw [Nat.min_comm, ← List.take_take]
 simp only [List.take_length]
theorem aheadR (m : Model) (i : Nat) : aheadL m 5 i = nAll m i := by
 have e1 : upN 1 5 i m.vars.length = m.vars.length := by unfold upN; rw [if_pos (by decide), if_pos (by decide)]
 have e2 : upN 2 5 i m.chans.length = m.chans.length := by unfold upN; rw [if_pos (by decide), if_pos (by decide)]
 have e3 : upN 3 5 i m.procs.length = m.procs.length := by unfold upN; rw [if_pos (by decide), if_pos (by decide)]
 have e4 : upL 5 i m.props.length = min m.props.length i := by unfold upL; rw [if_pos (by decide)]; simp
 unfold aheadL
 rw [e1, e2, e3, e4]
 simp only [nAll, nSVCP, nSVC, nSV, nS, nV, nC, nP, nR]
 rw [Nat.min_comm, ← List.take_take]
 simp only [List.take_length]
theorem upN_le (q p i : Int) (len : Nat) : upN q p i len ≤ len := by unfold upN; (repeat' split) <;> omega
end Abs
namespace Go.Proofs.R
open Go Go.RowKit Lite
def faultV (f : Abs.Fault) : Value := .agg #[.int .i64 f.why, .int .i64 f.part, .int .i64 f.item, .int .i64 f.sub]
theorem refData_r (cs : List Value) (m : Abs.Model) (w : World) (h : Abs.MI w cs m) :
  Ret Tryz.prog F.lr15_data #[.agg cs.toArray] w fun v w' => v = faultV (Abs.data m) ∧ Ext w w' := by
 have hM := h
 obtain ⟨o0, c0, o1, c1, o2, c2, o3, c3, o4, c4, rfl, h0, h1, h2, h3, h4, l0, l1, l2, l3, l4⟩ := h.form
 refine Ks E.lr15_data ?_; dsimp only [C.lr15_data]; refine Yy ?_
 refine Sg ?_
 intro w1 b1 hb1 he1 hc1
 refine Sg ?_
 intro w2 b2 hb2 he2 hc2
 replace hc1 := he2.obj hc1
 have e2 := he1.trans he2
 have z1 := lH hc1
 have z2 := he1.size
 refine Sg ?_
 refine K.call (refScalars_r _ m.scalars w2 (h0.ext e2)) ?_
 rintro _ w3 ⟨rfl, he3⟩
 replace hc1 := he3.obj hc1
 replace hc2 := he3.obj hc2
 have e3 := e2.trans he3
 clear e2
 refine Sg ?_
 apply K.cond <;> intro g1
 rotate_left
 ·have hd := Abs.data_s g1
  refine Sg ?_
  intro w4 hw4 hc4
  refine Sg ?_
  exact ⟨by rw [hd]; rfl, hw4.ext e3 (by omega)⟩
 have hS : (Abs.scalars m.scalars).2 = 0 := by simpa using g1
 have hS2 := Abs.scalars_lt hS
 have hc1w := hc1
 have hc2w := hc2
 refine Sg ?_
 refine K.forG 5 m.vars.length [1, 2] (fun _ : Unit => []) () (fun k _ w' => Ext w3 w' ∧ ∀ j, j < k → Abs.evar m j = 0) hZq hZq ⟨Ext.refl _, fun j h => absurd h (Nat.not_lt_zero _)⟩ ?_
 clear hc1 hc2
 rintro k _ S w4 hk ⟨he4, hz⟩
 have hc1 := he4.obj hc1w
 have hc2 := he4.obj hc2w
 have e4 := e3.trans he4
 refine Sg ?_
 apply K.cond <;> intro g2
 ·have hk' : k < m.vars.length := by omega
  have hcap := (SlR.len h1).2
  have hcap2 := hcap.2
  unfold maxLen at hcap2
  obtain ⟨a, rfl⟩ := h1.addr (by omega)
  have hnm := Abs.nameAt_get (f := fun x : Abs.Var => x.name) hk'
  have hcv := ((h1.at k hk').cells).ext e4
  have hvz : ∀ j, j < k → Abs.verr m j = 0 := fun j hj => Abs.verr_of (hz j hj)
  refine Sg ?_
  refine K.slcT (k := .i64) (k + 1) (by simp [ev_tmp, uA]) (by omega) ?_
  refine Sg ?_
  refine K.qfn (.tuple #[.int .i64 (Abs.vars (m.vars.take (k + 1)) m.scalars 12).1, .int .i64 (Abs.vars (m.vars.take (k + 1)) m.scalars 12).2]) (fun w' e => refVars_r _ _ (m.vars.take (k + 1)) m.scalars 12 w' ((h1.head (k + 1) (by omega)).ext Abs.RVar.ext (e4.trans e)) (h0.ext (e4.trans e))) ?_
  refine Sg ?_
  intro w5 he5
  replace hc1 := he5.obj hc1
  replace hc2 := he5.obj hc2
  replace hcv := hcv.ext he5
  have e5 := e4.trans he5
  rw [Abs.vars_take hk' hvz]
  refine Sg ?_
  apply K.cond <;> intro g3
  rotate_left
  ·have hev : Abs.evar m k = Abs.verr m k := by unfold Abs.evar; rw [if_pos g3]
   have hd := Abs.data_v hS hk' hz (by rw [hev]; exact g3)
   rw [hev] at hd
   refine Sg ?_
   intro w6 hw6 hc6
   refine Sg ?_
   exact ⟨by rw [hd]; rfl, hw6.ext e5 (by omega)⟩
  have hv0 : Abs.verr m k = 0 := by simpa using g3
  have hk12 : k < 12 := by
   apply Classical.byContradiction
   intro hn
   have h := hv0
   unfold Abs.verr Abs.err at h
   rw [if_pos (by omega)] at h
   cases h
  refine Sg ?_
  intro w6 he6
  replace hc1 := he6.obj hc1
  replace hc2 := he6.obj hc2
  refine Sg ?_
  refine K.call (ahead_r _ m 2 k w6 (hM.ext (e5.trans he6)) (by omega) (by omega) (by
   have q1 : Abs.upN 1 2 k m.vars.length ≤ k := by unfold Abs.upN; (repeat' split) <;> omega
   have q2 : Abs.upN 2 2 k m.chans.length = 0 := by unfold Abs.upN; rw [if_neg (by decide)]
   have q3 : Abs.upN 3 2 k m.procs.length = 0 := by unfold Abs.upN; rw [if_neg (by decide)]
   have q4 : Abs.upL 2 k m.props.length = 0 := by unfold Abs.upL; rw [if_neg (by decide)]
   omega)) ?_
  rintro _ w7 ⟨⟨v, rfl, hown⟩, he7⟩
  refine ⟨he7, ?_⟩
  rw [Abs.aheadV] at hown
  refine Sg ?_
  refine K.call (has_r v _ m.vars[k].name _ w7 hown) ?_
  rintro _ wA ⟨rfl, rfl⟩
  replace hc1 := he7.obj hc1
  replace hc2 := he7.obj hc2
  have he57 := he6.trans he7
  have e7 := e5.trans he57
  refine Sg ?_
  apply K.cond <;> intro g4
  ·have hev : Abs.evar m k = 7 := by unfold Abs.evar; rw [if_neg (by simpa using hv0), hnm, if_pos g4]
   have hd := Abs.data_v hS hk' hz (by rw [hev]; decide)
   rw [hev] at hd
   refine Sg ?_
   intro w8 hw8 hc8
   refine Sg ?_
   exact ⟨by rw [hd]; rfl, hw8.ext e7 (by omega)⟩
  ·refine Sg ?_
   refine ⟨hk', Tr, (), trivial, (he4.trans he5).trans he57, fun j hj => ?_⟩
   by_cases hjk : j = k
   ·subst hjk
    unfold Abs.evar
    rw [if_neg (by simpa using hv0), hnm, if_neg g4]
   ·exact hz j (by omega)
 have hV : ∀ j, j < m.vars.length → Abs.evar m j = 0 := fun j hj => hz j (by omega)
 have hV12 : m.vars.length ≤ 12 := by
  apply Classical.byContradiction
  intro hn
  have := Abs.evar_lt (hV 12 (by omega))
  omega
 clear hc1 hc2
 refine Sg ?_
 refine K.forG 8 m.chans.length [1, 2] (fun _ : Unit => []) () (fun k _ w' => Ext w3 w' ∧ ∀ j, j < k → Abs.echan m j = 0) hZq hZq ⟨he4, fun j h => absurd h (Nat.not_lt_zero _)⟩ ?_
 clear e4
 rintro k _ S' w5 hk ⟨he5, hz⟩
 have hc1 := he5.obj hc1w
 have hc2 := he5.obj hc2w
 have e4 := e3.trans he5
 refine Sg ?_
 apply K.cond <;> intro g2
 ·have hk' : k < m.chans.length := by omega
  have hcap := (SlR.len h2).2
  have hcap2 := hcap.2
  unfold maxLen at hcap2
  obtain ⟨a, rfl⟩ := h2.addr (by omega)
  have hnm := Abs.nameAt_get (f := fun x : Abs.Chan => x.name) hk'
  have hcv := ((h2.at k hk').cells).ext e4
  have hvz : ∀ j, j < k → Abs.cerr m j = 0 := fun j hj => Abs.cerr_of (hz j hj)
  refine Sg ?_
  refine K.slcT (k := .i64) (k + 1) (by simp [ev_tmp, uA]) (by omega) ?_
  refine Sg ?_
  refine K.qfn (.tuple #[.int .i64 (Abs.chans (m.chans.take (k + 1)) m.scalars).1, .int .i64 (Abs.chans (m.chans.take (k + 1)) m.scalars).2]) (fun w' e => refChans_r _ _ (m.chans.take (k + 1)) m.scalars w' ((h2.head (k + 1) (by omega)).ext Abs.RChan.ext (e4.trans e)) (h0.ext (e4.trans e))) ?_
  refine Sg ?_
  intro w6 he6
  replace hc1 := he6.obj hc1
  replace hc2 := he6.obj hc2
  replace hcv := hcv.ext he6
  have e5 := e4.trans he6
  rw [Abs.chans_take hk' hvz]
  refine Sg ?_
  apply K.cond <;> intro g3
  rotate_left
  ·have hev : Abs.echan m k = Abs.cerr m k := by unfold Abs.echan; rw [if_pos g3]
   have hd := Abs.data_c hS hV hk' hz (by rw [hev]; exact g3)
   rw [hev] at hd
   refine Sg ?_
   intro w6 hw6 hc6
   refine Sg ?_
   exact ⟨by rw [hd]; rfl, hw6.ext e5 (by omega)⟩
  have hv0 : Abs.cerr m k = 0 := by simpa using g3
  have hk4 : k < 4 := by
   apply Classical.byContradiction
   intro hn
   have h := hv0
   unfold Abs.cerr Abs.err at h
   rw [if_pos (by omega)] at h
   cases h
  refine Sg ?_
  intro w7 he7
  replace hc1 := he7.obj hc1
  replace hc2 := he7.obj hc2
  refine Sg ?_
  refine K.call (ahead_r _ m 3 k w7 (hM.ext (e5.trans he7)) (by omega) (by omega) (by
   have q1 := Abs.upN_le 1 3 k m.vars.length
   have q2 : Abs.upN 2 3 k m.chans.length ≤ k := by unfold Abs.upN; (repeat' split) <;> omega
   have q3 : Abs.upN 3 3 k m.procs.length = 0 := by unfold Abs.upN; rw [if_neg (by decide)]
   have q4 : Abs.upL 3 k m.props.length = 0 := by unfold Abs.upL; rw [if_neg (by decide)]
   omega)) ?_
  rintro _ w8 ⟨⟨v, rfl, hown⟩, he8⟩
  refine ⟨he8, ?_⟩
  rw [Abs.aheadC] at hown
  refine Sg ?_
  refine K.call (has_r v _ m.chans[k].name _ w8 hown) ?_
  rintro _ wA ⟨rfl, rfl⟩
  replace hc1 := he8.obj hc1
  replace hc2 := he8.obj hc2
  have he68 := he7.trans he8
  have e7 := e5.trans he68
  refine Sg ?_
  apply K.cond <;> intro g4
  ·have hev : Abs.echan m k = 7 := by unfold Abs.echan; rw [if_neg (by simpa using hv0), hnm, if_pos g4]
   have hd := Abs.data_c hS hV hk' hz (by rw [hev]; decide)
   rw [hev] at hd
   refine Sg ?_
   intro w8 hw8 hc8
   refine Sg ?_
   exact ⟨by rw [hd]; rfl, hw8.ext e7 (by omega)⟩
  ·refine Sg ?_
   refine ⟨hk', Tr, (), trivial, (he5.trans he6).trans he68, fun j hj => ?_⟩
   by_cases hjk : j = k
   ·subst hjk
    unfold Abs.echan
    rw [if_neg (by simpa using hv0), hnm, if_neg g4]
   ·exact hz j (by omega)
 have hd := Abs.data_0 hS hV fun j hj => hz j (by omega)
 refine Sg ?_
 intro w6 hw6 hc6
 refine Sg ?_
 exact ⟨by rw [hd]; rfl, hw6.ext e4 (by omega)⟩
end Go.Proofs.R
end
section
namespace Abs
structure Few (m : Model) : Prop where
 v : m.vars.length ≤ 1000000
 c : m.chans.length ≤ 1000000
 p : m.procs.length ≤ 1000000
 i : ∀ p ∈ m.procs, p.vars.length ≤ 1000000 ∧ p.cmds.length ≤ 1000000
def c1 (m : Model) (k : Nat) : Int := sumI ((m.vars.take k).map fun v => cells v m.scalars)
def c2 (m : Model) (k : Nat) : Int := sumI ((m.chans.take k).map ccap)
def i1 (m : Model) (k : Nat) : Int := sumI ((m.procs.take k).map (pinsts m))
def i2 (m : Model) (k : Nat) : Int := sumI ((m.procs.take k).map fun p => pinsts m p * p.cmds.length)
def i3 (m : Model) (k : Nat) : Int := sumI ((m.procs.take k).map fun p => pinsts m p * (1 + p.vars.length))
theorem mem_of_take {α : Type} {l : List α} {k : Nat} {x : α} (h : x ∈ l.take k) : x ∈ l := List.mem_of_mem_take h
theorem c1_le {m : Model} (h : Few m) (k : Nat) : 0 ≤ c1 m k ∧ c1 m k ≤ 4000000 := by
 have := sumI_le (fun v => cells v m.scalars) 4 (by decide) (m.vars.take k) fun v _ => cells_le v _
 have h1 := h.v
 have h2 : (m.vars.take k).length ≤ m.vars.length := by simp; omega
 unfold c1
 omega
theorem c2_le {m : Model} (h : Few m) (k : Nat) : 0 ≤ c2 m k ∧ c2 m k ≤ 5000000 := by
 have := sumI_le ccap 5 (by decide) (m.chans.take k) fun c _ => by have := ccap_le c; omega
 have h1 := h.c
 have h2 : (m.chans.take k).length ≤ m.chans.length := by simp; omega
 unfold c2
 omega
theorem i1_le {m : Model} (h : Few m) (k : Nat) : 0 ≤ i1 m k ∧ i1 m k ≤ 4000000 := by
 have := sumI_le (pinsts m) 4 (by decide) (m.procs.take k) fun p _ => pinsts_le m p
 have h1 := h.p
 have h2 : (m.procs.take k).length ≤ m.procs.length := by simp; omega
 unfold i1
 omega
theorem mul_le {a b : Int} (ha : 0 ≤ a ∧ a ≤ 4) (hb : 0 ≤ b ∧ b ≤ 1000001) : 0 ≤ a * b ∧ a * b ≤ 4000004 := by
 have : a = 0 ∨ a = 1 ∨ a = 2 ∨ a = 3 ∨ a = 4 := by omega
 rcases this with rfl | rfl | rfl | rfl | rfl <;> omega
theorem i2_le {m : Model} (h : Few m) (k : Nat) : 0 ≤ i2 m k ∧ i2 m k ≤ 4000004000000 := by
 have := sumI_le (fun p => pinsts m p * p.cmds.length) 4000004 (by decide) (m.procs.take k) fun p hp => mul_le (pinsts_le m p) (by have := (h.i p (mem_of_take hp)).2; omega)
 have h1 := h.p
 have h2 : (m.procs.take k).length ≤ m.procs.length := by simp; omega
 unfold i2
 omega
theorem i3_le {m : Model} (h : Few m) (k : Nat) : 0 ≤ i3 m k ∧ i3 m k ≤ 4000004000000 := by
 have := sumI_le (fun p => pinsts m p * (1 + p.vars.length)) 4000004 (by decide) (m.procs.take k) fun p hp => mul_le (pinsts_le m p) (by have := (h.i p (mem_of_take hp)).1; omega)
 have h1 := h.p
 have h2 : (m.procs.take k).length ≤ m.procs.length := by simp; omega
 unfold i3
 omega
theorem c1_succ {m : Model} {k : Nat} (h : k < m.vars.length) : c1 m (k + 1) = c1 m k + cells m.vars[k] m.scalars := sumI_take _ _ h
theorem c2_succ {m : Model} {k : Nat} (h : k < m.chans.length) : c2 m (k + 1) = c2 m k + ccap m.chans[k] := sumI_take _ _ h
theorem i1_succ {m : Model} {k : Nat} (h : k < m.procs.length) : i1 m (k + 1) = i1 m k + pinsts m m.procs[k] := sumI_take _ _ h
theorem i2_succ {m : Model} {k : Nat} (h : k < m.procs.length) : i2 m (k + 1) = i2 m k + pinsts m m.procs[k] * m.procs[k].cmds.length := sumI_take _ _ h
theorem i3_succ {m : Model} {k : Nat} (h : k < m.procs.length) : i3 m (k + 1) = i3 m k + pinsts m m.procs[k] * (1 + m.procs[k].vars.length) := sumI_take _ _ h
theorem pieces_eq (m : Model) {a b c : Nat} (ha : m.vars.length ≤ a) (hb : m.chans.length ≤ b) (hc : m.procs.length ≤ c) : pieces m = (i1 m c, i2 m c, c1 m a + c2 m b + i3 m c) := by
 unfold pieces i1 i2 i3 c1 c2
 rw [List.take_of_length_le ha, List.take_of_length_le hb, List.take_of_length_le hc]
end Abs
namespace Go.Proofs.R
open Go Go.RowKit Lite
theorem pieces_r (cs : List Value) (m : Abs.Model) (w : World) (h : Abs.MI w cs m) (hf : Abs.Few m) :
  Ret Tryz.prog F.cn #[.agg cs.toArray] w fun v w' => v = .tuple #[.int .i64 (Abs.pieces m).1, .int .i64 (Abs.pieces m).2.1, .int .i64 (Abs.pieces m).2.2] ∧ Ext w w' := by
 obtain ⟨o0, c0, o1, c1, o2, c2, o3, c3, o4, c4, rfl, h0, h1, h2, h3, h4, l0, l1, l2, l3, l4⟩ := h.form
 refine Ks E.cn ?_; dsimp only [C.cn]; refine Yy ?_
 refine Sg ?_
 intro w1 b1 hb1 he1 hc1
 have hcw := hc1
 clear hc1
 refine Sg ?_
 refine K.forG 18 m.vars.length [1, 5, 6, 16, 17] (fun s : Int => [(7, .int .i64 s)]) 0 (fun k s w' => Ext w1 w' ∧ s = Abs.c1 m k) hZq hZq ⟨Ext.refl _, by simp [Abs.c1, Abs.sumI]⟩ ?_
 rintro k _ S w2 hk ⟨he2, rfl⟩
 have hc1 := he2.obj hcw
 have E2 : ∀ {w'}, Ext w2 w' → Ext w w' := fun e => (he1.trans he2).trans e
 refine Sg ?_
 apply K.cond <;> intro g1
 ·have hk' : k < m.vars.length := by omega
  obtain ⟨a, rfl⟩ := h1.addr (by omega)
  have hcv := ((h1.at k hk').cells).ext (E2 (Ext.refl _))
  refine Sg ?_
  intro w3 b3 hb3 he3 hc3
  replace hc1 := he3.obj hc1
  refine Sg ?_
  refine K.call (cells_r m.vars[k] _ m.scalars w3 (h0.ext (E2 he3))) ?_
  rintro _ w4 ⟨rfl, he4⟩
  have q1 := Abs.c1_le hf k
  have q2 := Abs.cells_le m.vars[k] m.scalars
  refine Sg ?_
  exact ⟨hk', Tr, _, hZq, (he2.trans he3).trans he4, (Abs.c1_succ hk').symm⟩
 have hkv : m.vars.length ≤ k := by omega
 refine Sg ?_
 refine K.forG 32 m.chans.length [1, 5, 6, 30, 31] (fun s : Int => [(7, .int .i64 s)]) (Abs.c1 m k) (fun j s w' => Ext w1 w' ∧ s = Abs.c1 m k + Abs.c2 m j) hZq hZq ⟨he2, by simp [Abs.c2, Abs.sumI]⟩ ?_
 clear hc1 E2
 rintro j _ S' w3 hj ⟨he3, rfl⟩
 have hc1 := he3.obj hcw
 have E3 : ∀ {w'}, Ext w3 w' → Ext w w' := fun e => (he1.trans he3).trans e
 refine Sg ?_
 apply K.cond <;> intro g2
 ·have hj' : j < m.chans.length := by omega
  obtain ⟨a, rfl⟩ := h2.addr (by omega)
  have hcv := ((h2.at j hj').cells).ext (E3 (Ext.refl _))
  refine Sg ?_
  intro w4 b3 hb3 he4 hc3
  have q1 := Abs.c1_le hf k
  have q2 := Abs.c2_le hf j
  have q3 := Abs.ccap_le m.chans[j]
  unfold Abs.ccap at q3
  refine Sg ?_
  exact ⟨hj', Tr, _, hZq, he3.trans he4, by rw [Abs.c2_succ hj']; unfold Abs.ccap; omega⟩
 have hjc : m.chans.length ≤ j := by omega
 refine Sg ?_
 refine K.forG 47 m.procs.length [1, 45, 46] (fun s : Int × Int × Int => [(5, .int .i64 s.1), (6, .int .i64 s.2.1), (7, .int .i64 s.2.2)]) (0, 0, Abs.c1 m k + Abs.c2 m j)
  (fun i s w' => Ext w1 w' ∧ s = (Abs.i1 m i, Abs.i2 m i, Abs.c1 m k + Abs.c2 m j + Abs.i3 m i)) hZq hZq ⟨he3, by simp [Abs.i1, Abs.i2, Abs.i3, Abs.sumI]⟩ ?_
 clear hc1 E3
 rintro i _ S'' w4 hi ⟨he4, rfl⟩
 have hc1 := he4.obj hcw
 have E4 : ∀ {w'}, Ext w4 w' → Ext w w' := fun e => (he1.trans he4).trans e
 refine Sg ?_
 apply K.cond <;> intro g3
 ·have hi' : i < m.procs.length := by omega
  obtain ⟨a, rfl⟩ := h3.addr (by omega)
  obtain ⟨_, vv, vc, hp, hpv, hpc⟩ := h3.at i hi'
  obtain ⟨ov, cv, rfl, lv⟩ := hpv.form
  obtain ⟨oc, cc, rfl, lc⟩ := hpc.form
  replace hp := hp.ext (E4 (Ext.refl _))
  have hfi := hf.i _ (List.getElem_mem hi')
  refine Sg ?_
  intro w5 b3 hb3 he5 hc3
  replace hc1 := he5.obj hc1
  refine Sg ?_
  refine K.call (cells_r ⟨⟨#[]⟩, 0, m.procs[i].over, 0, 0, 0⟩ _ m.scalars w5 (h0.ext (E4 he5))) ?_
  rintro _ w6 ⟨rfl, he6⟩
  have hpi : Abs.cells ⟨⟨#[]⟩, 0, m.procs[i].over, 0, 0, 0⟩ m.scalars = Abs.pinsts m m.procs[i] := rfl
  rw [hpi]
  replace hc3 := he6.obj hc3
  have q1 := Abs.c1_le hf k
  have q2 := Abs.c2_le hf j
  have q3 := Abs.i1_le hf i
  have q4 := Abs.i2_le hf i
  have q5 := Abs.i3_le hf i
  have q6 := Abs.pinsts_le m m.procs[i]
  have q7 := Abs.mul_le q6 (b := m.procs[i].cmds.length) (by omega)
  have q8 := Abs.mul_le q6 (b := 1 + m.procs[i].vars.length) (by omega)
  refine Sg ?_
  exact ⟨hi', Tr, (_, _, _), (by first | exact ⟨rfl, rfl, rfl, trivial⟩ | exact ⟨rfl, rfl, trivial⟩ | (simp -dsimp only [LL,slots_nil,slots_cons,keepV_nil,keepV_cons,has_nil,has_cons,Nat.reduceAdd,Nat.reduceEqDiff,reduceIte,and_self]; exact ⟨rfl, rfl, rfl, trivial⟩) | (simp -dsimp only [LL,slots_nil,slots_cons,keepV_nil,keepV_cons,has_nil,has_cons,Nat.reduceAdd,Nat.reduceEqDiff,reduceIte,and_self]; exact ⟨rfl, rfl, trivial⟩)), (he4.trans he5).trans he6, by rw [Abs.i1_succ hi', Abs.i2_succ hi', Abs.i3_succ hi']; exact Prod.ext rfl (Prod.ext rfl (Int.add_assoc _ _ _))⟩
 have hip : m.procs.length ≤ i := by omega
 refine Sg ?_
 exact ⟨by rw [Abs.pieces_eq m hkv hjc hip], E4 (Ext.refl _)⟩
theorem insts15_r (cs : List Value) (m : Abs.Model) (p : Abs.Proc) (vv vc : Value) (w : World) (h : Abs.MI w cs m) :
  Ret Tryz.prog F.lr15_Insts #[.agg cs.toArray, .agg (p.enc vv vc).toArray] w fun v w' => v = .int .i64 (Abs.pinsts m p) ∧ Ext w w' := by
 obtain ⟨o0, c0, o1, c1, o2, c2, o3, c3, o4, c4, rfl, h0, _⟩ := h.form
 refine Ks E.lr15_Insts ?_; dsimp only [C.lr15_Insts]; refine Yy ?_
 refine Sg ?_
 intro w1 b1 hb1 he1 hc1
 refine Sg ?_
 intro w2 b2 hb2 he2 hc2
 refine Sg ?_
 refine K.cond (fun g => ?_) (fun g => ?_)
 ·refine Sg ?_
  exact ⟨by rw [Abs.pinsts, if_pos g], he1.trans he2⟩
 refine Sg ?_
 refine K.call (refSize_r p.over _ m.scalars w2 (h0.ext (he1.trans he2))) ?_
 rintro _ _ ⟨rfl, rfl⟩
 refine Sg ?_
 exact ⟨by rw [Abs.pinsts, if_neg g], he1.trans he2⟩
theorem refPieces_r (cs : List Value) (m : Abs.Model) (w : World) (h : Abs.MI w cs m) (hf : Abs.Few m) :
  Ret Tryz.prog F.lr15_Pieces #[.agg cs.toArray] w fun v w' => v = .tuple #[.int .i64 (Abs.pieces m).1, .int .i64 (Abs.pieces m).2.1, .int .i64 (Abs.pieces m).2.2] ∧ Ext w w' := by
 have hM := h
 obtain ⟨o0, c0, o1, c1, o2, c2, o3, c3, o4, c4, rfl, h0, h1, h2, h3, h4, l0, l1, l2, l3, l4⟩ := h.form
 refine Ks E.lr15_Pieces ?_; dsimp only [C.lr15_Pieces]; refine Yy ?_
 refine Sg ?_
 intro w1 b1 hb1 he1 hc1
 have hcw := hc1
 clear hc1
 refine Sg ?_
 refine K.forG 8 m.vars.length [1, 5, 6] (fun s : Int => [(7, .int .i64 s)]) 0 (fun k s w' => Ext w1 w' ∧ s = Abs.c1 m k) hZq hZq ⟨Ext.refl _, by simp [Abs.c1, Abs.sumI]⟩ ?_
 rintro k _ S w2 hk ⟨he2, rfl⟩
 have hc1 := he2.obj hcw
 have E2 : ∀ {w'}, Ext w2 w' → Ext w w' := fun e => (he1.trans he2).trans e
 refine Sg ?_
 apply K.cond <;> intro g1
 ·have hk' : k < m.vars.length := by omega
  obtain ⟨a, rfl⟩ := h1.addr (by omega)
  have hcv := ((h1.at k hk').cells).ext (E2 (Ext.refl _))
  have q1 := Abs.c1_le hf k
  have q2 := Abs.cells_le m.vars[k] m.scalars
  refine Sg ?_
  refine K.qfn (.int .i64 (Abs.cells m.vars[k] m.scalars)) (fun w' e => refCells_r m.vars[k] _ m.scalars w' (h0.ext (E2 e))) ?_
  refine Sg ?_
  intro w4 he4
  refine Sg ?_
  exact ⟨hk', Tr, _, hZq, he2.trans he4, (Abs.c1_succ hk').symm⟩
 have hkv : m.vars.length ≤ k := by omega
 refine Sg ?_
 refine K.forG 9 m.chans.length [1, 5, 6] (fun s : Int => [(7, .int .i64 s)]) (Abs.c1 m k) (fun j s w' => Ext w1 w' ∧ s = Abs.c1 m k + Abs.c2 m j) hZq hZq ⟨he2, by simp [Abs.c2, Abs.sumI]⟩ ?_
 clear hc1 E2
 rintro j _ S' w3 hj ⟨he3, rfl⟩
 have hc1 := he3.obj hcw
 have E3 : ∀ {w'}, Ext w3 w' → Ext w w' := fun e => (he1.trans he3).trans e
 refine Sg ?_
 apply K.cond <;> intro g2
 ·have hj' : j < m.chans.length := by omega
  obtain ⟨a, rfl⟩ := h2.addr (by omega)
  have hcv := ((h2.at j hj').cells).ext (E3 (Ext.refl _))
  have q1 := Abs.c1_le hf k
  have q2 := Abs.c2_le hf j
  have q3 := Abs.ccap_le m.chans[j]
  unfold Abs.ccap at q3
  refine Sg ?_
  exact ⟨hj', Tr, _, hZq, he3, by rw [Abs.c2_succ hj']; unfold Abs.ccap; omega⟩
 have hjc : m.chans.length ≤ j := by omega
 refine Sg ?_
 refine K.forG 10 m.procs.length [1] (fun s : Int × Int × Int => [(5, .int .i64 s.1), (6, .int .i64 s.2.1), (7, .int .i64 s.2.2)]) (0, 0, Abs.c1 m k + Abs.c2 m j)
  (fun i s w' => Ext w1 w' ∧ s = (Abs.i1 m i, Abs.i2 m i, Abs.c1 m k + Abs.c2 m j + Abs.i3 m i)) hZq hZq ⟨he3, by simp [Abs.i1, Abs.i2, Abs.i3, Abs.sumI]⟩ ?_
 clear hc1 E3
 rintro i _ S'' w4 hi ⟨he4, rfl⟩
 have hc1 := he4.obj hcw
 have E4 : ∀ {w'}, Ext w4 w' → Ext w w' := fun e => (he1.trans he4).trans e
 refine Sg ?_
 apply K.cond <;> intro g3
 ·have hi' : i < m.procs.length := by omega
  obtain ⟨a, rfl⟩ := h3.addr (by omega)
  obtain ⟨_, vv, vc, hp, hpv, hpc⟩ := h3.at i hi'
  obtain ⟨ov, cv, rfl, lv⟩ := hpv.form
  obtain ⟨oc, cc, rfl, lc⟩ := hpc.form
  replace hp := hp.ext (E4 (Ext.refl _))
  have hfi := hf.i _ (List.getElem_mem hi')
  refine Sg ?_
  refine K.qfn (.int .i64 (Abs.pinsts m m.procs[i])) (fun w' e => insts15_r _ m m.procs[i] _ _ w' (hM.ext (E4 e))) ?_
  refine Sg ?_
  intro w6 he6
  replace hc1 := he6.obj hc1
  replace hp := hp.ext he6
  have q1 := Abs.c1_le hf k
  have q2 := Abs.c2_le hf j
  have q3 := Abs.i1_le hf i
  have q4 := Abs.i2_le hf i
  have q5 := Abs.i3_le hf i
  have q6 := Abs.pinsts_le m m.procs[i]
  have q7 := Abs.mul_le q6 (b := m.procs[i].cmds.length) (by omega)
  have q8 := Abs.mul_le q6 (b := 1 + m.procs[i].vars.length) (by omega)
  refine Sg ?_
  exact ⟨hi', Tr, (_, _, _), (by first | exact ⟨rfl, rfl, rfl, trivial⟩ | exact ⟨rfl, rfl, trivial⟩ | (simp -dsimp only [LL,slots_nil,slots_cons,keepV_nil,keepV_cons,has_nil,has_cons,Nat.reduceAdd,Nat.reduceEqDiff,reduceIte,and_self]; exact ⟨rfl, rfl, rfl, trivial⟩) | (simp -dsimp only [LL,slots_nil,slots_cons,keepV_nil,keepV_cons,has_nil,has_cons,Nat.reduceAdd,Nat.reduceEqDiff,reduceIte,and_self]; exact ⟨rfl, rfl, trivial⟩)), he4.trans he6, by rw [Abs.i1_succ hi', Abs.i2_succ hi', Abs.i3_succ hi']; exact Prod.ext rfl (Prod.ext rfl (Int.add_assoc _ _ _))⟩
 have hip : m.procs.length ≤ i := by omega
 refine Sg ?_
 exact ⟨by rw [Abs.pieces_eq m hkv hjc hip], E4 (Ext.refl _)⟩
end Go.Proofs.R
end
section
namespace Abs
structure HeavyOk (m : Model) : Prop where
 s : m.scalars.length ≤ 10
 v : m.vars.length ≤ 30
 c : m.chans.length ≤ 20
 p : m.procs.length ≤ 20
 q : m.props.length ≤ 20
 i : ∀ p ∈ m.procs, p.vars.length ≤ 20 ∧ p.cmds.length ≤ 30 ∧ ∀ c ∈ p.cmds, c.acts.length ≤ 20 ∧ c.guard.length ≤ 60
end Abs
namespace Go.Proofs.R
open Go Go.RowKit Lite
theorem heavy_r (cs : List Value) (m : Abs.Model) (w : World) (h : Abs.MI w cs m) :
  Ret Tryz.prog F.lw14_Heavy #[.agg cs.toArray] w fun v w' => (v = .int .i64 1 ∨ v = .int .i64 0 ∧ Abs.HeavyOk m) ∧ Ext w w' := by
 obtain ⟨o0, c0, o1, c1, o2, c2, o3, c3, o4, c4, rfl, h0, h1, h2, h3, h4, l0, l1, l2, l3, l4⟩ := h.form
 refine Ks E.lw14_Heavy ?_; dsimp only [C.lw14_Heavy]; refine Yy ?_
 refine Sg ?_
 intro w1 b1 hb1 he1 hc1
 refine Sg ?_
 apply K.cond <;> intro g0
 ·refine Sg ?_
  exact ⟨.inl (Tr), he1⟩
 refine Sg ?_
 apply K.cond <;> intro g1
 ·refine Sg ?_
  exact ⟨.inl (Tr), he1⟩
 refine Sg ?_
 apply K.cond <;> intro g2
 ·refine Sg ?_
  exact ⟨.inl (Tr), he1⟩
 refine Sg ?_
 apply K.cond <;> intro g3
 ·refine Sg ?_
  exact ⟨.inl (Tr), he1⟩
 refine Sg ?_
 apply K.cond <;> intro g4
 ·refine Sg ?_
  exact ⟨.inl (Tr), he1⟩
 refine Sg ?_
 refine K.forG 3 m.procs.length [1] (fun _ => []) () (fun k _ w' => Ext w1 w' ∧ ∀ p ∈ m.procs.take k, p.vars.length ≤ 20 ∧ p.cmds.length ≤ 30 ∧ ∀ c ∈ p.cmds, c.acts.length ≤ 20 ∧ c.guard.length ≤ 60) hZq hZq ⟨Ext.refl _, by simp⟩ ?_
 rintro k _ S w2 hk ⟨he2, hall⟩
 refine Sg ?_
 apply K.cond <;> intro g5
 ·have hk' : k < m.procs.length := by omega
  obtain ⟨a, rfl⟩ := h3.addr (by omega)
  obtain ⟨_, vv, vc, hp, hpv, hpc⟩ := h3.at k hk'
  obtain ⟨ov, cv, rfl, lv⟩ := hpv.form
  obtain ⟨oc, cc, rfl, lc⟩ := hpc.form
  refine Sg ?_
  intro w3 b3 hb3 he3 hc3
  refine Sg ?_
  apply K.cond <;> intro g6
  ·refine Sg ?_
   exact ⟨.inl (Tr), (he1.trans he2).trans he3⟩
  refine Sg ?_
  apply K.cond <;> intro g7
  ·refine Sg ?_
   exact ⟨.inl (Tr), (he1.trans he2).trans he3⟩
  refine Sg ?_
  refine K.forG 5 m.procs[k].cmds.length [1, 3, 4] (fun _ => []) () (fun j _ w' => Ext w3 w' ∧ ∀ c ∈ m.procs[k].cmds.take j, c.acts.length ≤ 20 ∧ c.guard.length ≤ 60) hZq hZq ⟨Ext.refl _, by simp⟩ ?_
  rintro j _ S w4 hj ⟨he4, hall2⟩
  refine Sg ?_
  apply K.cond <;> intro g8
  ·have hj' : j < m.procs[k].cmds.length := by omega
   obtain ⟨a2, rfl⟩ := hpc.addr (by omega)
   obtain ⟨_, vg, va, hcc, hvg, hva⟩ := hpc.at j hj'
   obtain ⟨og, cg, rfl, lg⟩ := hvg.form
   obtain ⟨oa, ca, rfl, la⟩ := hva.form
   refine Sg ?_
   apply K.cond <;> intro g9
   ·refine Sg ?_
    exact ⟨.inl (Tr), ((he1.trans he2).trans he3).trans he4⟩
   refine Sg ?_
   apply K.cond <;> intro g10
   ·refine Sg ?_
    exact ⟨.inl (Tr), ((he1.trans he2).trans he3).trans he4⟩
   refine Sg ?_
   refine ⟨hj', Tr, (), trivial, he4, fun c hc => ?_⟩
   rw [List.take_succ_eq_append_getElem hj'] at hc
   rcases List.mem_append.1 hc with hc | hc
   ·exact hall2 c hc
   ·rw [List.mem_singleton] at hc
    subst hc
    exact ⟨by omega, by omega⟩
  ·rw [List.take_of_length_le (by omega)] at hall2
   refine Sg ?_
   refine ⟨hk', Tr, (), trivial, (he2.trans he3).trans he4, fun p hp => ?_⟩
   rw [List.take_succ_eq_append_getElem hk'] at hp
   rcases List.mem_append.1 hp with hp | hp
   ·exact hall p hp
   ·rw [List.mem_singleton] at hp
    subst hp
    exact ⟨by omega, by omega, hall2⟩
 ·rw [List.take_of_length_le (by omega)] at hall
  refine Sg ?_
  exact ⟨.inr ⟨Tr, by omega, by omega, by omega, by omega, by omega, hall⟩, he1.trans he2⟩
end Go.Proofs.R
end