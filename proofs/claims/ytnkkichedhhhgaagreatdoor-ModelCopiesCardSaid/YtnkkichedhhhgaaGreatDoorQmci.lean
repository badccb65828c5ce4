/- Texts joined: DeclC DeclD ModD DeclA DeclR ModB ExprD ExprE ExprF CmdA CmdB CmdQ CmdC. -/
import Derived.Test.YtnkkichedhhhgaaGreatDoorQmcd
import Derived.Test.YtnkkichedhhhgaaGreatDoorQmcf
import Derived.Test.YtnkkichedhhhgaaGreatDoorQmch
set_option linter.all false
section
/- What the functions of decl compute. -/
set_option maxRecDepth 4000
set_option linter.unusedSimpArgs false
namespace Go.Proofs.YtnkkichedhhhgaaGreatDoor
open Go Go.RowKit Lite

theorem narrow_r (lo hi : Int) (w : World) : Ret Tryz.prog F.decl_narrow #[.int .i64 lo, .int .i64 hi] w fun v w' => v = .bool (Abs.narrow lo hi) ∧ w' = w := by
  refine K.start hmix E.decl_narrow (args := [_, _]) (Nat.le_of_ble_eq_true rfl) ?_
  dsimp only [C.decl_narrow]; refine Yy ?_
  (repeat' first
    | (refine K.cond (fun _ => ?_) (fun _ => ?_) <;> try (exfalso; omega))
    | (refine K.condb (fun _ => ?_) (fun _ => ?_))
    | (refine K.wrap (by omega) ?_)
    | (refine K.ld (by assumption) ?_)
    | (refine K.ia (by omega) ?_)
    | simp -dsimp only [LL,B9,Nat.reduceAdd,Nat.reduceEqDiff,reduceIte,reduceCtorEq,Bool.false_eq_true])
  all_goals (refine ⟨?_, by first | rfl | trivial⟩; congr 1; rw [Bool.eq_iff_iff]; simp [Abs.narrow]; omega)
theorem size_at {k : Int} {l : List Abs.Scalar} (h1 : 1 ≤ k) (h2 : k ≤ l.length) : Abs.size k l = if 1 ≤ (l[k.toNat - 1]'(by omega)).size ∧ (l[k.toNat - 1]'(by omega)).size ≤ 4 then (l[k.toNat - 1]'(by omega)).size else 0 := by
  have e : (k - 1).toNat = k.toNat - 1 := by omega
  have hlt : k.toNat - 1 < l.length := by omega
  simp only [Abs.size, e, List.getElem?_eq_getElem hlt, h1, true_and]
theorem size_no {k : Int} {l : List Abs.Scalar} (h : k < 1 ∨ l.length < k) : Abs.size k l = 0 := by
  unfold Abs.size
  split
  · rename_i x hx
    rw [if_neg]
    rintro ⟨h1, _⟩
    have := (List.getElem?_eq_some_iff.1 hx).1
    omega
  · rfl
theorem size_r (k : Int) (v : Value) (l : List Abs.Scalar) (w : World) (hl : Abs.Scalars w v l) :
    Ret Tryz.prog F.decl_size #[.int .i64 k, v] w fun v w' => v = .tuple #[.int .i64 (Abs.size k l), .bool (decide (Abs.size k l ≠ 0))] ∧ w' = w := by
  obtain ⟨oa, cap, rfl, hlen⟩ := hl.form
  refine K.start hmix E.decl_size (args := [_, _]) (Nat.le_of_ble_eq_true rfl) ?_
  dsimp only [C.decl_size]; refine Yy ?_
  refine Go1 ?_
  refine K.cond (fun h1 => ?_) (fun h1 => ?_)
  · refine Go1 ?_
    rw [size_no (.inl h1)]; exact ⟨rfl, trivial⟩
  refine Go1 ?_
  refine K.cond (fun h2 => ?_) (fun h2 => ?_)
  · refine Go1 ?_
    rw [size_no (.inr h2)]; exact ⟨rfl, trivial⟩
  refine Go1 ?_
  refine K.wrap (by omega) ?_
  refine Go1 ?_
  obtain ⟨a, rfl⟩ := hl.addr (by omega)
  have hc := (hl.at (k.toNat - 1) (by omega)).cells 1 _ rfl
  refine K.ian (k.toNat - 1) (by omega) (by omega) ?_
  refine Go1 ?_
  refine K.ld hc ?_
  rw [size_at (by omega) (by omega)]
  generalize l[k.toNat - 1].size = z at hc
  refine Go1 ?_
  refine K.cond (fun h3 => ?_) (fun h3 => ?_)
  · refine Go1 ?_
    rw [if_neg (by omega)]; exact ⟨rfl, trivial⟩
  refine Go1 ?_
  refine K.wrap (by omega) ?_
  refine Go1 ?_
  refine K.ian (k.toNat - 1) (by omega) (by omega) ?_
  refine Go1 ?_
  refine K.ld hc ?_
  refine Go1 ?_
  refine K.cond (fun h4 => ?_) (fun h4 => ?_)
  · refine Go1 ?_
    rw [if_neg (by omega)]; exact ⟨rfl, trivial⟩
  refine Go1 ?_
  refine K.wrap (by omega) ?_
  refine Go1 ?_
  refine K.ian (k.toNat - 1) (by omega) (by omega) ?_
  refine Go1 ?_
  refine K.ld hc ?_
  refine Go1 ?_
  rw [if_pos (by omega)]
  refine ⟨?_, by trivial⟩
  have : z ≠ 0 := by omega
  simp [this]
theorem there_r (k : Int) (v : Value) (l : List Abs.Scalar) (w : World) (hl : Abs.Scalars w v l) :
    Ret Tryz.prog F.decl_there #[.int .i64 k, v] w fun v w' => v = .bool (Abs.there k l) ∧ w' = w := by
  refine K.start hmix E.decl_there (args := [_, _]) (Nat.le_of_ble_eq_true rfl) ?_
  dsimp only [C.decl_there]; refine Yy ?_
  refine Go1 ?_
  refine K.call (size_r k v l w hl) ?_
  rintro _ _ ⟨rfl, rfl⟩
  refine Go1 ?_
  refine K.cond (fun h1 => ?_) (fun h1 => ?_)
  · refine Go1 ?_
    refine ⟨?_, by trivial⟩; simp [Abs.there, h1]
  · refine Go1 ?_
    refine ⟨?_, by trivial⟩; simp [Abs.there, h1]

def seen (l : List ByteArray) : List (ByteArray × Value) := l.map fun x => (x, .bool true)
theorem seen_find (l : List ByteArray) (x : ByteArray) : ((seen l).find? (fun p => decide (x = p.1))).map (·.2) = if x ∈ l then some (.bool true) else none := by
  induction l with
  | nil => rfl
  | cons y l ih =>
    simp only [seen, List.map_cons, List.find?_cons, List.mem_cons]
    by_cases h : x = y
    · simp [h]
    · simp only [h, decide_false, false_or]
      exact ih
set_option maxHeartbeats 2000000 in
theorem named_r (n most : Int) (hn : 0 ≤ n ∧ n ≤ 9223372036854775807) (nm : Nat → ByteArray) (mo : Nat → Int) (f1 f2 : FuncId) (c1 c2 : List Value) (hf1 : okF Tryz.prog f1 = true) (hf2 : okF Tryz.prog f2 = true) (w : World) (ho : OwnIs w)
    (hnm : ∀ i : Nat, i < n → Abs.strOk (nm i))
    (k1 : ∀ (i : Nat) (w' : World), i < n → Ext w w' → Ret Tryz.prog f1 (.int .i64 i :: c1).toArray w' fun v w'' => v = .string (nm i) ∧ Ext w' w'')
    (k2 : ∀ (i : Nat) (w' : World), i < n → Ext w w' → Ret Tryz.prog f2 (.int .i64 i :: c2).toArray w' fun v w'' => v = .int .i64 (mo i) ∧ Ext w' w'') :
    Ret Tryz.prog F.decl_named #[.int .i64 n, .int .i64 most, .func (.func f1) #[] c1.toArray, .func (.func f2) #[] c2.toArray] w
      fun v w' => v = .tuple #[.int .i64 (Abs.first n.toNat (Abs.err most nm mo)).1, .int .i64 (Abs.first n.toNat (Abs.err most nm mo)).2] ∧ Ext w w' := by
  refine K.start hmix E.decl_named (args := [_, _, _, _]) (Nat.le_of_ble_eq_true rfl) ?_
  dsimp only [C.decl_named]; refine Yy ?_
  refine Go1 ?_
  refine K.newM fun w1 b hb he1 hm1 => ?_
  refine Go1 ?_
  refine K.loop (fun S w' => ∃ i : Nat, i ≤ n ∧ S 16 = .int .i64 i ∧ (∀ j, j < i → Abs.err most nm mo j = 0) ∧ Ext w w' ∧
      ∃ es c, w'.heap[b]? = some (.map es c) ∧ KV Value.string es.toList (seen ((List.range i).map nm)))
    (fun S _ => (n - intOf (S 16)).toNat) ⟨0, by omega, by refine Go1 ?_; rfl, fun _ h => absurd h (Nat.not_lt_zero _), he1, _, _, hm1, rfl⟩ ?_
  rintro S w2 hS ⟨i, hi, h16, hz, he, es, c, hm, hkv⟩
  have h0 := hS 0 rfl; have h1 := hS 1 rfl; have h2 := hS 2 rfl; have h3 := hS 3 rfl; have h10 := hS 10 rfl; have h15 := hS 15 rfl; simp only [upd_at, Nat.reduceAdd, Nat.reduceEqDiff, reduceIte, fr0_cons, fr0_nil] at h0 h1 h2 h3 h10 h15; clear hS
  refine Gw (And.intro h0 (And.intro h1 (And.intro h2 (And.intro h3 (And.intro h10 (And.intro h15 h16)))))) ?_
  refine K.cond (fun hlt => ?_) (fun hge => ?_)
  rotate_left
  · refine Go1 ?_
    refine ⟨?_, he⟩
    rw [Abs.first_none fun j hj => hz j (by omega)]
  have stop : ∀ e : Int, Abs.err most nm mo i = e → e ≠ 0 → Abs.first n.toNat (Abs.err most nm mo) = ((i : Int), e) := fun e h hne => by
    rw [Abs.first_stop (by omega) hz (by rw [h]; exact hne), h]
  refine Gw (And.intro h0 (And.intro h1 (And.intro h2 (And.intro h3 (And.intro h10 (And.intro h15 h16)))))) ?_
  refine K.callV (first := []) hf1 (k1 i w2 hlt he) ?_
  rintro _ w3 ⟨rfl, he3⟩
  refine Gw (And.intro h0 (And.intro h1 (And.intro h2 (And.intro h3 (And.intro h10 (And.intro h15 h16)))))) ?_
  refine K.cond (fun ha => ?_) (fun ha => ?_)
  · refine Gw (And.intro h0 (And.intro h1 (And.intro h2 (And.intro h3 (And.intro h10 (And.intro h15 h16)))))) ?_
    refine K.cond (fun h => absurd h (by decide)) (fun _ => ?_)
    refine Go1 ?_
    rw [stop 11 (by simp [Abs.err, ha]) (by decide)]
    exact ⟨rfl, he.trans he3⟩
  refine Gw (And.intro h0 (And.intro h1 (And.intro h2 (And.intro h3 (And.intro h10 (And.intro h15 h16)))))) ?_
  refine K.call (name_r (nm i) w3 (ho.ext (he.trans he3)) (hnm i hlt)) ?_
  rintro _ w4 ⟨rfl, he4⟩
  refine Gw (And.intro h0 (And.intro h1 (And.intro h2 (And.intro h3 (And.intro h10 (And.intro h15 h16)))))) ?_
  refine K.condb (fun hn1 => ?_) (fun hn1 => ?_)
  rotate_left
  · refine Gw (And.intro h0 (And.intro h1 (And.intro h2 (And.intro h3 (And.intro h10 (And.intro h15 h16)))))) ?_
    refine K.cond (fun h => absurd h (by decide)) (fun _ => ?_)
    refine Go1 ?_
    rw [stop 6 (by simp [Abs.err, ha, hn1]) (by decide)]
    exact ⟨rfl, (he.trans he3).trans he4⟩
  refine Gw (And.intro h0 (And.intro h1 (And.intro h2 (And.intro h3 (And.intro h10 (And.intro h15 h16)))))) ?_
  have hm4 : w4.heap[b]? = some (.map es c) := he4.obj (he3.obj hm)
  obtain ⟨r, hr1, hr2⟩ := findNow_kv same_str (nm i) es.toList _ 0 hkv
  rw [seen_find] at hr2
  refine K.lkp (.inr ⟨b, c, rfl, hm4⟩) hr1 ?_
  have hmem : nm i ∈ (List.range i).map nm ↔ ∃ j, j < i ∧ nm j = nm i := by simp
  by_cases hin : ∃ j, j < i ∧ nm j = nm i
  · rw [if_pos (hmem.2 hin)] at hr2
    have hv : lkpV (.bool false) false r = .bool true := by simp [lkpV, hr2]
    rw [hv]
    refine Gw (And.intro h0 (And.intro h1 (And.intro h2 (And.intro h3 (And.intro h10 (And.intro h15 h16)))))) ?_
    refine K.cond (fun h => absurd h (by decide)) (fun _ => ?_)
    refine Go1 ?_
    rw [stop 7 (by simp [Abs.err, ha, hn1, hin]) (by decide)]
    exact ⟨rfl, (he.trans he3).trans he4⟩
  rw [if_neg (fun h => hin (hmem.1 h))] at hr2
  have hr0 : r = none := by cases r <;> simp at hr2 ⊢
  subst hr0
  have hv : lkpV (.bool false) false none = .bool false := rfl
  rw [hv]
  refine Gw (And.intro h0 (And.intro h1 (And.intro h2 (And.intro h3 (And.intro h10 (And.intro h15 h16)))))) ?_
  refine K.callV (first := []) hf2 (k2 i w4 hlt ((he.trans he3).trans he4)) ?_
  rintro _ w5 ⟨rfl, he5⟩
  have herr : Abs.err most nm mo i = mo i := by simp [Abs.err, ha, hn1, hin]
  refine Gw (And.intro h0 (And.intro h1 (And.intro h2 (And.intro h3 (And.intro h10 (And.intro h15 h16)))))) ?_
  refine K.cond (fun h => ?_) (fun h => ?_)
  rotate_left
  · refine Go1 ?_
    rw [stop (mo i) herr h]
    exact ⟨rfl, ((he.trans he3).trans he4).trans he5⟩
  refine Gw (And.intro h0 (And.intro h1 (And.intro h2 (And.intro h3 (And.intro h10 (And.intro h15 h16)))))) ?_
  have hm5 := he5.obj hm4
  refine K.mup hm5 hr1 ?_
  have hs : (setO w5 b (mupO es c (.string (nm i)) (.bool true) none)).heap[b]? = some (mupO es c (.string (nm i)) (.bool true) none) := setO_same (lt_of_heap hm5)
  have he6 : Ext w (setO w5 b (mupO es c (.string (nm i)) (.bool true) none)) := (((he.trans he3).trans he4).trans he5).setO hb _
  generalize setO w5 b (mupO es c (.string (nm i)) (.bool true) none) = w6 at hs he6
  refine Gw (And.intro h0 (And.intro h1 (And.intro h2 (And.intro h3 (And.intro h10 (And.intro h15 h16)))))) ?_
  refine K.wrap (by omega) ?_
  refine Gw (And.intro h0 (And.intro h1 (And.intro h2 (And.intro h3 (And.intro h10 (And.intro h15 h16)))))) ?_
  refine ⟨⟨i + 1, by omega, rfl, fun j hj => ?_, he6, _, _, hs, ?_⟩, by simp [intOf]; omega⟩
  · by_cases h' : j < i
    · exact hz j h'
    · have : j = i := by omega
      subst this; rw [herr, h]
  · have := KV.push hkv (nm i) (.bool true) c
    simpa [seen, List.range_succ] using this
end Go.Proofs.YtnkkichedhhhgaaGreatDoor
end
section
/- What the functions of decl compute: scalars, variables, channels. -/
set_option maxRecDepth 4000
set_option linter.unusedSimpArgs false
set_option maxHeartbeats 1000000
namespace Go.Proofs.YtnkkichedhhhgaaGreatDoor
open Go Go.RowKit Lite

theorem nameAt_lt {α : Type} (f : α → ByteArray) (l : List α) (i : Nat) (h : i < l.length) : Abs.nameAt f l i = f l[i] := by simp [Abs.nameAt, h]
theorem scalars1_r (i : Nat) (b : Nat) (v : Value) (l : List Abs.Scalar) (w : World) (hl : Abs.Scalars w v l) (hb : w.cell? ⟨b, 0, none⟩ = some v) (hi : i < l.length) :
    Ret Tryz.prog F.decl_Scalars_1 #[.int .i64 i, .pointer (some ⟨b, 0, none⟩)] w fun v w' => v = .string (Abs.nameAt (·.name) l i) ∧ Ext w w' := by
  obtain ⟨oa, cap, rfl, hlen⟩ := hl.form
  refine K.start hmix E.decl_Scalars_1 (args := [_, _]) (Nat.le_of_ble_eq_true rfl) ?_
  dsimp only [C.decl_Scalars_1]; refine Yy ?_
  refine Go1 ?_
  refine K.ld hb ?_
  refine Go1 ?_
  obtain ⟨a, rfl⟩ := hl.addr (by omega)
  have hc := (hl.at i hi).cells 0 _ rfl
  refine K.ian i rfl hi ?_
  refine Go1 ?_
  refine K.ld hc ?_
  refine Go1 ?_
  rw [nameAt_lt _ _ _ hi]
  exact ⟨rfl, Ext.refl w⟩
theorem scalars2_r (i : Nat) (b : Nat) (v : Value) (l : List Abs.Scalar) (w : World) (hl : Abs.Scalars w v l) (hb : w.cell? ⟨b, 0, none⟩ = some v) (hi : i < l.length) :
    Ret Tryz.prog F.decl_Scalars_2 #[.int .i64 i, .pointer (some ⟨b, 0, none⟩)] w fun v w' => v = .int .i64 (Abs.scalarErr l i) ∧ Ext w w' := by
  obtain ⟨oa, cap, rfl, hlen⟩ := hl.form
  refine K.start hmix E.decl_Scalars_2 (args := [_, _]) (Nat.le_of_ble_eq_true rfl) ?_
  dsimp only [C.decl_Scalars_2]; refine Yy ?_
  refine Go1 ?_
  refine K.ld hb ?_
  refine Go1 ?_
  obtain ⟨a, rfl⟩ := hl.addr (by omega)
  have hc := (hl.at i hi).cells 1 _ rfl
  have hr : Abs.scalarErr l i = if 1 ≤ l[i].size ∧ l[i].size ≤ 4 then 0 else 10 := by simp [Abs.scalarErr, hi]
  rw [hr]
  generalize l[i].size = z at hc
  refine K.ian i rfl hi ?_
  refine Go1 ?_
  refine K.ld hc ?_
  refine Go1 ?_
  refine K.cond (fun h1 => ?_) (fun h1 => ?_)
  · refine Go1 ?_
    rw [if_neg (by omega)]; exact ⟨rfl, Ext.refl w⟩
  refine Go1 ?_
  refine K.ld hb ?_
  refine Go1 ?_
  refine K.ian i rfl hi ?_
  refine Go1 ?_
  refine K.ld hc ?_
  refine Go1 ?_
  refine K.cond (fun h1 => ?_) (fun h1 => ?_)
  · refine Go1 ?_
    rw [if_neg (by omega)]; exact ⟨rfl, Ext.refl w⟩
  · refine Go1 ?_
    rw [if_pos (by omega)]; exact ⟨rfl, Ext.refl w⟩
theorem scalars_r (v : Value) (l : List Abs.Scalar) (w : World) (ho : OwnIs w) (hl : Abs.Scalars w v l) :
    Ret Tryz.prog F.decl_Scalars #[v] w fun v w' => v = .tuple #[.int .i64 (Abs.scalars l).1, .int .i64 (Abs.scalars l).2] ∧ Ext w w' := by
  obtain ⟨oa, cap, rfl, hlen⟩ := hl.form
  refine K.start hmix E.decl_Scalars (args := [_]) (Nat.le_of_ble_eq_true rfl) ?_
  dsimp only [C.decl_Scalars]; refine Yy ?_
  refine Go1 ?_
  refine K.new fun w1 b hb he1 hc1 => ?_
  have hl1 := SlR.ext Abs.RScalar.ext he1 hl
  have hb1 : w1.cell? ⟨b, 0, none⟩ = some (.slice oa l.length cap) := cell_blk0 hc1 rfl
  refine Go1 ?_
  refine K.ld hb1 ?_
  refine Go1 ?_
  refine K.call (named_r l.length 2 (by omega) (Abs.nameAt (·.name) l) (Abs.scalarErr l) F.decl_Scalars_1 F.decl_Scalars_2 [_] [_] (by kernel_rfl) (by kernel_rfl) w1 (ho.ext he1)
    (fun i hi => by rw [nameAt_lt _ _ _ (by omega)]; obtain ⟨a, rfl⟩ := hl.addr (by omega); exact (hl.at i (by omega)).ok)
    (fun i w' hi he => scalars1_r i b _ l w' (SlR.ext Abs.RScalar.ext he hl1) (he.cell hb1) (by omega))
    (fun i w' hi he => scalars2_r i b _ l w' (SlR.ext Abs.RScalar.ext he hl1) (he.cell hb1) (by omega))) ?_
  rintro _ w2 ⟨rfl, he2⟩
  refine Go1 ?_
  exact ⟨rfl, he1.trans he2⟩

theorem bounds_r (x : Abs.Var) (v : Value) (l : List Abs.Scalar) (w : World) (hl : Abs.Scalars w v l) :
    Ret Tryz.prog F.decl_Bounds #[.agg x.enc.toArray, v] w fun v w' => v = .tuple #[.int .i64 (Abs.bounds x l).1, .int .i64 (Abs.bounds x l).2] ∧ Ext w w' := by
  obtain ⟨oa, cap, rfl, hlen⟩ := hl.form
  refine K.start hmix E.decl_Bounds (args := [_, _]) (Nat.le_of_ble_eq_true rfl) ?_
  dsimp only [C.decl_Bounds]; refine Yy ?_
  refine Go1 ?_
  refine K.new fun w1 b hb he1 hc1 => ?_
  have c1 : w1.cell? (Addr.add ⟨b, 0, none⟩ 1) = some (.int .i64 x.scalar) := cell_blk hc1 rfl
  have c3 : w1.cell? (Addr.add ⟨b, 0, none⟩ 3) = some (.int .i64 x.lo) := cell_blk hc1 rfl
  have c4 : w1.cell? (Addr.add ⟨b, 0, none⟩ 4) = some (.int .i64 x.hi) := cell_blk hc1 rfl
  refine Go1 ?_
  refine K.ld c1 ?_
  refine Go1 ?_
  refine K.cond (fun h1 => ?_) (fun h1 => ?_)
  · refine Go1 ?_
    refine K.ld c3 ?_
    refine Go1 ?_
    refine K.ld c4 ?_
    refine Go1 ?_
    intro w2 he2
    simp only [Abs.bounds, h1, if_true]
    exact ⟨trivial, he1.trans he2⟩
  · refine Go1 ?_
    refine K.ld c1 ?_
    refine Go1 ?_
    refine K.call (size_r x.scalar _ l w1 (SlR.ext Abs.RScalar.ext he1 hl)) ?_
    rintro _ _ ⟨rfl, rfl⟩
    refine Go1 ?_
    simp only [Abs.bounds, h1, if_false]
    exact ⟨trivial, he1⟩
theorem cells_r (x : Abs.Var) (v : Value) (l : List Abs.Scalar) (w : World) (hl : Abs.Scalars w v l) :
    Ret Tryz.prog F.decl_Cells #[.agg x.enc.toArray, v] w fun v w' => v = .int .i64 (Abs.cells x l) ∧ Ext w w' := by
  obtain ⟨oa, cap, rfl, hlen⟩ := hl.form
  refine K.start hmix E.decl_Cells (args := [_, _]) (Nat.le_of_ble_eq_true rfl) ?_
  dsimp only [C.decl_Cells]; refine Yy ?_
  refine Go1 ?_
  refine K.new fun w1 b hb he1 hc1 => ?_
  have c2 : w1.cell? (Addr.add ⟨b, 0, none⟩ 2) = some (.int .i64 x.over) := cell_blk hc1 rfl
  refine Go1 ?_
  refine K.ld c2 ?_
  refine Go1 ?_
  refine K.cond (fun h1 => ?_) (fun h1 => ?_)
  · refine Go1 ?_
    simp only [Abs.cells, h1, if_true]
    exact ⟨trivial, he1⟩
  · refine Go1 ?_
    refine K.ld c2 ?_
    refine Go1 ?_
    refine K.call (size_r x.over _ l w1 (SlR.ext Abs.RScalar.ext he1 hl)) ?_
    rintro _ _ ⟨rfl, rfl⟩
    refine Go1 ?_
    simp only [Abs.cells, h1, if_false]
    exact ⟨trivial, he1⟩
theorem vars1_r (i : Nat) (b : Nat) (v : Value) (l : List Abs.Var) (w : World) (hl : Abs.Vars w v l) (hb : w.cell? ⟨b, 0, none⟩ = some v) (hi : i < l.length) :
    Ret Tryz.prog F.decl_Vars_1 #[.int .i64 i, .pointer (some ⟨b, 0, none⟩)] w fun v w' => v = .string (Abs.nameAt (·.name) l i) ∧ Ext w w' := by
  obtain ⟨oa, cap, rfl, hlen⟩ := hl.form
  refine K.start hmix E.decl_Vars_1 (args := [_, _]) (Nat.le_of_ble_eq_true rfl) ?_
  dsimp only [C.decl_Vars_1]; refine Yy ?_
  refine Go1 ?_
  refine K.ld hb ?_
  refine Go1 ?_
  obtain ⟨a, rfl⟩ := hl.addr (by omega)
  have hc := (hl.at i hi).cells 0 _ rfl
  refine K.ian i rfl hi ?_
  refine Go1 ?_
  refine K.ld hc ?_
  refine Go1 ?_
  rw [nameAt_lt _ _ _ hi]
  exact ⟨rfl, Ext.refl w⟩
theorem vars2_r (i : Nat) (b b2 : Nat) (v v2 : Value) (l : List Abs.Var) (s : List Abs.Scalar) (w : World) (hl : Abs.Vars w v l) (hs : Abs.Scalars w v2 s) (hb : w.cell? ⟨b, 0, none⟩ = some v) (hb2 : w.cell? ⟨b2, 0, none⟩ = some v2)
    (hi : i < l.length) : Ret Tryz.prog F.decl_Vars_2 #[.int .i64 i, .pointer (some ⟨b, 0, none⟩), .pointer (some ⟨b2, 0, none⟩)] w fun v w' => v = .int .i64 (Abs.varErr l s i) ∧ Ext w w' := by
  obtain ⟨oa, cap, rfl, hlen⟩ := hl.form
  obtain ⟨ob, cap2, rfl, hlen2⟩ := hs.form
  refine K.start hmix E.decl_Vars_2 (args := [_, _, _]) (Nat.le_of_ble_eq_true rfl) ?_
  dsimp only [C.decl_Vars_2]; refine Yy ?_
  refine Go1 ?_
  refine K.ld hb ?_
  refine Go1 ?_
  obtain ⟨a, rfl⟩ := hl.addr (by omega)
  have hc := (hl.at i hi).cells
  have hr : Abs.varErr l s i = if Abs.there l[i].scalar s = false ∨ Abs.there l[i].over s = false then 8
    else if (l[i].scalar = 0 ∧ Abs.narrow l[i].lo l[i].hi = false) ∨ l[i].init < (Abs.bounds l[i] s).1 ∨ l[i].init > (Abs.bounds l[i] s).2 then 10 else 0 := by simp [Abs.varErr, hi]
  rw [hr]
  clear hr
  generalize l[i] = x at hc
  refine K.ian i rfl hi ?_
  refine Go1 ?_
  refine K.ldA hc rfl ?_
  refine Go1 ?_
  refine K.new fun w1 q hq he1 hc1 => ?_
  refine Go1 ?_
  refine K.stAb hc1 rfl rfl (by simp [Abs.Var.enc, Value.oneCell']) fun w2 hw hc2 => ?_
  have he2 : Ext w w2 := hw.ext he1 hq
  clear hw hc1 he1 w1
  have c1 : w2.cell? (Addr.add ⟨q, 0, none⟩ 1) = some (.int .i64 x.scalar) := cell_blk hc2 rfl
  have c2 : w2.cell? (Addr.add ⟨q, 0, none⟩ 2) = some (.int .i64 x.over) := cell_blk hc2 rfl
  have c5 : w2.cell? (Addr.add ⟨q, 0, none⟩ 5) = some (.int .i64 x.init) := cell_blk hc2 rfl
  have d2 := he2.cell hb2
  have hs2 := SlR.ext Abs.RScalar.ext he2 hs
  refine Go1 ?_
  refine K.ld c1 ?_
  refine Go1 ?_
  refine K.ld d2 ?_
  refine Go1 ?_
  refine K.call (there_r x.scalar _ s w2 hs2) ?_
  rintro _ _ ⟨rfl, rfl⟩
  refine Go1 ?_
  refine K.condb (fun h1 => ?_) (fun h1 => ?_)
  rotate_left
  · refine Go1 ?_
    simp only [h1, true_or, if_true]; exact ⟨trivial, he2⟩
  refine Go1 ?_
  refine K.ld c2 ?_
  refine Go1 ?_
  refine K.ld d2 ?_
  refine Go1 ?_
  refine K.call (there_r x.over _ s _ hs2) ?_
  rintro _ _ ⟨rfl, rfl⟩
  refine Go1 ?_
  refine K.condb (fun h2 => ?_) (fun h2 => ?_)
  rotate_left
  · refine Go1 ?_
    simp only [h2, or_true, if_true]; exact ⟨trivial, he2⟩
  refine Go1 ?_
  refine K.ldA (cellsAt_blk hc2) rfl ?_
  refine Go1 ?_
  refine K.ld d2 ?_
  refine Go1 ?_
  refine K.call (bounds_r x _ s _ hs2) ?_
  rintro _ w3 ⟨rfl, he3⟩
  rename_i w2'
  have e1 := he3.cell c1
  have e5 := he3.cell c5
  have he := he2.trans he3
  refine Go1 ?_
  refine K.ld e1 ?_
  have hA : ¬ (Abs.there x.scalar s = false ∨ Abs.there x.over s = false) := by simp [h1, h2]
  refine Go1 ?_
  refine K.cond (fun h3 => ?_) (fun h3 => ?_)
  · refine Go1 ?_
    have hbd : Abs.bounds x s = (x.lo, x.hi) := by simp [Abs.bounds, h3]
    rw [hbd]
    refine K.call (narrow_r x.lo x.hi w3) ?_
    rintro _ _ ⟨rfl, rfl⟩
    refine Go1 ?_
    refine K.condb (fun h4 => ?_) (fun h4 => ?_)
    rotate_left
    · refine Go1 ?_
      rw [if_neg hA, if_pos (.inl ⟨h3, h4⟩)]; exact ⟨rfl, he⟩
    refine Go1 ?_
    refine K.ld e5 ?_
    refine Go1 ?_
    refine K.cond (fun h5 => ?_) (fun h5 => ?_)
    · refine Go1 ?_
      rw [if_neg hA, if_pos (.inr (.inl h5))]; exact ⟨rfl, he⟩
    refine Go1 ?_
    refine K.ld e5 ?_
    refine Go1 ?_
    refine K.cond (fun h6 => ?_) (fun h6 => ?_)
    · refine Go1 ?_
      rw [if_neg hA, if_pos (.inr (.inr h6))]; exact ⟨rfl, he⟩
    · refine Go1 ?_
      rw [if_neg hA, if_neg (by rw [h4]; simp; omega)]; exact ⟨rfl, he⟩
  · refine Go1 ?_
    refine K.ld e5 ?_
    refine Go1 ?_
    refine K.cond (fun h5 => ?_) (fun h5 => ?_)
    · refine Go1 ?_
      rw [if_neg hA, if_pos (.inr (.inl h5))]; exact ⟨rfl, he⟩
    refine Go1 ?_
    refine K.ld e5 ?_
    refine Go1 ?_
    refine K.cond (fun h6 => ?_) (fun h6 => ?_)
    · refine Go1 ?_
      rw [if_neg hA, if_pos (.inr (.inr h6))]; exact ⟨rfl, he⟩
    · refine Go1 ?_
      rw [if_neg hA, if_neg (by simp [h3]; omega)]; exact ⟨rfl, he⟩
theorem vars_r (v v2 : Value) (l : List Abs.Var) (s : List Abs.Scalar) (most : Int) (w : World) (ho : OwnIs w) (hl : Abs.Vars w v l) (hs : Abs.Scalars w v2 s) :
    Ret Tryz.prog F.decl_Vars #[v, v2, .int .i64 most] w fun v w' => v = .tuple #[.int .i64 (Abs.vars l s most).1, .int .i64 (Abs.vars l s most).2] ∧ Ext w w' := by
  obtain ⟨oa, cap, rfl, hlen⟩ := hl.form
  obtain ⟨ob, cap2, rfl, hlen2⟩ := hs.form
  refine K.start hmix E.decl_Vars (args := [_, _, _]) (Nat.le_of_ble_eq_true rfl) ?_
  dsimp only [C.decl_Vars]; refine Yy ?_
  refine Go1 ?_
  refine K.new fun w1 b hb he1 hc1 => ?_
  refine Go1 ?_
  refine K.new fun w2 b2 hb2 he2 hc2 => ?_
  have he := he1.trans he2
  have hl1 := SlR.ext Abs.RVar.ext he hl
  have hs1 := SlR.ext Abs.RScalar.ext he hs
  have d1 : w2.cell? ⟨b, 0, none⟩ = some (.slice oa l.length cap) := cell_blk0 (he2.obj hc1) rfl
  have d2 : w2.cell? ⟨b2, 0, none⟩ = some (.slice ob s.length cap2) := cell_blk0 hc2 rfl
  refine Go1 ?_
  refine K.ld d1 ?_
  refine Go1 ?_
  refine K.call (named_r l.length (max most 0) (by omega) (Abs.nameAt (·.name) l) (Abs.varErr l s) F.decl_Vars_1 F.decl_Vars_2 [_] [_, _] (by kernel_rfl) (by kernel_rfl) w2 (ho.ext he)
    (fun i hi => by rw [nameAt_lt _ _ _ (by omega)]; obtain ⟨a, rfl⟩ := hl.addr (by omega); exact (hl.at i (by omega)).ok)
    (fun i w' hi he => vars1_r i b _ l w' (SlR.ext Abs.RVar.ext he hl1) (he.cell d1) (by omega))
    (fun i w' hi he => vars2_r i b b2 _ _ l s w' (SlR.ext Abs.RVar.ext he hl1) (SlR.ext Abs.RScalar.ext he hs1) (he.cell d1) (he.cell d2) (by omega))) ?_
  rintro _ w3 ⟨rfl, he3⟩
  refine Go1 ?_
  exact ⟨rfl, he.trans he3⟩
theorem chans1_r (i : Nat) (b : Nat) (v : Value) (l : List Abs.Chan) (w : World) (hl : Abs.Chans w v l) (hb : w.cell? ⟨b, 0, none⟩ = some v) (hi : i < l.length) :
    Ret Tryz.prog F.decl_Chans_1 #[.int .i64 i, .pointer (some ⟨b, 0, none⟩)] w fun v w' => v = .string (Abs.nameAt (·.name) l i) ∧ Ext w w' := by
  obtain ⟨oa, cap, rfl, hlen⟩ := hl.form
  refine K.start hmix E.decl_Chans_1 (args := [_, _]) (Nat.le_of_ble_eq_true rfl) ?_
  dsimp only [C.decl_Chans_1]; refine Yy ?_
  refine Go1 ?_
  refine K.ld hb ?_
  refine Go1 ?_
  obtain ⟨a, rfl⟩ := hl.addr (by omega)
  have hc := (hl.at i hi).cells 0 _ rfl
  refine K.ian i rfl hi ?_
  refine Go1 ?_
  refine K.ld hc ?_
  refine Go1 ?_
  rw [nameAt_lt _ _ _ hi]
  exact ⟨rfl, Ext.refl w⟩
theorem chans2_r (i : Nat) (b b2 : Nat) (v v2 : Value) (l : List Abs.Chan) (s : List Abs.Scalar) (w : World) (hl : Abs.Chans w v l) (hs : Abs.Scalars w v2 s) (hb : w.cell? ⟨b, 0, none⟩ = some v) (hb2 : w.cell? ⟨b2, 0, none⟩ = some v2)
    (hi : i < l.length) : Ret Tryz.prog F.decl_Chans_2 #[.int .i64 i, .pointer (some ⟨b, 0, none⟩), .pointer (some ⟨b2, 0, none⟩)] w fun v w' => v = .int .i64 (Abs.chanErr l s i) ∧ Ext w w' := by
  obtain ⟨oa, cap, rfl, hlen⟩ := hl.form
  obtain ⟨ob, cap2, rfl, hlen2⟩ := hs.form
  refine K.start hmix E.decl_Chans_2 (args := [_, _, _]) (Nat.le_of_ble_eq_true rfl) ?_
  dsimp only [C.decl_Chans_2]; refine Yy ?_
  refine Go1 ?_
  refine K.ld hb ?_
  refine Go1 ?_
  obtain ⟨a, rfl⟩ := hl.addr (by omega)
  have hc := (hl.at i hi).cells
  have hr : Abs.chanErr l s i = if Abs.there l[i].scalar s = false then 8
    else if l[i].cap < 1 ∨ l[i].cap > 4 ∨ (l[i].scalar = 0 ∧ Abs.narrow l[i].lo l[i].hi = false) then 10 else 0 := by simp [Abs.chanErr, hi]
  rw [hr]
  clear hr
  generalize l[i] = x at hc
  refine K.ian i rfl hi ?_
  refine Go1 ?_
  refine K.ldA hc rfl ?_
  refine Go1 ?_
  refine K.new fun w1 q hq he1 hc1 => ?_
  refine Go1 ?_
  refine K.stAb hc1 rfl rfl (by simp [Abs.Chan.enc, Value.oneCell']) fun w2 hw hc2 => ?_
  have he2 : Ext w w2 := hw.ext he1 hq
  clear hw hc1 he1 w1
  have c1 : w2.cell? (Addr.add ⟨q, 0, none⟩ 1) = some (.int .i64 x.scalar) := cell_blk hc2 rfl
  have c2 : w2.cell? (Addr.add ⟨q, 0, none⟩ 2) = some (.int .i64 x.cap) := cell_blk hc2 rfl
  have c3 : w2.cell? (Addr.add ⟨q, 0, none⟩ 3) = some (.int .i64 x.lo) := cell_blk hc2 rfl
  have c4 : w2.cell? (Addr.add ⟨q, 0, none⟩ 4) = some (.int .i64 x.hi) := cell_blk hc2 rfl
  have d2 := he2.cell hb2
  have hs2 := SlR.ext Abs.RScalar.ext he2 hs
  refine Go1 ?_
  refine K.ld c1 ?_
  refine Go1 ?_
  refine K.ld d2 ?_
  refine Go1 ?_
  refine K.call (there_r x.scalar _ s w2 hs2) ?_
  rintro _ _ ⟨rfl, rfl⟩
  refine Go1 ?_
  refine K.condb (fun h1 => ?_) (fun h1 => ?_)
  rotate_left
  · refine Go1 ?_
    simp only [h1, if_true]; exact ⟨trivial, he2⟩
  have hA : ¬ (Abs.there x.scalar s = false) := by simp [h1]
  refine Go1 ?_
  refine K.ld c2 ?_
  refine Go1 ?_
  refine K.cond (fun h2 => ?_) (fun h2 => ?_)
  · refine Go1 ?_
    rw [if_neg hA, if_pos (.inl h2)]; exact ⟨rfl, he2⟩
  refine Go1 ?_
  refine K.ld c2 ?_
  refine Go1 ?_
  refine K.cond (fun h3 => ?_) (fun h3 => ?_)
  · refine Go1 ?_
    rw [if_neg hA, if_pos (.inr (.inl h3))]; exact ⟨rfl, he2⟩
  refine Go1 ?_
  refine K.ld c1 ?_
  refine Go1 ?_
  refine K.cond (fun h4 => ?_) (fun h4 => ?_)
  · refine Go1 ?_
    refine K.ld c3 ?_
    refine Go1 ?_
    refine K.ld c4 ?_
    refine Go1 ?_
    refine K.call (narrow_r x.lo x.hi _) ?_
    rintro _ _ ⟨rfl, rfl⟩
    refine Go1 ?_
    refine K.condb (fun h5 => ?_) (fun h5 => ?_)
    · refine Go1 ?_
      rw [if_neg hA, if_neg (by rw [h5]; simp; omega)]; exact ⟨rfl, he2⟩
    · refine Go1 ?_
      rw [if_neg hA, if_pos (.inr (.inr ⟨h4, h5⟩))]; exact ⟨rfl, he2⟩
  · refine Go1 ?_
    rw [if_neg hA, if_neg (by simp [h4]; omega)]; exact ⟨rfl, he2⟩
theorem chans_r (v v2 : Value) (l : List Abs.Chan) (s : List Abs.Scalar) (w : World) (ho : OwnIs w) (hl : Abs.Chans w v l) (hs : Abs.Scalars w v2 s) :
    Ret Tryz.prog F.decl_Chans #[v, v2] w fun v w' => v = .tuple #[.int .i64 (Abs.chans l s).1, .int .i64 (Abs.chans l s).2] ∧ Ext w w' := by
  obtain ⟨oa, cap, rfl, hlen⟩ := hl.form
  obtain ⟨ob, cap2, rfl, hlen2⟩ := hs.form
  refine K.start hmix E.decl_Chans (args := [_, _]) (Nat.le_of_ble_eq_true rfl) ?_
  dsimp only [C.decl_Chans]; refine Yy ?_
  refine Go1 ?_
  refine K.new fun w1 b hb he1 hc1 => ?_
  refine Go1 ?_
  refine K.new fun w2 b2 hb2 he2 hc2 => ?_
  have he := he1.trans he2
  have hl1 := SlR.ext Abs.RChan.ext he hl
  have hs1 := SlR.ext Abs.RScalar.ext he hs
  have d1 : w2.cell? ⟨b, 0, none⟩ = some (.slice oa l.length cap) := cell_blk0 (he2.obj hc1) rfl
  have d2 : w2.cell? ⟨b2, 0, none⟩ = some (.slice ob s.length cap2) := cell_blk0 hc2 rfl
  refine Go1 ?_
  refine K.ld d1 ?_
  refine Go1 ?_
  refine K.call (named_r l.length 4 (by omega) (Abs.nameAt (·.name) l) (Abs.chanErr l s) F.decl_Chans_1 F.decl_Chans_2 [_] [_, _] (by kernel_rfl) (by kernel_rfl) w2 (ho.ext he)
    (fun i hi => by rw [nameAt_lt _ _ _ (by omega)]; obtain ⟨a, rfl⟩ := hl.addr (by omega); exact (hl.at i (by omega)).ok)
    (fun i w' hi he => chans1_r i b _ l w' (SlR.ext Abs.RChan.ext he hl1) (he.cell d1) (by omega))
    (fun i w' hi he => chans2_r i b b2 _ _ l s w' (SlR.ext Abs.RChan.ext he hl1) (SlR.ext Abs.RScalar.ext he hs1) (he.cell d1) (he.cell d2) (by omega))) ?_
  rintro _ w3 ⟨rfl, he3⟩
  refine Go1 ?_
  exact ⟨rfl, he.trans he3⟩
end Go.Proofs.YtnkkichedhhhgaaGreatDoor
end
section
/- Whole models: scalars, variables, channels. -/
set_option maxRecDepth 4000
set_option maxHeartbeats 6400000
namespace Go.Proofs.YtnkkichedhhhgaaGreatDoor
open Go Go.RowKit Lite
/-- The names that are taken lie in block bt; a model in box b1. -/
structure TakSt (w0 w : World) (bt b1 : Nat) (cs : List Value) (w' : World) (L : List ByteArray) : Prop where
  ext : Ext w0 w'
  mod : Mod (fun k => k = bt) w w'
  box : w'.heap[b1]? = some (.cells cs.toArray T.api_Model)
  set : SetAt w' bt L
  low : w0.heap.size ≤ bt
  ne : b1 ≠ bt
section
variable {w0 w w' w'' : World} {bt b1 : Nat} {cs : List Value} {L L' : List ByteArray}
theorem TakSt.then (h : TakSt w0 w bt b1 cs w' L) (he : Ext w' w'') : TakSt w0 w bt b1 cs w'' L := ⟨h.ext.trans he, h.mod.trans he.mod, he.obj h.box, h.set.ext he, h.low, h.ne⟩
theorem TakSt.wr (h : TakSt w0 w bt b1 cs w' L) (hw : Wr bt w' w'') (hs : SetAt w'' bt L') : TakSt w0 w bt b1 cs w'' L' := ⟨hw.ext h.ext h.low, h.mod.trans (hw.mod rfl), hw.obj h.box h.ne, hs, h.low, h.ne⟩
theorem TakSt.re (h : TakSt w0 w bt b1 cs w' L) (e : L = L') : TakSt w0 w bt b1 cs w' L' := e ▸ h
end
theorem globals_r {w0 : World} (cs : List Value) (m : Abs.Model) (bt : Nat) (w : World) (h : Abs.ModelIs w0 cs m) (e0 : Ext w0 w) (hbt : w0.heap.size ≤ bt) (ho : OwnIs w0) (hs : SetAt w bt []) :
    RetT Tryz.prog F.model_globals #[.agg cs.toArray, .map (some bt)] w (fun _ w' => (Abs.data m).why = 0 ∧ Ext w0 w' ∧ Mod (fun k => k = bt) w w' ∧ SetAt w' bt (Abs.nSVC m m.chans.length))
      (fun c w' => (Abs.data m).why ≠ 0 ∧ c = thrown (Abs.data m) ∧ Ext w0 w' ∧ Mod (fun k => k = bt) w w') := by
  obtain ⟨o0, c0, o1, c1, o2, c2, o3, c3, o4, c4, rfl, h0, h1, h2, h3, h4, l0, l1, l2, l3, l4⟩ := h.form
  refine K.startT hmix E.model_globals (args := [_, _]) (Nat.le_of_ble_eq_true rfl) ?_; dsimp only [C.model_globals]; refine Yy ?_
  refine Sg ?_
  intro w1 b1 hb1 he1 hc1
  have st1 : TakSt w0 w bt b1 _ w1 [] := ⟨e0.trans he1, he1.mod, hc1, hs.ext he1, hbt, by have := hs.lt; omega⟩
  clear hs
  refine Sg ?_
  refine K.call (scalars_r _ m.scalars w1 (ho.ext st1.ext) (h0.ext st1.ext)) ?_
  rintro _ w2 ⟨rfl, he2⟩
  replace st1 := st1.then he2
  clear hc1
  refine Sg ?_
  refine K.thr (throw_r (Abs.scalars m.scalars).2 1 (Abs.scalars m.scalars).1 0 w2) ?_ ?_
  rotate_left
  · rintro c _ ⟨g, rfl, rfl⟩
    refine Sg ?_
    rw [Abs.data_s g]
    exact ⟨g, rfl, st1.ext, st1.mod⟩
  rintro _ _ ⟨hS, rfl⟩
  have hc1 := st1.box
  refine Sg ?_
  refine K.forG 24 m.scalars.length [1, 2, 22, 23] (fun _ : Unit => []) () (fun k _ w' => TakSt w0 w bt b1 _ w' ((m.scalars.take k).map (·.name))) hZq hZq (st1.re (by simp)) ?_
  clear hc1 he2 st1
  rintro k _ S w3 hk st3
  have hc1 := st3.box
  have e3 := st3.ext
  refine Sg ?_
  refine K.cond (fun g1 => ?_) (fun g1 => ?_)
  · have hk' : k < m.scalars.length := by omega
    obtain ⟨a, rfl⟩ := h0.addr (by omega)
    refine Sg ?_
    intro w4 b3 hb3 he4 hc3
    have st4 := st3.then he4
    refine Sg ?_
    refine K.mupS st4.set fun w5 hw hs5 => ?_
    refine Sg ?_
    exact ⟨hk', by first | trivial | rfl, (), trivial, (st4.wr hw hs5).re (Abs.take_snocN _ _ hk').symm⟩
  replace st3 := st3.re (show _ = Abs.nSV m 0 by rw [List.take_of_length_le (by omega)]; simp)
  refine Sg ?_
  refine K.call (vars_r _ _ m.vars m.scalars 12 w3 (ho.ext e3) (h1.ext e3) (h0.ext e3)) ?_
  rintro _ w4 ⟨rfl, he4⟩
  replace st3 := st3.then he4
  clear hc1 e3
  have hc1 := st3.box
  rw [Abs.vars_eq]
  refine Sg ?_
  refine K.forG 43 m.vars.length [1, 2, 4, 5, 41, 42] (fun _ : Unit => []) () (fun k _ w' => TakSt w0 w bt b1 _ w' (Abs.nSV m k) ∧ ∀ j, j < k → Abs.evar m j = 0) hZq hZq ⟨st3, fun j h => absurd h (Nat.not_lt_zero _)⟩ ?_
  clear hc1 st3 he4
  rintro k _ S' w5 hk ⟨st5, hz⟩
  have hc1 := st5.box
  have e5 := st5.ext
  refine Sg ?_
  refine K.cond (fun g1 => ?_) (fun g1 => ?_)
  · have hk' : k < m.vars.length := by omega
    obtain ⟨a, rfl⟩ := h1.addr (by omega)
    have hnm := Abs.nameAt_get (f := fun x : Abs.Var => x.name) hk'
    refine Sg ?_
    intro wN b9 hb9 heN hcN
    refine Su ?_
    intro w6 hw6 hc6
    have he6 := hw6.ext heN hb9
    have st6 := st5.then he6
    replace hc1 := st6.box
    clear hcN heN
    refine Su ?_
    refine K.cutG [1, 2, 4, 5, 8, 9, 41, 42, 43] (fun _ : Unit => []) (fun _ w' => w' = w6 ∧ Abs.verr m k = 0) ?_ ?_
    · refine Sg ?_
      refine K.cond (fun g2 => ?_) (fun g2 => ?_)
      · refine Sg ?_
        refine K.thr (throw_r (Abs.first m.vars.length (Abs.verr m)).2 2 k 0 w6) ?_ ?_
        · rintro _ _ ⟨h00, rfl⟩
          refine Sg ?_
          exact ⟨(), trivial, by first | trivial | rfl, Abs.first_zero h00 k hk'⟩
        · rintro c _ ⟨h00, rfl, rfl⟩
          obtain ⟨i, hi, e1, e2⟩ := Abs.first_lt h00
          obtain rfl : k = i := by omega
          rw [e2] at h00
          have hev : Abs.evar m k = Abs.verr m k := by unfold Abs.evar; rw [if_pos h00]
          have hd := Abs.data_v hS hk' hz (by rw [hev]; exact h00)
          rw [hev] at hd
          refine Sg ?_
          rw [hd, e2]
          exact ⟨h00, by first | trivial | rfl, st6.ext, st6.mod⟩
      · refine Sg ?_
        refine ⟨(), trivial, by first | trivial | rfl, ?_⟩
        apply Classical.byContradiction
        intro hne
        apply g2
        rw [Abs.first_stop hk' (fun j hj => Abs.verr_of (hz j hj)) hne]
    rintro _ S2 _ ⟨rfl, hv0⟩
    refine Sg ?_
    refine K.thr (take_r bt (Abs.nSV m k) m.vars[k].name 2 k _ st6.set) ?_ ?_
    · rintro _ w7 ⟨hn, hw7, hs7⟩
      refine Sg ?_
      refine ⟨hk', by first | trivial | rfl, (), trivial, (st6.wr hw7 hs7).re (by simp only [Abs.nSV, Abs.nV]; rw [Abs.take_snocN (fun x : Abs.Var => x.name) _ hk', List.append_assoc]), fun j hj => ?_⟩
      by_cases hjk : j = k
      · subst hjk
        unfold Abs.evar
        rw [if_neg (by simpa using hv0), hnm, if_neg hn]
      · exact hz j (by omega)
    · rintro c _ ⟨hn, rfl, rfl⟩
      have hev : Abs.evar m k = 7 := by unfold Abs.evar; rw [if_neg (by simpa using hv0), hnm, if_pos hn]
      have hd := Abs.data_v hS hk' hz (by rw [hev]; decide)
      rw [hev] at hd
      refine Sg ?_
      rw [hd]
      exact ⟨(show (7 : Int) ≠ 0 by decide), by first | trivial | rfl, st6.ext, st6.mod⟩
  have hkv : m.vars.length ≤ k := by omega
  have hV : ∀ j, j < m.vars.length → Abs.evar m j = 0 := fun j hj => hz j (by omega)
  replace st5 := st5.re (show _ = Abs.nSVC m 0 by simp only [Abs.nSVC, Abs.nSV, Abs.nV, Abs.nC]; rw [List.take_of_length_le hkv]; simp)
  refine Sg ?_
  refine K.call (chans_r _ _ m.chans m.scalars w5 (ho.ext e5) (h2.ext e5) (h0.ext e5)) ?_
  rintro _ w6 ⟨rfl, he6⟩
  replace st5 := st5.then he6
  clear hc1 e5
  have hc1 := st5.box
  rw [Abs.chans_eq]
  refine Sg ?_
  refine K.forG 71 m.chans.length [1, 2, 4, 5, 69, 70] (fun _ : Unit => []) () (fun k _ w' => TakSt w0 w bt b1 _ w' (Abs.nSVC m k) ∧ ∀ j, j < k → Abs.echan m j = 0) hZq hZq ⟨st5, fun j h => absurd h (Nat.not_lt_zero _)⟩ ?_
  clear hc1 st5 he6
  rintro k _ S' w7 hk ⟨st7, hz⟩
  have hc1 := st7.box
  have e7 := st7.ext
  refine Sg ?_
  refine K.cond (fun g1 => ?_) (fun g1 => ?_)
  · have hk' : k < m.chans.length := by omega
    obtain ⟨a, rfl⟩ := h2.addr (by omega)
    have hnm := Abs.nameAt_get (f := fun x : Abs.Chan => x.name) hk'
    refine Sg ?_
    intro wN b9 hb9 heN hcN
    refine Su ?_
    intro w6 hw6 hc6
    have he6 := hw6.ext heN hb9
    have st6 := st7.then he6
    replace hc1 := st6.box
    clear hcN heN
    refine Su ?_
    refine K.cutG [1, 2, 4, 5, 10, 11, 69, 70, 71] (fun _ : Unit => []) (fun _ w' => w' = w6 ∧ Abs.cerr m k = 0) ?_ ?_
    · refine Sg ?_
      refine K.cond (fun g2 => ?_) (fun g2 => ?_)
      · refine Sg ?_
        refine K.thr (throw_r (Abs.first m.chans.length (Abs.cerr m)).2 3 k 0 w6) ?_ ?_
        · rintro _ _ ⟨h00, rfl⟩
          refine Sg ?_
          exact ⟨(), trivial, by first | trivial | rfl, Abs.first_zero h00 k hk'⟩
        · rintro c _ ⟨h00, rfl, rfl⟩
          obtain ⟨i, hi, e1, e2⟩ := Abs.first_lt h00
          obtain rfl : k = i := by omega
          rw [e2] at h00
          have hev : Abs.echan m k = Abs.cerr m k := by unfold Abs.echan; rw [if_pos h00]
          have hd := Abs.data_c hS hV hk' hz (by rw [hev]; exact h00)
          rw [hev] at hd
          refine Sg ?_
          rw [hd, e2]
          exact ⟨h00, by first | trivial | rfl, st6.ext, st6.mod⟩
      · refine Sg ?_
        refine ⟨(), trivial, by first | trivial | rfl, ?_⟩
        apply Classical.byContradiction
        intro hne
        apply g2
        rw [Abs.first_stop hk' (fun j hj => Abs.cerr_of (hz j hj)) hne]
    rintro _ S2 _ ⟨rfl, hv0⟩
    refine Sg ?_
    refine K.thr (take_r bt (Abs.nSVC m k) m.chans[k].name 3 k _ st6.set) ?_ ?_
    · rintro _ w7 ⟨hn, hw7, hs7⟩
      refine Sg ?_
      refine ⟨hk', by first | trivial | rfl, (), trivial, (st6.wr hw7 hs7).re (by simp only [Abs.nSVC, Abs.nC]; rw [Abs.take_snocN (fun x : Abs.Chan => x.name) _ hk', List.append_assoc]), fun j hj => ?_⟩
      by_cases hjk : j = k
      · subst hjk
        unfold Abs.echan
        rw [if_neg (by simpa using hv0), hnm, if_neg hn]
      · exact hz j (by omega)
    · rintro c _ ⟨hn, rfl, rfl⟩
      have hev : Abs.echan m k = 7 := by unfold Abs.echan; rw [if_neg (by simpa using hv0), hnm, if_pos hn]
      have hd := Abs.data_c hS hV hk' hz (by rw [hev]; decide)
      rw [hev] at hd
      refine Sg ?_
      rw [hd]
      exact ⟨(show (7 : Int) ≠ 0 by decide), by first | trivial | rfl, st6.ext, st6.mod⟩
  have hkc : m.chans.length ≤ k := by omega
  refine Sg ?_
  refine ⟨by rw [Abs.data_0 hS hV fun j hj => hz j (by omega)]; rfl, st7.ext, st7.mod, (st7.re ?_).set⟩
  simp only [Abs.nSVC, Abs.nC]
  rw [List.take_of_length_le hkc, List.take_of_length_le (Nat.le_refl _)]
end Go.Proofs.YtnkkichedhhhgaaGreatDoor
end
section
/- What every right program says of some declarations. -/
set_option maxRecDepth 100000
set_option linter.unusedSimpArgs false
set_option maxHeartbeats 1000000
namespace Go.Proofs.YtnkkichedhhhgaaGreatDoor
open Go Go.RowKit Lite
def aw1 : List Abs.Var := [⟨⟨#[120]⟩, 0, 0, 0, 3, 0⟩, ⟨⟨#[120]⟩, 0, 0, 0, 0, 0⟩]
def aw2 : List Abs.Var := [⟨⟨#[120]⟩, 0, 0, 0, 256, 0⟩]
end Go.Proofs.YtnkkichedhhhgaaGreatDoor
end
section
/- What the references of layer 12 compute; the law on cells and bounds. -/
set_option maxRecDepth 4000
set_option linter.unusedSimpArgs false
set_option maxHeartbeats 1000000
namespace Go.Proofs.YtnkkichedhhhgaaGreatDoor
open Go Go.RowKit Lite

end Go.Proofs.YtnkkichedhhhgaaGreatDoor
end
section
/- Whole models: how many pieces. -/
set_option maxRecDepth 4000
set_option maxHeartbeats 6400000
namespace Abs
structure Few (m : Model) : Prop where
  v : m.vars.length ≤ 1000000
  c : m.chans.length ≤ 1000000
  p : m.procs.length ≤ 1000000
  i : ∀ p ∈ m.procs, p.vars.length ≤ 1000000 ∧ p.cmds.length ≤ 1000000
def c1 (m : Model) (k : Nat) : Int := sumI ((m.vars.take k).map fun v => cells v m.scalars)
def c2 (m : Model) (k : Nat) : Int := sumI ((m.chans.take k).map ccap)
def i1 (m : Model) (k : Nat) : Int := sumI ((m.procs.take k).map (pinsts m))
def i2 (m : Model) (k : Nat) : Int := sumI ((m.procs.take k).map fun p => pinsts m p * p.cmds.length)
def i3 (m : Model) (k : Nat) : Int := sumI ((m.procs.take k).map fun p => pinsts m p * (1 + p.vars.length))
theorem mem_of_take {α : Type} {l : List α} {k : Nat} {x : α} (h : x ∈ l.take k) : x ∈ l := List.mem_of_mem_take h
theorem c1_le {m : Model} (h : Few m) (k : Nat) : 0 ≤ c1 m k ∧ c1 m k ≤ 4000000 := by
  have := sumI_le (fun v => cells v m.scalars) 4 (by decide) (m.vars.take k) fun v _ => cells_le v _
  have h1 := h.v
  have h2 : (m.vars.take k).length ≤ m.vars.length := by simp; omega
  unfold c1
  omega
theorem c2_le {m : Model} (h : Few m) (k : Nat) : 0 ≤ c2 m k ∧ c2 m k ≤ 5000000 := by
  have := sumI_le ccap 5 (by decide) (m.chans.take k) fun c _ => by have := ccap_le c; omega
  have h1 := h.c
  have h2 : (m.chans.take k).length ≤ m.chans.length := by simp; omega
  unfold c2
  omega
theorem i1_le {m : Model} (h : Few m) (k : Nat) : 0 ≤ i1 m k ∧ i1 m k ≤ 4000000 := by
  have := sumI_le (pinsts m) 4 (by decide) (m.procs.take k) fun p _ => pinsts_le m p
  have h1 := h.p
  have h2 : (m.procs.take k).length ≤ m.procs.length := by simp; omega
  unfold i1
  omega
theorem mul_le {a b : Int} (ha : 0 ≤ a ∧ a ≤ 4) (hb : 0 ≤ b ∧ b ≤ 1000001) : 0 ≤ a * b ∧ a * b ≤ 4000004 := by
  have : a = 0 ∨ a = 1 ∨ a = 2 ∨ a = 3 ∨ a = 4 := by omega
  rcases this with rfl | rfl | rfl | rfl | rfl <;> omega
theorem i2_le {m : Model} (h : Few m) (k : Nat) : 0 ≤ i2 m k ∧ i2 m k ≤ 4000004000000 := by
  have := sumI_le (fun p => pinsts m p * p.cmds.length) 4000004 (by decide) (m.procs.take k) fun p hp => mul_le (pinsts_le m p) (by have := (h.i p (mem_of_take hp)).2; omega)
  have h1 := h.p
  have h2 : (m.procs.take k).length ≤ m.procs.length := by simp; omega
  unfold i2
  omega
theorem i3_le {m : Model} (h : Few m) (k : Nat) : 0 ≤ i3 m k ∧ i3 m k ≤ 4000004000000 := by
  have := sumI_le (fun p => pinsts m p * (1 + p.vars.length)) 4000004 (by decide) (m.procs.take k) fun p hp => mul_le (pinsts_le m p) (by have := (h.i p (mem_of_take hp)).1; omega)
  have h1 := h.p
  have h2 : (m.procs.take k).length ≤ m.procs.length := by simp; omega
  unfold i3
  omega
theorem c1_succ {m : Model} {k : Nat} (h : k < m.vars.length) : c1 m (k + 1) = c1 m k + cells m.vars[k] m.scalars := sumI_take _ _ h
theorem c2_succ {m : Model} {k : Nat} (h : k < m.chans.length) : c2 m (k + 1) = c2 m k + ccap m.chans[k] := sumI_take _ _ h
theorem i1_succ {m : Model} {k : Nat} (h : k < m.procs.length) : i1 m (k + 1) = i1 m k + pinsts m m.procs[k] := sumI_take _ _ h
theorem i2_succ {m : Model} {k : Nat} (h : k < m.procs.length) : i2 m (k + 1) = i2 m k + pinsts m m.procs[k] * m.procs[k].cmds.length := sumI_take _ _ h
theorem i3_succ {m : Model} {k : Nat} (h : k < m.procs.length) : i3 m (k + 1) = i3 m k + pinsts m m.procs[k] * (1 + m.procs[k].vars.length) := sumI_take _ _ h
theorem pieces_eq (m : Model) {a b c : Nat} (ha : m.vars.length ≤ a) (hb : m.chans.length ≤ b) (hc : m.procs.length ≤ c) : pieces m = (i1 m c, i2 m c, c1 m a + c2 m b + i3 m c) := by
  unfold pieces i1 i2 i3 c1 c2
  rw [List.take_of_length_le ha, List.take_of_length_le hb, List.take_of_length_le hc]
end Abs
namespace Go.Proofs.YtnkkichedhhhgaaGreatDoor
open Go Go.RowKit Lite
theorem pieces_r (cs : List Value) (m : Abs.Model) (w : World) (h : Abs.ModelIs w cs m) (hf : Abs.Few m) :
    Ret Tryz.prog F.model_Pieces #[.agg cs.toArray] w fun v w' => v = .tuple #[.int .i64 (Abs.pieces m).1, .int .i64 (Abs.pieces m).2.1, .int .i64 (Abs.pieces m).2.2] ∧ Ext w w' := by
  obtain ⟨o0, c0, o1, c1, o2, c2, o3, c3, o4, c4, rfl, h0, h1, h2, h3, h4, l0, l1, l2, l3, l4⟩ := h.form
  refine K.start hmix E.model_Pieces (args := [_]) (Nat.le_of_ble_eq_true rfl) ?_; dsimp only [C.model_Pieces]; refine Yy ?_
  refine Sg ?_
  intro w1 b1 hb1 he1 hc1
  have hcw := hc1
  clear hc1
  refine Sg ?_
  refine K.forG 18 m.vars.length [1, 5, 6, 16, 17] (fun s : Int => [(7, .int .i64 s)]) 0 (fun k s w' => Ext w1 w' ∧ s = Abs.c1 m k) hZq hZq ⟨Ext.refl _, by simp [Abs.c1, Abs.sumI]⟩ ?_
  rintro k _ S w2 hk ⟨he2, rfl⟩
  have hc1 := he2.obj hcw
  have E2 : ∀ {w'}, Ext w2 w' → Ext w w' := fun e => (he1.trans he2).trans e
  refine Sg ?_
  refine K.cond (fun g1 => ?_) (fun g1 => ?_)
  · have hk' : k < m.vars.length := by omega
    obtain ⟨a, rfl⟩ := h1.addr (by omega)
    have hcv := ((h1.at k hk').cells).ext (E2 (Ext.refl _))
    refine Sg ?_
    intro w3 b3 hb3 he3 hc3
    replace hc1 := he3.obj hc1
    refine Sg ?_
    refine K.call (cells_r m.vars[k] _ m.scalars w3 (h0.ext (E2 he3))) ?_
    rintro _ w4 ⟨rfl, he4⟩
    have q1 := Abs.c1_le hf k
    have q2 := Abs.cells_le m.vars[k] m.scalars
    refine Sg ?_
    exact ⟨hk', by first | trivial | rfl, _, hZq, (he2.trans he3).trans he4, (Abs.c1_succ hk').symm⟩
  have hkv : m.vars.length ≤ k := by omega
  refine Sg ?_
  refine K.forG 32 m.chans.length [1, 5, 6, 30, 31] (fun s : Int => [(7, .int .i64 s)]) (Abs.c1 m k) (fun j s w' => Ext w1 w' ∧ s = Abs.c1 m k + Abs.c2 m j) hZq hZq ⟨he2, by simp [Abs.c2, Abs.sumI]⟩ ?_
  clear hc1 E2
  rintro j _ S' w3 hj ⟨he3, rfl⟩
  have hc1 := he3.obj hcw
  have E3 : ∀ {w'}, Ext w3 w' → Ext w w' := fun e => (he1.trans he3).trans e
  refine Sg ?_
  refine K.cond (fun g2 => ?_) (fun g2 => ?_)
  · have hj' : j < m.chans.length := by omega
    obtain ⟨a, rfl⟩ := h2.addr (by omega)
    have hcv := ((h2.at j hj').cells).ext (E3 (Ext.refl _))
    refine Sg ?_
    intro w4 b3 hb3 he4 hc3
    have q1 := Abs.c1_le hf k
    have q2 := Abs.c2_le hf j
    have q3 := Abs.ccap_le m.chans[j]
    unfold Abs.ccap at q3
    refine Sg ?_
    exact ⟨hj', by first | trivial | rfl, _, hZq, he3.trans he4, by rw [Abs.c2_succ hj']; unfold Abs.ccap; omega⟩
  have hjc : m.chans.length ≤ j := by omega
  refine Sg ?_
  refine K.forG 47 m.procs.length [1, 45, 46] (fun s : Int × Int × Int => [(5, .int .i64 s.1), (6, .int .i64 s.2.1), (7, .int .i64 s.2.2)]) (0, 0, Abs.c1 m k + Abs.c2 m j)
    (fun i s w' => Ext w1 w' ∧ s = (Abs.i1 m i, Abs.i2 m i, Abs.c1 m k + Abs.c2 m j + Abs.i3 m i)) hZq hZq ⟨he3, by simp [Abs.i1, Abs.i2, Abs.i3, Abs.sumI]⟩ ?_
  clear hc1 E3
  rintro i _ S'' w4 hi ⟨he4, rfl⟩
  have hc1 := he4.obj hcw
  have E4 : ∀ {w'}, Ext w4 w' → Ext w w' := fun e => (he1.trans he4).trans e
  refine Sg ?_
  refine K.cond (fun g3 => ?_) (fun g3 => ?_)
  · have hi' : i < m.procs.length := by omega
    obtain ⟨a, rfl⟩ := h3.addr (by omega)
    obtain ⟨_, vv, vc, hp, hpv, hpc⟩ := h3.at i hi'
    obtain ⟨ov, cv, rfl, lv⟩ := hpv.form
    obtain ⟨oc, cc, rfl, lc⟩ := hpc.form
    replace hp := hp.ext (E4 (Ext.refl _))
    have hfi := hf.i _ (List.getElem_mem hi')
    refine Sg ?_
    intro w5 b3 hb3 he5 hc3
    replace hc1 := he5.obj hc1
    refine Sg ?_
    refine K.call (cells_r ⟨⟨#[]⟩, 0, m.procs[i].over, 0, 0, 0⟩ _ m.scalars w5 (h0.ext (E4 he5))) ?_
    rintro _ w6 ⟨rfl, he6⟩
    have hpi : Abs.cells ⟨⟨#[]⟩, 0, m.procs[i].over, 0, 0, 0⟩ m.scalars = Abs.pinsts m m.procs[i] := rfl
    rw [hpi]
    replace hc3 := he6.obj hc3
    have q1 := Abs.c1_le hf k
    have q2 := Abs.c2_le hf j
    have q3 := Abs.i1_le hf i
    have q4 := Abs.i2_le hf i
    have q5 := Abs.i3_le hf i
    have q6 := Abs.pinsts_le m m.procs[i]
    have q7 := Abs.mul_le q6 (b := m.procs[i].cmds.length) (by omega)
    have q8 := Abs.mul_le q6 (b := 1 + m.procs[i].vars.length) (by omega)
    refine Sg ?_
    exact ⟨hi', by first | trivial | rfl, (_, _, _), (by first | exact ⟨rfl, rfl, rfl, trivial⟩ | exact ⟨rfl, rfl, trivial⟩ | (simp -dsimp only [LL,slots_nil,slots_cons,keepV_nil,keepV_cons,has_nil,has_cons,Nat.reduceAdd,Nat.reduceEqDiff,reduceIte,and_self]; exact ⟨rfl, rfl, rfl, trivial⟩) | (simp -dsimp only [LL,slots_nil,slots_cons,keepV_nil,keepV_cons,has_nil,has_cons,Nat.reduceAdd,Nat.reduceEqDiff,reduceIte,and_self]; exact ⟨rfl, rfl, trivial⟩)), (he4.trans he5).trans he6, by rw [Abs.i1_succ hi', Abs.i2_succ hi', Abs.i3_succ hi']; exact Prod.ext rfl (Prod.ext rfl (Int.add_assoc _ _ _))⟩
  have hip : m.procs.length ≤ i := by omega
  refine Sg ?_
  exact ⟨by rw [Abs.pieces_eq m hkv hjc hip], E4 (Ext.refl _)⟩
end Go.Proofs.YtnkkichedhhhgaaGreatDoor
end
section
/- The machine that works expressions off. -/
set_option maxRecDepth 4000
set_option linter.unusedSimpArgs false
set_option maxHeartbeats 4000000
namespace Go.Proofs.YtnkkichedhhhgaaGreatDoor
open Go Go.RowKit Lite

abbrev encI : Int → List Value := fun n => [Value.int .i64 n]
abbrev OwnI (base : Nat) (w : World) (v : Value) (xs : List Int) : Prop := OwR encI T.int 1 base w v xs
structure MachIs (base b : Nat) (w : World) (m : Value) (st : List Int) : Prop where
  ex : ∃ sv, w.heap[b]? = some (.cells #[sv, m] T.expr_machine) ∧ OwnI base w sv st
  lt : b < base
  le : base ≤ w.heap.size
theorem MachIs.ext {base b : Nat} {w w' : World} {m : Value} {st : List Int} (h : MachIs base b w m st) (he : Ext w w') : MachIs base b w' m st :=
  let ⟨sv, h1, h2⟩ := h.ex
  ⟨⟨sv, he.obj h1, h2.ext he⟩, h.lt, Nat.le_trans h.le he.size⟩
theorem getLast_eq (st : List Int) (h : 0 < st.length) : st.getLastD 0 = st[st.length - 1] := by
  rw [List.getLastD_eq_getLast?, List.getLast?_eq_getElem?, List.getElem?_eq_getElem (by omega)]; rfl
theorem top_r (base b : Nat) (w : World) (m : Value) (st : List Int) (h : MachIs base b w m st) (h0 : 0 < st.length) :
    Ret Tryz.prog F.p_expr_machine_top #[.pointer (some ⟨b, 0, none⟩)] w fun v w' => v = .int .i64 (st.getLastD 0) ∧ Ext w w' := by
  obtain ⟨sv, hh, ho⟩ := h.ex
  obtain ⟨oa, cap, rfl, hc, hm⟩ := ho.form
  have hi : Ints w _ st := OwR.slr (enc := encI) (sz := 1) (fun _ => rfl) ho
  obtain ⟨a, rfl⟩ := hi.addr h0
  unfold maxLen at hm
  refine K.start hmix E.p_expr_machine_top (args := [_]) (Nat.le_of_ble_eq_true rfl) ?_
  dsimp only [C.p_expr_machine_top]; refine Yy ?_
  refine St ?_
  refine K.ian (st.length - 1) (by omega) (by omega) ?_
  refine St ?_
  intro w1 he
  refine St ?_
  rw [getLast_eq _ h0]
  (refine ⟨?_, ?_⟩ <;> first | trivial | rfl | (repeat' first | assumption | exact Ext.refl _ | refine Ext.trans ?_ (by assumption)))
/-- What a leaf asks. -/
theorem kleaf_r (x : Abs.Node) (cs : List Value) (s : Abs.Scope) (base b : Nat) (w : World) (m : Value) (st : List Int) (hx : x.ok) (h : Abs.ScopeIs w cs s) (hm : MachIs base b w m st) (h3 : x.op = 3 → 0 < st.length) :
    Ret Tryz.prog F.p_expr_machine_kind #[.pointer (some ⟨b, 0, none⟩), .agg x.enc.toArray, .agg cs.toArray] w fun v w' => v = .tuple #[.int .i64 (Abs.kleaf x s (st.getLastD 0)).1, .int .i64 (Abs.kleaf x s (st.getLastD 0)).2] ∧ Ext w w' := by
  obtain ⟨a0, c0, a1, c1, a2, c2, a3, c3, a4, c4, rfl, q0, q1, q2, q3, q4, l0, l1, l2, l3, l4⟩ := h.form
  refine K.start hmix E.p_expr_machine_kind (args := [_, _, _]) (Nat.le_of_ble_eq_true rfl) ?_
  dsimp only [C.p_expr_machine_kind]; refine Yy ?_
  simp -dsimp only [B9]
  refine Tt ?_
  refine K.new fun w1 b1 hb1 he1 hc1 => ?_
  refine Tt ?_
  refine K.new fun w2 b2 hb2 he2 hc2 => ?_
  have he := he1.trans he2
  have k1 : w2.heap[b1]? = some (.cells #[.int .i64 x.op, .int .i64 x.n] T.api_Node) := he2.obj hc1
  clear hc1
  refine Tt ?_
  simp -dsimp only [B9]
  refine Tt ?_
  refine K.cut (fun S' w' => S' 0 = .pointer (some ⟨b, 0, none⟩) ∧ S' 4 = .pointer (some ⟨b1, 0, none⟩) ∧ S' 5 = .pointer (some ⟨b2, 0, none⟩) ∧ w' = w2 ∧ (x.op = 2 ∨ x.op = 3 ∨ x.op = 4) ∧
    S' 8 = if x.op = 4 then .slice a4 s.locals.length c4 else .slice a1 s.vars.length c1) ?_ ?_
  · refine St ?_
    refine K.cond (fun g1 => ?_) (fun g1 => ?_)
    · refine St ?_
      refine K.call (add_r x.n 0 w2) ?_
      rintro _ w3 ⟨rfl, he3⟩
      have hk : Abs.kleaf x s (st.getLastD 0) = if Abs.within x.n then (0, 0) else (0, 10) := by rw [Abs.kleaf, if_pos g1]
      have ht : (Abs.tell (· + ·) x.n 0).2 = Abs.within x.n := by
        unfold Abs.tell
        have : Abs.within 0 = true := rfl
        simp only [Int.add_zero, this, Bool.and_true, Bool.and_self]
        split <;> simp_all
      rw [hk, ht]
      refine St ?_
      refine K.condb (fun g2 => ?_) (fun g2 => ?_)
      all_goals
        refine St ?_
        rw [g2]
        (refine ⟨?_, ?_⟩ <;> first | trivial | rfl | (repeat' first | assumption | exact Ext.refl _ | refine Ext.trans ?_ (by assumption)))
    refine St ?_
    refine K.cond (fun g4 => ?_) (fun g4 => ?_)
    · refine St ?_
      refine ⟨trivial, trivial, trivial, trivial, .inr (.inr g4), by rw [if_pos g4]⟩
    refine St ?_
    refine K.cond (fun g2 => ?_) (fun g2 => ?_)
    · refine St ?_
      refine ⟨trivial, trivial, trivial, trivial, .inl g2, by rw [if_neg g4]⟩
    refine St ?_
    refine K.cond (fun g3 => ?_) (fun g3 => ?_)
    · refine St ?_
      refine ⟨trivial, trivial, trivial, trivial, .inr (.inl g3), by rw [if_neg g4]⟩
    refine St ?_
    refine K.ldAb (c := [_, _]) k1 (Ext.refl _) rfl ?_
    refine St ?_
    refine K.ldAb (c := [_, _, _, _, _, _]) hc2 (Ext.refl _) rfl ?_
    refine St ?_
    refine K.call (knamed_r x _ s w2 hx (h.ext he)) ?_
    rintro _ w3 ⟨rfl, he3⟩
    refine St ?_
    have hk : Abs.kleaf x s (st.getLastD 0) = Abs.knamed x s := by rw [Abs.kleaf, if_neg g1, if_neg (by omega)]
    rw [hk]
    (refine ⟨?_, ?_⟩ <;> first | trivial | rfl | (repeat' first | assumption | exact Ext.refl _ | refine Ext.trans ?_ (by assumption)))
  · rintro S w' hS ⟨s0, s4, s5, rfl, hop, s8⟩
    have hk : Abs.kleaf x s (st.getLastD 0) = (let q := Abs.kvar (if x.op = 4 then s.locals else s.vars) x.n s; if q.2.2 = false then (0, 8) else if (x.op = 3 ∧ (q.2.1 = 0 ∨ st.getLastD 0 ≠ q.2.1)) ∨ (x.op ≠ 3 ∧ q.2.1 ≠ 0) then (0, 9) else (q.1, 0)) := by
      rw [Abs.kleaf, if_neg (by omega), if_pos hop]
    rw [hk]
    clear hk
    have hv : Abs.Vars w' (S 8) (if x.op = 4 then s.locals else s.vars) := by
      rw [s8]; split
      · exact q4.ext he
      · exact q1.ext he
    generalize (if x.op = 4 then s.locals else s.vars) = l at hv ⊢
    obtain ⟨v8, e8⟩ : ∃ v8, S 8 = v8 := ⟨_, rfl⟩
    rw [e8] at hv
    clear s8
    refine Sw (And.intro s0 (And.intro s4 (And.intro s5 e8))) ?_
    refine K.ldAb (c := [_, _, _, _, _, _]) hc2 (Ext.refl _) rfl ?_
    refine Sw (And.intro s0 (And.intro s4 s5)) ?_
    refine K.call (variable_r _ l x.n _ s w' hv (h.ext he)) ?_
    rintro _ w3 ⟨rfl, he3⟩
    generalize Abs.kvar l x.n s = q
    obtain ⟨qk, qo, qi⟩ := q
    refine Sw (And.intro s0 (And.intro s4 s5)) ?_
    refine K.condb (fun g1 => ?_) (fun g1 => ?_)
    rotate_left
    · refine St ?_
      simp only [g1, if_true]
      (refine ⟨?_, ?_⟩ <;> first | trivial | rfl | (repeat' first | assumption | exact Ext.refl _ | refine Ext.trans ?_ (by assumption)))
    have m3 := (hm.ext he).ext he3
    refine Sw (And.intro s0 (And.intro s4 s5)) ?_
    refine K.cond (fun g2 => ?_) (fun g2 => ?_)
    · refine Sw (And.intro s0 (And.intro s4 s5)) ?_
      refine K.cond (fun g3 => ?_) (fun g3 => ?_)
      · refine Sw (And.intro s0 (And.intro s4 s5)) ?_
        simp only [g1, Bool.true_eq_false, if_false]
        rw [if_pos (.inl ⟨g2, .inl g3⟩)]
        (refine ⟨?_, ?_⟩ <;> first | trivial | rfl | (repeat' first | assumption | exact Ext.refl _ | refine Ext.trans ?_ (by assumption)))
      refine Sw (And.intro s0 (And.intro s4 s5)) ?_
      refine K.call (top_r base b w3 m st m3 (h3 g2)) ?_
      rintro _ w4 ⟨rfl, he4⟩
      refine Sw (And.intro s0 (And.intro s4 s5)) ?_
      refine K.cond (fun g4 => ?_) (fun g4 => ?_)
      · refine Sw (And.intro s0 (And.intro s4 s5)) ?_
        simp only [g1, Bool.true_eq_false, if_false]
        rw [if_neg (by omega)]
        (refine ⟨?_, ?_⟩ <;> first | trivial | rfl | (repeat' first | assumption | exact Ext.refl _ | refine Ext.trans ?_ (by assumption)))
      · refine St ?_
        simp only [g1, Bool.true_eq_false, if_false]
        rw [if_pos (.inl ⟨g2, .inr g4⟩)]
        (refine ⟨?_, ?_⟩ <;> first | trivial | rfl | (repeat' first | assumption | exact Ext.refl _ | refine Ext.trans ?_ (by assumption)))
    · refine Sw (And.intro s0 (And.intro s4 s5)) ?_
      refine K.cond (fun g4 => ?_) (fun g4 => ?_)
      all_goals
        refine St ?_
        simp only [g1, Bool.true_eq_false, if_false]
      · rw [if_neg (by omega)]
        (refine ⟨?_, ?_⟩ <;> first | trivial | rfl | (repeat' first | assumption | exact Ext.refl _ | refine Ext.trans ?_ (by assumption)))
      · rw [if_pos (.inr ⟨g2, g4⟩)]
        (refine ⟨?_, ?_⟩ <;> first | trivial | rfl | (repeat' first | assumption | exact Ext.refl _ | refine Ext.trans ?_ (by assumption)))
end Go.Proofs.YtnkkichedhhhgaaGreatDoor
end
section
/- The machine: one step. -/
set_option maxRecDepth 4000
set_option linter.unusedSimpArgs false
set_option maxHeartbeats 4000000
namespace Go.Proofs.YtnkkichedhhhgaaGreatDoor
open Go Go.RowKit Lite

theorem K.qval {P : Program} {x : Value} {args : List Value} {w : World} {K3 : Value → Prop} {t} (v : Value) (h : ∀ w', Ext w w' → CallVh P x args w' (fun u w'' => u = v ∧ Ext w' w'') ⟨⟩) (hk : K3 v) : QValh P x args w K3 t := by
  unfold QValh
  refine ⟨v, fun w' he => ?_, hk⟩
  have := h w' he
  unfold CallVh at this
  obtain ⟨f, first, cap, e, hf, hr⟩ := this
  exact ⟨f, first, cap, e, hf, hr.mono fun _ _ ⟨h1, h2⟩ => ⟨h1, he.trans h2⟩⟩
theorem DoesR.ext {w w' : World} {v : Value} {g : Int → Int → Int × Bool} (he : Ext w w') (h : DoesR w v g) : DoesR w' v g := by
  rcases h with h | ⟨c, f, p, h1, h2, h3⟩
  · exact .inl h
  · exact .inr ⟨c, f, p, h1, he.obj h2, h3⟩
def stepRes (f : Abs.Node → List Int → Int × Int) (two : Abs.OpD → List Int → Int × Int) (leaf : Abs.Node → List Int → Int × Int) : Prop :=
  ∀ x st, f x st = match Abs.opOf x.op with | some o => two o (st.drop (st.length - o.parts.toNat)) | none => leaf x st
theorem nparts_op {x : Int} {o : Abs.OpD} (h : Abs.opOf x = some o) : 1 ≤ o.parts ∧ o.parts ≤ 2 := by
  unfold Abs.opOf at h
  repeat' split at h
  all_goals first | (cases h; exact ⟨by decide, by decide⟩) | cases h
theorem step_r (f : Abs.Node → List Int → Int × Int) (two : Abs.OpD → List Int → Int × Int) (leaf : Abs.Node → List Int → Int × Int) (hf : stepRes f two leaf)
    (x : Abs.Node) (base b : Nat) (w : World) (m vl v2 : Value) (st : List Int) (hm : MachIs base b w m st) (ho : OpsIs w m) (h24 : st.length ≤ 24)
    (hleaf : 0 ≤ Abs.nparts x.op → Abs.nparts x.op ≤ st.length → Abs.opOf x.op = none → ∀ w' KK t, Ext w w' → (∀ w'', Ext w' w'' → KK (.tuple #[.int .i64 (leaf x st).1, .int .i64 (leaf x st).2]) w'') → CallYh Tryz.prog vl [.agg x.enc.toArray] w' KK t)
    (htwo : ∀ o ov lv w' KK t, Ext w w' → Abs.opOf x.op = some o → OpV w' o ov → o.parts ≤ st.length → Ints w' lv (st.drop (st.length - o.parts.toNat)) →
      (∀ w'', Ext w' w'' → KK (.tuple #[.int .i64 (two o (st.drop (st.length - o.parts.toNat))).1, .int .i64 (two o (st.drop (st.length - o.parts.toNat))).2]) w'') → CallVh Tryz.prog v2 [ov, lv] w' KK t) :
    Ret Tryz.prog F.p_expr_machine_step #[.pointer (some ⟨b, 0, none⟩), .agg x.enc.toArray, vl, v2] w fun v w' =>
      v = .int .i64 (Abs.stepG f x st).1 ∧ Mod (fun k => k = b ∨ base ≤ k) w w' ∧ ((Abs.stepG f x st).1 = 0 → MachIs base b w' m (Abs.stepG f x st).2) := by
  obtain ⟨sv, hh, hown⟩ := hm.ex
  obtain ⟨oa, cap, rfl, hcp, hml⟩ := hown.form
  have hi : Ints w _ st := OwR.slr (enc := encI) (sz := 1) (fun _ => rfl) hown
  unfold maxLen at hml
  refine K.start hmix E.p_expr_machine_step (args := [_, _, _, _]) (Nat.le_of_ble_eq_true rfl) ?_
  dsimp only [C.p_expr_machine_step]; refine Yy ?_
  simp -dsimp only [B9]
  refine Tt ?_
  refine K.new fun w1 b1 hb1 he1 hc1 => ?_
  refine Tt ?_
  simp -dsimp only [B9]
  refine Tt ?_
  refine K.qfn _ (fun w' e => parts_r x.op m w' (ho.ext (he1.trans e))) ?_
  refine Tt ?_
  intro w2 he2
  have he12 := he1.trans he2
  refine Tt ?_
  simp -dsimp only [B9]
  generalize hn : Abs.nparts x.op = n
  have hn2 : -1 ≤ n ∧ n ≤ 2 := by rw [← hn]; unfold Abs.nparts; (repeat' split) <;> omega
  refine St ?_
  refine K.cond (fun g1 => ?_) (fun g1 => ?_)
  · refine St ?_
    have hs : Abs.stepG f x st = (3, st) := by unfold Abs.stepG; rw [hn, if_pos g1]
    rw [hs]
    exact ⟨rfl, he12.mod, fun h => by cases h⟩
  refine St ?_
  refine K.cond (fun g2 => ?_) (fun g2 => ?_)
  · refine St ?_
    have hs : Abs.stepG f x st = (4, st) := by unfold Abs.stepG; rw [hn, if_neg g1, if_pos g2]
    rw [hs]
    exact ⟨rfl, he12.mod, fun h => by cases h⟩
  refine Tt ?_
  simp -dsimp only [B9]
  refine Tt ?_
  simp -dsimp only [B9]
  refine Tt ?_
  have hsg : Abs.stepG f x st = if (f x st).2 ≠ 0 then ((f x st).2, st) else if (st.take (st.length - n.toNat) ++ [(f x st).1]).length > 12 then (12, st) else (0, st.take (st.length - n.toNat) ++ [(f x st).1]) := by
    unfold Abs.stepG; rw [hn, if_neg g1, if_neg g2]
  rw [hsg]
  clear hsg
  have hfx := hf x st
  generalize hr : f x st = r at hfx ⊢
  refine K.cut (fun S' w' => S' 0 = .pointer (some ⟨b, 0, none⟩) ∧ S' 9 = .int .i64 n ∧ S' 10 = .int .i64 r.1 ∧ S' 11 = .int .i64 r.2 ∧ Ext w w') ?_ ?_
  · refine St ?_
    intro w3 he3
    obtain ⟨es, q, j1, j2, j3⟩ := (ho.ext (he12.trans he3)).look x.op
    refine St ?_
    refine K.lkp j1 j2 ?_
    cases hop : Abs.opOf x.op with
    | none =>
      simp only [hop] at j3 hfx
      subst j3
      simp only [lkpV, Option.map_none, Option.getD_none, Option.isSome_none, if_true]
      refine St ?_
      refine K.new fun w4 b4 hb4 he4 hc4 => ?_
      refine ⟨he4, ?_⟩
      refine St ?_
      refine K.stAb (cs := #[.int .i64 0, .int .i64 0, .int .i64 0, .nilFunc]) hc4 rfl rfl (by simp [Value.oneCell']) fun w5 hw5 hc5 => ?_
      have he5 : Ext w3 w5 := hw5.ext he4 hb4
      clear hc4 hw5 he4
      refine St ?_
      refine K.ldAb (c := [_, _]) (he2.obj hc1) (by (repeat' first | assumption | exact Ext.refl _ | refine Ext.trans ?_ (by assumption))) rfl ?_
      refine St ?_
      refine hleaf (by omega) (by omega) hop _ _ _ ((he12.trans he3).trans he5) fun w6 he6 => ?_
      refine St ?_
      rw [hfx]
      exact ⟨trivial, trivial, rfl, rfl, ((he12.trans he3).trans he5).trans he6⟩
    | some o =>
      simp only [hop] at j3 hfx
      obtain ⟨i, ov, rfl, u, rfl, hd⟩ := j3
      obtain ⟨o1, o2⟩ := nparts_op hop
      have on := (Abs.opOf_parts hop).1
      simp only [lkpV, Option.map_some, Option.getD_some, Option.isSome_some, if_true]
      refine St ?_
      refine K.new fun w4 b4 hb4 he4 hc4 => ?_
      refine ⟨he4, ?_⟩
      refine St ?_
      refine K.stAb (cs := #[.int .i64 o.parts, .int .i64 o.takes, .int .i64 o.makes, u]) hc4 rfl rfl (by rcases hd with ⟨f, rfl, _⟩ | ⟨c, f, p, rfl, _⟩ <;> simp [Value.oneCell']) fun w5 hw5 hc5 => ?_
      have he5 : Ext w3 w5 := hw5.ext he4 hb4
      clear hc4 hw5 he4
      have he35 := (he12.trans he3).trans he5
      have hd5 : OpV w3 o (.agg #[.int .i64 o.parts, .int .i64 o.takes, .int .i64 o.makes, u]) := ⟨u, rfl, hd⟩
      obtain ⟨p, rfl⟩ := Int.eq_ofNat_of_zero_le (show 0 ≤ n by omega)
      have hp : o.parts.toNat = p := by omega
      refine St ?_
      refine K.ldAb (c := [_, _, _, _]) hc5 (Ext.refl _) rfl ?_
      refine St ?_
      refine K.slcD (st.length - p) (by simp -dsimp only [LL,B9,Nat.reduceAdd,Nat.reduceEqDiff,reduceIte,reduceCtorEq,Bool.false_eq_true]; rw [Int.ofNat_sub (by omega)]) ⟨by omega, by omega⟩ ?_
      have ht := hi.tail (st.length - p) (by omega)
      rw [hp] at hfx
      refine St ?_
      refine K.qval _ (fun w' e => htwo o _ _ w' _ _ (he35.trans e) hop ⟨u, rfl, hd.ext (he5.trans e)⟩ (by omega) (by rw [hp]; exact ht.ext Flat.ext (he35.trans e)) fun w'' e2 => ⟨rfl, e2⟩) ?_
      refine St ?_
      intro w6 he6
      refine St ?_
      rw [hfx, hp]
      exact ⟨trivial, trivial, rfl, rfl, he35.trans he6⟩
  · clear hc1 he1 he2 he12
    rintro S w3 hS ⟨s0, s9, s10, s11, he3⟩
    simp -dsimp only [B9]
    refine Sw (And.intro s0 (And.intro s9 (And.intro s10 s11))) ?_
    refine K.cond (fun g3 => ?_) (fun g3 => ?_)
    rotate_left
    · refine Sw s11 ?_
      rw [if_pos g3]
      exact ⟨rfl, he3.mod, fun h => absurd h g3⟩
    obtain ⟨p, rfl⟩ := Int.eq_ofNat_of_zero_le (show 0 ≤ n by omega)
    have g3' : ¬ r.2 ≠ 0 := by simpa using g3
    rw [if_neg g3']
    have hml : (st.take (st.length - p) ++ [r.1]).length = st.length - p + 1 := by simp [List.length_take]
    have hm3 := hm.ext he3
    have ho3 : OwnI base w3 (.slice oa st.length cap) st := hown.ext he3
    refine Tt ?_
    simp -dsimp only [B9]
    refine Sw (And.intro s0 (And.intro s9 (And.intro s10 s11))) ?_
    intro w4 he4
    have ho4 : OwnI base w4 (.slice oa st.length cap) st := ho3.ext he4
    refine Sw (And.intro s0 (And.intro s9 (And.intro s10 s11))) ?_
    refine K.slcT (st.length - p) (by simp -dsimp only [LL,B9,Nat.reduceAdd,Nat.reduceEqDiff,reduceIte,reduceCtorEq,Bool.false_eq_true]; rw [Int.ofNat_sub (by omega)]) (by omega) ?_
    refine Sw (And.intro s0 (And.intro s9 (And.intro s10 s11))) ?_
    refine K.bldSa (cs := [r.1].flatMap encI) (by simp [List.range, List.range.loop, fillC, lay, ev_tmp, upd_at, Value.cells, encI]) fun w5 b5 hb5 he5 hc5 => ?_
    refine ⟨he5, ?_⟩
    refine St ?_
    have ho5 : OwnI base w5 (.slice oa (st.length - p) cap) (st.take (st.length - p)) := OwR.head (enc := encI) (sz := 1) (xs := st) (fun _ => rfl) (OwR.ext he5 ho4) (st.length - p) (Nat.sub_le _ _)
    have hlt : (st.take (st.length - p)).length = st.length - p := by simp [List.length_take]
    have q8 : ((st.take (st.length - p)).length + [r.1].length) * 8 ≤ 140737488355328 := by rw [hlt]; simp only [List.length_cons, List.length_nil]; omega
    have q63 : (st.take (st.length - p)).length + [r.1].length ≤ maxLen := by rw [hlt]; simp only [List.length_cons, List.length_nil, maxLen]; omega
    have q1 : ∀ y, ∀ u ∈ encI y, u.oneCell' = true := fun y u h => by simp [encI] at h; subst h; rfl
    refine K.appO (xs := st.take (st.length - p)) (ys := [r.1]) ho5 (fun _ => rfl) (cellsAt_blk hc5) rfl q1 q8 q63 (by have := hm.le; have := he3.size; have := he4.size; have := he5.size; omega) fun v6 w6 ho6 hg6 => ?_
    have hb5' : w5.heap[b]? = some (.cells #[.slice oa st.length cap, m] T.expr_machine) := he5.obj (he4.obj (he3.obj hh))
    have hb6 : w6.heap[b]? = some (.cells #[.slice oa st.length cap, m] T.expr_machine) := by
      refine (hg6.block b (lt_of_heap hb5') fun e => ?_).trans hb5'
      have := (ho5.lt b e.symm).1
      have := hm.lt
      omega
    refine St ?_
    refine K.st1 hb6 (by simp) (by obtain ⟨oa, cap, e, _⟩ := ho6.form; rw [e]; rfl) fun w7 hw7 hc7 => ?_
    have hmod : Mod (fun k => k = b ∨ base ≤ k) w w7 :=
      (((he3.trans he4).trans he5).mod.trans (Mod.grown hg6 fun k hk => .inr (ho5.lt k hk).1)).trans (hw7.mod (.inl rfl))
    have hm7 : MachIs base b w7 m (st.take (st.length - p) ++ [r.1]) :=
      ⟨⟨v6, hc7, ho6.wr hw7 hm.lt⟩, hm.lt, Nat.le_trans hm.le hmod.size⟩
    obtain ⟨oa6, cap6, rfl, hc6, _⟩ := ho6.form
    rw [hml]
    have hl6 : ((st.take (st.length - p) ++ [r.1]).length : Int) = st.length - p + 1 := by rw [hml]; omega
    refine Sw (And.intro s0 (And.intro s9 (And.intro s10 s11))) ?_
    refine K.cond (fun g4 => ?_) (fun g4 => ?_)
    · refine St ?_
      simp only [Int.toNat_natCast, hml]
      rw [if_pos (by omega)]
      exact ⟨rfl, hmod, fun h => by cases h⟩
    · refine St ?_
      simp only [Int.toNat_natCast, hml]
      rw [if_neg (by omega)]
      exact ⟨rfl, hmod, fun _ => hm7⟩
end Go.Proofs.YtnkkichedhhhgaaGreatDoor
end
section
/- The machine: all steps; the kind of an expression. -/
set_option maxRecDepth 4000
set_option linter.unusedSimpArgs false
set_option maxHeartbeats 4000000
namespace Go.Proofs.YtnkkichedhhhgaaGreatDoor
open Go Go.RowKit Lite

theorem run_r (f : Abs.Node → List Int → Int × Int) (two : Abs.OpD → List Int → Int × Int) (leaf : Abs.Node → List Int → Int × Int) (hf : stepRes f two leaf) (good : Int → Prop)
    (b : Nat) (w0 w : World) (hw0 : Ext w0 w) (hb0 : w0.heap.size ≤ b) (ve vl v2 : Value) (e : List Abs.Node) (he : Abs.Nodes w0 ve e) (hb : w.heap[b]? = some (.cells #[.slice none 0 0, .map none] T.expr_machine))
    (hgood : ∀ x st, x.ok → (∀ z ∈ st, good z) → 0 ≤ Abs.nparts x.op → Abs.nparts x.op ≤ st.length → (f x st).2 = 0 → good (f x st).1)
    (hleaf : ∀ x st base m w', x.ok → Mod (fun k => k = b) w w' → MachIs base b w' m st → (∀ z ∈ st, good z) → 0 ≤ Abs.nparts x.op → Abs.nparts x.op ≤ st.length → Abs.opOf x.op = none → ∀ w1 KK t, Ext w' w1 →
      (∀ w'', Ext w1 w'' → KK (.tuple #[.int .i64 (leaf x st).1, .int .i64 (leaf x st).2]) w'') → CallYh Tryz.prog vl [.agg x.enc.toArray] w1 KK t)
    (htwo : ∀ o ov lv l w' KK t, Mod (fun k => k = b) w w' → OpV w' o ov → (∃ x, Abs.opOf x = some o) → o.parts = l.length → Ints w' lv l →
      (∀ w'', Ext w' w'' → KK (.tuple #[.int .i64 (two o l).1, .int .i64 (two o l).2]) w'') → CallVh Tryz.prog v2 [ov, lv] w' KK t) :
    Ret Tryz.prog F.p_expr_machine_run #[.pointer (some ⟨b, 0, none⟩), ve, vl, v2] w fun v w' =>
      v = .tuple #[.int .i64 (Abs.runE f e).1, .int .i64 (Abs.runE f e).2] ∧ Mod (fun k => k = b) w w' := by
  obtain ⟨oa, cap, rfl, hlen⟩ := he.form
  refine K.start hmix E.p_expr_machine_run (args := [_, _, _, _]) (Nat.le_of_ble_eq_true rfl) ?_
  dsimp only [C.p_expr_machine_run]; refine Yy ?_
  refine St ?_
  refine K.cond (fun g1 => ?_) (fun g1 => ?_)
  · refine St ?_
    rw [Abs.runE, if_pos (by omega)]
    exact ⟨rfl, Mod.refl _ _⟩
  refine St ?_
  refine K.cond (fun g2 => ?_) (fun g2 => ?_)
  · refine St ?_
    rw [Abs.runE, if_neg (by omega), if_pos (by omega)]
    exact ⟨rfl, Mod.refl _ _⟩
  refine St ?_
  refine K.call (ops_r w) ?_
  rintro m w1 ⟨hops, he1⟩
  refine St ?_
  refine K.st1 (he1.obj hb) (by decide) (by obtain ⟨r, _, _, _, e, _⟩ := hops; rw [e]; rfl) fun w2 hw2 hc2 => ?_
  have hc2' : w2.heap[b]? = some (.cells #[.slice none 0 0, m] T.expr_machine) := hc2
  clear hc2
  have hops2 : OpsIs w2 m := hops.mod (A := fun k => k = b) (hw2.mod rfl) fun k o h1 h2 hk => by
    subst hk
    rw [he1.obj hb] at h1
    injection h1 with h1
    rcases h2 with ⟨es, c, h2⟩ | ⟨cs, h2⟩
    · rw [h2] at h1; cases h1
    · rw [h2] at h1
      injection h1 with _ h1
      cases h1
  have hm02 : Mod (fun k => k = b) w w2 := he1.mod.trans (hw2.mod rfl)
  have hlt : b < w2.heap.size := lt_of_heap hc2'
  refine St ?_
  refine K.for1 27 e.length (fun k S w' => Mod (fun k => k = b) w2 w' ∧ ∃ st, Abs.runL f (e.take k) [] = (0, st) ∧ MachIs w2.heap.size b w' m st ∧ (0 < k → 1 ≤ st.length) ∧ st.length ≤ 12 ∧ ∀ z ∈ st, good z)
    (by simp -dsimp only [LL,B9,Nat.reduceAdd,Nat.reduceEqDiff,reduceIte,reduceCtorEq,Bool.false_eq_true]) ⟨Mod.refl _ _, [], by simp [Abs.runL], ⟨⟨_, hc2', OwR.nil _ _ _ _ _⟩, hlt, Nat.le_refl _⟩, by simp, by simp, by simp⟩ ?_
  rintro k S w3 hS hk h27 ⟨hmod, st, hrun, hmach, h1st, h12, hgd⟩
  have h0 := hS 0 rfl; have h1 := hS 1 rfl; have h2 := hS 2 rfl; have h3 := hS 3 rfl; have h25 := hS 25 rfl; have h26 := hS 26 rfl; simp only [upd_at, Nat.reduceAdd, Nat.reduceEqDiff, reduceIte, fr0_cons, fr0_nil] at h0 h1 h2 h3 h25 h26; clear hS
  have hm03 : Mod (fun k => k = b) w w3 := hm02.trans hmod
  refine Sw (And.intro h0 (And.intro h1 (And.intro h2 (And.intro h3 (And.intro h25 (And.intro h26 h27)))))) ?_
  refine K.cond (fun g3 => ?_) (fun g3 => ?_)
  · have hk' : k < e.length := by omega
    have h03 : Ext w0 w3 := hm03.ext hw0 fun q hq e => by omega
    obtain ⟨a, rfl⟩ := he.addr (by omega)
    have hxk := (he.at k hk').ok
    have hrs := fun h0 => Abs.runE_err (f := f) (e := e) (by omega) hk' hrun h0
    have hrn := Abs.runL_step hk' hrun
    have hops3 : OpsIs w3 m := hops2.mod (A := fun k => k = b) hmod fun k o h1 h2 hk => by
      subst hk
      rw [hc2'] at h1
      injection h1 with h1
      rcases h2 with ⟨es, c, h2⟩ | ⟨cs, h2⟩
      · rw [h2] at h1; cases h1
      · rw [h2] at h1
        injection h1 with _ h1
        cases h1
    refine Sw (And.intro h0 (And.intro h1 (And.intro h2 (And.intro h3 (And.intro h25 (And.intro h26 h27)))))) ?_
    generalize hx : e[k] = x at *
    refine K.newst (vs := x.enc) (fun _ => by simp -dsimp only [LL,B9,Nat.reduceAdd,Nat.reduceEqDiff,reduceIte,reduceCtorEq,Bool.false_eq_true]) rfl rfl (by simp [Abs.Node.enc, Value.oneCell']) fun w4 b4 hb4 he4 hc4 => ?_
    refine Sw (And.intro h0 (And.intro h1 (And.intro h2 (And.intro h3 (And.intro h25 (And.intro h26 h27)))))) ?_
    refine K.ldAb (c := x.enc) hc4 (Ext.refl _) rfl ?_
    refine Sw (And.intro h0 (And.intro h1 (And.intro h2 (And.intro h3 (And.intro h25 (And.intro h26 h27)))))) ?_
    have hm04 : Mod (fun k => k = b) w w4 := hm03.trans he4.mod
    refine K.call (step_r f two leaf hf x w2.heap.size b w4 m vl v2 st (hmach.ext he4) (hops3.ext he4) (by omega)
      (fun q1 q2 q3 w' KK t hw' hk => hleaf x st _ m w4 hxk hm04 (hmach.ext he4) hgd q1 q2 q3 w' KK t hw' hk)
      (fun o ov lv w' KK t hw' q1 q2 q3 q4 hk => htwo o ov lv _ w' KK t (hm04.trans hw'.mod) q2 ⟨_, q1⟩ (by have := nparts_op q1; simp [List.length_drop]; omega) q4 hk)) ?_
    rintro _ w5 ⟨rfl, hm5, hst5⟩
    have hm05 : Mod (fun k => k = b) w w5 := hm04.then hm5 fun i hi h => by
      rcases h with h | h
      · exact h
      · have := hm02.size; omega
    refine Sw (And.intro h0 (And.intro h1 (And.intro h2 (And.intro h3 (And.intro h25 (And.intro h26 h27)))))) ?_
    refine K.cond (fun g4 => ?_) (fun g4 => ?_)
    rotate_left
    · refine Sw (And.intro h0 (And.intro h1 (And.intro h2 (And.intro h3 (And.intro h25 (And.intro h26 h27)))))) ?_
      rw [hrs g4]
      exact ⟨by first | trivial | rfl, hm05⟩
    have hlen5 := Abs.step_len g4
    have hgood5 : ∀ z ∈ (Abs.stepG f x st).2, good z := by
      have hg := hgood x st hxk hgd
      clear hrs hrn hlen5 hst5
      unfold Abs.stepG at g4 ⊢
      by_cases q1 : Abs.nparts x.op < 0
      · rw [if_pos q1] at g4; cases g4
      by_cases q2 : (st.length : Int) < Abs.nparts x.op
      · rw [if_neg q1, if_pos q2] at g4; cases g4
      by_cases q3 : (f x st).2 ≠ 0
      · rw [if_neg q1, if_neg q2, if_pos q3] at g4; exact absurd g4 q3
      by_cases q4 : (st.take (st.length - (Abs.nparts x.op).toNat) ++ [(f x st).1]).length > 12
      · rw [if_neg q1, if_neg q2, if_neg q3, if_pos q4] at g4; cases g4
      rw [if_neg q1, if_neg q2, if_neg q3, if_neg q4]
      intro z hz
      rcases List.mem_append.1 hz with hz | hz
      · exact hgd z (List.mem_of_mem_take hz)
      · simp at hz; subst hz; exact hg (by omega) (by omega) (by simpa using q3)
    refine Sw (And.intro h0 (And.intro h1 (And.intro h2 (And.intro h3 (And.intro h25 (And.intro h26 h27)))))) ?_
    refine ⟨hk', by first | trivial | rfl, ?_, (Abs.stepG f x st).2, ?_, hst5 g4, fun _ => hlen5.1, hlen5.2, hgood5⟩
    · refine (hmod.trans he4.mod).then hm5 fun i hi h => ?_
      rcases h with h | h
      · exact h
      · omega
    · rw [hrn]; exact Prod.ext g4 rfl
  · have hk' : k = e.length := by omega
    subst hk'
    rw [List.take_length] at hrun
    obtain ⟨sv, hh, hown⟩ := hmach.ex
    obtain ⟨oa', cap', rfl, hcp, hml⟩ := hown.form
    have hi : Ints w3 _ st := OwR.slr (enc := encI) (sz := 1) (fun _ => rfl) hown
    have h1 := h1st (by omega)
    obtain ⟨a, rfl⟩ := hi.addr h1
    have hE : Abs.runE f e = if st.length > 1 then (0, 5) else (st.headD 0, 0) := by
      rw [Abs.runE, if_neg (by omega), if_neg (by omega), hrun, if_neg (by simp)]
    rw [hE]
    clear hE
    refine Sw (And.intro h0 (And.intro h1 (And.intro h2 (And.intro h3 (And.intro h25 (And.intro h26 h27)))))) ?_
    refine K.cond (fun g4 => ?_) (fun g4 => ?_)
    · refine St ?_
      rw [if_pos (by omega)]
      exact ⟨rfl, hm03⟩
    · refine Sw (And.intro h0 (And.intro h1 (And.intro h2 (And.intro h3 (And.intro h25 (And.intro h26 h27)))))) ?_
      refine K.ian 0 rfl (by omega) ?_
      refine St ?_
      rw [if_neg (by omega)]
      have : st.headD 0 = st[0] := by
        cases st with
        | nil => simp at h1
        | cons z st => rfl
      rw [this]
      exact ⟨by first | trivial | rfl, hm03⟩
/-- The kinds that an operation is given. -/
theorem ktwo_r (o : Abs.OpD) (u lv : Value) (l : List Int) (w : World) (hl : Ints w lv l) :
    Ret Tryz.prog F.expr_Kind_2 #[.agg #[.int .i64 o.parts, .int .i64 o.takes, .int .i64 o.makes, u], lv] w fun v w' => v = .tuple #[.int .i64 (Abs.ktwo o l).1, .int .i64 (Abs.ktwo o l).2] ∧ Ext w w' := by
  obtain ⟨oa, cap, rfl, hlen⟩ := hl.form
  refine K.start hmix E.expr_Kind_2 (args := [_, _]) (Nat.le_of_ble_eq_true rfl) ?_
  dsimp only [C.expr_Kind_2]; refine Yy ?_
  refine St ?_
  refine K.new fun w1 b hb he1 hc1 => ?_
  refine St ?_
  refine K.for1 10 l.length (fun k S w' => w' = w1 ∧ (l.take k).all (fun k => (decide (o.takes = -1) || decide (k = o.takes)) && decide (k = l.headD 0)) = true) (by simp -dsimp only [LL,B9,Nat.reduceAdd,Nat.reduceEqDiff,reduceIte,reduceCtorEq,Bool.false_eq_true]) ⟨rfl, by simp⟩ ?_
  rintro k S w2 hS hk h10 ⟨rfl, hall⟩
  have h1 := hS 1 rfl; have h2 := hS 2 rfl; have h8 := hS 8 rfl; have h9 := hS 9 rfl; simp only [upd_at, Nat.reduceAdd, Nat.reduceEqDiff, reduceIte, fr0_cons, fr0_nil] at h1 h2 h8 h9; clear hS
  refine Sw (And.intro h1 (And.intro h2 (And.intro h8 (And.intro h9 h10)))) ?_
  refine K.cond (fun g1 => ?_) (fun g1 => ?_)
  rotate_left
  · rw [List.take_of_length_le (by omega)] at hall
    refine Sw (And.intro h1 (And.intro h2 (And.intro h8 (And.intro h9 h10)))) ?_
    rw [Abs.ktwo, if_pos hall]
    (refine ⟨?_, ?_⟩ <;> first | trivial | rfl | (repeat' first | assumption | exact Ext.refl _ | refine Ext.trans ?_ (by assumption)))
  have hk' : k < l.length := by omega
  obtain ⟨a, rfl⟩ := hl.addr (by omega)
  have hsp : l.take (k + 1) = l.take k ++ [l[k]] := List.take_succ_eq_append_getElem hk'
  have hall2 := List.all_append (xs := l.take (k + 1)) (ys := l.drop (k + 1)) (f := fun k => (decide (o.takes = -1) || decide (k = o.takes)) && decide (k = l.headD 0))
  rw [List.take_append_drop, hsp, List.all_append] at hall2
  have h0 : l.headD 0 = l[0] := by
    cases l with
    | nil => simp at hk'
    | cons z l => rfl
  have hbad : ((decide (o.takes = -1) || decide (l[k] = o.takes)) && decide (l[k] = l.headD 0)) = false → Abs.ktwo o l = (0, 9) := by
    intro h
    rw [Abs.ktwo, if_neg (by rw [hall2]; simp only [List.all_cons, List.all_nil, h]; simp)]
  have hgood : ((decide (o.takes = -1) || decide (l[k] = o.takes)) && decide (l[k] = l.headD 0)) = true → (l.take (k + 1)).all (fun k => (decide (o.takes = -1) || decide (k = o.takes)) && decide (k = l.headD 0)) = true := by
    intro h
    rw [hsp, List.all_append, hall]
    simp only [List.all_cons, List.all_nil, h]; rfl
  rw [h0] at hbad
  clear hall2
  have hp : 0 < l.length := by omega
  have hl1 : Ints w2 (.slice (some a) l.length cap) l := hl.ext he1
  have hg0 := hgood
  rw [h0] at hgood hall
  (repeat' first
 | (refine K.cond (fun _ => ?_) (fun _ => ?_) <;> try (exfalso; omega))
 | (refine K.condb (fun _ => ?_) (fun _ => ?_))
 | assumption
 | exact Ext.refl _
 | refine Ext.trans ?_ (by assumption)
 | refine K.wrap (by omega) ?_
 | refine K.ldb (by assumption) ?_ rfl ?_
 | refine K.ldb0 (by assumption) ?_ rfl ?_
 | refine K.ldE (by assumption) ?_ (by omega) rfl ?_
 | refine K.ldE0 (by assumption) ?_ (by omega) rfl ?_
 | refine K.ldAE (by assumption) ?_ (by omega) rfl ?_
 | refine K.iaC (by omega) ?_
 | refine K.condT (by first | assumption | omega) ?_
 | refine K.condF (by first | assumption | omega) ?_
 | refine K.condbT (by assumption) ?_
 | refine K.condbF (by assumption) ?_
 | simp -dsimp only [LL,B9,Nat.reduceAdd,Nat.reduceEqDiff,reduceIte,reduceCtorEq,Bool.false_eq_true,h1, h2, h8, h9, h10])
  all_goals first
    | (have hh := hbad (by simp; omega); rw [hh]; refine ⟨by first | trivial | rfl, he1⟩)
    | (refine ⟨by omega, by first | trivial | rfl, trivial, ?_⟩; rw [h0]; exact hgood (by simp; omega))
theorem kind1_r (x : Abs.Node) (cs : List Value) (s : Abs.Scope) (base b pm ps : Nat) (w : World) (m : Value) (st : List Int) (tm : TypeId) (hx : x.ok) (h : Abs.ScopeIs w cs s) (hm : MachIs base b w m st) (h3 : x.op = 3 → 0 < st.length)
    (hpm : w.heap[pm]? = some (.cells #[.pointer (some ⟨b, 0, none⟩)] tm)) (hps : w.heap[ps]? = some (.cells cs.toArray T.api_Scope)) :
    Ret Tryz.prog F.expr_Kind_1 #[.agg x.enc.toArray, .pointer (some ⟨pm, 0, none⟩), .pointer (some ⟨ps, 0, none⟩)] w fun v w' =>
      v = .tuple #[.int .i64 (Abs.kleaf x s (st.getLastD 0)).1, .int .i64 (Abs.kleaf x s (st.getLastD 0)).2] ∧ Ext w w' := by
  obtain ⟨v0, v1, v2, v3, v4, rfl, _⟩ := h.ex
  refine K.start hmix E.expr_Kind_1 (args := [_, _, _]) (Nat.le_of_ble_eq_true rfl) ?_
  dsimp only [C.expr_Kind_1]; refine Yy ?_
  refine St ?_
  refine K.new fun w1 b1 hb1 he1 hc1 => ?_
  have k1 : w1.heap[b1]? = some (.cells x.enc.toArray T.api_Node) := hc1
  refine St ?_
  refine K.ldAb (c := x.enc) k1 (Ext.refl _) rfl ?_
  refine St ?_
  refine K.ldAb hps he1 rfl ?_
  refine St ?_
  refine K.call (kleaf_r x _ s base b w1 m st hx (h.ext he1) (hm.ext he1) h3) ?_
  rintro _ w2 ⟨rfl, he2⟩
  refine St ?_
  (refine ⟨?_, ?_⟩ <;> first | trivial | rfl | (repeat' first | assumption | exact Ext.refl _ | refine Ext.trans ?_ (by assumption)))
theorem fKind_step (s : Abs.Scope) : stepRes (Abs.fKind s) Abs.ktwo fun x st => Abs.kleaf x s (st.getLastD 0) := fun _ _ => rfl
theorem kind_r (ve : Value) (e : List Abs.Node) (cs : List Value) (s : Abs.Scope) (w : World) (he : Abs.Nodes w ve e) (h : Abs.ScopeIs w cs s) :
    Ret Tryz.prog F.expr_Kind #[ve, .agg cs.toArray] w fun v w' => v = .tuple #[.int .i64 (Abs.kind e s).1, .int .i64 (Abs.kind e s).2] ∧ Ext w w' := by
  obtain ⟨v0, v1, v2, v3, v4, rfl, _⟩ := h.ex
  refine K.start hmix E.expr_Kind (args := [_, _]) (Nat.le_of_ble_eq_true rfl) ?_
  dsimp only [C.expr_Kind]; refine Yy ?_
  refine St ?_
  refine K.new fun w1 ps hps he1 hc1 => ?_
  refine St ?_
  refine K.bld (cs := [.slice none 0 0, .map none]) (by simp [fillC]) ?_
  refine St ?_
  refine K.new fun w2 b hb he2 hc2 => ?_
  refine St ?_
  refine K.new fun w3 pm hpm he3 hc3 => ?_
  refine St ?_
  refine K.st0 hc3 (by decide) rfl fun w4 hw4 hc4 => ?_
  have hc4' : w4.heap[pm]? = some (.cells #[.pointer (some ⟨b, 0, none⟩)] T.p_expr_machine) := hc4
  have he4 : Ext w2 w4 := hw4.ext he3 hpm
  have hq2 := lt_of_heap hc2
  have hq1 := lt_of_heap hc1
  have hew : Ext w w4 := (he1.trans he2).trans he4
  clear hc4 hw4 he3 hc3
  have hb4 := he4.obj hc2
  have hs4 := he4.obj (he2.obj hc1)
  have z1 := he1.size
  refine St ?_
  refine K.call (run_r (Abs.fKind s) Abs.ktwo (fun x st => Abs.kleaf x s (st.getLastD 0)) (fKind_step s) (fun _ => True) b w w4 hew (by omega) ve _ _ e he hb4 (fun _ _ _ _ _ _ _ => trivial) ?_ ?_) ?_
  · intro x st base m w' hx hm hmach _ q1 q2 q3 w1' KK t hw1 hk
    refine K.callV (first := []) (cap := [.pointer (some ⟨pm, 0, none⟩), .pointer (some ⟨ps, 0, none⟩)]) (by kernel_rfl)
      (kind1_r x _ s base b pm ps w1' m st _ hx (h.ext ((hm.ext hew (by intro k hk e; omega)).trans hw1)) (hmach.ext hw1) ?_ (hw1.obj (hm.obj (by omega) hc4')) (hw1.obj (hm.obj (by omega) hs4))) fun v w'' ⟨h1, h2⟩ => by subst h1; exact hk w'' h2
    intro h3
    have : Abs.nparts x.op = 1 := by rw [h3]; rfl
    omega
  · rintro o ov lv l w' KK t hm ⟨u, rfl, hd⟩ _ hl hi hk
    exact K.callV0 (first := []) (cap := []) (by kernel_rfl) (ktwo_r o u lv l w' hi) fun v w'' ⟨h1, h2⟩ => by subst h1; exact hk w'' h2
  rintro _ w5 ⟨rfl, hm5⟩
  have he5 : Ext w w5 := hm5.ext hew (by intro k hk e; omega)
  refine St ?_
  (refine ⟨?_, ?_⟩ <;> first | trivial | rfl | (repeat' first | assumption | exact Ext.refl _ | refine Ext.trans ?_ (by assumption)))
end Go.Proofs.YtnkkichedhhhgaaGreatDoor
end
section
/- Commands: what each function of cmd computes. -/
set_option maxRecDepth 4000
set_option maxHeartbeats 1600000
namespace Abs
open Go Go.RowKit Lite
/-- What declared tells. -/
def DeclV (v : Value) : Option (Var × Int) → Prop
  | some q => v = .tuple #[.agg q.1.enc.toArray, .int .i64 q.2, .bool true]
  | none => ∃ (x : Var) (k : Int), v = .tuple #[.agg x.enc.toArray, .int .i64 k, .bool false]
end Abs
namespace Go.Proofs.YtnkkichedhhhgaaGreatDoor
open Go Go.RowKit Lite

theorem cthing_r (a b : Int) (cs : List Value) (s : Abs.Scope) (w : World) (h : Abs.ScopeIs w cs s) :
    Ret Tryz.prog F.cmd_thing #[.int .i64 a, .int .i64 b, .agg cs.toArray] w fun v w' => v = .tuple #[.int .i64 (Abs.thing a b s).1, .bool (Abs.thing a b s).2] ∧ Ext w w' := by
  obtain ⟨a0, c0, a1, c1, a2, c2, a3, c3, a4, c4, rfl, h0, h1, h2, h3, h4, l0, l1, l2, l3, l4⟩ := h.form
  refine K.start hmix E.cmd_thing (args := [_, _, _]) (Nat.le_of_ble_eq_true rfl) ?_; dsimp only [C.cmd_thing]; refine Yy ?_
  refine Sg ?_
  intro w1 b hb he1 hc1
  refine Sg ?_
  (repeat' (refine St ?_; first | (refine K.cond (fun _ => ?_) (fun _ => ?_) <;> try (exfalso; omega)) | refine K.condb (fun _ => ?_) (fun _ => ?_))) <;> try refine St ?_
  all_goals
    refine ⟨?_, by (repeat' first | assumption | exact Ext.refl _ | refine Ext.trans ?_ (by assumption))⟩
    unfold Abs.thing
    (repeat' split) <;> first | rfl | (exfalso; omega)
theorem declared_r (v : Value) (l : List Abs.Var) (n : Int) (cs : List Value) (s : Abs.Scope) (w : World) (hl : Abs.Vars w v l) (h : Abs.ScopeIs w cs s) :
    Ret Tryz.prog F.cmd_declared #[v, .int .i64 n, .agg cs.toArray] w fun v w' => Abs.DeclV v (Abs.declared l n s) ∧ Ext w w' := by
  obtain ⟨v0, v1, v2, v3, v4, rfl, _⟩ := h.ex
  obtain ⟨oa, cap, rfl, hlen⟩ := hl.form
  refine K.start hmix E.cmd_declared (args := [_, _, _]) (Nat.le_of_ble_eq_true rfl) ?_; dsimp only [C.cmd_declared]; refine Yy ?_
  refine Sg ?_
  intro w1 b1 hb1 he1 hc1
  refine Sg ?_
  intro w2 b2 hb2 he2 hc2
  have he := he1.trans he2
  refine Sg ?_
  refine K.cond (fun g1 => ?_) (fun g1 => ?_)
  · refine Sg ?_
    intro w3 hw3 hc3
    refine Sg ?_
    rw [Abs.declared, Abs.nth_none (.inl g1)]
    exact ⟨⟨(⟨⟨#[]⟩, 0, 0, 0, 0, 0⟩ : Abs.Var), 0, rfl⟩, hw3.ext he (by have := he1.size; omega)⟩
  refine Sg ?_
  refine K.cond (fun g2 => ?_) (fun g2 => ?_)
  · refine Sg ?_
    intro w3 hw3 hc3
    refine Sg ?_
    rw [Abs.declared, Abs.nth_none (.inr (by omega))]
    exact ⟨⟨(⟨⟨#[]⟩, 0, 0, 0, 0, 0⟩ : Abs.Var), 0, rfl⟩, hw3.ext he (by have := he1.size; omega)⟩
  obtain ⟨i, rfl⟩ := Int.eq_ofNat_of_zero_le (show 0 ≤ n by omega)
  have hi : i < l.length := by omega
  rw [Abs.declared, Abs.nth_some (by omega) (by omega)]
  simp only [Int.toNat_natCast]
  obtain ⟨a, rfl⟩ := hl.addr (by omega)
  refine Sg ?_
  refine K.qfn _ (fun w' e => cthing_r _ _ _ s w' (h.ext (he.trans e))) ?_
  refine Sg ?_
  intro w3 he3
  have hc2 := he3.obj hc2
  refine Sg ?_
  intro w4 hw4 hc4
  refine Sg ?_
  refine ⟨?_, hw4.ext (he.trans he3) (by have := he1.size; omega)⟩
  by_cases hb : (Abs.thing l[i].scalar l[i].over s).2 = true
  · rw [if_pos hb, hb]; rfl
  · rw [if_neg hb, Bool.eq_false_iff.2 hb]; exact ⟨_, _, rfl⟩
theorem channel_r (n : Int) (cs : List Value) (s : Abs.Scope) (w : World) (h : Abs.ScopeIs w cs s) :
    Ret Tryz.prog F.cmd_channel #[.int .i64 n, .agg cs.toArray] w fun v w' => v = .tuple #[.int .i64 ((Abs.channel n s).getD 0), .bool (Abs.channel n s).isSome] ∧ Ext w w' := by
  obtain ⟨a0, c0, a1, c1, a2, c2, a3, c3, a4, c4, rfl, h0, h1, h2, h3, h4, l0, l1, l2, l3, l4⟩ := h.form
  refine K.start hmix E.cmd_channel (args := [_, _]) (Nat.le_of_ble_eq_true rfl) ?_; dsimp only [C.cmd_channel]; refine Yy ?_
  refine Sg ?_
  intro w1 b1 hb1 he1 hc1
  refine Sg ?_
  refine K.cond (fun g1 => ?_) (fun g1 => ?_)
  · refine Sg ?_
    rw [Abs.channel, Abs.nth_none (.inl g1)]
    (refine ⟨?_, ?_⟩ <;> first | trivial | rfl | (repeat' first | assumption | exact Ext.refl _ | refine Ext.trans ?_ (by assumption)))
  refine Sg ?_
  refine K.cond (fun g2 => ?_) (fun g2 => ?_)
  · refine Sg ?_
    rw [Abs.channel, Abs.nth_none (.inr (by omega))]
    (refine ⟨?_, ?_⟩ <;> first | trivial | rfl | (repeat' first | assumption | exact Ext.refl _ | refine Ext.trans ?_ (by assumption)))
  obtain ⟨i, rfl⟩ := Int.eq_ofNat_of_zero_le (show 0 ≤ n by omega)
  have hi : i < s.chans.length := by omega
  rw [Abs.channel, Abs.nth_some (by omega) (by omega)]
  simp only [Int.toNat_natCast]
  obtain ⟨a, rfl⟩ := h2.addr (by omega)
  refine Sg ?_
  refine K.qfn _ (fun w' e => cthing_r _ _ _ s w' (h.ext (he1.trans e))) ?_
  refine Sg ?_
  intro w2 he2
  refine Sg ?_
  refine ⟨?_, by (repeat' first | assumption | exact Ext.refl _ | refine Ext.trans ?_ (by assumption))⟩
  by_cases hb : (Abs.thing s.chans[i].scalar 0 s).2 = true
  · rw [if_pos hb, hb]; rfl
  · rw [if_neg hb, Bool.eq_false_iff.2 hb]
    rw [Abs.thing_false (Bool.eq_false_iff.2 hb)]; rfl
theorem asked_r (ve : Value) (e : List Abs.Node) (k : Int) (cs : List Value) (s : Abs.Scope) (w : World) (hn : Abs.Nodes w ve e) (h : Abs.ScopeIs w cs s) :
    Ret Tryz.prog F.cmd_asked #[ve, .int .i64 k, .agg cs.toArray] w fun v w' => v = .int .i64 (Abs.asked e k s) ∧ Ext w w' := by
  obtain ⟨v0, v1, v2, v3, v4, rfl, _⟩ := h.ex
  refine K.start hmix E.cmd_asked (args := [_, _, _]) (Nat.le_of_ble_eq_true rfl) ?_; dsimp only [C.cmd_asked]; refine Yy ?_
  refine Sg ?_
  intro w1 b1 hb1 he1 hc1
  refine Sg ?_
  refine K.call (kind_r ve e _ s w1 (hn.ext he1) (h.ext he1)) ?_
  rintro _ w2 ⟨rfl, he2⟩
  refine Sg ?_
  rw [Abs.asked]
  refine K.cond (fun g1 => ?_) (fun g1 => ?_)
  · rw [if_neg (by simpa using g1)]
    refine Sg ?_
    refine K.cond (fun g2 => ?_) (fun g2 => ?_)
    · refine Sg ?_
      rw [if_neg (by simpa using g2)]
      (refine ⟨?_, ?_⟩ <;> first | trivial | rfl | (repeat' first | assumption | exact Ext.refl _ | refine Ext.trans ?_ (by assumption)))
    refine Sg ?_
    rw [if_pos g2]
    (refine ⟨?_, ?_⟩ <;> first | trivial | rfl | (repeat' first | assumption | exact Ext.refl _ | refine Ext.trans ?_ (by assumption)))
  refine Sg ?_
  rw [if_pos g1]
  (refine ⟨?_, ?_⟩ <;> first | trivial | rfl | (repeat' first | assumption | exact Ext.refl _ | refine Ext.trans ?_ (by assumption)))
theorem talks_r (a : Abs.Act) (vi vv : Value) (w : World) : Ret Tryz.prog F.cmd_talks #[.agg (a.enc vi vv).toArray] w fun v w' => v = .bool (Abs.talks a) ∧ Ext w w' := by
  refine K.start hmix E.cmd_talks (args := [_]) (Nat.le_of_ble_eq_true rfl) ?_; dsimp only [C.cmd_talks]; refine Yy ?_
  refine Sg ?_
  intro w1 b1 hb1 he1 hc1
  refine Sg ?_
  rw [Abs.talks]
  refine K.cond (fun g1 => ?_) (fun g1 => ?_)
  · refine Sg ?_
    refine ⟨?_, by (repeat' first | assumption | exact Ext.refl _ | refine Ext.trans ?_ (by assumption))⟩
    congr 1; simp [g1]
  refine Sg ?_
  refine ⟨?_, by (repeat' first | assumption | exact Ext.refl _ | refine Ext.trans ?_ (by assumption))⟩
  congr 1; simp [g1]
theorem receives_r (a : Abs.Act) (vi vv : Value) (k : Int) (cs : List Value) (s : Abs.Scope) (w : World) (h : Abs.ScopeIs w cs s) :
    Ret Tryz.prog F.cmd_receives #[.agg (a.enc vi vv).toArray, .int .i64 k, .agg cs.toArray] w fun v w' => v = .int .i64 (Abs.receives a k s) ∧ Ext w w' := by
  obtain ⟨v0, v1, v2, v3, v4, rfl, h0, h1, h2, h3, h4, _⟩ := h.ex
  refine K.start hmix E.cmd_receives (args := [_, _, _]) (Nat.le_of_ble_eq_true rfl) ?_; dsimp only [C.cmd_receives]; refine Yy ?_
  refine Sg ?_
  intro w1 b1 hb1 he1 hc1
  refine Sg ?_
  intro w2 b2 hb2 he2 hc2
  have he := he1.trans he2
  refine Sg ?_
  refine K.call (declared_r v4 s.locals a.loc _ s w2 (h4.ext he) (h.ext he)) ?_
  rintro q w3 ⟨hq, he3⟩
  rw [Abs.receives]
  cases hd : Abs.declared s.locals a.loc s with
  | none =>
    rw [hd] at hq
    obtain ⟨x, k', rfl⟩ := hq
    refine Sg ?_
    intro w4 b4 hb4 he4 hc4
    refine Sg ?_
    (refine ⟨?_, ?_⟩ <;> first | trivial | rfl | (repeat' first | assumption | exact Ext.refl _ | refine Ext.trans ?_ (by assumption)))
  | some q =>
    obtain ⟨x, k'⟩ := q
    rw [hd] at hq
    subst hq
    refine Sg ?_
    intro w4 b4 hb4 he4 hc4
    refine Sg ?_
    refine K.cond (fun g1 => ?_) (fun g1 => ?_)
    · refine Sg ?_
      refine K.cond (fun g2 => ?_) (fun g2 => ?_)
      · refine Sg ?_
        simp only [g1, g2, ne_eq, not_true_eq_false, or_self, if_false]
        (refine ⟨?_, ?_⟩ <;> first | trivial | rfl | (repeat' first | assumption | exact Ext.refl _ | refine Ext.trans ?_ (by assumption)))
      refine Sg ?_
      simp only [g2, ne_eq, not_false_eq_true, or_true, if_true]
      (refine ⟨?_, ?_⟩ <;> first | trivial | rfl | (repeat' first | assumption | exact Ext.refl _ | refine Ext.trans ?_ (by assumption)))
    refine Sg ?_
    simp only [g1, ne_eq, not_false_eq_true, true_or, if_true]
    (refine ⟨?_, ?_⟩ <;> first | trivial | rfl | (repeat' first | assumption | exact Ext.refl _ | refine Ext.trans ?_ (by assumption)))
end Go.Proofs.YtnkkichedhhhgaaGreatDoor
end
section
/- Commands: what an act, and a whole command, must be. -/
set_option maxRecDepth 4000
set_option maxHeartbeats 1600000
namespace Abs
open Go Go.RowKit Lite
theorem actsE_cons {s : Scope} {l : List Act} {k : Nat} {t : Bool} (h : k < l.length) :
    actsE s (l.drop k) k t = if talks l[k] && t then (2 + (k : Int), 7) else if actE l[k] s ≠ 0 then (2 + (k : Int), actE l[k] s) else actsE s (l.drop (k + 1)) (k + 1) (t || talks l[k]) := by
  rw [List.drop_eq_getElem_cons h]; rfl
end Abs
namespace Go.Proofs.YtnkkichedhhhgaaGreatDoor
open Go Go.RowKit Lite

theorem act1_r (k : Int) (a : Abs.Act) (vi vv : Value) (cs : List Value) (s : Abs.Scope) (w : World) (b1 b2 : Nat) (hb1 : w.heap[b1]? = some (.cells (a.enc vi vv).toArray T.api_Act)) (hb2 : w.heap[b2]? = some (.cells cs.toArray T.api_Scope))
    (hv : Abs.Nodes w vv a.value) (h : Abs.ScopeIs w cs s) :
    Ret Tryz.prog F.cmd_act_1 #[.int .i64 k, .pointer (some ⟨b1, 0, none⟩), .pointer (some ⟨b2, 0, none⟩)] w fun v w' => v = .int .i64 (Abs.asked a.value k s) ∧ Ext w w' := by
  obtain ⟨v0, v1, v2, v3, v4, rfl, _⟩ := h.ex
  refine K.start hmix E.cmd_act_1 (args := [_, _, _]) (Nat.le_of_ble_eq_true rfl) ?_; dsimp only [C.cmd_act_1]; refine Yy ?_
  refine Sg ?_
  refine K.call (asked_r vv a.value k _ s w hv h) ?_
  rintro _ w2 ⟨rfl, he2⟩
  refine Sg ?_
  (refine ⟨?_, ?_⟩ <;> first | trivial | rfl | (repeat' first | assumption | exact Ext.refl _ | refine Ext.trans ?_ (by assumption)))
theorem act_r (a : Abs.Act) (vi vv : Value) (cs : List Value) (s : Abs.Scope) (w : World) (hi : Abs.Nodes w vi a.index) (hv : Abs.Nodes w vv a.value) (h : Abs.ScopeIs w cs s) :
    Ret Tryz.prog F.cmd_act #[.agg (a.enc vi vv).toArray, .agg cs.toArray] w fun v w' => v = .int .i64 (Abs.actE a s) ∧ Ext w w' := by
  obtain ⟨v0, v1, v2, v3, v4, rfl, h0, h1, h2, h3, h4, l0⟩ := h.ex
  refine K.start hmix E.cmd_act (args := [_, _]) (Nat.le_of_ble_eq_true rfl) ?_; dsimp only [C.cmd_act]; refine Yy ?_
  refine Sg ?_
  intro w1 b1 hb1 he1 hc1
  refine Sg ?_
  intro w2 b2 hb2 he2 hc2
  have he := he1.trans he2
  have hc1 := he2.obj hc1
  by_cases q : a.kind = 1 ∨ a.kind = 2 ∨ a.kind = 3
  · rw [Abs.actE, if_pos q]
    generalize hL : (if a.kind = 3 then s.locals else s.vars) = L
    have hcall : ∀ vl n, vl = (if a.kind = 3 then v4 else v1) → Ret Tryz.prog F.cmd_declared #[vl, .int .i64 n, .agg #[v0, v1, v2, v3, v4, .int .i64 s.self]] w2 fun v w' => Abs.DeclV v (Abs.declared L n s) ∧ Ext w2 w' := by
      rintro vl n rfl
      refine declared_r _ L n _ s w2 ?_ (h.ext he)
      rw [← hL]
      split
      · exact h4.ext he
      · exact h1.ext he
    by_cases q5 : a.kind = 2
    · refine Sg ?_
      refine K.call (hcall _ _ (by simp [q5])) ?_
      rintro u w3 ⟨hq, he3⟩
      have hc1 := he3.obj hc1
      have hc2 := he3.obj hc2
      have he03 := he.trans he3
      cases hd : Abs.declared L a.to s with
      | none =>
        rw [hd] at hq
        obtain ⟨x, k', rfl⟩ := hq
        refine Sg ?_
        intro w4 b4 hb4 he4 hc4
        refine Sg ?_
        (refine ⟨?_, ?_⟩ <;> first | trivial | rfl | (repeat' first | assumption | exact Ext.refl _ | refine Ext.trans ?_ (by assumption)))
      | some u =>
        obtain ⟨x, k'⟩ := u
        rw [hd] at hq
        subst hq
        have hov := Abs.declared_over hd
        simp only at hov
        refine Sg ?_
        intro w4 b4 hb4 he4 hc4
        have hc1 := he4.obj hc1
        have hc2 := he4.obj hc2
        have he04 := he03.trans he4
        refine Sg ?_
        refine K.neb (by kernel_rfl) ?_
        refine Sg ?_
        by_cases q2 : x.over = 0
        · refine K.condbT (by simp [q5, q2]) ?_
          refine Sg ?_
          exact ⟨by simp [q5, q2], by (repeat' first | assumption | exact Ext.refl _ | refine Ext.trans ?_ (by assumption))⟩
        refine K.condbF (by simp [q5, q2]) ?_
        refine Sg ?_
        refine K.call (asked_r vi a.index _ _ s w4 (hi.ext he04) (h.ext he04)) ?_
        rintro _ w5 ⟨rfl, he5⟩
        have hc1 := he5.obj hc1
        have hc2 := he5.obj hc2
        have he05 := he04.trans he5
        refine Sg ?_
        refine K.cond (fun q3 => ?_) (fun q3 => ?_)
        · refine Sg ?_
          refine K.callV (first := []) (cap := [_, _]) (by kernel_rfl) (act1_r k' a vi vv _ s w5 b1 b2 hc1 hc2 (hv.ext he05) (h.ext he05)) ?_
          rintro _ w6 ⟨rfl, he6⟩
          refine Sg ?_
          exact ⟨by simp [q5, q2, q3], by (repeat' first | assumption | exact Ext.refl _ | refine Ext.trans ?_ (by assumption))⟩
        · refine Sg ?_
          exact ⟨by simp [q5, q2, q3], by (repeat' first | assumption | exact Ext.refl _ | refine Ext.trans ?_ (by assumption))⟩
    have q6 : a.kind = 1 ∨ a.kind = 3 := by omega
    clear q
    rcases q6 with q | q
    all_goals
      refine Sg ?_
      refine K.call (hcall _ _ (by simp [q])) ?_
      rintro u w3 ⟨hq, he3⟩
      have hc1 := he3.obj hc1
      have hc2 := he3.obj hc2
      have he03 := he.trans he3
      cases hd : Abs.declared L a.to s with
      | none =>
        rw [hd] at hq
        obtain ⟨x, k', rfl⟩ := hq
        refine Sg ?_
        intro w4 b4 hb4 he4 hc4
        refine Sg ?_
        (refine ⟨?_, ?_⟩ <;> first | trivial | rfl | (repeat' first | assumption | exact Ext.refl _ | refine Ext.trans ?_ (by assumption)))
      | some u =>
        obtain ⟨x, k'⟩ := u
        rw [hd] at hq
        subst hq
        refine Sg ?_
        intro w4 b4 hb4 he4 hc4
        have hc1 := he4.obj hc1
        have hc2 := he4.obj hc2
        have he04 := he03.trans he4
        refine Sg ?_
        refine K.neb (by kernel_rfl) ?_
        refine Sg ?_
        by_cases q2 : x.over = 0
        · refine K.condbF (by simp [q, q2]) ?_
          refine Sg ?_
          refine K.callV (first := []) (cap := [_, _]) (by kernel_rfl) (act1_r k' a vi vv _ s w4 b1 b2 hc1 hc2 (hv.ext he04) (h.ext he04)) ?_
          rintro _ w6 ⟨rfl, he6⟩
          refine Sg ?_
          exact ⟨by simp [q, q2], by (repeat' first | assumption | exact Ext.refl _ | refine Ext.trans ?_ (by assumption))⟩
        · refine K.condbT (by simp [q, q2]) ?_
          refine Sg ?_
          exact ⟨by simp [q, q2], by (repeat' first | assumption | exact Ext.refl _ | refine Ext.trans ?_ (by assumption))⟩
  by_cases q4 : a.kind = 4 ∨ a.kind = 5
  · rw [Abs.actE, if_neg q, if_pos q4]
    have q7 : a.kind ≠ 3 := by omega
    have q8 : a.kind ≠ 1 := by omega
    have q9 : a.kind ≠ 2 := by omega
    have step : ∀ (w' : World), Ext w2 w' → Ret Tryz.prog F.cmd_channel #[.int .i64 a.to, .agg #[v0, v1, v2, v3, v4, .int .i64 s.self]] w' fun v w'' => v = .tuple #[.int .i64 ((Abs.channel a.to s).getD 0), .bool (Abs.channel a.to s).isSome] ∧ Ext w' w'' :=
      fun w' e => channel_r a.to _ s w' (h.ext (he.trans e))
    rcases q4 with q4 | q4
    · refine Sg ?_
      refine K.call (step w2 (Ext.refl _)) ?_
      rintro _ w3 ⟨rfl, he3⟩
      have hc1 := he3.obj hc1
      have hc2 := he3.obj hc2
      have he03 := he.trans he3
      cases hd : Abs.channel a.to s with
      | none =>
        simp only [Option.isSome_none, Option.getD_none]
        refine Sg ?_
        (refine ⟨?_, ?_⟩ <;> first | trivial | rfl | (repeat' first | assumption | exact Ext.refl _ | refine Ext.trans ?_ (by assumption)))
      | some k =>
        simp only [Option.isSome_some, Option.getD_some]
        refine Sg ?_
        refine K.callV (first := []) (cap := [_, _]) (by kernel_rfl) (act1_r k a vi vv _ s w3 b1 b2 hc1 hc2 (hv.ext he03) (h.ext he03)) ?_
        rintro _ w6 ⟨rfl, he6⟩
        refine Sg ?_
        exact ⟨by simp [q4], by (repeat' first | assumption | exact Ext.refl _ | refine Ext.trans ?_ (by assumption))⟩
    · refine Sg ?_
      refine K.call (step w2 (Ext.refl _)) ?_
      rintro _ w3 ⟨rfl, he3⟩
      have hc1 := he3.obj hc1
      have hc2 := he3.obj hc2
      have he03 := he.trans he3
      cases hd : Abs.channel a.to s with
      | none =>
        simp only [Option.isSome_none, Option.getD_none]
        refine Sg ?_
        (refine ⟨?_, ?_⟩ <;> first | trivial | rfl | (repeat' first | assumption | exact Ext.refl _ | refine Ext.trans ?_ (by assumption)))
      | some k =>
        simp only [Option.isSome_some, Option.getD_some]
        refine Sg ?_
        refine K.call (receives_r a vi vv k _ s w3 (h.ext he03)) ?_
        rintro _ w6 ⟨rfl, he6⟩
        refine Sg ?_
        exact ⟨by simp [q4], by (repeat' first | assumption | exact Ext.refl _ | refine Ext.trans ?_ (by assumption))⟩
  rw [Abs.actE, if_neg q, if_neg q4]
  have q7 : a.kind ≠ 3 := by omega
  have q8 : a.kind ≠ 1 := by omega
  have q9 : a.kind ≠ 2 := by omega
  have q10 : a.kind ≠ 4 := by omega
  have q11 : a.kind ≠ 5 := by omega
  refine Sg ?_
  (refine ⟨?_, ?_⟩ <;> first | trivial | rfl | (repeat' first | assumption | exact Ext.refl _ | refine Ext.trans ?_ (by assumption)))
end Go.Proofs.YtnkkichedhhhgaaGreatDoor
end
section
/- Plain: what commands that are right have. No program in sight. -/
namespace Abs
open Go
theorem head_ok {c : Cmd} {n : Int} (h : head c n = 0) : isName c.name = true ∧ 0 ≤ c.from_ ∧ c.from_ < n ∧ 0 ≤ c.to ∧ c.to < n ∧ c.acts.length ≤ 6 := by
  unfold head at h
  by_cases h1 : isName c.name = false
  · rw [if_pos h1] at h; cases h
  rw [if_neg h1] at h
  by_cases h2 : c.from_ < 0 ∨ n ≤ c.from_ ∨ c.to < 0 ∨ n ≤ c.to
  · rw [if_pos h2] at h; cases h
  rw [if_neg h2] at h
  by_cases h3 : c.acts.length > 6
  · rw [if_pos h3] at h; cases h
  exact ⟨by simpa using h1, by omega, by omega, by omega, by omega, by omega⟩
end Abs
end
section
/- Commands: what a whole command must be; what it sends or receives by. -/
set_option maxRecDepth 4000
set_option maxHeartbeats 1600000
namespace Abs
open Go Go.RowKit Lite
end Abs
namespace Go.Proofs.YtnkkichedhhhgaaGreatDoor
open Go Go.RowKit Lite
theorem head1_r (n : Int) (p : Abs.Proc) (pv pc : Value) (w : World) (b : Nat) (hb : w.heap[b]? = some (.cells (p.enc pv pc).toArray T.api_Proc)) :
    Ret Tryz.prog F.cmd_head_1 #[.int .i64 n, .pointer (some ⟨b, 0, none⟩)] w fun v w' => v = .bool (decide (n < 0 ∨ p.locs ≤ n)) ∧ w' = w := by
  refine K.start hmix E.cmd_head_1 (args := [_, _]) (Nat.le_of_ble_eq_true rfl) ?_; dsimp only [C.cmd_head_1]; refine Yy ?_
  refine Sg ?_
  refine K.cond (fun g1 => ?_) (fun g1 => ?_)
  · refine Sg ?_
    exact ⟨by simp [g1], by first | trivial | rfl⟩
  refine Sg ?_
  exact ⟨by simp [g1], by first | trivial | rfl⟩
theorem head_r (c : Abs.Cmd) (vg va : Value) (p : Abs.Proc) (pv pc : Value) (w : World) (ho : OwnIs w) (hn : Abs.strOk c.name) (ha : Abs.Acts w va c.acts) :
    Ret Tryz.prog F.cmd_head #[.agg (c.enc vg va).toArray, .agg (p.enc pv pc).toArray] w fun v w' => v = .int .i64 (Abs.head c p.locs) ∧ Ext w w' := by
  obtain ⟨oa, cap, rfl, hlen⟩ := ha.form
  refine K.start hmix E.cmd_head (args := [_, _]) (Nat.le_of_ble_eq_true rfl) ?_; dsimp only [C.cmd_head]; refine Yy ?_
  refine Sg ?_
  intro w1 b1 hb1 he1 hc1
  refine Sg ?_
  intro w2 b2 hb2 he2 hc2
  have he := he1.trans he2
  have hc1 := he2.obj hc1
  refine Sg ?_
  refine K.call (name_r c.name w2 (ho.ext he) hn) ?_
  rintro _ w3 ⟨rfl, he3⟩
  have hc1 := he3.obj hc1
  have hc2 := he3.obj hc2
  have he03 := he.trans he3
  rw [Abs.head]
  refine Sg ?_
  refine K.condb (fun g1 => ?_) (fun g1 => ?_)
  rotate_left
  · refine Sg ?_
    exact ⟨by simp [g1], by (repeat' first | assumption | exact Ext.refl _ | refine Ext.trans ?_ (by assumption))⟩
  refine Sg ?_
  refine K.callV (first := []) (cap := [_]) (by kernel_rfl) (head1_r c.from_ p pv pc w3 b2 hc2) ?_
  rintro _ _ ⟨rfl, rfl⟩
  refine Sg ?_
  refine K.cond (fun g2 => ?_) (fun g2 => ?_)
  · refine Sg ?_
    refine ⟨?_, by (repeat' first | assumption | exact Ext.refl _ | refine Ext.trans ?_ (by assumption))⟩
    rw [if_neg (by simp [g1]), if_pos (by omega)]
  refine Sg ?_
  refine K.callV (first := []) (cap := [_]) (by kernel_rfl) (head1_r c.to p pv pc _ b2 hc2) ?_
  rintro _ _ ⟨rfl, rfl⟩
  refine Sg ?_
  refine K.cond (fun g3 => ?_) (fun g3 => ?_)
  · refine Sg ?_
    refine ⟨?_, by (repeat' first | assumption | exact Ext.refl _ | refine Ext.trans ?_ (by assumption))⟩
    rw [if_neg (by simp [g1]), if_pos (by omega)]
  refine Sg ?_
  refine K.cond (fun g4 => ?_) (fun g4 => ?_)
  · refine Sg ?_
    refine ⟨?_, by (repeat' first | assumption | exact Ext.refl _ | refine Ext.trans ?_ (by assumption))⟩
    rw [if_neg (by simp [g1]), if_neg (by omega), if_pos (by omega)]
  · refine Sg ?_
    refine ⟨?_, by (repeat' first | assumption | exact Ext.refl _ | refine Ext.trans ?_ (by assumption))⟩
    rw [if_neg (by simp [g1]), if_neg (by omega), if_neg (by omega)]
theorem check_r (c : Abs.Cmd) (vg va : Value) (p : Abs.Proc) (pv pc : Value) (cs : List Value) (s : Abs.Scope) (w : World) (ho : OwnIs w) (hn : Abs.strOk c.name) (hg : Abs.Nodes w vg c.guard) (ha : Abs.Acts w va c.acts)
    (hv : Abs.Vars w pv p.vars) (hc : Abs.Cmds w pc p.cmds) (h : Abs.ScopeIs w cs s) :
    Ret Tryz.prog F.cmd_Check #[.agg (c.enc vg va).toArray, .agg (p.enc pv pc).toArray, .agg cs.toArray] w fun v w' =>
      v = .tuple #[.int .i64 (Abs.cmdCheck c p.locs s).1, .int .i64 (Abs.cmdCheck c p.locs s).2] ∧ Ext w w' := by
  obtain ⟨a0, c0, a1, c1, a2, c2, a3, c3, a4, c4, rfl, _⟩ := h.form
  obtain ⟨oa, cap, rfl, hlen⟩ := ha.form
  obtain ⟨og, capg, rfl, hleng⟩ := hg.form
  obtain ⟨_, _, rfl, _⟩ := hv.form
  obtain ⟨_, _, rfl, _⟩ := hc.form
  refine K.start hmix E.cmd_Check (args := [_, _, _]) (Nat.le_of_ble_eq_true rfl) ?_; dsimp only [C.cmd_Check]; refine Yy ?_
  refine Sg ?_
  intro w1 b1 hb1 he1 hc1
  refine Sg ?_
  intro w2 b2 hb2 he2 hc2
  refine Sg ?_
  intro w3 b3 hb3 he3 hc3
  have he := (he1.trans he2).trans he3
  have hc1 := (he2.trans he3).obj hc1
  have hc2 := he3.obj hc2
  refine Sg ?_
  refine K.call (head_r c _ _ p _ _ w3 (ho.ext he) hn (ha.ext he)) ?_
  rintro _ w4 ⟨rfl, he4⟩
  have hc1 := he4.obj hc1
  have hc3 := he4.obj hc3
  have he04 := he.trans he4
  rw [Abs.cmdCheck]
  refine Sg ?_
  refine K.cond (fun g1 => ?_) (fun g1 => ?_)
  rotate_left
  · refine Sg ?_
    exact ⟨by simp [g1], by (repeat' first | assumption | exact Ext.refl _ | refine Ext.trans ?_ (by assumption))⟩
  rw [if_neg (by simpa using g1)]
  have h6 := (Abs.head_ok g1).2.2.2.2.2
  refine Su ?_
  refine K.cutG [3, 4, 5] (fun _ => []) (fun (_ : Unit) w' => Ext w4 w' ∧ ¬ (c.guard.length > 0 ∧ Abs.asked c.guard 1 s ≠ 0)) ?_ ?_
  · refine Sg ?_
    refine K.cond (fun g2 => ?_) (fun g2 => ?_)
    · refine Sg ?_
      refine K.call (asked_r _ c.guard 1 _ s w4 (hg.ext he04) (h.ext he04)) ?_
      rintro _ w5 ⟨rfl, he5⟩
      refine Sg ?_
      refine K.cond (fun g3 => ?_) (fun g3 => ?_)
      · refine Sg ?_
        exact ⟨(), trivial, by (repeat' first | assumption | exact Ext.refl _ | refine Ext.trans ?_ (by assumption)), fun hh => hh.2 g3⟩
      · refine Sg ?_
        rw [if_pos ⟨by omega, g3⟩]
        (refine ⟨?_, ?_⟩ <;> first | trivial | rfl | (repeat' first | assumption | exact Ext.refl _ | refine Ext.trans ?_ (by assumption)))
    · refine Sg ?_
      exact ⟨(), trivial, by (repeat' first | assumption | exact Ext.refl _ | refine Ext.trans ?_ (by assumption)), fun hh => g2 (by omega)⟩
  rintro _ S w5 ⟨he5, hgd⟩
  have hc1 := he5.obj hc1
  have hc3 := he5.obj hc3
  have he05 := he04.trans he5
  rw [if_neg hgd]
  refine Sg ?_
  refine K.forG 34 c.acts.length [3, 4, 5, 32, 33] (fun b => [(10, .bool b)]) false (fun k b w' => Ext w5 w' ∧ Abs.actsE s c.acts 0 false = Abs.actsE s (c.acts.drop k) k b) hZq hZq ⟨Ext.refl _, by simp⟩ ?_
  rintro k b S w6 hk ⟨he6, hI⟩
  have he06 := he05.trans he6
  refine Sg ?_
  refine K.cond (fun g1 => ?_) (fun g1 => ?_)
  · have hk' : k < c.acts.length := by omega
    obtain ⟨a, rfl⟩ := ha.addr (by omega)
    obtain ⟨vi, vv, hcell, hvi, hvv⟩ := ha.at k hk'
    obtain ⟨_, _, rfl, _⟩ := hvi.form
    obtain ⟨_, _, rfl, _⟩ := hvv.form
    rw [Abs.actsE_cons hk'] at hI
    refine Sg ?_
    intro w7 b7 hb7 he7 hc7
    refine Su ?_
    intro w8 hw8 hc8
    have he68 := hw8.ext he7 hb7
    have he08 := he06.trans he68
    have hc3 := (he6.trans he68).obj hc3
    refine Su ?_
    refine K.cutG [3, 5, 10, 11, 12, 32, 33, 34] (fun _ => []) (fun (_ : Unit) w' => Ext w8 w' ∧ ¬ (Abs.talks c.acts[k] && b) = true) ?_ ?_
    · refine Sg ?_
      refine K.call (talks_r c.acts[k] _ _ w8) ?_
      rintro _ w9 ⟨rfl, he9⟩
      refine Sg ?_
      refine K.condb (fun g2 => ?_) (fun g2 => ?_)
      · refine Sg ?_
        refine K.condb (fun g3 => ?_) (fun g3 => ?_)
        · refine Sg ?_
          rw [hI, if_pos (by simp [g2, g3])]
          (refine ⟨?_, ?_⟩ <;> first | trivial | rfl | (repeat' first | assumption | exact Ext.refl _ | refine Ext.trans ?_ (by assumption)))
        · refine Sg ?_
          exact ⟨(), trivial, by (repeat' first | assumption | exact Ext.refl _ | refine Ext.trans ?_ (by assumption)), by simp [g3]⟩
      · refine Sg ?_
        exact ⟨(), trivial, by (repeat' first | assumption | exact Ext.refl _ | refine Ext.trans ?_ (by assumption)), by simp [g2]⟩
    rintro _ S w9 ⟨he9, g2⟩
    rw [if_neg g2] at hI
    have hc8 := he9.obj hc8
    have hc3 := he9.obj hc3
    refine Su ?_
    refine K.cutG [3, 5, 11, 12, 32, 33, 34] (fun u => [(10, .bool u)]) (fun u w' => Ext w9 w' ∧ u = (b || Abs.talks c.acts[k])) ?_ ?_
    · refine Sg ?_
      refine K.condb (fun g3 => ?_) (fun g3 => ?_)
      · refine Sg ?_
        exact ⟨true, hZq, by (repeat' first | assumption | exact Ext.refl _ | refine Ext.trans ?_ (by assumption)), by simp [g3]⟩
      · refine Sg ?_
        refine K.call (talks_r c.acts[k] _ _ w9) ?_
        rintro _ w10 ⟨rfl, he10⟩
        refine Sg ?_
        exact ⟨Abs.talks c.acts[k], hZq, by (repeat' first | assumption | exact Ext.refl _ | refine Ext.trans ?_ (by assumption)), by simp [g3]⟩
    rintro _ S w10 ⟨he10, rfl⟩
    have hc8 := he10.obj hc8
    have hc3 := he10.obj hc3
    have he010 := (he08.trans he9).trans he10
    have he510 := ((he6.trans he68).trans he9).trans he10
    refine Sg ?_
    refine K.call (act_r c.acts[k] _ _ _ s w10 (hvi.ext he010) (hvv.ext he010) (h.ext he010)) ?_
    rintro _ w11 ⟨rfl, he11⟩
    refine Sg ?_
    refine K.cond (fun g3 => ?_) (fun g3 => ?_)
    · refine Sg ?_
      rw [if_neg (by simpa using g3)] at hI
      exact ⟨hk', by first | trivial | rfl, _, hZq, by (repeat' first | assumption | exact Ext.refl _ | refine Ext.trans ?_ (by assumption)), hI⟩
    · refine Sg ?_
      rw [hI, if_pos g3]
      (refine ⟨?_, ?_⟩ <;> first | trivial | rfl | (repeat' first | assumption | exact Ext.refl _ | refine Ext.trans ?_ (by assumption)))
  · refine Sg ?_
    rw [hI, List.drop_eq_nil_of_le (by omega)]
    (refine ⟨?_, ?_⟩ <;> first | trivial | rfl | (repeat' first | assumption | exact Ext.refl _ | refine Ext.trans ?_ (by assumption)))
end Go.Proofs.YtnkkichedhhhgaaGreatDoor
end
