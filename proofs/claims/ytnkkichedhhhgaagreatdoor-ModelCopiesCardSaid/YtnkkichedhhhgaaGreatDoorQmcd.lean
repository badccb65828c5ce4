/- Texts joined: Lite12 LexP DeclP Rep Rep2 Lite13 Lite14 Lite15 Lite16 LibA LiteI ExprP CmdP ProcP. -/
import Derived.Test.YtnkkichedhhhgaaGreatDoorQmcc
import Derived.Lib.RuneCount
import Derived.Lib.TrimU
import Derived.Laws.StructEq
import Derived.Laws.Cover3
import Derived.Maps.AppendAt
set_option linter.all false
section
/- Lite, part 12: short ways: straight on by one name, loops whose frames are written out. -/
namespace Lite
open Go Go.RowKit
structure Hold (p : Prop) : Prop where out : p
/-- Straight on to the next test, call, new block, loop. -/
theorem St {A B : Prop} (k : B) (h : Hold B → A := by
  intro q
  (repeat' first
  | assumption
  | exact Ext.refl _
  | refine Ext.trans ?_ (by assumption)
  | refine K.wrap (by omega) ?_
  | refine K.ldb (by assumption) ?_ rfl ?_
  | refine K.ldb0 (by assumption) ?_ rfl ?_
  | refine K.ldE (by assumption) ?_ (by omega) rfl ?_
  | refine K.ldE0 (by assumption) ?_ (by omega) rfl ?_
  | refine K.ldAE (by assumption) ?_ (by omega) rfl ?_
  | refine K.iaC (by omega) ?_
  | refine K.condT (by first | assumption | omega) ?_
  | refine K.condF (by first | assumption | omega) ?_
  | refine K.condbT (by assumption) ?_
  | refine K.condbF (by assumption) ?_
  | simp -dsimp only [LL,B9,Nat.reduceAdd,Nat.reduceEqDiff,reduceIte,reduceCtorEq,Bool.false_eq_true])
  exact q.out) : A := h ⟨k⟩
/-- The same, with more rules. -/
theorem Sw {F A B : Prop} (f : F) (k : B) (h : F → Hold B → A := by
  intro f q
  (repeat' first
  | assumption
  | exact Ext.refl _
  | refine Ext.trans ?_ (by assumption)
  | refine K.wrap (by omega) ?_
  | refine K.ldb (by assumption) ?_ rfl ?_
  | refine K.ldb0 (by assumption) ?_ rfl ?_
  | refine K.ldE (by assumption) ?_ (by omega) rfl ?_
  | refine K.ldE0 (by assumption) ?_ (by omega) rfl ?_
  | refine K.ldAE (by assumption) ?_ (by omega) rfl ?_
  | refine K.iaC (by omega) ?_
  | refine K.condT (by first | assumption | omega) ?_
  | refine K.condF (by first | assumption | omega) ?_
  | refine K.condbT (by assumption) ?_
  | refine K.condbF (by assumption) ?_
  | simp -dsimp only [LL,B9,Nat.reduceAdd,Nat.reduceEqDiff,reduceIte,reduceCtorEq,Bool.false_eq_true,f])
  exact q.out) : A := h f ⟨k⟩
/-- Straight on, no further than the next sequence. -/
theorem Tt {A B : Prop} (k : B) (h : Hold B → A := by
  intro q
  (repeat' first
  | assumption
  | exact Ext.refl _
  | refine Ext.trans ?_ (by assumption)
  | refine K.wrap (by omega) ?_
  | refine K.ldb (by assumption) ?_ rfl ?_
  | refine K.ldb0 (by assumption) ?_ rfl ?_
  | refine K.ldE (by assumption) ?_ (by omega) rfl ?_
  | refine K.ldE0 (by assumption) ?_ (by omega) rfl ?_
  | refine K.ldAE (by assumption) ?_ (by omega) rfl ?_
  | refine K.iaC (by omega) ?_
  | refine K.condT (by first | assumption | omega) ?_
  | refine K.condF (by first | assumption | omega) ?_
  | refine K.condbT (by assumption) ?_
  | refine K.condbF (by assumption) ?_
  | simp -dsimp only [LL,Nat.reduceAdd,Nat.reduceEqDiff,reduceIte,reduceCtorEq,Bool.false_eq_true])
  exact q.out) : A := h ⟨k⟩
/-- One run of the rules, with more rules. -/
theorem Gw {F A B : Prop} (f : F) (k : B) (h : F → Hold B → A := by
  intro f q
  simp -dsimp only [LL,B9,Nat.reduceAdd,Nat.reduceEqDiff,reduceIte,reduceCtorEq,Bool.false_eq_true,f]
  exact q.out) : A := h f ⟨k⟩
/-! ### Frames -/
def slots : List (Nat × Value) → Fr → Fr
  | [], S => S
  | p :: r, S => upd (slots r S) p.1 p.2
theorem slots_nil (S : Fr) : slots [] S = S := eq_of_heq (HEq.refl _)
theorem slots_cons (t : Nat) (v : Value) (r : List (Nat × Value)) (S : Fr) : slots ((t, v) :: r) S = upd (slots r S) t v := eq_of_heq (HEq.refl _)
def Has (S : Fr) : List (Nat × Value) → Prop
  | [] => True
  | p :: r => S p.1 = p.2 ∧ Has S r
theorem has_nil (S : Fr) : Has S [] = True := propext Iff.rfl
theorem has_cons (S : Fr) (t : Nat) (v : Value) (r : List (Nat × Value)) : Has S ((t, v) :: r) = (S t = v ∧ Has S r) := propext Iff.rfl
theorem slots_eq {S : Fr} : ∀ L, Has S L → slots L S = S
  | [], _ => rfl
  | p :: r, h => by
    show upd (slots r S) p.1 p.2 = S
    rw [slots_eq r h.2]; exact upd_self S _ _ h.1
/-- What slots held in the frame ahead. -/
def keepV (S : Fr) : List Nat → Fr → Fr
  | [], S' => S'
  | t :: r, S' => upd (keepV S r S') t (S t)
theorem keepV_nil (S S' : Fr) : keepV S [] S' = S' := eq_of_heq (HEq.refl _)
theorem keepV_cons (S S' : Fr) (t : Nat) (r : List Nat) : keepV S (t :: r) S' = upd (keepV S r S') t (S t) := eq_of_heq (HEq.refl _)
theorem keepV_eq {S S' : Fr} : ∀ ts : List Nat, (∀ t ∈ ts, S' t = S t) → keepV S ts S' = S'
  | [], _ => rfl
  | t :: r, h => by
    show upd (keepV S r S') t (S t) = S'
    rw [keepV_eq r fun u hu => h u (by simp [hu])]; exact upd_self S' _ _ (h t (by simp))
/-- What slots hold. -/
theorem hZq {p : Prop} (h : p := by first | trivial | rfl | exact ⟨rfl, trivial⟩ | (simp -dsimp only [LL,slots_nil,slots_cons,keepV_nil,keepV_cons,has_nil,has_cons,Nat.reduceAdd,Nat.reduceEqDiff,reduceIte,and_self]; done) | (simp -dsimp only [LL,slots_nil,slots_cons,keepV_nil,keepV_cons,has_nil,has_cons,Nat.reduceAdd,Nat.reduceEqDiff,reduceIte,and_self]; exact ⟨rfl, trivial⟩)) : p := h
theorem notin_of {ds ts : List Nat} (h : (ts.all fun t => !ds.contains t) = true) : ∀ t ∈ ts, ds.contains t = false := fun t ht => by
  have := List.all_eq_true.1 h t ht
  simpa using this
theorem min_ex {p : Nat → Prop} : ∀ n, p n → ∃ m, p m ∧ ∀ k, p k → m ≤ k := fun n => by
  induction n using Nat.strongRecOn with
  | _ n ih =>
    intro h
    by_cases hm : ∃ k, k < n ∧ p k
    · obtain ⟨k, hk, hp⟩ := hm
      exact ih k hk hp
    · exact ⟨n, h, fun k hk => Nat.le_of_not_lt fun hlt => hm ⟨k, hlt, hk⟩⟩
noncomputable def least (p : Nat → Prop) : Nat := open Classical in if h : ∃ m, p m ∧ ∀ k, p k → m ≤ k then h.choose else 0
theorem least_ok {p : Nat → Prop} (h : ∃ n, p n) : p (least p) ∧ ∀ k, p k → least p ≤ k := by
  obtain ⟨n, hn⟩ := h
  have hm := min_ex n hn
  unfold least
  rw [dif_pos hm]
  exact hm.choose_spec
section
variable {P : Program} {Q : LX → Fr → World → Prop} {S : Fr} {w : World}
/-- A loop that counts in slot i; what it keeps (ts), what it changes (M), what is true (J). -/
theorem K.forG {β : Type} {b : LC} {t} (i N : Nat) (ts : List Nat) (M : β → List (Nat × Value)) (x0 : β) (J : Nat → β → World → Prop) (hi0 : S i = .int .i64 0) (hM : Has S (M x0)) (h0 : J 0 x0 w)
    (hr : ∀ (k : Nat) x S' w', k ≤ N → J k x w' →
      vch P b (thenQh (fun S'' w'' => k < N ∧ S'' i = .int .i64 ((k : Int) + 1) ∧ ∃ x', Has S'' (M x') ∧ J (k + 1) x' w'') Q ⟨⟩) (slots (M x) (upd (keepV S ts S') i (.int .i64 k))) w' ⟨⟩)
    (hd : (ts.all fun t => !b.dsts.contains t) = true := by rfl) : LoopVCh P b Q S w t := by
  refine K.for1 i N (fun k S w => ∃ x, Has S (M x) ∧ J k x w) hi0 ⟨x0, hM, h0⟩ ?_
  rintro k S' w' hS hk hi ⟨x, hM', hJ⟩
  have h := hr k x S' w' hk hJ
  rw [keepV_eq ts fun t ht => hS t (notin_of hd t ht), upd_self S' i _ hi, slots_eq _ hM'] at h
  exact h
/-- A cut: what holds behind the first part. -/
theorem K.cutG {β : Type} {a b : LC} {t} (ts : List Nat) (M : β → List (Nat × Value)) (N : β → World → Prop) (h1 : vch P a (thenQh (fun S'' w'' => ∃ x, Has S'' (M x) ∧ N x w'') Q ⟨⟩) S w ⟨⟩)
    (h2 : ∀ x S' w', N x w' → vch P b Q (slots (M x) (keepV S ts S')) w' ⟨⟩) (hd : (ts.all fun t => !a.dsts.contains t) = true := by rfl) : vch P (.seq a b) Q S w t := by
  refine K.cut _ h1 ?_
  rintro S' w' hS ⟨x, hM, hN⟩
  have h := h2 x S' w' hN
  rw [keepV_eq ts fun t ht => hS t (notin_of hd t ht), slots_eq _ hM] at h
  exact h
/-- A loop that ends by a measure. -/
theorem K.whG {β : Type} {b : LC} {t} (ts : List Nat) (M : β → List (Nat × Value)) (x0 : β) (J : β → World → Prop) (μ : β → Nat) (hM : Has S (M x0)) (h0 : J x0 w)
    (hr : ∀ x S' w', J x w' →
      vch P b (thenQh (fun S'' w'' => ∃ x', Has S'' (M x') ∧ J x' w'' ∧ μ x' < μ x) Q ⟨⟩) (slots (M x) (keepV S ts S')) w' ⟨⟩)
    (hd : (ts.all fun t => !b.dsts.contains t) = true := by rfl) : LoopVCh P b Q S w t := by
  refine K.loop (fun S w => ∃ x, Has S (M x) ∧ J x w) (fun S w => least fun n => ∃ x, Has S (M x) ∧ J x w ∧ μ x = n) ⟨x0, hM, h0⟩ ?_
  rintro S' w' hS ⟨x, hM', hJ⟩
  obtain ⟨⟨y, h1, h2, h3⟩, h4⟩ := least_ok (p := fun n => ∃ x, Has S' (M x) ∧ J x w' ∧ μ x = n) ⟨μ x, x, hM', hJ, rfl⟩
  have h := hr y S' w' h2
  rw [keepV_eq ts fun t ht => hS t (notin_of hd t ht), slots_eq _ h1] at h
  unfold vch thenQh at *
  refine vc_keep b _ _ S' w' (fun e S'' w'' _ h => ?_) h
  match e, h with
  | .normal, ⟨z, k1, k2, k3⟩ =>
    refine ⟨⟨z, k1, k2⟩, ?_⟩
    have h5 := (least_ok (p := fun n => ∃ x, Has S'' (M x) ∧ J x w'' ∧ μ x = n) ⟨μ z, z, k1, k2, rfl⟩).2 (μ z) ⟨z, k1, k2, rfl⟩
    show least _ < least _
    rw [← h3]
    omega
  | .exit _, h => exact h
  | .ret, h => exact h
  | .pan _, h => exact h
end
end Lite
end
section
/- Plain facts on names: letters, digits, runs. No program in sight. -/
namespace Abs
open Go
def letter (n : Int) : Bool := decide (97 ≤ n ∧ n ≤ 122 ∨ 65 ≤ n ∧ n ≤ 90)
def digit (n : Int) : Bool := decide (48 ≤ n ∧ n ≤ 57)
def part (n : Int) : Bool := letter n || digit n || decide (n = 95)
def byteAt (s : ByteArray) (i : Nat) : Nat := (s.get! i).toNat
/-- How many bytes from the beginning on are of a kind. -/
def run (p : Int → Bool) (s : ByteArray) : Nat := (s.data.toList.takeWhile fun b => p b.toNat).length
theorem take_run {α : Type} (p : α → Bool) : ∀ (l : List α) (n : Nat) (h : n < l.length), (∀ j (hj : j < n), p (l[j]'(by omega)) = true) → p l[n] = false → (l.takeWhile p).length = n
  | [], n, h, _, _ => by simp at h
  | x :: l, 0, h, _, h2 => by simp at h2; simp [h2]
  | x :: l, n + 1, h, h1, h2 => by
    have hx : p x = true := h1 0 (by omega)
    rw [List.takeWhile_cons, if_pos hx, List.length_cons, take_run p l n (by simpa using h) (fun j hj => h1 (j + 1) (by omega)) (by simpa using h2)]
theorem take_all {α : Type} (p : α → Bool) : ∀ (l : List α) (_ : ∀ j (hj : j < l.length), p l[j] = true), (l.takeWhile p).length = l.length
  | [], _ => rfl
  | x :: l, h => by
    have hx : p x = true := h 0 (by simp)
    rw [List.takeWhile_cons, if_pos hx, List.length_cons, take_all p l (fun j hj => h (j + 1) (by simpa using hj)), List.length_cons]
theorem run_stop (p : Int → Bool) (s : ByteArray) (n : Nat) (h : n < s.size) (h1 : ∀ j (hj : j < n), p (s[j]'(by omega)).toNat = true) (h2 : p s[n].toNat = false) : run p s = n :=
  take_run (fun b : UInt8 => p b.toNat) s.data.toList n (by simpa using h) (fun j hj => h1 j hj) h2
theorem run_all (p : Int → Bool) (s : ByteArray) (h : ∀ j (hj : j < s.size), p s[j].toNat = true) : run p s = s.size := by
  have := take_all (fun b : UInt8 => p b.toNat) s.data.toList (fun j hj => h j (by simpa using hj))
  rw [run, this]; simp
theorem decode_part {p : Int → Bool} (hp : ∀ r : Int, 128 ≤ r → p r = false) (s : ByteArray) (pos : Nat) (h : pos < s.size) :
    p (Utf8.decode s pos).1 = p s[pos].toNat ∧ (p s[pos].toNat = true → (Utf8.decode s pos).2 = 1) := by
  by_cases ha : s[pos].toNat < 128
  · rw [decode_ascii s pos h ha]; exact ⟨rfl, fun _ => rfl⟩
  · have h1 := decode_high s pos h (by omega)
    rw [hp _ (by omega), hp _ (by omega)]
    exact ⟨rfl, fun h => by simp at h⟩
theorem letter_high (r : Int) (h : 128 ≤ r) : letter r = false := by simp [letter]; omega
theorem digit_high (r : Int) (h : 128 ≤ r) : digit r = false := by simp [digit]; omega
theorem part_high (r : Int) (h : 128 ≤ r) : part r = false := by simp [part, letter_high r h, digit_high r h]; omega
instance instLawfulBytes : LawfulBEq ByteArray where
  eq_of_beq {a b} h := by rw [Lite.ba_beq] at h; exact of_decide_eq_true h
  rfl {a} := by rw [Lite.ba_beq]; exact decide_eq_true rfl
def ownL : List ByteArray := [⟨#[115, 101, 108, 102]⟩, ⟨#[110, 111, 110, 101]⟩, ⟨#[108, 101, 110]⟩, ⟨#[97, 116]⟩]
def isName (s : ByteArray) : Bool := decide (s.size ≠ 0) && decide (s.size ≤ 16) && letter (byteAt s 0) && decide (run part s = s.size) && !decide (s ∈ ownL)
theorem run_le (p : Int → Bool) (s : ByteArray) : run p s ≤ s.size := by
  have := (List.takeWhile_sublist (fun b : UInt8 => p b.toNat) (l := s.data.toList)).length_le
  simpa [run] using this
theorem get_eq (s : ByteArray) (i : Nat) (h : i < s.size) : s.get! i = s[i] := by
  obtain ⟨d⟩ := s
  show d[i]! = d[i]
  exact getElem!_pos d i h
theorem get?_eq (s : ByteArray) (i : Nat) (h : i < s.size) : s[i]? = some (s.get! i) := by rw [get_eq s i h]; exact getElem?_pos s i h
end Abs
end
section
/- Plain: what is wrong with declarations. No program in sight. -/
namespace Abs
open Go
structure Scalar where
  name : ByteArray
  size : Int
structure Var where
  name : ByteArray
  scalar : Int
  over : Int
  lo : Int
  hi : Int
  init : Int
structure Chan where
  name : ByteArray
  scalar : Int
  cap : Int
  lo : Int
  hi : Int
  lossy : Bool
/-- The Size of scalar k; 0: there is none. -/
def size (k : Int) (s : List Scalar) : Int :=
  match s[(k - 1).toNat]? with
  | some x => if 1 ≤ k ∧ 1 ≤ x.size ∧ x.size ≤ 4 then x.size else 0
  | none => 0
def narrow (lo hi : Int) : Bool := decide (-1048576 ≤ lo ∧ lo ≤ hi ∧ hi ≤ 1048576 ∧ hi - lo < 256)
def there (k : Int) (s : List Scalar) : Bool := decide (k = 0 ∨ size k s ≠ 0)
/-- What is wrong with the i-th, its own errors behind those of its name. -/
def err (most : Int) (nm : Nat → ByteArray) (mo : Nat → Int) (i : Nat) : Int :=
  if most ≤ i then 11 else if isName (nm i) = false then 6 else if ∃ j, j < i ∧ nm j = nm i then 7 else mo i
/-- The first that is wrong. -/
def first (n : Nat) (e : Nat → Int) : Int × Int := match (List.range n).find? (fun i => decide (e i ≠ 0)) with | some i => ((i : Int), e i) | none => (0, 0)
theorem first_stop {n : Nat} {e : Nat → Int} {i : Nat} (hi : i < n) (h1 : ∀ j, j < i → e j = 0) (h2 : e i ≠ 0) : first n e = ((i : Int), e i) := by
  have : (List.range n).find? (fun i => decide (e i ≠ 0)) = some i := by
    rw [List.find?_range_eq_some]
    simp only [decide_eq_true_eq]
    exact ⟨h2, by simpa using hi, fun j hj => by simp [h1 j hj]⟩
  rw [first, this]
theorem first_none {n : Nat} {e : Nat → Int} (h : ∀ j, j < n → e j = 0) : first n e = (0, 0) := by
  have : (List.range n).find? (fun i => decide (e i ≠ 0)) = none := by
    rw [List.find?_range_eq_none]
    intro j hj
    simp [h j hj]
  rw [first, this]
def nameAt {α : Type} (f : α → ByteArray) (l : List α) (i : Nat) : ByteArray := (l[i]?.map f).getD ⟨#[]⟩
def scalarErr (l : List Scalar) (i : Nat) : Int := match l[i]? with | some x => if 1 ≤ x.size ∧ x.size ≤ 4 then 0 else 10 | none => 0
def scalars (l : List Scalar) : Int × Int := first l.length (err 2 (nameAt (·.name) l) (scalarErr l))
def bounds (v : Var) (s : List Scalar) : Int × Int := if v.scalar = 0 then (v.lo, v.hi) else (0, size v.scalar s)
def cells (v : Var) (s : List Scalar) : Int := if v.over = 0 then 1 else size v.over s
def varErr (l : List Var) (s : List Scalar) (i : Nat) : Int :=
  match l[i]? with
  | some v => if there v.scalar s = false ∨ there v.over s = false then 8
    else if (v.scalar = 0 ∧ narrow v.lo v.hi = false) ∨ v.init < (bounds v s).1 ∨ v.init > (bounds v s).2 then 10 else 0
  | none => 0
def vars (l : List Var) (s : List Scalar) (most : Int) : Int × Int := first l.length (err (max most 0) (nameAt (·.name) l) (varErr l s))
def chanErr (l : List Chan) (s : List Scalar) (i : Nat) : Int :=
  match l[i]? with
  | some c => if there c.scalar s = false then 8
    else if c.cap < 1 ∨ c.cap > 4 ∨ (c.scalar = 0 ∧ narrow c.lo c.hi = false) then 10 else 0
  | none => 0
def chans (l : List Chan) (s : List Scalar) : Int × Int := first l.length (err 4 (nameAt (·.name) l) (chanErr l s))
end Abs
end
section
/- How the program's data lie in memory. -/
namespace Abs
open Go Go.RowKit Lite
def Scalar.enc (x : Scalar) : List Value := [.string x.name, .int .i64 x.size]
def Var.enc (x : Var) : List Value := [.string x.name, .int .i64 x.scalar, .int .i64 x.over, .int .i64 x.lo, .int .i64 x.hi, .int .i64 x.init]
def Chan.enc (x : Chan) : List Value := [.string x.name, .int .i64 x.scalar, .int .i64 x.cap, .int .i64 x.lo, .int .i64 x.hi, .bool x.lossy]
/-- A name's length is a length. -/
def strOk (s : ByteArray) : Prop := s.size ≤ 9223372036854775807
instance instStrOk (s : ByteArray) : Decidable (strOk s) := Nat.decLe _ _
structure RScalar (w : World) (a : Addr) (x : Scalar) : Prop where
  cells : CellsAt w a x.enc
  ok : strOk x.name
structure RVar (w : World) (a : Addr) (x : Var) : Prop where
  cells : CellsAt w a x.enc
  ok : strOk x.name
structure RChan (w : World) (a : Addr) (x : Chan) : Prop where
  cells : CellsAt w a x.enc
  ok : strOk x.name
theorem RScalar.ext (w w' : World) (a : Addr) (x : Scalar) (he : Ext w w') (h : RScalar w a x) : RScalar w' a x := ⟨h.cells.ext he, h.ok⟩
theorem RVar.ext (w w' : World) (a : Addr) (x : Var) (he : Ext w w') (h : RVar w a x) : RVar w' a x := ⟨h.cells.ext he, h.ok⟩
theorem RChan.ext (w w' : World) (a : Addr) (x : Chan) (he : Ext w w') (h : RChan w a x) : RChan w' a x := ⟨h.cells.ext he, h.ok⟩
abbrev Scalars (w : World) (v : Value) (l : List Scalar) : Prop := SlR 2 RScalar w v l
abbrev Vars (w : World) (v : Value) (l : List Var) : Prop := SlR 6 RVar w v l
abbrev Chans (w : World) (v : Value) (l : List Chan) : Prop := SlR 6 RChan w v l
theorem Scalars.blk {w : World} {b n : Nat} {e : TypeId} {f : Nat × Nat} {xs : List Scalar} (hb : w.heap[b]? = some (.cells (xs.flatMap Scalar.enc).toArray e f)) (hn : n = xs.length) (hm : xs.length ≤ maxLen) (hok : ∀ x ∈ xs, strOk x.name) :
    Scalars w (.slice (some ⟨b, 0, none⟩) n n) xs := SlR.blk (enc := Scalar.enc) (fun _ => rfl) hb hn hm fun _ x hx hc => ⟨hc, hok x hx⟩
theorem Vars.blk {w : World} {b n : Nat} {e : TypeId} {f : Nat × Nat} {xs : List Var} (hb : w.heap[b]? = some (.cells (xs.flatMap Var.enc).toArray e f)) (hn : n = xs.length) (hm : xs.length ≤ maxLen) (hok : ∀ x ∈ xs, strOk x.name) :
    Vars w (.slice (some ⟨b, 0, none⟩) n n) xs := SlR.blk (enc := Var.enc) (fun _ => rfl) hb hn hm fun _ x hx hc => ⟨hc, hok x hx⟩
theorem Chans.blk {w : World} {b n : Nat} {e : TypeId} {f : Nat × Nat} {xs : List Chan} (hb : w.heap[b]? = some (.cells (xs.flatMap Chan.enc).toArray e f)) (hn : n = xs.length) (hm : xs.length ≤ maxLen) (hok : ∀ x ∈ xs, strOk x.name) :
    Chans w (.slice (some ⟨b, 0, none⟩) n n) xs := SlR.blk (enc := Chan.enc) (fun _ => rfl) hb hn hm fun _ x hx hc => ⟨hc, hok x hx⟩
end Abs
end
section
/- How models lie in memory. -/
namespace Abs
open Go Go.RowKit Lite
structure Node where
  op : Int
  n : Int
structure Act where
  kind : Int
  to : Int
  loc : Int
  index : List Node
  value : List Node
structure Cmd where
  name : ByteArray
  from_ : Int
  to : Int
  guard : List Node
  acts : List Act
  fair : Bool
structure Proc where
  name : ByteArray
  over : Int
  locs : Int
  vars : List Var
  cmds : List Cmd
structure Prp where
  name : ByteArray
  expr : List Node
structure Model where
  scalars : List Scalar
  vars : List Var
  chans : List Chan
  procs : List Proc
  props : List Prp
structure Inst where
  proc : Int
  elem : Int
deriving DecidableEq
structure Ref where
  inst : Int
  cmd : Int
deriving DecidableEq
def Inst.enc (x : Inst) : List Value := [.int .i64 x.proc, .int .i64 x.elem]
def Ref.enc (x : Ref) : List Value := [.int .i64 x.inst, .int .i64 x.cmd]
def Node.enc (x : Node) : List Value := [.int .i64 x.op, .int .i64 x.n]
/-- A number that a machine's word holds. -/
def inI (n : Int) : Prop := -9223372036854775808 ≤ n ∧ n ≤ 9223372036854775807
structure Node.ok (x : Node) : Prop where
  op : inI x.op
  n : inI x.n
structure RNode (w : World) (a : Addr) (x : Node) : Prop where
  cells : CellsAt w a x.enc
  ok : x.ok
theorem RNode.ext (w w' : World) (a : Addr) (x : Node) (he : Ext w w') (h : RNode w a x) : RNode w' a x := ⟨h.cells.ext he, h.ok⟩
abbrev Nodes (w : World) (v : Value) (l : List Node) : Prop := SlR 2 RNode w v l
theorem Nodes.ext {w w' : World} {v : Value} {l : List Node} (he : Ext w w') (h : Nodes w v l) : Nodes w' v l := SlR.ext RNode.ext he h
/-- The cells of an action: the slots of its lists are as they are. -/
def Act.enc (x : Act) (vi vv : Value) : List Value := [.int .i64 x.kind, .int .i64 x.to, .int .i64 x.loc, vi, vv]
def RAct (w : World) (a : Addr) (x : Act) : Prop := ∃ vi vv, CellsAt w a (x.enc vi vv) ∧ Nodes w vi x.index ∧ Nodes w vv x.value
theorem RAct.ext (w w' : World) (a : Addr) (x : Act) (he : Ext w w') (h : RAct w a x) : RAct w' a x := let ⟨vi, vv, h1, h2, h3⟩ := h; ⟨vi, vv, h1.ext he, h2.ext he, h3.ext he⟩
abbrev Acts (w : World) (v : Value) (l : List Act) : Prop := SlR 5 RAct w v l
theorem Acts.ext {w w' : World} {v : Value} {l : List Act} (he : Ext w w') (h : Acts w v l) : Acts w' v l := SlR.ext RAct.ext he h
def Cmd.enc (x : Cmd) (vg va : Value) : List Value := [.string x.name, .int .i64 x.from_, .int .i64 x.to, vg, va, .bool x.fair]
def RCmd (w : World) (a : Addr) (x : Cmd) : Prop := strOk x.name ∧ ∃ vg va, CellsAt w a (x.enc vg va) ∧ Nodes w vg x.guard ∧ Acts w va x.acts
theorem RCmd.ext (w w' : World) (a : Addr) (x : Cmd) (he : Ext w w') (h : RCmd w a x) : RCmd w' a x := let ⟨h0, vi, vv, h1, h2, h3⟩ := h; ⟨h0, vi, vv, h1.ext he, h2.ext he, h3.ext he⟩
abbrev Cmds (w : World) (v : Value) (l : List Cmd) : Prop := SlR 6 RCmd w v l
theorem Cmds.ext {w w' : World} {v : Value} {l : List Cmd} (he : Ext w w') (h : Cmds w v l) : Cmds w' v l := SlR.ext RCmd.ext he h
theorem Scalars.ext {w w' : World} {v : Value} {l : List Scalar} (he : Ext w w') (h : Scalars w v l) : Scalars w' v l := SlR.ext RScalar.ext he h
theorem Vars.ext {w w' : World} {v : Value} {l : List Var} (he : Ext w w') (h : Vars w v l) : Vars w' v l := SlR.ext RVar.ext he h
theorem Chans.ext {w w' : World} {v : Value} {l : List Chan} (he : Ext w w') (h : Chans w v l) : Chans w' v l := SlR.ext RChan.ext he h
def Proc.enc (x : Proc) (vv vc : Value) : List Value := [.string x.name, .int .i64 x.over, .int .i64 x.locs, vv, vc]
def RProc (w : World) (a : Addr) (x : Proc) : Prop := strOk x.name ∧ ∃ vv vc, CellsAt w a (x.enc vv vc) ∧ Vars w vv x.vars ∧ Cmds w vc x.cmds
theorem RProc.ext (w w' : World) (a : Addr) (x : Proc) (he : Ext w w') (h : RProc w a x) : RProc w' a x := let ⟨h0, vi, vv, h1, h2, h3⟩ := h; ⟨h0, vi, vv, h1.ext he, h2.ext he, h3.ext he⟩
abbrev Procs (w : World) (v : Value) (l : List Proc) : Prop := SlR 5 RProc w v l
theorem Procs.ext {w w' : World} {v : Value} {l : List Proc} (he : Ext w w') (h : Procs w v l) : Procs w' v l := SlR.ext RProc.ext he h
def CmdIs (w : World) (cs : List Value) (c : Cmd) : Prop := strOk c.name ∧ ∃ vg va, cs = c.enc vg va ∧ Nodes w vg c.guard ∧ Acts w va c.acts
theorem CmdIs.ext {w w' : World} {cs : List Value} {c : Cmd} (he : Ext w w') (h : CmdIs w cs c) : CmdIs w' cs c := let ⟨h0, vi, vv, h1, h2, h3⟩ := h; ⟨h0, vi, vv, h1, h2.ext he, h3.ext he⟩
def ProcIs (w : World) (cs : List Value) (p : Proc) : Prop := strOk p.name ∧ ∃ vv vc, cs = p.enc vv vc ∧ Vars w vv p.vars ∧ Cmds w vc p.cmds
theorem ProcIs.ext {w w' : World} {cs : List Value} {p : Proc} (he : Ext w w') (h : ProcIs w cs p) : ProcIs w' cs p := let ⟨h0, vi, vv, h1, h2, h3⟩ := h; ⟨h0, vi, vv, h1, h2.ext he, h3.ext he⟩
def Prp.enc (x : Prp) (ve : Value) : List Value := [.string x.name, ve]
def RPrp (w : World) (a : Addr) (x : Prp) : Prop := strOk x.name ∧ ∃ ve, CellsAt w a (x.enc ve) ∧ Nodes w ve x.expr
theorem RPrp.ext (w w' : World) (a : Addr) (x : Prp) (he : Ext w w') (h : RPrp w a x) : RPrp w' a x := let ⟨h0, vi, h1, h2⟩ := h; ⟨h0, vi, h1.ext he, h2.ext he⟩
abbrev Prps (w : World) (v : Value) (l : List Prp) : Prop := SlR 2 RPrp w v l
theorem Prps.ext {w w' : World} {v : Value} {l : List Prp} (he : Ext w w') (h : Prps w v l) : Prps w' v l := SlR.ext RPrp.ext he h
/-- The five cells of a model. -/
structure ModelIs (w : World) (cs : List Value) (m : Model) : Prop where
  ex : ∃ v0 v1 v2 v3 v4, cs = [v0, v1, v2, v3, v4] ∧ Scalars w v0 m.scalars ∧ Vars w v1 m.vars ∧ Chans w v2 m.chans ∧ Procs w v3 m.procs ∧ Prps w v4 m.props
theorem ModelIs.ext {w w' : World} {cs : List Value} {m : Model} (he : Ext w w') (h : ModelIs w cs m) : ModelIs w' cs m :=
  let ⟨v0, v1, v2, v3, v4, e, h0, h1, h2, h3, h4⟩ := h.ex
  ⟨v0, v1, v2, v3, v4, e, h0.ext he, h1.ext he, h2.ext he, h3.ext he, h4.ext he⟩
instance instCelNode : Cel RNode Node.enc := ⟨fun _ _ _ h => h.cells⟩
instance instCelScalar : Cel RScalar Scalar.enc := ⟨fun _ _ _ h => h.cells⟩
instance instCelVar : Cel RVar Var.enc := ⟨fun _ _ _ h => h.cells⟩
instance instCelChan : Cel RChan Chan.enc := ⟨fun _ _ _ h => h.cells⟩
end Abs
end
section
/- Lite, part 13: straight on, through new blocks too. -/
namespace Lite
open Go Go.RowKit
section
variable {P : Program} {K3 : Value → Prop} {w w0 : World}
theorem K.ldC {a : Addr} {cs : List Value} {j : Nat} {v : Value} {t} (h : CellsAt w0 a cs) (he : Ext w0 w) (hj : cs[j]? = some v) (hk : K3 v) : LdVCh (.pointer (some (a.add j))) w K3 t := K.ld (he.cell (h j v hj)) hk
theorem K.ldAC {a : Addr} {cs : List Value} {n : Nat} {t} (h : CellsAt w0 a cs) (he : Ext w0 w) (hn : cs.length = n) (hk : K3 (.agg cs.toArray)) : LdAVCh n (.pointer (some a)) w K3 t := K.ldA (h.ext he) hn hk
end
/-- Straight on, through new blocks too. -/
theorem Sg {A B : Prop} (k : B) (h : Hold B → A := by
  intro q
  (repeat' first
  | assumption
  | exact Ext.refl _
  | refine Ext.trans ?_ (by assumption)
  | simp -dsimp only [LL,B9,Nat.reduceAdd,Nat.reduceEqDiff,reduceIte,reduceCtorEq,Bool.false_eq_true,slots_nil,slots_cons,keepV_nil,keepV_cons,has_nil,has_cons,List.cons_append,List.nil_append]
  | refine K.wrap (by omega) ?_
  | refine K.ldb (by assumption) ?_ rfl ?_
  | refine K.ldb0 (by assumption) ?_ rfl ?_
  | refine K.iaC (by omega) ?_
  | refine K.condT (by first | assumption | omega) ?_
  | refine K.condF (by first | assumption | omega) ?_
  | refine K.condbT (by assumption) ?_
  | refine K.condbF (by assumption) ?_
  | refine K.ldE (by assumption) ?_ (by omega) rfl ?_
  | refine K.ldE0 (by assumption) ?_ (by omega) rfl ?_
  | refine K.ldAE (by assumption) ?_ (by omega) rfl ?_
  | refine K.ldC (by assumption) ?_ rfl ?_
  | refine K.ldAC (by assumption) ?_ rfl ?_
  | refine K.ldAb (by assumption) ?_ rfl ?_
  | refine K.newst (fun _ => by (simp -dsimp only [LL,Nat.reduceAdd,Nat.reduceEqDiff,reduceIte,reduceCtorEq,Bool.false_eq_true]); rfl) rfl rfl (by first | assumption | (simp [Value.oneCell',Abs.Inst.enc,Abs.Ref.enc,Abs.Node.enc,Abs.Scalar.enc,Abs.Var.enc,Abs.Chan.enc,Abs.Act.enc,Abs.Cmd.enc,Abs.Proc.enc,Abs.Prp.enc]; done)) ?_
  | refine K.new ?_
  | refine K.stAb (by assumption) rfl rfl (by first | assumption | (simp [Value.oneCell',Abs.Inst.enc,Abs.Ref.enc,Abs.Node.enc,Abs.Scalar.enc,Abs.Var.enc,Abs.Chan.enc,Abs.Act.enc,Abs.Cmd.enc,Abs.Proc.enc,Abs.Prp.enc]; done)) ?_
  | refine K.st1 (by assumption) (Nat.le_of_ble_eq_true rfl) rfl ?_
  | refine K.st0 (by assumption) (Nat.le_of_ble_eq_true rfl) rfl ?_
  | refine K.bldSa (by (simp only [fillC, lay, ev_const, ev_tmp, upd_at, Value.cells, Nat.reduceAdd, Nat.reduceEqDiff, reduceIte, List.range, List.range.loop, List.map_cons, List.map_nil]); rfl) ?_
  | refine K.bld (by (simp only [fillC, lay, ev_const, ev_tmp, upd_at, Value.cells, Nat.reduceAdd, Nat.reduceEqDiff, reduceIte]); rfl) ?_)
  exact q.out) : A := h ⟨k⟩
/-- The same, no further than the next sequence. -/
theorem Su {A B : Prop} (k : B) (h : Hold B → A := by
  intro q
  (repeat' first
  | assumption
  | exact Ext.refl _
  | refine Ext.trans ?_ (by assumption)
  | simp -dsimp only [LL,Nat.reduceAdd,Nat.reduceEqDiff,reduceIte,reduceCtorEq,Bool.false_eq_true,slots_nil,slots_cons,keepV_nil,keepV_cons,has_nil,has_cons,List.cons_append,List.nil_append]
  | refine K.wrap (by omega) ?_
  | refine K.ldb (by assumption) ?_ rfl ?_
  | refine K.ldb0 (by assumption) ?_ rfl ?_
  | refine K.iaC (by omega) ?_
  | refine K.condT (by first | assumption | omega) ?_
  | refine K.condF (by first | assumption | omega) ?_
  | refine K.condbT (by assumption) ?_
  | refine K.condbF (by assumption) ?_
  | refine K.ldE (by assumption) ?_ (by omega) rfl ?_
  | refine K.ldE0 (by assumption) ?_ (by omega) rfl ?_
  | refine K.ldAE (by assumption) ?_ (by omega) rfl ?_
  | refine K.ldC (by assumption) ?_ rfl ?_
  | refine K.ldAC (by assumption) ?_ rfl ?_
  | refine K.ldAb (by assumption) ?_ rfl ?_
  | refine K.newst (fun _ => by (simp -dsimp only [LL,Nat.reduceAdd,Nat.reduceEqDiff,reduceIte,reduceCtorEq,Bool.false_eq_true]); rfl) rfl rfl (by first | assumption | (simp [Value.oneCell',Abs.Inst.enc,Abs.Ref.enc,Abs.Node.enc,Abs.Scalar.enc,Abs.Var.enc,Abs.Chan.enc,Abs.Act.enc,Abs.Cmd.enc,Abs.Proc.enc,Abs.Prp.enc]; done)) ?_
  | refine K.new ?_
  | refine K.stAb (by assumption) rfl rfl (by first | assumption | (simp [Value.oneCell',Abs.Inst.enc,Abs.Ref.enc,Abs.Node.enc,Abs.Scalar.enc,Abs.Var.enc,Abs.Chan.enc,Abs.Act.enc,Abs.Cmd.enc,Abs.Proc.enc,Abs.Prp.enc]; done)) ?_
  | refine K.st1 (by assumption) (Nat.le_of_ble_eq_true rfl) rfl ?_
  | refine K.st0 (by assumption) (Nat.le_of_ble_eq_true rfl) rfl ?_
  | refine K.bldSa (by (simp only [fillC, lay, ev_const, ev_tmp, upd_at, Value.cells, Nat.reduceAdd, Nat.reduceEqDiff, reduceIte, List.range, List.range.loop, List.map_cons, List.map_nil]); rfl) ?_
  | refine K.bld (by (simp only [fillC, lay, ev_const, ev_tmp, upd_at, Value.cells, Nat.reduceAdd, Nat.reduceEqDiff, reduceIte]); rfl) ?_)
  exact q.out) : A := h ⟨k⟩
end Lite
end
section
/- Lite, part 14: what hangs on some blocks alone; rows of one's own whose elements hold more than cells; structs compared. -/
set_option maxRecDepth 4000
namespace Lite
open Go Go.RowKit
/-! ### What does not hang on some blocks -/
/-- It holds, whatever becomes of these blocks, and whatever is laid behind. -/
def Stab (A : Nat → Prop) (p : World → Prop) (w : World) : Prop := ∀ w', Mod A w w' → p w'
theorem Stab.here {A : Nat → Prop} {p : World → Prop} {w : World} (h : Stab A p w) : p w := h w (Mod.refl A w)
theorem Mod.comp {A A' B : Nat → Prop} {a b c : World} (h : Mod A a b) (k : Mod A' b c) (h1 : ∀ i, i < a.heap.size → A i → B i) (h2 : ∀ i, i < a.heap.size → A' i → B i) : Mod B a c :=
  ⟨k.os.trans h.os, k.tape.trans h.tape, k.output.trans h.output, Nat.le_trans h.size k.size, fun i hi hn => (k.block i (Nat.lt_of_lt_of_le hi h.size) fun e => hn (h2 i hi e)).trans (h.block i hi fun e => hn (h1 i hi e))⟩
theorem Stab.move {A A' B : Nat → Prop} {p : World → Prop} {w w' : World} (h : Stab B p w) (m : Mod A w w') (h1 : ∀ i, i < w.heap.size → A i → B i) (h2 : ∀ i, i < w.heap.size → A' i → B i) : Stab A' p w' :=
  fun w'' k => h w'' (m.comp k h1 h2)
theorem Stab.mono {A B : Nat → Prop} {p : World → Prop} {w : World} (h : Stab B p w) (h2 : ∀ i, i < w.heap.size → A i → B i) : Stab A p w := h.move (Mod.refl A w) h2 h2
theorem Stab.ext {B : Nat → Prop} {p : World → Prop} {w w' : World} (h : Stab B p w) (e : Ext w w') (hB : ∀ i, w.heap.size ≤ i → ¬ B i) : Stab B p w' :=
  h.move (A := fun _ => False) e.mod (fun _ _ h => h.elim) (fun _ _ h => h)
theorem Stab.imp {A : Nat → Prop} {p q : World → Prop} {w : World} (h : Stab A p w) (hpq : ∀ w, p w → q w) : Stab A q w := fun w' m => hpq w' (h w' m)
theorem Stab.and {A : Nat → Prop} {p q : World → Prop} {w : World} (h : Stab A p w) (k : Stab A q w) : Stab A (fun w => p w ∧ q w) w := fun w' m => ⟨h w' m, k w' m⟩
theorem Stab.of {A : Nat → Prop} {p : World → Prop} {w : World} (h : ∀ w', p w') : Stab A p w := fun w' _ => h w'
/-- What a function made: it hangs on what is new alone. -/
abbrev New (w : World) (p : World → Prop) (w' : World) : Prop := Stab (fun k => k < w.heap.size) p w'
theorem New.ext {w w1 w2 : World} {p : World → Prop} (h : New w p w1) (he : Ext w1 w2) (h0 : w.heap.size ≤ w1.heap.size) : New w p w2 :=
  Stab.ext h he fun i hi hk => by omega
theorem New.low {w w0 w1 : World} {p : World → Prop} (h : New w p w1) (h0 : w0.heap.size ≤ w.heap.size) : New w0 p w1 := h.mono fun i _ hi => by omega
theorem New.wr {w w1 w2 : World} {p : World → Prop} {b : Nat} (h : New w p w1) (hw : Wr b w1 w2) (hb : b < w.heap.size) : New w p w2 :=
  Stab.move h (A := fun k => k = b) (hw.mod rfl) (fun i _ e => by omega) (fun i _ e => e)
theorem New.grown {w w1 w2 : World} {p : World → Prop} {row : Option Nat} (h : New w p w1) (hg : w1.grownBy w2 row) (hb : ∀ k, row = some k → k < w.heap.size) : New w p w2 :=
  Stab.move h (A := fun k => row = some k) (Mod.grown hg fun k hk => hk) (fun i _ e => hb i e) (fun i _ e => e)
theorem New.and {w w1 : World} {p q : World → Prop} (h : New w p w1) (k : New w q w1) : New w (fun w => p w ∧ q w) w1 := Stab.and h k
theorem New.imp {w w1 : World} {p q : World → Prop} (h : New w p w1) (hpq : ∀ w, p w → q w) : New w q w1 := Stab.imp h hpq
/-! ### Elements by their cells -/
class Rel {α : Type} (R : World → Addr → α → Prop) (C : outParam (World → List Value → α → Prop)) (sz : outParam Nat) : Prop where
  out : ∀ {w a x}, R w a x → ∃ cs, CellsAt w a cs ∧ C w cs x
  inn : ∀ {w a cs x}, CellsAt w a cs → C w cs x → R w a x
  len : ∀ {w cs x}, C w cs x → cs.length = sz
  one : ∀ {w cs x}, C w cs x → ∀ u ∈ cs, u.oneCell' = true
  ext : ∀ {w w' cs x}, Ext w w' → C w cs x → C w' cs x
/-- So many cells. -/
abbrev Cs (sz : Nat) := {cs : List Value // cs.length = sz ∧ ∀ u ∈ cs, u.oneCell' = true}
def encC {sz : Nat} (c : Cs sz) : List Value := c.1
theorem encC_len {sz : Nat} (c : Cs sz) : (encC c).length = sz := c.2.1
theorem encC_one {sz : Nat} (c : Cs sz) : ∀ u ∈ encC c, u.oneCell' = true := c.2.2
abbrev OwC (e : TypeId) (sz base : Nat) (w : World) (v : Value) (css : List (Cs sz)) : Prop := OwR encC e sz base w v css
/-- Of a list in memory the cells. -/
theorem SlR.cells {α : Type} {R : World → Addr → α → Prop} {C : World → List Value → α → Prop} {sz : Nat} [Rel R C sz] {w : World} {v : Value} {xs : List α} (h : SlR sz R w v xs) :
    ∃ css : List (Cs sz), css.length = xs.length ∧ SlR sz (Flat encC) w v css ∧ ∀ i (h1 : i < css.length) (h2 : i < xs.length), C w css[i].1 xs[i] := by
  obtain ⟨oa, cap, rfl, h1, h2, h3, h4⟩ := h.ex
  obtain ⟨css, hl, hc⟩ := list_of xs.length (fun i (c : Cs sz) => (∀ a, oa = some a → CellsAt w (a.add (i * sz)) c.1) ∧ ∀ (h : i < xs.length), C w c.1 xs[i]) fun i hi => by
    obtain ⟨a, rfl⟩ := Option.isSome_iff_exists.1 (h3 (by intro e; subst e; simp at hi))
    obtain ⟨cs, c1, c2⟩ := Rel.out (h4 a rfl i hi)
    exact ⟨⟨cs, Rel.len (R := R) c2, Rel.one (R := R) c2⟩, fun a' e => by injection e with e; subst e; exact c1, fun _ => c2⟩
  refine ⟨css, hl, ⟨oa, cap, by rw [hl], by omega, h2, fun hn => h3 (by intro e; subst e; simp at hl; exact hn hl), fun a ha i hi => (hc i hi).1 a ha⟩, fun i h1 h2 => (hc i h1).2 h2⟩
theorem SlR.ofCells {α : Type} {R : World → Addr → α → Prop} {C : World → List Value → α → Prop} {sz : Nat} [Rel R C sz] {w : World} {v : Value} {xs : List α} {css : List (Cs sz)} (hl : css.length = xs.length) (h : SlR sz (Flat encC) w v css)
    (hc : ∀ i (h1 : i < css.length) (h2 : i < xs.length), C w css[i].1 xs[i]) : SlR sz R w v xs := by
  obtain ⟨oa, cap, rfl, h1, h2, h3, h4⟩ := h.ex
  refine ⟨oa, cap, by rw [hl], by omega, h2, fun hn => h3 (by intro e; subst e; simp at hl; exact hn (List.eq_nil_of_length_eq_zero hl.symm)), fun a ha i hi => Rel.inn (h4 a ha i (by omega)) (hc i (by omega) hi)⟩
/-- One row is put behind another: its block is the old one, or a new one. -/
theorem K.appAt {P : Program} {KK : Value → World → Prop} {α : Type} {enc : α → List Value} {e : TypeId} {sz base : Nat} {w : World} {xs : List α} {ty : TypeId} {b : Nat} {s : Value} {a : Addr} {m c : Nat} {ys : List α} {t} (hs : OwR enc e sz base w s xs) (hsz : ∀ x, (enc x).length = sz) (hc : CellsAt w a (ys.flatMap enc)) (hm : m = ys.length)
    (h1 : ∀ y, ∀ u ∈ enc y, u.oneCell' = true) (hb : (xs.length + ys.length) * b ≤ 140737488355328) (h63 : xs.length + ys.length ≤ maxLen) (hbase : base ≤ w.heap.size)
    (hk : ∀ v' w', OwR enc e sz base w' v' (xs ++ ys) → w.grownBy w' s.ownBlock → (v'.ownBlock = s.ownBlock ∨ v'.ownBlock = some w.heap.size) → KK v' w') : AppVCh P ty e sz b s (.slice (some a) m c) w KK t := by
  subst hm
  refine K.app fun ⟨ht, i, z, hi, hz, hsize, hby, hzs, hsz'⟩ => ?_
  obtain ⟨v', w', hr, h2, h3, _, h5⟩ := run_append_own_at (P := P) w base ty ty e i z sz b ht hi hz hsize hby hzs hsz' s _ _ hs a _ c _ (flat_len hsz ys) hc (fun u hu => by obtain ⟨y, _, hy⟩ := List.mem_flatMap.1 hu; exact h1 y u hy) h63 hb hbase
  refine ⟨ty, v', w', hr, hk v' w' ?_ h3 h5⟩
  unfold OwR
  rw [List.length_append, List.flatMap_append]
  exact h2
/-- Blocks that may change while a row of one's own is being built. -/
def Own1 (v : Value) (base k : Nat) : Prop := v.ownBlock = some k ∨ k < base
/-- A row of one's own: each element is what its cells say, however the row grows. -/
structure RowC {α : Type} (C : World → List Value → α → Prop) (e : TypeId) (sz base : Nat) (w : World) (v : Value) (xs : List α) : Prop where
  ex : ∃ css : List (Cs sz), css.length = xs.length ∧ OwC e sz base w v css ∧ ∀ i (h1 : i < css.length) (h2 : i < xs.length), Stab (Own1 v base) (fun w => C w css[i].1 xs[i]) w
section
variable {α : Type} {C : World → List Value → α → Prop} {e : TypeId} {sz base : Nat} {w w' : World} {v : Value} {xs : List α}
theorem RowC.nil (C : World → List Value → α → Prop) (e : TypeId) (sz base : Nat) (w : World) : RowC C e sz base w (.slice none 0 0) [] := ⟨[], rfl, OwR.nil _ _ _ _ _, fun i h => by cases h⟩
theorem RowC.form (h : RowC C e sz base w v xs) : ∃ oa cap, v = .slice oa xs.length cap ∧ xs.length ≤ cap ∧ cap ≤ maxLen := by
  obtain ⟨css, hl, ho, _⟩ := h.ex
  obtain ⟨oa, cap, h1, h2, h3⟩ := ho.form
  exact ⟨oa, cap, by rw [h1, hl], by omega, h3⟩
theorem RowC.lt (h : RowC C e sz base w v xs) : ∀ k, v.ownBlock = some k → base ≤ k ∧ k < w.heap.size := by
  obtain ⟨css, hl, ho, _⟩ := h.ex
  exact ho.lt
theorem OwR.mod {enc : α → List Value} {A : Nat → Prop} (h : OwR enc e sz base w v xs) (m : Mod A w w') (hA : ∀ k, v.ownBlock = some k → ¬ A k) : OwR enc e sz base w' v xs := by
  refine ⟨h.1, ?_⟩
  rcases h.2 with hn | ⟨g, cap, cur, rfl, hb, hg, rest⟩
  · exact .inl hn
  · exact .inr ⟨g, cap, cur, rfl, hb, m.obj (hA g rfl) hg, rest⟩
theorem OwR.blk {enc : α → List Value} (h : OwR enc e sz base w v xs) : ∀ k, v.ownBlock = some k → ∃ cur, w.heap[k]? = some (.cells cur e) := fun k hk => by
  rcases h.2 with ⟨rfl, _⟩ | ⟨g, cap, cur, rfl, hb, hg, rest⟩
  · cases hk
  · simp only [Value.ownBlock, Option.some.injEq] at hk
    subst hk
    exact ⟨cur, hg⟩
theorem RowC.mod {A : Nat → Prop} (h : RowC C e sz base w v xs) (m : Mod A w w') (hA : ∀ k, k < w.heap.size → A k → k < base) : RowC C e sz base w' v xs := by
  obtain ⟨css, hl, ho, hc⟩ := h.ex
  refine ⟨css, hl, ho.mod m fun k hk a => ?_, fun i h1 h2 => (hc i h1 h2).move m (fun i hi a => .inr (hA i hi a)) fun _ _ a => a⟩
  have := ho.lt k hk
  have := hA k this.2 a
  omega
theorem RowC.ext (h : RowC C e sz base w v xs) (m : Ext w w') : RowC C e sz base w' v xs := h.mod (A := fun _ => False) m.mod fun _ _ h => h.elim
theorem RowC.wr {b : Nat} (h : RowC C e sz base w v xs) (m : Wr b w w') (hb : b < base) : RowC C e sz base w' v xs := h.mod (A := fun k => k = b) (m.mod rfl) fun k _ e => by omega
theorem RowC.new {R : World → Addr → α → Prop} [Rel R C sz] (h : RowC C e sz base w v xs) : Stab (fun k => k < base) (fun w => SlR sz R w v xs) w := fun w' m => by
  have h' := h.mod m fun k _ a => a
  obtain ⟨css, hl, ho, hc⟩ := h'.ex
  exact SlR.ofCells hl (ho.slr encC_len) fun i h1 h2 => (hc i h1 h2).here
theorem RowC.slr {R : World → Addr → α → Prop} [Rel R C sz] (h : RowC C e sz base w v xs) : SlR sz R w v xs := (h.new (R := R)).here
theorem RowC.under (h : RowC C e sz base w v xs) (hb : base ≤ w.heap.size) : ∀ k, Own1 v base k → k < w.heap.size := fun k hk => by
  rcases hk with hk | hk
  · exact (h.lt k hk).2
  · omega
theorem New.own {p : World → Prop} {w1 : World} (hn : New w p w1) (h : RowC C e sz base w v xs) (hb : base ≤ w.heap.size) : Stab (Own1 v base) p w1 := hn.mono fun i _ hi => h.under hb i hi
/-- What an own row's growth leaves: blocks of other types. -/
theorem RowC.box {t : TypeId} {k : Nat} {c : Array Value} (ho : RowC C e sz base w v xs) (hg : w.grownBy w' v.ownBlock) (hk : w.heap[k]? = some (.cells c t)) (ht : t ≠ e) : w'.heap[k]? = some (.cells c t) := by
  obtain ⟨css, _, ho, _⟩ := ho.ex
  rw [hg.block k (lt_of_heap hk) fun e' => ?_]
  · exact hk
  rcases ho.2 with ⟨rfl, _⟩ | ⟨g, cap, c2, rfl, _, hgg, _⟩
  · cases e'
  · simp only [Value.ownBlock, Option.some.injEq] at e'
    subst e'
    rw [hgg] at hk
    injection hk with hk
    injection hk with _ hk
    exact ht hk.symm
theorem RowC.extG {w0 : World} (ho : RowC C e sz base w v xs) (he : Ext w0 w) (hg : w.grownBy w' v.ownBlock) (hb : w0.heap.size ≤ base) : Ext w0 w' := he.grown hg fun k hk => Nat.le_trans hb (ho.lt k hk).1
/-- One element is put behind. -/
theorem K.appC {P : Program} {KK : Value → World → Prop} {ty : TypeId} {b : Nat} {a : Addr} {c : Nat} {cs : List Value} {x : α} {t} (hs : RowC C e sz base w v xs) (hc : CellsAt w a cs) (hC : Stab (Own1 v base) (fun w => C w cs x) w)
    (hsz : cs.length = sz) (h1 : ∀ u ∈ cs, u.oneCell' = true) (hb : (xs.length + 1) * b ≤ 140737488355328) (h63 : xs.length + 1 ≤ maxLen) (hbase : base ≤ w.heap.size)
    (hk : ∀ v' w', RowC C e sz base w' v' (xs ++ [x]) → w.grownBy w' v.ownBlock → KK v' w') : AppVCh P ty e sz b v (.slice (some a) 1 c) w KK t := by
  obtain ⟨css, hl, ho, hst⟩ := hs.ex
  refine K.appAt (enc := encC) (ys := [(⟨cs, hsz, h1⟩ : Cs sz)]) ho encC_len (by simpa [encC] using hc) rfl encC_one (by rw [hl]; exact hb) (by rw [hl]; exact h63) hbase fun v' w' ho' hg hat => hk v' w' ⟨css ++ [⟨cs, hsz, h1⟩], by simp [hl], ho', fun i h1 h2 => ?_⟩ hg
  have hm : Mod (fun k => v.ownBlock = some k) w w' := Mod.grown hg fun k hk => hk
  have hown : ∀ k, k < w.heap.size → v'.ownBlock = some k → Own1 v base k := fun k hk he => by
    rcases hat with e | e
    · exact .inl (e ▸ he)
    · rw [e] at he; injection he with he; omega
  have key : ∀ {p : World → Prop}, Stab (Own1 v base) p w → Stab (Own1 v' base) p w' := fun {p} h => h.move hm (fun i _ a => .inl a) fun i hi a => by
    rcases a with a | a
    · exact hown i hi a
    · exact .inr a
  rw [List.length_append] at h1 h2
  by_cases hi : i < css.length
  · have hi2 : i < xs.length := by omega
    have := key (hst i hi hi2)
    simpa [List.getElem_append, hi, hi2] using this
  · have e1 : i = css.length := by simp at h1; omega
    subst e1
    have e2 : ¬ css.length < xs.length := by omega
    have := key hC
    simpa [List.getElem_append, e2] using this
end
section
variable {α : Type} {enc : α → List Value} {e : TypeId} {sz base : Nat} {w w' : World} {v : Value} {xs : List α}
/-- What an own row's growth leaves: blocks of other types. -/
theorem OwR.box {t : TypeId} {k : Nat} {c : Array Value} (ho : OwR enc e sz base w v xs) (hg : w.grownBy w' v.ownBlock) (hk : w.heap[k]? = some (.cells c t)) (ht : t ≠ e) : w'.heap[k]? = some (.cells c t) := by
  rw [hg.block k (lt_of_heap hk) fun e' => ?_]
  · exact hk
  · obtain ⟨cur, h⟩ := ho.blk k e'.symm
    rw [hk] at h; injection h with h; injection h with _ h; exact ht h
theorem OwR.extG {w0 : World} (ho : OwR enc e sz base w v xs) (he : Ext w0 w) (hg : w.grownBy w' v.ownBlock) (hb : w0.heap.size ≤ base) : Ext w0 w' := he.grown hg fun k hk => Nat.le_trans hb (ho.lt k hk).1
end
theorem row_sz {α : Type} {l : List α} {k b : Nat} (hk : k < l.length) (hb : l.length * b ≤ 140737488351232) (hm : l.length ≤ 9223372036854775807) : ((l.take k).length + 1) * b ≤ 140737488355328 ∧ (l.take k).length + 1 ≤ maxLen := by
  have e : (l.take k).length = k := by rw [List.length_take]; omega
  rw [e]
  have := Nat.mul_le_mul_right b (show k + 1 ≤ l.length from hk)
  exact ⟨by omega, by unfold maxLen; omega⟩
theorem RowC.snoc {α : Type} {C : World → List Value → α → Prop} {e : TypeId} {sz base : Nat} {w : World} {v : Value} {l : List α} {k : Nat} (hk : k < l.length) (h : RowC C e sz base w v (l.take k ++ [l[k]])) : RowC C e sz base w v (l.take (k + 1)) := by
  rw [List.take_succ_eq_append_getElem hk]; exact h
theorem RowC.done {α : Type} {C : World → List Value → α → Prop} {e : TypeId} {sz base : Nat} {w : World} {v : Value} {l : List α} {k : Nat} (hk : l.length ≤ k) (h : RowC C e sz base w v (l.take k)) : RowC C e sz base w v l := by
  rwa [List.take_of_length_le hk] at h
end Lite
end
section
/- Lite, part 15: structs, and slices with nothing, compared; lists compared, cloned, searched: by the shape of the code. -/
set_option maxRecDepth 4000
namespace Lite
open Go Go.RowKit
/-- Kinds of plain cells. -/
inductive VK where
  | i
  | b
  | s
deriving DecidableEq
def VK.of : TypeDesc → Option VK
  | .int .i64 => some .i
  | .bool => some .b
  | .string => some .s
  | _ => none
theorem VK.of_i {td : TypeDesc} (h : VK.of td = some .i) : td = .int .i64 := by unfold VK.of at h; split at h <;> simp_all
theorem VK.of_b {td : TypeDesc} (h : VK.of td = some .b) : td = .bool := by unfold VK.of at h; split at h <;> simp_all
theorem VK.of_s {td : TypeDesc} (h : VK.of td = some .s) : td = .string := by unfold VK.of at h; split at h <;> simp_all
def VK.ok : VK → Value → Prop
  | .i, v => ∃ n, v = .int .i64 n
  | .b, v => ∃ n, v = .bool n
  | .s, v => ∃ n, v = .string n
def conf : List VK → List Value → Prop
  | [], [] => True
  | k :: ks, v :: vs => k.ok v ∧ conf ks vs
  | _, _ => False
theorem conf_len : ∀ {ks : List VK} {vs : List Value}, conf ks vs → vs.length = ks.length
  | [], [], _ => rfl
  | _ :: _, _ :: _, h => by simp [conf_len h.2]
  | [], _ :: _, h => h.elim
  | _ :: _, [], h => h.elim
def fsOk (P : Program) : List Field → List VK → Nat → Bool
  | [], [], _ => true
  | f :: fs, k :: ks, n => f.name != "_" && f.offset == n && ((P.underlying f.type).bind VK.of == some k) && fsOk P fs ks (n + 1)
  | _, _, _ => false
def eqSt (P : Program) (t : TypeId) (sig : List VK) : Bool :=
  match P.underlying t with
  | some (.struct fs) => !P.stoodInHeld t && !P.eqGuardType P.depth t && fsOk P fs.toList sig 0
  | _ => false
theorem drop_cons {α : Type} {l : List α} {n : Nat} {x : α} {r : List α} (h : l.drop n = x :: r) : l[n]? = some x ∧ l.drop (n + 1) = r := by
  have h1 : l[n]? = some x := by
    have := congrArg (·[0]?) h
    simpa using this
  refine ⟨h1, ?_⟩
  have := congrArg (List.drop 1) h
  simpa [List.drop_drop] using this
theorem eqF {P : Program} (w : World) (d : Nat) (xs ys : Array Value) : ∀ (fs : List Field) (ks : List VK) (n : Nat), fsOk P fs ks n = true → conf ks (xs.toList.drop n) → conf ks (ys.toList.drop n) →
    ∃ r : Bool, (Op.eqFields (d + 1) xs ys fs).run P w = .ok r w ∧ (r = true ↔ xs.toList.drop n = ys.toList.drop n)
  | [], [], n, _, hx, hy => by
    refine ⟨true, by simp [Op.eqFields], ?_⟩
    have h1 := conf_len hx
    have h2 := conf_len hy
    rw [List.eq_nil_of_length_eq_zero h1, List.eq_nil_of_length_eq_zero h2]
    simp
  | [], _ :: _, _, h, _, _ => by simp [fsOk] at h
  | _ :: _, [], _, h, _, _ => by simp [fsOk] at h
  | f :: fs, k :: ks, n, h, hx, hy => by
    simp only [fsOk, Bool.and_eq_true, bne_iff_ne, ne_eq, beq_iff_eq] at h
    obtain ⟨⟨⟨h1, h2⟩, h3⟩, h4⟩ := h
    obtain ⟨td, hu, hk⟩ := Option.bind_eq_some_iff.1 h3
    cases hdx : xs.toList.drop n with
    | nil => rw [hdx] at hx; exact hx.elim
    | cons x rx =>
      cases hdy : ys.toList.drop n with
      | nil => rw [hdy] at hy; exact hy.elim
      | cons y ry =>
        rw [hdx] at hx
        rw [hdy] at hy
        obtain ⟨ex, exr⟩ := drop_cons hdx
        obtain ⟨ey, eyr⟩ := drop_cons hdy
        obtain ⟨r, hr, hiff⟩ := eqF w d xs ys fs ks (n + 1) h4 (by rw [exr]; exact hx.2) (by rw [eyr]; exact hy.2)
        have ha : aggT P f.type = some false := by
          unfold aggT
          rw [hu]
          cases td <;> simp [VK.of] at hk <;> rfl
        have ex' : xs[n]? = some x := by rw [← Array.getElem?_toList]; exact ex
        have ey' : ys[n]? = some y := by rw [← Array.getElem?_toList]; exact ey
        have px : (part f.type xs f.offset).run P w = .ok x w := by simp [part, run_isAgg ha, h2, ex']
        have py : (part f.type ys f.offset).run P w = .ok y w := by simp [part, run_isAgg ha, h2, ey']
        have pe : ∃ q : Bool, (Op.equalIn (d + 1) f.type x y).run P w = .ok q w ∧ (q = true ↔ x = y) := by
          cases k with
          | i =>
            obtain ⟨a, rfl⟩ := hx.1
            obtain ⟨b, rfl⟩ := hy.1
            have ht := VK.of_i hk
            subst ht
            exact ⟨_, run_equalIn_int w d f.type .i64 .i64 a b hu, by simp⟩
          | b =>
            obtain ⟨a, rfl⟩ := hx.1
            obtain ⟨b, rfl⟩ := hy.1
            have ht := VK.of_b hk
            subst ht
            exact ⟨_, run_equalIn_bool' w d f.type a b hu, by simp⟩
          | s =>
            obtain ⟨a, rfl⟩ := hx.1
            obtain ⟨b, rfl⟩ := hy.1
            have ht := VK.of_s hk
            subst ht
            exact ⟨_, run_equalIn_string w d f.type a b hu, by rw [← beq_toListBytes]; simp⟩
        obtain ⟨q, hq, hqi⟩ := pe
        refine ⟨q && r, ?_, ?_⟩
        · simp only [Op.eqFields, h1, ne_eq, not_false_eq_true, if_true, Sem.run_bind, px, py, hq, Result.andThen_ok]
          cases q
          · simp
          · simpa using hr
        · rw [exr, eyr] at hiff
          simp only [Bool.and_eq_true, hqi, hiff, List.cons.injEq]
theorem run_eqSt {P : Program} {t : TypeId} {sig : List VK} (h : eqSt P t sig = true) (w : World) {xs ys : List Value} (hx : conf sig xs) (hy : conf sig ys) (x y : Operand) :
    ∃ r : Bool, (r = true ↔ xs = ys) ∧ ∀ w, (do eqGuard .eql t x y (.agg xs.toArray) (.agg ys.toArray); binOp .eql t (.agg xs.toArray) (.agg ys.toArray) : Sem Value).run P w = .ok (.bool r) w ∧
      (do eqGuard .neq t x y (.agg xs.toArray) (.agg ys.toArray); binOp .neq t (.agg xs.toArray) (.agg ys.toArray) : Sem Value).run P w = .ok (.bool (!r)) w := by
  unfold eqSt at h
  cases hu : P.underlying t with
  | none => rw [hu] at h; cases h
  | some td =>
    cases td <;> simp [hu] at h
    rename_i fs
    obtain ⟨⟨h1, h2⟩, h3⟩ := h
    have hfs : P.fieldsOf t = fs := by simp [Program.fieldsOf, hu]
    have key : ∀ w, ∃ r : Bool, (Op.equalIn 10000 t (.agg xs.toArray) (.agg ys.toArray)).run P w = .ok r w ∧ (r = true ↔ xs = ys) := fun w => by
      obtain ⟨r, hr, hi⟩ := eqF (P := P) w 9998 xs.toArray ys.toArray fs.toList sig 0 h3 (by simpa using hx) (by simpa using hy)
      refine ⟨r, ?_, by simpa using hi⟩
      rw [run_equalIn_struct w 9999 t _ _ (by rw [hfs]; exact hu) h1, hfs]
      exact hr
    obtain ⟨r, _, hi⟩ := key w
    refine ⟨r, hi, fun w' => ?_⟩
    obtain ⟨r', hr', hi'⟩ := key w'
    have : r' = r := by
      rcases Bool.eq_false_or_eq_true r with e | e
      · rw [e]; exact hi'.2 (hi.1 e)
      · rw [e]; exact Bool.eq_false_iff.2 fun h => by rw [hi.2 (hi'.1 h)] at e; cases e
    subst this
    refine ⟨?_, ?_⟩
    · simp only [Sem.run_bind, run_eqGuard_agg w' .eql t x y _ _ h2, Result.andThen_ok, run_eql_struct, hr']
    · simp only [Sem.run_bind, run_eqGuard_agg w' .neq t x y _ _ h2, Result.andThen_ok, run_neq_struct, hr']
section
variable {P : Program} {K3 : Value → Prop} {cx cy : Operand}
theorem K.eqS {t : TypeId} {sig : List VK} {xs ys : List Value} {tk} (h : eqSt P t sig = true) (hx : conf sig xs) (hy : conf sig ys) (hk : ∀ r : Bool, (r = true ↔ xs = ys) → K3 (.bool r)) : BinVCh P .eql t cx cy (.agg xs.toArray) (.agg ys.toArray) K3 tk := by
  obtain ⟨r, h1, h2⟩ := run_eqSt h default hx hy cx cy
  exact K.bin (fun w => (h2 w).1) (hk r h1)
theorem K.neS {t : TypeId} {sig : List VK} {xs ys : List Value} {tk} (h : eqSt P t sig = true) (hx : conf sig xs) (hy : conf sig ys) (hk : ∀ r : Bool, (r = true ↔ xs ≠ ys) → K3 (.bool r)) : BinVCh P .neq t cx cy (.agg xs.toArray) (.agg ys.toArray) K3 tk := by
  obtain ⟨r, h1, h2⟩ := run_eqSt h default hx hy cx cy
  exact K.bin (fun w => (h2 w).2) (hk (!r) (by rw [ne_eq, ← h1]; cases r <;> simp))
theorem K.eqNil {t e : TypeId} {a : Option Addr} {l c : Nat} {tk} (h : P.underlying t = some (.slice e)) (hk : K3 (.bool a.isNone)) : BinVCh P .eql t cx cy (.slice a l c) (.slice none 0 0) K3 tk :=
  K.bin (v := .bool a.isNone) (fun w => by simp [eqGuard_at_slice, binOp, run_equal_slice_nil w t e a l c h]) hk
end
end Lite
end
section
/- Lite, part 16: regions whose order is open, of a few known shapes: two variables made of two structs; of what two calls give. -/
set_option maxRecDepth 4000
namespace Lite
open Go Go.RowKit
section
variable {P : Program} {w0 w : World} {S : Fr} {K : Fr → World → Prop}
/-- What is drawn ahead. -/
def strip : Sch → List Step × Sch
  | .take s r => (s :: (strip r).1, (strip r).2)
  | t => ([], t)
theorem svc_strip : ∀ (t : Sch) (S : Fr), qsteps P (strip t).1 S w0 (fun S' => svc P w0 (strip t).2 S' w K) → svc P w0 t S w K
  | .take ⟨d, none, i⟩ r, S, h => by
    show QVC P i S w0 fun v => svc P w0 r (put S d v) w K
    have h' : QVC P i S w0 fun v => qsteps P (strip r).1 (put S d v) w0 (fun S' => svc P w0 (strip r).2 S' w K) := h
    exact QVC.mono (fun v hv => svc_strip r _ hv) h'
  | .take ⟨d, some (j, b), i⟩ r, S, h => by
    rcases h with ⟨t, ht, h1, h2⟩ | ⟨hu, h3⟩
    · exact .inl ⟨t, ht, fun e => QVC.mono (fun v hv => svc_strip r _ hv) (h1 e), fun e => svc_strip r _ (h2 e)⟩
    · exact .inr ⟨hu, svc_strip r _ h3⟩
  | .done, S, h => h
  | .nil, S, h => h
  | .alt _ _ _, S, h => h
  | .fre _ _ _, S, h => h
  | .wide _, S, h => h
theorem stAb_ok {b n : Nat} {c cs : Array Value} {e : TypeId} {KW : World → Prop} (hb : w.heap[b]? = some (.cells c e)) (hc : c.size = n) (hn : cs.size = n) (h1 : ∀ x ∈ cs.toList, x.oneCell' = true)
    (hk : ∀ w1, Wr b w w1 → w1.heap[b]? = some (.cells cs e) → KW w1) : StAVC n (.pointer (some ⟨b, 0, none⟩)) (.agg cs) w KW :=
  stA_ok hn (fun j hj => ⟨⟨_, cell_blk hb (Array.getElem?_eq_getElem (by omega))⟩, by rw [add_eq]; simp [World.frozen?, hb]⟩) h1 (hk _ (Wr.setAll cs.toList w ⟨b, 0, none⟩ 0) (setAll_blk hb (by omega)))
/-- A variable that is made, and then stored to. -/
structure VarS where
  d : Nat
  ty : TypeId
  z : Array Value
  n : Nat
  x : Nat
def VarS.new (v : VarS) : Step := ⟨some v.d, none, .e (.new v.ty (.agg v.z))⟩
def VarS.st (v : VarS) : Step := ⟨none, none, .e (.stA v.n (.tmp v.d) (.tmp v.x))⟩
theorem altS_st (v : VarS) (k : Fr → World → Prop) : altS P w0 v.st S w k = StAVC v.n (S v.d) (S v.x) w (fun w' => Ext w0 w' ∧ k S w') := rfl
theorem freS_st (v : VarS) (k : Fr → World → Prop) : freS P v.st S w k = StAVC v.n (S v.d) (S v.x) w (fun w' => k S w') := rfl
def twoT (a b : VarS) : Sch :=
  .alt a.new (.alt b.new (.alt a.st (.fre b.st .done .nil) .nil) .nil) (.alt b.new (.alt a.new (.alt a.st (.fre b.st .done .nil) .nil) .nil) .nil)
theorem upd_comm (S : Fr) {a b : Nat} (h : a ≠ b) (x y : Value) : upd (upd S a x) b y = upd (upd S b y) a x := by
  funext t; unfold upd; split <;> split <;> simp_all
theorem two_sv (a b : VarS) {xa xb : List Value} (hd : (a.d != b.d && a.x != a.d && a.x != b.d && b.x != a.d && b.x != b.d) = true) (hza : a.z.size = a.n) (hzb : b.z.size = b.n) (ha : S a.x = .agg xa.toArray) (hb : S b.x = .agg xb.toArray) (hla : xa.length = a.n) (hlb : xb.length = b.n)
    (h1a : ∀ u ∈ xa, u.oneCell' = true) (h1b : ∀ u ∈ xb, u.oneCell' = true)
    (hk : ∀ w' ba bb, Ext w0 w' → w0.heap.size ≤ ba → w0.heap.size ≤ bb → ba ≠ bb → w'.heap[ba]? = some (.cells xa.toArray a.ty) → w'.heap[bb]? = some (.cells xb.toArray b.ty) →
      K (upd (upd S a.d (.pointer (some ⟨ba, 0, none⟩))) b.d (.pointer (some ⟨bb, 0, none⟩))) w') : svc P w0 (twoT a b) S w0 K := by
  simp only [Bool.and_eq_true, bne_iff_ne, ne_eq] at hd
  obtain ⟨⟨⟨⟨d1, d2⟩, d3⟩, d4⟩, d5⟩ := hd
  have fin : ∀ (S' : Fr) (w2 : World) (ba bb : Nat), S' = upd (upd S a.d (.pointer (some ⟨ba, 0, none⟩))) b.d (.pointer (some ⟨bb, 0, none⟩)) → Ext w0 w2 → w0.heap.size ≤ ba → w0.heap.size ≤ bb → ba ≠ bb →
      w2.heap[ba]? = some (.cells a.z a.ty) → w2.heap[bb]? = some (.cells b.z b.ty) → svc P w0 (.alt a.st (.fre b.st .done .nil) .nil) S' w2 K := by
    rintro S' w2 ba bb rfl he h1 h2 hne hca hcb
    refine ⟨?_, trivial⟩
    have e1 : upd (upd S a.d (.pointer (some ⟨ba, 0, none⟩))) b.d (.pointer (some ⟨bb, 0, none⟩)) a.d = .pointer (some ⟨ba, 0, none⟩) := by simp [upd, d1]
    have e2 : upd (upd S a.d (.pointer (some ⟨ba, 0, none⟩))) b.d (.pointer (some ⟨bb, 0, none⟩)) a.x = .agg xa.toArray := by simp [upd, d2, d3, ha]
    have e3 : upd (upd S a.d (.pointer (some ⟨ba, 0, none⟩))) b.d (.pointer (some ⟨bb, 0, none⟩)) b.d = .pointer (some ⟨bb, 0, none⟩) := by simp [upd]
    have e4 : upd (upd S a.d (.pointer (some ⟨ba, 0, none⟩))) b.d (.pointer (some ⟨bb, 0, none⟩)) b.x = .agg xb.toArray := by simp [upd, d4, d5, hb]
    rw [altS_st, e1, e2]
    refine stAb_ok hca hza (by simpa using hla) (by simpa using h1a) fun w3 hw3 hc3 => ⟨hw3.ext he h1, ?_⟩
    refine ⟨?_, trivial⟩
    rw [freS_st, e3, e4]
    refine stAb_ok (hw3.obj hcb (Ne.symm hne)) hzb (by simpa using hlb) (by simpa using h1b) fun w4 hw4 hc4 => ?_
    exact hk w4 ba bb (hw4.ext (hw3.ext he h1) h2) h1 h2 hne (hw4.obj hc3 hne) hc4
  have m1 : ∀ (o o' : Obj), ((w0.alloc o).alloc o').heap[w0.heap.size]? = some o := fun o o' => ((Ext.refl (w0.alloc o)).alloc o').obj (heap_alloc_new w0 o)
  have m2 : ∀ (o o' : Obj), ((w0.alloc o).alloc o').heap[w0.heap.size + 1]? = some o' := fun o o' => by
    have := heap_alloc_new (w0.alloc o) o'
    rwa [World.size_alloc] at this
  refine ⟨⟨(Ext.refl _).alloc _, ⟨((Ext.refl _).alloc _).alloc _, ?_⟩, trivial⟩, ⟨(Ext.refl _).alloc _, ⟨((Ext.refl _).alloc _).alloc _, ?_⟩, trivial⟩, trivial⟩
  · refine fin _ _ w0.heap.size (w0.heap.size + 1) ?_ (((Ext.refl _).alloc _).alloc _) (Nat.le_refl _) (by omega) (by omega) (m1 _ _) (m2 _ _)
    show upd (upd S a.d _) b.d (.pointer (some ⟨(w0.alloc _).heap.size, 0, none⟩)) = _
    rw [World.size_alloc]
  · refine fin _ _ (w0.heap.size + 1) w0.heap.size ?_ (((Ext.refl _).alloc _).alloc _) (by omega) (Nat.le_refl _) (by omega) (m2 _ _) (m1 _ _)
    show upd (upd S b.d _) a.d (.pointer (some ⟨(w0.alloc _).heap.size, 0, none⟩)) = _
    rw [World.size_alloc, upd_comm S (Ne.symm d1)]
/-- Two variables are made of two structs, in whichever order. -/
theorem K.two {Q : LX → Fr → World → Prop} {t : Sch} {b' : LC} {tk} (l : List Step) (da : Nat) (ta : TypeId) (za : Array Value) (na pa db : Nat) (tb : TypeId) (zb : Array Value) (nb pb : Nat) (ht : strip t = (l, twoT ⟨da, ta, za, na, pa⟩ ⟨db, tb, zb, nb, pb⟩)) (hd : (da != db && pa != da && pa != db && pb != da && pb != db) = true) (hza : za.size = na) (hzb : zb.size = nb)
    (hk : ∀ w1, Ext w w1 → qstepsh P l S w1 (fun S' => ∃ xa xb : List Value, S' pa = .agg xa.toArray ∧ S' pb = .agg xb.toArray ∧ xa.length = na ∧ xb.length = nb ∧ (∀ u ∈ xa, u.oneCell' = true) ∧ (∀ u ∈ xb, u.oneCell' = true) ∧
      ∀ w' ba bb, Ext w1 w' → w1.heap.size ≤ ba → w1.heap.size ≤ bb → ba ≠ bb → w'.heap[ba]? = some (.cells xa.toArray ta) → w'.heap[bb]? = some (.cells xb.toArray tb) →
        vch P b' Q (upd (upd S' da (.pointer (some ⟨ba, 0, none⟩))) db (.pointer (some ⟨bb, 0, none⟩))) w' ⟨⟩) ⟨⟩) : vch P (.seq (.sch t) b') Q S w tk := by
  unfold vch qstepsh at *
  show vc P (.sch t) _ S w
  intro w1 he
  refine svc_strip t S ?_
  have h := hk w1 he
  rw [ht]
  refine qsteps_keep l S w1 _ _ (fun S' _ h' => ?_) h
  obtain ⟨xa, xb, h1, h2, h3, h4, h5, h6, h7⟩ := h'
  exact two_sv ⟨da, ta, za, na, pa⟩ ⟨db, tb, zb, nb, pb⟩ hd hza hzb h1 h2 h3 h4 h5 h6 fun w' ba bb e1 e2 e3 e4 e5 e6 => h7 w' ba bb e1 e2 e3 e4 e5 e6
/-! ### Two variables made of what two calls give -/
/-- It holds in each world in which what the call laid is as it was. -/
def Kp (w0 w w' : World) (p : World → Prop) : Prop := ∀ w'', Ext w0 w'' → w'.heap.size ≤ w''.heap.size → (∀ k, w.heap.size ≤ k → k < w'.heap.size → w''.heap[k]? = w'.heap[k]?) → p w''
theorem Kp.of {w0 w w' : World} {p : World → Prop} (h : ∀ w'', Ext w0 w'' → p w'') : Kp w0 w w' p := fun w'' he _ _ => h w'' he
def twoTl (a b : VarS) : Sch := .fre a.st (.fre b.st .done .nil) .nil
structure TwoSt (w0 : World) (a b : VarS) (S : Fr) (pa pb : List Value → World → Prop) (fa fb na nb : Bool) (S' : Fr) (w : World) (xa xb : List Value) (la ha lb hb qa qb : Nat) : Prop where
  ext : Ext w0 w
  fr : ∀ t, t ≠ a.d → t ≠ b.d → t ≠ a.x → t ≠ b.x → S' t = S t
  a1 : fa = true → S' a.x = .agg xa.toArray ∧ xa.length = a.n ∧ (∀ u ∈ xa, u.oneCell' = true) ∧ ha ≤ w.heap.size ∧ ∀ w'', Ext w0 w'' → w.heap.size ≤ w''.heap.size → (∀ k, la ≤ k → k < ha → w''.heap[k]? = w.heap[k]?) → pa xa w''
  b1 : fb = true → S' b.x = .agg xb.toArray ∧ xb.length = b.n ∧ (∀ u ∈ xb, u.oneCell' = true) ∧ hb ≤ w.heap.size ∧ ∀ w'', Ext w0 w'' → w.heap.size ≤ w''.heap.size → (∀ k, lb ≤ k → k < hb → w''.heap[k]? = w.heap[k]?) → pb xb w''
  a2 : na = true → S' a.d = .pointer (some ⟨qa, 0, none⟩) ∧ w0.heap.size ≤ qa ∧ qa < w.heap.size ∧ w.heap[qa]? = some (.cells a.z a.ty)
  b2 : nb = true → S' b.d = .pointer (some ⟨qb, 0, none⟩) ∧ w0.heap.size ≤ qb ∧ qb < w.heap.size ∧ w.heap[qb]? = some (.cells b.z b.ty)
  aa : fa = true → na = true → qa < la ∨ ha ≤ qa
  ab : fa = true → nb = true → qb < la ∨ ha ≤ qb
  ba : fb = true → na = true → qa < lb ∨ hb ≤ qa
  bb : fb = true → nb = true → qb < lb ∨ hb ≤ qb
  nn : na = true → nb = true → qa ≠ qb
structure Slots4 (a b : VarS) : Prop where
  d12 : a.d ≠ b.d
  d13 : a.d ≠ a.x
  d14 : a.d ≠ b.x
  d23 : b.d ≠ a.x
  d24 : b.d ≠ b.x
  d34 : a.x ≠ b.x
section
variable {a b : VarS} {pa pb : List Value → World → Prop} {fa fb na nb : Bool} {S' : Fr} {xa xb : List Value} {la ha lb hb qa qb : Nat}
theorem TwoSt.call (hs : Slots4 a b) (h : TwoSt w0 a b S pa pb false fb na nb S' w xa xb la ha lb hb qa qb) {w1 : World} {x : List Value} (he : Ext w w1) (hl : x.length = a.n) (h1 : ∀ u ∈ x, u.oneCell' = true) (hp : Kp w0 w w1 (pa x)) :
    TwoSt w0 a b S pa pb true fb na nb (upd S' a.x (.agg x.toArray)) w1 x xb w.heap.size w1.heap.size lb hb qa qb := by
  refine ⟨h.ext.trans he, fun t t1 t2 t3 t4 => by rw [upd_at, if_neg t3]; exact h.fr t t1 t2 t3 t4, fun _ => ⟨by simp [upd], hl, h1, Nat.le_refl _, fun w'' e1 e2 e3 => hp w'' e1 e2 e3⟩, fun f => ?_, fun f => ?_, fun f => ?_, fun _ f => .inl (h.a2 f).2.2.1, fun _ f => .inl (h.b2 f).2.2.1, h.ba, h.bb, h.nn⟩
  · obtain ⟨k1, k2, k3, k4, k5⟩ := h.b1 f
    refine ⟨by rw [upd_at, if_neg hs.d34.symm]; exact k1, k2, k3, Nat.le_trans k4 he.size, fun w'' e1 e2 e3 => k5 w'' e1 (Nat.le_trans he.size e2) fun k g1 g2 => ?_⟩
    rw [e3 k g1 g2, he.heap (by omega)]
  · obtain ⟨k1, k2, k3, k4⟩ := h.a2 f
    exact ⟨by rw [upd_at, if_neg hs.d13]; exact k1, k2, Nat.lt_of_lt_of_le k3 he.size, he.obj k4⟩
  · obtain ⟨k1, k2, k3, k4⟩ := h.b2 f
    exact ⟨by rw [upd_at, if_neg hs.d23]; exact k1, k2, Nat.lt_of_lt_of_le k3 he.size, he.obj k4⟩
theorem TwoSt.new (hs : Slots4 a b) (h : TwoSt w0 a b S pa pb fa fb false nb S' w xa xb la ha lb hb qa qb) :
    TwoSt w0 a b S pa pb fa fb true nb (upd S' a.d (.pointer (some ⟨w.heap.size, 0, none⟩))) (w.alloc (.cells a.z a.ty)) xa xb la ha lb hb w.heap.size qb := by
  have he : Ext w (w.alloc (.cells a.z a.ty)) := (Ext.refl w).alloc _
  have hz : (w.alloc (.cells a.z a.ty)).heap.size = w.heap.size + 1 := World.size_alloc _ _
  refine ⟨h.ext.trans he, fun t t1 t2 t3 t4 => by rw [upd_at, if_neg t1]; exact h.fr t t1 t2 t3 t4, fun f => ?_, fun f => ?_, fun _ => ⟨by simp [upd], h.ext.size, by omega, heap_alloc_new w _⟩, fun f => ?_, fun f _ => .inr (h.a1 f).2.2.2.1, h.ab, fun f _ => .inr (h.b1 f).2.2.2.1, h.bb, fun _ f => by have := (h.b2 f).2.2.1; omega⟩
  · obtain ⟨k1, k2, k3, k4, k5⟩ := h.a1 f
    refine ⟨by rw [upd_at, if_neg hs.d13.symm]; exact k1, k2, k3, by omega, fun w'' e1 e2 e3 => k5 w'' e1 (by omega) fun k g1 g2 => ?_⟩
    rw [e3 k g1 g2, he.heap (by omega)]
  · obtain ⟨k1, k2, k3, k4, k5⟩ := h.b1 f
    refine ⟨by rw [upd_at, if_neg hs.d14.symm]; exact k1, k2, k3, by omega, fun w'' e1 e2 e3 => k5 w'' e1 (by omega) fun k g1 g2 => ?_⟩
    rw [e3 k g1 g2, he.heap (by omega)]
  · obtain ⟨k1, k2, k3, k4⟩ := h.b2 f
    exact ⟨by rw [upd_at, if_neg hs.d12.symm]; exact k1, k2, by omega, he.obj k4⟩
theorem TwoSt.fin (hs : Slots4 a b) (hza : a.z.size = a.n) (hzb : b.z.size = b.n) (h : TwoSt w0 a b S pa pb true true true true S' w xa xb la ha lb hb qa qb)
    (hk : ∀ w' xa xb ba bb, Ext w0 w' → w0.heap.size ≤ ba → w0.heap.size ≤ bb → ba ≠ bb → w'.heap[ba]? = some (.cells xa.toArray a.ty) → w'.heap[bb]? = some (.cells xb.toArray b.ty) → pa xa w' → pb xb w' →
      K (upd (upd (upd (upd S a.x (.agg xa.toArray)) b.x (.agg xb.toArray)) a.d (.pointer (some ⟨ba, 0, none⟩))) b.d (.pointer (some ⟨bb, 0, none⟩))) w') : svc P w0 (twoTl a b) S' w K := by
  obtain ⟨k1, k2, k3, k4, k5⟩ := h.a1 rfl
  obtain ⟨m1, m2, m3, m4, m5⟩ := h.b1 rfl
  obtain ⟨j1, j2, j3, j4⟩ := h.a2 rfl
  obtain ⟨n1, n2, n3, n4⟩ := h.b2 rfl
  have hne := h.nn rfl rfl
  have raa := h.aa rfl rfl
  have rab := h.ab rfl rfl
  have rba := h.ba rfl rfl
  have rbb := h.bb rfl rfl
  have e : S' = upd (upd (upd (upd S a.x (.agg xa.toArray)) b.x (.agg xb.toArray)) a.d (.pointer (some ⟨qa, 0, none⟩))) b.d (.pointer (some ⟨qb, 0, none⟩)) := by
    funext t
    simp only [upd_at]
    by_cases t1 : t = b.d
    · rw [if_pos t1, t1, n1]
    rw [if_neg t1]
    by_cases t2 : t = a.d
    · rw [if_pos t2, t2, j1]
    rw [if_neg t2]
    by_cases t3 : t = b.x
    · rw [if_pos t3, t3, m1]
    rw [if_neg t3]
    by_cases t4 : t = a.x
    · rw [if_pos t4, t4, k1]
    rw [if_neg t4]
    exact h.fr t t2 t1 t4 t3
  refine ⟨?_, trivial⟩
  rw [freS_st, j1, k1]
  refine stAb_ok j4 hza (by simpa using k2) (by simpa using k3) fun w1 hw1 hc1 => ?_
  refine ⟨?_, trivial⟩
  rw [freS_st, n1, m1]
  refine stAb_ok (hw1.obj n4 (Ne.symm hne)) hzb (by simpa using m2) (by simpa using m3) fun w2 hw2 hc2 => ?_
  have e02 := hw2.ext (hw1.ext h.ext j2) n2
  have hsz : w.heap.size ≤ w2.heap.size := by rw [hw2.size, hw1.size]; exact Nat.le_refl _
  have hold : ∀ k, k ≠ qa → k ≠ qb → w2.heap[k]? = w.heap[k]? := fun k g1 g2 => by rw [hw2.block k g2, hw1.block k g1]
  rw [e]
  exact hk w2 xa xb qa qb e02 j2 n2 hne (hw2.obj hc1 hne) hc2 (k5 w2 e02 hsz fun k g1 g2 => hold k (by omega) (by omega)) (m5 w2 e02 hsz fun k g1 g2 => hold k (by omega) (by omega))
end
end
end Lite
end
section
/- Functions of Go's library that work on lists, by the shape of their code. -/
set_option maxRecDepth 4000
set_option maxHeartbeats 1600000
namespace Lite
open Go Go.RowKit
def eqCodeA (t ti : TypeId) (sz : Nat) : LFn := ⟨26, [.tmp 4],
 (.seq (.reg [yw 4 (yb false)])
 (.seq (.seq (.reg [ym 6 0, yn 7 6, ym 8 1, yn 9 8, yp 10 (.bin .neq ti (yt 7) (yt 9))])
 (.cond (yt 10) (.seq (.reg [yw 4 (yb false)])
 .ret)
 .skip))
 (.seq (.seq (.reg [ym 11 0, yn 12 11, yw 13 (yi 0)])
 (.blk 0 (.loop (.seq (.reg [yp 14 (.bin .lss ti (yt 13) (yt 12))])
 (.seq (.cond (yt 14) .skip
 (.exit 0))
 (.seq (.blk 1 (.seq (.reg [ym 15 13, ym 5 15])
 (.seq (.drw [ym 16 0, ym 17 5, yx 18 sz 16 17, yr 19 (.ldA sz (yt 18)), ym 20 1, ym 21 5, yx 22 sz 20 21, yr 23 (.ldA sz (yt 22)), yp 24 (.bin .neq t (yt 19) (yt 23))])
 (.cond (yt 24) (.seq (.reg [yw 4 (yb false)])
 .ret)
 .skip))))
 (.reg [yp 25 (.bin .add ti (yt 13) (yi 1)), ym 13 25])))))))
 (.seq (.reg [yw 4 (yb true)])
 .ret))))⟩
theorem take_succ_eq {α : Type} {l m : List α} {k : Nat} (h1 : k < l.length) (h2 : k < m.length) : l.take (k + 1) = m.take (k + 1) ↔ l.take k = m.take k ∧ l[k] = m[k] := by
  rw [List.take_succ_eq_append_getElem h1, List.take_succ_eq_append_getElem h2]
  constructor
  · intro h
    have := List.append_inj h (by simp; omega)
    exact ⟨this.1, by simpa using this.2⟩
  · rintro ⟨h3, h4⟩
    rw [h3, h4]
section
variable {α : Type} {P : Program} {f : FuncId} {t ti : TypeId} {sz : Nat} {enc : α → List Value}
theorem equalA_r {R R' : World → Addr → α → Prop} [Cel R enc] [Cel R' enc] {sig : List VK} (hm : P.follows .mixedOrders = true) (hE : compF P f = some (eqCodeA t ti sz)) (hs : eqSt P t sig = true) (hc : ∀ x, conf sig (enc x)) (hsz : sig.length = sz)
    (hj : ∀ x y, enc x = enc y → x = y) (v1 v2 : Value) (l1 l2 : List α) (w : World) (h1 : SlR sz R w v1 l1) (h2 : SlR sz R' w v2 l2) :
    Ret P f #[v1, v2] w fun v w' => (∃ b : Bool, v = .bool b ∧ (b = true ↔ l1 = l2)) ∧ Ext w w' := by
  obtain ⟨o1, c1, rfl, b1⟩ := h1.form
  obtain ⟨o2, c2, rfl, b2⟩ := h2.form
  have hl : ∀ x, (enc x).length = sz := fun x => (conf_len (hc x)).trans hsz
  refine K.start hm hE (args := [_, _]) (Nat.le_of_ble_eq_true rfl) ?_
  dsimp only [eqCodeA,yt,yi,yb,yp,yr,ye,yc,yv,yg,ym,yw,ya,yl,yx,ys,yn]
  refine Sg ?_
  refine K.cond (fun g => ?_) (fun g => ?_)
  rotate_left
  · refine Sg ?_
    exact ⟨⟨false, rfl, by simp; intro e; subst e; exact g rfl⟩, Ext.refl _⟩
  have hlen : l1.length = l2.length := by omega
  refine Sg ?_
  refine K.forG 13 l1.length [0, 1, 12] (fun _ => []) () (fun k _ w' => Ext w w' ∧ l1.take k = l2.take k) hZq hZq ⟨Ext.refl _, by simp⟩ ?_
  rintro k _ S w2 hk ⟨he2, hI⟩
  refine Sg ?_
  refine K.cond (fun g1 => ?_) (fun g1 => ?_)
  · have hk' : k < l1.length := by omega
    have hk2 : k < l2.length := by omega
    obtain ⟨a1, rfl⟩ := h1.addr (by omega)
    obtain ⟨a2, rfl⟩ := h2.addr (by omega)
    refine Sg ?_
    refine K.ldA ((Cel.cel _ _ _ (h1.at k hk')).ext he2) (hl _) ?_
    refine Sg ?_
    refine K.ldA ((Cel.cel _ _ _ (h2.at k hk2)).ext he2) (hl _) ?_
    refine Sg ?_
    refine K.neS hs (hc _) (hc _) fun r hr => ?_
    refine Sg ?_
    intro w3 he3
    refine Sg ?_
    refine K.condb (fun g2 => ?_) (fun g2 => ?_)
    · refine Sg ?_
      refine ⟨⟨false, rfl, ?_⟩, he2.trans he3⟩
      simp
      intro e
      subst e
      exact (hr.1 g2) rfl
    · refine Sg ?_
      refine ⟨hk', by first | trivial | rfl, (), trivial, he2.trans he3, (take_succ_eq hk' hk2).2 ⟨hI, hj _ _ (Classical.byContradiction fun hn => ?_)⟩⟩
      rw [hr.2 hn] at g2
      cases g2
  · refine Sg ?_
    refine ⟨⟨true, rfl, by simp; rw [List.take_of_length_le (by omega), List.take_of_length_le (by omega)] at hI; exact hI⟩, he2⟩
def cloneCode (ts t : TypeId) (sz b : Nat) : LFn := ⟨8, [.tmp 2],
 (.seq (.reg [yw 2 (.const (.slice none 0 0))])
 (.seq (.seq (.reg [ym 3 0, yp 4 (.bin .eql ts (yt 3) (.const (.slice none 0 0)))])
 (.cond (yt 4) (.seq (.reg [yw 2 (.const (.slice none 0 0))])
 .ret)
 .skip))
 (.seq (.reg [ye 5 (.bldS t 0 sz [] []), ym 6 0, ye 7 (.app ts t sz b (yt 5) (yt 6)), ym 2 7])
 .ret)))⟩
theorem clone_r {R : World → Addr → α → Prop} {C : World → List Value → α → Prop} [Rel R C sz] {ts : TypeId} {b : Nat} (hm : P.follows .mixedOrders = true) (hE : compF P f = some (cloneCode ts t sz b)) (hts : P.underlying ts = some (.slice t))
    (v : Value) (xs : List α) (w : World) (h : SlR sz R w v xs) (hb : xs.length * b ≤ 140737488355328) :
    Ret P f #[v] w fun v' w' => (∃ css : List (Cs sz), css.length = xs.length ∧ OwC t sz w.heap.size w' v' css ∧ ∀ i (h1 : i < css.length) (h2 : i < xs.length), C w' css[i].1 xs[i]) ∧ Ext w w' := by
  obtain ⟨o1, c1, rfl, b1⟩ := h.form
  refine K.start hm hE (args := [_]) (Nat.le_of_ble_eq_true rfl) ?_
  dsimp only [cloneCode,yt,yi,yb,yp,yr,ye,yc,yv,yg,ym,yw,ya,yl,yx,ys,yn]
  refine Sg ?_
  refine K.eqNil hts ?_
  refine Sg ?_
  refine K.condb (fun g => ?_) (fun g => ?_)
  · refine Sg ?_
    have : xs = [] := by
      obtain ⟨oa, cap, e, h2, h3, h4, h5⟩ := h.ex
      injection e with e1 e2 e3
      subst e1
      by_cases hx : xs = []
      · exact hx
      · have := h4 hx
        cases o1 <;> simp_all
    subst this
    exact ⟨⟨[], rfl, OwR.nil _ _ _ _ _, fun i h => by cases h⟩, Ext.refl _⟩
  obtain ⟨a, rfl⟩ : ∃ a, o1 = some a := by cases o1 with | none => cases g | some a => exact ⟨a, rfl⟩
  obtain ⟨css, hl, hcs, hC⟩ := h.cells
  refine Sg ?_
  intro w1 b1 hb1 he1 hc1
  refine Sg ?_
  have ho : OwC t sz w.heap.size w1 (.slice (some ⟨b1, 0, none⟩) 0 0) [] := OwR.empty hb1 hc1
  refine K.appAt (ys := css) ho encC_len (SlR.flat encC_len (fun _ _ h => h) (SlR.ext Flat.ext he1 hcs)) (by rw [hl]) encC_one (by rw [List.length_nil, Nat.zero_add, hl]; exact hb) (by have := hcs.len; have e := h.len; rw [List.length_nil, hl]; omega) (by exact he1.size) fun v' w' ho' hg _ => ?_
  obtain ⟨oa, cap, rfl, _⟩ := ho'.form
  have he2 : Ext w w' := he1.grown hg fun k hk => by injection hk with hk; subst hk; exact hb1
  refine Sg ?_
  exact ⟨⟨css, hl, by simpa using ho', fun i h1 h2 => Rel.ext (R := R) he2 (hC i h1 h2)⟩, he2⟩
/-- A clone of what is flat is new. -/
theorem New.clone {R : World → Addr → α → Prop} {C : World → List Value → α → Prop} [Rel R C sz] {w w' : World} {v : Value} {xs : List α} {css : List (Cs sz)} (hl : css.length = xs.length) (ho : OwC t sz w.heap.size w' v css)
    (hf : ∀ {w w' : World} {cs x}, C w cs x → C w' cs x) (hc : ∀ i (h1 : i < css.length) (h2 : i < xs.length), C w' css[i].1 xs[i]) : New w (fun w => SlR sz R w v xs) w' := fun w2 m => by
  have ho2 := OwR.mod ho m fun k hk a => by have := (ho.lt k hk).1; omega
  exact SlR.ofCells hl (ho2.slr encC_len) fun i h1 h2 => hf (hc i h1 h2)
theorem cloneF_r {R : World → Addr → α → Prop} {C : World → List Value → α → Prop} [Rel R C sz] {ts : TypeId} {b : Nat} (hm : P.follows .mixedOrders = true) (hE : compF P f = some (cloneCode ts t sz b)) (hts : P.underlying ts = some (.slice t))
    (hf : ∀ {w w' : World} {cs x}, C w cs x → C w' cs x) (v : Value) (xs : List α) (w : World) (h : SlR sz R w v xs) (hb : xs.length * b ≤ 140737488355328) :
    Ret P f #[v] w fun v' w' => (∃ oa c, v' = .slice oa xs.length c) ∧ New w (fun w => SlR sz R w v' xs) w' ∧ Ext w w' :=
  (clone_r hm hE hts v xs w h hb).mono fun v' w' ⟨⟨css, hl, ho, hc⟩, he⟩ => by
    have hn := New.clone (R := R) hl ho hf hc
    obtain ⟨oa, c, e, _⟩ := hn.here.form
    exact ⟨⟨oa, c, e⟩, hn, he⟩
/-! ### Search -/
def indexFuncCode (ti : TypeId) (sz : Nat) : LFn := ⟨19, [.tmp 4],
 (.seq (.reg [yw 4 (yi 0)])
 (.seq (.seq (.reg [ym 6 0, yn 7 6, yw 8 (yi 0)])
 (.blk 0 (.loop (.seq (.reg [yp 9 (.bin .lss ti (yt 8) (yt 7))])
 (.seq (.cond (yt 9) .skip
 (.exit 0))
 (.seq (.blk 1 (.seq (.reg [ym 10 8, ym 5 10])
 (.seq (.reg [ym 11 1, ym 12 0, ym 13 5, yx 14 sz 12 13, yr 15 (.ldA sz (yt 14)), yc 16 (.val (yt 11) [(yt 15)])])
 (.cond (yt 16) (.seq (.reg [ym 17 5, ym 4 17])
 .ret)
 .skip))))
 (.reg [yp 18 (.bin .add ti (yt 8) (yi 1)), ym 8 18])))))))
 (.seq (.reg [yw 4 (yi (-1))])
 .ret)))⟩
/-- The first place. -/
def firstAt (p : α → Bool) : List α → Nat → Int
  | [], _ => -1
  | x :: r, i => if p x then i else firstAt p r (i + 1)
theorem firstAt_drop {p : α → Bool} {l : List α} {k : Nat} (h : k < l.length) : firstAt p (l.drop k) k = if p l[k] then (k : Int) else firstAt p (l.drop (k + 1)) (k + 1) := by
  rw [List.drop_eq_getElem_cons h]; rfl
theorem firstAt_any {p : α → Bool} : ∀ {l : List α} {i : Nat}, (0 ≤ firstAt p l i ↔ l.any p = true)
  | [], _ => by simp [firstAt]
  | x :: r, i => by
    simp only [firstAt, List.any_cons]
    by_cases h : p x = true
    · rw [if_pos h]; simp [h]
    · rw [if_neg h, firstAt_any]; simp [h]
theorem indexFunc_r {R : World → Addr → α → Prop} {C : World → List Value → α → Prop} [Rel R C sz] (hm : P.follows .mixedOrders = true) (hE : compF P f = some (indexFuncCode ti sz))
    (v : Value) (xs : List α) (w : World) (h : SlR sz R w v xs) (g : FuncId) (hg : okF P g = true) (first cap : List Value) (p : α → Bool)
    (hp : ∀ (i : Nat) (hi : i < xs.length) (cs : List Value) (w' : World), Ext w w' → C w' cs xs[i] → Ret P g (first ++ [Value.agg cs.toArray] ++ cap).toArray w' fun v w'' => v = .bool (p xs[i]) ∧ Ext w' w'') :
    Ret P f #[v, .func (.func g) first.toArray cap.toArray] w fun v' w' => v' = .int .i64 (firstAt p xs 0) ∧ Ext w w' := by
  obtain ⟨o1, c1, rfl, b1⟩ := h.form
  refine K.start hm hE (args := [_, _]) (Nat.le_of_ble_eq_true rfl) ?_
  dsimp only [indexFuncCode,yt,yi,yb,yp,yr,ye,yc,yv,yg,ym,yw,ya,yl,yx,ys,yn]
  refine Sg ?_
  refine K.forG 8 xs.length [0, 1, 7] (fun _ => []) () (fun k _ w' => Ext w w' ∧ firstAt p xs 0 = firstAt p (xs.drop k) k) hZq hZq ⟨Ext.refl _, by simp⟩ ?_
  rintro k _ S w2 hk ⟨he2, hI⟩
  refine Sg ?_
  refine K.cond (fun g1 => ?_) (fun g1 => ?_)
  · have hk' : k < xs.length := by omega
    obtain ⟨a, rfl⟩ := h.addr (by omega)
    obtain ⟨cs, hcs, hC⟩ := Rel.out (h.at k hk')
    have hlen := Rel.len (R := R) hC
    rw [firstAt_drop hk'] at hI
    refine Sg ?_
    refine K.ldA (hcs.ext he2) hlen ?_
    refine Sg ?_
    refine K.callV hg (hp k hk' cs w2 he2 (Rel.ext (R := R) he2 hC)) ?_
    rintro _ w3 ⟨rfl, he3⟩
    refine Sg ?_
    refine K.condb (fun g2 => ?_) (fun g2 => ?_)
    · refine Sg ?_
      exact ⟨by rw [hI, if_pos g2], he2.trans he3⟩
    · refine Sg ?_
      exact ⟨hk', by first | trivial | rfl, (), trivial, he2.trans he3, by rw [hI, if_neg (by simp [g2])]⟩
  · refine Sg ?_
    exact ⟨by rw [hI, List.drop_eq_nil_of_le (by omega)]; rfl, he2⟩
def containsFuncCode (ti : TypeId) (g : FuncId) : LFn := ⟨9, [.tmp 4],
 (.seq (.reg [yw 4 (yb false)])
 (.seq (.reg [ym 5 0, ym 6 1, yc 7 (.fn g [(yt 5), (yt 6)]), yp 8 (.bin .geq ti (yt 7) (yi 0)), ym 4 8])
 .ret))⟩
theorem containsFunc_r {R : World → Addr → α → Prop} {C : World → List Value → α → Prop} [Rel R C sz] {f' : FuncId} {ti' : TypeId} (hm : P.follows .mixedOrders = true) (hE' : compF P f' = some (containsFuncCode ti' f)) (hE : compF P f = some (indexFuncCode ti sz))
    (v : Value) (xs : List α) (w : World) (h : SlR sz R w v xs) (g : FuncId) (hg : okF P g = true) (first cap : List Value) (p : α → Bool)
    (hp : ∀ (i : Nat) (hi : i < xs.length) (cs : List Value) (w' : World), Ext w w' → C w' cs xs[i] → Ret P g (first ++ [Value.agg cs.toArray] ++ cap).toArray w' fun v w'' => v = .bool (p xs[i]) ∧ Ext w' w'') :
    Ret P f' #[v, .func (.func g) first.toArray cap.toArray] w fun v' w' => v' = .bool (xs.any p) ∧ Ext w w' := by
  refine K.start hm hE' (args := [_, _]) (Nat.le_of_ble_eq_true rfl) ?_
  dsimp only [containsFuncCode,yt,yi,yb,yp,yr,ye,yc,yv,yg,ym,yw,ya,yl,yx,ys,yn]
  refine Sg ?_
  refine K.call (indexFunc_r hm hE v xs w h g hg first cap p hp) ?_
  rintro _ w2 ⟨rfl, he2⟩
  refine Sg ?_
  refine ⟨?_, he2⟩
  congr 1
  rw [Bool.eq_iff_iff, decide_eq_true_eq]
  exact firstAt_any
end
end Lite
end
section
/- Lite: rows of one's own that are written in place, slot by slot. -/
set_option maxRecDepth 4000
set_option maxHeartbeats 1600000
namespace Lite
open Go Go.RowKit
/-- One slot of an element. -/
def Cs.put {sz : Nat} (c : Cs sz) (f : Nat) (v : Value) (hv : v.oneCell' = true) : Cs sz := ⟨c.1.set f v, by rw [List.length_set]; exact c.2.1, fun u hu => by
  rcases List.mem_or_eq_of_mem_set hu with h | h
  · exact c.2.2 u h
  · rw [h]; exact hv⟩
theorem encC_put {sz : Nat} (c : Cs sz) (f : Nat) (v : Value) (hv : v.oneCell' = true) : encC (c.put f v hv) = (encC c).set f v := rfl
theorem flat_put {sz : Nat} {v : Value} {hv : v.oneCell' = true} {f : Nat} (hf : f < sz) : ∀ (css : List (Cs sz)) (i : Nat) (h : i < css.length), (css.flatMap encC).set (i * sz + f) v = (css.set i (css[i].put f v hv)).flatMap encC
  | c :: r, 0, _ => by
    simp only [List.flatMap_cons, List.set_cons_zero, Nat.zero_mul, Nat.zero_add, List.getElem_cons_zero, encC_put]
    rw [List.set_append_left _ _ (by rw [encC_len]; exact hf)]
  | c :: r, i + 1, h => by
    simp only [List.flatMap_cons, List.set_cons_succ, List.getElem_cons_succ]
    rw [List.set_append_right _ _ (by rw [encC_len, Nat.add_mul]; omega), encC_len, show (i + 1) * sz + f - sz = i * sz + f from by rw [Nat.add_mul]; omega, flat_put hf r i (by simpa using h)]
section
variable {e : TypeId} {sz base : Nat} {w w' : World} {css : List (Cs sz)}
theorem OwC.put_ok {a : Addr} {n c i f : Nat} {v : Value} (h : OwC e sz base w (.slice (some a) n c) css) (hi : i < css.length) (hf : f < sz) (hv : v.oneCell' = true) :
    (∃ old, w.cell? ((a.add (i * sz)).add f) = some old) ∧ w.frozen? ((a.add (i * sz)).add f) = false ∧ ((a.add (i * sz)).add f).block = a.block ∧
    OwC e sz base (w.setCell ((a.add (i * sz)).add f) v) (.slice (some a) n c) (css.set i (css[i].put f v hv)) := by
  rcases h.2 with ⟨hn, h0⟩ | ⟨g, cap, cur, h1, h2, h3, h4, h5, h6, h7⟩
  · cases hn
  · injection h1 with e1 e2 e3
    injection e1 with e1
    subst e1 e3
    have hlt : i * sz + f < cur.size := by
      rw [h6]
      have : (i + 1) * sz ≤ c * sz := Nat.mul_le_mul_right _ (by omega)
      rw [Nat.add_mul] at this
      omega
    have hlt2 : i * sz + f < css.length * sz := by
      have : (i + 1) * sz ≤ css.length * sz := Nat.mul_le_mul_right _ (by omega)
      rw [Nat.add_mul] at this
      omega
    have ea : ((Addr.add ⟨g, 0, none⟩ (i * sz)).add f) = Addr.add ⟨g, 0, none⟩ (i * sz + f) := add_add _ _ _
    rw [ea]
    refine ⟨⟨_, cell_blk h3 (Array.getElem?_eq_getElem hlt)⟩, by rw [add_eq]; simp [World.frozen?, h3], by rw [add_block], ?_⟩
    refine ⟨?_, .inr ⟨g, c, _, ?_, h2, setCell_blk h3 hlt v, ?_, h5, by rw [Array.size_set]; exact h6, ?_⟩⟩
    · rw [flat_len encC_len]
    · rw [List.length_set, e2]
    · rw [List.length_set]; exact h4
    · rw [List.length_set, ← flat_put hf, ← h7, Array.toList_set, List.take_set]
/-- A slot of an element is written. -/
theorem K.stO {a : Addr} {n c i f : Nat} {v : Value} {KW : World → Prop} {t} (h : OwC e sz base w (.slice (some a) n c) css) (hi : i < css.length) (hf : f < sz) (hv : v.oneCell' = true)
    (hk : ∀ w1, Wr a.block w w1 → OwC e sz base w1 (.slice (some a) n c) (css.set i (css[i].put f v hv)) → KW w1) : StVCh (.pointer (some ((a.add (i * sz)).add f))) v w KW t := by
  obtain ⟨⟨old, h1⟩, h2, h3, h4⟩ := OwC.put_ok h hi hf hv
  refine K.st h1 h2 hv (hk _ ?_ h4)
  have := Wr.setCell w ((a.add (i * sz)).add f) v
  rwa [h3] at this
/-- The block of such a row. -/
theorem OwC.blk1 {a : Addr} {n c : Nat} (h : OwC e sz base w (.slice (some a) n c) css) : base ≤ a.block ∧ a.block < w.heap.size ∧ ∃ cur, w.heap[a.block]? = some (.cells cur e) :=
  ⟨(OwR.lt h a.block rfl).1, (OwR.lt h a.block rfl).2, OwR.blk h a.block rfl⟩
theorem OwC.ne {a : Addr} {n c b : Nat} {t : TypeId} {cs : Array Value} (h : OwC e sz base w (.slice (some a) n c) css) (hb : w.heap[b]? = some (.cells cs t)) (ht : t ≠ e) : b ≠ a.block := fun he => by
  obtain ⟨cur, h1⟩ := h.blk1.2.2
  rw [he, h1] at hb
  injection hb with hb
  injection hb with _ hb
  exact ht hb.symm
theorem OwC.at {a : Addr} {n c : Nat} (h : OwC e sz base w (.slice (some a) n c) css) {i : Nat} (hi : i < css.length) : CellsAt w (a.add (i * sz)) css[i].1 := (OwR.slr encC_len h).at i hi
end
end Lite
end
section
/- Plain: expressions: kinds, values. No program in sight. -/
namespace Abs
open Go
structure Scope where
  scalars : List Scalar
  vars : List Var
  chans : List Chan
  procs : List Proc
  locals : List Var
  self : Int
structure Env where
  vars : List (List Int)
  lens : List Int
  locals : List Int
  at_ : List (List Int)
  self : Int
/-- The n-th, if it is there. -/
def nth {α : Type} (l : List α) (n : Int) : Option α := if 0 ≤ n then l[n.toNat]? else none
theorem nth_some {α : Type} {l : List α} {n : Int} (h : 0 ≤ n) (h2 : n < l.length) : nth l n = some (l[n.toNat]'(by omega)) := by
  unfold nth; rw [if_pos h, List.getElem?_eq_getElem]
theorem nth_none {α : Type} {l : List α} {n : Int} (h : n < 0 ∨ (l.length : Int) ≤ n) : nth l n = none := by
  unfold nth
  split
  · rw [List.getElem?_eq_none (by omega)]
  · rfl
def within (n : Int) : Bool := decide (-1048576 ≤ n ∧ n ≤ 1048576)
/-- Two numbers within bounds, if what comes of them is, too. -/
def tell (f : Int → Int → Int) (a b : Int) : Int × Bool := if within a && within b && within (f a b) then (f a b, true) else (0, false)
def bit (b : Bool) : Int := if b then 1 else 0
/-- How many parts an operation takes; -1: it is none. -/
def nparts (op : Int) : Int := if op = 3 then 1 else if 1 ≤ op ∧ op ≤ 8 then 0 else if op = 9 ∨ op = 10 then 1 else if 11 ≤ op ∧ op ≤ 19 then 2 else -1
def isOp (op : Int) : Bool := decide (9 ≤ op ∧ op ≤ 19)
/-- An operation with parts. -/
structure OpD where
  parts : Int
  takes : Int
  makes : Int
  does : Int → Int → Int × Bool
def sayD (takes : Int) (p : Int → Int → Bool) : OpD := ⟨2, takes, 1, fun a b => (bit (p a b), true)⟩
def opOf (x : Int) : Option OpD :=
  if x = 9 then some ⟨1, 1, 1, fun a _ => (bit (decide (a = 0)), true)⟩
  else if x = 10 then some ⟨1, 0, 0, fun a _ => tell (· - ·) 0 a⟩
  else if x = 11 then some ⟨2, 0, 0, tell (· + ·)⟩
  else if x = 12 then some ⟨2, 0, 0, tell (· - ·)⟩
  else if x = 13 then some ⟨2, 0, 0, tell (· * ·)⟩
  else if x = 14 then some (sayD (-1) fun a b => decide (a = b))
  else if x = 15 then some (sayD (-1) fun a b => !decide (a = b))
  else if x = 16 then some (sayD 0 fun a b => decide (a < b))
  else if x = 17 then some (sayD 0 fun a b => decide (a ≤ b))
  else if x = 18 then some (sayD 1 fun a b => !decide (a = 0) && !decide (b = 0))
  else if x = 19 then some (sayD 1 fun a b => !decide (a = 0) || !decide (b = 0))
  else none
theorem opOf_parts {x : Int} {o : OpD} (h : opOf x = some o) : o.parts = nparts x ∧ isOp x = true := by
  unfold opOf at h
  repeat' split at h
  all_goals first | (cases h; subst_vars; decide) | cases h
/-- One node worked off. -/
def stepG (f : Node → List Int → Int × Int) (x : Node) (st : List Int) : Int × List Int :=
  if nparts x.op < 0 then (3, st) else if (st.length : Int) < nparts x.op then (4, st)
  else if (f x st).2 ≠ 0 then ((f x st).2, st)
  else if (st.take (st.length - (nparts x.op).toNat) ++ [(f x st).1]).length > 12 then (12, st) else (0, st.take (st.length - (nparts x.op).toNat) ++ [(f x st).1])
def runL (f : Node → List Int → Int × Int) : List Node → List Int → Int × List Int
  | [], st => (0, st)
  | x :: r, st => if (stepG f x st).1 ≠ 0 then stepG f x st else runL f r (stepG f x st).2
def runE (f : Node → List Int → Int × Int) (e : List Node) : Int × Int :=
  if e.length > 24 then (0, 5) else if e.length = 0 then (0, 4)
  else if (runL f e []).1 ≠ 0 then (0, (runL f e []).1) else if (runL f e []).2.length > 1 then (0, 5) else ((runL f e []).2.headD 0, 0)
theorem runL_app (f : Node → List Int → Int × Int) : ∀ (a b : List Node) (st : List Int), runL f (a ++ b) st = if (runL f a st).1 ≠ 0 then runL f a st else runL f b (runL f a st).2
  | [], b, st => by simp [runL]
  | x :: a, b, st => by
    simp only [List.cons_append, runL]
    by_cases h : (stepG f x st).1 = 0
    · simp only [h, ne_eq, not_true_eq_false, if_false]; exact runL_app f a b _
    · simp [h]
theorem runL_step {f : Node → List Int → Int × Int} {e : List Node} {k : Nat} {st : List Int} (hk : k < e.length) (h : runL f (e.take k) [] = (0, st)) : runL f (e.take (k + 1)) [] = stepG f e[k] st := by
  rw [List.take_succ_eq_append_getElem hk, runL_app, h]
  simp only [ne_eq, not_true_eq_false, if_false, runL]
  split
  · rfl
  · rename_i h2; simp at h2; exact Prod.ext h2.symm rfl
theorem runL_stop {f : Node → List Int → Int × Int} {e : List Node} {k : Nat} {q : Int × List Int} (h : runL f (e.take k) [] = q) (h0 : q.1 ≠ 0) : runL f e [] = q := by
  have := runL_app f (e.take k) (e.drop k) []
  rw [List.take_append_drop, h, if_pos h0] at this
  exact this
theorem runE_err {f : Node → List Int → Int × Int} {e : List Node} (h24 : e.length ≤ 24) {k : Nat} (hk : k < e.length) {st : List Int} (h : runL f (e.take k) [] = (0, st)) (h0 : (stepG f e[k] st).1 ≠ 0) : runE f e = (0, (stepG f e[k] st).1) := by
  have h2 := runL_step hk h
  have h3 := runL_stop h2 h0
  unfold runE
  rw [if_neg (by omega), if_neg (by omega), h3, if_pos h0]
theorem step_len {f : Node → List Int → Int × Int} {x : Node} {st : List Int} (h : (stepG f x st).1 = 0) : 1 ≤ (stepG f x st).2.length ∧ (stepG f x st).2.length ≤ 12 := by
  unfold stepG at h ⊢
  repeat' split
  all_goals simp_all
def kscalar (n : Int) (s : Scope) : Int × Bool := if n = 0 then (0, true) else if n < 0 ∨ (s.scalars.length : Int) < n then (0, false) else (1 + n, true)
def kvar (l : List Var) (n : Int) (s : Scope) : Int × Int × Bool :=
  match nth l n with
  | some v => ((kscalar v.scalar s).1, (kscalar v.over s).1, (kscalar v.scalar s).2 && (kscalar v.over s).2)
  | none => (0, 0, false)
def kLen (n : Int) (s : Scope) : Int × Int := match nth s.chans n with | some c => if (kscalar c.scalar s).2 then (0, 0) else (0, 8) | none => (0, 8)
def kAt (n : Int) (s : Scope) : Int × Int := if 0 ≤ n then (match nth s.procs (n.tdiv 16) with | some p => if n.tmod 16 < p.locs then (0, 0) else (0, 8) | none => (0, 8)) else (0, 8)
def knamed (x : Node) (s : Scope) : Int × Int :=
  if x.op = 5 then (if 1 ≤ s.self ∧ s.self ≤ s.scalars.length then (1 + s.self, 0) else (0, 8))
  else if x.op = 6 then kLen x.n s
  else if x.op = 7 then kAt x.n s
  else if x.op = 8 then (if 0 ≤ x.n ∧ x.n < s.scalars.length then (2 + x.n, 0) else (0, 8))
  else (0, 8)
/-- The kind of a leaf or an item, with what stands on top. -/
def kleaf (x : Node) (s : Scope) (top : Int) : Int × Int :=
  if x.op = 1 then (if within x.n then (0, 0) else (0, 10))
  else if x.op = 2 ∨ x.op = 3 ∨ x.op = 4 then
    (let q := kvar (if x.op = 4 then s.locals else s.vars) x.n s
     if q.2.2 = false then (0, 8) else if (x.op = 3 ∧ (q.2.1 = 0 ∨ top ≠ q.2.1)) ∨ (x.op ≠ 3 ∧ q.2.1 ≠ 0) then (0, 9) else (q.1, 0))
  else knamed x s
/-- The kind that an operation makes of kinds. -/
def ktwo (o : OpD) (l : List Int) : Int × Int := if l.all (fun k => (decide (o.takes = -1) || decide (k = o.takes)) && decide (k = l.headD 0)) then (o.makes, 0) else (0, 9)
def fKind (s : Scope) (x : Node) (st : List Int) : Int × Int :=
  match opOf x.op with
  | some o => ktwo o (st.drop (st.length - o.parts.toNat))
  | none => kleaf x s (st.getLastD 0)
def kind (e : List Node) (s : Scope) : Int × Int := runE (fKind s) e
/-! ### Values -/
def vat (l : List Int) (n : Int) : Int × Int := match nth l n with | some x => (x, 0) | none => (0, 8)
def vleaf (x : Node) (v : Env) (top : Int) : Int × Int :=
  if x.op = 1 then (if within x.n then (x.n, 0) else (0, 10))
  else if x.op = 2 then (match nth v.vars x.n with | some l => vat l 0 | none => (0, 8))
  else if x.op = 3 then (match nth v.vars x.n with | some l => (match nth l (top - 1) with | some y => (y, 0) | none => (0, 10)) | none => (0, 8))
  else if x.op = 4 then vat v.locals x.n
  else if x.op = 6 then vat v.lens x.n
  else if x.op = 5 then (v.self, 0)
  else if x.op = 7 then (if 0 ≤ x.n then (match nth v.at_ (x.n.tdiv 16) with | some l => vat l (x.n.tmod 16) | none => (0, 8)) else (0, 8))
  else (0, 0)
def vtwo (o : OpD) (l : List Int) : Int × Int := let r := o.does (l.headD 0) (l.getLastD 0); if r.2 then (r.1, 0) else (0, 10)
def fEval (v : Env) (x : Node) (st : List Int) : Int × Int :=
  match opOf x.op with
  | some o => vtwo o (st.drop (st.length - o.parts.toNat))
  | none => vleaf x v (st.getLastD 0)
def eval (e : List Node) (v : Env) : Int × Int := runE (fEval v) e
end Abs
end
section
/- Plain: commands. No program in sight. -/
namespace Abs
open Go
def thing (scalar over : Int) (s : Scope) : Int × Bool :=
  if scalar < 0 ∨ (s.scalars.length : Int) < scalar ∨ over < 0 ∨ (s.scalars.length : Int) < over then (0, false) else if scalar = 0 then (0, true) else (1 + scalar, true)
theorem thing_false {a b : Int} {s : Scope} (h : (thing a b s).2 = false) : (thing a b s).1 = 0 := by
  unfold thing at h ⊢
  by_cases q : a < 0 ∨ (s.scalars.length : Int) < a ∨ b < 0 ∨ (s.scalars.length : Int) < b
  · rw [if_pos q]
  · rw [if_neg q] at h
    by_cases q2 : a = 0
    · rw [if_pos q2] at h; cases h
    · rw [if_neg q2] at h; cases h
def declared (l : List Var) (n : Int) (s : Scope) : Option (Var × Int) :=
  match nth l n with
  | some v => if (thing v.scalar v.over s).2 then some (v, (thing v.scalar v.over s).1) else none
  | none => none
theorem declared_over {l : List Var} {n : Int} {s : Scope} {q : Var × Int} (h : declared l n s = some q) : 0 ≤ q.1.over ∧ q.1.over ≤ s.scalars.length := by
  unfold declared at h
  cases hn : nth l n with
  | none => rw [hn] at h; cases h
  | some v =>
    rw [hn] at h
    simp only at h
    by_cases ht : (thing v.scalar v.over s).2 = true
    · rw [if_pos ht] at h
      unfold thing at ht
      by_cases q1 : v.scalar < 0 ∨ (s.scalars.length : Int) < v.scalar ∨ v.over < 0 ∨ (s.scalars.length : Int) < v.over
      · rw [if_pos q1] at ht; cases ht
      · injection h with h
        subst h
        simp only
        omega
    · rw [if_neg ht] at h; cases h
def channel (n : Int) (s : Scope) : Option Int :=
  match nth s.chans n with
  | some c => if (thing c.scalar 0 s).2 then some (thing c.scalar 0 s).1 else none
  | none => none
def asked (e : List Node) (k : Int) (s : Scope) : Int := if (kind e s).2 ≠ 0 then (kind e s).2 else if (kind e s).1 ≠ k then 9 else 0
def talks (a : Act) : Bool := decide (a.kind = 4 ∨ a.kind = 5)
def receives (a : Act) (k : Int) (s : Scope) : Int := match declared s.locals a.loc s with | some (v, k') => if v.over ≠ 0 ∨ k' ≠ k then 9 else 0 | none => 8
def actE (a : Act) (s : Scope) : Int :=
  if a.kind = 1 ∨ a.kind = 2 ∨ a.kind = 3 then
    match declared (if a.kind = 3 then s.locals else s.vars) a.to s with
    | none => 8
    | some (v, k) =>
      if (v.over ≠ 0) ≠ (a.kind = 2) then 9
      else if a.kind = 2 ∧ asked a.index (1 + v.over) s ≠ 0 then asked a.index (1 + v.over) s
      else asked a.value k s
  else if a.kind = 4 ∨ a.kind = 5 then
    match channel a.to s with
    | none => 8
    | some k => if a.kind = 5 then receives a k s else asked a.value k s
  else 3
def head (c : Cmd) (locs : Int) : Int :=
  if isName c.name = false then 6 else if c.from_ < 0 ∨ locs ≤ c.from_ ∨ c.to < 0 ∨ locs ≤ c.to then 10 else if c.acts.length > 6 then 11 else 0
def actsE (s : Scope) : List Act → Nat → Bool → Int × Int
  | [], _, _ => (0, 0)
  | a :: r, i, t => if talks a && t then (2 + i, 7) else if actE a s ≠ 0 then (2 + i, actE a s) else actsE s r (i + 1) (t || talks a)
def cmdCheck (c : Cmd) (locs : Int) (s : Scope) : Int × Int :=
  if head c locs ≠ 0 then (0, head c locs) else if c.guard.length > 0 ∧ asked c.guard 1 s ≠ 0 then (1, asked c.guard 1 s) else actsE s c.acts 0 false
end Abs
end
section
/- Plain: processes. No program in sight. -/
namespace Abs
open Go
def inner (p : Proc) (s : Scope) : Scope := { s with locals := p.vars, self := p.over }
def whole (p : Proc) (s : Scope) : Int :=
  if isName p.name = false then 6 else if p.over < 0 ∨ (s.scalars.length : Int) < p.over then 8 else if p.locs < 1 ∨ 12 < p.locs then 10 else if p.cmds.length > 12 then 11 else 0
def localsE (s : Scope) : List Var → Nat → Int × Int
  | [], _ => (0, 0)
  | v :: r, i => if v.over ≠ 0 then (i, 9) else if s.vars.any (fun x => decide (x.name = v.name)) then (i, 7) else localsE s r (i + 1)
def plocals (p : Proc) (s : Scope) : Int × Int := if (vars p.vars s.scalars 4).2 ≠ 0 then vars p.vars s.scalars 4 else localsE s p.vars 0
def cmdsE (own : Scope) (locs : Int) (all : List Cmd) : List Cmd → Nat → Int × Int × Int
  | [], _ => (0, 0, 0)
  | c :: r, i => if (cmdCheck c locs own).2 ≠ 0 then (2 + (i : Int), (cmdCheck c locs own).1, (cmdCheck c locs own).2)
    else if (all.take i).any (fun x => decide (x.name = c.name)) then (2 + (i : Int), 0, 7) else cmdsE own locs all r (i + 1)
def procCheck (p : Proc) (s : Scope) : Int × Int × Int :=
  if whole p s ≠ 0 then (0, 0, whole p s) else if (plocals p s).2 ≠ 0 then (1, (plocals p s).1, (plocals p s).2) else cmdsE (inner p s) p.locs p.cmds p.cmds 0
def mscope (m : Model) : Scope := ⟨m.scalars, m.vars, m.chans, m.procs, [], 0⟩
def pscope (m : Model) (i : Int) : Scope := match nth m.procs i with | some p => inner p (mscope m) | none => mscope m
def elems (m : Model) (p : Proc) : Nat := match nth m.scalars (p.over - 1) with | some s => if s.size < 1 ∨ 4 < s.size then 0 else s.size.toNat | none => 0
/-- The instances over elements. -/
def overs (i : Nat) (n : Nat) : List Inst := (List.range n).map fun (k : Nat) => (⟨(i : Int), (k : Int) + 1⟩ : Inst)
def ownI (i : Nat) (p : Proc) : List Inst := if p.over = 0 then [(⟨(i : Int), 0⟩ : Inst)] else []
def instsFrom (m : Model) : List Proc → Nat → List Inst
  | [], _ => []
  | p :: r, i => ownI i p ++ overs i (elems m p) ++ instsFrom m r (i + 1)
def insts (m : Model) : List Inst := instsFrom m m.procs 0
/-- One that is there. -/
structure Inst.of (m : Model) (x : Inst) : Prop where
  lo : 0 ≤ x.proc
  hi : x.proc < m.procs.length
  elem : 0 ≤ x.elem ∧ x.elem ≤ 4
def cmdOf (m : Model) (r : Ref) : Option Cmd := match nth (insts m) r.inst with | some x => (match nth m.procs x.proc with | some p => nth p.cmds r.cmd | none => none) | none => none
def isFair (m : Model) (r : Ref) : Bool := match cmdOf m r with | some c => c.fair | none => false
end Abs
end
