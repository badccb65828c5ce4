/- Texts joined: Lite12 LexP DeclP Rep Rep2 Lite13 Lite14 Lite15 Lite16 LiteS LiteN LiteO ExprP CmdP ProcP ModP LayP. -/
import Derived.Test.YtglnobabdcoknaaGreatDoorQrdxc
import Derived.Lib.RuneCount
import Derived.Lib.TrimU
import Derived.Laws.StructEq
import Derived.Laws.Cover3
import Derived.Maps.AppendAt
import Derived.Laws.Pointers
set_option linter.all false
set_option maxRecDepth 4000
section
namespace Lite
open Go Go.RowKit
structure Hold (p : Prop) : Prop where out : p
theorem St {A B : Prop} (k : B) (h : Hold B → A := by
 intro q
 (repeat' first
 | assumption
 | exact Ext.refl _
 | refine Ext.trans ?_ (by assumption)
 | refine K.wrap (by omega) ?_
 | refine K.ldb (by assumption) ?_ rfl ?_
 | refine K.ldb0 (by assumption) ?_ rfl ?_
 | refine K.ldE (by assumption) ?_ (by omega) rfl ?_
 | refine K.ldE0 (by assumption) ?_ (by omega) rfl ?_
 | refine K.ldAE (by assumption) ?_ (by omega) rfl ?_
 | refine K.iaC (by omega) ?_
 | refine K.condT (by first | assumption | omega) ?_
 | refine K.condF (by first | assumption | omega) ?_
 | refine K.condbT (by assumption) ?_
 | refine K.condbF (by assumption) ?_
 | simp -dsimp only [LL,B9,Nat.reduceAdd,Nat.reduceEqDiff,reduceIte,reduceCtorEq,fE])
 exact q.out) : A := h ⟨k⟩
theorem Sw {F A B : Prop} (f : F) (k : B) (h : F → Hold B → A := by
 intro f q
 (repeat' first
 | assumption
 | exact Ext.refl _
 | refine Ext.trans ?_ (by assumption)
 | refine K.wrap (by omega) ?_
 | refine K.ldb (by assumption) ?_ rfl ?_
 | refine K.ldb0 (by assumption) ?_ rfl ?_
 | refine K.ldE (by assumption) ?_ (by omega) rfl ?_
 | refine K.ldE0 (by assumption) ?_ (by omega) rfl ?_
 | refine K.ldAE (by assumption) ?_ (by omega) rfl ?_
 | refine K.iaC (by omega) ?_
 | refine K.condT (by first | assumption | omega) ?_
 | refine K.condF (by first | assumption | omega) ?_
 | refine K.condbT (by assumption) ?_
 | refine K.condbF (by assumption) ?_
 | simp -dsimp only [LL,B9,Nat.reduceAdd,Nat.reduceEqDiff,reduceIte,reduceCtorEq,fE,f])
 exact q.out) : A := h f ⟨k⟩
theorem Tt {A B : Prop} (k : B) (h : Hold B → A := by
 intro q
 (repeat' first
 | assumption
 | exact Ext.refl _
 | refine Ext.trans ?_ (by assumption)
 | refine K.wrap (by omega) ?_
 | refine K.ldb (by assumption) ?_ rfl ?_
 | refine K.ldb0 (by assumption) ?_ rfl ?_
 | refine K.ldE (by assumption) ?_ (by omega) rfl ?_
 | refine K.ldE0 (by assumption) ?_ (by omega) rfl ?_
 | refine K.ldAE (by assumption) ?_ (by omega) rfl ?_
 | refine K.iaC (by omega) ?_
 | refine K.condT (by first | assumption | omega) ?_
 | refine K.condF (by first | assumption | omega) ?_
 | refine K.condbT (by assumption) ?_
 | refine K.condbF (by assumption) ?_
 | simp -dsimp only [LL,Nat.reduceAdd,Nat.reduceEqDiff,reduceIte,reduceCtorEq,fE])
 exact q.out) : A := h ⟨k⟩
theorem Gw {F A B : Prop} (f : F) (k : B) (h : F → Hold B → A := by
 intro f q
 simp -dsimp only [LL,B9,Nat.reduceAdd,Nat.reduceEqDiff,reduceIte,reduceCtorEq,fE,f]
 exact q.out) : A := h f ⟨k⟩
def slots : List (Nat × Value) → Fr → Fr
 | [], S => S
 | p :: r, S => upd (slots r S) p.1 p.2
theorem slots_nil (S : Fr) : slots [] S = S := eq_of_heq (HEq.refl _)
theorem slots_cons (t : Nat) (v : Value) (r : List (Nat × Value)) (S : Fr) : slots ((t, v) :: r) S = upd (slots r S) t v := eq_of_heq (HEq.refl _)
def Has (S : Fr) : List (Nat × Value) → Prop
 | [] => True
 | p :: r => S p.1 = p.2 ∧ Has S r
theorem has_nil (S : Fr) : Has S [] = True := propext Iff.rfl
theorem has_cons (S : Fr) (t : Nat) (v : Value) (r : List (Nat × Value)) : Has S ((t, v) :: r) = (S t = v ∧ Has S r) := propext Iff.rfl
theorem slots_eq {S : Fr} : ∀ L, Has S L → slots L S = S
 | [], _ => rfl
 | p :: r, h => by
  show upd (slots r S) p.1 p.2 = S
  rw [slots_eq r h.2]; exact upd_self S _ _ h.1
def keepV (S : Fr) : List Nat → Fr → Fr
 | [], S' => S'
 | t :: r, S' => upd (keepV S r S') t (S t)
theorem keepV_nil (S S' : Fr) : keepV S [] S' = S' := eq_of_heq (HEq.refl _)
theorem keepV_cons (S S' : Fr) (t : Nat) (r : List Nat) : keepV S (t :: r) S' = upd (keepV S r S') t (S t) := eq_of_heq (HEq.refl _)
theorem keepV_eq {S S' : Fr} : ∀ ts : List Nat, (∀ t ∈ ts, S' t = S t) → keepV S ts S' = S'
 | [], _ => rfl
 | t :: r, h => by
  show upd (keepV S r S') t (S t) = S'
  rw [keepV_eq r fun u hu => h u (by simp [hu])]; exact upd_self S' _ _ (h t (by simp))
theorem hZq {p : Prop} (h : p := by first | trivial | rfl | exact ⟨rfl, trivial⟩ | (simp -dsimp only [LL,slots_nil,slots_cons,keepV_nil,keepV_cons,has_nil,has_cons,Nat.reduceAdd,Nat.reduceEqDiff,reduceIte,and_self]; done) | (simp -dsimp only [LL,slots_nil,slots_cons,keepV_nil,keepV_cons,has_nil,has_cons,Nat.reduceAdd,Nat.reduceEqDiff,reduceIte,and_self]; exact ⟨rfl, trivial⟩)) : p := h
theorem notin_of {ds ts : List Nat} (h : (ts.all fun t => !ds.contains t) = true) : ∀ t ∈ ts, ds.contains t = false := fun t ht => by
 have := List.all_eq_true.1 h t ht
 simpa using this
theorem min_ex {p : Nat → Prop} : ∀ n, p n → ∃ m, p m ∧ ∀ k, p k → m ≤ k := fun n => by
 induction n using Nat.strongRecOn with
 | _ n ih =>
  intro h
  by_cases hm : ∃ k, k < n ∧ p k
  ·obtain ⟨k, hk, hp⟩ := hm
   exact ih k hk hp
  ·exact ⟨n, h, fun k hk => Nat.le_of_not_lt fun hlt => hm ⟨k, hlt, hk⟩⟩
noncomputable def least (p : Nat → Prop) : Nat := open Classical in if h : ∃ m, p m ∧ ∀ k, p k → m ≤ k then h.choose else 0
theorem least_ok {p : Nat → Prop} (h : ∃ n, p n) : p (least p) ∧ ∀ k, p k → least p ≤ k := by
 obtain ⟨n, hn⟩ := h
 have hm := min_ex n hn
 unfold least
 rw [dif_pos hm]
 exact hm.choose_spec
section
variable {P : Program} {Q : LX → Fr → World → Prop} {S : Fr} {w : World}
theorem K.forG {β : Type} {b : LC} {t} (i N : Nat) (ts : List Nat) (M : β → List (Nat × Value)) (x0 : β) (J : Nat → β → World → Prop) (hi0 : S i = .int .i64 0) (hM : Has S (M x0)) (h0 : J 0 x0 w)
  (hr : ∀ (k : Nat) x S' w', k ≤ N → J k x w' →
   vch P b (thenQh (fun S'' w'' => k < N ∧ S'' i = .int .i64 ((k : Int) + 1) ∧ ∃ x', Has S'' (M x') ∧ J (k + 1) x' w'') Q ⟨⟩) (slots (M x) (upd (keepV S ts S') i (.int .i64 k))) w' ⟨⟩)
  (hd : (ts.all fun t => !b.dsts.contains t) = true := by rfl) : LoopVCh P b Q S w t := by
 refine K.for1 i N (fun k S w => ∃ x, Has S (M x) ∧ J k x w) hi0 ⟨x0, hM, h0⟩ ?_
 rintro k S' w' hS hk hi ⟨x, hM', hJ⟩
 have h := hr k x S' w' hk hJ
 rw [keepV_eq ts fun t ht => hS t (notin_of hd t ht), upd_self S' i _ hi, slots_eq _ hM'] at h
 exact h
theorem K.cutG {β : Type} {a b : LC} {t} (ts : List Nat) (M : β → List (Nat × Value)) (N : β → World → Prop) (h1 : vch P a (thenQh (fun S'' w'' => ∃ x, Has S'' (M x) ∧ N x w'') Q ⟨⟩) S w ⟨⟩)
  (h2 : ∀ x S' w', N x w' → vch P b Q (slots (M x) (keepV S ts S')) w' ⟨⟩) (hd : (ts.all fun t => !a.dsts.contains t) = true := by rfl) : vch P (.seq a b) Q S w t := by
 refine K.cut _ h1 ?_
 rintro S' w' hS ⟨x, hM, hN⟩
 have h := h2 x S' w' hN
 rw [keepV_eq ts fun t ht => hS t (notin_of hd t ht), slots_eq _ hM] at h
 exact h
theorem K.whG {β : Type} {b : LC} {t} (ts : List Nat) (M : β → List (Nat × Value)) (x0 : β) (J : β → World → Prop) (μ : β → Nat) (hM : Has S (M x0)) (h0 : J x0 w)
  (hr : ∀ x S' w', J x w' →
   vch P b (thenQh (fun S'' w'' => ∃ x', Has S'' (M x') ∧ J x' w'' ∧ μ x' < μ x) Q ⟨⟩) (slots (M x) (keepV S ts S')) w' ⟨⟩)
  (hd : (ts.all fun t => !b.dsts.contains t) = true := by rfl) : LoopVCh P b Q S w t := by
 refine K.loop (fun S w => ∃ x, Has S (M x) ∧ J x w) (fun S w => least fun n => ∃ x, Has S (M x) ∧ J x w ∧ μ x = n) ⟨x0, hM, h0⟩ ?_
 rintro S' w' hS ⟨x, hM', hJ⟩
 obtain ⟨⟨y, h1, h2, h3⟩, h4⟩ := least_ok (p := fun n => ∃ x, Has S' (M x) ∧ J x w' ∧ μ x = n) ⟨μ x, x, hM', hJ, rfl⟩
 have h := hr y S' w' h2
 rw [keepV_eq ts fun t ht => hS t (notin_of hd t ht), slots_eq _ h1] at h
 unfold vch thenQh at *
 refine vc_keep b _ _ S' w' (fun e S'' w'' _ h => ?_) h
 match e, h with
 | .normal, ⟨z, k1, k2, k3⟩ =>
  refine ⟨⟨z, k1, k2⟩, ?_⟩
  have h5 := (least_ok (p := fun n => ∃ x, Has S'' (M x) ∧ J x w'' ∧ μ x = n) ⟨μ z, z, k1, k2, rfl⟩).2 (μ z) ⟨z, k1, k2, rfl⟩
  show least _ < least _
  rw [← h3]
  omega
 | .exit _, h => exact h
 | .ret, h => exact h
 | .pan _, h => exact h
end
end Lite
end
section
namespace Abs
open Go
def letter (n : Int) : Bool := decide (97 ≤ n ∧ n ≤ 122 ∨ 65 ≤ n ∧ n ≤ 90)
def digit (n : Int) : Bool := decide (48 ≤ n ∧ n ≤ 57)
def part (n : Int) : Bool := letter n || digit n || decide (n = 95)
def byteAt (s : ByteArray) (i : Nat) : Nat := (s.get! i).toNat
def run (p : Int → Bool) (s : ByteArray) : Nat := (s.data.toList.takeWhile fun b => p b.toNat).length
theorem take_run {α : Type} (p : α → Bool) : ∀ (l : List α) (n : Nat) (h : n < l.length), (∀ j (hj : j < n), p (l[j]'(by omega)) = true) → p l[n] = false → (l.takeWhile p).length = n
 | [], n, h, _, _ => by simp at h
 | x :: l, 0, h, _, h2 => by simp at h2; simp [h2]
 | x :: l, n + 1, h, h1, h2 => by
  have hx : p x = true := h1 0 (by omega)
  rw [List.takeWhile_cons, if_pos hx, List.length_cons, take_run p l n (by simpa using h) (fun j hj => h1 (j + 1) (by omega)) (by simpa using h2)]
theorem take_all {α : Type} (p : α → Bool) : ∀ (l : List α) (_ : ∀ j (hj : j < l.length), p l[j] = true), (l.takeWhile p).length = l.length
 | [], _ => rfl
 | x :: l, h => by
  have hx : p x = true := h 0 (by simp)
  rw [List.takeWhile_cons, if_pos hx, List.length_cons, take_all p l (fun j hj => h (j + 1) (by simpa using hj)), List.length_cons]
theorem run_stop (p : Int → Bool) (s : ByteArray) (n : Nat) (h : n < s.size) (h1 : ∀ j (hj : j < n), p (s[j]'(by omega)).toNat = true) (h2 : p s[n].toNat = false) : run p s = n :=
 take_run (fun b : UInt8 => p b.toNat) s.data.toList n (by simpa using h) (fun j hj => h1 j hj) h2
theorem run_all (p : Int → Bool) (s : ByteArray) (h : ∀ j (hj : j < s.size), p s[j].toNat = true) : run p s = s.size := by
 have := take_all (fun b : UInt8 => p b.toNat) s.data.toList (fun j hj => h j (by simpa using hj))
 rw [run, this]; simp
theorem decode_part {p : Int → Bool} (hp : ∀ r : Int, 128 ≤ r → p r = false) (s : ByteArray) (pos : Nat) (h : pos < s.size) :
  p (Utf8.decode s pos).1 = p s[pos].toNat ∧ (p s[pos].toNat = true → (Utf8.decode s pos).2 = 1) := by
 by_cases ha : s[pos].toNat < 128
 ·rw [decode_ascii s pos h ha]; exact ⟨rfl, fun _ => rfl⟩
 ·have h1 := decode_high s pos h (by omega)
  rw [hp _ (by omega), hp _ (by omega)]
  exact ⟨rfl, fun h => by simp at h⟩
theorem letter_high (r : Int) (h : 128 ≤ r) : letter r = false := by simp [letter]; omega
theorem digit_high (r : Int) (h : 128 ≤ r) : digit r = false := by simp [digit]; omega
theorem part_high (r : Int) (h : 128 ≤ r) : part r = false := by simp [part, letter_high r h, digit_high r h]; omega
instance instLawfulBytes : LawfulBEq ByteArray where
 eq_of_beq {a b} h := by rw [Lite.ba_beq] at h; exact of_decide_eq_true h
 rfl {a} := by rw [Lite.ba_beq]; exact decide_eq_true rfl
def ownL : List ByteArray := [⟨#[115, 101, 108, 102]⟩, ⟨#[110, 111, 110, 101]⟩, ⟨#[108, 101, 110]⟩, ⟨#[97, 116]⟩]
def isName (s : ByteArray) : Bool := decide (s.size ≠ 0) && decide (s.size ≤ 16) && letter (byteAt s 0) && decide (run part s = s.size) && !decide (s ∈ ownL)
theorem run_le (p : Int → Bool) (s : ByteArray) : run p s ≤ s.size := by
 have := (List.takeWhile_sublist (fun b : UInt8 => p b.toNat) (l := s.data.toList)).length_le
 simpa [run] using this
theorem get_eq (s : ByteArray) (i : Nat) (h : i < s.size) : s.get! i = s[i] := by
 obtain ⟨d⟩ := s
 show d[i]! = d[i]
 exact getElem!_pos d i h
theorem get?_eq (s : ByteArray) (i : Nat) (h : i < s.size) : s[i]? = some (s.get! i) := by rw [get_eq s i h]; exact getElem?_pos s i h
structure Scalar where
 name : ByteArray
 size : Int
structure Var where
 name : ByteArray
 scalar : Int
 over : Int
 lo : Int
 hi : Int
 init : Int
structure Chan where
 name : ByteArray
 scalar : Int
 cap : Int
 lo : Int
 hi : Int
 lossy : Bool
def size (k : Int) (s : List Scalar) : Int :=
 match s[(k - 1).toNat]? with
 | some x => if 1 ≤ k ∧ 1 ≤ x.size ∧ x.size ≤ 4 then x.size else 0
 | none => 0
def narrow (lo hi : Int) : Bool := decide (-1048576 ≤ lo ∧ lo ≤ hi ∧ hi ≤ 1048576 ∧ hi - lo < 256)
def there (k : Int) (s : List Scalar) : Bool := decide (k = 0 ∨ size k s ≠ 0)
def err (most : Int) (nm : Nat → ByteArray) (mo : Nat → Int) (i : Nat) : Int :=
 if most ≤ i then 11 else if isName (nm i) = false then 6 else if ∃ j, j < i ∧ nm j = nm i then 7 else mo i
def first (n : Nat) (e : Nat → Int) : Int × Int := match (List.range n).find? (fun i => decide (e i ≠ 0)) with | some i => ((i : Int), e i) | none => (0, 0)
theorem first_stop {n : Nat} {e : Nat → Int} {i : Nat} (hi : i < n) (h1 : ∀ j, j < i → e j = 0) (h2 : e i ≠ 0) : first n e = ((i : Int), e i) := by
 have : (List.range n).find? (fun i => decide (e i ≠ 0)) = some i := by
  rw [List.find?_range_eq_some]
  simp only [decide_eq_true_eq]
  exact ⟨h2, by simpa using hi, fun j hj => by simp [h1 j hj]⟩
 rw [first, this]
theorem first_none {n : Nat} {e : Nat → Int} (h : ∀ j, j < n → e j = 0) : first n e = (0, 0) := by
 have : (List.range n).find? (fun i => decide (e i ≠ 0)) = none := by
  rw [List.find?_range_eq_none]
  intro j hj
  simp [h j hj]
 rw [first, this]
theorem first_congr {n : Nat} {e e' : Nat → Int} (h : ∀ j, j < n → e j = e' j) : first n e = first n e' := by
 by_cases hx : ∃ i, i < n ∧ e i ≠ 0 ∧ ∀ j, j < i → e j = 0
 ·obtain ⟨i, hi, h1, h2⟩ := hx
  rw [first_stop hi h2 h1, first_stop hi (fun j hj => by rw [← h j (by omega)]; exact h2 j hj) (by rw [← h i hi]; exact h1), h i hi]
 ·have hz : ∀ j, j < n → e j = 0 := by
   intro j
   induction j using Nat.strongRecOn with
   | _ j ih =>
    intro hj
    by_cases h0 : e j = 0
    ·exact h0
    ·exact absurd ⟨j, hj, h0, fun k hk => ih k hk (by omega)⟩ hx
  rw [first_none hz, first_none fun j hj => by rw [← h j hj]; exact hz j hj]
def nameAt {α : Type} (f : α → ByteArray) (l : List α) (i : Nat) : ByteArray := (l[i]?.map f).getD ⟨#[]⟩
def scalarErr (l : List Scalar) (i : Nat) : Int := match l[i]? with | some x => if 1 ≤ x.size ∧ x.size ≤ 4 then 0 else 10 | none => 0
def scalars (l : List Scalar) : Int × Int := first l.length (err 2 (nameAt (·.name) l) (scalarErr l))
def bounds (v : Var) (s : List Scalar) : Int × Int := if v.scalar = 0 then (v.lo, v.hi) else (0, size v.scalar s)
def cells (v : Var) (s : List Scalar) : Int := if v.over = 0 then 1 else size v.over s
def varErr (l : List Var) (s : List Scalar) (i : Nat) : Int :=
 match l[i]? with
 | some v => if there v.scalar s = false ∨ there v.over s = false then 8
  else if (v.scalar = 0 ∧ narrow v.lo v.hi = false) ∨ v.init < (bounds v s).1 ∨ v.init > (bounds v s).2 then 10 else 0
 | none => 0
def vars (l : List Var) (s : List Scalar) (most : Int) : Int × Int := first l.length (err (max most 0) (nameAt (·.name) l) (varErr l s))
def chanErr (l : List Chan) (s : List Scalar) (i : Nat) : Int :=
 match l[i]? with
 | some c => if there c.scalar s = false then 8
  else if c.cap < 1 ∨ c.cap > 4 ∨ (c.scalar = 0 ∧ narrow c.lo c.hi = false) then 10 else 0
 | none => 0
def chans (l : List Chan) (s : List Scalar) : Int × Int := first l.length (err 4 (nameAt (·.name) l) (chanErr l s))
end Abs
end
section
namespace Abs
open Go Go.RowKit Lite
def Scalar.enc (x : Scalar) : List Value := [.string x.name, .int .i64 x.size]
def Var.enc (x : Var) : List Value := [.string x.name, .int .i64 x.scalar, .int .i64 x.over, .int .i64 x.lo, .int .i64 x.hi, .int .i64 x.init]
def Chan.enc (x : Chan) : List Value := [.string x.name, .int .i64 x.scalar, .int .i64 x.cap, .int .i64 x.lo, .int .i64 x.hi, .bool x.lossy]
def strOk (s : ByteArray) : Prop := s.size ≤ 9223372036854775807
instance instStrOk (s : ByteArray) : Decidable (strOk s) := Nat.decLe _ _
structure RScalar (w : World) (a : Addr) (x : Scalar) : Prop where
 cells : CellsAt w a x.enc
 ok : strOk x.name
structure RVar (w : World) (a : Addr) (x : Var) : Prop where
 cells : CellsAt w a x.enc
 ok : strOk x.name
structure RChan (w : World) (a : Addr) (x : Chan) : Prop where
 cells : CellsAt w a x.enc
 ok : strOk x.name
theorem RScalar.ext (w w' : World) (a : Addr) (x : Scalar) (he : Ext w w') (h : RScalar w a x) : RScalar w' a x := ⟨h.cells.ext he, h.ok⟩
theorem RVar.ext (w w' : World) (a : Addr) (x : Var) (he : Ext w w') (h : RVar w a x) : RVar w' a x := ⟨h.cells.ext he, h.ok⟩
theorem RChan.ext (w w' : World) (a : Addr) (x : Chan) (he : Ext w w') (h : RChan w a x) : RChan w' a x := ⟨h.cells.ext he, h.ok⟩
abbrev Scalars (w : World) (v : Value) (l : List Scalar) : Prop := SlR 2 RScalar w v l
abbrev Vars (w : World) (v : Value) (l : List Var) : Prop := SlR 6 RVar w v l
abbrev Chans (w : World) (v : Value) (l : List Chan) : Prop := SlR 6 RChan w v l
theorem Scalars.blk {w : World} {b n : Nat} {e : TypeId} {f : Nat × Nat} {xs : List Scalar} (hb : w.heap[b]? = some (.cells (xs.flatMap Scalar.enc).toArray e f)) (hn : n = xs.length) (hm : xs.length ≤ maxLen) (hok : ∀ x ∈ xs, strOk x.name) :
  Scalars w (.slice (some ⟨b, 0, none⟩) n n) xs := SlR.blk (enc := Scalar.enc) (fun _ => rfl) hb hn hm fun _ x hx hc => ⟨hc, hok x hx⟩
theorem Vars.blk {w : World} {b n : Nat} {e : TypeId} {f : Nat × Nat} {xs : List Var} (hb : w.heap[b]? = some (.cells (xs.flatMap Var.enc).toArray e f)) (hn : n = xs.length) (hm : xs.length ≤ maxLen) (hok : ∀ x ∈ xs, strOk x.name) :
  Vars w (.slice (some ⟨b, 0, none⟩) n n) xs := SlR.blk (enc := Var.enc) (fun _ => rfl) hb hn hm fun _ x hx hc => ⟨hc, hok x hx⟩
structure Node where
 op : Int
 n : Int
structure Act where
 kind : Int
 to : Int
 loc : Int
 index : List Node
 value : List Node
structure Cmd where
 name : ByteArray
 from_ : Int
 to : Int
 guard : List Node
 acts : List Act
 fair : Bool
structure Proc where
 name : ByteArray
 over : Int
 locs : Int
 vars : List Var
 cmds : List Cmd
structure Prp where
 name : ByteArray
 expr : List Node
structure Model where
 scalars : List Scalar
 vars : List Var
 chans : List Chan
 procs : List Proc
 props : List Prp
structure Inst where
 proc : Int
 elem : Int
deriving DecidableEq
structure Ref where
 inst : Int
 cmd : Int
deriving DecidableEq
def Inst.enc (x : Inst) : List Value := [.int .i64 x.proc, .int .i64 x.elem]
def Ref.enc (x : Ref) : List Value := [.int .i64 x.inst, .int .i64 x.cmd]
def Node.enc (x : Node) : List Value := [.int .i64 x.op, .int .i64 x.n]
def inI (n : Int) : Prop := -9223372036854775808 ≤ n ∧ n ≤ 9223372036854775807
structure Node.ok (x : Node) : Prop where
 op : inI x.op
 n : inI x.n
structure RNode (w : World) (a : Addr) (x : Node) : Prop where
 cells : CellsAt w a x.enc
 ok : x.ok
theorem RNode.ext (w w' : World) (a : Addr) (x : Node) (he : Ext w w') (h : RNode w a x) : RNode w' a x := ⟨h.cells.ext he, h.ok⟩
abbrev Nodes (w : World) (v : Value) (l : List Node) : Prop := SlR 2 RNode w v l
theorem Nodes.ext {w w' : World} {v : Value} {l : List Node} (he : Ext w w') (h : Nodes w v l) : Nodes w' v l := SlR.ext RNode.ext he h
def Act.enc (x : Act) (vi vv : Value) : List Value := [.int .i64 x.kind, .int .i64 x.to, .int .i64 x.loc, vi, vv]
def RAct (w : World) (a : Addr) (x : Act) : Prop := ∃ vi vv, CellsAt w a (x.enc vi vv) ∧ Nodes w vi x.index ∧ Nodes w vv x.value
theorem RAct.ext (w w' : World) (a : Addr) (x : Act) (he : Ext w w') (h : RAct w a x) : RAct w' a x := let ⟨vi, vv, h1, h2, h3⟩ := h; ⟨vi, vv, h1.ext he, h2.ext he, h3.ext he⟩
abbrev Acts (w : World) (v : Value) (l : List Act) : Prop := SlR 5 RAct w v l
theorem Acts.ext {w w' : World} {v : Value} {l : List Act} (he : Ext w w') (h : Acts w v l) : Acts w' v l := SlR.ext RAct.ext he h
def Cmd.enc (x : Cmd) (vg va : Value) : List Value := [.string x.name, .int .i64 x.from_, .int .i64 x.to, vg, va, .bool x.fair]
def RCmd (w : World) (a : Addr) (x : Cmd) : Prop := strOk x.name ∧ ∃ vg va, CellsAt w a (x.enc vg va) ∧ Nodes w vg x.guard ∧ Acts w va x.acts
theorem RCmd.ext (w w' : World) (a : Addr) (x : Cmd) (he : Ext w w') (h : RCmd w a x) : RCmd w' a x := let ⟨h0, vi, vv, h1, h2, h3⟩ := h; ⟨h0, vi, vv, h1.ext he, h2.ext he, h3.ext he⟩
abbrev Cmds (w : World) (v : Value) (l : List Cmd) : Prop := SlR 6 RCmd w v l
theorem Cmds.ext {w w' : World} {v : Value} {l : List Cmd} (he : Ext w w') (h : Cmds w v l) : Cmds w' v l := SlR.ext RCmd.ext he h
theorem Scalars.ext {w w' : World} {v : Value} {l : List Scalar} (he : Ext w w') (h : Scalars w v l) : Scalars w' v l := SlR.ext RScalar.ext he h
theorem Vars.ext {w w' : World} {v : Value} {l : List Var} (he : Ext w w') (h : Vars w v l) : Vars w' v l := SlR.ext RVar.ext he h
theorem Chans.ext {w w' : World} {v : Value} {l : List Chan} (he : Ext w w') (h : Chans w v l) : Chans w' v l := SlR.ext RChan.ext he h
def Proc.enc (x : Proc) (vv vc : Value) : List Value := [.string x.name, .int .i64 x.over, .int .i64 x.locs, vv, vc]
def RProc (w : World) (a : Addr) (x : Proc) : Prop := strOk x.name ∧ ∃ vv vc, CellsAt w a (x.enc vv vc) ∧ Vars w vv x.vars ∧ Cmds w vc x.cmds
theorem RProc.ext (w w' : World) (a : Addr) (x : Proc) (he : Ext w w') (h : RProc w a x) : RProc w' a x := let ⟨h0, vi, vv, h1, h2, h3⟩ := h; ⟨h0, vi, vv, h1.ext he, h2.ext he, h3.ext he⟩
abbrev Procs (w : World) (v : Value) (l : List Proc) : Prop := SlR 5 RProc w v l
theorem Procs.ext {w w' : World} {v : Value} {l : List Proc} (he : Ext w w') (h : Procs w v l) : Procs w' v l := SlR.ext RProc.ext he h
def CmdIs (w : World) (cs : List Value) (c : Cmd) : Prop := strOk c.name ∧ ∃ vg va, cs = c.enc vg va ∧ Nodes w vg c.guard ∧ Acts w va c.acts
theorem CmdIs.ext {w w' : World} {cs : List Value} {c : Cmd} (he : Ext w w') (h : CmdIs w cs c) : CmdIs w' cs c := let ⟨h0, vi, vv, h1, h2, h3⟩ := h; ⟨h0, vi, vv, h1, h2.ext he, h3.ext he⟩
def ProcIs (w : World) (cs : List Value) (p : Proc) : Prop := strOk p.name ∧ ∃ vv vc, cs = p.enc vv vc ∧ Vars w vv p.vars ∧ Cmds w vc p.cmds
theorem ProcIs.ext {w w' : World} {cs : List Value} {p : Proc} (he : Ext w w') (h : ProcIs w cs p) : ProcIs w' cs p := let ⟨h0, vi, vv, h1, h2, h3⟩ := h; ⟨h0, vi, vv, h1, h2.ext he, h3.ext he⟩
def Prp.enc (x : Prp) (ve : Value) : List Value := [.string x.name, ve]
def RPrp (w : World) (a : Addr) (x : Prp) : Prop := strOk x.name ∧ ∃ ve, CellsAt w a (x.enc ve) ∧ Nodes w ve x.expr
theorem RPrp.ext (w w' : World) (a : Addr) (x : Prp) (he : Ext w w') (h : RPrp w a x) : RPrp w' a x := let ⟨h0, vi, h1, h2⟩ := h; ⟨h0, vi, h1.ext he, h2.ext he⟩
abbrev Prps (w : World) (v : Value) (l : List Prp) : Prop := SlR 2 RPrp w v l
theorem Prps.ext {w w' : World} {v : Value} {l : List Prp} (he : Ext w w') (h : Prps w v l) : Prps w' v l := SlR.ext RPrp.ext he h
structure MI (w : World) (cs : List Value) (m : Model) : Prop where
 ex : ∃ v0 v1 v2 v3 v4, cs = [v0, v1, v2, v3, v4] ∧ Scalars w v0 m.scalars ∧ Vars w v1 m.vars ∧ Chans w v2 m.chans ∧ Procs w v3 m.procs ∧ Prps w v4 m.props
theorem MI.ext {w w' : World} {cs : List Value} {m : Model} (he : Ext w w') (h : MI w cs m) : MI w' cs m :=
 let ⟨v0, v1, v2, v3, v4, e, h0, h1, h2, h3, h4⟩ := h.ex
 ⟨v0, v1, v2, v3, v4, e, h0.ext he, h1.ext he, h2.ext he, h3.ext he, h4.ext he⟩
instance instCelNode : Cel RNode Node.enc := ⟨fun _ _ _ h => h.cells⟩
instance instCelScalar : Cel RScalar Scalar.enc := ⟨fun _ _ _ h => h.cells⟩
instance instCelVar : Cel RVar Var.enc := ⟨fun _ _ _ h => h.cells⟩
instance instCelChan : Cel RChan Chan.enc := ⟨fun _ _ _ h => h.cells⟩
end Abs
end
section
namespace Lite
open Go Go.RowKit
section
variable {P : Program} {K3 : Value → Prop} {w w0 : World}
theorem K.ldC {a : Addr} {cs : List Value} {j : Nat} {v : Value} {t} (h : CellsAt w0 a cs) (he : Ext w0 w) (hj : cs[j]? = some v) (hk : K3 v) : LdVCh (.pointer (some (a.add j))) w K3 t := K.ld (he.cell (h j v hj)) hk
theorem K.ldAC {a : Addr} {cs : List Value} {n : Nat} {t} (h : CellsAt w0 a cs) (he : Ext w0 w) (hn : cs.length = n) (hk : K3 (.agg cs.toArray)) : LdAVCh n (.pointer (some a)) w K3 t := K.ldA (h.ext he) hn hk
end
theorem Sg {A B : Prop} (k : B) (h : Hold B → A := by
 intro q
 (repeat' first
 | assumption
 | exact Ext.refl _
 | refine Ext.trans ?_ (by assumption)
 | simp -dsimp only [LL,B9,Nat.reduceAdd,Nat.reduceEqDiff,reduceIte,reduceCtorEq,fE,slots_nil,slots_cons,keepV_nil,keepV_cons,has_nil,has_cons,List.cons_append,List.nil_append]
 | refine K.wrap (by omega) ?_
 | refine K.ldb (by assumption) ?_ rfl ?_
 | refine K.ldb0 (by assumption) ?_ rfl ?_
 | refine K.iaC (by omega) ?_
 | refine K.condT (by first | assumption | omega) ?_
 | refine K.condF (by first | assumption | omega) ?_
 | refine K.condbT (by assumption) ?_
 | refine K.condbF (by assumption) ?_
 | refine K.ldE (by assumption) ?_ (by omega) rfl ?_
 | refine K.ldE0 (by assumption) ?_ (by omega) rfl ?_
 | refine K.ldAE (by assumption) ?_ (by omega) rfl ?_
 | refine K.ldC (by assumption) ?_ rfl ?_
 | refine K.ldAC (by assumption) ?_ rfl ?_
 | refine K.ldAb (by assumption) ?_ rfl ?_
 | refine K.newst (fun _ => by (simp -dsimp only [LL,Nat.reduceAdd,Nat.reduceEqDiff,reduceIte,reduceCtorEq,fE]); rfl) rfl rfl (by first | assumption | (simp [Value.oneCell',Abs.Inst.enc,Abs.Ref.enc,Abs.Node.enc,Abs.Scalar.enc,Abs.Var.enc,Abs.Chan.enc,Abs.Act.enc,Abs.Cmd.enc,Abs.Proc.enc,Abs.Prp.enc]; done)) ?_
 | refine K.new ?_
 | refine K.stAb (by assumption) rfl rfl (by first | assumption | (simp [Value.oneCell',Abs.Inst.enc,Abs.Ref.enc,Abs.Node.enc,Abs.Scalar.enc,Abs.Var.enc,Abs.Chan.enc,Abs.Act.enc,Abs.Cmd.enc,Abs.Proc.enc,Abs.Prp.enc]; done)) ?_
 | refine K.st1 (by assumption) (Nat.le_of_ble_eq_true rfl) rfl ?_
 | refine K.st0 (by assumption) (Nat.le_of_ble_eq_true rfl) rfl ?_
 | refine K.bldSa (by (simp only [fillC, lay, ev_const, ev_tmp, uA, Value.cells, Nat.reduceAdd, Nat.reduceEqDiff, reduceIte, List.range, List.range.loop, List.map_cons, List.map_nil]); rfl) ?_
 | refine K.bld (by (simp only [fillC, lay, ev_const, ev_tmp, uA, Value.cells, Nat.reduceAdd, Nat.reduceEqDiff, reduceIte]); rfl) ?_)
 exact q.out) : A := h ⟨k⟩
theorem Su {A B : Prop} (k : B) (h : Hold B → A := by
 intro q
 (repeat' first
 | assumption
 | exact Ext.refl _
 | refine Ext.trans ?_ (by assumption)
 | simp -dsimp only [LL,Nat.reduceAdd,Nat.reduceEqDiff,reduceIte,reduceCtorEq,fE,slots_nil,slots_cons,keepV_nil,keepV_cons,has_nil,has_cons,List.cons_append,List.nil_append]
 | refine K.wrap (by omega) ?_
 | refine K.ldb (by assumption) ?_ rfl ?_
 | refine K.ldb0 (by assumption) ?_ rfl ?_
 | refine K.iaC (by omega) ?_
 | refine K.condT (by first | assumption | omega) ?_
 | refine K.condF (by first | assumption | omega) ?_
 | refine K.condbT (by assumption) ?_
 | refine K.condbF (by assumption) ?_
 | refine K.ldE (by assumption) ?_ (by omega) rfl ?_
 | refine K.ldE0 (by assumption) ?_ (by omega) rfl ?_
 | refine K.ldAE (by assumption) ?_ (by omega) rfl ?_
 | refine K.ldC (by assumption) ?_ rfl ?_
 | refine K.ldAC (by assumption) ?_ rfl ?_
 | refine K.ldAb (by assumption) ?_ rfl ?_
 | refine K.newst (fun _ => by (simp -dsimp only [LL,Nat.reduceAdd,Nat.reduceEqDiff,reduceIte,reduceCtorEq,fE]); rfl) rfl rfl (by first | assumption | (simp [Value.oneCell',Abs.Inst.enc,Abs.Ref.enc,Abs.Node.enc,Abs.Scalar.enc,Abs.Var.enc,Abs.Chan.enc,Abs.Act.enc,Abs.Cmd.enc,Abs.Proc.enc,Abs.Prp.enc]; done)) ?_
 | refine K.new ?_
 | refine K.stAb (by assumption) rfl rfl (by first | assumption | (simp [Value.oneCell',Abs.Inst.enc,Abs.Ref.enc,Abs.Node.enc,Abs.Scalar.enc,Abs.Var.enc,Abs.Chan.enc,Abs.Act.enc,Abs.Cmd.enc,Abs.Proc.enc,Abs.Prp.enc]; done)) ?_
 | refine K.st1 (by assumption) (Nat.le_of_ble_eq_true rfl) rfl ?_
 | refine K.st0 (by assumption) (Nat.le_of_ble_eq_true rfl) rfl ?_
 | refine K.bldSa (by (simp only [fillC, lay, ev_const, ev_tmp, uA, Value.cells, Nat.reduceAdd, Nat.reduceEqDiff, reduceIte, List.range, List.range.loop, List.map_cons, List.map_nil]); rfl) ?_
 | refine K.bld (by (simp only [fillC, lay, ev_const, ev_tmp, uA, Value.cells, Nat.reduceAdd, Nat.reduceEqDiff, reduceIte]); rfl) ?_)
 exact q.out) : A := h ⟨k⟩
end Lite
end
section
namespace Lite
open Go Go.RowKit
def Stab (A : Nat → Prop) (p : World → Prop) (w : World) : Prop := ∀ w', Mod A w w' → p w'
theorem Stab.here {A : Nat → Prop} {p : World → Prop} {w : World} (h : Stab A p w) : p w := h w (Mod.refl A w)
theorem Mod.comp {A A' B : Nat → Prop} {a b c : World} (h : Mod A a b) (k : Mod A' b c) (h1 : ∀ i, i < a.heap.size → A i → B i) (h2 : ∀ i, i < a.heap.size → A' i → B i) : Mod B a c :=
 ⟨k.os.trans h.os, k.tape.trans h.tape, k.output.trans h.output, Nat.le_trans h.size k.size, fun i hi hn => (k.block i (Nat.lt_of_lt_of_le hi h.size) fun e => hn (h2 i hi e)).trans (h.block i hi fun e => hn (h1 i hi e))⟩
theorem Stab.move {A A' B : Nat → Prop} {p : World → Prop} {w w' : World} (h : Stab B p w) (m : Mod A w w') (h1 : ∀ i, i < w.heap.size → A i → B i) (h2 : ∀ i, i < w.heap.size → A' i → B i) : Stab A' p w' :=
 fun w'' k => h w'' (m.comp k h1 h2)
theorem Stab.mono {A B : Nat → Prop} {p : World → Prop} {w : World} (h : Stab B p w) (h2 : ∀ i, i < w.heap.size → A i → B i) : Stab A p w := h.move (Mod.refl A w) h2 h2
theorem Stab.ext {B : Nat → Prop} {p : World → Prop} {w w' : World} (h : Stab B p w) (e : Ext w w') (hB : ∀ i, w.heap.size ≤ i → ¬ B i) : Stab B p w' :=
 h.move (A := fun _ => False) e.mod (fun _ _ h => h.elim) (fun _ _ h => h)
theorem Stab.imp {A : Nat → Prop} {p q : World → Prop} {w : World} (h : Stab A p w) (hpq : ∀ w, p w → q w) : Stab A q w := fun w' m => hpq w' (h w' m)
theorem Stab.and {A : Nat → Prop} {p q : World → Prop} {w : World} (h : Stab A p w) (k : Stab A q w) : Stab A (fun w => p w ∧ q w) w := fun w' m => ⟨h w' m, k w' m⟩
theorem Stab.of {A : Nat → Prop} {p : World → Prop} {w : World} (h : ∀ w', p w') : Stab A p w := fun w' _ => h w'
abbrev New (w : World) (p : World → Prop) (w' : World) : Prop := Stab (fun k => k < w.heap.size) p w'
theorem New.ext {w w1 w2 : World} {p : World → Prop} (h : New w p w1) (he : Ext w1 w2) (h0 : w.heap.size ≤ w1.heap.size) : New w p w2 :=
 Stab.ext h he fun i hi hk => by omega
theorem New.low {w w0 w1 : World} {p : World → Prop} (h : New w p w1) (h0 : w0.heap.size ≤ w.heap.size) : New w0 p w1 := h.mono fun i _ hi => by omega
theorem New.wr {w w1 w2 : World} {p : World → Prop} {b : Nat} (h : New w p w1) (hw : Wr b w1 w2) (hb : b < w.heap.size) : New w p w2 :=
 Stab.move h (A := fun k => k = b) (hw.mod rfl) (fun i _ e => by omega) (fun i _ e => e)
theorem New.and {w w1 : World} {p q : World → Prop} (h : New w p w1) (k : New w q w1) : New w (fun w => p w ∧ q w) w1 := Stab.and h k
theorem New.imp {w w1 : World} {p q : World → Prop} (h : New w p w1) (hpq : ∀ w, p w → q w) : New w q w1 := Stab.imp h hpq
class Rel {α : Type} (R : World → Addr → α → Prop) (C : outParam (World → List Value → α → Prop)) (sz : outParam Nat) : Prop where
 out : ∀ {w a x}, R w a x → ∃ cs, CellsAt w a cs ∧ C w cs x
 inn : ∀ {w a cs x}, CellsAt w a cs → C w cs x → R w a x
 len : ∀ {w cs x}, C w cs x → cs.length = sz
 one : ∀ {w cs x}, C w cs x → ∀ u ∈ cs, u.oneCell' = true
 ext : ∀ {w w' cs x}, Ext w w' → C w cs x → C w' cs x
abbrev Cs (sz : Nat) := {cs : List Value // cs.length = sz ∧ ∀ u ∈ cs, u.oneCell' = true}
def encC {sz : Nat} (c : Cs sz) : List Value := c.1
theorem encC_len {sz : Nat} (c : Cs sz) : (encC c).length = sz := c.2.1
theorem encC_one {sz : Nat} (c : Cs sz) : ∀ u ∈ encC c, u.oneCell' = true := c.2.2
abbrev OwC (e : TypeId) (sz base : Nat) (w : World) (v : Value) (css : List (Cs sz)) : Prop := OwR encC e sz base w v css
theorem SlR.cells {α : Type} {R : World → Addr → α → Prop} {C : World → List Value → α → Prop} {sz : Nat} [Rel R C sz] {w : World} {v : Value} {xs : List α} (h : SlR sz R w v xs) :
  ∃ css : List (Cs sz), css.length = xs.length ∧ SlR sz (Flat encC) w v css ∧ ∀ i (h1 : i < css.length) (h2 : i < xs.length), C w css[i].1 xs[i] := by
 obtain ⟨oa, cap, rfl, h1, h2, h3, h4⟩ := h.ex
 obtain ⟨css, hl, hc⟩ := list_of xs.length (fun i (c : Cs sz) => (∀ a, oa = some a → CellsAt w (a.add (i * sz)) c.1) ∧ ∀ (h : i < xs.length), C w c.1 xs[i]) fun i hi => by
  obtain ⟨a, rfl⟩ := Option.isSome_iff_exists.1 (h3 (by intro e; subst e; simp at hi))
  obtain ⟨cs, c1, c2⟩ := Rel.out (h4 a rfl i hi)
  exact ⟨⟨cs, Rel.len (R := R) c2, Rel.one (R := R) c2⟩, fun a' e => by injection e with e; subst e; exact c1, fun _ => c2⟩
 refine ⟨css, hl, ⟨oa, cap, by rw [hl], by omega, h2, fun hn => h3 (by intro e; subst e; simp at hl; exact hn hl), fun a ha i hi => (hc i hi).1 a ha⟩, fun i h1 h2 => (hc i h1).2 h2⟩
theorem SlR.ofCells {α : Type} {R : World → Addr → α → Prop} {C : World → List Value → α → Prop} {sz : Nat} [Rel R C sz] {w : World} {v : Value} {xs : List α} {css : List (Cs sz)} (hl : css.length = xs.length) (h : SlR sz (Flat encC) w v css)
  (hc : ∀ i (h1 : i < css.length) (h2 : i < xs.length), C w css[i].1 xs[i]) : SlR sz R w v xs := by
 obtain ⟨oa, cap, rfl, h1, h2, h3, h4⟩ := h.ex
 refine ⟨oa, cap, by rw [hl], by omega, h2, fun hn => h3 (by intro e; subst e; simp at hl; exact hn (List.eq_nil_of_length_eq_zero hl.symm)), fun a ha i hi => Rel.inn (h4 a ha i (by omega)) (hc i (by omega) hi)⟩
theorem K.appAt {P : Program} {KK : Value → World → Prop} {α : Type} {enc : α → List Value} {e : TypeId} {sz base : Nat} {w : World} {xs : List α} {ty : TypeId} {b : Nat} {s : Value} {a : Addr} {m c : Nat} {ys : List α} {t} (hs : OwR enc e sz base w s xs) (hsz : ∀ x, (enc x).length = sz) (hc : CellsAt w a (ys.flatMap enc)) (hm : m = ys.length)
  (h1 : ∀ y, ∀ u ∈ enc y, u.oneCell' = true) (hb : (xs.length + ys.length) * b ≤ 140737488355328) (h63 : xs.length + ys.length ≤ maxLen) (hbase : base ≤ w.heap.size)
  (hk : ∀ v' w', OwR enc e sz base w' v' (xs ++ ys) → w.grownBy w' s.ownBlock → (v'.ownBlock = s.ownBlock ∨ v'.ownBlock = some w.heap.size) → KK v' w') : AppVCh P ty e sz b s (.slice (some a) m c) w KK t := by
 subst hm
 refine K.app fun ⟨ht, i, z, hi, hz, hsize, hby, hzs, hsz'⟩ => ?_
 obtain ⟨v', w', hr, h2, h3, _, h5⟩ := run_append_own_at (P := P) w base ty ty e i z sz b ht hi hz hsize hby hzs hsz' s _ _ hs a _ c _ (flat_len hsz ys) hc (fun u hu => by obtain ⟨y, _, hy⟩ := List.mem_flatMap.1 hu; exact h1 y u hy) h63 hb hbase
 refine ⟨ty, v', w', hr, hk v' w' ?_ h3 h5⟩
 unfold OwR
 rw [List.length_append, List.flatMap_append]
 exact h2
def Own1 (v : Value) (base k : Nat) : Prop := v.ownBlock = some k ∨ k < base
structure RowC {α : Type} (C : World → List Value → α → Prop) (e : TypeId) (sz base : Nat) (w : World) (v : Value) (xs : List α) : Prop where
 ex : ∃ css : List (Cs sz), css.length = xs.length ∧ OwC e sz base w v css ∧ ∀ i (h1 : i < css.length) (h2 : i < xs.length), Stab (Own1 v base) (fun w => C w css[i].1 xs[i]) w
section
variable {α : Type} {C : World → List Value → α → Prop} {e : TypeId} {sz base : Nat} {w w' : World} {v : Value} {xs : List α}
theorem RowC.nil (C : World → List Value → α → Prop) (e : TypeId) (sz base : Nat) (w : World) : RowC C e sz base w (.slice none 0 0) [] := ⟨[], rfl, OwR.nil _ _ _ _ _, fun i h => by cases h⟩
theorem RowC.form (h : RowC C e sz base w v xs) : ∃ oa cap, v = .slice oa xs.length cap ∧ xs.length ≤ cap ∧ cap ≤ maxLen := by
 obtain ⟨css, hl, ho, _⟩ := h.ex
 obtain ⟨oa, cap, h1, h2, h3⟩ := ho.form
 exact ⟨oa, cap, by rw [h1, hl], by omega, h3⟩
theorem RowC.lt (h : RowC C e sz base w v xs) : ∀ k, v.ownBlock = some k → base ≤ k ∧ k < w.heap.size := by
 obtain ⟨css, hl, ho, _⟩ := h.ex
 exact ho.lt
theorem OwR.mod {enc : α → List Value} {A : Nat → Prop} (h : OwR enc e sz base w v xs) (m : Mod A w w') (hA : ∀ k, v.ownBlock = some k → ¬ A k) : OwR enc e sz base w' v xs := by
 refine ⟨h.1, ?_⟩
 rcases h.2 with hn | ⟨g, cap, cur, rfl, hb, hg, rest⟩
 ·exact .inl hn
 ·exact .inr ⟨g, cap, cur, rfl, hb, m.obj (hA g rfl) hg, rest⟩
theorem OwR.blk {enc : α → List Value} (h : OwR enc e sz base w v xs) : ∀ k, v.ownBlock = some k → ∃ cur, w.heap[k]? = some (.cells cur e) := fun k hk => by
 rcases h.2 with ⟨rfl, _⟩ | ⟨g, cap, cur, rfl, hb, hg, rest⟩
 ·cases hk
 ·simp only [Value.ownBlock, Option.some.injEq] at hk
  subst hk
  exact ⟨cur, hg⟩
theorem RowC.mod {A : Nat → Prop} (h : RowC C e sz base w v xs) (m : Mod A w w') (hA : ∀ k, k < w.heap.size → A k → k < base) : RowC C e sz base w' v xs := by
 obtain ⟨css, hl, ho, hc⟩ := h.ex
 refine ⟨css, hl, ho.mod m fun k hk a => ?_, fun i h1 h2 => (hc i h1 h2).move m (fun i hi a => .inr (hA i hi a)) fun _ _ a => a⟩
 have := ho.lt k hk
 have := hA k this.2 a
 omega
theorem RowC.ext (h : RowC C e sz base w v xs) (m : Ext w w') : RowC C e sz base w' v xs := h.mod (A := fun _ => False) m.mod fun _ _ h => h.elim
theorem RowC.new {R : World → Addr → α → Prop} [Rel R C sz] (h : RowC C e sz base w v xs) : Stab (fun k => k < base) (fun w => SlR sz R w v xs) w := fun w' m => by
 have h' := h.mod m fun k _ a => a
 obtain ⟨css, hl, ho, hc⟩ := h'.ex
 exact SlR.ofCells hl (ho.slr encC_len) fun i h1 h2 => (hc i h1 h2).here
theorem RowC.under (h : RowC C e sz base w v xs) (hb : base ≤ w.heap.size) : ∀ k, Own1 v base k → k < w.heap.size := fun k hk => by
 rcases hk with hk | hk
 ·exact (h.lt k hk).2
 ·omega
theorem New.own {p : World → Prop} {w1 : World} (hn : New w p w1) (h : RowC C e sz base w v xs) (hb : base ≤ w.heap.size) : Stab (Own1 v base) p w1 := hn.mono fun i _ hi => h.under hb i hi
theorem RowC.extG {w0 : World} (ho : RowC C e sz base w v xs) (he : Ext w0 w) (hg : w.grownBy w' v.ownBlock) (hb : w0.heap.size ≤ base) : Ext w0 w' := he.grown hg fun k hk => Nat.le_trans hb (ho.lt k hk).1
theorem K.appC {P : Program} {KK : Value → World → Prop} {ty : TypeId} {b : Nat} {a : Addr} {c : Nat} {cs : List Value} {x : α} {t} (hs : RowC C e sz base w v xs) (hc : CellsAt w a cs) (hC : Stab (Own1 v base) (fun w => C w cs x) w)
  (hsz : cs.length = sz) (h1 : ∀ u ∈ cs, u.oneCell' = true) (hb : (xs.length + 1) * b ≤ 140737488355328) (h63 : xs.length + 1 ≤ maxLen) (hbase : base ≤ w.heap.size)
  (hk : ∀ v' w', RowC C e sz base w' v' (xs ++ [x]) → w.grownBy w' v.ownBlock → KK v' w') : AppVCh P ty e sz b v (.slice (some a) 1 c) w KK t := by
 obtain ⟨css, hl, ho, hst⟩ := hs.ex
 refine K.appAt (enc := encC) (ys := [(⟨cs, hsz, h1⟩ : Cs sz)]) ho encC_len (by simpa [encC] using hc) rfl encC_one (by rw [hl]; exact hb) (by rw [hl]; exact h63) hbase fun v' w' ho' hg hat => hk v' w' ⟨css ++ [⟨cs, hsz, h1⟩], by simp [hl], ho', fun i h1 h2 => ?_⟩ hg
 have hm : Mod (fun k => v.ownBlock = some k) w w' := Mod.grown hg fun k hk => hk
 have hown : ∀ k, k < w.heap.size → v'.ownBlock = some k → Own1 v base k := fun k hk he => by
  rcases hat with e | e
  ·exact .inl (e ▸ he)
  ·rw [e] at he; injection he with he; omega
 have key : ∀ {p : World → Prop}, Stab (Own1 v base) p w → Stab (Own1 v' base) p w' := fun {p} h => h.move hm (fun i _ a => .inl a) fun i hi a => by
  rcases a with a | a
  ·exact hown i hi a
  ·exact .inr a
 rw [List.length_append] at h1 h2
 by_cases hi : i < css.length
 ·have hi2 : i < xs.length := by omega
  have := key (hst i hi hi2)
  simpa [List.getElem_append, hi, hi2] using this
 ·have e1 : i = css.length := by simp at h1; omega
  subst e1
  have e2 : ¬ css.length < xs.length := by omega
  have := key hC
  simpa [List.getElem_append, e2] using this
end
section
variable {α : Type} {enc : α → List Value} {e : TypeId} {sz base : Nat} {w w' : World} {v : Value} {xs : List α}
theorem OwR.box {t : TypeId} {k : Nat} {c : Array Value} (ho : OwR enc e sz base w v xs) (hg : w.grownBy w' v.ownBlock) (hk : w.heap[k]? = some (.cells c t)) (ht : t ≠ e) : w'.heap[k]? = some (.cells c t) := by
 rw [hg.block k (lH hk) fun e' => ?_]
 ·exact hk
 ·obtain ⟨cur, h⟩ := ho.blk k e'.symm
  rw [hk] at h; injection h with h; injection h with _ h; exact ht h
theorem OwR.extG {w0 : World} (ho : OwR enc e sz base w v xs) (he : Ext w0 w) (hg : w.grownBy w' v.ownBlock) (hb : w0.heap.size ≤ base) : Ext w0 w' := he.grown hg fun k hk => Nat.le_trans hb (ho.lt k hk).1
theorem K.app1 {P : Program} {KK : Value → World → Prop} {ty : TypeId} {bb b : Nat} {y : α} {cs : List Value} {t} (hs : OwR enc e sz base w v xs) (hc : w.heap[b]? = some (.cells cs.toArray e)) (hcs : cs = enc y) (hsz : ∀ x, (enc x).length = sz) (h1 : ∀ y, ∀ u ∈ enc y, u.oneCell' = true)
  (hb : (xs.length + 1) * bb ≤ 140737488355328) (h63 : xs.length + 1 ≤ maxLen) (hbase : base ≤ w.heap.size)
  (hk : ∀ oa n c w', OwR enc e sz base w' (.slice oa n c) (xs ++ [y]) → w.grownBy w' v.ownBlock → KK (.slice oa n c) w') : AppVCh P ty e sz bb v (.slice (some ⟨b, 0, none⟩) 1 1) w KK t := by
 refine K.appAt (ys := [y]) hs hsz (by subst hcs; simpa using cB hc) rfl h1 hb h63 hbase fun v' w' ho hg _ => ?_
 obtain ⟨oa, cap, rfl, _⟩ := ho.form
 exact hk _ _ _ _ ho hg
end
theorem row_sz {α : Type} {l : List α} {k b : Nat} (hk : k < l.length) (hb : l.length * b ≤ 140737488351232) (hm : l.length ≤ 9223372036854775807) : ((l.take k).length + 1) * b ≤ 140737488355328 ∧ (l.take k).length + 1 ≤ maxLen := by
 have e : (l.take k).length = k := by rw [List.length_take]; omega
 rw [e]
 have := Nat.mul_le_mul_right b (show k + 1 ≤ l.length from hk)
 exact ⟨by omega, by unfold maxLen; omega⟩
theorem RowC.snoc {α : Type} {C : World → List Value → α → Prop} {e : TypeId} {sz base : Nat} {w : World} {v : Value} {l : List α} {k : Nat} (hk : k < l.length) (h : RowC C e sz base w v (l.take k ++ [l[k]])) : RowC C e sz base w v (l.take (k + 1)) := by
 rw [List.take_succ_eq_append_getElem hk]; exact h
theorem RowC.done {α : Type} {C : World → List Value → α → Prop} {e : TypeId} {sz base : Nat} {w : World} {v : Value} {l : List α} {k : Nat} (hk : l.length ≤ k) (h : RowC C e sz base w v (l.take k)) : RowC C e sz base w v l := by
 rwa [List.take_of_length_le hk] at h
end Lite
end
section
namespace Lite
open Go Go.RowKit
inductive VK where
 | i
 | b
 | s
deriving DecidableEq
def VK.of : TypeDesc → Option VK
 | .int .i64 => some .i
 | .bool => some .b
 | .string => some .s
 | _ => none
theorem VK.of_i {td : TypeDesc} (h : VK.of td = some .i) : td = .int .i64 := by unfold VK.of at h; split at h <;> simp_all
theorem VK.of_b {td : TypeDesc} (h : VK.of td = some .b) : td = .bool := by unfold VK.of at h; split at h <;> simp_all
theorem VK.of_s {td : TypeDesc} (h : VK.of td = some .s) : td = .string := by unfold VK.of at h; split at h <;> simp_all
def VK.ok : VK → Value → Prop
 | .i, v => ∃ n, v = .int .i64 n
 | .b, v => ∃ n, v = .bool n
 | .s, v => ∃ n, v = .string n
def conf : List VK → List Value → Prop
 | [], [] => True
 | k :: ks, v :: vs => k.ok v ∧ conf ks vs
 | _, _ => False
theorem conf_len : ∀ {ks : List VK} {vs : List Value}, conf ks vs → vs.length = ks.length
 | [], [], _ => rfl
 | _ :: _, _ :: _, h => by simp [conf_len h.2]
 | [], _ :: _, h => h.elim
 | _ :: _, [], h => h.elim
def fsOk (P : Program) : List Field → List VK → Nat → Bool
 | [], [], _ => true
 | f :: fs, k :: ks, n => f.name != "_" && f.offset == n && ((P.underlying f.type).bind VK.of == some k) && fsOk P fs ks (n + 1)
 | _, _, _ => false
def eqSt (P : Program) (t : TypeId) (sig : List VK) : Bool :=
 match P.underlying t with
 | some (.struct fs) => !P.stoodInHeld t && !P.eqGuardType P.depth t && fsOk P fs.toList sig 0
 | _ => false
theorem drop_cons {α : Type} {l : List α} {n : Nat} {x : α} {r : List α} (h : l.drop n = x :: r) : l[n]? = some x ∧ l.drop (n + 1) = r := by
 have h1 : l[n]? = some x := by
  have := congrArg (·[0]?) h
  simpa using this
 refine ⟨h1, ?_⟩
 have := congrArg (List.drop 1) h
 simpa [List.drop_drop] using this
theorem eqF {P : Program} (w : World) (d : Nat) (xs ys : Array Value) : ∀ (fs : List Field) (ks : List VK) (n : Nat), fsOk P fs ks n = true → conf ks (xs.toList.drop n) → conf ks (ys.toList.drop n) →
  ∃ r : Bool, (Op.eqFields (d + 1) xs ys fs).run P w = .ok r w ∧ (r = true ↔ xs.toList.drop n = ys.toList.drop n)
 | [], [], n, _, hx, hy => by
  refine ⟨true, by simp [Op.eqFields], ?_⟩
  have h1 := conf_len hx
  have h2 := conf_len hy
  rw [List.eq_nil_of_length_eq_zero h1, List.eq_nil_of_length_eq_zero h2]
  simp
 | [], _ :: _, _, h, _, _ => by simp [fsOk] at h
 | _ :: _, [], _, h, _, _ => by simp [fsOk] at h
 | f :: fs, k :: ks, n, h, hx, hy => by
  simp only [fsOk, Bool.and_eq_true, bne_iff_ne, ne_eq, beq_iff_eq] at h
  obtain ⟨⟨⟨h1, h2⟩, h3⟩, h4⟩ := h
  obtain ⟨td, hu, hk⟩ := Option.bind_eq_some_iff.1 h3
  cases hdx : xs.toList.drop n with
  | nil => rw [hdx] at hx; exact hx.elim
  | cons x rx =>
   cases hdy : ys.toList.drop n with
   | nil => rw [hdy] at hy; exact hy.elim
   | cons y ry =>
    rw [hdx] at hx
    rw [hdy] at hy
    obtain ⟨ex, exr⟩ := drop_cons hdx
    obtain ⟨ey, eyr⟩ := drop_cons hdy
    obtain ⟨r, hr, hiff⟩ := eqF w d xs ys fs ks (n + 1) h4 (by rw [exr]; exact hx.2) (by rw [eyr]; exact hy.2)
    have ha : aggT P f.type = some false := by
     unfold aggT
     rw [hu]
     cases td <;> simp [VK.of] at hk <;> rfl
    have ex' : xs[n]? = some x := by rw [← Array.getElem?_toList]; exact ex
    have ey' : ys[n]? = some y := by rw [← Array.getElem?_toList]; exact ey
    have px : (part f.type xs f.offset).run P w = .ok x w := by simp [part, run_isAgg ha, h2, ex']
    have py : (part f.type ys f.offset).run P w = .ok y w := by simp [part, run_isAgg ha, h2, ey']
    have pe : ∃ q : Bool, (Op.equalIn (d + 1) f.type x y).run P w = .ok q w ∧ (q = true ↔ x = y) := by
     cases k with
     | i =>
      obtain ⟨a, rfl⟩ := hx.1
      obtain ⟨b, rfl⟩ := hy.1
      have ht := VK.of_i hk
      subst ht
      exact ⟨_, run_equalIn_int w d f.type .i64 .i64 a b hu, by simp⟩
     | b =>
      obtain ⟨a, rfl⟩ := hx.1
      obtain ⟨b, rfl⟩ := hy.1
      have ht := VK.of_b hk
      subst ht
      exact ⟨_, run_equalIn_bool' w d f.type a b hu, by simp⟩
     | s =>
      obtain ⟨a, rfl⟩ := hx.1
      obtain ⟨b, rfl⟩ := hy.1
      have ht := VK.of_s hk
      subst ht
      exact ⟨_, run_equalIn_string w d f.type a b hu, by rw [← beq_toListBytes]; simp⟩
    obtain ⟨q, hq, hqi⟩ := pe
    refine ⟨q && r, ?_, ?_⟩
    ·simp only [Op.eqFields, h1, ne_eq, not_false_eq_true, if_true, Sem.run_bind, px, py, hq, Result.andThen_ok]
     cases q
     ·simp
     ·simpa using hr
    ·rw [exr, eyr] at hiff
     simp only [Bool.and_eq_true, hqi, hiff, List.cons.injEq]
theorem run_eqSt {P : Program} {t : TypeId} {sig : List VK} (h : eqSt P t sig = true) (w : World) {xs ys : List Value} (hx : conf sig xs) (hy : conf sig ys) (x y : Operand) :
  ∃ r : Bool, (r = true ↔ xs = ys) ∧ ∀ w, (do eqGuard .eql t x y (.agg xs.toArray) (.agg ys.toArray); binOp .eql t (.agg xs.toArray) (.agg ys.toArray) : Sem Value).run P w = .ok (.bool r) w ∧
   (do eqGuard .neq t x y (.agg xs.toArray) (.agg ys.toArray); binOp .neq t (.agg xs.toArray) (.agg ys.toArray) : Sem Value).run P w = .ok (.bool (!r)) w := by
 unfold eqSt at h
 cases hu : P.underlying t with
 | none => rw [hu] at h; cases h
 | some td =>
  cases td <;> simp [hu] at h
  rename_i fs
  obtain ⟨⟨h1, h2⟩, h3⟩ := h
  have hfs : P.fieldsOf t = fs := by simp [Program.fieldsOf, hu]
  have key : ∀ w, ∃ r : Bool, (Op.equalIn 10000 t (.agg xs.toArray) (.agg ys.toArray)).run P w = .ok r w ∧ (r = true ↔ xs = ys) := fun w => by
   obtain ⟨r, hr, hi⟩ := eqF (P := P) w 9998 xs.toArray ys.toArray fs.toList sig 0 h3 (by simpa using hx) (by simpa using hy)
   refine ⟨r, ?_, by simpa using hi⟩
   rw [run_equalIn_struct w 9999 t _ _ (by rw [hfs]; exact hu) h1, hfs]
   exact hr
  obtain ⟨r, _, hi⟩ := key w
  refine ⟨r, hi, fun w' => ?_⟩
  obtain ⟨r', hr', hi'⟩ := key w'
  have : r' = r := by
   rcases Bool.eq_false_or_eq_true r with e | e
   ·rw [e]; exact hi'.2 (hi.1 e)
   ·rw [e]; exact Bool.eq_false_iff.2 fun h => by rw [hi.2 (hi'.1 h)] at e; cases e
  subst this
  refine ⟨?_, ?_⟩
  ·simp only [Sem.run_bind, run_eqGuard_agg w' .eql t x y _ _ h2, Result.andThen_ok, run_eql_struct, hr']
  ·simp only [Sem.run_bind, run_eqGuard_agg w' .neq t x y _ _ h2, Result.andThen_ok, run_neq_struct, hr']
section
variable {P : Program} {K3 : Value → Prop} {cx cy : Operand}
theorem K.neS {t : TypeId} {sig : List VK} {xs ys : List Value} {tk} (h : eqSt P t sig = true) (hx : conf sig xs) (hy : conf sig ys) (hk : ∀ r : Bool, (r = true ↔ xs ≠ ys) → K3 (.bool r)) : BinVCh P .neq t cx cy (.agg xs.toArray) (.agg ys.toArray) K3 tk := by
 obtain ⟨r, h1, h2⟩ := run_eqSt h default hx hy cx cy
 exact K.bin (fun w => (h2 w).2) (hk (!r) (by rw [ne_eq, ← h1]; cases r <;> simp))
theorem K.eqNil {t e : TypeId} {a : Option Addr} {l c : Nat} {tk} (h : P.underlying t = some (.slice e)) (hk : K3 (.bool a.isNone)) : BinVCh P .eql t cx cy (.slice a l c) (.slice none 0 0) K3 tk :=
 K.bin (v := .bool a.isNone) (fun w => by simp [eqGuard_at_slice, binOp, run_equal_slice_nil w t e a l c h]) hk
end
end Lite
end
section
namespace Lite
open Go Go.RowKit
section
variable {P : Program} {w0 w : World} {S : Fr} {K : Fr → World → Prop}
def strip : Sch → List Step × Sch
 | .take s r => (s :: (strip r).1, (strip r).2)
 | t => ([], t)
theorem svc_strip : ∀ (t : Sch) (S : Fr), qsteps P (strip t).1 S w0 (fun S' => svc P w0 (strip t).2 S' w K) → svc P w0 t S w K
 | .take ⟨d, none, i⟩ r, S, h => by
  show QVC P i S w0 fun v => svc P w0 r (put S d v) w K
  have h' : QVC P i S w0 fun v => qsteps P (strip r).1 (put S d v) w0 (fun S' => svc P w0 (strip r).2 S' w K) := h
  exact QVC.mono (fun v hv => svc_strip r _ hv) h'
 | .take ⟨d, some (j, b), i⟩ r, S, h => by
  rcases h with ⟨t, ht, h1, h2⟩ | ⟨hu, h3⟩
  ·exact .inl ⟨t, ht, fun e => QVC.mono (fun v hv => svc_strip r _ hv) (h1 e), fun e => svc_strip r _ (h2 e)⟩
  ·exact .inr ⟨hu, svc_strip r _ h3⟩
 | .done, S, h => h
 | .nil, S, h => h
 | .alt _ _ _, S, h => h
 | .fre _ _ _, S, h => h
 | .wide _, S, h => h
theorem stAb_ok {b n : Nat} {c cs : Array Value} {e : TypeId} {KW : World → Prop} (hb : w.heap[b]? = some (.cells c e)) (hc : c.size = n) (hn : cs.size = n) (h1 : ∀ x ∈ cs.toList, x.oneCell' = true)
  (hk : ∀ w1, Wr b w w1 → w1.heap[b]? = some (.cells cs e) → KW w1) : StAVC n (.pointer (some ⟨b, 0, none⟩)) (.agg cs) w KW :=
 stA_ok hn (fun j hj => ⟨⟨_, kB hb (Array.getElem?_eq_getElem (by omega))⟩, by rw [add_eq]; simp [World.frozen?, hb]⟩) h1 (hk _ (Wr.setAll cs.toList w ⟨b, 0, none⟩ 0) (setAll_blk hb (by omega)))
structure VarS where
 d : Nat
 ty : TypeId
 z : Array Value
 n : Nat
 x : Nat
def VarS.new (v : VarS) : Step := ⟨some v.d, none, .e (.new v.ty (.agg v.z))⟩
def VarS.st (v : VarS) : Step := ⟨none, none, .e (.stA v.n (.tmp v.d) (.tmp v.x))⟩
theorem altS_st (v : VarS) (k : Fr → World → Prop) : altS P w0 v.st S w k = StAVC v.n (S v.d) (S v.x) w (fun w' => Ext w0 w' ∧ k S w') := rfl
theorem freS_st (v : VarS) (k : Fr → World → Prop) : freS P v.st S w k = StAVC v.n (S v.d) (S v.x) w (fun w' => k S w') := rfl
def twoT (a b : VarS) : Sch :=
 .alt a.new (.alt b.new (.alt a.st (.fre b.st .done .nil) .nil) .nil) (.alt b.new (.alt a.new (.alt a.st (.fre b.st .done .nil) .nil) .nil) .nil)
theorem upd_comm (S : Fr) {a b : Nat} (h : a ≠ b) (x y : Value) : upd (upd S a x) b y = upd (upd S b y) a x := by
 funext t; unfold upd; split <;> split <;> simp_all
theorem two_sv (a b : VarS) {xa xb : List Value} (hd : (a.d != b.d && a.x != a.d && a.x != b.d && b.x != a.d && b.x != b.d) = true) (hza : a.z.size = a.n) (hzb : b.z.size = b.n) (ha : S a.x = .agg xa.toArray) (hb : S b.x = .agg xb.toArray) (hla : xa.length = a.n) (hlb : xb.length = b.n)
  (h1a : ∀ u ∈ xa, u.oneCell' = true) (h1b : ∀ u ∈ xb, u.oneCell' = true)
  (hk : ∀ w' ba bb, Ext w0 w' → w0.heap.size ≤ ba → w0.heap.size ≤ bb → ba ≠ bb → w'.heap[ba]? = some (.cells xa.toArray a.ty) → w'.heap[bb]? = some (.cells xb.toArray b.ty) →
   K (upd (upd S a.d (.pointer (some ⟨ba, 0, none⟩))) b.d (.pointer (some ⟨bb, 0, none⟩))) w') : svc P w0 (twoT a b) S w0 K := by
 simp only [Bool.and_eq_true, bne_iff_ne, ne_eq] at hd
 obtain ⟨⟨⟨⟨d1, d2⟩, d3⟩, d4⟩, d5⟩ := hd
 have fin : ∀ (S' : Fr) (w2 : World) (ba bb : Nat), S' = upd (upd S a.d (.pointer (some ⟨ba, 0, none⟩))) b.d (.pointer (some ⟨bb, 0, none⟩)) → Ext w0 w2 → w0.heap.size ≤ ba → w0.heap.size ≤ bb → ba ≠ bb →
   w2.heap[ba]? = some (.cells a.z a.ty) → w2.heap[bb]? = some (.cells b.z b.ty) → svc P w0 (.alt a.st (.fre b.st .done .nil) .nil) S' w2 K := by
  rintro S' w2 ba bb rfl he h1 h2 hne hca hcb
  refine ⟨?_, trivial⟩
  have e1 : upd (upd S a.d (.pointer (some ⟨ba, 0, none⟩))) b.d (.pointer (some ⟨bb, 0, none⟩)) a.d = .pointer (some ⟨ba, 0, none⟩) := by simp [upd, d1]
  have e2 : upd (upd S a.d (.pointer (some ⟨ba, 0, none⟩))) b.d (.pointer (some ⟨bb, 0, none⟩)) a.x = .agg xa.toArray := by simp [upd, d2, d3, ha]
  have e3 : upd (upd S a.d (.pointer (some ⟨ba, 0, none⟩))) b.d (.pointer (some ⟨bb, 0, none⟩)) b.d = .pointer (some ⟨bb, 0, none⟩) := by simp [upd]
  have e4 : upd (upd S a.d (.pointer (some ⟨ba, 0, none⟩))) b.d (.pointer (some ⟨bb, 0, none⟩)) b.x = .agg xb.toArray := by simp [upd, d4, d5, hb]
  rw [altS_st, e1, e2]
  refine stAb_ok hca hza (by simpa using hla) (by simpa using h1a) fun w3 hw3 hc3 => ⟨hw3.ext he h1, ?_⟩
  refine ⟨?_, trivial⟩
  rw [freS_st, e3, e4]
  refine stAb_ok (hw3.obj hcb (Ne.symm hne)) hzb (by simpa using hlb) (by simpa using h1b) fun w4 hw4 hc4 => ?_
  exact hk w4 ba bb (hw4.ext (hw3.ext he h1) h2) h1 h2 hne (hw4.obj hc3 hne) hc4
 have m1 : ∀ (o o' : Obj), ((w0.alloc o).alloc o').heap[w0.heap.size]? = some o := fun o o' => ((Ext.refl (w0.alloc o)).alloc o').obj (heap_alloc_new w0 o)
 have m2 : ∀ (o o' : Obj), ((w0.alloc o).alloc o').heap[w0.heap.size + 1]? = some o' := fun o o' => by
  have := heap_alloc_new (w0.alloc o) o'
  rwa [World.size_alloc] at this
 refine ⟨⟨(Ext.refl _).alloc _, ⟨((Ext.refl _).alloc _).alloc _, ?_⟩, trivial⟩, ⟨(Ext.refl _).alloc _, ⟨((Ext.refl _).alloc _).alloc _, ?_⟩, trivial⟩, trivial⟩
 ·refine fin _ _ w0.heap.size (w0.heap.size + 1) ?_ (((Ext.refl _).alloc _).alloc _) (Nat.le_refl _) (by omega) (by omega) (m1 _ _) (m2 _ _)
  show upd (upd S a.d _) b.d (.pointer (some ⟨(w0.alloc _).heap.size, 0, none⟩)) = _
  rw [World.size_alloc]
 ·refine fin _ _ (w0.heap.size + 1) w0.heap.size ?_ (((Ext.refl _).alloc _).alloc _) (by omega) (Nat.le_refl _) (by omega) (m2 _ _) (m1 _ _)
  show upd (upd S b.d _) a.d (.pointer (some ⟨(w0.alloc _).heap.size, 0, none⟩)) = _
  rw [World.size_alloc, upd_comm S (Ne.symm d1)]
theorem K.two {Q : LX → Fr → World → Prop} {t : Sch} {b' : LC} {tk} (l : List Step) (da : Nat) (ta : TypeId) (za : Array Value) (na pa db : Nat) (tb : TypeId) (zb : Array Value) (nb pb : Nat) (ht : strip t = (l, twoT ⟨da, ta, za, na, pa⟩ ⟨db, tb, zb, nb, pb⟩)) (hd : (da != db && pa != da && pa != db && pb != da && pb != db) = true) (hza : za.size = na) (hzb : zb.size = nb)
  (hk : ∀ w1, Ext w w1 → qstepsh P l S w1 (fun S' => ∃ xa xb : List Value, S' pa = .agg xa.toArray ∧ S' pb = .agg xb.toArray ∧ xa.length = na ∧ xb.length = nb ∧ (∀ u ∈ xa, u.oneCell' = true) ∧ (∀ u ∈ xb, u.oneCell' = true) ∧
   ∀ w' ba bb, Ext w1 w' → w1.heap.size ≤ ba → w1.heap.size ≤ bb → ba ≠ bb → w'.heap[ba]? = some (.cells xa.toArray ta) → w'.heap[bb]? = some (.cells xb.toArray tb) →
    vch P b' Q (upd (upd S' da (.pointer (some ⟨ba, 0, none⟩))) db (.pointer (some ⟨bb, 0, none⟩))) w' ⟨⟩) ⟨⟩) : vch P (.seq (.sch t) b') Q S w tk := by
 unfold vch qstepsh at *
 show vc P (.sch t) _ S w
 intro w1 he
 refine svc_strip t S ?_
 have h := hk w1 he
 rw [ht]
 refine qsteps_keep l S w1 _ _ (fun S' _ h' => ?_) h
 obtain ⟨xa, xb, h1, h2, h3, h4, h5, h6, h7⟩ := h'
 exact two_sv ⟨da, ta, za, na, pa⟩ ⟨db, tb, zb, nb, pb⟩ hd hza hzb h1 h2 h3 h4 h5 h6 fun w' ba bb e1 e2 e3 e4 e5 e6 => h7 w' ba bb e1 e2 e3 e4 e5 e6
def Kp (w0 w w' : World) (p : World → Prop) : Prop := ∀ w'', Ext w0 w'' → w'.heap.size ≤ w''.heap.size → (∀ k, w.heap.size ≤ k → k < w'.heap.size → w''.heap[k]? = w'.heap[k]?) → p w''
structure TwoSt (w0 : World) (a b : VarS) (S : Fr) (pa pb : List Value → World → Prop) (fa fb na nb : Bool) (S' : Fr) (w : World) (xa xb : List Value) (la ha lb hb qa qb : Nat) : Prop where
 ext : Ext w0 w
 fr : ∀ t, t ≠ a.d → t ≠ b.d → t ≠ a.x → t ≠ b.x → S' t = S t
 a1 : fa = true → S' a.x = .agg xa.toArray ∧ xa.length = a.n ∧ (∀ u ∈ xa, u.oneCell' = true) ∧ ha ≤ w.heap.size ∧ ∀ w'', Ext w0 w'' → w.heap.size ≤ w''.heap.size → (∀ k, la ≤ k → k < ha → w''.heap[k]? = w.heap[k]?) → pa xa w''
 b1 : fb = true → S' b.x = .agg xb.toArray ∧ xb.length = b.n ∧ (∀ u ∈ xb, u.oneCell' = true) ∧ hb ≤ w.heap.size ∧ ∀ w'', Ext w0 w'' → w.heap.size ≤ w''.heap.size → (∀ k, lb ≤ k → k < hb → w''.heap[k]? = w.heap[k]?) → pb xb w''
 a2 : na = true → S' a.d = .pointer (some ⟨qa, 0, none⟩) ∧ w0.heap.size ≤ qa ∧ qa < w.heap.size ∧ w.heap[qa]? = some (.cells a.z a.ty)
 b2 : nb = true → S' b.d = .pointer (some ⟨qb, 0, none⟩) ∧ w0.heap.size ≤ qb ∧ qb < w.heap.size ∧ w.heap[qb]? = some (.cells b.z b.ty)
 aa : fa = true → na = true → qa < la ∨ ha ≤ qa
 ab : fa = true → nb = true → qb < la ∨ ha ≤ qb
 ba : fb = true → na = true → qa < lb ∨ hb ≤ qa
 bb : fb = true → nb = true → qb < lb ∨ hb ≤ qb
 nn : na = true → nb = true → qa ≠ qb
structure Slots4 (a b : VarS) : Prop where
 d12 : a.d ≠ b.d
 d13 : a.d ≠ a.x
 d14 : a.d ≠ b.x
 d23 : b.d ≠ a.x
 d24 : b.d ≠ b.x
 d34 : a.x ≠ b.x
end
end Lite
end
section
namespace Lite
open Go Go.RowKit
theorem K.wide {P : Program} {w1 w : World} {S : Fr} {t : Sch} {K : Fr → World → Prop} {tk} (h : ∃ C : World → Prop, C w ∧ svcC P C t S w K) : svch P w1 (.wide t) S w K tk := by
 unfold svch
 exact h
section
variable {P : Program} {C : World → Prop} {S : Fr} {w : World} {K : Fr → World → Prop}
theorem svcC.p {i : PIns} {d : Option Nat} {r : Sch} (h : PVC P i S fun v => svcC P C r (put S d v) w K) : svcC P C (.take ⟨d, none, .p i⟩ r) S w K := h
theorem svcC.fa {k d x : Nat} {r : Sch} {a : Addr} (hx : S x = .pointer (some a)) (h : svcC P C r (upd S d (.pointer (some (a.add k)))) w K) : svcC P C (.take ⟨some d, none, .p (.fa k (.tmp x))⟩ r) S w K := ⟨a, hx, h⟩
theorem svcC.ld {d x : Nat} {r : Sch} {a : Addr} {v : Value} (hx : S x = .pointer (some a)) (hv : ∀ w, C w → w.cell? a = some v) (h : svcC P C r (upd S d v) w K) : svcC P C (.take ⟨some d, none, .r (.ld (.tmp x))⟩ r) S w K :=
 ⟨v, fun w hw => ⟨a, v, hx, hv w hw, rfl⟩, h⟩
theorem svcC.alt1 {s : Step} {r : Sch} (h : altC P C s S w fun S w => svcC P C r S w K) : svcC P C (.alt s r .nil) S w K := ⟨h, trivial⟩
theorem svcC.fre1 {s : Step} {r : Sch} (h : freS P s S w fun S w => svcC P C r S w K) : svcC P C (.fre s r .nil) S w K := ⟨h, trivial⟩
end
theorem altC.e {P : Program} {C : World → Prop} {i : EIns} {d : Nat} {S : Fr} {w : World} {k : Fr → World → Prop} (h : EVC P i S w fun v w' => C w' ∧ k (put S (some d) v) w') : altC P C ⟨some d, none, .e i⟩ S w k := h
theorem freS.e {P : Program} {i : EIns} {d : Nat} {S : Fr} {w : World} {k : Fr → World → Prop} (h : EVC P i S w fun v w' => k (put S (some d) v) w') : freS P ⟨some d, none, .e i⟩ S w k := h
theorem appVC_of {P : Program} {ty e : TypeId} {sz b : Nat} {s x : Value} {w : World} {K : Value → World → Prop} (h : ∀ t, AppVCh P ty e sz b s x w K t) : AppVC P ty e sz b s x w K := by
 have := h ⟨⟩
 unfold AppVCh at this
 exact this
theorem stVC_of {x v : Value} {w : World} {K : World → Prop} (h : ∀ t, StVCh x v w K t) : StVC x v w K := by
 have := h ⟨⟩
 unfold StVCh at this
 exact this
abbrev slq (s : Option Addr × Nat × Nat) : Value := .slice s.1 s.2.1 s.2.2
def putN {β : Type} (f : Nat → β) (i : Nat) (v : β) : Nat → β := fun j => if j = i then v else f j
theorem putN_same {β : Type} (f : Nat → β) (i : Nat) (v : β) : putN f i v i = v := by simp [putN]
theorem putN_ne {β : Type} (f : Nat → β) {i j : Nat} (v : β) (h : j ≠ i) : putN f i v j = f j := by simp [putN, h]
structure Rws {α : Type} (enc : α → List Value) (e : TypeId) (sz base : Nat) (w : World) (n : Nat) (vs : Nat → Option Addr × Nat × Nat) (xs : Nat → List α) : Prop where
 own : ∀ i, i < n → OwR enc e sz base w (slq (vs i)) (xs i)
 apart : ∀ i j k, i < n → j < n → i ≠ j → (slq (vs i)).ownBlock = some k → (slq (vs j)).ownBlock ≠ some k
section
variable {α : Type} {enc : α → List Value} {e : TypeId} {sz base n : Nat} {w w' : World} {vs : Nat → Option Addr × Nat × Nat} {xs : Nat → List α}
theorem Rws.mod {A : Nat → Prop} (h : Rws enc e sz base w n vs xs) (m : Mod A w w') (hA : ∀ i k, i < n → (slq (vs i)).ownBlock = some k → ¬ A k) : Rws enc e sz base w' n vs xs :=
 ⟨fun i hi => (h.own i hi).mod m (hA i · hi), h.apart⟩
theorem Rws.ext (h : Rws enc e sz base w n vs xs) (m : Ext w w') : Rws enc e sz base w' n vs xs := h.mod (A := fun _ => False) m.mod fun _ _ _ _ a => a
theorem Rws.not (h : Rws enc e sz base w n vs xs) {k : Nat} {c : Array Value} {t : TypeId} (hk : w.heap[k]? = some (.cells c t)) (ht : t ≠ e) : ∀ i, i < n → (slq (vs i)).ownBlock ≠ some k := fun i hi he => by
 obtain ⟨cur, h2⟩ := (h.own i hi).blk k he
 rw [hk] at h2; injection h2 with h2; injection h2 with _ h2; exact ht h2
theorem Rws.lt (h : Rws enc e sz base w n vs xs) : ∀ i k, i < n → (slq (vs i)).ownBlock = some k → base ≤ k ∧ k < w.heap.size := fun i k hi he => (h.own i hi).lt k he
theorem Rws.app {P : Program} {KK : Value → World → Prop} {ty : TypeId} {b : Nat} {a : Addr} {c : Nat} {y : α} (i : Nat) (hi : i < n) (h : Rws enc e sz base w n vs xs) (hsz : ∀ x, (enc x).length = sz) (hc : CellsAt w a (enc y)) (h1 : ∀ y, ∀ u ∈ enc y, u.oneCell' = true)
  (hb : ((xs i).length + 1) * b ≤ 140737488355328) (h63 : (xs i).length + 1 ≤ maxLen) (hbase : base ≤ w.heap.size)
  (hk : ∀ v' w', Rws enc e sz base w' n (putN vs i v') (putN xs i (xs i ++ [y])) → w.grownBy w' (slq (vs i)).ownBlock → v'.2.1 = (xs i).length + 1 → KK (slq v') w') : AppVC P ty e sz b (slq (vs i)) (.slice (some a) 1 c) w KK := by
 refine appVC_of fun t => K.appAt (ys := [y]) (h.own i hi) hsz (by simpa using hc) rfl h1 hb h63 hbase fun v' w' ho hg hat => ?_
 obtain ⟨oa, cap, rfl, _⟩ := ho.form
 refine hk (oa, (xs i ++ [y]).length, cap) w' ⟨fun j hj => ?_, fun j j' k hj hj' hne he => ?_⟩ hg (by simp)
 ·by_cases hji : j = i
  ·subst hji
   rw [putN_same, putN_same]; exact ho
  ·rw [putN_ne _ _ hji, putN_ne _ _ hji]
   exact (h.own j hj).mod (A := fun k => (slq (vs i)).ownBlock = some k) (Mod.grown hg fun k hk => hk) fun k hk a => h.apart j i k hj hi hji hk a
 ·have key : ∀ q, q < n → q ≠ i → ∀ k, (slq (vs q)).ownBlock = some k → (Value.slice oa (xs i ++ [y]).length cap).ownBlock ≠ some k := fun q hq hqi k hk he => by
   rcases hat with e | e
   ·rw [e] at he; exact h.apart q i k hq hi hqi hk he
   ·rw [e] at he; injection he with he; have := (h.lt q k hq hk).2; omega
  by_cases hji : j = i
  ·subst hji
   rw [putN_same] at he
   rw [putN_ne _ _ (Ne.symm hne)]
   exact fun h2 => key j' hj' (Ne.symm hne) k h2 he
  ·rw [putN_ne _ _ hji] at he
   by_cases hji' : j' = i
   ·subst hji'
    rw [putN_same]
    exact key j hj hji k he
   ·rw [putN_ne _ _ hji']
    exact h.apart j j' k hj hj' hne he
end
end Lite
end
section
namespace Lite
open Go Go.RowKit
section
variable {P : Program} {K3 : Value → Prop} {S : Fr} {w : World}
theorem K.ldb2 {b i j : Nat} {c : List Value} {ty : TypeId} {f : Nat × Nat} {v : Value} {w0 : World} {t} (hb : w0.heap[b]? = some (.cells c.toArray ty f)) (he : Ext w0 w) (hj : c[i + j]? = some v) (hk : K3 v) : LdVCh (.pointer (some ((Addr.add ⟨b, 0, none⟩ i).add j))) w K3 t := by
 rw [add_add]
 exact K.ldb hb he hj hk
end
theorem Sr {A B : Prop} (k : B) (h : Hold B → A := by
 intro q
 (repeat' first
 | assumption
 | exact Ext.refl _
 | refine Ext.trans ?_ (by assumption)
 | simp -dsimp only [LL,B9,Nat.reduceAdd,Nat.reduceEqDiff,reduceIte,reduceCtorEq,fE,slots_nil,slots_cons,keepV_nil,keepV_cons,has_nil,has_cons,List.cons_append,List.nil_append]
 | refine K.wrap (by omega) ?_
 | refine K.ldb (by assumption) ?_ rfl ?_
 | refine K.ldb0 (by assumption) ?_ rfl ?_
 | refine K.iaC (by omega) ?_
 | refine K.condT (by first | assumption | omega) ?_
 | refine K.condF (by first | assumption | omega) ?_
 | refine K.condbT (by assumption) ?_
 | refine K.condbF (by assumption) ?_
 | refine K.ldE (by assumption) ?_ (by omega) rfl ?_
 | refine K.ldE0 (by assumption) ?_ (by omega) rfl ?_
 | refine K.ldAE (by assumption) ?_ (by omega) rfl ?_
 | refine K.ldb2 (by assumption) ?_ rfl ?_
 | refine K.ldC (by assumption) ?_ rfl ?_
 | refine K.ldAC (by assumption) ?_ rfl ?_
 | refine K.ldAb (by assumption) ?_ rfl ?_
 | refine K.newst (fun _ => by (simp -dsimp only [LL,Nat.reduceAdd,Nat.reduceEqDiff,reduceIte,reduceCtorEq,fE]); rfl) rfl rfl (by first | assumption | (simp [Value.oneCell',Abs.Inst.enc,Abs.Ref.enc,Abs.Node.enc,Abs.Scalar.enc,Abs.Var.enc,Abs.Chan.enc,Abs.Act.enc,Abs.Cmd.enc,Abs.Proc.enc,Abs.Prp.enc]; done)) ?_
 | refine K.new ?_
 | refine K.stAb (by assumption) rfl rfl (by first | assumption | (simp [Value.oneCell',Abs.Inst.enc,Abs.Ref.enc,Abs.Node.enc,Abs.Scalar.enc,Abs.Var.enc,Abs.Chan.enc,Abs.Act.enc,Abs.Cmd.enc,Abs.Proc.enc,Abs.Prp.enc]; done)) ?_
 | refine K.st1 (by assumption) (Nat.le_of_ble_eq_true rfl) rfl ?_
 | refine K.st0 (by assumption) (Nat.le_of_ble_eq_true rfl) rfl ?_
 | refine K.bldSa (by (simp only [fillC, lay, ev_const, ev_tmp, uA, Value.cells, Nat.reduceAdd, Nat.reduceEqDiff, reduceIte, List.range, List.range.loop, List.map_cons, List.map_nil]); rfl) ?_
 | refine K.bld (by (simp only [fillC, lay, ev_const, ev_tmp, uA, Value.cells, Nat.reduceAdd, Nat.reduceEqDiff, reduceIte]); rfl) ?_)
 exact q.out) : A := h ⟨k⟩
end Lite
end
section
namespace Abs
open Go
structure Scope where
 scalars : List Scalar
 vars : List Var
 chans : List Chan
 procs : List Proc
 locals : List Var
 self : Int
structure Env where
 vars : List (List Int)
 lens : List Int
 locals : List Int
 at_ : List (List Int)
 self : Int
def nth {α : Type} (l : List α) (n : Int) : Option α := if 0 ≤ n then l[n.toNat]? else none
theorem nth_some {α : Type} {l : List α} {n : Int} (h : 0 ≤ n) (h2 : n < l.length) : nth l n = some (l[n.toNat]'(by omega)) := by
 unfold nth; rw [if_pos h, List.getElem?_eq_getElem]
theorem nth_none {α : Type} {l : List α} {n : Int} (h : n < 0 ∨ (l.length : Int) ≤ n) : nth l n = none := by
 unfold nth
 split
 ·rw [List.getElem?_eq_none (by omega)]
 ·rfl
def within (n : Int) : Bool := decide (-1048576 ≤ n ∧ n ≤ 1048576)
def tell (f : Int → Int → Int) (a b : Int) : Int × Bool := if within a && within b && within (f a b) then (f a b, true) else (0, false)
def bit (b : Bool) : Int := if b then 1 else 0
def nparts (op : Int) : Int := if op = 3 then 1 else if 1 ≤ op ∧ op ≤ 8 then 0 else if op = 9 ∨ op = 10 then 1 else if 11 ≤ op ∧ op ≤ 19 then 2 else -1
def isOp (op : Int) : Bool := decide (9 ≤ op ∧ op ≤ 19)
structure OpD where
 parts : Int
 takes : Int
 makes : Int
 does : Int → Int → Int × Bool
def sayD (takes : Int) (p : Int → Int → Bool) : OpD := ⟨2, takes, 1, fun a b => (bit (p a b), true)⟩
def opOf (x : Int) : Option OpD :=
 if x = 9 then some ⟨1, 1, 1, fun a _ => (bit (decide (a = 0)), true)⟩
 else if x = 10 then some ⟨1, 0, 0, fun a _ => tell (· - ·) 0 a⟩
 else if x = 11 then some ⟨2, 0, 0, tell (· + ·)⟩
 else if x = 12 then some ⟨2, 0, 0, tell (· - ·)⟩
 else if x = 13 then some ⟨2, 0, 0, tell (· * ·)⟩
 else if x = 14 then some (sayD (-1) fun a b => decide (a = b))
 else if x = 15 then some (sayD (-1) fun a b => !decide (a = b))
 else if x = 16 then some (sayD 0 fun a b => decide (a < b))
 else if x = 17 then some (sayD 0 fun a b => decide (a ≤ b))
 else if x = 18 then some (sayD 1 fun a b => !decide (a = 0) && !decide (b = 0))
 else if x = 19 then some (sayD 1 fun a b => !decide (a = 0) || !decide (b = 0))
 else none
theorem opOf_none {x : Int} (h : isOp x = false) : opOf x = none := by
 have h' : ¬ (9 ≤ x ∧ x ≤ 19) := by simpa [isOp] using h
 unfold opOf
 repeat rw [if_neg (by omega)]
theorem opOf_parts {x : Int} {o : OpD} (h : opOf x = some o) : o.parts = nparts x ∧ isOp x = true := by
 unfold opOf at h
 repeat' split at h
 all_goals first | (cases h; subst_vars; decide) | cases h
def stepG (f : Node → List Int → Int × Int) (x : Node) (st : List Int) : Int × List Int :=
 if nparts x.op < 0 then (3, st) else if (st.length : Int) < nparts x.op then (4, st)
 else if (f x st).2 ≠ 0 then ((f x st).2, st)
 else if (st.take (st.length - (nparts x.op).toNat) ++ [(f x st).1]).length > 12 then (12, st) else (0, st.take (st.length - (nparts x.op).toNat) ++ [(f x st).1])
def runL (f : Node → List Int → Int × Int) : List Node → List Int → Int × List Int
 | [], st => (0, st)
 | x :: r, st => if (stepG f x st).1 ≠ 0 then stepG f x st else runL f r (stepG f x st).2
def runE (f : Node → List Int → Int × Int) (e : List Node) : Int × Int :=
 if e.length > 24 then (0, 5) else if e.length = 0 then (0, 4)
 else if (runL f e []).1 ≠ 0 then (0, (runL f e []).1) else if (runL f e []).2.length > 1 then (0, 5) else ((runL f e []).2.headD 0, 0)
theorem runL_app (f : Node → List Int → Int × Int) : ∀ (a b : List Node) (st : List Int), runL f (a ++ b) st = if (runL f a st).1 ≠ 0 then runL f a st else runL f b (runL f a st).2
 | [], b, st => by simp [runL]
 | x :: a, b, st => by
  simp only [List.cons_append, runL]
  by_cases h : (stepG f x st).1 = 0
  ·simp only [h, ne_eq, not_true_eq_false, if_false]; exact runL_app f a b _
  ·simp [h]
theorem runL_step {f : Node → List Int → Int × Int} {e : List Node} {k : Nat} {st : List Int} (hk : k < e.length) (h : runL f (e.take k) [] = (0, st)) : runL f (e.take (k + 1)) [] = stepG f e[k] st := by
 rw [List.take_succ_eq_append_getElem hk, runL_app, h]
 simp only [ne_eq, not_true_eq_false, if_false, runL]
 split
 ·rfl
 ·rename_i h2; simp at h2; exact Prod.ext h2.symm rfl
theorem runL_stop {f : Node → List Int → Int × Int} {e : List Node} {k : Nat} {q : Int × List Int} (h : runL f (e.take k) [] = q) (h0 : q.1 ≠ 0) : runL f e [] = q := by
 have := runL_app f (e.take k) (e.drop k) []
 rw [List.take_append_drop, h, if_pos h0] at this
 exact this
theorem runE_err {f : Node → List Int → Int × Int} {e : List Node} (h24 : e.length ≤ 24) {k : Nat} (hk : k < e.length) {st : List Int} (h : runL f (e.take k) [] = (0, st)) (h0 : (stepG f e[k] st).1 ≠ 0) : runE f e = (0, (stepG f e[k] st).1) := by
 have h2 := runL_step hk h
 have h3 := runL_stop h2 h0
 unfold runE
 rw [if_neg (by omega), if_neg (by omega), h3, if_pos h0]
theorem step_len {f : Node → List Int → Int × Int} {x : Node} {st : List Int} (h : (stepG f x st).1 = 0) : 1 ≤ (stepG f x st).2.length ∧ (stepG f x st).2.length ≤ 12 := by
 unfold stepG at h ⊢
 repeat' split
 all_goals simp_all
def kscalar (n : Int) (s : Scope) : Int × Bool := if n = 0 then (0, true) else if n < 0 ∨ (s.scalars.length : Int) < n then (0, false) else (1 + n, true)
def kvar (l : List Var) (n : Int) (s : Scope) : Int × Int × Bool :=
 match nth l n with
 | some v => ((kscalar v.scalar s).1, (kscalar v.over s).1, (kscalar v.scalar s).2 && (kscalar v.over s).2)
 | none => (0, 0, false)
def kLen (n : Int) (s : Scope) : Int × Int := match nth s.chans n with | some c => if (kscalar c.scalar s).2 then (0, 0) else (0, 8) | none => (0, 8)
def kAt (n : Int) (s : Scope) : Int × Int := if 0 ≤ n then (match nth s.procs (n.tdiv 16) with | some p => if n.tmod 16 < p.locs then (0, 0) else (0, 8) | none => (0, 8)) else (0, 8)
def knamed (x : Node) (s : Scope) : Int × Int :=
 if x.op = 5 then (if 1 ≤ s.self ∧ s.self ≤ s.scalars.length then (1 + s.self, 0) else (0, 8))
 else if x.op = 6 then kLen x.n s
 else if x.op = 7 then kAt x.n s
 else if x.op = 8 then (if 0 ≤ x.n ∧ x.n < s.scalars.length then (2 + x.n, 0) else (0, 8))
 else (0, 8)
def kleaf (x : Node) (s : Scope) (top : Int) : Int × Int :=
 if x.op = 1 then (if within x.n then (0, 0) else (0, 10))
 else if x.op = 2 ∨ x.op = 3 ∨ x.op = 4 then
  (let q := kvar (if x.op = 4 then s.locals else s.vars) x.n s
   if q.2.2 = false then (0, 8) else if (x.op = 3 ∧ (q.2.1 = 0 ∨ top ≠ q.2.1)) ∨ (x.op ≠ 3 ∧ q.2.1 ≠ 0) then (0, 9) else (q.1, 0))
 else knamed x s
def ktwo (o : OpD) (l : List Int) : Int × Int := if l.all (fun k => (decide (o.takes = -1) || decide (k = o.takes)) && decide (k = l.headD 0)) then (o.makes, 0) else (0, 9)
def fKind (s : Scope) (x : Node) (st : List Int) : Int × Int :=
 match opOf x.op with
 | some o => ktwo o (st.drop (st.length - o.parts.toNat))
 | none => kleaf x s (st.getLastD 0)
def kind (e : List Node) (s : Scope) : Int × Int := runE (fKind s) e
def vat (l : List Int) (n : Int) : Int × Int := match nth l n with | some x => (x, 0) | none => (0, 8)
def vleaf (x : Node) (v : Env) (top : Int) : Int × Int :=
 if x.op = 1 then (if within x.n then (x.n, 0) else (0, 10))
 else if x.op = 2 then (match nth v.vars x.n with | some l => vat l 0 | none => (0, 8))
 else if x.op = 3 then (match nth v.vars x.n with | some l => (match nth l (top - 1) with | some y => (y, 0) | none => (0, 10)) | none => (0, 8))
 else if x.op = 4 then vat v.locals x.n
 else if x.op = 6 then vat v.lens x.n
 else if x.op = 5 then (v.self, 0)
 else if x.op = 7 then (if 0 ≤ x.n then (match nth v.at_ (x.n.tdiv 16) with | some l => vat l (x.n.tmod 16) | none => (0, 8)) else (0, 8))
 else (0, 0)
def vtwo (o : OpD) (l : List Int) : Int × Int := let r := o.does (l.headD 0) (l.getLastD 0); if r.2 then (r.1, 0) else (0, 10)
def fEval (v : Env) (x : Node) (st : List Int) : Int × Int :=
 match opOf x.op with
 | some o => vtwo o (st.drop (st.length - o.parts.toNat))
 | none => vleaf x v (st.getLastD 0)
def eval (e : List Node) (v : Env) : Int × Int := runE (fEval v) e
def thing (scalar over : Int) (s : Scope) : Int × Bool :=
 if scalar < 0 ∨ (s.scalars.length : Int) < scalar ∨ over < 0 ∨ (s.scalars.length : Int) < over then (0, false) else if scalar = 0 then (0, true) else (1 + scalar, true)
theorem thing_false {a b : Int} {s : Scope} (h : (thing a b s).2 = false) : (thing a b s).1 = 0 := by
 unfold thing at h ⊢
 by_cases q : a < 0 ∨ (s.scalars.length : Int) < a ∨ b < 0 ∨ (s.scalars.length : Int) < b
 ·rw [if_pos q]
 ·rw [if_neg q] at h
  by_cases q2 : a = 0
  ·rw [if_pos q2] at h; cases h
  ·rw [if_neg q2] at h; cases h
def declared (l : List Var) (n : Int) (s : Scope) : Option (Var × Int) :=
 match nth l n with
 | some v => if (thing v.scalar v.over s).2 then some (v, (thing v.scalar v.over s).1) else none
 | none => none
theorem declared_over {l : List Var} {n : Int} {s : Scope} {q : Var × Int} (h : declared l n s = some q) : 0 ≤ q.1.over ∧ q.1.over ≤ s.scalars.length := by
 unfold declared at h
 cases hn : nth l n with
 | none => rw [hn] at h; cases h
 | some v =>
  rw [hn] at h
  simp only at h
  by_cases ht : (thing v.scalar v.over s).2 = true
  ·rw [if_pos ht] at h
   unfold thing at ht
   by_cases q1 : v.scalar < 0 ∨ (s.scalars.length : Int) < v.scalar ∨ v.over < 0 ∨ (s.scalars.length : Int) < v.over
   ·rw [if_pos q1] at ht; cases ht
   ·injection h with h
    subst h
    simp only
    omega
  ·rw [if_neg ht] at h; cases h
def channel (n : Int) (s : Scope) : Option Int :=
 match nth s.chans n with
 | some c => if (thing c.scalar 0 s).2 then some (thing c.scalar 0 s).1 else none
 | none => none
def asked (e : List Node) (k : Int) (s : Scope) : Int := if (kind e s).2 ≠ 0 then (kind e s).2 else if (kind e s).1 ≠ k then 9 else 0
def talks (a : Act) : Bool := decide (a.kind = 4 ∨ a.kind = 5)
def receives (a : Act) (k : Int) (s : Scope) : Int := match declared s.locals a.loc s with | some (v, k') => if v.over ≠ 0 ∨ k' ≠ k then 9 else 0 | none => 8
def actE (a : Act) (s : Scope) : Int :=
 if a.kind = 1 ∨ a.kind = 2 ∨ a.kind = 3 then
  match declared (if a.kind = 3 then s.locals else s.vars) a.to s with
  | none => 8
  | some (v, k) =>
   if (v.over ≠ 0) ≠ (a.kind = 2) then 9
   else if a.kind = 2 ∧ asked a.index (1 + v.over) s ≠ 0 then asked a.index (1 + v.over) s
   else asked a.value k s
 else if a.kind = 4 ∨ a.kind = 5 then
  match channel a.to s with
  | none => 8
  | some k => if a.kind = 5 then receives a k s else asked a.value k s
 else 3
def head (c : Cmd) (locs : Int) : Int :=
 if isName c.name = false then 6 else if c.from_ < 0 ∨ locs ≤ c.from_ ∨ c.to < 0 ∨ locs ≤ c.to then 10 else if c.acts.length > 6 then 11 else 0
def actsE (s : Scope) : List Act → Nat → Bool → Int × Int
 | [], _, _ => (0, 0)
 | a :: r, i, t => if talks a && t then (2 + i, 7) else if actE a s ≠ 0 then (2 + i, actE a s) else actsE s r (i + 1) (t || talks a)
def cmdCheck (c : Cmd) (locs : Int) (s : Scope) : Int × Int :=
 if head c locs ≠ 0 then (0, head c locs) else if c.guard.length > 0 ∧ asked c.guard 1 s ≠ 0 then (1, asked c.guard 1 s) else actsE s c.acts 0 false
def comm : List Act → Int × Int
 | [] => (0, 0)
 | a :: r => if talks a then (a.kind, a.to) else comm r
def inner (p : Proc) (s : Scope) : Scope := { s with locals := p.vars, self := p.over }
def whole (p : Proc) (s : Scope) : Int :=
 if isName p.name = false then 6 else if p.over < 0 ∨ (s.scalars.length : Int) < p.over then 8 else if p.locs < 1 ∨ 12 < p.locs then 10 else if p.cmds.length > 12 then 11 else 0
def localsE (s : Scope) : List Var → Nat → Int × Int
 | [], _ => (0, 0)
 | v :: r, i => if v.over ≠ 0 then (i, 9) else if s.vars.any (fun x => decide (x.name = v.name)) then (i, 7) else localsE s r (i + 1)
def plocals (p : Proc) (s : Scope) : Int × Int := if (vars p.vars s.scalars 4).2 ≠ 0 then vars p.vars s.scalars 4 else localsE s p.vars 0
def cmdsE (own : Scope) (locs : Int) (all : List Cmd) : List Cmd → Nat → Int × Int × Int
 | [], _ => (0, 0, 0)
 | c :: r, i => if (cmdCheck c locs own).2 ≠ 0 then (2 + (i : Int), (cmdCheck c locs own).1, (cmdCheck c locs own).2)
  else if (all.take i).any (fun x => decide (x.name = c.name)) then (2 + (i : Int), 0, 7) else cmdsE own locs all r (i + 1)
def procCheck (p : Proc) (s : Scope) : Int × Int × Int :=
 if whole p s ≠ 0 then (0, 0, whole p s) else if (plocals p s).2 ≠ 0 then (1, (plocals p s).1, (plocals p s).2) else cmdsE (inner p s) p.locs p.cmds p.cmds 0
def mscope (m : Model) : Scope := ⟨m.scalars, m.vars, m.chans, m.procs, [], 0⟩
def pscope (m : Model) (i : Int) : Scope := match nth m.procs i with | some p => inner p (mscope m) | none => mscope m
def elems (m : Model) (p : Proc) : Nat := match nth m.scalars (p.over - 1) with | some s => if s.size < 1 ∨ 4 < s.size then 0 else s.size.toNat | none => 0
theorem elems_le (m : Model) (p : Proc) : elems m p ≤ 4 := by
 unfold elems
 split
 ·split
  ·omega
  ·omega
 ·omega
def overs (i : Nat) (n : Nat) : List Inst := (List.range n).map fun (k : Nat) => (⟨(i : Int), (k : Int) + 1⟩ : Inst)
def ownI (i : Nat) (p : Proc) : List Inst := if p.over = 0 then [(⟨(i : Int), 0⟩ : Inst)] else []
def instsFrom (m : Model) : List Proc → Nat → List Inst
 | [], _ => []
 | p :: r, i => ownI i p ++ overs i (elems m p) ++ instsFrom m r (i + 1)
def insts (m : Model) : List Inst := instsFrom m m.procs 0
theorem overs_succ (i n : Nat) : overs i (n + 1) = overs i n ++ [⟨(i : Int), (n : Int) + 1⟩] := by unfold overs; rw [List.range_succ, List.map_append]; rfl
theorem instsFrom_drop {m : Model} {k : Nat} (h : k < m.procs.length) : instsFrom m (m.procs.drop k) k = ownI k m.procs[k] ++ overs k (elems m m.procs[k]) ++ instsFrom m (m.procs.drop (k + 1)) (k + 1) := by
 rw [List.drop_eq_getElem_cons h]; rfl
theorem ownI_len (i : Nat) (p : Proc) : (ownI i p).length ≤ 1 := by unfold ownI; split <;> simp
theorem instsFrom_len (m : Model) : ∀ (l : List Proc) (i : Nat), (instsFrom m l i).length ≤ 5 * l.length
 | [], _ => by simp [instsFrom]
 | p :: r, i => by
  have := instsFrom_len m r (i + 1)
  have := elems_le m p
  have := ownI_len i p
  simp only [instsFrom, List.length_append, List.length_cons, overs, List.length_map, List.length_range]
  omega
theorem insts_len (m : Model) : (insts m).length ≤ 5 * m.procs.length := instsFrom_len m _ _
structure Inst.of (m : Model) (x : Inst) : Prop where
 lo : 0 ≤ x.proc
 hi : x.proc < m.procs.length
 elem : 0 ≤ x.elem ∧ x.elem ≤ 4
theorem overs_of {m : Model} {i : Nat} (hi : i < m.procs.length) {n : Nat} (hn : n ≤ 4) : ∀ x ∈ overs i n, x.of m := fun x hx => by
 unfold overs at hx
 obtain ⟨k, hk, rfl⟩ := List.mem_map.1 hx
 have := List.mem_range.1 hk
 exact ⟨by simp, by simpa using hi, by constructor <;> simp <;> omega⟩
theorem ownI_of {m : Model} {i : Nat} (hi : i < m.procs.length) {p : Proc} : ∀ x ∈ ownI i p, x.of m := fun x hx => by
 unfold ownI at hx
 split at hx
 ·rw [List.mem_singleton] at hx
  subst hx
  exact ⟨by simp, by simpa using hi, by simp⟩
 ·cases hx
theorem instsFrom_of {m : Model} : ∀ (l : List Proc) (i : Nat), i + l.length ≤ m.procs.length → ∀ x ∈ instsFrom m l i, x.of m
 | [], _, _, x, hx => by simp [instsFrom] at hx
 | p :: r, i, h, x, hx => by
  simp only [instsFrom, List.mem_append] at hx
  simp only [List.length_cons] at h
  rcases hx with (hx | hx) | hx
  ·exact ownI_of (by omega) x hx
  ·exact overs_of (by omega) (elems_le m p) x hx
  ·exact instsFrom_of r (i + 1) (by omega) x hx
theorem insts_of {m : Model} : ∀ x ∈ insts m, x.of m := instsFrom_of _ _ (by simp)
def ncmds (m : Model) (x : Inst) : Nat := match nth m.procs x.proc with | some p => p.cmds.length | none => 0
def refsOf (i : Int) (n : Nat) : List Ref := (List.range n).map fun (k : Nat) => (⟨i, (k : Int)⟩ : Ref)
theorem refsOf_succ (i : Int) (n : Nat) : refsOf i (n + 1) = refsOf i n ++ [⟨i, (n : Int)⟩] := by unfold refsOf; rw [List.range_succ, List.map_append]; rfl
def refsFrom (m : Model) : List Inst → Nat → List Ref
 | [], _ => []
 | x :: r, i => refsOf i (ncmds m x) ++ refsFrom m r (i + 1)
def refs (m : Model) : List Ref := refsFrom m (insts m) 0
theorem refsFrom_drop {m : Model} {l : List Inst} {k : Nat} (h : k < l.length) : refsFrom m (l.drop k) k = refsOf k (ncmds m l[k]) ++ refsFrom m (l.drop (k + 1)) (k + 1) := by
 rw [List.drop_eq_getElem_cons h]; rfl
def refStep (m : Model) (s : Int × Inst × List Ref) (x : Inst) : Int × Inst × List Ref := ((if x ≠ s.2.1 then s.1 + 1 else s.1), x, s.2.2 ++ refsOf (if x ≠ s.2.1 then s.1 + 1 else s.1) (ncmds m x))
structure Fault where
 why : Int
 part : Int
 item : Int
 sub : Int
deriving DecidableEq
def fine : Fault := ⟨0, 0, 0, 0⟩
abbrev nS (m : Model) : List ByteArray := m.scalars.map (·.name)
abbrev nV (m : Model) (i : Nat) : List ByteArray := (m.vars.take i).map (·.name)
abbrev nC (m : Model) (i : Nat) : List ByteArray := (m.chans.take i).map (·.name)
abbrev nP (m : Model) (i : Nat) : List ByteArray := (m.procs.take i).map (·.name)
abbrev nR (m : Model) (i : Nat) : List ByteArray := (m.props.take i).map (·.name)
abbrev nSV (m : Model) (i : Nat) : List ByteArray := nS m ++ nV m i
abbrev nSVC (m : Model) (i : Nat) : List ByteArray := nSV m m.vars.length ++ nC m i
abbrev nSVCP (m : Model) (i : Nat) : List ByteArray := nSVC m m.chans.length ++ nP m i
abbrev nAll (m : Model) (i : Nat) : List ByteArray := nSVCP m m.procs.length ++ nR m i
def verr (m : Model) : Nat → Int := err 12 (nameAt (·.name) m.vars) (varErr m.vars m.scalars)
def cerr (m : Model) : Nat → Int := err 4 (nameAt (·.name) m.chans) (chanErr m.chans m.scalars)
def evar (m : Model) (i : Nat) : Int := if verr m i ≠ 0 then verr m i else if nameAt (·.name) m.vars i ∈ nSV m i then 7 else 0
def echan (m : Model) (i : Nat) : Int := if cerr m i ≠ 0 then cerr m i else if nameAt (·.name) m.chans i ∈ nSVC m i then 7 else 0
def elocs (m : Model) (p : Proc) (k : Nat) : Int := if nameAt (·.name) p.vars k ∈ nSVCP m m.procs.length then 7 else 0
def eproc (m : Model) (i : Nat) : Int × Int :=
 match m.procs[i]? with
 | none => (0, 0)
 | some p => if 6 ≤ i then (11, 0)
  else if (procCheck p (pscope m i)).2.2 ≠ 0 then ((procCheck p (pscope m i)).2.2, 16 * (procCheck p (pscope m i)).1 + (procCheck p (pscope m i)).2.1)
  else if p.name ∈ nSVCP m i then (7, 0)
  else if (first p.vars.length (elocs m p)).2 ≠ 0 then (7, 16 + (first p.vars.length (elocs m p)).1)
  else (0, 0)
def pinsts (m : Model) (p : Proc) : Int := if p.over = 0 then 1 else size p.over m.scalars
def sumI (l : List Int) : Int := l.foldl (· + ·) 0
def ccap (c : Chan) : Int := 1 + min (max c.cap 0) 4
def pieces (m : Model) : Int × Int × Int :=
 (sumI (m.procs.map (pinsts m)), sumI (m.procs.map fun p => pinsts m p * p.cmds.length),
  sumI (m.vars.map (fun v => cells v m.scalars)) + sumI (m.chans.map ccap) + sumI (m.procs.map fun p => pinsts m p * (1 + p.vars.length)))
def eprop (m : Model) (i : Nat) : Int :=
 match m.props[i]? with
 | none => 0
 | some p => if 8 ≤ i then 11 else if isName p.name = false then 6 else if p.name ∈ nAll m i then 7
  else if (kind p.expr (mscope m)).2 ≠ 0 then (kind p.expr (mscope m)).2 else if (kind p.expr (mscope m)).1 ≠ 1 then 9 else 0
def data (m : Model) : Fault :=
 if (scalars m.scalars).2 ≠ 0 then ⟨(scalars m.scalars).2, 1, (scalars m.scalars).1, 0⟩
 else if (first m.vars.length (evar m)).2 ≠ 0 then ⟨(first m.vars.length (evar m)).2, 2, (first m.vars.length (evar m)).1, 0⟩
 else if (first m.chans.length (echan m)).2 ≠ 0 then ⟨(first m.chans.length (echan m)).2, 3, (first m.chans.length (echan m)).1, 0⟩
 else fine
def procsF (m : Model) : Fault :=
 if (first m.procs.length fun i => (eproc m i).1).2 ≠ 0 then ⟨(first m.procs.length fun i => (eproc m i).1).2, 4, (first m.procs.length fun i => (eproc m i).1).1, (eproc m (first m.procs.length fun i => (eproc m i).1).1.toNat).2⟩
 else if 12 < (pieces m).1 ∨ 64 < (pieces m).2.2 then ⟨11, 4, m.procs.length, 0⟩ else fine
def propsF (m : Model) : Fault := if (first m.props.length (eprop m)).2 ≠ 0 then ⟨(first m.props.length (eprop m)).2, 5, (first m.props.length (eprop m)).1, 0⟩ else fine
def check (m : Model) : Fault := if (data m).why ≠ 0 then data m else if (procsF m).why ≠ 0 then procsF m else propsF m
theorem nameAt_get {α : Type} {f : α → ByteArray} {l : List α} {i : Nat} (h : i < l.length) : nameAt f l i = f l[i] := by
 unfold nameAt; rw [List.getElem?_eq_getElem h]; rfl
theorem min_exists {p : Nat → Prop} (h : ∃ j, p j) : ∃ i, p i ∧ ∀ k, p k → i ≤ k := by
 obtain ⟨j, hj⟩ := h
 induction j using Nat.strongRecOn with
 | _ j ih =>
  by_cases hx : ∃ k, k < j ∧ p k
  ·obtain ⟨k, hk, hp⟩ := hx; exact ih k hk hp
  ·exact ⟨j, hj, fun k hp => Nat.le_of_not_lt fun hlt => hx ⟨k, hlt, hp⟩⟩
theorem first_zero {n : Nat} {e : Nat → Int} (h : (first n e).2 = 0) : ∀ j, j < n → e j = 0 := by
 intro j hj
 apply Classical.byContradiction
 intro hn
 obtain ⟨i, hi, h1⟩ := min_exists (p := fun j => j < n ∧ e j ≠ 0) ⟨j, hj, hn⟩
 rw [first_stop hi.1 (fun k hk => by
  apply Classical.byContradiction
  intro hne
  exact absurd (h1 k ⟨by omega, hne⟩) (by omega)) hi.2] at h
 exact hi.2 h
theorem first_lt {n : Nat} {e : Nat → Int} (h : (first n e).2 ≠ 0) : ∃ i, i < n ∧ (first n e).1 = (i : Int) ∧ (first n e).2 = e i := by
 unfold first at h ⊢
 split at h
 ·rename_i i hi
  rw [List.find?_range_eq_some] at hi
  exact ⟨i, by simpa using hi.2.1, rfl, rfl⟩
 ·exact absurd rfl h
theorem err_take {α : Type} {f : α → ByteArray} {l : List α} {most : Int} {mo mo' : Nat → Int} {k i : Nat} (hi : i < k) (hm : mo i = mo' i) : err most (nameAt f (l.take k)) mo i = err most (nameAt f l) mo' i := by
 have hn : ∀ j, j < k → nameAt f (l.take k) j = nameAt f l j := fun j hj => by unfold nameAt; rw [List.getElem?_take_of_lt hj]
 unfold err
 rw [hn i hi, hm]
 have he : (∃ j, j < i ∧ nameAt f (l.take k) j = nameAt f l i) ↔ (∃ j, j < i ∧ nameAt f l j = nameAt f l i) :=
  ⟨fun ⟨j, h1, h2⟩ => ⟨j, h1, by rw [← hn j (by omega)]; exact h2⟩, fun ⟨j, h1, h2⟩ => ⟨j, h1, by rw [hn j (by omega)]; exact h2⟩⟩
 by_cases hx : ∃ j, j < i ∧ nameAt f l j = nameAt f l i
 ·rw [if_pos (he.2 hx), if_pos hx]
 ·rw [if_neg (fun h => hx (he.1 h)), if_neg hx]
theorem vars_take {m : Model} {i : Nat} (hi : i < m.vars.length) (hz : ∀ j, j < i → verr m j = 0) : (vars (m.vars.take (i + 1)) m.scalars 12).2 = verr m i := by
 unfold vars
 have hl : (m.vars.take (i + 1)).length = i + 1 := by simp; omega
 rw [hl, show (max 12 0 : Int) = 12 from rfl, first_congr (e' := verr m) (fun j hj => (err_take (mo' := varErr m.vars m.scalars) hj (by unfold varErr; rw [List.getElem?_take_of_lt hj]) : _ = verr m j))]
 by_cases h0 : verr m i = 0
 ·rw [first_none fun j hj => by
   by_cases hji : j = i
   ·subst hji; exact h0
   ·exact hz j (by omega), h0]
 ·rw [first_stop (by omega) hz h0]
theorem chans_take {m : Model} {i : Nat} (hi : i < m.chans.length) (hz : ∀ j, j < i → cerr m j = 0) : (chans (m.chans.take (i + 1)) m.scalars).2 = cerr m i := by
 unfold chans
 have hl : (m.chans.take (i + 1)).length = i + 1 := by simp; omega
 rw [hl, first_congr (e' := cerr m) (fun j hj => (err_take (mo' := chanErr m.chans m.scalars) hj (by unfold chanErr; rw [List.getElem?_take_of_lt hj]) : _ = cerr m j))]
 by_cases h0 : cerr m i = 0
 ·rw [first_none fun j hj => by
   by_cases hji : j = i
   ·subst hji; exact h0
   ·exact hz j (by omega), h0]
 ·rw [first_stop (by omega) hz h0]
theorem vars_eq (m : Model) : vars m.vars m.scalars 12 = first m.vars.length (verr m) := rfl
theorem chans_eq (m : Model) : chans m.chans m.scalars = first m.chans.length (cerr m) := rfl
theorem verr_of {m : Model} {i : Nat} (h : evar m i = 0) : verr m i = 0 := by
 apply Classical.byContradiction
 intro hn
 unfold evar at h
 rw [if_pos hn] at h
 exact hn h
theorem cerr_of {m : Model} {i : Nat} (h : echan m i = 0) : cerr m i = 0 := by
 apply Classical.byContradiction
 intro hn
 unfold echan at h
 rw [if_pos hn] at h
 exact hn h
theorem evar_lt {m : Model} {i : Nat} (h : evar m i = 0) : i < 12 := by
 have h := verr_of h
 unfold verr err at h
 split at h
 ·cases h
 ·omega
theorem echan_lt {m : Model} {i : Nat} (h : echan m i = 0) : i < 4 := by
 have h := cerr_of h
 unfold cerr err at h
 split at h
 ·cases h
 ·omega
theorem eproc_lt {m : Model} {i : Nat} (hi : i < m.procs.length) (h : (eproc m i).1 = 0) : i < 6 := by
 unfold eproc at h
 rw [List.getElem?_eq_getElem hi] at h
 simp only at h
 split at h
 ·cases h
 ·omega
theorem eprop_lt {m : Model} {i : Nat} (hi : i < m.props.length) (h : eprop m i = 0) : i < 8 := by
 unfold eprop at h
 rw [List.getElem?_eq_getElem hi] at h
 simp only at h
 split at h
 ·cases h
 ·omega
theorem scalars_lt {m : Model} (h : (scalars m.scalars).2 = 0) : m.scalars.length ≤ 2 := by
 unfold scalars at h
 have := first_zero h
 apply Classical.byContradiction
 intro hn
 have h2 := this 2 (by omega)
 unfold err at h2
 rw [if_pos (by omega)] at h2
 cases h2
theorem size_le (k : Int) (s : List Scalar) : 0 ≤ size k s ∧ size k s ≤ 4 := by
 unfold size
 split
 ·split <;> omega
 ·omega
theorem cells_le (v : Var) (s : List Scalar) : 0 ≤ cells v s ∧ cells v s ≤ 4 := by
 have := size_le v.over s
 unfold cells
 split <;> omega
theorem pinsts_le (m : Model) (p : Proc) : 0 ≤ pinsts m p ∧ pinsts m p ≤ 4 := by
 have := size_le p.over m.scalars
 unfold pinsts
 split <;> omega
theorem ccap_le (c : Chan) : 1 ≤ ccap c ∧ ccap c ≤ 5 := by unfold ccap; omega
theorem sumI_snoc (l : List Int) (x : Int) : sumI (l ++ [x]) = sumI l + x := by unfold sumI; simp
theorem sumI_take {α : Type} (f : α → Int) (l : List α) {k : Nat} (h : k < l.length) : sumI ((l.take (k + 1)).map f) = sumI ((l.take k).map f) + f l[k] := by
 rw [List.take_succ_eq_append_getElem h, List.map_append, List.map_cons, List.map_nil, sumI_snoc]
theorem sumI_le {α : Type} (f : α → Int) (B : Int) (hB : 0 ≤ B) : ∀ (l : List α), (∀ x ∈ l, 0 ≤ f x ∧ f x ≤ B) → 0 ≤ sumI (l.map f) ∧ sumI (l.map f) ≤ B * l.length := by
 have key : ∀ (l : List α) (a : Int), (∀ x ∈ l, 0 ≤ f x ∧ f x ≤ B) → a ≤ (l.map f).foldl (· + ·) a ∧ (l.map f).foldl (· + ·) a ≤ a + B * l.length := by
  intro l
  induction l with
  | nil => intro a _; simp
  | cons x r ih =>
   intro a h
   have hx := h x (by simp)
   obtain ⟨h1, h2⟩ := ih (a + f x) fun y hy => h y (by simp [hy])
   simp only [List.map_cons, List.foldl_cons, List.length_cons]
   rw [Int.natCast_succ, Int.mul_add]
   omega
 intro l h
 obtain ⟨h1, h2⟩ := key l 0 h
 unfold sumI
 omega
end Abs
namespace Abs
theorem data_s {m : Model} (h : (scalars m.scalars).2 ≠ 0) : data m = ⟨(scalars m.scalars).2, 1, (scalars m.scalars).1, 0⟩ := by unfold data; rw [if_pos h]
theorem data_v {m : Model} (hs : (scalars m.scalars).2 = 0) {i : Nat} (hi : i < m.vars.length) (hz : ∀ j, j < i → evar m j = 0) (h : evar m i ≠ 0) : data m = ⟨evar m i, 2, i, 0⟩ := by
 unfold data
 rw [if_neg (by simpa using hs), first_stop hi hz h, if_pos h]
theorem data_c {m : Model} (hs : (scalars m.scalars).2 = 0) (hv : ∀ j, j < m.vars.length → evar m j = 0) {i : Nat} (hi : i < m.chans.length) (hz : ∀ j, j < i → echan m j = 0) (h : echan m i ≠ 0) : data m = ⟨echan m i, 3, i, 0⟩ := by
 unfold data
 rw [if_neg (by simpa using hs), first_none hv, if_neg (by simp), first_stop hi hz h, if_pos h]
theorem data_0 {m : Model} (hs : (scalars m.scalars).2 = 0) (hv : ∀ j, j < m.vars.length → evar m j = 0) (hc : ∀ j, j < m.chans.length → echan m j = 0) : data m = fine := by
 unfold data
 rw [if_neg (by simpa using hs), first_none hv, if_neg (by simp), first_none hc, if_neg (by simp)]
theorem data_ok {m : Model} (h : (data m).why = 0) : (scalars m.scalars).2 = 0 ∧ (∀ j, j < m.vars.length → evar m j = 0) ∧ (∀ j, j < m.chans.length → echan m j = 0) := by
 unfold data at h
 by_cases h1 : (scalars m.scalars).2 = 0
 ·rw [if_neg (by simpa using h1)] at h
  by_cases h2 : (first m.vars.length (evar m)).2 = 0
  ·rw [if_neg (by simpa using h2)] at h
   by_cases h3 : (first m.chans.length (echan m)).2 = 0
   ·exact ⟨h1, first_zero h2, first_zero h3⟩
   ·rw [if_pos h3] at h; exact absurd h h3
  ·rw [if_pos h2] at h; exact absurd h h2
 ·rw [if_pos h1] at h; exact absurd h h1
theorem data_few {m : Model} (h : (data m).why = 0) : m.scalars.length ≤ 2 ∧ m.vars.length ≤ 12 ∧ m.chans.length ≤ 4 := by
 obtain ⟨h1, h2, h3⟩ := data_ok h
 refine ⟨scalars_lt h1, ?_, ?_⟩
 ·apply Classical.byContradiction
  intro hn
  have := evar_lt (h2 12 (by omega))
  omega
 ·apply Classical.byContradiction
  intro hn
  have := echan_lt (h3 4 (by omega))
  omega
theorem procs_i {m : Model} {i : Nat} (hi : i < m.procs.length) (hz : ∀ j, j < i → (eproc m j).1 = 0) (h : (eproc m i).1 ≠ 0) : procsF m = ⟨(eproc m i).1, 4, i, (eproc m i).2⟩ := by
 unfold procsF
 rw [first_stop (e := fun i => (eproc m i).1) hi hz h]
 simp only
 rw [if_pos h]
 simp
theorem procs_all {m : Model} (hz : ∀ j, j < m.procs.length → (eproc m j).1 = 0) : procsF m = if 12 < (pieces m).1 ∨ 64 < (pieces m).2.2 then ⟨11, 4, m.procs.length, 0⟩ else fine := by
 unfold procsF
 rw [first_none (e := fun i => (eproc m i).1) hz, if_neg (by simp)]
theorem procs_ok {m : Model} (h : (procsF m).why = 0) : (∀ j, j < m.procs.length → (eproc m j).1 = 0) ∧ (pieces m).1 ≤ 12 ∧ (pieces m).2.2 ≤ 64 := by
 by_cases h1 : (first m.procs.length fun i => (eproc m i).1).2 = 0
 ·have hz := first_zero h1
  rw [procs_all hz] at h
  refine ⟨hz, ?_⟩
  by_cases h2 : 12 < (pieces m).1 ∨ 64 < (pieces m).2.2
  ·rw [if_pos h2] at h; cases h
  ·omega
 ·unfold procsF at h
  rw [if_pos h1] at h; exact absurd h h1
theorem props_i {m : Model} {i : Nat} (hi : i < m.props.length) (hz : ∀ j, j < i → eprop m j = 0) (h : eprop m i ≠ 0) : propsF m = ⟨eprop m i, 5, i, 0⟩ := by
 unfold propsF
 rw [first_stop hi hz h, if_pos h]
theorem props_0 {m : Model} (hz : ∀ j, j < m.props.length → eprop m j = 0) : propsF m = fine := by
 unfold propsF
 rw [first_none hz, if_neg (by simp)]
theorem props_ok {m : Model} (h : (propsF m).why = 0) : ∀ j, j < m.props.length → eprop m j = 0 := by
 by_cases h1 : (first m.props.length (eprop m)).2 = 0
 ·exact first_zero h1
 ·unfold propsF at h
  rw [if_pos h1] at h; exact absurd h h1
theorem take_snocN {α : Type} (f : α → ByteArray) (l : List α) {k : Nat} (h : k < l.length) : (l.take (k + 1)).map f = (l.take k).map f ++ [f l[k]] := by
 rw [List.take_succ_eq_append_getElem h, List.map_append]; rfl
end Abs
namespace Abs
theorem eproc_get {m : Model} {i : Nat} (hi : i < m.procs.length) : eproc m i = if 6 ≤ i then (11, 0)
  else if (procCheck m.procs[i] (pscope m i)).2.2 ≠ 0 then ((procCheck m.procs[i] (pscope m i)).2.2, 16 * (procCheck m.procs[i] (pscope m i)).1 + (procCheck m.procs[i] (pscope m i)).2.1)
  else if m.procs[i].name ∈ nSVCP m i then (7, 0)
  else if (first m.procs[i].vars.length (elocs m m.procs[i])).2 ≠ 0 then (7, 16 + (first m.procs[i].vars.length (elocs m m.procs[i])).1)
  else (0, 0) := by
 unfold eproc
 rw [List.getElem?_eq_getElem hi]
theorem eprop_get {m : Model} {i : Nat} (hi : i < m.props.length) : eprop m i = if 8 ≤ i then 11 else if isName m.props[i].name = false then 6 else if m.props[i].name ∈ nAll m i then 7
  else if (kind m.props[i].expr (mscope m)).2 ≠ 0 then (kind m.props[i].expr (mscope m)).2 else if (kind m.props[i].expr (mscope m)).1 ≠ 1 then 9 else 0 := by
 unfold eprop
 rw [List.getElem?_eq_getElem hi]
theorem first_in (n : Nat) (e : Nat → Int) : 0 ≤ (first n e).1 ∧ (first n e).1 ≤ n := by
 unfold first
 split
 ·rename_i i hi
  rw [List.find?_range_eq_some] at hi
  have := hi.2.1
  simp at this
  constructor <;> simp <;> omega
 ·simp
theorem localsE_in (s : Scope) : ∀ (l : List Var) (i : Nat), 0 ≤ (localsE s l i).1 ∧ (localsE s l i).1 ≤ i + l.length
 | [], i => by first | (simp [localsE]; done) | (simp [localsE]; omega)
 | v :: r, i => by
  have := localsE_in s r (i + 1)
  unfold localsE
  split
  ·simp; omega
  ·split
   ·simp; omega
   ·simp only [List.length_cons]; omega
theorem plocals_in (p : Proc) (s : Scope) : 0 ≤ (plocals p s).1 ∧ (plocals p s).1 ≤ p.vars.length := by
 unfold plocals
 split
 ·exact first_in _ _
 ·have := localsE_in s p.vars 0; omega
theorem actsE_in (s : Scope) : ∀ (l : List Act) (i : Nat) (t : Bool), 0 ≤ (actsE s l i t).1 ∧ (actsE s l i t).1 ≤ 2 + i + l.length
 | [], i, t => by first | (simp [actsE]; done) | (simp [actsE]; omega)
 | a :: r, i, t => by
  have := actsE_in s r (i + 1) (t || talks a)
  unfold actsE
  split
  ·simp; omega
  ·split
   ·simp; omega
   ·simp only [List.length_cons]; omega
theorem cmdCheck_in (c : Cmd) (locs : Int) (s : Scope) : 0 ≤ (cmdCheck c locs s).1 ∧ (cmdCheck c locs s).1 ≤ 2 + c.acts.length := by
 unfold cmdCheck
 split
 ·simp; omega
 ·split
  ·simp; omega
  ·have := actsE_in s c.acts 0 false; omega
theorem cmdsE_in (own : Scope) (locs : Int) (all : List Cmd) (B : Nat) : ∀ (l : List Cmd) (i : Nat), (∀ c ∈ l, c.acts.length ≤ B) → 0 ≤ (cmdsE own locs all l i).1 ∧ (cmdsE own locs all l i).1 ≤ 2 + i + l.length ∧ 0 ≤ (cmdsE own locs all l i).2.1 ∧ (cmdsE own locs all l i).2.1 ≤ 2 + B
 | [], i, _ => by first | (simp [cmdsE]; done) | (simp [cmdsE]; omega)
 | c :: r, i, h => by
  have h1 := cmdsE_in own locs all B r (i + 1) fun x hx => h x (by simp [hx])
  have h2 := cmdCheck_in c locs own
  have h3 := h c (by simp)
  unfold cmdsE
  split
  ·simp only [List.length_cons]; omega
  ·split
   ·simp only [List.length_cons]; omega
   ·simp only [List.length_cons]; omega
theorem procCheck_in (p : Proc) (s : Scope) (B : Nat) (h : ∀ c ∈ p.cmds, c.acts.length ≤ B) : 0 ≤ (procCheck p s).1 ∧ (procCheck p s).1 ≤ 2 + p.cmds.length ∧ 0 ≤ (procCheck p s).2.1 ∧ (procCheck p s).2.1 ≤ 2 + B + p.vars.length := by
 unfold procCheck
 split
 ·simp; omega
 ·split
  ·have := plocals_in p s
   simp only; omega
  ·have := cmdsE_in (inner p s) p.locs p.cmds B p.cmds 0 h
   omega
theorem procCheck_few {p : Proc} {s : Scope} (h : (procCheck p s).2.2 = 0) : p.vars.length ≤ 4 ∧ p.cmds.length ≤ 12 ∧ whole p s = 0 ∧ (plocals p s).2 = 0 ∧ (cmdsE (inner p s) p.locs p.cmds p.cmds 0).2.2 = 0 := by
 unfold procCheck at h
 by_cases h1 : whole p s = 0
 ·rw [if_neg (by simpa using h1)] at h
  by_cases h2 : (plocals p s).2 = 0
  ·rw [if_neg (by simpa using h2)] at h
   refine ⟨?_, ?_, h1, h2, h⟩
   ·have h3 : (vars p.vars s.scalars 4).2 = 0 := by
     apply Classical.byContradiction
     intro hn
     unfold plocals at h2
     rw [if_pos hn] at h2
     exact hn h2
    apply Classical.byContradiction
    intro hn
    have h4 := first_zero h3 4 (by omega)
    unfold err at h4
    rw [if_pos (by decide)] at h4
    cases h4
   ·apply Classical.byContradiction
    intro hn
    unfold whole at h1
    split at h1
    ·cases h1
    ·split at h1
     ·cases h1
     ·split at h1
      ·cases h1
      ·rw [if_pos (by omega)] at h1; cases h1
  ·rw [if_pos h2] at h; exact absurd h h2
 ·rw [if_pos h1] at h; exact absurd h h1
theorem eproc_ok {m : Model} {i : Nat} (hi : i < m.procs.length) (h : (eproc m i).1 = 0) : i < 6 ∧ (procCheck m.procs[i] (pscope m i)).2.2 = 0 ∧ ¬ m.procs[i].name ∈ nSVCP m i ∧ (first m.procs[i].vars.length (elocs m m.procs[i])).2 = 0 := by
 rw [eproc_get hi] at h
 split at h
 ·cases h
 ·split at h
  ·rename_i h1 h2; exact absurd h h2
  ·split at h
   ·cases h
   ·split at h
    ·cases h
    ·rename_i h1 h2 h3 h4
     exact ⟨by omega, by simpa using h2, h3, by simpa using h4⟩
end Abs
end
section
namespace Abs
open Go
structure Bd where
 lo : Int
 hi : Int
 kind : Int
structure Cell where
 sort : Int
 which : Int
 place : Int
 lo : Int
 hi : Int
 kind : Int
structure Layout where
 vars : List Int
 chans : List Int
 insts : List Int
 cells : Int
 lo : List Int
 hi : List Int
def kindOf (k : Int) : Int := if k = 0 then 0 else k + 1
def bdOf (sc lo hi : Int) (s : List Scalar) : Bd := if sc = 0 then ⟨lo, hi, 0⟩ else ⟨0, size sc s, sc + 1⟩
theorem bdOf_eq (v : Var) (s : List Scalar) : bdOf v.scalar v.lo v.hi s = ⟨(bounds v s).1, (bounds v s).2, kindOf v.scalar⟩ := by
 unfold bdOf bounds kindOf
 by_cases h : v.scalar = 0
 ·rw [if_pos h, if_pos h, if_pos h]
 ·rw [if_neg h, if_neg h, if_neg h]
def varBds (s : List Scalar) (v : Var) : List Bd := List.replicate (cells v s).toNat (bdOf v.scalar v.lo v.hi s)
def chanBd (s : List Scalar) (c : Chan) : Bd := bdOf c.scalar (min c.lo 0) (max c.hi 0) s
def chanBds (s : List Scalar) (c : Chan) : List Bd := ⟨0, c.cap, 0⟩ :: List.replicate c.cap.toNat (chanBd s c)
def procBds (s : List Scalar) (p : Proc) : List Bd := ⟨0, p.locs - 1, 0⟩ :: p.vars.map fun v => bdOf v.scalar v.lo v.hi s
def instBds (m : Model) (x : Inst) : List Bd := match nth m.procs x.proc with | some p => procBds m.scalars p | none => []
def laidFrom (sort which : Int) : List Bd → Nat → List Cell
 | [], _ => []
 | b :: r, k => ⟨sort, which, k, b.lo, b.hi, b.kind⟩ :: laidFrom sort which r (k + 1)
def cellsOf (sort : Int) : List (List Bd) → Nat → List Cell
 | [], _ => []
 | l :: r, i => laidFrom sort i l 0 ++ cellsOf sort r (i + 1)
def total (ls : List (List Bd)) : Nat := (ls.map List.length).sum
def starts (n : Nat) : List (List Bd) → List Int
 | [] => []
 | l :: r => (n : Int) :: starts (n + l.length) r
def vT (m : Model) : List (List Bd) := m.vars.map (varBds m.scalars)
def cT (m : Model) : List (List Bd) := m.chans.map (chanBds m.scalars)
def iT (m : Model) : List (List Bd) := (insts m).map (instBds m)
def lC (m : Model) : List Cell := cellsOf 1 (vT m) 0 ++ cellsOf 2 (cT m) 0 ++ cellsOf 3 (iT m) 0
def layOf (V C I : List Int) (cs : List Cell) : Layout := ⟨V, C, I, cs.length, cs.map (·.lo), cs.map (·.hi)⟩
def layout (m : Model) : Layout := layOf (starts 0 (vT m)) (starts (total (vT m)) (cT m)) (starts (total (vT m) + total (cT m)) (iT m)) (lC m)
def noLayout : Layout := ⟨[], [], [], 0, [], []⟩
def lay (m : Model) : Layout := if (check m).why = 0 then layout m else noLayout
theorem laidFrom_len (s w : Int) : ∀ (l : List Bd) (k : Nat), (laidFrom s w l k).length = l.length
 | [], _ => rfl
 | _ :: r, k => by simp [laidFrom, laidFrom_len s w r]
theorem laidFrom_snoc (s w : Int) (b : Bd) : ∀ (l : List Bd) (k : Nat), laidFrom s w (l ++ [b]) k = laidFrom s w l k ++ [⟨s, w, (k + l.length : Nat), b.lo, b.hi, b.kind⟩]
 | [], k => by simp [laidFrom]
 | x :: r, k => by
  simp only [List.cons_append, laidFrom, laidFrom_snoc s w b r, List.length_cons]
  rw [show k + 1 + r.length = k + (r.length + 1) from by omega]
theorem laidFrom_take {s w : Int} {l : List Bd} {k : Nat} (h : k < l.length) : laidFrom s w (l.take (k + 1)) 0 = laidFrom s w (l.take k) 0 ++ [⟨s, w, k, l[k].lo, l[k].hi, l[k].kind⟩] := by
 rw [List.take_succ_eq_append_getElem h, laidFrom_snoc]
 simp [List.length_take, Nat.min_eq_left (Nat.le_of_lt h)]
theorem cellsOf_len (s : Int) : ∀ (ls : List (List Bd)) (i : Nat), (cellsOf s ls i).length = total ls
 | [], _ => rfl
 | l :: r, i => by simp [cellsOf, laidFrom_len, cellsOf_len s r, total]
theorem cellsOf_snoc (s : Int) (x : List Bd) : ∀ (ls : List (List Bd)) (i : Nat), cellsOf s (ls ++ [x]) i = cellsOf s ls i ++ laidFrom s (i + ls.length : Nat) x 0
 | [], i => by simp [cellsOf]
 | l :: r, i => by
  simp only [List.cons_append, cellsOf, cellsOf_snoc s x r, List.length_cons, List.append_assoc]
  rw [show i + 1 + r.length = i + (r.length + 1) from by omega]
theorem total_snoc (ls : List (List Bd)) (x : List Bd) : total (ls ++ [x]) = total ls + x.length := by simp [total]
theorem starts_snoc (x : List Bd) : ∀ (ls : List (List Bd)) (n : Nat), starts n (ls ++ [x]) = starts n ls ++ [((n + total ls : Nat) : Int)]
 | [], n => by simp [starts, total]
 | l :: r, n => by
  simp only [List.cons_append, starts, starts_snoc x r, total, List.map_cons, List.sum_cons]
  rw [show n + l.length + (r.map List.length).sum = n + (l.length + (r.map List.length).sum) from by omega]
theorem starts_len (n : Nat) : ∀ (ls : List (List Bd)), (starts n ls).length = ls.length := by
 intro ls
 induction ls generalizing n with
 | nil => rfl
 | cons l r ih => simp [starts, ih]
theorem layCells_len (m : Model) : (lC m).length = total (vT m) + total (cT m) + total (iT m) := by simp [lC, cellsOf_len, Nat.add_assoc]
def firsts (s : Int) : List Cell → Nat → List Int
 | [], _ => []
 | x :: r, i => (if x.place = 0 ∧ x.sort = s then [(i : Int)] else []) ++ firsts s r (i + 1)
theorem firsts_app (s : Int) : ∀ (a b : List Cell) (i : Nat), firsts s (a ++ b) i = firsts s a i ++ firsts s b (i + a.length)
 | [], b, i => by simp [firsts]
 | x :: r, b, i => by
  simp only [List.cons_append, firsts, firsts_app s r b, List.append_assoc, List.length_cons]
  rw [show i + 1 + r.length = i + (r.length + 1) from by omega]
theorem firsts_rest (s s' w : Int) : ∀ (l : List Bd) (k i : Nat), 0 < k → firsts s (laidFrom s' w l k) i = []
 | [], _, _, _ => rfl
 | b :: r, k, i, h => by
  simp only [laidFrom, firsts]
  rw [if_neg (by simp; omega), firsts_rest s s' w r (k + 1) (i + 1) (by omega)]
  rfl
theorem firsts_of (s : Int) : ∀ (ls : List (List Bd)) (i n : Nat), (∀ l ∈ ls, l ≠ []) → firsts s (cellsOf s ls i) n = starts n ls
 | [], _, _, _ => rfl
 | [] :: r, i, n, h => absurd rfl (h [] (by simp))
 | (b :: l) :: r, i, n, h => by
  simp only [cellsOf, laidFrom, List.cons_append, firsts, firsts_app]
  rw [if_pos (by simp), firsts_rest s s i l 1 (n + 1) (by omega), firsts_of s r (i + 1) _ (fun l hl => h l (by simp [hl]))]
  simp only [List.nil_append, starts, laidFrom_len, List.singleton_append, List.length_cons]
  rw [show n + 1 + l.length = n + (l.length + 1) from by omega]
theorem firsts_other (s s' : Int) (hs : s ≠ s') : ∀ (ls : List (List Bd)) (i n : Nat), firsts s (cellsOf s' ls i) n = []
 | [], _, _ => rfl
 | l :: r, i, n => by
  have key : ∀ (l : List Bd) (k n : Nat), firsts s (laidFrom s' i l k) n = [] := by
   intro l
   induction l with
   | nil => intro k n; rfl
   | cons b r ih =>
    intro k n
    simp only [laidFrom, firsts]
    rw [if_neg (by simp; exact fun _ => Ne.symm hs), ih]
    rfl
  simp only [cellsOf, firsts_app, key, firsts_other s s' hs r, List.append_nil]
end Abs
end