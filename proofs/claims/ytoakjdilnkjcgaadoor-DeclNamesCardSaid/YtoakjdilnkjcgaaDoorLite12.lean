/- Lite, part 12: short ways: straight on by one name, loops whose frames are written out. -/
import Derived.Test.YtoakjdilnkjcgaaDoorLite11
import Derived.Test.YtoakjdilnkjcgaaDoorLiteC
set_option linter.all false
namespace Lite
open Go Go.RowKit
structure Hold (p : Prop) : Prop where out : p
/-- Straight on to the next test, call, new block, loop. -/
theorem St {A B : Prop} (k : B) (h : Hold B → A := by
  intro q
  (repeat' first
  | assumption
  | exact Ext.refl _
  | refine Ext.trans ?_ (by assumption)
  | refine K.wrap (by omega) ?_
  | refine K.ldb (by assumption) ?_ rfl ?_
  | refine K.ldb0 (by assumption) ?_ rfl ?_
  | refine K.ldE (by assumption) ?_ (by omega) rfl ?_
  | refine K.ldE0 (by assumption) ?_ (by omega) rfl ?_
  | refine K.ldAE (by assumption) ?_ (by omega) rfl ?_
  | refine K.iaC (by omega) ?_
  | refine K.condT (by first | assumption | omega) ?_
  | refine K.condF (by first | assumption | omega) ?_
  | refine K.condbT (by assumption) ?_
  | refine K.condbF (by assumption) ?_
  | simp -dsimp only [LL,B9,Nat.reduceAdd,Nat.reduceEqDiff,reduceIte,reduceCtorEq,Bool.false_eq_true])
  exact q.out) : A := h ⟨k⟩
/-! ### Frames -/
def slots : List (Nat × Value) → Fr → Fr
  | [], S => S
  | p :: r, S => upd (slots r S) p.1 p.2
theorem slots_nil (S : Fr) : slots [] S = S := eq_of_heq (HEq.refl _)
theorem slots_cons (t : Nat) (v : Value) (r : List (Nat × Value)) (S : Fr) : slots ((t, v) :: r) S = upd (slots r S) t v := eq_of_heq (HEq.refl _)
def Has (S : Fr) : List (Nat × Value) → Prop
  | [] => True
  | p :: r => S p.1 = p.2 ∧ Has S r
theorem has_nil (S : Fr) : Has S [] = True := propext Iff.rfl
theorem has_cons (S : Fr) (t : Nat) (v : Value) (r : List (Nat × Value)) : Has S ((t, v) :: r) = (S t = v ∧ Has S r) := propext Iff.rfl
theorem slots_eq {S : Fr} : ∀ L, Has S L → slots L S = S
  | [], _ => rfl
  | p :: r, h => by
    show upd (slots r S) p.1 p.2 = S
    rw [slots_eq r h.2]; exact upd_self S _ _ h.1
/-- What slots held in the frame ahead. -/
def keepV (S : Fr) : List Nat → Fr → Fr
  | [], S' => S'
  | t :: r, S' => upd (keepV S r S') t (S t)
theorem keepV_nil (S S' : Fr) : keepV S [] S' = S' := eq_of_heq (HEq.refl _)
theorem keepV_cons (S S' : Fr) (t : Nat) (r : List Nat) : keepV S (t :: r) S' = upd (keepV S r S') t (S t) := eq_of_heq (HEq.refl _)
theorem keepV_eq {S S' : Fr} : ∀ ts : List Nat, (∀ t ∈ ts, S' t = S t) → keepV S ts S' = S'
  | [], _ => rfl
  | t :: r, h => by
    show upd (keepV S r S') t (S t) = S'
    rw [keepV_eq r fun u hu => h u (by simp [hu])]; exact upd_self S' _ _ (h t (by simp))
theorem notin_of {ds ts : List Nat} (h : (ts.all fun t => !ds.contains t) = true) : ∀ t ∈ ts, ds.contains t = false := fun t ht => by
  have := List.all_eq_true.1 h t ht
  simpa using this
theorem min_ex {p : Nat → Prop} : ∀ n, p n → ∃ m, p m ∧ ∀ k, p k → m ≤ k := fun n => by
  induction n using Nat.strongRecOn with
  | _ n ih =>
    intro h
    by_cases hm : ∃ k, k < n ∧ p k
    · obtain ⟨k, hk, hp⟩ := hm
      exact ih k hk hp
    · exact ⟨n, h, fun k hk => Nat.le_of_not_lt fun hlt => hm ⟨k, hlt, hk⟩⟩
noncomputable def least (p : Nat → Prop) : Nat := open Classical in if h : ∃ m, p m ∧ ∀ k, p k → m ≤ k then h.choose else 0
theorem least_ok {p : Nat → Prop} (h : ∃ n, p n) : p (least p) ∧ ∀ k, p k → least p ≤ k := by
  obtain ⟨n, hn⟩ := h
  have hm := min_ex n hn
  unfold least
  rw [dif_pos hm]
  exact hm.choose_spec
section
variable {P : Program} {Q : LX → Fr → World → Prop} {S : Fr} {w : World}
/-- A loop that counts in slot i; what it keeps (ts), what it changes (M), what is true (J). -/
theorem K.forG {β : Type} {b : LC} {t} (i N : Nat) (ts : List Nat) (M : β → List (Nat × Value)) (x0 : β) (J : Nat → β → World → Prop) (hi0 : S i = .int .i64 0) (hM : Has S (M x0)) (h0 : J 0 x0 w)
    (hr : ∀ (k : Nat) x S' w', k ≤ N → J k x w' →
      vch P b (thenQh (fun S'' w'' => k < N ∧ S'' i = .int .i64 ((k : Int) + 1) ∧ ∃ x', Has S'' (M x') ∧ J (k + 1) x' w'') Q ⟨⟩) (slots (M x) (upd (keepV S ts S') i (.int .i64 k))) w' ⟨⟩)
    (hd : (ts.all fun t => !b.dsts.contains t) = true := by rfl) : LoopVCh P b Q S w t := by
  refine K.for1 i N (fun k S w => ∃ x, Has S (M x) ∧ J k x w) hi0 ⟨x0, hM, h0⟩ ?_
  rintro k S' w' hS hk hi ⟨x, hM', hJ⟩
  have h := hr k x S' w' hk hJ
  rw [keepV_eq ts fun t ht => hS t (notin_of hd t ht), upd_self S' i _ hi, slots_eq _ hM'] at h
  exact h
/-- A cut: what holds behind the first part. -/
theorem K.cutG {β : Type} {a b : LC} {t} (ts : List Nat) (M : β → List (Nat × Value)) (N : β → World → Prop) (h1 : vch P a (thenQh (fun S'' w'' => ∃ x, Has S'' (M x) ∧ N x w'') Q ⟨⟩) S w ⟨⟩)
    (h2 : ∀ x S' w', N x w' → vch P b Q (slots (M x) (keepV S ts S')) w' ⟨⟩) (hd : (ts.all fun t => !a.dsts.contains t) = true := by rfl) : vch P (.seq a b) Q S w t := by
  refine K.cut _ h1 ?_
  rintro S' w' hS ⟨x, hM, hN⟩
  have h := h2 x S' w' hN
  rw [keepV_eq ts fun t ht => hS t (notin_of hd t ht), slots_eq _ hM] at h
  exact h
/-- A loop that ends by a measure. -/
theorem K.whG {β : Type} {b : LC} {t} (ts : List Nat) (M : β → List (Nat × Value)) (x0 : β) (J : β → World → Prop) (μ : β → Nat) (hM : Has S (M x0)) (h0 : J x0 w)
    (hr : ∀ x S' w', J x w' →
      vch P b (thenQh (fun S'' w'' => ∃ x', Has S'' (M x') ∧ J x' w'' ∧ μ x' < μ x) Q ⟨⟩) (slots (M x) (keepV S ts S')) w' ⟨⟩)
    (hd : (ts.all fun t => !b.dsts.contains t) = true := by rfl) : LoopVCh P b Q S w t := by
  refine K.loop (fun S w => ∃ x, Has S (M x) ∧ J x w) (fun S w => least fun n => ∃ x, Has S (M x) ∧ J x w ∧ μ x = n) ⟨x0, hM, h0⟩ ?_
  rintro S' w' hS ⟨x, hM', hJ⟩
  obtain ⟨⟨y, h1, h2, h3⟩, h4⟩ := least_ok (p := fun n => ∃ x, Has S' (M x) ∧ J x w' ∧ μ x = n) ⟨μ x, x, hM', hJ, rfl⟩
  have h := hr y S' w' h2
  rw [keepV_eq ts fun t ht => hS t (notin_of hd t ht), slots_eq _ h1] at h
  unfold vch thenQh at *
  refine vc_keep b _ _ S' w' (fun e S'' w'' _ h => ?_) h
  match e, h with
  | .normal, ⟨z, k1, k2, k3⟩ =>
    refine ⟨⟨z, k1, k2⟩, ?_⟩
    have h5 := (least_ok (p := fun n => ∃ x, Has S'' (M x) ∧ J x w'' ∧ μ x = n) ⟨μ z, z, k1, k2, rfl⟩).2 (μ z) ⟨z, k1, k2, rfl⟩
    show least _ < least _
    rw [← h3]
    omega
  | .exit _, h => exact h
  | .ret, h => exact h
end
end Lite
