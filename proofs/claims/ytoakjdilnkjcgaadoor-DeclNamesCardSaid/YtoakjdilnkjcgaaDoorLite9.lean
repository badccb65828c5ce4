/- Lite, part 9: rows of one's own: append. -/
import Derived.Test.YtoakjdilnkjcgaaDoorLite8
import Derived.Laws.OwnMore
set_option linter.all false
namespace Lite
open Go Go.RowKit

theorem Ext.grown {w0 w w' : World} {r : Option Nat} (he : Ext w0 w) (hg : w.grownBy w' r) (hr : ∀ k, r = some k → w0.heap.size ≤ k) : Ext w0 w' := Below.grown he hg he.size hr
theorem ownsRow_ext {w w' : World} {base : Nat} {e : TypeId} {sz : Nat} {v : Value} {n : Nat} {xs : List Value} (he : Ext w w') (h : w.ownsRow base e sz v n xs) : w'.ownsRow base e sz v n xs := by
  refine ⟨h.1, ?_⟩
  rcases h.2 with hn | ⟨g, cap, cur, rfl, hb, hgg, rest⟩
  · exact .inl hn
  · exact .inr ⟨g, cap, cur, rfl, hb, he.obj hgg, rest⟩
theorem ownsRow_low {w : World} {base base' : Nat} {e : TypeId} {sz : Nat} {v : Value} {n : Nat} {xs : List Value} (hb : base' ≤ base) (h : w.ownsRow base e sz v n xs) : w.ownsRow base' e sz v n xs := by
  refine ⟨h.1, ?_⟩
  rcases h.2 with hn | ⟨g, cap, cur, rfl, hb', rest⟩
  · exact .inl hn
  · exact .inr ⟨g, cap, cur, rfl, Nat.le_trans hb hb', rest⟩
theorem ownsRow_form {w : World} {base : Nat} {e : TypeId} {sz : Nat} {v : Value} {n : Nat} {xs : List Value} (h : w.ownsRow base e sz v n xs) : ∃ oa cap, v = .slice oa n cap ∧ n ≤ cap ∧ cap ≤ maxLen ∧ (n ≠ 0 → oa.isSome = true) ∧ ∀ a, oa = some a → CellsAt w a xs := by
  rcases h.2 with ⟨rfl, rfl⟩ | ⟨g, cap, cur, rfl, hb, hgg, h1, h2, h3, h4⟩
  · exact ⟨none, 0, rfl, Nat.le_refl _, Nat.zero_le _, fun h => absurd rfl h, fun a ha => by cases ha⟩
  · exact ⟨_, cap, rfl, h1, h2, fun _ => rfl, fun a ha => by injection ha with ha; subst ha; exact fun j u hj => h.cells (g := g) rfl j u hj⟩
/-- It reads as a list. -/
theorem ownsRow_slr {α : Type} {enc : α → List Value} {w : World} {base : Nat} {e : TypeId} {sz : Nat} {v : Value} {xs : List α} (hsz : ∀ x, (enc x).length = sz) (h : w.ownsRow base e sz v xs.length (xs.flatMap enc)) : SlR sz (Flat enc) w v xs := by
  obtain ⟨oa, cap, rfl, h1, h2, h3, h4⟩ := ownsRow_form h
  refine ⟨oa, cap, rfl, h1, h2, fun hn => h3 (by intro e; exact hn (List.eq_nil_of_length_eq_zero e)), fun a ha i hi => ?_⟩
  intro j u hj
  have hjs : j < sz := by rw [← hsz xs[i]]; exact (List.getElem?_eq_some_iff.1 hj).1
  rw [add_add]
  exact h4 a ha _ _ (by rw [flat_at hsz xs i j hi hjs]; exact hj)
theorem K.appOwn {P : Program} {KK : Value → World → Prop} {w : World} {ty e : TypeId} {sz b : Nat} {s : Value} {a : Addr} {m c : Nat} {t} {base n : Nat} {xs news : List Value} (hs : w.ownsRow base e sz s n xs) (hc : CellsAt w a news) (hl : news.length = m * sz)
    (h1 : ∀ u ∈ news, u.oneCell' = true) (h63 : n + m ≤ maxLen) (hb : (n + m) * b ≤ 140737488355328) (hbase : base ≤ w.heap.size)
    (hk : ∀ v' w', w'.ownsRow base e sz v' (n + m) (xs ++ news) → w.grownBy w' s.ownBlock → KK v' w') : AppVCh P ty e sz b s (.slice (some a) m c) w KK t :=
  K.app fun ⟨ht, i, z, hi, hz, hsize, hby, hzs, hsz⟩ => by
    obtain ⟨v', w', hr, h2, h3, _⟩ := run_append_own (P := P) w base ty ty e i z sz b ht hi hz hsize hby hzs hsz s n xs hs a m c news hl hc h1 h63 hb hbase
    exact ⟨ty, v', w', hr, hk v' w' h2 h3⟩
theorem add_zero (a : Addr) : a.add 0 = a := by simp [Addr.add]
theorem SlR.cap {α : Type} {sz : Nat} {R : World → Addr → α → Prop} {w : World} {oa : Option Addr} {n c : Nat} {xs : List α} (h : SlR sz R w (.slice oa n c) xs) : xs.length ≤ c := by
  obtain ⟨oa', cap, e, h2, h3, h4, h5⟩ := h.ex
  injection e with e1 e2 e3
  subst e3
  exact h2
/-- The first k of a slice. -/
theorem SlR.take {α : Type} {sz : Nat} {R : World → Addr → α → Prop} {w : World} {oa : Option Addr} {n c : Nat} {xs : List α} (h : SlR sz R w (.slice oa n c) xs) (k : Nat) (hk : k ≤ xs.length) :
    SlR sz R w (.slice (if c = 0 then oa else oa.map (·.add (0 * sz))) (k - 0) (c - 0)) (xs.take k) := by
  obtain ⟨oa', cap, e, h2, h3, h4, h5⟩ := h.ex
  injection e with e1 e2 e3
  subst e1 e2 e3
  have e : (if c = 0 then oa else oa.map (·.add (0 * sz))) = oa := by
    split
    · rfl
    · cases oa with
      | none => rfl
      | some a => simp [add_zero]
  rw [e]
  refine ⟨oa, c, by simp [List.length_take, Nat.min_eq_left hk], by simp [List.length_take]; omega, h3, fun hn => h4 (by intro e; subst e; simp at hn), fun a ha i hi => ?_⟩
  have hi' : i < xs.length := by simp [List.length_take] at hi; omega
  rw [List.getElem_take]
  exact h5 a ha i hi'
/-- The cells of a whole slice. -/
theorem flat_get {α : Type} {enc : α → List Value} {sz : Nat} (hsz : ∀ x, (enc x).length = sz) : ∀ (xs : List α) (p : Nat) (v : Value), (xs.flatMap enc)[p]? = some v → ∃ i j, ∃ h : i < xs.length, j < sz ∧ p = i * sz + j ∧ (enc xs[i])[j]? = some v
  | [], p, v, h => by simp at h
  | x :: xs, p, v, h => by
    rw [List.flatMap_cons] at h
    by_cases hp : p < sz
    · rw [List.getElem?_append_left (by rw [hsz]; exact hp)] at h
      exact ⟨0, p, by simp, hp, by simp, h⟩
    · rw [List.getElem?_append_right (by rw [hsz]; omega), hsz] at h
      obtain ⟨i, j, hi, hj, e, h2⟩ := flat_get hsz xs (p - sz) v h
      exact ⟨i + 1, j, by simpa using hi, hj, by rw [Nat.add_mul]; omega, by simpa using h2⟩
theorem SlR.flat {α : Type} {enc : α → List Value} {sz : Nat} {R : World → Addr → α → Prop} {w : World} {a : Addr} {n c : Nat} {xs : List α} (hsz : ∀ x, (enc x).length = sz) (hR : ∀ a x, R w a x → CellsAt w a (enc x))
    (h : SlR sz R w (.slice (some a) n c) xs) : CellsAt w a (xs.flatMap enc) := by
  intro p v hp
  obtain ⟨i, j, hi, hj, rfl, h2⟩ := flat_get hsz xs p v hp
  have := hR _ _ (h.at i hi) j v h2
  rwa [add_add] at this
theorem flat_len {α : Type} {enc : α → List Value} {sz : Nat} (hsz : ∀ x, (enc x).length = sz) : ∀ (xs : List α), (xs.flatMap enc).length = xs.length * sz
  | [] => by simp
  | x :: xs => by rw [List.flatMap_cons, List.length_append, flat_len hsz xs, hsz, List.length_cons, Nat.add_mul]; omega
/-- A cut: what holds behind the first part. Slots that it does not write are as they were. -/
theorem K.cut {P : Program} {Q : LX → Fr → World → Prop} {S : Fr} {w : World} {a b : LC} {t} (N : Fr → World → Prop) (h1 : vch P a (thenQh N Q ⟨⟩) S w ⟨⟩)
    (h2 : ∀ S' w', (∀ t, a.dsts.contains t = false → S' t = S t) → N S' w' → vch P b Q S' w' ⟨⟩) : vch P (.seq a b) Q S w t := by
  unfold vch thenQh at *
  exact vc_keep a _ _ S w (fun e S' w' hs h => match e, h with | .normal, h => h2 S' w' hs h | .exit _, h => h | .ret, h => h) h1
theorem K.neb {P : Program} {t' : TypeId} {cx cy : Operand} {K3 : Value → Prop} {a b : Bool} {t} (h : P.underlying t' = some .bool) (hk : K3 (.bool (a != b))) : BinVCh P .neq t' cx cy (.bool a) (.bool b) K3 t :=
  K.bin (v := .bool (a != b)) (fun w => by cases a <;> cases b <;> simp [eqGuard_at_bool, binOp, run_equal_bool w t' _ _ h]) hk
theorem K.eqb {P : Program} {t' : TypeId} {cx cy : Operand} {K3 : Value → Prop} {a b : Bool} {t} (h : P.underlying t' = some .bool) (hk : K3 (.bool (a == b))) : BinVCh P .eql t' cx cy (.bool a) (.bool b) K3 t :=
  K.bin (v := .bool (a == b)) (fun w => by cases a <;> cases b <;> simp [eqGuard_at_bool, binOp, run_equal_bool w t' _ _ h]) hk
/-- An empty row, just made. -/
theorem ownsRow_empty {w : World} {base : Nat} {e : TypeId} {sz b : Nat} (hb : base ≤ b) (h : w.heap[b]? = some (.cells #[] e)) : w.ownsRow base e sz (.slice (some ⟨b, 0, none⟩) 0 0) 0 [] :=
  ⟨by simp, .inr ⟨b, 0, #[], rfl, hb, h, Nat.le_refl _, Nat.zero_le _, by simp, by simp⟩⟩
/-- A row reads as a list, each element by R. -/
theorem ownsRow_slR {α : Type} {enc : α → List Value} {R : World → Addr → α → Prop} {w : World} {base : Nat} {e : TypeId} {sz n : Nat} {v : Value} {xs : List α} (hsz : ∀ x, (enc x).length = sz) (hR : ∀ a x, x ∈ xs → CellsAt w a (enc x) → R w a x)
    (hn : n = xs.length) (h : w.ownsRow base e sz v n (xs.flatMap enc)) : SlR sz R w v xs := by
  subst hn
  obtain ⟨oa, cap, h1, h2, h3, h4, h5⟩ := (ownsRow_slr hsz h).ex
  exact ⟨oa, cap, h1, h2, h3, h4, fun a ha i hi => hR _ _ (List.getElem_mem _) (h5 a ha i hi)⟩
end Lite
