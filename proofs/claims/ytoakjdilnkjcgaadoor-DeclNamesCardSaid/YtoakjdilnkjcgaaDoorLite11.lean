/- Lite, part 11: more on rows of one's own. -/
import Derived.Test.YtoakjdilnkjcgaaDoorLite10
set_option linter.all false
namespace Lite
open Go Go.RowKit
section
variable {P : Program} {KK : Value → World → Prop} {α : Type} {enc : α → List Value} {e : TypeId} {sz base base' : Nat} {w : World} {s x : Value} {xs ys : List α}
/-- One row of one's own is put behind another. -/
theorem K.appS {ty : TypeId} {b : Nat} {t} (hs : OwR enc e sz base w s xs) (hx : OwR enc e sz base' w x ys) (hsz : ∀ x, (enc x).length = sz) (h1 : ∀ y, ∀ u ∈ enc y, u.oneCell' = true) (hb : (xs.length + ys.length) * b ≤ 140737488355328)
    (h63 : xs.length + ys.length ≤ maxLen) (hbase : base ≤ w.heap.size) (hk : ∀ v' w', OwR enc e sz base w' v' (xs ++ ys) → w.grownBy w' s.ownBlock → KK v' w') : AppVCh P ty e sz b s x w KK t := by
  rcases hx.2 with ⟨rfl, h0⟩ | ⟨g, cap, cur, rfl, hbg, hg, h3, h4, h5, h6⟩
  · have : ys = [] := List.eq_nil_of_length_eq_zero h0
    subst this
    rw [List.append_nil] at hk
    refine K.app fun ⟨ht, i, z, hi, hz, hsize, hby, hzs, hsz'⟩ => ?_
    exact ⟨ty, s, w, run_append_owned_none w base ty ty e i sz ht hi s _ _ hs, hk s w hs ⟨rfl, rfl, rfl, Nat.le_refl _, fun _ _ _ => rfl⟩⟩
  · exact K.appO hs hsz (fun j u hj => World.ownsRow.cells hx (g := g) rfl j u hj) rfl h1 hb h63 hbase hk
/-- A list that lies anywhere is put behind a row of one's own. -/
theorem K.appE {R : World → Addr → α → Prop} [Cel R enc] {ty : TypeId} {b : Nat} {a : Addr} {m c : Nat} {t} (hs : OwR enc e sz base w s xs) (hx : SlR sz R w (.slice (some a) m c) ys) (hsz : ∀ x, (enc x).length = sz) (h1 : ∀ y, ∀ u ∈ enc y, u.oneCell' = true)
    (hb : (xs.length + ys.length) * b ≤ 140737488355328) (h63 : xs.length + ys.length ≤ maxLen) (hbase : base ≤ w.heap.size) (hk : ∀ v' w', OwR enc e sz base w' v' (xs ++ ys) → w.grownBy w' s.ownBlock → KK v' w') : AppVCh P ty e sz b s (.slice (some a) m c) w KK t :=
  K.appO hs hsz (SlR.flat (enc := enc) hsz (fun a x h => Cel.cel _ a x h) hx) hx.len.1 h1 hb h63 hbase hk
theorem OwR.empty {b : Nat} (hb : base ≤ b) (h : w.heap[b]? = some (.cells #[] e)) : OwR enc e sz base w (.slice (some ⟨b, 0, none⟩) 0 0) ([] : List α) := ownsRow_empty hb h
theorem OwR.low {v : Value} (hb : base' ≤ base) (h : OwR enc e sz base w v xs) : OwR enc e sz base' w v xs := ownsRow_low hb h
end
end Lite
