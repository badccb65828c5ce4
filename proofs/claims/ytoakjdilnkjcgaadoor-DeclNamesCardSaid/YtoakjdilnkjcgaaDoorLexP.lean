/- Plain facts on names: letters, digits, runs. No program in sight. -/
import Derived.Test.YtoakjdilnkjcgaaDoorLite7
import Derived.Lib.RuneCount
import Derived.Lib.TrimU
set_option linter.all false
namespace Abs
open Go
def letter (n : Int) : Bool := decide (97 ≤ n ∧ n ≤ 122 ∨ 65 ≤ n ∧ n ≤ 90)
def digit (n : Int) : Bool := decide (48 ≤ n ∧ n ≤ 57)
def part (n : Int) : Bool := letter n || digit n || decide (n = 95)
def byteAt (s : ByteArray) (i : Nat) : Nat := (s.get! i).toNat
/-- How many bytes from the beginning on are of a kind. -/
def run (p : Int → Bool) (s : ByteArray) : Nat := (s.data.toList.takeWhile fun b => p b.toNat).length
theorem take_run {α : Type} (p : α → Bool) : ∀ (l : List α) (n : Nat) (h : n < l.length), (∀ j (hj : j < n), p (l[j]'(by omega)) = true) → p l[n] = false → (l.takeWhile p).length = n
  | [], n, h, _, _ => by simp at h
  | x :: l, 0, h, _, h2 => by simp at h2; simp [h2]
  | x :: l, n + 1, h, h1, h2 => by
    have hx : p x = true := h1 0 (by omega)
    rw [List.takeWhile_cons, if_pos hx, List.length_cons, take_run p l n (by simpa using h) (fun j hj => h1 (j + 1) (by omega)) (by simpa using h2)]
theorem take_all {α : Type} (p : α → Bool) : ∀ (l : List α) (_ : ∀ j (hj : j < l.length), p l[j] = true), (l.takeWhile p).length = l.length
  | [], _ => rfl
  | x :: l, h => by
    have hx : p x = true := h 0 (by simp)
    rw [List.takeWhile_cons, if_pos hx, List.length_cons, take_all p l (fun j hj => h (j + 1) (by simpa using hj)), List.length_cons]
theorem run_stop (p : Int → Bool) (s : ByteArray) (n : Nat) (h : n < s.size) (h1 : ∀ j (hj : j < n), p (s[j]'(by omega)).toNat = true) (h2 : p s[n].toNat = false) : run p s = n :=
  take_run (fun b : UInt8 => p b.toNat) s.data.toList n (by simpa using h) (fun j hj => h1 j hj) h2
theorem run_all (p : Int → Bool) (s : ByteArray) (h : ∀ j (hj : j < s.size), p s[j].toNat = true) : run p s = s.size := by
  have := take_all (fun b : UInt8 => p b.toNat) s.data.toList (fun j hj => h j (by simpa using hj))
  rw [run, this]; simp
theorem decode_part {p : Int → Bool} (hp : ∀ r : Int, 128 ≤ r → p r = false) (s : ByteArray) (pos : Nat) (h : pos < s.size) :
    p (Utf8.decode s pos).1 = p s[pos].toNat ∧ (p s[pos].toNat = true → (Utf8.decode s pos).2 = 1) := by
  by_cases ha : s[pos].toNat < 128
  · rw [decode_ascii s pos h ha]; exact ⟨rfl, fun _ => rfl⟩
  · have h1 := decode_high s pos h (by omega)
    rw [hp _ (by omega), hp _ (by omega)]
    exact ⟨rfl, fun h => by simp at h⟩
theorem letter_high (r : Int) (h : 128 ≤ r) : letter r = false := by simp [letter]; omega
theorem digit_high (r : Int) (h : 128 ≤ r) : digit r = false := by simp [digit]; omega
theorem part_high (r : Int) (h : 128 ≤ r) : part r = false := by simp [part, letter_high r h, digit_high r h]; omega
instance instLawfulBytes : LawfulBEq ByteArray where
  eq_of_beq {a b} h := by rw [Lite.ba_beq] at h; exact of_decide_eq_true h
  rfl {a} := by rw [Lite.ba_beq]; exact decide_eq_true rfl
def ownL : List ByteArray := [⟨#[115, 101, 108, 102]⟩, ⟨#[110, 111, 110, 101]⟩, ⟨#[108, 101, 110]⟩, ⟨#[97, 116]⟩]
def isName (s : ByteArray) : Bool := decide (s.size ≠ 0) && decide (s.size ≤ 16) && letter (byteAt s 0) && decide (run part s = s.size) && !decide (s ∈ ownL)
theorem run_le (p : Int → Bool) (s : ByteArray) : run p s ≤ s.size := by
  have := (List.takeWhile_sublist (fun b : UInt8 => p b.toNat) (l := s.data.toList)).length_le
  simpa [run] using this
theorem get_eq (s : ByteArray) (i : Nat) (h : i < s.size) : s.get! i = s[i] := by
  obtain ⟨d⟩ := s
  show d[i]! = d[i]
  exact getElem!_pos d i h
theorem get?_eq (s : ByteArray) (i : Nat) (h : i < s.size) : s[i]? = some (s.get! i) := by rw [get_eq s i h]; exact getElem?_pos s i h
end Abs
