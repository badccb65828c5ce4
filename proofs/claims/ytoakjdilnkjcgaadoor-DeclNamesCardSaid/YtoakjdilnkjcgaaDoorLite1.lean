/- Lite, part 1: resolved instructions, what each asks (a formula), and that this is enough. Program-independent; plain theorems. -/
import Derived.WalkKit
import Derived.BigQuiet
set_option linter.all false
set_option maxRecDepth 4000
namespace Lite
open Go Go.RowKit

/-! ### Worlds -/
/-- All that was there is there still, unchanged. -/
def Ext (w w' : World) : Prop := Below w.heap.size w w'
theorem Ext.refl (w : World) : Ext w w := Below.refl _ _
theorem Ext.size {w w' : World} (h : Ext w w') : w.heap.size ≤ w'.heap.size := Below.size h
theorem Ext.trans {a b c : World} (h : Ext a b) (k : Ext b c) : Ext a c := Below.trans h (Below.mono k h.size)
theorem Ext.alloc {a w : World} (h : Ext a w) (o : Obj) : Ext a (w.alloc o) := Below.alloc h h.size o
theorem Ext.drew {a w : World} (h : Ext a w) : Ext a w.drew := Below.drew h
theorem Ext.setCell {a w : World} (h : Ext a w) {p : Addr} (hp : a.heap.size ≤ p.block) (u : Value) : Ext a (w.setCell p u) := Below.setCell h hp u
theorem Ext.heap {w w' : World} (h : Ext w w') {k : Nat} (hk : k < w.heap.size) : w'.heap[k]? = w.heap[k]? := Below.block h k hk
theorem Ext.obj {w w' : World} (h : Ext w w') {k : Nat} {o : Obj} (hk : w.heap[k]? = some o) : w'.heap[k]? = some o := by
  have hlt : k < w.heap.size := by
    rcases Nat.lt_or_ge k w.heap.size with h' | h'
    · exact h'
    · simp [Array.getElem?_eq_none h'] at hk
  rw [h.heap hlt, hk]
theorem Ext.cell {w w' : World} (h : Ext w w') {a : Addr} {v : Value} (hc : w.cell? a = some v) : w'.cell? a = some v := by
  rw [Below.cell h (World.block_lt_of_cell? w a hc), hc]
/-- A whole object put in place of one of the call's own. -/
def setO (w : World) (r : Nat) (o : Obj) : World := { w with heap := w.heap.setIfInBounds r o }
theorem setO_size (w : World) (r : Nat) (o : Obj) : (setO w r o).heap.size = w.heap.size := by simp [setO]
theorem setO_same {w : World} {r : Nat} {o : Obj} (h : r < w.heap.size) : (setO w r o).heap[r]? = some o := by
  simp [setO, h]
theorem setO_ne {w : World} {r k : Nat} {o : Obj} (h : k ≠ r) : (setO w r o).heap[k]? = w.heap[k]? := by
  simp [setO, Ne.symm h]
theorem Ext.setO {a w : World} (h : Ext a w) {r : Nat} (hr : a.heap.size ≤ r) (o : Obj) : Ext a (setO w r o) :=
  ⟨h.os, h.tape, h.output, by rw [setO_size]; exact h.size, fun k hk => by rw [setO_ne (by omega)]; exact h.heap hk⟩
theorem heap_alloc_new (w : World) (o : Obj) : (w.alloc o).heap[w.heap.size]? = some o := Go.heap_alloc_new w o
theorem heap_alloc_old {w : World} {o o' : Obj} {k : Nat} (h : w.heap[k]? = some o') : (w.alloc o).heap[k]? = some o' := (Ext.refl w).alloc o |>.obj h
theorem lt_of_heap {w : World} {k : Nat} {o : Obj} (hk : w.heap[k]? = some o) : k < w.heap.size := by
  rcases Nat.lt_or_ge k w.heap.size with h' | h'
  · exact h'
  · simp [Array.getElem?_eq_none h'] at hk
theorem add_eq (b o n : Nat) : Addr.add ⟨b, o, none⟩ n = ⟨b, o + n, none⟩ := by
  unfold Addr.add; split <;> simp_all
theorem add_add (a : Addr) (i j : Nat) : (a.add i).add j = a.add (i + j) := by
  unfold Addr.add
  by_cases hi : i = 0 <;> by_cases hj : j = 0 <;> simp [hi, hj, Nat.add_assoc]
/-- A cell of a block that is known whole. -/
theorem cell_blk {w : World} {b j : Nat} {c : Array Value} {t : TypeId} {f : Nat × Nat} {v : Value} (h : w.heap[b]? = some (.cells c t f)) (hj : c[j]? = some v) : w.cell? (Addr.add ⟨b, 0, none⟩ j) = some v := by
  rw [add_eq]; simp [World.cell?, h, hj]
theorem cell_blk0 {w : World} {b : Nat} {c : Array Value} {t : TypeId} {f : Nat × Nat} {v : Value} (h : w.heap[b]? = some (.cells c t f)) (hj : c[0]? = some v) : w.cell? ⟨b, 0, none⟩ = some v := by
  simp [World.cell?, h, hj]

/-! ### Frames -/
abbrev Fr := Nat → Value
def upd (S : Fr) (d : Nat) (v : Value) : Fr := fun t => if t = d then v else S t
theorem upd_at (S : Fr) (d t : Nat) (v : Value) : upd S d v t = if t = d then v else S t := eq_of_heq (HEq.refl _)
def put (S : Fr) : Option Nat → Value → Fr
  | some d, v => upd S d v
  | none, _ => S
theorem put_some (S : Fr) (d : Nat) (v : Value) : put S (some d) v = upd S d v := eq_of_heq (HEq.refl _)
theorem put_none (S : Fr) (v : Value) : put S none v = S := eq_of_heq (HEq.refl _)
def ev (S : Fr) : Operand → Value
  | .tmp t => S t
  | .const v => v
  | .global g => .pointer (some ⟨g, 0, none⟩)
  | .func f => .func (.func f) #[] #[]
theorem ev_tmp (S : Fr) (t : Nat) : ev S (.tmp t) = S t := eq_of_heq (HEq.refl _)
theorem ev_const (S : Fr) (v : Value) : ev S (.const v) = v := eq_of_heq (HEq.refl _)
theorem ev_global (S : Fr) (g : Nat) : ev S (.global g) = .pointer (some ⟨g, 0, none⟩) := eq_of_heq (HEq.refl _)
theorem ev_func (S : Fr) (f : Nat) : ev S (.func f) = .func (.func f) #[] #[] := eq_of_heq (HEq.refl _)
/-- The frame at the call's begin. -/
def fr0 : List Value → Nat → Fr
  | [], _ => fun _ => undef
  | v :: vs, k => upd (fr0 vs (k + 1)) k v
theorem fr0_nil (k : Nat) : fr0 [] k = fun _ => undef := eq_of_heq (HEq.refl _)
theorem fr0_cons (v : Value) (vs : List Value) (k : Nat) : fr0 (v :: vs) k = upd (fr0 vs (k + 1)) k v := eq_of_heq (HEq.refl _)
theorem upd_self (S : Fr) (d : Nat) (v : Value) (h : S d = v) : upd S d v = S := by
  funext t; unfold upd; split
  · subst_vars; rfl
  · rfl

/-! ### Contracts -/
/-- The call returns. -/
def Ret (P : Program) (f : FuncId) (args : Array Value) (w : World) (R : Value → World → Prop) : Prop :=
  Calls P f args w fun e w' => ∃ v, e = .returned v ∧ R v w'
theorem Ret.mono {P : Program} {f : FuncId} {args : Array Value} {w : World} {R R' : Value → World → Prop} (h : Ret P f args w R) (k : ∀ v w', R v w' → R' v w') : Ret P f args w R' :=
  Calls.mono h fun _ _ ⟨v, he, hr⟩ => ⟨v, he, k v _ hr⟩

/-! ### What instructions ask -/
/-- A test: both ways, the slot's Bool written out. -/
def CondVC (v : Value) (A B : Prop) : Prop := ∃ t, v = .bool t ∧ (t = true → A) ∧ (t = false → B)
theorem cd_true (A B : Prop) : CondVC (.bool true) A B = A := by simp [CondVC]
theorem cd_false (A B : Prop) : CondVC (.bool false) A B = B := by simp [CondVC]
theorem cd_dec {p : Prop} [Decidable p] {A B : Prop} (h1 : p → A) (h2 : ¬ p → B) : CondVC (.bool (decide p)) A B :=
  ⟨_, rfl, fun h => h1 (of_decide_eq_true h), fun h => h2 (of_decide_eq_false h)⟩
theorem cd_bool {t : Bool} {A B : Prop} (h1 : t = true → A) (h2 : t = false → B) : CondVC (.bool t) A B := ⟨_, rfl, h1, h2⟩
theorem cd_not (t : Bool) (A B : Prop) : CondVC (.bool (!t)) A B = CondVC (.bool t) B A := by cases t <;> simp [CondVC]
theorem cd_beq {α : Type} [BEq α] [LawfulBEq α] {x y : α} {A B : Prop} (h1 : x = y → A) (h2 : x ≠ y → B) : CondVC (.bool (x == y)) A B :=
  ⟨_, rfl, fun h => h1 (eq_of_beq h), fun h => h2 (by simpa using h)⟩
theorem cd_bne {α : Type} [BEq α] [LawfulBEq α] {x y : α} {A B : Prop} (h1 : x ≠ y → A) (h2 : x = y → B) : CondVC (.bool (x != y)) A B :=
  ⟨_, rfl, fun h => h1 (by simpa using h), fun h => h2 (by simpa using h)⟩

/-- A sum that should fit. -/
def WrapVC (k : IntKind) (n : Int) (K : Value → Prop) : Prop := K (.int k (k.wrap n))
theorem wrap_raw {k : IntKind} {n : Int} {K : Value → Prop} (h : K (.int k (k.wrap n))) : WrapVC k n K := h
theorem wrap_i64 {n : Int} {K : Value → Prop} (h : -9223372036854775808 ≤ n ∧ n ≤ 9223372036854775807) (hk : K (.int .i64 n)) : WrapVC .i64 n K := by
  unfold WrapVC; rw [IntWalk.i64_in n h]; exact hk

/-- Two operands. -/
def BinVC (P : Program) (op : BinOp) (t : TypeId) (cx cy : Operand) (x y : Value) (K : Value → Prop) : Prop :=
  ∃ v, (∀ w, (do eqGuard op t cx cy x y; binOp op t x y : Sem Value).run P w = .ok v w) ∧ K v
theorem bin_of {P : Program} {op : BinOp} {t : TypeId} {cx cy : Operand} {x y : Value} {K : Value → Prop} {v : Value}
    (h : ∀ w, (do eqGuard op t cx cy x y; binOp op t x y : Sem Value).run P w = .ok v w) : BinVC P op t cx cy x y K = K v := by
  apply propext
  constructor
  · rintro ⟨u, hu, hk⟩
    have h1 := hu default
    rw [h default] at h1
    injection h1 with h1 _
    rw [h1]; exact hk
  · exact fun hk => ⟨v, h, hk⟩
section
variable {P : Program} {t : TypeId} {cx cy : Operand} {K : Value → Prop}
theorem bin_lss (k : IntKind) (a b : Int) : BinVC P .lss t cx cy (.int k a) (.int k b) K = K (.bool (decide (a < b))) := bin_of fun w => by simp [go_sem]
theorem bin_leq (k : IntKind) (a b : Int) : BinVC P .leq t cx cy (.int k a) (.int k b) K = K (.bool (decide (a ≤ b))) := bin_of fun w => by simp [go_sem]
theorem bin_gtr (k : IntKind) (a b : Int) : BinVC P .gtr t cx cy (.int k a) (.int k b) K = K (.bool (decide (b < a))) := bin_of fun w => by simp [go_sem]
theorem bin_geq (k : IntKind) (a b : Int) : BinVC P .geq t cx cy (.int k a) (.int k b) K = K (.bool (decide (b ≤ a))) := bin_of fun w => by simp [go_sem]
theorem bin_eql (k : IntKind) (a b : Int) : BinVC P .eql t cx cy (.int k a) (.int k b) K = K (.bool (decide (a = b))) := bin_of fun w => by simp [go_sem]; rfl
theorem bin_neq (k : IntKind) (a b : Int) : BinVC P .neq t cx cy (.int k a) (.int k b) K = K (.bool (decide (a ≠ b))) := bin_of fun w => by
  simp [go_sem]; by_cases h : a = b <;> simp [h]
theorem bin_add (k : IntKind) (a b : Int) : BinVC P .add t cx cy (.int k a) (.int k b) K = WrapVC k (a + b) K := bin_of (v := .int k (k.wrap (a + b))) fun w => by simp [eqGuard_add, binOp_add, Op.intArith]
theorem bin_sub (k : IntKind) (a b : Int) : BinVC P .sub t cx cy (.int k a) (.int k b) K = WrapVC k (a - b) K := bin_of (v := .int k (k.wrap (a - b))) fun w => by simp [eqGuard_sub, binOp_sub, Op.intArith]
theorem bin_mul (k : IntKind) (a b : Int) : BinVC P .mul t cx cy (.int k a) (.int k b) K = WrapVC k (a * b) K := bin_of (v := .int k (k.wrap (a * b))) fun w => by simp [eqGuard_mul, binOp_mul, Op.intArith]
def DivVC (op : BinOp) (k : IntKind) (a b : Int) (K : Value → Prop) : Prop := b ≠ 0 ∧ (match op with | .quo => WrapVC k (a.tdiv b) K | _ => K (.int k (a.tmod b)))
theorem bin_quo {k : IntKind} {a b : Int} (hb : b ≠ 0) (h : WrapVC k (a.tdiv b) K) : BinVC P .quo t cx cy (.int k a) (.int k b) K := by
  rw [bin_of (v := .int k (k.wrap (a.tdiv b))) fun w => by simp [eqGuard_quo, binOp_quo, Op.intDiv, hb]]; exact h
theorem bin_rem {k : IntKind} {a b : Int} (hb : b ≠ 0) (h : K (.int k (a.tmod b))) : BinVC P .rem t cx cy (.int k a) (.int k b) K := by
  rw [bin_of (v := .int k (a.tmod b)) fun w => by simp [eqGuard_rem, binOp_rem, Op.intDiv, hb]]; exact h
theorem bin_seq (a b : ByteArray) : BinVC P .eql t cx cy (.string a) (.string b) K = K (.bool (decide (a = b))) := bin_of fun w => by
  have e : (a.toList == b.toList) = decide (a = b) := by
    by_cases h : a = b
    · simp [h]
    · have : a.toList ≠ b.toList := fun h' => h (by
        have e1 : a.data.toList = b.data.toList := by simpa [ByteArray.toList_eq] using h'
        cases a; cases b; simp at e1; simp [e1])
      simp [h, this]
  simp [eqGuard_at_string, binOp, Op.stringOp, e]
theorem bin_sne (a b : ByteArray) : BinVC P .neq t cx cy (.string a) (.string b) K = K (.bool (decide (a ≠ b))) := bin_of fun w => by
  have e : (a.toList == b.toList) = decide (a = b) := by
    by_cases h : a = b
    · simp [h]
    · have : a.toList ≠ b.toList := fun h' => h (by
        have e1 : a.data.toList = b.data.toList := by simpa [ByteArray.toList_eq] using h'
        cases a; cases b; simp at e1; simp [e1])
      simp [h, this]
  simp [eqGuard_at_string, binOp, Op.stringOp, e]
end
end Lite
