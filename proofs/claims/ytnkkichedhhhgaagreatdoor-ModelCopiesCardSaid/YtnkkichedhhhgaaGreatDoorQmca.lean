/- Texts joined: Lite1 Lite2 Lite3 Lite4 LiteW. -/
import Derived.WalkKit
import Derived.BigQuiet
import Derived.OrdersHeld
import Derived.OrdersIn
set_option linter.all false
section
/- Lite, part 1: resolved instructions, what each asks (a formula), and that this is enough. Program-independent; plain theorems. -/
set_option maxRecDepth 4000
namespace Lite
open Go Go.RowKit

/-! ### Worlds -/
/-- All that was there is there still, unchanged. -/
def Ext (w w' : World) : Prop := Below w.heap.size w w'
theorem Ext.refl (w : World) : Ext w w := Below.refl _ _
theorem Ext.size {w w' : World} (h : Ext w w') : w.heap.size ≤ w'.heap.size := Below.size h
theorem Ext.trans {a b c : World} (h : Ext a b) (k : Ext b c) : Ext a c := Below.trans h (Below.mono k h.size)
theorem Ext.alloc {a w : World} (h : Ext a w) (o : Obj) : Ext a (w.alloc o) := Below.alloc h h.size o
theorem Ext.drew {a w : World} (h : Ext a w) : Ext a w.drew := Below.drew h
theorem Ext.setCell {a w : World} (h : Ext a w) {p : Addr} (hp : a.heap.size ≤ p.block) (u : Value) : Ext a (w.setCell p u) := Below.setCell h hp u
theorem Ext.heap {w w' : World} (h : Ext w w') {k : Nat} (hk : k < w.heap.size) : w'.heap[k]? = w.heap[k]? := Below.block h k hk
theorem Ext.obj {w w' : World} (h : Ext w w') {k : Nat} {o : Obj} (hk : w.heap[k]? = some o) : w'.heap[k]? = some o := by
  have hlt : k < w.heap.size := by
    rcases Nat.lt_or_ge k w.heap.size with h' | h'
    · exact h'
    · simp [Array.getElem?_eq_none h'] at hk
  rw [h.heap hlt, hk]
theorem Ext.cell {w w' : World} (h : Ext w w') {a : Addr} {v : Value} (hc : w.cell? a = some v) : w'.cell? a = some v := by
  rw [Below.cell h (World.block_lt_of_cell? w a hc), hc]
/-- A whole object put in place of one of the call's own. -/
def setO (w : World) (r : Nat) (o : Obj) : World := { w with heap := w.heap.setIfInBounds r o }
theorem setO_size (w : World) (r : Nat) (o : Obj) : (setO w r o).heap.size = w.heap.size := by simp [setO]
theorem setO_same {w : World} {r : Nat} {o : Obj} (h : r < w.heap.size) : (setO w r o).heap[r]? = some o := by
  simp [setO, h]
theorem setO_ne {w : World} {r k : Nat} {o : Obj} (h : k ≠ r) : (setO w r o).heap[k]? = w.heap[k]? := by
  simp [setO, Ne.symm h]
theorem Ext.setO {a w : World} (h : Ext a w) {r : Nat} (hr : a.heap.size ≤ r) (o : Obj) : Ext a (setO w r o) :=
  ⟨h.os, h.tape, h.output, by rw [setO_size]; exact h.size, fun k hk => by rw [setO_ne (by omega)]; exact h.heap hk⟩
theorem heap_alloc_new (w : World) (o : Obj) : (w.alloc o).heap[w.heap.size]? = some o := Go.heap_alloc_new w o
theorem heap_alloc_old {w : World} {o o' : Obj} {k : Nat} (h : w.heap[k]? = some o') : (w.alloc o).heap[k]? = some o' := (Ext.refl w).alloc o |>.obj h
theorem lt_of_heap {w : World} {k : Nat} {o : Obj} (hk : w.heap[k]? = some o) : k < w.heap.size := by
  rcases Nat.lt_or_ge k w.heap.size with h' | h'
  · exact h'
  · simp [Array.getElem?_eq_none h'] at hk
theorem add_eq (b o n : Nat) : Addr.add ⟨b, o, none⟩ n = ⟨b, o + n, none⟩ := by
  unfold Addr.add; split <;> simp_all
theorem add_add (a : Addr) (i j : Nat) : (a.add i).add j = a.add (i + j) := by
  unfold Addr.add
  by_cases hi : i = 0 <;> by_cases hj : j = 0 <;> simp [hi, hj, Nat.add_assoc]
/-- A cell of a block that is known whole. -/
theorem cell_blk {w : World} {b j : Nat} {c : Array Value} {t : TypeId} {f : Nat × Nat} {v : Value} (h : w.heap[b]? = some (.cells c t f)) (hj : c[j]? = some v) : w.cell? (Addr.add ⟨b, 0, none⟩ j) = some v := by
  rw [add_eq]; simp [World.cell?, h, hj]
theorem cell_blk0 {w : World} {b : Nat} {c : Array Value} {t : TypeId} {f : Nat × Nat} {v : Value} (h : w.heap[b]? = some (.cells c t f)) (hj : c[0]? = some v) : w.cell? ⟨b, 0, none⟩ = some v := by
  simp [World.cell?, h, hj]

/-! ### Frames -/
abbrev Fr := Nat → Value
def upd (S : Fr) (d : Nat) (v : Value) : Fr := fun t => if t = d then v else S t
theorem upd_at (S : Fr) (d t : Nat) (v : Value) : upd S d v t = if t = d then v else S t := eq_of_heq (HEq.refl _)
def put (S : Fr) : Option Nat → Value → Fr
  | some d, v => upd S d v
  | none, _ => S
theorem put_some (S : Fr) (d : Nat) (v : Value) : put S (some d) v = upd S d v := eq_of_heq (HEq.refl _)
theorem put_none (S : Fr) (v : Value) : put S none v = S := eq_of_heq (HEq.refl _)
def ev (S : Fr) : Operand → Value
  | .tmp t => S t
  | .const v => v
  | .global g => .pointer (some ⟨g, 0, none⟩)
  | .func f => .func (.func f) #[] #[]
theorem ev_tmp (S : Fr) (t : Nat) : ev S (.tmp t) = S t := eq_of_heq (HEq.refl _)
theorem ev_const (S : Fr) (v : Value) : ev S (.const v) = v := eq_of_heq (HEq.refl _)
theorem ev_global (S : Fr) (g : Nat) : ev S (.global g) = .pointer (some ⟨g, 0, none⟩) := eq_of_heq (HEq.refl _)
theorem ev_func (S : Fr) (f : Nat) : ev S (.func f) = .func (.func f) #[] #[] := eq_of_heq (HEq.refl _)
/-- The frame at the call's begin. -/
def fr0 : List Value → Nat → Fr
  | [], _ => fun _ => undef
  | v :: vs, k => upd (fr0 vs (k + 1)) k v
theorem fr0_nil (k : Nat) : fr0 [] k = fun _ => undef := eq_of_heq (HEq.refl _)
theorem fr0_cons (v : Value) (vs : List Value) (k : Nat) : fr0 (v :: vs) k = upd (fr0 vs (k + 1)) k v := eq_of_heq (HEq.refl _)
theorem upd_self (S : Fr) (d : Nat) (v : Value) (h : S d = v) : upd S d v = S := by
  funext t; unfold upd; split
  · subst_vars; rfl
  · rfl

/-! ### Contracts -/
/-- The call returns. -/
def Ret (P : Program) (f : FuncId) (args : Array Value) (w : World) (R : Value → World → Prop) : Prop :=
  Calls P f args w fun e w' => ∃ v, e = .returned v ∧ R v w'
theorem Ret.mono {P : Program} {f : FuncId} {args : Array Value} {w : World} {R R' : Value → World → Prop} (h : Ret P f args w R) (k : ∀ v w', R v w' → R' v w') : Ret P f args w R' :=
  Calls.mono h fun _ _ ⟨v, he, hr⟩ => ⟨v, he, k v _ hr⟩

/-! ### What instructions ask -/
/-- A test: both ways, the slot's Bool written out. -/
def CondVC (v : Value) (A B : Prop) : Prop := ∃ t, v = .bool t ∧ (t = true → A) ∧ (t = false → B)
theorem cd_true (A B : Prop) : CondVC (.bool true) A B = A := by simp [CondVC]
theorem cd_false (A B : Prop) : CondVC (.bool false) A B = B := by simp [CondVC]
theorem cd_dec {p : Prop} [Decidable p] {A B : Prop} (h1 : p → A) (h2 : ¬ p → B) : CondVC (.bool (decide p)) A B :=
  ⟨_, rfl, fun h => h1 (of_decide_eq_true h), fun h => h2 (of_decide_eq_false h)⟩
theorem cd_bool {t : Bool} {A B : Prop} (h1 : t = true → A) (h2 : t = false → B) : CondVC (.bool t) A B := ⟨_, rfl, h1, h2⟩
theorem cd_not (t : Bool) (A B : Prop) : CondVC (.bool (!t)) A B = CondVC (.bool t) B A := by cases t <;> simp [CondVC]
/-- A sum that should fit. -/
def WrapVC (k : IntKind) (n : Int) (K : Value → Prop) : Prop := K (.int k (k.wrap n))
theorem wrap_raw {k : IntKind} {n : Int} {K : Value → Prop} (h : K (.int k (k.wrap n))) : WrapVC k n K := h
theorem wrap_i64 {n : Int} {K : Value → Prop} (h : -9223372036854775808 ≤ n ∧ n ≤ 9223372036854775807) (hk : K (.int .i64 n)) : WrapVC .i64 n K := by
  unfold WrapVC; rw [IntWalk.i64_in n h]; exact hk

/-- Two operands. -/
def BinVC (P : Program) (op : BinOp) (t : TypeId) (cx cy : Operand) (x y : Value) (K : Value → Prop) : Prop :=
  ∃ v, (∀ w, (do eqGuard op t cx cy x y; binOp op t x y : Sem Value).run P w = .ok v w) ∧ K v
theorem bin_of {P : Program} {op : BinOp} {t : TypeId} {cx cy : Operand} {x y : Value} {K : Value → Prop} {v : Value}
    (h : ∀ w, (do eqGuard op t cx cy x y; binOp op t x y : Sem Value).run P w = .ok v w) : BinVC P op t cx cy x y K = K v := by
  apply propext
  constructor
  · rintro ⟨u, hu, hk⟩
    have h1 := hu default
    rw [h default] at h1
    injection h1 with h1 _
    rw [h1]; exact hk
  · exact fun hk => ⟨v, h, hk⟩
section
variable {P : Program} {t : TypeId} {cx cy : Operand} {K : Value → Prop}
theorem bin_lss (k : IntKind) (a b : Int) : BinVC P .lss t cx cy (.int k a) (.int k b) K = K (.bool (decide (a < b))) := bin_of fun w => by simp [go_sem]
theorem bin_leq (k : IntKind) (a b : Int) : BinVC P .leq t cx cy (.int k a) (.int k b) K = K (.bool (decide (a ≤ b))) := bin_of fun w => by simp [go_sem]
theorem bin_gtr (k : IntKind) (a b : Int) : BinVC P .gtr t cx cy (.int k a) (.int k b) K = K (.bool (decide (b < a))) := bin_of fun w => by simp [go_sem]
theorem bin_geq (k : IntKind) (a b : Int) : BinVC P .geq t cx cy (.int k a) (.int k b) K = K (.bool (decide (b ≤ a))) := bin_of fun w => by simp [go_sem]
theorem bin_eql (k : IntKind) (a b : Int) : BinVC P .eql t cx cy (.int k a) (.int k b) K = K (.bool (decide (a = b))) := bin_of fun w => by simp [go_sem]; rfl
theorem bin_neq (k : IntKind) (a b : Int) : BinVC P .neq t cx cy (.int k a) (.int k b) K = K (.bool (decide (a ≠ b))) := bin_of fun w => by
  simp [go_sem]; by_cases h : a = b <;> simp [h]
theorem bin_add (k : IntKind) (a b : Int) : BinVC P .add t cx cy (.int k a) (.int k b) K = WrapVC k (a + b) K := bin_of (v := .int k (k.wrap (a + b))) fun w => by simp [eqGuard_add, binOp_add, Op.intArith]
theorem bin_sub (k : IntKind) (a b : Int) : BinVC P .sub t cx cy (.int k a) (.int k b) K = WrapVC k (a - b) K := bin_of (v := .int k (k.wrap (a - b))) fun w => by simp [eqGuard_sub, binOp_sub, Op.intArith]
theorem bin_mul (k : IntKind) (a b : Int) : BinVC P .mul t cx cy (.int k a) (.int k b) K = WrapVC k (a * b) K := bin_of (v := .int k (k.wrap (a * b))) fun w => by simp [eqGuard_mul, binOp_mul, Op.intArith]
theorem bin_quo {k : IntKind} {a b : Int} (hb : b ≠ 0) (h : WrapVC k (a.tdiv b) K) : BinVC P .quo t cx cy (.int k a) (.int k b) K := by
  rw [bin_of (v := .int k (k.wrap (a.tdiv b))) fun w => by simp [eqGuard_quo, binOp_quo, Op.intDiv, hb]]; exact h
theorem bin_rem {k : IntKind} {a b : Int} (hb : b ≠ 0) (h : K (.int k (a.tmod b))) : BinVC P .rem t cx cy (.int k a) (.int k b) K := by
  rw [bin_of (v := .int k (a.tmod b)) fun w => by simp [eqGuard_rem, binOp_rem, Op.intDiv, hb]]; exact h
theorem bin_seq (a b : ByteArray) : BinVC P .eql t cx cy (.string a) (.string b) K = K (.bool (decide (a = b))) := bin_of fun w => by
  have e : (a.toList == b.toList) = decide (a = b) := by
    by_cases h : a = b
    · simp [h]
    · have : a.toList ≠ b.toList := fun h' => h (by
        have e1 : a.data.toList = b.data.toList := by simpa [ByteArray.toList_eq] using h'
        cases a; cases b; simp at e1; simp [e1])
      simp [h, this]
  simp [eqGuard_at_string, binOp, Op.stringOp, e]
theorem bin_sne (a b : ByteArray) : BinVC P .neq t cx cy (.string a) (.string b) K = K (.bool (decide (a ≠ b))) := bin_of fun w => by
  have e : (a.toList == b.toList) = decide (a = b) := by
    by_cases h : a = b
    · simp [h]
    · have : a.toList ≠ b.toList := fun h' => h (by
        have e1 : a.data.toList = b.data.toList := by simpa [ByteArray.toList_eq] using h'
        cases a; cases b; simp at e1; simp [e1])
      simp [h, this]
  simp [eqGuard_at_string, binOp, Op.stringOp, e]
end
end Lite
end
section
/- Lite, part 2: the pure instructions. -/
set_option maxRecDepth 4000
namespace Lite
open Go Go.RowKit

inductive PIns where
  | mv (x : Operand)
  | pick (c a b : Operand)
  | bin (op : BinOp) (t : TypeId) (x y : Operand)
  | un (op : UnOp) (x : Operand)
  | cnv (k : IntKind) (x : Operand)
  | same (x : Operand)
  | fa (off : Nat) (x : Operand)
  | ia (sz : Nat) (x i : Operand)
  | iaA (len sz : Nat) (x i : Operand)
  | ixS (x i : Operand)
  | ixA (len : Nat) (x i : Operand)
  | fld (off : Nat) (x : Operand)
  | fldA (off n : Nat) (x : Operand)
  | bld (z : List Value) (pl : List (Nat × Nat)) (parts : List (Nat × Operand))
  | mkF (f : FuncId) (first cap : List Operand)
  | slc (sz : Nat) (x : Operand) (lo hi mx : Option Operand)
  | slcS (x : Operand) (lo hi : Option Operand)
  | ext (x : Operand) (i : Nat)
  | lenS (x : Operand)
  | lenL (x : Operand)
  | capL (x : Operand)
  | konst (v : Value)
  | maxI (x y : Operand)
  | minI (x y : Operand)
  | mkI (t : TypeId) (x : Operand)
  | nilC (x : Operand)

def UnVC (op : UnOp) (x : Value) (K : Value → Prop) : Prop :=
  match op, x with
  | .not, .bool b => K (.bool (!b))
  | .neg, .int k n => WrapVC k (0 - n) K
  | .xor, .int k n => K (.int k (bits .xor k (if k.signed then -1 else k.max) n))
  | _, _ => False
def CnvVC (k : IntKind) (x : Value) (K : Value → Prop) : Prop := ∃ q n, x = .int q n ∧ WrapVC k n K
theorem cnv_int (k q : IntKind) (n : Int) (K : Value → Prop) : CnvVC k (.int q n) K = WrapVC k n K := by
  unfold CnvVC; apply propext; constructor
  · rintro ⟨q', n', h, hk⟩; injection h with h1 h2; subst h1 h2; exact hk
  · exact fun h => ⟨q, n, rfl, h⟩
def FaVC (off : Nat) (x : Value) (K : Value → Prop) : Prop := ∃ a, x = .pointer (some a) ∧ K (.pointer (some (a.add off)))
theorem fa_ptr (off : Nat) (a : Addr) (K : Value → Prop) : FaVC off (.pointer (some a)) K = K (.pointer (some (a.add off))) := by
  unfold FaVC; apply propext; constructor
  · rintro ⟨b, h, hk⟩; injection h with h; injection h with h; subst h; exact hk
  · exact fun h => ⟨a, rfl, h⟩
def IaVC (sz : Nat) (x i : Value) (K : Value → Prop) : Prop :=
  ∃ a len cap k n, x = .slice (some a) len cap ∧ i = .int k n ∧ 0 ≤ n ∧ n < len ∧ K (.pointer (some (a.add (n.toNat * sz))))
theorem ia_ok {sz : Nat} {a : Addr} {len cap : Nat} {k : IntKind} {n : Int} {K : Value → Prop} (h : 0 ≤ n ∧ n < len) (hk : K (.pointer (some (a.add (n.toNat * sz))))) :
    IaVC sz (.slice (some a) len cap) (.int k n) K := ⟨a, len, cap, k, n, rfl, rfl, h.1, h.2, hk⟩
/-- At a plain index. -/
theorem ia_nat {sz : Nat} {a : Addr} {len cap : Nat} {k : IntKind} {n : Int} {K : Value → Prop} (i : Nat) (hi : n = i) (h : i < len) (hk : K (.pointer (some (a.add (i * sz))))) :
    IaVC sz (.slice (some a) len cap) (.int k n) K := by
  subst hi; exact ⟨a, len, cap, k, i, rfl, rfl, by omega, by omega, by simpa using hk⟩
def IaAVC (len sz : Nat) (x i : Value) (K : Value → Prop) : Prop :=
  ∃ a k n, x = .pointer (some a) ∧ i = .int k n ∧ 0 ≤ n ∧ n < len ∧ K (.pointer (some (a.add (n.toNat * sz))))
theorem iaA_ok {sz : Nat} {a : Addr} {len : Nat} {k : IntKind} {n : Int} {K : Value → Prop} (h : 0 ≤ n ∧ n < len) (hk : K (.pointer (some (a.add (n.toNat * sz))))) :
    IaAVC len sz (.pointer (some a)) (.int k n) K := ⟨a, k, n, rfl, rfl, h.1, h.2, hk⟩
def IxSVC (x i : Value) (K : Value → Prop) : Prop :=
  ∃ s k n c, x = .string s ∧ i = .int k n ∧ 0 ≤ n ∧ s[n.toNat]? = some c ∧ K (.int .u8 c.toNat)
theorem ixS_ok {s : ByteArray} {k : IntKind} {n : Int} {K : Value → Prop} (c : UInt8) (h0 : 0 ≤ n) (h : s[n.toNat]? = some c) (hk : K (.int .u8 c.toNat)) :
    IxSVC (.string s) (.int k n) K := ⟨s, k, n, c, rfl, rfl, h0, h, hk⟩
def IxAVC (len : Nat) (x i : Value) (K : Value → Prop) : Prop :=
  ∃ cs k n v, x = .agg cs ∧ i = .int k n ∧ 0 ≤ n ∧ n < len ∧ cs[n.toNat]? = some v ∧ K v
theorem ixA_ok {len : Nat} {cs : Array Value} {k : IntKind} {n : Int} {K : Value → Prop} (v : Value) (h0 : 0 ≤ n ∧ n < len) (h : cs[n.toNat]? = some v) (hk : K v) :
    IxAVC len (.agg cs) (.int k n) K := ⟨cs, k, n, v, rfl, rfl, h0.1, h0.2, h, hk⟩
def FldVC (off : Nat) (x : Value) (K : Value → Prop) : Prop := ∃ cs v, x = .agg cs ∧ cs[off]? = some v ∧ K v
theorem fld_ok {off : Nat} {cs : Array Value} {K : Value → Prop} {v : Value} (h : cs[off]? = some v) (hk : K v) : FldVC off (.agg cs) K := ⟨cs, v, rfl, h, hk⟩
def FldAVC (off n : Nat) (x : Value) (K : Value → Prop) : Prop := ∃ cs, x = .agg cs ∧ K (.agg (cs.extract off (off + n)))
theorem fldA_agg (off n : Nat) (cs : Array Value) (K : Value → Prop) : FldAVC off n (.agg cs) K = K (.agg (cs.extract off (off + n))) := by
  unfold FldAVC; apply propext; constructor
  · rintro ⟨b, h, hk⟩; injection h with h; subst h; exact hk
  · exact fun h => ⟨cs, rfl, h⟩
/-- One part laid into its cells. -/
def lay (cs : List Value) (off : Nat) (v : Value) : List Value := v.cells.toList.zipIdx.foldl (fun cs (x : Value × Nat) => cs.set (off + x.2) x.1) cs
/-- The parts laid into the zero cells. -/
def fillC (S : Fr) (pl : List (Nat × Nat)) : List (Nat × Operand) → List Value → Option (List Value)
  | [], cs => some cs
  | (i, x) :: r, cs =>
    match pl[i]? with
    | none => none
    | some (off, n) => if (ev S x).cells.size = n ∧ off + n ≤ cs.length then fillC S pl r (lay cs off (ev S x)) else none
def BldVC (S : Fr) (z : List Value) (pl : List (Nat × Nat)) (ps : List (Nat × Operand)) (K : Value → Prop) : Prop := ∃ cs, fillC S pl ps z = some cs ∧ K (.agg cs.toArray)
theorem bld_ok {S : Fr} {z cs : List Value} {pl : List (Nat × Nat)} {ps : List (Nat × Operand)} {K : Value → Prop} (h : fillC S pl ps z = some cs) (hk : K (.agg cs.toArray)) : BldVC S z pl ps K := ⟨cs, h, hk⟩
/-- A bound of a slice expression. -/
def bnd (S : Fr) (o : Option Operand) (d : Nat) : Option Nat :=
  match o with
  | none => some d
  | some x => match ev S x with | .int _ n => if 0 ≤ n then some n.toNat else none | _ => none
def SlcVC (S : Fr) (sz : Nat) (x : Value) (lo hi mx : Option Operand) (K : Value → Prop) : Prop :=
  ∃ a len cap l h m, x = .slice a len cap ∧ bnd S lo 0 = some l ∧ bnd S hi len = some h ∧ bnd S mx cap = some m ∧ l ≤ h ∧ h ≤ m ∧ m ≤ cap ∧ (mx.isSome = true → hi.isSome = true) ∧
    K (.slice (if m = l then a else a.map (·.add (l * sz))) (h - l) (m - l))
theorem slc_ok {S : Fr} {sz : Nat} {a : Option Addr} {len cap : Nat} {lo hi mx : Option Operand} {K : Value → Prop} (l h m : Nat) (h1 : bnd S lo 0 = some l) (h2 : bnd S hi len = some h) (h3 : bnd S mx cap = some m)
    (h4 : l ≤ h ∧ h ≤ m ∧ m ≤ cap) (h5 : mx.isSome = true → hi.isSome = true) (hk : K (.slice (if m = l then a else a.map (·.add (l * sz))) (h - l) (m - l))) : SlcVC S sz (.slice a len cap) lo hi mx K :=
  ⟨a, len, cap, l, h, m, rfl, h1, h2, h3, h4.1, h4.2.1, h4.2.2, h5, hk⟩
def SlcSVC (S : Fr) (x : Value) (lo hi : Option Operand) (K : Value → Prop) : Prop :=
  ∃ s l h, x = .string s ∧ bnd S lo 0 = some l ∧ bnd S hi s.size = some h ∧ l ≤ h ∧ h ≤ s.size ∧ K (.string (s.extract l h))
theorem slcS_ok {S : Fr} {s : ByteArray} {lo hi : Option Operand} {K : Value → Prop} (l h : Nat) (h1 : bnd S lo 0 = some l) (h2 : bnd S hi s.size = some h) (h4 : l ≤ h ∧ h ≤ s.size) (hk : K (.string (s.extract l h))) :
    SlcSVC S (.string s) lo hi K := ⟨s, l, h, rfl, h1, h2, h4.1, h4.2, hk⟩
def ExtVC (x : Value) (i : Nat) (K : Value → Prop) : Prop := ∃ vs v, x = .tuple vs ∧ vs[i]? = some v ∧ K v
theorem ext_0 (v : Value) (vs : List Value) (K : Value → Prop) : ExtVC (.tuple (v :: vs).toArray) 0 K = K v := by
  unfold ExtVC; apply propext; constructor
  · rintro ⟨ws, u, h, hu, hk⟩; injection h with h; subst h; simp at hu; subst hu; exact hk
  · exact fun h => ⟨_, v, rfl, by simp, h⟩
theorem ext_1 (v u : Value) (vs : List Value) (K : Value → Prop) : ExtVC (.tuple (v :: u :: vs).toArray) 1 K = K u := by
  unfold ExtVC; apply propext; constructor
  · rintro ⟨ws, x, h, hu, hk⟩; injection h with h; subst h; simp at hu; subst hu; exact hk
  · exact fun h => ⟨_, u, rfl, by simp, h⟩
theorem ext_2 (v u x : Value) (vs : List Value) (K : Value → Prop) : ExtVC (.tuple (v :: u :: x :: vs).toArray) 2 K = K x := by
  unfold ExtVC; apply propext; constructor
  · rintro ⟨ws, x, h, hu, hk⟩; injection h with h; subst h; simp at hu; subst hu; exact hk
  · exact fun h => ⟨_, x, rfl, by simp, h⟩
def LenSVC (x : Value) (K : Value → Prop) : Prop := ∃ s, x = .string s ∧ K (.int .i64 s.size)
theorem lenS_str (s : ByteArray) (K : Value → Prop) : LenSVC (.string s) K = K (.int .i64 s.size) := by
  unfold LenSVC; apply propext; constructor
  · rintro ⟨b, h, hk⟩; injection h with h; subst h; exact hk
  · exact fun h => ⟨s, rfl, h⟩
def LenLVC (x : Value) (K : Value → Prop) : Prop := ∃ a n c, x = .slice a n c ∧ K (.int .i64 n)
theorem lenL_sl (a : Option Addr) (n c : Nat) (K : Value → Prop) : LenLVC (.slice a n c) K = K (.int .i64 n) := by
  unfold LenLVC; apply propext; constructor
  · rintro ⟨b, n', c', h, hk⟩; injection h with h1 h2 h3; subst h1 h2 h3; exact hk
  · exact fun h => ⟨a, n, c, rfl, h⟩
def CapLVC (x : Value) (K : Value → Prop) : Prop := ∃ a n c, x = .slice a n c ∧ K (.int .i64 c)
theorem capL_sl (a : Option Addr) (n c : Nat) (K : Value → Prop) : CapLVC (.slice a n c) K = K (.int .i64 c) := by
  unfold CapLVC; apply propext; constructor
  · rintro ⟨b, n', c', h, hk⟩; injection h with h1 h2 h3; subst h1 h2 h3; exact hk
  · exact fun h => ⟨a, n, c, rfl, h⟩
def MaxVC (x y : Value) (K : Value → Prop) : Prop := ∃ k q a b, x = .int k a ∧ y = .int q b ∧ K (.int k (max a b))
theorem max_int (k q : IntKind) (a b : Int) (K : Value → Prop) : MaxVC (.int k a) (.int q b) K = K (.int k (max a b)) := by
  unfold MaxVC; apply propext; constructor
  · rintro ⟨k', q', a', b', h, h', hk⟩; injection h with h1 h2; injection h' with h3 h4; subst h1 h2 h3 h4; exact hk
  · exact fun h => ⟨k, q, a, b, rfl, rfl, h⟩
def MinVC (x y : Value) (K : Value → Prop) : Prop := ∃ k q a b, x = .int k a ∧ y = .int q b ∧ K (.int k (min a b))
theorem min_int (k q : IntKind) (a b : Int) (K : Value → Prop) : MinVC (.int k a) (.int q b) K = K (.int k (min a b)) := by
  unfold MinVC; apply propext; constructor
  · rintro ⟨k', q', a', b', h, h', hk⟩; injection h with h1 h2; injection h' with h3 h4; subst h1 h2 h3 h4; exact hk
  · exact fun h => ⟨k, q, a, b, rfl, rfl, h⟩
def NilVC (x : Value) (K : Value → Prop) : Prop := match x with | .pointer (some _) | .func (.func _) _ _ | .iface _ _ => K x | _ => False
/-- What a pure instruction asks. -/
def PVC (P : Program) (i : PIns) (S : Fr) (K : Value → Prop) : Prop :=
  match i with
  | .mv x => K (ev S x)
  | .pick c a b => CondVC (ev S c) (K (ev S a)) (K (ev S b))
  | .bin op t x y => BinVC P op t x y (ev S x) (ev S y) K
  | .un op x => UnVC op (ev S x) K
  | .cnv k x => CnvVC k (ev S x) K
  | .same x => ∃ s, ev S x = .string s ∧ K (.string s)
  | .fa off x => FaVC off (ev S x) K
  | .ia sz x i => IaVC sz (ev S x) (ev S i) K
  | .iaA len sz x i => IaAVC len sz (ev S x) (ev S i) K
  | .ixS x i => IxSVC (ev S x) (ev S i) K
  | .ixA len x i => IxAVC len (ev S x) (ev S i) K
  | .fld off x => FldVC off (ev S x) K
  | .fldA off n x => FldAVC off n (ev S x) K
  | .bld z pl ps => BldVC S z pl ps K
  | .mkF f first cap => K (.func (.func f) (first.map (ev S)).toArray (cap.map (ev S)).toArray)
  | .slc sz x lo hi mx => SlcVC S sz (ev S x) lo hi mx K
  | .slcS x lo hi => SlcSVC S (ev S x) lo hi K
  | .ext x i => ExtVC (ev S x) i K
  | .lenS x => LenSVC (ev S x) K
  | .lenL x => LenLVC (ev S x) K
  | .capL x => CapLVC (ev S x) K
  | .konst v => K v
  | .maxI x y => MaxVC (ev S x) (ev S y) K
  | .minI x y => MinVC (ev S x) (ev S y) K
  | .mkI t x => K (.iface t (ev S x))
  | .nilC x => NilVC (ev S x) K

section
variable (P : Program) (S : Fr) (K : Value → Prop)
end

def isAggD : TypeDesc → Bool | .struct _ | .array _ _ => true | _ => false
def isIfD : TypeDesc → Bool | .interface _ => true | _ => false
def aggT (P : Program) (t : TypeId) : Option Bool := (P.underlying t).map isAggD
/-- The operations read as instructions. -/
def compP (P : Program) : Op → Option PIns
  | .move x | .assign x => some (.mv x)
  | .pick c a b => some (.pick c a b)
  | .binOp op t x y _ => some (.bin op t x y)
  | .unOp op _ x => some (.un op x)
  | .convert s d x =>
    match P.underlying s, P.underlying d with
    | some (.int _), some (.int k) => some (.cnv k x)
    | some .string, some .string => some (.same x)
    | _, _ => none
  | .fieldAddr s x f =>
    match P.underlying s with
    | some (.struct fs) => match fs[f]? with
      | some fd => match P.info? fd.type with | some i => if i.size = 0 then none else some (.fa fd.offset x) | none => none
      | none => none
    | _ => none
  | .indexAddr t x i =>
    match P.underlying t with
    | some (.slice e) => match P.info? e with | some inf => some (.ia inf.size x i) | none => none
    | some (.array n e) => match P.info? e with | some inf => if n ≤ 1 then none else some (.iaA n inf.size x i) | none => none
    | _ => none
  | .index t x i =>
    match P.underlying t with
    | some .string => some (.ixS x i)
    | some (.array n e) => match P.info? e, aggT P e with
      | some inf, some false => if inf.size = 1 then some (.ixA n x i) else none
      | _, _ => none
    | _ => none
  | .field t x f =>
    match P.underlying t with
    | some (.struct fs) => match fs[f]? with
      | some fd => match aggT P fd.type, P.info? fd.type with
        | some true, some inf => some (.fldA fd.offset inf.size x)
        | some false, _ => some (.fld fd.offset x)
        | _, _ => none
      | none => none
    | _ => none
  | .makeFunc (.func f) first cap => some (.mkF f first.toList cap.toList)
  | .build t parts =>
    match P.underlying t, (P.info? t).bind (·.zero) with
    | some (.struct fs), some z => if fs.all (fun f => (P.info? f.type).isSome) then some (.bld z.cells.toList (fs.toList.map fun f => (f.offset, P.cellsOf f.type)) parts.toList) else none
    | _, _ => none
  | .slice t x lo hi mx =>
    match P.underlying t with
    | some (.slice e) => match P.info? e with | some inf => some (.slc inf.size x lo hi mx) | none => none
    | some .string => match mx with | none => some (.slcS x lo hi) | some _ => none
    | _ => none
  | .extract x i => some (.ext x i)
  | .makeInterface t x =>
    match (P.underlying t).map isIfD with
    | some false => some (.mkI t x)
    | _ => none
  | .nilCheck x => some (.nilC x)
  | .call c =>
    match c.callee, c.args.toList, c.argTypes.toList with
    | .builtin .len, [x], t :: _ => match P.underlying t with
      | some .string => some (.lenS x)
      | some (.slice _) => some (.lenL x)
      | some (.array n _) => some (.konst (.int .i64 n))
      | _ => none
    | .builtin .cap, [x], t :: _ => match P.underlying t with
      | some (.slice _) => some (.capL x)
      | _ => none
    | .builtin .max, [x, y], _ => some (.maxI x y)
    | .builtin .min, [x, y], _ => some (.minI x y)
    | _, _, _ => none
  | _ => none

/-- Runs without a look at the world. -/
def Pure (P : Program) (ρ : Operand → Value) (o : Oper) (K : Value → Prop) : Prop := ∃ v, (∀ w, (execOp ρ o).run P w = .ok (.value v) w) ∧ K v

theorem run_info {P : Program} {t : TypeId} {i : TypeInfo} (h : P.info? t = some i) (w : World) : (typeInfo t).run P w = .ok i w := by simp [typeInfo, h]
theorem run_size {P : Program} {t : TypeId} {i : TypeInfo} (h : P.info? t = some i) (w : World) : (Go.sizeOf t).run P w = .ok i.size w := by simp [Go.sizeOf, run_info h]

theorem run_bound {k : IntKind} {n : Int} (P : Program) (w : World) {y : Nat} {c : BoundsCode} (h : 0 ≤ n) (hy : n.toNat ≤ y) : (Instr.sliceBound (.int k n) y c).run P w = .ok n.toNat w := by
  have : 0 ≤ n ∧ n ≤ y := by omega
  simp [Instr.sliceBound, asIntOf, this]

theorem bnd_none {S : Fr} {d l : Nat} (h : bnd S none d = some l) : l = d := by simpa [bnd] using h.symm
theorem bnd_some {S : Fr} {x : Operand} {d l : Nat} (h : bnd S (some x) d = some l) : ∃ k n, ev S x = .int k n ∧ 0 ≤ n ∧ l = n.toNat := by
  unfold bnd at h
  split at h
  · rename_i hh; cases hh
  · rename_i y hy; injection hy with hy; subst hy
    split at h
    · rename_i k n he
      split at h
      · exact ⟨k, n, he, by assumption, by simpa using h.symm⟩
      · cases h
    · cases h

theorem run_bounds {S : Fr} {P : Program} (w : World) (sl : Bool) {len cap l h m : Nat} {lo hi mx : Option Operand} (h1 : bnd S lo 0 = some l) (h2 : bnd S hi len = some h) (h3 : bnd S mx cap = some m)
    (h4 : l ≤ h ∧ h ≤ m ∧ m ≤ cap) (h5 : mx.isSome = true → hi.isSome = true) :
    (Instr.sliceBounds sl len cap (lo.map (ev S)) (hi.map (ev S)) (mx.map (ev S))).run P w = .ok (l, h, m) w := by
  unfold Instr.sliceBounds
  cases mx with
  | none =>
    obtain rfl := bnd_none h3
    cases hi with
    | none =>
      obtain rfl := bnd_none h2
      cases lo with
      | none => obtain rfl := bnd_none h1; simp
      | some x =>
        obtain ⟨k, n, he, hn, rfl⟩ := bnd_some h1
        simp [he, run_bound P w hn h4.1]
    | some y =>
      obtain ⟨k, n, he, hn, rfl⟩ := bnd_some h2
      cases lo with
      | none => obtain rfl := bnd_none h1; simp [he, run_bound P w hn h4.2.1]
      | some x =>
        obtain ⟨k', n', he', hn', rfl⟩ := bnd_some h1
        simp [he, he', run_bound P w hn h4.2.1, run_bound P w hn' h4.1]
  | some z =>
    obtain ⟨k2, n2, he2, hn2, rfl⟩ := bnd_some h3
    cases hi with
    | none => simp at h5
    | some y =>
      obtain ⟨k, n, he, hn, rfl⟩ := bnd_some h2
      cases lo with
      | none => obtain rfl := bnd_none h1; simp [he, he2, run_bound P w hn h4.2.1, run_bound P w hn2 h4.2.2]
      | some x =>
        obtain ⟨k', n', he', hn', rfl⟩ := bnd_some h1
        simp [he, he', he2, run_bound P w hn h4.2.1, run_bound P w hn2 h4.2.2, run_bound P w hn' h4.1]

theorem foldl_set_toArray : ∀ (vs : List (Value × Nat)) (off : Nat) (cs : List Value),
    vs.foldl (fun (cs : Array Value) (x : Value × Nat) => cs.setIfInBounds (off + x.2) x.1) cs.toArray = (vs.foldl (fun (cs : List Value) (x : Value × Nat) => cs.set (off + x.2) x.1) cs).toArray
  | [], _, _ => rfl
  | x :: r, off, cs => by
    simp only [List.foldl_cons]
    rw [List.setIfInBounds_toArray]
    exact foldl_set_toArray r off _

theorem fill_ok (S : Fr) (pl : List (Nat × Nat)) (place : Nat → Option (Nat × Nat)) (hpl : ∀ i q, pl[i]? = some q → place i = some q) : ∀ (ps : List (Nat × Operand)) (cs cs' : List Value),
    fillC S pl ps cs = some cs' → Instr.fill place cs.toArray (ps.map fun x => (x.1, ev S x.2)) = some cs'.toArray
  | [], cs, cs', h => by
    simp [fillC] at h; subst h
    simp [Instr.fill]
  | (i, x) :: ps, cs, cs', h => by
    simp only [fillC] at h
    simp only [List.map_cons, Instr.fill]
    cases hp : pl[i]? with
    | none => simp [hp] at h
    | some q =>
      obtain ⟨off, n⟩ := q
      simp only [hp] at h
      simp only [hpl i _ hp]
      split at h
      · rename_i hc
        rw [if_neg (by simp; omega)]
        have e := foldl_set_toArray (ev S x).cells.toList.zipIdx off cs
        have e2 : (ev S x).cells.zipIdx.foldl (fun (cs : Array Value) (x : Value × Nat) => cs.setIfInBounds (off + x.2) x.1) cs.toArray = (lay cs off (ev S x)).toArray := by
          rw [← Array.foldl_toList, Array.toList_zipIdx]; exact e
        show Instr.fill place ((ev S x).cells.zipIdx.foldl (fun (cs : Array Value) (x : Value × Nat) => cs.setIfInBounds (off + x.2) x.1) cs.toArray) _ = _
        rw [e2]
        exact fill_ok S pl place hpl ps _ _ h
      · cases h

theorem mapM_sem {α β : Type} (P : Program) (w : World) (g : α → Sem β) (f : α → β) : ∀ (l : List α), (∀ x ∈ l, (g x).run P w = .ok (f x) w) → (l.mapM g).run P w = .ok (l.map f) w
  | [], _ => by simp
  | x :: l, h => by
    simp [List.mapM_cons, h x (by simp), mapM_sem P w g f l (fun y hy => h y (by simp [hy]))]
theorem mapM_semA {α β : Type} (P : Program) (w : World) (g : α → Sem β) (f : α → β) (l : Array α) (h : ∀ x ∈ l, (g x).run P w = .ok (f x) w) : (l.mapM g).run P w = .ok (l.map f) w := by
  rw [Array.mapM_eq_mapM_toList]
  simp [mapM_sem P w g f l.toList (fun x hx => h x (by simpa using hx))]
  rw [← Array.toList_map]

theorem run_isAgg {P : Program} {t : TypeId} {b : Bool} (h : aggT P t = some b) (w : World) : (isAgg t).run P w = .ok b w := by
  unfold aggT at h
  cases hu : P.underlying t with
  | none => simp [hu] at h
  | some d => cases d <;> simp [hu, isAggD] at h <;> simp [isAgg, run_underlying hu, h]

theorem sound_p {P : Program} {S : Fr} {K : Value → Prop} {i : PIns} {o : Oper} (h : compP P o.op = some i) (hv : PVC P i S K) : Pure P (ev S) o K := by
  obtain ⟨dst, op, ty, pos, after, guard⟩ := o
  unfold Pure
  cases op with
  | move x => simp only [compP] at h; injection h with h; subst h; exact ⟨_, fun w => by simp [execOp], hv⟩
  | assign x => simp only [compP] at h; injection h with h; subst h; exact ⟨_, fun w => by simp [execOp], hv⟩
  | pick c a b =>
    simp only [compP] at h; injection h with h; subst h
    obtain ⟨t, he, h1, h2⟩ := hv
    cases t with
    | true => exact ⟨_, fun w => by simp [execOp, he, asBool], h1 rfl⟩
    | false => exact ⟨_, fun w => by simp [execOp, he, asBool], h2 rfl⟩
  | binOp op t x y u =>
    simp only [compP] at h; injection h with h; subst h
    obtain ⟨v, hr, hk⟩ := hv
    exact ⟨v, fun w => by have := hr w; simp only [execOp, Sem.run_bind, this, Result.andThen, Sem.run_pure], hk⟩
  | unOp op t x =>
    simp only [compP] at h; injection h with h; subst h
    unfold PVC UnVC at hv
    cases hx : ev S x <;> cases op <;> simp [hx] at hv
    · exact ⟨_, fun w => by simp [execOp, Op.unary, hx], hv⟩
    · exact ⟨_, fun w => by simp [execOp, Op.unary, hx, Op.intArith], hv⟩
    · rename_i k n; exact ⟨_, fun w => by simp [execOp, Op.unary, hx]; cases k <;> simp [IntKind.signed, Op.intBits, bits], hv⟩
  | convert s d x =>
    simp only [compP] at h
    split at h
    · rename_i k' k h1 h2
      injection h with h; subst h
      obtain ⟨q, n, he, hk⟩ := hv
      exact ⟨_, fun w => by simp [execOp, he, convert, run_underlying h1, run_underlying h2, Conv.intToInt], hk⟩
    · rename_i h1 h2
      injection h with h; subst h
      obtain ⟨s, he, hk⟩ := hv
      exact ⟨_, fun w => by simp [execOp, he, convert, run_underlying h1, run_underlying h2], hk⟩
    · cases h
  | fieldAddr s x f =>
    simp only [compP] at h
    split at h
    · rename_i fs h1
      split at h
      · rename_i fd h2
        split at h
        · rename_i inf h3
          split at h
          · cases h
          · rename_i h4
            injection h with h; subst h
            obtain ⟨a, he, hk⟩ := hv
            exact ⟨_, fun w => by simp [execOp, he, Instr.fieldAt, run_underlying h1, h2, Instr.sureAddr, fieldPlace, run_size h3, h4], hk⟩
        · cases h
      · cases h
    · cases h
  | indexAddr t x i =>
    simp only [compP] at h
    split at h
    · rename_i e h1
      split at h
      · rename_i inf h2
        injection h with h; subst h
        obtain ⟨a, len, cap, k, n, he, hi, h0, hl, hk⟩ := hv
        exact ⟨_, fun w => by simp [execOp, he, hi, Instr.indexAt, run_underlying h1, asIntOf, h0, hl, run_size h2], hk⟩
      · cases h
    · rename_i n e h1
      split at h
      · rename_i inf h2
        split at h
        · cases h
        · injection h with h; subst h
          obtain ⟨a, k, n, he, hi, h0, hl, hk⟩ := hv
          exact ⟨_, fun w => by simp [execOp, he, hi, Instr.indexAt, run_underlying h1, asIntOf, h0, hl, run_size h2, Instr.sureAddr], hk⟩
      · cases h
    · cases h
  | index t x i =>
    simp only [compP] at h
    split at h
    · rename_i h1
      injection h with h; subst h
      obtain ⟨s, k, n, c, he, hi, h0, hc, hk⟩ := hv
      exact ⟨_, fun w => by simp [execOp, he, hi, Instr.index, run_underlying h1, asIntOf, h0, hc], hk⟩
    · rename_i n e h1
      split at h
      · rename_i inf h2 h3
        split at h
        · rename_i hd
          injection h with h; subst h
          obtain ⟨cs, k, n, v, he, hi, h0, hl, hc, hk⟩ := hv
          exact ⟨_, fun w => by simp [execOp, he, hi, Instr.index, run_underlying h1, asIntOf, h0, hl, run_size h2, hd, part, run_isAgg h3, hc], hk⟩
        · cases h
      · cases h
    · cases h
  | field t x f =>
    simp only [compP] at h
    split at h
    · rename_i fs h1
      split at h
      · rename_i fd h2
        split at h
        · rename_i inf h3 h4
          injection h with h; subst h
          obtain ⟨cs, he, hk⟩ := hv
          exact ⟨_, fun w => by simp [execOp, he, Instr.field, run_underlying h1, h2, asAgg, part, run_isAgg h3, run_size h4], hk⟩
        · rename_i h3
          injection h with h; subst h
          obtain ⟨cs, v, he, hc, hk⟩ := hv
          exact ⟨_, fun w => by simp [execOp, he, Instr.field, run_underlying h1, h2, asAgg, part, run_isAgg h3, hc], hk⟩
        · cases h
      · cases h
    · cases h
  | makeFunc f first cap =>
    cases f with
    | func f =>
      simp only [compP] at h; injection h with h; subst h
      exact ⟨_, fun w => by simp [execOp, Instr.makeFunc]; exact ⟨by rw [← Array.toList_map], by rw [← Array.toList_map]⟩, hv⟩
    | _ => simp [compP] at h
  | build t parts =>
    simp only [compP] at h
    split at h
    · rename_i fs z h1 h2
      split at h
      · rename_i hall
        injection h with h; subst h
        obtain ⟨cs, hf, hk⟩ := hv
        obtain ⟨inf, h3, h4⟩ := Option.bind_eq_some_iff.1 h2
        refine ⟨_, fun w => ?_, hk⟩
        have hz : (zeroValue t).run P w = .ok z w := by simp [zeroValue, run_info h3, h4]
        have hpl : (fs.mapM fun (f : Field) => (do pure (f.offset, ← Go.sizeOf f.type) : Sem (Nat × Nat))).run P w = .ok (fs.map fun f => (f.offset, P.cellsOf f.type)) w := by
          refine mapM_semA P w _ _ fs fun f hf => ?_
          have := Array.all_eq_true_iff_forall_mem.1 hall f hf
          obtain ⟨i, hi⟩ := Option.isSome_iff_exists.1 this
          simp [run_size hi, Program.cellsOf, hi]
        have hfl := fill_ok S (fs.toList.map fun f => (f.offset, P.cellsOf f.type)) (fun i => (fs.map fun f => (f.offset, P.cellsOf f.type))[i]?) (fun i q hq => by rw [← hq]; simp [← Array.getElem?_toList]) parts.toList z.cells.toList cs hf
        simp only [execOp, Instr.build, Sem.run_bind, hz, Result.andThen, run_underlying h1, hpl]
        simp only [Array.toList_map]
        simp only [Array.toArray_toList] at hfl
        rw [show (parts.toList.map fun x => (x.1, ev S x.2)) = (parts.toList.map fun (x : Nat × Operand) => match x with | (i, x) => (i, ev S x)) from rfl] at hfl
        rw [hfl]
        simp
      · cases h
    · cases h
  | slice t x lo hi mx =>
    simp only [compP] at h
    split at h
    · rename_i e h1
      split at h
      · rename_i inf h2
        injection h with h; subst h
        obtain ⟨a, len, cap, l, hh, m, he, b1, b2, b3, c1, c2, c3, c4, hk⟩ := hv
        exact ⟨_, fun w => by simp [execOp, he, Instr.sliceAt, Instr.slice, run_underlying h1, run_bounds w true b1 b2 b3 ⟨c1, c2, c3⟩ c4, run_size h2], hk⟩
      · cases h
    · rename_i h1
      split at h
      · injection h with h; subst h
        obtain ⟨s, l, hh, he, b1, b2, c1, c2, hk⟩ := hv
        exact ⟨_, fun w => by
          have := run_bounds (P := P) w false (len := s.size) (cap := s.size) (m := s.size) (mx := none) b1 b2 rfl ⟨c1, c2, Nat.le_refl _⟩ (by simp)
          simp only [Option.map_none] at this
          simp [execOp, he, Instr.sliceAt, Instr.slice, run_underlying h1, this], hk⟩
      · cases h
    · cases h
  | extract x i =>
    simp only [compP] at h; injection h with h; subst h
    obtain ⟨vs, v, he, hi, hk⟩ := hv
    exact ⟨_, fun w => by simp [execOp, he, Instr.extract, hi], hk⟩
  | makeInterface t x =>
    simp only [compP] at h
    split at h
    · rename_i h1
      injection h with h; subst h
      refine ⟨_, fun w => ?_, hv⟩
      cases hu : P.underlying t with
      | none => simp [hu] at h1
      | some d => cases d <;> simp [hu, isIfD] at h1 <;> simp [execOp, Instr.makeInterface, run_underlying hu]
    · cases h
  | nilCheck x =>
    simp only [compP] at h; injection h with h; subst h
    have hv' : NilVC (ev S x) K := hv
    unfold NilVC at hv'
    split at hv'
    · rename_i he; exact ⟨_, fun w => by simp [execOp, he], hv'⟩
    · rename_i he; exact ⟨_, fun w => by simp [execOp, he], hv'⟩
    · rename_i he; exact ⟨_, fun w => by simp [execOp, he], hv'⟩
    · exact hv'.elim
  | call c =>
    obtain ⟨callee, args, argTypes⟩ := c
    simp only [compP] at h
    have key : ∀ (b : Builtin), callee = .builtin b → ∃ cs, ∀ w, (execOp (ev S) ⟨dst, .call ⟨callee, args, argTypes⟩, ty, pos, after, guard⟩).run P w = (builtin b argTypes ty cs (args.map (ev S))).run P w := by
      rintro b rfl
      exact ⟨_, fun w => by simp [execOp, resolve, invoke]; rfl⟩
    split at h
    · rename_i x t r h2 h3
      obtain ⟨cs, key⟩ := key _ rfl
      have ea : args = #[x] := by rw [← Array.toArray_toList (xs := args), h2]
      have et : argTypes[0]? = some t := by rw [← Array.getElem?_toList, h3]; rfl
      split at h
      · rename_i hu
        injection h with h; subst h
        obtain ⟨s, he, hk⟩ := hv
        exact ⟨_, fun w => by rw [key]; simp [builtin, Builtin.len_, ea, et, he, run_underlying hu, goInt], hk⟩
      · rename_i hu
        injection h with h; subst h
        obtain ⟨a, n, c, he, hk⟩ := hv
        exact ⟨_, fun w => by rw [key]; simp [builtin, Builtin.len_, ea, et, he, run_underlying hu, goInt], hk⟩
      · rename_i hu
        injection h with h; subst h
        exact ⟨_, fun w => by rw [key]; simp [builtin, Builtin.len_, ea, et, run_underlying hu, goInt], hv⟩
      · cases h
    · rename_i x t r h2 h3
      obtain ⟨cs, key⟩ := key _ rfl
      have ea : args = #[x] := by rw [← Array.toArray_toList (xs := args), h2]
      have et : argTypes[0]? = some t := by rw [← Array.getElem?_toList, h3]; rfl
      split at h
      · rename_i hu
        injection h with h; subst h
        obtain ⟨a, n, c, he, hk⟩ := hv
        exact ⟨_, fun w => by rw [key]; simp [builtin, Builtin.cap_, ea, et, he, run_underlying hu, goInt], hk⟩
      · cases h
    · rename_i x y h2
      obtain ⟨cs, key⟩ := key _ rfl
      have ea : args = #[x, y] := by rw [← Array.toArray_toList (xs := args), h2]
      injection h with h; subst h
      obtain ⟨k, q, a, b, he, hy, hk⟩ := hv
      exact ⟨_, fun w => by rw [key]; simp [builtin, Builtin.max_, ea, he, hy, Builtin.max2]; omega, hk⟩
    · rename_i x y h2
      obtain ⟨cs, key⟩ := key _ rfl
      have ea : args = #[x, y] := by rw [← Array.toArray_toList (xs := args), h2]
      injection h with h; subst h
      obtain ⟨k, q, a, b, he, hy, hk⟩ := hv
      exact ⟨_, fun w => by rw [key]; simp [builtin, Builtin.min_, ea, he, hy, Builtin.min2]; omega, hk⟩
    · cases h
  | _ => simp [compP] at h
end Lite
end
section
/- Lite, part 3: instructions that read, write, call. -/
set_option maxRecDepth 4000
namespace Lite
open Go Go.RowKit

/-- Instructions that look at the world and leave it. -/
inductive RIns where
  | ld (x : Operand)
  | ldA (n : Nat) (x : Operand)
  | lkp (d : TypeDesc) (z : Value) (ok : Bool) (m k : Operand)
  | lenM (x : Operand)
/-- Instructions that change the world. -/
inductive EIns where
  | box (t : TypeId) (x : Operand)
  | new (t : TypeId) (z : Value)
  | st (x v : Operand)
  | stA (n : Nat) (x v : Operand)
  | mkM
  | mkS (e : TypeId) (sz bytes : Nat) (z : Value) (l c : Operand)
  | bldS (e : TypeId) (len sz : Nat) (z : List Value) (parts : List (Nat × Operand))
  | app (t e : TypeId) (sz bytes : Nat) (s x : Operand)
  | mup (d : TypeDesc) (m k v : Operand)
  | rngS (x : Operand)
  | nxtS (x : Operand)
  | raw (op : Op) (ty : TypeId)
/-- Calls. -/
inductive CIns where
  | fn (f : FuncId) (args : List Operand)
  | val (x : Operand) (args : List Operand)
  | inv (x : Operand) (m : String) (args : List Operand)
inductive Ins where
  | p (i : PIns)
  | r (i : RIns)
  | e (i : EIns)
  | c (i : CIns)

/-! ### Reading -/
def LdVC (x : Value) (w : World) (K : Value → Prop) : Prop := ∃ a c, x = .pointer (some a) ∧ w.cell? a = some c ∧ K c
theorem ld_ok {a : Addr} {w : World} {c : Value} {K : Value → Prop} (h : w.cell? a = some c) (hk : K c) : LdVC (.pointer (some a)) w K := ⟨a, c, rfl, h, hk⟩
/-- The cells from an address on. -/
def CellsAt (w : World) (a : Addr) (cs : List Value) : Prop := ∀ j v, cs[j]? = some v → w.cell? (a.add j) = some v
theorem CellsAt.ext {w w' : World} (he : Ext w w') {a : Addr} {cs : List Value} (h : CellsAt w a cs) : CellsAt w' a cs := fun j v hj => he.cell (h j v hj)
theorem cellsAt_blk {w : World} {b : Nat} {c : Array Value} {t : TypeId} {f : Nat × Nat} (h : w.heap[b]? = some (.cells c t f)) : CellsAt w ⟨b, 0, none⟩ c.toList :=
  fun j v hj => cell_blk h (by simpa using hj)
def LdAVC (n : Nat) (x : Value) (w : World) (K : Value → Prop) : Prop := ∃ a cs, x = .pointer (some a) ∧ cs.length = n ∧ CellsAt w a cs ∧ K (.agg cs.toArray)
theorem ldA_ok {n : Nat} {a : Addr} {w : World} {cs : List Value} {K : Value → Prop} (h : CellsAt w a cs) (hn : cs.length = n) (hk : K (.agg cs.toArray)) : LdAVC n (.pointer (some a)) w K := ⟨a, cs, rfl, hn, h, hk⟩
/-- A map's entries. -/
def MapOf (w : World) (m : Value) (es : Array MapEntry) : Prop := (m = .map none ∧ es = #[]) ∨ ∃ r c, m = .map (some r) ∧ w.heap[r]? = some (.map es c)
theorem MapOf.ext {w w' : World} (he : Ext w w') {m : Value} {es : Array MapEntry} (h : MapOf w m es) : MapOf w' m es := by
  rcases h with h | ⟨r, c, h1, h2⟩
  · exact .inl h
  · exact .inr ⟨r, c, h1, he.obj h2⟩
def lkpV (z : Value) (ok : Bool) (r : Option (Nat × Value)) : Value :=
  let v := (r.map (·.2)).getD z
  if ok then .tuple #[v, .bool r.isSome] else v
def LkpVC (d : TypeDesc) (z : Value) (ok : Bool) (m k : Value) (w : World) (K : Value → Prop) : Prop := ∃ es r, MapOf w m es ∧ Instr.findNow d k es.toList 0 = some r ∧ K (lkpV z ok r)
theorem lkp_ok {d : TypeDesc} {z : Value} {ok : Bool} {m k : Value} {w : World} {K : Value → Prop} {es : Array MapEntry} {r : Option (Nat × Value)} (h1 : MapOf w m es) (h2 : Instr.findNow d k es.toList 0 = some r)
    (hk : K (lkpV z ok r)) : LkpVC d z ok m k w K := ⟨es, r, h1, h2, hk⟩
def LenMVC (m : Value) (w : World) (K : Value → Prop) : Prop := ∃ es, MapOf w m es ∧ K (.int .i64 es.size)
theorem lenM_ok {m : Value} {w : World} {K : Value → Prop} {es : Array MapEntry} (h : MapOf w m es) (hk : K (.int .i64 es.size)) : LenMVC m w K := ⟨es, h, hk⟩
def RVC (i : RIns) (S : Fr) (w : World) (K : Value → Prop) : Prop :=
  match i with
  | .ld x => LdVC (ev S x) w K
  | .ldA n x => LdAVC n (ev S x) w K
  | .lkp d z ok m k => LkpVC d z ok (ev S m) (ev S k) w K
  | .lenM x => LenMVC (ev S x) w K
section
variable (S : Fr) (w : World) (K : Value → Prop)
end

/-! ### Writing -/
def StVC (x v : Value) (w : World) (K : World → Prop) : Prop := ∃ a old, x = .pointer (some a) ∧ w.cell? a = some old ∧ w.frozen? a = false ∧ v.oneCell' = true ∧ K (w.setCell a v)
theorem st_ok {a : Addr} {v old : Value} {w : World} {K : World → Prop} (h : w.cell? a = some old) (hf : w.frozen? a = false) (hv : v.oneCell' = true) (hk : K (w.setCell a v)) : StVC (.pointer (some a)) v w K :=
  ⟨a, old, rfl, h, hf, hv, hk⟩
def setAll (w : World) (a : Addr) : List Value → Nat → World
  | [], _ => w
  | v :: r, i => setAll (w.setCell (a.add i) v) a r (i + 1)
def StAVC (n : Nat) (x v : Value) (w : World) (K : World → Prop) : Prop :=
  ∃ a cs, x = .pointer (some a) ∧ v = .agg cs ∧ cs.size = n ∧ (∀ j, j < n → (∃ old, w.cell? (a.add j) = some old) ∧ w.frozen? (a.add j) = false) ∧ (∀ c ∈ cs.toList, c.oneCell' = true) ∧ K (setAll w a cs.toList 0)
theorem stA_ok {n : Nat} {a : Addr} {cs : Array Value} {w : World} {K : World → Prop} (hn : cs.size = n) (h : ∀ j, j < n → (∃ old, w.cell? (a.add j) = some old) ∧ w.frozen? (a.add j) = false) (h1 : ∀ c ∈ cs.toList, c.oneCell' = true)
    (hk : K (setAll w a cs.toList 0)) : StAVC n (.pointer (some a)) (.agg cs) w K := ⟨a, cs, rfl, rfl, hn, h, h1, hk⟩
/-- So many zero cells. -/
def zeros (z : Array Value) (n : Nat) : Array Value := (Array.range n).map fun i => z[i % z.size]!
def MkSVC (e : TypeId) (sz bytes : Nat) (z : Value) (l c : Value) (w : World) (K : Value → World → Prop) : Prop :=
  ∃ k q n m, l = .int k n ∧ c = .int q m ∧ 0 ≤ n ∧ n ≤ m ∧ m ≤ 9223372036854775807 ∧ bytes * m ≤ 281474976710656 ∧
    K (.slice (some ⟨w.heap.size, 0, none⟩) n.toNat m.toNat) (w.alloc (.cells (zeros z.cells (m.toNat * sz)) e))
theorem mkS_ok {e : TypeId} {sz bytes : Nat} {z : Value} {k q : IntKind} {n m : Int} {w : World} {K : Value → World → Prop} (h : 0 ≤ n ∧ n ≤ m ∧ m ≤ 9223372036854775807 ∧ bytes * m ≤ 281474976710656)
    (hk : K (.slice (some ⟨w.heap.size, 0, none⟩) n.toNat m.toNat) (w.alloc (.cells (zeros z.cells (m.toNat * sz)) e))) : MkSVC e sz bytes z (.int k n) (.int q m) w K :=
  ⟨k, q, n, m, rfl, rfl, h.1, h.2.1, h.2.2.1, h.2.2.2, hk⟩
def BldSVC (S : Fr) (e : TypeId) (len sz : Nat) (z : List Value) (ps : List (Nat × Operand)) (w : World) (K : Value → World → Prop) : Prop :=
  ∃ cs, fillC S ((List.range len).map fun i => (i * sz, sz)) ps z = some cs ∧ K (.slice (some ⟨w.heap.size, 0, none⟩) len len) (w.alloc (.cells cs.toArray e))
theorem bldS_ok {S : Fr} {e : TypeId} {len sz : Nat} {z cs : List Value} {ps : List (Nat × Operand)} {w : World} {K : Value → World → Prop} (h : fillC S ((List.range len).map fun i => (i * sz, sz)) ps z = some cs)
    (hk : K (.slice (some ⟨w.heap.size, 0, none⟩) len len) (w.alloc (.cells cs.toArray e))) : BldSVC S e len sz z ps w K := ⟨cs, h, hk⟩
/-- What the program's table says of a slice type. -/
def SlInfo (P : Program) (t e : TypeId) (sz bytes : Nat) : Prop := P.underlying t = some (.slice e) ∧ ∃ i z, P.info? e = some i ∧ i.zero = some z ∧ i.size = sz ∧ i.bytes = bytes ∧ z.cells.size = sz ∧ 0 < sz
def AppVC (P : Program) (t e : TypeId) (sz bytes : Nat) (s x : Value) (w : World) (K : Value → World → Prop) : Prop :=
  SlInfo P t e sz bytes → ∃ ty v' w', (Builtin.append_ #[t, t] ty #[s, x]).run P w = .ok v' w' ∧ K v' w'
/-- Where a key is put. -/
def mupO (es : Array MapEntry) (c : Nat) (k v : Value) : Option (Nat × Value) → Obj
  | some (i, _) => .map (es.modify i fun e => { e with key := k, val := v }) c
  | none => .map (es.push { key := k, val := v, born := c }) (c + 1)
def MupVC (d : TypeDesc) (m k v : Value) (w : World) (K : World → Prop) : Prop :=
  ∃ r es c q, m = .map (some r) ∧ w.heap[r]? = some (.map es c) ∧ Instr.findNow d k es.toList 0 = some q ∧ K (setO w r (mupO es c k v q))
theorem mup_ok {d : TypeDesc} {r : Nat} {k v : Value} {w : World} {K : World → Prop} {es : Array MapEntry} {c : Nat} {q : Option (Nat × Value)} (h1 : w.heap[r]? = some (.map es c)) (h2 : Instr.findNow d k es.toList 0 = some q)
    (hk : K (setO w r (mupO es c k v q))) : MupVC d (.map (some r)) k v w K := ⟨r, es, c, q, rfl, h1, h2, hk⟩
def NxtSVC (x : Value) (w : World) (K : Value → World → Prop) : Prop :=
  ∃ r s pos, x = .pointer (some ⟨r, 0, none⟩) ∧ w.heap[r]? = some (.stringIter s pos) ∧
    (pos < s.size → K (.tuple #[.bool true, .int .i64 pos, .int .i32 (Utf8.decode s pos).1]) (setO w r (.stringIter s (pos + (Utf8.decode s pos).2)))) ∧ (¬ pos < s.size → K (.tuple #[.bool false]) w)
theorem nxtS_ok {r pos : Nat} {s : ByteArray} {w : World} {K : Value → World → Prop} (h : w.heap[r]? = some (.stringIter s pos))
    (h1 : pos < s.size → K (.tuple #[.bool true, .int .i64 pos, .int .i32 (Utf8.decode s pos).1]) (setO w r (.stringIter s (pos + (Utf8.decode s pos).2)))) (h2 : ¬ pos < s.size → K (.tuple #[.bool false]) w) :
    NxtSVC (.pointer (some ⟨r, 0, none⟩)) w K := ⟨r, s, pos, rfl, h, h1, h2⟩
def RawVC (P : Program) (op : Op) (ty : TypeId) (S : Fr) (w : World) (K : Value → World → Prop) : Prop :=
  ∃ v w', ((execOp (ev S) ⟨none, op, ty, "", #[], none⟩).run P w = .ok (.value v) w' ∨ (v = undef ∧ (execOp (ev S) ⟨none, op, ty, "", #[], none⟩).run P w = .ok .skip w')) ∧ K v w'
def RngSVC (x : Value) (w : World) (K : Value → World → Prop) : Prop := ∃ s, x = .string s ∧ K (.pointer (some ⟨w.heap.size, 0, none⟩)) (w.alloc (.stringIter s 0))
def EVC (P : Program) (i : EIns) (S : Fr) (w : World) (K : Value → World → Prop) : Prop :=
  match i with
  | .box t x => K (.pointer (some ⟨w.heap.size, 0, none⟩)) (w.alloc (.cells (ev S x).cells t))
  | .new t z => K (.pointer (some ⟨w.heap.size, 0, none⟩)) (w.alloc (.cells z.cells t))
  | .st x v => StVC (ev S x) (ev S v) w (K undef)
  | .stA n x v => StAVC n (ev S x) (ev S v) w (K undef)
  | .mkM => K (.map (some w.heap.size)) (w.alloc (.map #[] 0))
  | .mkS e sz b z l c => MkSVC e sz b z (ev S l) (ev S c) w K
  | .bldS e len sz z ps => BldSVC S e len sz z ps w K
  | .app t e sz b s x => AppVC P t e sz b (ev S s) (ev S x) w K
  | .mup d m k v => MupVC d (ev S m) (ev S k) (ev S v) w (K undef)
  | .rngS x => RngSVC (ev S x) w K
  | .nxtS x => NxtSVC (ev S x) w K
  | .raw op ty => RawVC P op ty S w K
section
variable (P : Program) (S : Fr) (w : World) (K : Value → World → Prop)
end

/-! ### Calling -/
def okF (P : Program) (f : FuncId) : Bool := match P.funcs[f]? with | some fn => fn.body.isSome && !(fn.name == "runtime.NumGoroutine") | none => false
def CallVC (P : Program) (f : FuncId) (args : List Value) (w : World) (K : Value → World → Prop) : Prop := Ret P f args.toArray w K
theorem call_ok {P : Program} {f : FuncId} {args : List Value} {w : World} {R : Value → World → Prop} {K : Value → World → Prop} (h : Ret P f args.toArray w R) (hk : ∀ v w', R v w' → K v w') : CallVC P f args w K := h.mono hk
def CallV (P : Program) (x : Value) (args : List Value) (w : World) (K : Value → World → Prop) : Prop := ∃ f first cap, x = .func (.func f) first cap ∧ okF P f = true ∧ Ret P f (first ++ args.toArray ++ cap) w K
theorem callV_ok {P : Program} {f : FuncId} {first cap : List Value} {args : List Value} {w : World} {R : Value → World → Prop} {K : Value → World → Prop} (hf : okF P f = true) (h : Ret P f (first ++ args ++ cap).toArray w R) (hk : ∀ v w', R v w' → K v w') :
    CallV P (.func (.func f) first.toArray cap.toArray) args w K := ⟨f, first.toArray, cap.toArray, rfl, hf, by simpa using h.mono hk⟩
/-- A method of an interface value is called. -/
def CallI (P : Program) (x : Value) (m : String) (args : List Value) (w : World) (K : Value → World → Prop) : Prop := ∃ t v f r, x = .iface t v ∧ okF P f = true ∧ (∀ w', (method (P.types.size + Made.depth) t v m).run P w' = .ok (f, r) w') ∧ Ret P f (r :: args).toArray w K
def CVC (P : Program) (i : CIns) (S : Fr) (w : World) (K : Value → World → Prop) : Prop :=
  match i with
  | .fn f args => CallVC P f (args.map (ev S)) w K
  | .val x args => CallV P (ev S x) (args.map (ev S)) w K
  | .inv x m args => CallI P (ev S x) m (args.map (ev S)) w K
def plainKey : TypeDesc → Bool | .string | .int _ | .bool => true | _ => false
def compR (P : Program) : Op → Option RIns
  | .load t x =>
    match aggT P t, P.info? t with
    | some false, _ => some (.ld x)
    | some true, some i => some (.ldA i.size x)
    | _, _ => none
  | .lookup t m k ok =>
    match P.underlying t with
    | some (.map kt e) => match P.underlying kt, (P.info? e).bind (·.zero) with
      | some d, some z => if plainKey d then some (.lkp d z ok m k) else none
      | _, _ => none
    | _ => none
  | .call c =>
    match c.callee, c.args.toList, c.argTypes.toList with
    | .builtin .len, [x], t :: _ => match P.underlying t with
      | some (.map _ _) => some (.lenM x)
      | _ => none
    | _, _, _ => none
  | _ => none
def compE (P : Program) (ty : TypeId) : Op → Option EIns
  | .box t x => some (.box t x)
  | .alloc t => match (P.info? t).bind (·.zero) with | some z => some (.new t z) | none => none
  | .store t x v =>
    match aggT P t, P.info? t with
    | some false, some i => if i.size = 1 then some (.st x v) else none
    | some true, some i => some (.stA i.size x v)
    | _, _ => none
  | .makeMap _ none => some .mkM
  | .makeSlice t l c =>
    match P.underlying t with
    | some (.slice e) => match P.info? e with
      | some i => match i.zero with | some z => if 0 < z.cells.size then some (.mkS e i.size i.bytes z l c) else none | none => none
      | none => none
    | _ => none
  | .buildSlice t len ps =>
    match P.underlying t with
    | some (.slice e) => match P.info? e with
      | some i => match i.zero with | some z => if len * i.size ≤ 16777216 then some (.bldS e len i.size (zeros z.cells (len * i.size)).toList ps.toList) else none | none => none
      | none => none
    | _ => none
  | .mapUpdate t m k v | .insert t m k v =>
    match P.underlying t with
    | some (.map kt _) => match P.underlying kt with
      | some d => if plainKey d then some (.mup d m k v) else some (.raw (.mapUpdate t m k v) ty)
      | none => none
    | _ => none
  | .range t x => match P.underlying t with | some .string => some (.rngS x) | some (.map _ _) => some (.raw (.range t x) ty) | _ => none
  | .next x true => some (.nxtS x)
  | .next x false => some (.raw (.next x false) ty)
  | .lookup t m k ok => some (.raw (.lookup t m k ok) ty)
  | .mapEntry t m k => some (.raw (.mapEntry t m k) ty)
  | .entryStore t m s x => some (.raw (.entryStore t m s x) ty)
  | .entry x => some (.raw (.entry x) ty)
  | .typeAssert x t a ok => some (.raw (.typeAssert x t a ok) ty)
  | .convert s d x => some (.raw (.convert s d x) ty)
  | .makeMap t r => some (.raw (.makeMap t r) ty)
  | .call c =>
    match c.callee, c.args.toList, c.argTypes.toList with
    | .builtin .append, [s, x], [t, u] => match P.underlying t with
      | some (.slice e) => match P.info? e with
        | some i => match i.zero with
          | some z => if t = u ∧ z.cells.size = i.size ∧ 0 < i.size then some (.app t e i.size i.bytes s x) else some (.raw (.call c) ty)
          | none => none
        | none => none
      | _ => none
    | .builtin .copy, _, _ => some (.raw (.call c) ty)
    | .builtin .delete, _, _ => some (.raw (.call c) ty)
    | .builtin .clear, _, _ => some (.raw (.call c) ty)
    | .builtin .append, _, _ => some (.raw (.call c) ty)
    | _, _, _ => none
  | _ => none
def compC (P : Program) : Op → Option CIns
  | .call c =>
    match c.callee with
    | .value (.func f) => if okF P f then some (.fn f c.args.toList) else none
    | .value x => some (.val x c.args.toList)
    | .invoke x m => some (.inv x m c.args.toList)
    | _ => none
  | _ => none
def compI (P : Program) (o : Oper) : Option Ins :=
  match compP P o.op with
  | some i => some (.p i)
  | none => match compR P o.op with
    | some i => some (.r i)
    | none => match compE P o.type o.op with
      | some i => some (.e i)
      | none => match compC P o.op with
        | some i => some (.c i)
        | none => none
end Lite
end
section
/- Lite, part 4: the instructions that read, write, call are sound. -/
set_option maxRecDepth 4000
namespace Lite
open Go Go.RowKit

theorem run_loadVar1 {P : Program} {t : TypeId} (h : aggT P t = some false) (w : World) {a : Addr} {c : Value} (hc : w.cell? a = some c) : (loadVar t a).run P w = .ok c w := by
  simp [loadVar, run_isAgg h, hc]
theorem run_loadVarA {P : Program} {t : TypeId} {i : TypeInfo} (h : aggT P t = some true) (hi : P.info? t = some i) (w : World) {a : Addr} {cs : List Value} (hn : cs.length = i.size) (hc : CellsAt w a cs) :
    (loadVar t a).run P w = .ok (.agg cs.toArray) w := by
  simp [loadVar, run_isAgg h, run_size hi, ← hn, run_loadCells_list w a cs hc]

theorem checkKey_plain {P : Program} {d : TypeDesc} {kt : TypeId} (h : P.underlying kt = some d) (hp : plainKey d = true) (b : Bool) (k : Value) (w : World) : (Instr.checkKey b 10000 kt k).run P w = .ok () w := by
  rw [show (10000 : Nat) = 9999 + 1 from rfl]
  unfold Instr.checkKey
  cases d <;> simp [plainKey] at hp <;> simp [run_underlying h]
theorem run_findKey {P : Program} {d : TypeDesc} {kt : TypeId} (h : P.underlying kt = some d) {k : Value} {es : List MapEntry} {r : Option (Nat × Value)} (hf : Instr.findNow d k es 0 = some r) (w : World) : (Instr.findKey kt k es).run P w = .ok r w := by
  simp [Instr.findKey, run_underlying h, hf]

theorem sound_r {P : Program} {S : Fr} {w : World} {K : Value → Prop} {i : RIns} {o : Oper} (h : compR P o.op = some i) (hv : RVC i S w K) :
    ∃ v, (∀ w', Ext w w' → (execOp (ev S) o).run P w' = .ok (.value v) w') ∧ K v := by
  obtain ⟨dst, op, ty, pos, after, guard⟩ := o
  cases op with
  | load t x =>
    simp only [compR] at h
    split at h
    · rename_i ha
      injection h with h; subst h
      obtain ⟨a, c, he, hc, hk⟩ := hv
      exact ⟨_, fun w' hw => by simp [execOp, Instr.loadAt, he, Instr.sureAddr, run_loadVar1 ha w' (hw.cell hc)], hk⟩
    · rename_i i ha hi
      injection h with h; subst h
      obtain ⟨a, cs, he, hn, hc, hk⟩ := hv
      exact ⟨_, fun w' hw => by simp [execOp, Instr.loadAt, he, Instr.sureAddr, run_loadVarA ha hi w' hn (hc.ext hw)], hk⟩
    · cases h
  | lookup t m k ok =>
    simp only [compR] at h
    split at h
    · rename_i kt e h1
      split at h
      · rename_i d z h2 h3
        split at h
        · rename_i hp
          injection h with h; subst h
          obtain ⟨es, r, hm, hf, hk⟩ := hv
          obtain ⟨inf, h4, h5⟩ := Option.bind_eq_some_iff.1 h3
          refine ⟨_, fun w' hw => ?_, hk⟩
          have hz : (zeroValue e).run P w' = .ok z w' := by simp [zeroValue, run_info h4, h5]
          rcases hm.ext hw with ⟨he, rfl⟩ | ⟨q, c, he, hh⟩
          · simp only [execOp, Instr.lookup, Sem.run_bind, run_underlying h1, Result.andThen_ok, he, Sem.run_pure, checkKey_plain h2 hp, run_findKey h2 hf]
            cases r with
            | none => cases ok <;> simp [hz, lkpV]
            | some q => cases ok <;> simp [lkpV]
          · simp only [execOp, Instr.lookup, Sem.run_bind, run_underlying h1, Result.andThen_ok, he, getObj, Sem.run, hh, Sem.run_pure, checkKey_plain h2 hp, run_findKey h2 hf]
            cases r with
            | none => cases ok <;> simp [hz, lkpV]
            | some q => cases ok <;> simp [lkpV]
        · cases h
      · cases h
    · cases h
  | call c =>
    obtain ⟨callee, args, argTypes⟩ := c
    simp only [compR] at h
    split at h
    · rename_i x t r h2 h3
      have ea : args = #[x] := by rw [← Array.toArray_toList (xs := args), h2]
      have et : argTypes[0]? = some t := by rw [← Array.getElem?_toList, h3]; rfl
      split at h
      · rename_i kt e hu
        injection h with h; subst h
        obtain ⟨es, hm, hk⟩ := hv
        refine ⟨_, fun w' hw => ?_, hk⟩
        rcases hm.ext hw with ⟨he, rfl⟩ | ⟨r, c, he, hh⟩
        · simp [execOp, resolve, invoke, builtin, Builtin.len_, ea, et, he, run_underlying hu, goInt]
        · simp [execOp, resolve, invoke, builtin, Builtin.len_, ea, et, he, run_underlying hu, goInt, getObj, Sem.run, hh]
      · cases h
    · cases h
  | _ => simp [compR] at h

/-- Runs, and leaves this. -/
def EOk (P : Program) (ρ : Operand → Value) (o : Oper) (w : World) (K : Value → World → Prop) : Prop :=
  ∃ v w', ((execOp ρ o).run P w = .ok (.value v) w' ∨ (v = undef ∧ (execOp ρ o).run P w = .ok .skip w')) ∧ K v w'

theorem execOp_congr (ρ : Operand → Value) {o o' : Oper} (h : o.op = o'.op) (ht : o.type = o'.type) : execOp ρ o = execOp ρ o' := by
  obtain ⟨dst, op, ty, pos, after, guard⟩ := o
  obtain ⟨dst', op', ty', pos', after', guard'⟩ := o'
  simp only at h ht
  subst h ht
  cases op <;> rfl

theorem run_store1 (P : Program) {w : World} {a : Addr} {v old : Value} (hc : w.cell? a = some old) (hf : w.frozen? a = false) (hv : v.oneCell' = true) : (store a v).run P w = .ok () (w.setCell a v) := by
  rw [run_store P w a v .plain hv]; simp [hc, hf]

theorem cells_one {v : Value} (h : v.oneCell' = true) : v.cells = #[v] := by cases v <;> simp [Value.oneCell'] at h <;> rfl

theorem run_storeAll (P : Program) (a : Addr) : ∀ (cs : List Value) (i : Nat) (w : World), (∀ j, j < cs.length → (∃ old, w.cell? (a.add (i + j)) = some old) ∧ w.frozen? (a.add (i + j)) = false) → (∀ c ∈ cs, c.oneCell' = true) →
    (storeCells a cs i).run P w = .ok () (setAll w a cs i)
  | [], i, w, _, _ => by simp [storeCells, setAll]
  | c :: cs, i, w, h, h1 => by
    obtain ⟨⟨old, ho⟩, hf⟩ := h 0 (by simp)
    simp only [Nat.add_zero] at ho hf
    simp only [storeCells, Sem.run_bind, run_store1 P ho hf (h1 c (by simp)), Result.andThen, setAll]
    refine run_storeAll P a cs (i + 1) _ (fun j hj => ?_) (fun c hc => h1 c (by simp [hc]))
    obtain ⟨⟨old', ho'⟩, hf'⟩ := h (j + 1) (by simpa using hj)
    rw [show i + 1 + j = i + (j + 1) from by omega]
    refine ⟨?_, by rw [World.frozen?_setCell]; exact hf'⟩
    by_cases he : a.add i = a.add (i + (j + 1))
    · exact ⟨c, by rw [← he]; exact World.cell?_setCell_same w (a.add i) c ho⟩
    · exact ⟨old', by rw [World.cell?_setCell_other w (a.add i) _ c he]; exact ho'⟩

theorem findNow_at {d : TypeDesc} {k : Value} : ∀ (es : List MapEntry) (i : Nat) {j : Nat} {v : Value}, Instr.findNow d k es i = some (some (j, v)) →
    ∃ q, j = i + q ∧ ∃ e, es[q]? = some e ∧ Instr.sameNow d k e.key = some true
  | [], i, j, v, h => by simp [Instr.findNow] at h
  | e :: es, i, j, v, h => by
    unfold Instr.findNow at h
    split at h
    · rename_i hs
      simp at h
      exact ⟨0, by omega, e, by simp, hs⟩
    · obtain ⟨q, hq, e', he', hs⟩ := findNow_at es (i + 1) h
      exact ⟨q + 1, by omega, e', by simpa using he', hs⟩
    · cases h

theorem ba_beq (a b : ByteArray) : (a == b) = decide (a = b) := by
  cases a with | mk x => cases b with | mk y =>
  have : (ByteArray.mk x == ByteArray.mk y) = (x == y) := rfl
  rw [this]
  by_cases h : x = y
  · subst h; simp
  · have h2 : ByteArray.mk x ≠ ByteArray.mk y := fun e => h (by injection e)
    simp [h, h2]

theorem sameBits_of {d : TypeDesc} {k k' : Value} (h : Instr.sameNow d k k' = some true) : Instr.sameBits 10000 k' k = true := by
  unfold Instr.sameNow at h
  split at h
  · split at h
    · rename_i hk; simp at h; subst hk h; simp [Instr.sameBits]
    · cases h
  · simp only [Option.some.injEq, ba_beq, decide_eq_true_eq] at h; subst h; simp [Instr.sameBits, ba_beq]
  · simp only [Option.some.injEq, beq_iff_eq] at h; subst h; simp [Instr.sameBits]
  · cases h

theorem run_mup {P : Program} {t kt e : TypeId} {d : TypeDesc} (h1 : P.underlying t = some (.map kt e)) (h2 : P.underlying kt = some d) (hp : plainKey d = true) {w : World} {r c : Nat} {es : Array MapEntry} {k v : Value} {q : Option (Nat × Value)}
    (hr : w.heap[r]? = some (.map es c)) (hf : Instr.findNow d k es.toList 0 = some q) : (Instr.mapUpdate t (.map (some r)) k v).run P w = .ok () (setO w r (mupO es c k v q)) := by
  simp only [Instr.mapUpdate, Sem.run_bind, run_underlying h1, Result.andThen, getObj, Sem.run, hr, checkKey_plain h2 hp, run_findKey h2 hf]
  cases q with
  | none => simp [setObj, Sem.run, hr, mupO, setO]
  | some x =>
    obtain ⟨i, old⟩ := x
    obtain ⟨q, hq, e', he', hs⟩ := findNow_at es.toList 0 hf
    have hi : i = q := by omega
    subst hi
    have he2 : es[i]? = some e' := by simpa using he'
    simp [he2, Instr.keyThatStays, sameBits_of hs, setObj, Sem.run, hr, mupO, setO]

theorem sound_e {P : Program} {S : Fr} {w : World} {K : Value → World → Prop} {i : EIns} {o : Oper} (h : compE P o.type o.op = some i) (hv : EVC P i S w K) : EOk P (ev S) o w K := by
  have raw : ∀ op, o.op = op → i = .raw op o.type → EOk P (ev S) o w K := by
    rintro op hop rfl
    obtain ⟨v, w', hr, hk⟩ := hv
    exact ⟨v, w', by rwa [execOp_congr (ev S) (o' := ⟨none, op, o.type, "", #[], none⟩) hop rfl], hk⟩
  obtain ⟨dst, op, ty, pos, after, guard⟩ := o
  cases op with
  | box t x =>
    simp only [compE] at h; injection h with h; subst h
    exact ⟨_, _, .inl (by simp [execOp, Instr.box, newVar, newRow]), hv⟩
  | alloc t =>
    simp only [compE] at h
    split at h
    · rename_i z h1
      injection h with h; subst h
      obtain ⟨inf, h4, h5⟩ := Option.bind_eq_some_iff.1 h1
      have hz : (zeroValue t).run P w = .ok z w := by simp [zeroValue, run_info h4, h5]
      exact ⟨_, _, .inl (by simp [execOp, Instr.alloc, hz, newVar, newRow]), hv⟩
    · cases h
  | store t x v =>
    simp only [compE] at h
    split at h
    · rename_i inf h1 h2
      split at h
      · rename_i hs
        injection h with h; subst h
        obtain ⟨a, old, he, hc, hf, hv1, hk⟩ := hv
        refine ⟨undef, _, .inr ⟨rfl, ?_⟩, hk⟩
        have h0 : a.add 0 = a := by simp [Addr.add]
        simp [execOp, Instr.storeAt, he, Instr.sureAddr, storeVar, run_size h2, hs, cells_one hv1, storeCells, h0, run_store1 P hc hf hv1]
      · cases h
    · rename_i inf h1 h2
      injection h with h; subst h
      obtain ⟨a, cs, he, hv', hn, hc, h1c, hk⟩ := hv
      refine ⟨undef, _, .inr ⟨rfl, ?_⟩, hk⟩
      have := run_storeAll P a cs.toList 0 w (fun j hj => by rw [Nat.zero_add]; exact hc j (by simpa [← hn] using hj)) h1c
      simp [execOp, Instr.storeAt, he, hv', Instr.sureAddr, storeVar, run_size h2, Value.cells, hn, this]
    · cases h
  | makeMap t r =>
    cases r with
    | none =>
      simp only [compE] at h; injection h with h; subst h
      exact ⟨_, _, .inl (by simp [execOp, Instr.makeMap]), hv⟩
    | some r => simp only [compE] at h; injection h with h; exact raw _ rfl h.symm
  | makeSlice t l c =>
    simp only [compE] at h
    split at h
    · rename_i e h1
      split at h
      · rename_i inf h2
        split at h
        · rename_i z hz
          split at h
          · rename_i hzs
            injection h with h; subst h
            obtain ⟨k, q, n, m, hl, hc, h0, hnm, hm, hb, hk⟩ := hv
            refine ⟨_, _, .inl ?_, hk⟩
            have wn : IntKind.i64.wrap n = n := IntWalk.i64_in n (by omega)
            have wm : IntKind.i64.wrap m = m := IntWalk.i64_in m (by omega)
            have b1 : ¬ (m < 0) := by omega
            have b2 : ¬ ((inf.bytes : Int) * m > 281474976710656) := by omega
            have b3 : ¬ (n < 0) := by omega
            have b4 : ¬ (n > m) := by omega
            have hz' : (zeroValue e).run P w = .ok z w := by simp [zeroValue, run_info h2, hz]
            by_cases hm0 : m.toNat * inf.size = 0
            · simp [execOp, Instr.makeSlice, run_underlying h1, hl, hc, asInt, asIntOf, run_info h2, wn, wm, b1, b2, b3, b4, run_size h2, hm0, newRow, zeros]
              have : ∀ (f g : Nat → Value), Array.map f (Array.range 0) = Array.map g (Array.range 0) := fun _ _ => by simp [show Array.range 0 = #[] from rfl]
              rw [this]
            · simp [execOp, Instr.makeSlice, run_underlying h1, hl, hc, asInt, asIntOf, run_info h2, wn, wm, b1, b2, b3, b4, run_size h2, hm0, newRow, zeros, hz']
          · cases h
        · cases h
      · cases h
    · cases h
  | buildSlice t len ps =>
    simp only [compE] at h
    split at h
    · rename_i e h1
      split at h
      · rename_i inf h2
        split at h
        · rename_i z hz
          split at h
          · rename_i hlen
            injection h with h; subst h
            obtain ⟨cs, hf, hk⟩ := hv
            refine ⟨_, _, .inl ?_, hk⟩
            have hz' : (zeroValue e).run P w = .ok z w := by simp [zeroValue, run_info h2, hz]
            have hfl := fill_ok S ((List.range len).map fun i => (i * inf.size, inf.size)) (fun i => some (i * inf.size, inf.size)) (fun i q hq => by
                rw [List.getElem?_map] at hq
                obtain ⟨i', h1, h2⟩ := Option.map_eq_some_iff.1 hq
                rw [List.getElem?_eq_some_iff] at h1
                obtain ⟨h3, h4⟩ := h1
                simp at h4
                rw [← h2, ← h4]) ps.toList _ cs hf
            have hn : ¬ (len * inf.size > 16777216) := by omega
            simp only [Array.toArray_toList, zeros] at hfl
            have hps : (Array.map (fun (x : Nat × Operand) => match x with | (i, x) => (i, ev S x)) ps).toList = ps.toList.map fun x => (x.1, ev S x.2) := by rw [Array.toList_map]
            have hfl2 : Instr.fill (fun i => some (i * inf.size, inf.size)) ((Array.range (len * inf.size)).map (fun i => (if len * inf.size = 0 then (#[] : Array Value) else z.cells)[i % (if len * inf.size = 0 then (#[] : Array Value) else z.cells).size]!))
                (ps.toList.map fun x => (x.1, ev S x.2)) = some cs.toArray := by
              by_cases hm0 : len * inf.size = 0
              · have e0 : ∀ (f g : Nat → Value), Array.map f (Array.range (len * inf.size)) = Array.map g (Array.range (len * inf.size)) := fun _ _ => by rw [hm0]; simp [show Array.range 0 = #[] from rfl]
                rw [e0 _ (fun i => z.cells[i % z.cells.size]!)]; exact hfl
              · simp only [if_neg hm0]; exact hfl
            have hrun : (Instr.buildSlice t len (ps.map fun (x : Nat × Operand) => match x with | (i, x) => (i, ev S x))).run P w = .ok (.slice (some ⟨w.heap.size, 0, none⟩) len len) (w.alloc (.cells cs.toArray e)) := by
              simp only [Instr.buildSlice, Sem.run_bind, run_underlying h1, Result.andThen_ok, run_size h2, hps]
              rw [if_neg hn]
              by_cases hm0 : len * inf.size = 0
              · rw [if_pos hm0]
                simp only [if_pos hm0] at hfl2
                simp only [Sem.run_bind, Sem.run_pure, Result.andThen_ok]
                rw [hfl2]
                simp [newRow]
              · rw [if_neg hm0]
                simp only [if_neg hm0] at hfl2
                simp only [Sem.run_bind, Sem.run_pure, Result.andThen_ok, hz']
                rw [hfl2]
                simp [newRow]
            simp only [execOp, Sem.run_bind, hrun, Result.andThen_ok, Sem.run_pure]
          · cases h
        · cases h
      · cases h
    · cases h
  | mapUpdate t m k v =>
    simp only [compE] at h
    split at h
    · rename_i kt e h1
      split at h
      · rename_i d h2
        split at h
        · rename_i hp
          injection h with h; subst h
          obtain ⟨r, es, c, q, hm, hr, hf, hk⟩ := hv
          exact ⟨undef, _, .inr ⟨rfl, by simp [execOp, hm, run_mup h1 h2 hp hr hf]⟩, hk⟩
        · injection h with h; exact raw _ rfl h.symm
      · cases h
    · cases h
  | insert t m k v =>
    simp only [compE] at h
    have raw' : i = .raw (.mapUpdate t m k v) ty → EOk P (ev S) ⟨dst, .insert t m k v, ty, pos, after, guard⟩ w K := by
      rintro rfl
      obtain ⟨v', w', hr, hk⟩ := hv
      exact ⟨v', w', hr, hk⟩
    split at h
    · rename_i kt e h1
      split at h
      · rename_i d h2
        split at h
        · rename_i hp
          injection h with h; subst h
          obtain ⟨r, es, c, q, hm, hr, hf, hk⟩ := hv
          exact ⟨undef, _, .inr ⟨rfl, by simp [execOp, hm, run_mup h1 h2 hp hr hf]⟩, hk⟩
        · injection h with h; exact raw' h.symm
      · cases h
    · cases h
  | range t x =>
    simp only [compE] at h
    split at h
    · rename_i h1
      injection h with h; subst h
      obtain ⟨s, he, hk⟩ := hv
      exact ⟨_, _, .inl (by simp [execOp, Instr.range, he, run_underlying h1]), hk⟩
    · injection h with h; exact raw _ rfl h.symm
    · cases h
  | next x b =>
    cases b with
    | true =>
      simp only [compE] at h; injection h with h; subst h
      obtain ⟨r, s, p, he, hr, h1, h2⟩ := hv
      by_cases hp : p < s.size
      · refine ⟨_, _, .inl ?_, h1 hp⟩
        simp [execOp, Instr.next, he, getObj, setObj, Sem.run, hr, hp, goInt, setO]
      · refine ⟨_, _, .inl ?_, h2 hp⟩
        simp [execOp, Instr.next, he, getObj, Sem.run, hr, hp]
    | false => simp only [compE] at h; injection h with h; exact raw _ rfl h.symm
  | lookup t m k ok => simp only [compE] at h; injection h with h; exact raw _ rfl h.symm
  | mapEntry t m k => simp only [compE] at h; injection h with h; exact raw _ rfl h.symm
  | entryStore t m s x => simp only [compE] at h; injection h with h; exact raw _ rfl h.symm
  | entry x => simp only [compE] at h; injection h with h; exact raw _ rfl h.symm
  | typeAssert x t a ok => simp only [compE] at h; injection h with h; exact raw _ rfl h.symm
  | convert s d x => simp only [compE] at h; injection h with h; exact raw _ rfl h.symm
  | call c =>
    obtain ⟨callee, args, argTypes⟩ := c
    simp only [compE] at h
    split at h
    · rename_i s x t u h2 h3
      split at h
      · rename_i e h1
        split at h
        · rename_i inf h4
          split at h
          · rename_i z hz
            split at h
            · rename_i hc
              injection h with h; subst h
              have ea : args = #[s, x] := by rw [← Array.toArray_toList (xs := args), h2]
              have et : argTypes = #[t, u] := by rw [← Array.toArray_toList (xs := argTypes), h3]
              obtain ⟨ty', v', w', hr, hk⟩ := hv ⟨h1, inf, z, h4, hz, rfl, rfl, hc.2.1, hc.2.2⟩
              have hr' : (Builtin.append_ #[t, t] ty #[ev S s, ev S x]).run P w = .ok v' w' := by simpa [Builtin.append_] using hr
              refine ⟨v', w', .inl ?_, hk⟩
              simp [execOp, resolve, invoke, builtin, ea, et, ← hc.1, hr']
            · injection h with h; exact raw _ rfl h.symm
          · cases h
        · cases h
      · cases h
    · injection h with h; exact raw _ rfl h.symm
    · injection h with h; exact raw _ rfl h.symm
    · injection h with h; exact raw _ rfl h.symm
    · injection h with h; exact raw _ rfl h.symm
    · cases h
  | _ => simp [compE] at h

theorem run_callFunc {P : Program} {f : FuncId} (h : okF P f = true) (args : Array Value) (w : World) : (callFunc f args).run P w = .ok (.enter f args) w := by
  unfold okF at h
  cases hf : P.funcs[f]? with
  | none => simp [hf] at h
  | some fn =>
    simp only [hf, Bool.and_eq_true, Bool.not_eq_true'] at h
    have h2 : fn.body.isNone = false := by cases hb : fn.body <;> simp [hb] at h ⊢
    simp only [callFunc, Sem.run_bind, run_program, Result.andThen_ok, hf, h.2, h2, Bool.false_eq_true, if_false, Sem.run_pure]

theorem sound_c {P : Program} {S : Fr} {w : World} {K : Value → World → Prop} {i : CIns} {o : Oper} (h : compC P o.op = some i) (hv : CVC P i S w K) :
    ∃ f args, (∀ w', (execOp (ev S) o).run P w' = .ok (.enter f args) w') ∧ Ret P f args w K := by
  obtain ⟨dst, op, ty, pos, after, guard⟩ := o
  cases op with
  | call c =>
    obtain ⟨callee, args, argTypes⟩ := c
    simp only [compC] at h
    split at h
    · rename_i f
      split at h
      · rename_i hf
        injection h with h; subst h
        refine ⟨f, (args.toList.map (ev S)).toArray, fun w' => ?_, hv⟩
        simp [execOp, resolve, invoke, Deferred.ofValue, ev, run_callFunc hf]
        rw [← Array.toList_map]
      · cases h
    · rename_i x hx
      injection h with h; subst h
      obtain ⟨f, first, cap, he, hf, hr⟩ := hv
      refine ⟨f, _, fun w' => ?_, hr⟩
      simp [execOp, resolve, invoke, Deferred.ofValue, he, run_callFunc hf]
      rw [← Array.toList_map]
    · rename_i x m
      injection h with h; subst h
      obtain ⟨t, v, f, r, he, hf, hm, hr⟩ := hv
      refine ⟨f, _, fun w' => ?_, hr⟩
      have e3 : args.map (ev S) = (args.toList.map (ev S)).toArray := by rw [← Array.toList_map]
      simp [execOp, resolve, invoke, callMethod, he, run_program, hm, run_callFunc hf, e3]
      rw [List.take_of_length_le (by simp)]
    · cases h
  | _ => simp [compC] at h
end Lite
end
section
/- Lite, between 4 and 5: whichever order: a condition on the world that holds as long as something that reads is still to come. -/
set_option maxRecDepth 4000
namespace Lite
open Go Go.RowKit

/-- Does j wait for i, by way of others too? -/
def anc (md : Region.Mode) (ops : Array Oper) : Nat → Nat → Nat → Bool
  | 0, _, _ => false
  | n + 1, j, i => match ops[j]? with
    | some o => o.after.toList.any fun e => Region.binds md e && (e.on == i || anc md ops n e.on i)
    | none => false
/-- What is listed has all listed for which it waits. -/
def Cl (md : Region.Mode) (ops : Array Oper) (listed : Array Bool) : Prop := ∀ j o, ops[j]? = some o → listed.getD j false = true → ∀ e ∈ o.after, Region.binds md e = true → listed.getD e.on false = true
theorem Cl.anc {md : Region.Mode} {ops : Array Oper} {listed : Array Bool} (hc : Cl md ops listed) : ∀ (n j i : Nat), (∀ o, ops[j]? = some o → ∀ e ∈ o.after, Region.binds md e = true → listed.getD e.on false = true) → anc md ops n j i = true → listed.getD i false = true
  | 0, _, _, _, h => by cases h
  | n + 1, j, i, hd, h => by
    simp only [Lite.anc] at h
    split at h
    · rename_i o ho
      obtain ⟨e, he, h1⟩ := List.any_eq_true.1 h
      simp only [Bool.and_eq_true, Bool.or_eq_true, beq_iff_eq] at h1
      have hl := hd o ho e (by simpa using he) h1.1
      rcases h1.2 with rfl | h2
      · exact hl
      · exact hc.anc n e.on i (fun o' ho' e' he' hb => hc e.on o' ho' hl e' he' hb) h2
    · cases h
section
variable {P : Program} {ops : Array Oper} {Q : Exit → Act → World → Prop} {md : Region.Mode} {S : World → Prop} {F : Nat → Bool}
theorem Cl.put {i : Nat} {listed : Array Bool} (hc : Cl md ops listed) (hr : i ∈ Region.ready md ops listed) : Cl md ops (listed.setIfInBounds i true) := by
  intro j o ho hj e he hb
  by_cases hji : i = j
  · subst hji
    obtain ⟨_, o', ho', hall⟩ := mem_ready.1 hr
    obtain rfl := Option.some.inj (ho.symm.trans ho')
    exact getD_set_true (hall e he hb)
  · rw [getD_set_ne false hji] at hj
    exact getD_set_true (hc j o ho hj e he hb)
theorem Cl.start (n : Nat) : Cl md ops (Array.replicate n false) := by
  intro j o _ hj
  by_cases h : j < n <;> simp [h] at hj
end
/-! ### The same inside a fence: a round may be called, too -/
section
variable {Fe : Fence} {n : Nat} {P : Program} {ops : Array Oper} {Q : Exit → Act → World → Prop} {md : Region.Mode} {S : World → Prop} {F : Nat → Bool}
theorem yields_wpOpIn {i : Nat} {o : Oper} {v : Value} {a : Act} {T : World → Prop} (hfn : ∀ f, Fe.fn f) (hnd : ∀ c, o.op ≠ .defer c) (hi : ops[i]? = some o) (hy : YieldsIf P ops T o v a)
    {K : Act → World → Prop} {w : World} (hS : T w) (h : K (a.put o.dst v) w) : wpOpIn Fe n P ops Q i K a w := by
  unfold Go.wpOpIn
  simp only [hi]
  rcases hy with ⟨hw, hv⟩ | ⟨hw, rfl⟩
  · simp only [hw, if_true, Oper.wpIn, Oper.semAt_eq _ _ _ hnd, hv w hS, Oper.uponIn]; exact ⟨fun f _ => hfn f, h⟩
  · simp only [hw, Bool.false_eq_true, if_false]; exact ⟨fun f _ => hfn f, h⟩
theorem wpOpIn_putIf {j : Nat} {oi oj : Oper} {v : Value} {T : World → Prop} (hfn : ∀ f, Fe.fn f) (hnd : ∀ c, oj.op ≠ .defer c) (hj : ops[j]? = some oj) (hap : oi.apart ops oj = true)
    (hsi : ∀ cs b, oi.op ≠ .select cs b) (hsj : ∀ cs b, oj.op ≠ .select cs b)
    (hQ : ∀ c a w, Q (.panic c) (a.put oi.dst v) w → Q (.panic c) a w) {K : Act → World → Prop} {a : Act} {w : World}
    (hy : YieldsIf P ops T oi v a) (h : wpOpIn Fe n P ops Q j K (a.put oi.dst v) w) :
    wpOpIn Fe n P ops Q j (fun a' w' => YieldsIf P ops T oi v a' ∧ K (a'.put oi.dst v) w') a w := by
  obtain ⟨h1, h2, h3⟩ := Oper.apart_spec hap
  have keep : ∀ (a : Act), YieldsIf P ops T oi v a → ∀ u, YieldsIf P ops T oi v (a.put oj.dst u) := fun a hy u =>
    hy.of_same (execOp_put oi hsi a oj.dst u h3) (wanted_put oi a oj.dst u h3)
  unfold wpOpIn at *
  simp only [hj] at *
  rw [wanted_put oj a oi.dst v h1] at h
  split
  · rename_i hw
    simp only [hw, if_true] at h
    unfold Oper.wpIn at *
    refine ⟨fun f _ => hfn f, ?_⟩
    have h := h.2
    rw [Oper.semAt_eq _ _ _ hnd, execOp_put oj hsj a oi.dst v h1] at h
    rw [Oper.semAt_eq _ _ _ hnd]
    generalize (execOp a.eval oj).run P w = r at *
    cases r with
    | ok x w' =>
      cases x <;> simp only [Oper.uponIn] at h ⊢
      case value u => exact ⟨keep a hy u, by rw [← Act.put_comm a v u h2]; exact h⟩
      case skip => exact ⟨keep a hy _, by rw [← Act.put_comm a v undef h2]; exact h⟩
      case defer d =>
        refine ⟨hy.of_same rfl rfl |> fun hy' => keep { a with defers := d :: a.defers } hy' _, ?_⟩
        rw [← Act.put_comm _ v undef h2, ← Act.put_defers]
        exact h
      case enter f args =>
        refine ⟨h.1, CallsIn.mono h.2 fun e w'' he => ?_⟩
        cases e with
        | returned u => exact ⟨keep a hy u, by rw [← Act.put_comm a v u h2]; exact he⟩
        | panicked c => exact hQ _ _ _ he
        | outgrown => exact he
      case row row args => exact ⟨h.1, RowsIn.mono h.2 fun u w'' he => ⟨keep a hy u, by rw [← Act.put_comm a v u h2]; exact he⟩⟩
      case round l f tmps assign body =>
        refine ⟨h.1, RoundIn.mono h.2 fun e w'' he => ?_⟩
        cases e with
        | returned u => exact ⟨keep a hy u, by rw [← Act.put_comm a v u h2]; exact he⟩
        | panicked c => exact hQ _ _ _ he
        | outgrown => exact he
    | halt x w' =>
      cases x <;> simp only [Oper.uponIn] at h ⊢
      case panic u => exact hQ _ _ _ h
  · rename_i hw
    simp only [hw] at h
    exact ⟨fun f _ => hfn f, keep a hy _, by rw [← Act.put_comm a v undef h2]; exact h.2⟩
def wpAnyG (Fe : Fence) (n : Nat) (P : Program) (md : Region.Mode) (ops : Array Oper) (Q : Exit → Act → World → Prop) (S : World → Prop) (F : Nat → Bool) : Nat → Array Bool → Act → World → Prop
  | 0, listed, a, w => Region.ready md ops listed = [] ∧ Q .normal a w
  | fuel + 1, listed, a, w =>
    (Region.ready md ops listed = [] → Q .normal a w) ∧
    ∀ i ∈ Region.ready md ops listed, wpOpIn Fe n P ops Q i (fun a' w' => (F i = false → S w → S w') ∧ wpAnyG Fe n P md ops Q S F fuel (listed.setIfInBounds i true) a' w') a w
theorem wpAnyIn_of_G : ∀ (fuel : Nat) (listed : Array Bool) (a : Act) (w : World), wpAnyG Fe n P md ops Q S F fuel listed a w → wpAnyIn Fe n P md ops Q fuel listed a w
  | 0, _, _, _, h => h
  | fuel + 1, _, _, _, h => ⟨h.1, fun i hi => wpOpIn_mono (fun a' w' h' => wpAnyIn_of_G fuel _ a' w' h'.2) (h.2 i hi)⟩
theorem wpAnyG_first {i : Nat} {oi : Oper} {v : Value} {T : World → Prop} (hfn : ∀ f, Fe.fn f) (hnd : ∀ (i : Nat) (o : Oper), ops[i]? = some o → ∀ c, o.op ≠ .defer c) (hi : ops[i]? = some oi) (hsel : ∀ (j : Nat) (o : Oper) cs b, ops[j]? = some o → o.op ≠ .select cs b)
    (hQ : ∀ c a w, Q (.panic c) (a.put oi.dst v) w → Q (.panic c) a w) (hT : (∀ w, T w) ∨ ((∀ w, T w ↔ S w) ∧ ∀ j, F j = true → anc md ops ops.size j i = true)) :
    ∀ (fuel : Nat) (listed : Array Bool) (a : Act) (w : World), Cl md ops listed →
      (∀ j oj, ops[j]? = some oj → j ≠ i → listed.getD j true = false → (∀ e ∈ oj.after, Region.binds md e = true → e.on ≠ i) → oi.apart ops oj = true) →
      i ∈ Region.ready md ops listed → YieldsIf P ops T oi v a → T w →
      wpAnyG Fe n P md ops Q S F fuel (listed.setIfInBounds i true) (a.put oi.dst v) w → wpAnyG Fe n P md ops Q S F (fuel + 1) listed a w := by
  intro fuel
  induction fuel with
  | zero =>
    intro listed a w _ _ hr hy hS H
    refine ⟨fun h => (by rw [h] at hr; cases hr), fun j hj => ?_⟩
    by_cases hji : j = i
    · subst hji; exact yields_wpOpIn hfn (hnd _ _ hi) hi hy hS ⟨fun _ h => h, H⟩
    · have := ready_mono hj hji
      rw [H.1] at this
      cases this
  | succ fuel ih =>
    intro listed a w hcl hfree hr hy hS H
    refine ⟨fun h => (by rw [h] at hr; cases hr), fun j hj => ?_⟩
    by_cases hji : j = i
    · subst hji; exact yields_wpOpIn hfn (hnd _ _ hi) hi hy hS ⟨fun _ h => h, H⟩
    · have h1 := H.2 j (ready_mono hj hji)
      obtain ⟨hjun, oj, hoj, hall⟩ := mem_ready.1 hj
      have hiun : ¬ listed.getD i false = true := fun h1 => by
        have h0 := (mem_ready.1 hr).1
        rcases Nat.lt_or_ge i listed.size with h' | h'
        · simp [h'] at h0 h1; rw [h0] at h1; cases h1
        · simp [Array.getElem?_eq_none h'] at h1
      have hnot : ∀ e ∈ oj.after, Region.binds md e = true → e.on ≠ i := fun e he hb heq => hiun (heq ▸ hall e he hb)
      have hjT : ∀ w', ((F j = false → S w → S w') → T w') := by
        rcases hT with hT | ⟨hTS, hF⟩
        · exact fun w' _ => hT w'
        · intro w' h
          refine (hTS w').2 (h ?_ ((hTS w).1 hS))
          cases hFj : F j with
          | false => rfl
          | true => exact absurd (hcl.anc _ _ _ (fun o ho e he hb => by obtain rfl := Option.some.inj (hoj.symm.trans ho); exact hall e he hb) (hF j hFj)) hiun
      have h2 := wpOpIn_putIf hfn (hnd _ _ hoj) hoj (hfree j oj hoj hji hjun hnot) (fun cs b => hsel i oi cs b hi) (fun cs b => hsel j oj cs b hoj) hQ hy h1
      have hfree' : ∀ k ok, ops[k]? = some ok → k ≠ i → (listed.setIfInBounds j true).getD k true = false →
          (∀ e ∈ ok.after, Region.binds md e = true → e.on ≠ i) → oi.apart ops ok = true := fun k ok hk hki hun hno => by
        refine hfree k ok hk hki ?_ hno
        by_cases hjk : j = k
        · subst hjk; exact hjun
        · rw [getD_set_ne true hjk] at hun; exact hun
      refine wpOpIn_mono (fun a' w' h3 => ⟨h3.2.1, ih (listed.setIfInBounds j true) a' w' (hcl.put hj) hfree' (ready_mono hr (Ne.symm hji)) h3.1 (hjT w' h3.2.1) ?_⟩) h2
      rw [Array.setIfInBounds_comm _ _ hji]
      exact h3.2.2
theorem wpAnyG_take {i : Nat} {oi : Oper} {v : Value} {fuel : Nat} {listed : Array Bool} {a : Act} {w : World} {T : World → Prop} (hfn : ∀ f, Fe.fn f) (hnd : ∀ (i : Nat) (o : Oper), ops[i]? = some o → ∀ c, o.op ≠ .defer c) (hi : ops[i]? = some oi)
    (hs : Region.noSelect ops = true) (hc : Cl md ops listed) (hf : Region.free md ops listed i = true) (hr : (Region.ready md ops listed).contains i = true)
    (hQ : ∀ c a w, Q (.panic c) (a.put oi.dst v) w → Q (.panic c) a w) (hT : (∀ w, T w) ∨ ((∀ w, T w ↔ S w) ∧ ∀ j, F j = true → anc md ops ops.size j i = true)) (hy : YieldsIf P ops T oi v a) (hS : T w)
    (h : wpAnyG Fe n P md ops Q S F fuel (listed.setIfInBounds i true) (a.put oi.dst v) w) : wpAnyG Fe n P md ops Q S F (fuel + 1) listed a w :=
  wpAnyG_first hfn hnd hi (Region.noSelect_spec hs) hQ hT fuel listed a w hc (Region.free_spec hi hf) (by simpa using hr) hy hS h
theorem wpAnyG_all {rs : List Nat} {fuel : Nat} {listed : Array Bool} {a : Act} {w : World} (hr : Region.ready md ops listed = rs) (hne : rs ≠ [])
    (h : ∀ i ∈ rs, wpOpIn Fe n P ops Q i (fun a' w' => (F i = false → S w → S w') ∧ wpAnyG Fe n P md ops Q S F fuel (listed.setIfInBounds i true) a' w') a w) : wpAnyG Fe n P md ops Q S F (fuel + 1) listed a w :=
  ⟨fun h0 => absurd (hr ▸ h0) hne, hr ▸ h⟩
theorem wpAnyG_done {listed : Array Bool} {a : Act} {w : World} (hr : Region.ready md ops listed = []) (h : Q .normal a w) : ∀ fuel, wpAnyG Fe n P md ops Q S F fuel listed a w
  | 0 => ⟨hr, h⟩
  | _ + 1 => ⟨fun _ => h, by rw [hr]; simp⟩
end
end Lite
end
