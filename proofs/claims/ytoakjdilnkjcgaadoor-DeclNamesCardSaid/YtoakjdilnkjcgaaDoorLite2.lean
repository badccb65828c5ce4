/- Lite, part 2: the pure instructions. -/
import Derived.Test.YtoakjdilnkjcgaaDoorLite1
set_option linter.all false
set_option maxRecDepth 4000
namespace Lite
open Go Go.RowKit

inductive PIns where
  | mv (x : Operand)
  | pick (c a b : Operand)
  | bin (op : BinOp) (t : TypeId) (x y : Operand)
  | un (op : UnOp) (x : Operand)
  | cnv (k : IntKind) (x : Operand)
  | same (x : Operand)
  | fa (off : Nat) (x : Operand)
  | ia (sz : Nat) (x i : Operand)
  | iaA (len sz : Nat) (x i : Operand)
  | ixS (x i : Operand)
  | ixA (len : Nat) (x i : Operand)
  | fld (off : Nat) (x : Operand)
  | fldA (off n : Nat) (x : Operand)
  | bld (z : List Value) (pl : List (Nat × Nat)) (parts : List (Nat × Operand))
  | mkF (f : FuncId) (first cap : List Operand)
  | slc (sz : Nat) (x : Operand) (lo hi mx : Option Operand)
  | slcS (x : Operand) (lo hi : Option Operand)
  | ext (x : Operand) (i : Nat)
  | lenS (x : Operand)
  | lenL (x : Operand)
  | capL (x : Operand)
  | konst (v : Value)
  | maxI (x y : Operand)
  | minI (x y : Operand)
  | mkI (t : TypeId) (x : Operand)
  | nilC (x : Operand)

def UnVC (op : UnOp) (x : Value) (K : Value → Prop) : Prop :=
  match op, x with
  | .not, .bool b => K (.bool (!b))
  | .neg, .int k n => WrapVC k (0 - n) K
  | .xor, .int k n => K (.int k (bits .xor k (if k.signed then -1 else k.max) n))
  | _, _ => False
theorem un_not (b : Bool) (K : Value → Prop) : UnVC .not (.bool b) K = K (.bool (!b)) := rfl
theorem un_neg (k : IntKind) (n : Int) (K : Value → Prop) : UnVC .neg (.int k n) K = WrapVC k (0 - n) K := rfl
def CnvVC (k : IntKind) (x : Value) (K : Value → Prop) : Prop := ∃ q n, x = .int q n ∧ WrapVC k n K
theorem cnv_int (k q : IntKind) (n : Int) (K : Value → Prop) : CnvVC k (.int q n) K = WrapVC k n K := by
  unfold CnvVC; apply propext; constructor
  · rintro ⟨q', n', h, hk⟩; injection h with h1 h2; subst h1 h2; exact hk
  · exact fun h => ⟨q, n, rfl, h⟩
def FaVC (off : Nat) (x : Value) (K : Value → Prop) : Prop := ∃ a, x = .pointer (some a) ∧ K (.pointer (some (a.add off)))
theorem fa_ptr (off : Nat) (a : Addr) (K : Value → Prop) : FaVC off (.pointer (some a)) K = K (.pointer (some (a.add off))) := by
  unfold FaVC; apply propext; constructor
  · rintro ⟨b, h, hk⟩; injection h with h; injection h with h; subst h; exact hk
  · exact fun h => ⟨a, rfl, h⟩
def IaVC (sz : Nat) (x i : Value) (K : Value → Prop) : Prop :=
  ∃ a len cap k n, x = .slice (some a) len cap ∧ i = .int k n ∧ 0 ≤ n ∧ n < len ∧ K (.pointer (some (a.add (n.toNat * sz))))
theorem ia_ok {sz : Nat} {a : Addr} {len cap : Nat} {k : IntKind} {n : Int} {K : Value → Prop} (h : 0 ≤ n ∧ n < len) (hk : K (.pointer (some (a.add (n.toNat * sz))))) :
    IaVC sz (.slice (some a) len cap) (.int k n) K := ⟨a, len, cap, k, n, rfl, rfl, h.1, h.2, hk⟩
/-- At a plain index. -/
theorem ia_nat {sz : Nat} {a : Addr} {len cap : Nat} {k : IntKind} {n : Int} {K : Value → Prop} (i : Nat) (hi : n = i) (h : i < len) (hk : K (.pointer (some (a.add (i * sz))))) :
    IaVC sz (.slice (some a) len cap) (.int k n) K := by
  subst hi; exact ⟨a, len, cap, k, i, rfl, rfl, by omega, by omega, by simpa using hk⟩
def IaAVC (len sz : Nat) (x i : Value) (K : Value → Prop) : Prop :=
  ∃ a k n, x = .pointer (some a) ∧ i = .int k n ∧ 0 ≤ n ∧ n < len ∧ K (.pointer (some (a.add (n.toNat * sz))))
theorem iaA_ok {sz : Nat} {a : Addr} {len : Nat} {k : IntKind} {n : Int} {K : Value → Prop} (h : 0 ≤ n ∧ n < len) (hk : K (.pointer (some (a.add (n.toNat * sz))))) :
    IaAVC len sz (.pointer (some a)) (.int k n) K := ⟨a, k, n, rfl, rfl, h.1, h.2, hk⟩
def IxSVC (x i : Value) (K : Value → Prop) : Prop :=
  ∃ s k n c, x = .string s ∧ i = .int k n ∧ 0 ≤ n ∧ s[n.toNat]? = some c ∧ K (.int .u8 c.toNat)
theorem ixS_ok {s : ByteArray} {k : IntKind} {n : Int} {K : Value → Prop} (c : UInt8) (h0 : 0 ≤ n) (h : s[n.toNat]? = some c) (hk : K (.int .u8 c.toNat)) :
    IxSVC (.string s) (.int k n) K := ⟨s, k, n, c, rfl, rfl, h0, h, hk⟩
def IxAVC (len : Nat) (x i : Value) (K : Value → Prop) : Prop :=
  ∃ cs k n v, x = .agg cs ∧ i = .int k n ∧ 0 ≤ n ∧ n < len ∧ cs[n.toNat]? = some v ∧ K v
theorem ixA_ok {len : Nat} {cs : Array Value} {k : IntKind} {n : Int} {K : Value → Prop} (v : Value) (h0 : 0 ≤ n ∧ n < len) (h : cs[n.toNat]? = some v) (hk : K v) :
    IxAVC len (.agg cs) (.int k n) K := ⟨cs, k, n, v, rfl, rfl, h0.1, h0.2, h, hk⟩
def FldVC (off : Nat) (x : Value) (K : Value → Prop) : Prop := ∃ cs v, x = .agg cs ∧ cs[off]? = some v ∧ K v
theorem fld_ok {off : Nat} {cs : Array Value} {K : Value → Prop} {v : Value} (h : cs[off]? = some v) (hk : K v) : FldVC off (.agg cs) K := ⟨cs, v, rfl, h, hk⟩
def FldAVC (off n : Nat) (x : Value) (K : Value → Prop) : Prop := ∃ cs, x = .agg cs ∧ K (.agg (cs.extract off (off + n)))
theorem fldA_agg (off n : Nat) (cs : Array Value) (K : Value → Prop) : FldAVC off n (.agg cs) K = K (.agg (cs.extract off (off + n))) := by
  unfold FldAVC; apply propext; constructor
  · rintro ⟨b, h, hk⟩; injection h with h; subst h; exact hk
  · exact fun h => ⟨cs, rfl, h⟩
/-- One part laid into its cells. -/
def lay (cs : List Value) (off : Nat) (v : Value) : List Value := v.cells.toList.zipIdx.foldl (fun cs (x : Value × Nat) => cs.set (off + x.2) x.1) cs
/-- The parts laid into the zero cells. -/
def fillC (S : Fr) (pl : List (Nat × Nat)) : List (Nat × Operand) → List Value → Option (List Value)
  | [], cs => some cs
  | (i, x) :: r, cs =>
    match pl[i]? with
    | none => none
    | some (off, n) => if (ev S x).cells.size = n ∧ off + n ≤ cs.length then fillC S pl r (lay cs off (ev S x)) else none
def BldVC (S : Fr) (z : List Value) (pl : List (Nat × Nat)) (ps : List (Nat × Operand)) (K : Value → Prop) : Prop := ∃ cs, fillC S pl ps z = some cs ∧ K (.agg cs.toArray)
theorem bld_ok {S : Fr} {z cs : List Value} {pl : List (Nat × Nat)} {ps : List (Nat × Operand)} {K : Value → Prop} (h : fillC S pl ps z = some cs) (hk : K (.agg cs.toArray)) : BldVC S z pl ps K := ⟨cs, h, hk⟩
/-- A bound of a slice expression. -/
def bnd (S : Fr) (o : Option Operand) (d : Nat) : Option Nat :=
  match o with
  | none => some d
  | some x => match ev S x with | .int _ n => if 0 ≤ n then some n.toNat else none | _ => none
def SlcVC (S : Fr) (sz : Nat) (x : Value) (lo hi mx : Option Operand) (K : Value → Prop) : Prop :=
  ∃ a len cap l h m, x = .slice a len cap ∧ bnd S lo 0 = some l ∧ bnd S hi len = some h ∧ bnd S mx cap = some m ∧ l ≤ h ∧ h ≤ m ∧ m ≤ cap ∧ (mx.isSome = true → hi.isSome = true) ∧
    K (.slice (if m = l then a else a.map (·.add (l * sz))) (h - l) (m - l))
theorem slc_ok {S : Fr} {sz : Nat} {a : Option Addr} {len cap : Nat} {lo hi mx : Option Operand} {K : Value → Prop} (l h m : Nat) (h1 : bnd S lo 0 = some l) (h2 : bnd S hi len = some h) (h3 : bnd S mx cap = some m)
    (h4 : l ≤ h ∧ h ≤ m ∧ m ≤ cap) (h5 : mx.isSome = true → hi.isSome = true) (hk : K (.slice (if m = l then a else a.map (·.add (l * sz))) (h - l) (m - l))) : SlcVC S sz (.slice a len cap) lo hi mx K :=
  ⟨a, len, cap, l, h, m, rfl, h1, h2, h3, h4.1, h4.2.1, h4.2.2, h5, hk⟩
def SlcSVC (S : Fr) (x : Value) (lo hi : Option Operand) (K : Value → Prop) : Prop :=
  ∃ s l h, x = .string s ∧ bnd S lo 0 = some l ∧ bnd S hi s.size = some h ∧ l ≤ h ∧ h ≤ s.size ∧ K (.string (s.extract l h))
theorem slcS_ok {S : Fr} {s : ByteArray} {lo hi : Option Operand} {K : Value → Prop} (l h : Nat) (h1 : bnd S lo 0 = some l) (h2 : bnd S hi s.size = some h) (h4 : l ≤ h ∧ h ≤ s.size) (hk : K (.string (s.extract l h))) :
    SlcSVC S (.string s) lo hi K := ⟨s, l, h, rfl, h1, h2, h4.1, h4.2, hk⟩
def ExtVC (x : Value) (i : Nat) (K : Value → Prop) : Prop := ∃ vs v, x = .tuple vs ∧ vs[i]? = some v ∧ K v
theorem ext_0 (v : Value) (vs : List Value) (K : Value → Prop) : ExtVC (.tuple (v :: vs).toArray) 0 K = K v := by
  unfold ExtVC; apply propext; constructor
  · rintro ⟨ws, u, h, hu, hk⟩; injection h with h; subst h; simp at hu; subst hu; exact hk
  · exact fun h => ⟨_, v, rfl, by simp, h⟩
theorem ext_1 (v u : Value) (vs : List Value) (K : Value → Prop) : ExtVC (.tuple (v :: u :: vs).toArray) 1 K = K u := by
  unfold ExtVC; apply propext; constructor
  · rintro ⟨ws, x, h, hu, hk⟩; injection h with h; subst h; simp at hu; subst hu; exact hk
  · exact fun h => ⟨_, u, rfl, by simp, h⟩
theorem ext_2 (v u x : Value) (vs : List Value) (K : Value → Prop) : ExtVC (.tuple (v :: u :: x :: vs).toArray) 2 K = K x := by
  unfold ExtVC; apply propext; constructor
  · rintro ⟨ws, x, h, hu, hk⟩; injection h with h; subst h; simp at hu; subst hu; exact hk
  · exact fun h => ⟨_, x, rfl, by simp, h⟩
def LenSVC (x : Value) (K : Value → Prop) : Prop := ∃ s, x = .string s ∧ K (.int .i64 s.size)
theorem lenS_str (s : ByteArray) (K : Value → Prop) : LenSVC (.string s) K = K (.int .i64 s.size) := by
  unfold LenSVC; apply propext; constructor
  · rintro ⟨b, h, hk⟩; injection h with h; subst h; exact hk
  · exact fun h => ⟨s, rfl, h⟩
def LenLVC (x : Value) (K : Value → Prop) : Prop := ∃ a n c, x = .slice a n c ∧ K (.int .i64 n)
theorem lenL_sl (a : Option Addr) (n c : Nat) (K : Value → Prop) : LenLVC (.slice a n c) K = K (.int .i64 n) := by
  unfold LenLVC; apply propext; constructor
  · rintro ⟨b, n', c', h, hk⟩; injection h with h1 h2 h3; subst h1 h2 h3; exact hk
  · exact fun h => ⟨a, n, c, rfl, h⟩
def CapLVC (x : Value) (K : Value → Prop) : Prop := ∃ a n c, x = .slice a n c ∧ K (.int .i64 c)
theorem capL_sl (a : Option Addr) (n c : Nat) (K : Value → Prop) : CapLVC (.slice a n c) K = K (.int .i64 c) := by
  unfold CapLVC; apply propext; constructor
  · rintro ⟨b, n', c', h, hk⟩; injection h with h1 h2 h3; subst h1 h2 h3; exact hk
  · exact fun h => ⟨a, n, c, rfl, h⟩
def MaxVC (x y : Value) (K : Value → Prop) : Prop := ∃ k q a b, x = .int k a ∧ y = .int q b ∧ K (.int k (max a b))
theorem max_int (k q : IntKind) (a b : Int) (K : Value → Prop) : MaxVC (.int k a) (.int q b) K = K (.int k (max a b)) := by
  unfold MaxVC; apply propext; constructor
  · rintro ⟨k', q', a', b', h, h', hk⟩; injection h with h1 h2; injection h' with h3 h4; subst h1 h2 h3 h4; exact hk
  · exact fun h => ⟨k, q, a, b, rfl, rfl, h⟩
def MinVC (x y : Value) (K : Value → Prop) : Prop := ∃ k q a b, x = .int k a ∧ y = .int q b ∧ K (.int k (min a b))
theorem min_int (k q : IntKind) (a b : Int) (K : Value → Prop) : MinVC (.int k a) (.int q b) K = K (.int k (min a b)) := by
  unfold MinVC; apply propext; constructor
  · rintro ⟨k', q', a', b', h, h', hk⟩; injection h with h1 h2; injection h' with h3 h4; subst h1 h2 h3 h4; exact hk
  · exact fun h => ⟨k, q, a, b, rfl, rfl, h⟩
def NilVC (x : Value) (K : Value → Prop) : Prop := match x with | .pointer (some _) | .func (.func _) _ _ | .iface _ _ => K x | _ => False
theorem nil_ptr (a : Addr) (K : Value → Prop) : NilVC (.pointer (some a)) K = K (.pointer (some a)) := rfl
theorem nil_func (f : FuncId) (a b : Array Value) (K : Value → Prop) : NilVC (.func (.func f) a b) K = K (.func (.func f) a b) := rfl

/-- What a pure instruction asks. -/
def PVC (P : Program) (i : PIns) (S : Fr) (K : Value → Prop) : Prop :=
  match i with
  | .mv x => K (ev S x)
  | .pick c a b => CondVC (ev S c) (K (ev S a)) (K (ev S b))
  | .bin op t x y => BinVC P op t x y (ev S x) (ev S y) K
  | .un op x => UnVC op (ev S x) K
  | .cnv k x => CnvVC k (ev S x) K
  | .same x => ∃ s, ev S x = .string s ∧ K (.string s)
  | .fa off x => FaVC off (ev S x) K
  | .ia sz x i => IaVC sz (ev S x) (ev S i) K
  | .iaA len sz x i => IaAVC len sz (ev S x) (ev S i) K
  | .ixS x i => IxSVC (ev S x) (ev S i) K
  | .ixA len x i => IxAVC len (ev S x) (ev S i) K
  | .fld off x => FldVC off (ev S x) K
  | .fldA off n x => FldAVC off n (ev S x) K
  | .bld z pl ps => BldVC S z pl ps K
  | .mkF f first cap => K (.func (.func f) (first.map (ev S)).toArray (cap.map (ev S)).toArray)
  | .slc sz x lo hi mx => SlcVC S sz (ev S x) lo hi mx K
  | .slcS x lo hi => SlcSVC S (ev S x) lo hi K
  | .ext x i => ExtVC (ev S x) i K
  | .lenS x => LenSVC (ev S x) K
  | .lenL x => LenLVC (ev S x) K
  | .capL x => CapLVC (ev S x) K
  | .konst v => K v
  | .maxI x y => MaxVC (ev S x) (ev S y) K
  | .minI x y => MinVC (ev S x) (ev S y) K
  | .mkI t x => K (.iface t (ev S x))
  | .nilC x => NilVC (ev S x) K

section
variable (P : Program) (S : Fr) (K : Value → Prop)
theorem p_mv (x : Operand) : PVC P (.mv x) S K = K (ev S x) := rfl
theorem p_pick (c a b : Operand) : PVC P (.pick c a b) S K = CondVC (ev S c) (K (ev S a)) (K (ev S b)) := rfl
theorem p_bin (op : BinOp) (t : TypeId) (x y : Operand) : PVC P (.bin op t x y) S K = BinVC P op t x y (ev S x) (ev S y) K := rfl
theorem p_un (op : UnOp) (x : Operand) : PVC P (.un op x) S K = UnVC op (ev S x) K := rfl
theorem p_cnv (k : IntKind) (x : Operand) : PVC P (.cnv k x) S K = CnvVC k (ev S x) K := rfl
theorem p_fa (off : Nat) (x : Operand) : PVC P (.fa off x) S K = FaVC off (ev S x) K := rfl
theorem p_ia (sz : Nat) (x i : Operand) : PVC P (.ia sz x i) S K = IaVC sz (ev S x) (ev S i) K := rfl
theorem p_iaA (len sz : Nat) (x i : Operand) : PVC P (.iaA len sz x i) S K = IaAVC len sz (ev S x) (ev S i) K := rfl
theorem p_ixS (x i : Operand) : PVC P (.ixS x i) S K = IxSVC (ev S x) (ev S i) K := rfl
theorem p_ixA (len : Nat) (x i : Operand) : PVC P (.ixA len x i) S K = IxAVC len (ev S x) (ev S i) K := rfl
theorem p_fld (off : Nat) (x : Operand) : PVC P (.fld off x) S K = FldVC off (ev S x) K := rfl
theorem p_fldA (off n : Nat) (x : Operand) : PVC P (.fldA off n x) S K = FldAVC off n (ev S x) K := rfl
theorem p_bld (z : List Value) (pl : List (Nat × Nat)) (ps : List (Nat × Operand)) : PVC P (.bld z pl ps) S K = BldVC S z pl ps K := rfl
theorem p_mkF (f : FuncId) (first cap : List Operand) : PVC P (.mkF f first cap) S K = K (.func (.func f) (first.map (ev S)).toArray (cap.map (ev S)).toArray) := rfl
theorem p_slc (sz : Nat) (x : Operand) (lo hi mx : Option Operand) : PVC P (.slc sz x lo hi mx) S K = SlcVC S sz (ev S x) lo hi mx K := rfl
theorem p_slcS (x : Operand) (lo hi : Option Operand) : PVC P (.slcS x lo hi) S K = SlcSVC S (ev S x) lo hi K := rfl
theorem p_ext (x : Operand) (i : Nat) : PVC P (.ext x i) S K = ExtVC (ev S x) i K := rfl
theorem p_lenS (x : Operand) : PVC P (.lenS x) S K = LenSVC (ev S x) K := rfl
theorem p_lenL (x : Operand) : PVC P (.lenL x) S K = LenLVC (ev S x) K := rfl
theorem p_capL (x : Operand) : PVC P (.capL x) S K = CapLVC (ev S x) K := rfl
theorem p_konst (v : Value) : PVC P (.konst v) S K = K v := rfl
theorem p_maxI (x y : Operand) : PVC P (.maxI x y) S K = MaxVC (ev S x) (ev S y) K := rfl
theorem p_minI (x y : Operand) : PVC P (.minI x y) S K = MinVC (ev S x) (ev S y) K := rfl
theorem p_mkI (t : TypeId) (x : Operand) : PVC P (.mkI t x) S K = K (.iface t (ev S x)) := rfl
theorem p_nilC (x : Operand) : PVC P (.nilC x) S K = NilVC (ev S x) K := rfl
end

def isAggD : TypeDesc → Bool | .struct _ | .array _ _ => true | _ => false
def isIfD : TypeDesc → Bool | .interface _ => true | _ => false
def aggT (P : Program) (t : TypeId) : Option Bool := (P.underlying t).map isAggD
/-- The operations read as instructions. -/
def compP (P : Program) : Op → Option PIns
  | .move x | .assign x => some (.mv x)
  | .pick c a b => some (.pick c a b)
  | .binOp op t x y _ => some (.bin op t x y)
  | .unOp op _ x => some (.un op x)
  | .convert s d x =>
    match P.underlying s, P.underlying d with
    | some (.int _), some (.int k) => some (.cnv k x)
    | some .string, some .string => some (.same x)
    | _, _ => none
  | .fieldAddr s x f =>
    match P.underlying s with
    | some (.struct fs) => match fs[f]? with
      | some fd => match P.info? fd.type with | some i => if i.size = 0 then none else some (.fa fd.offset x) | none => none
      | none => none
    | _ => none
  | .indexAddr t x i =>
    match P.underlying t with
    | some (.slice e) => match P.info? e with | some inf => some (.ia inf.size x i) | none => none
    | some (.array n e) => match P.info? e with | some inf => if n ≤ 1 then none else some (.iaA n inf.size x i) | none => none
    | _ => none
  | .index t x i =>
    match P.underlying t with
    | some .string => some (.ixS x i)
    | some (.array n e) => match P.info? e, aggT P e with
      | some inf, some false => if inf.size = 1 then some (.ixA n x i) else none
      | _, _ => none
    | _ => none
  | .field t x f =>
    match P.underlying t with
    | some (.struct fs) => match fs[f]? with
      | some fd => match aggT P fd.type, P.info? fd.type with
        | some true, some inf => some (.fldA fd.offset inf.size x)
        | some false, _ => some (.fld fd.offset x)
        | _, _ => none
      | none => none
    | _ => none
  | .makeFunc (.func f) first cap => some (.mkF f first.toList cap.toList)
  | .build t parts =>
    match P.underlying t, (P.info? t).bind (·.zero) with
    | some (.struct fs), some z => if fs.all (fun f => (P.info? f.type).isSome) then some (.bld z.cells.toList (fs.toList.map fun f => (f.offset, P.cellsOf f.type)) parts.toList) else none
    | _, _ => none
  | .slice t x lo hi mx =>
    match P.underlying t with
    | some (.slice e) => match P.info? e with | some inf => some (.slc inf.size x lo hi mx) | none => none
    | some .string => match mx with | none => some (.slcS x lo hi) | some _ => none
    | _ => none
  | .extract x i => some (.ext x i)
  | .makeInterface t x =>
    match (P.underlying t).map isIfD with
    | some false => some (.mkI t x)
    | _ => none
  | .nilCheck x => some (.nilC x)
  | .call c =>
    match c.callee, c.args.toList, c.argTypes.toList with
    | .builtin .len, [x], t :: _ => match P.underlying t with
      | some .string => some (.lenS x)
      | some (.slice _) => some (.lenL x)
      | some (.array n _) => some (.konst (.int .i64 n))
      | _ => none
    | .builtin .cap, [x], t :: _ => match P.underlying t with
      | some (.slice _) => some (.capL x)
      | _ => none
    | .builtin .max, [x, y], _ => some (.maxI x y)
    | .builtin .min, [x, y], _ => some (.minI x y)
    | _, _, _ => none
  | _ => none

/-- Runs without a look at the world. -/
def Pure (P : Program) (ρ : Operand → Value) (o : Oper) (K : Value → Prop) : Prop := ∃ v, (∀ w, (execOp ρ o).run P w = .ok (.value v) w) ∧ K v

theorem run_info {P : Program} {t : TypeId} {i : TypeInfo} (h : P.info? t = some i) (w : World) : (typeInfo t).run P w = .ok i w := by simp [typeInfo, h]
theorem run_size {P : Program} {t : TypeId} {i : TypeInfo} (h : P.info? t = some i) (w : World) : (Go.sizeOf t).run P w = .ok i.size w := by simp [Go.sizeOf, run_info h]

theorem run_bound {k : IntKind} {n : Int} (P : Program) (w : World) {y : Nat} {c : BoundsCode} (h : 0 ≤ n) (hy : n.toNat ≤ y) : (Instr.sliceBound (.int k n) y c).run P w = .ok n.toNat w := by
  have : 0 ≤ n ∧ n ≤ y := by omega
  simp [Instr.sliceBound, asIntOf, this]

theorem bnd_none {S : Fr} {d l : Nat} (h : bnd S none d = some l) : l = d := by simpa [bnd] using h.symm
theorem bnd_some {S : Fr} {x : Operand} {d l : Nat} (h : bnd S (some x) d = some l) : ∃ k n, ev S x = .int k n ∧ 0 ≤ n ∧ l = n.toNat := by
  unfold bnd at h
  split at h
  · rename_i hh; cases hh
  · rename_i y hy; injection hy with hy; subst hy
    split at h
    · rename_i k n he
      split at h
      · exact ⟨k, n, he, by assumption, by simpa using h.symm⟩
      · cases h
    · cases h

theorem run_bounds {S : Fr} {P : Program} (w : World) (sl : Bool) {len cap l h m : Nat} {lo hi mx : Option Operand} (h1 : bnd S lo 0 = some l) (h2 : bnd S hi len = some h) (h3 : bnd S mx cap = some m)
    (h4 : l ≤ h ∧ h ≤ m ∧ m ≤ cap) (h5 : mx.isSome = true → hi.isSome = true) :
    (Instr.sliceBounds sl len cap (lo.map (ev S)) (hi.map (ev S)) (mx.map (ev S))).run P w = .ok (l, h, m) w := by
  unfold Instr.sliceBounds
  cases mx with
  | none =>
    obtain rfl := bnd_none h3
    cases hi with
    | none =>
      obtain rfl := bnd_none h2
      cases lo with
      | none => obtain rfl := bnd_none h1; simp
      | some x =>
        obtain ⟨k, n, he, hn, rfl⟩ := bnd_some h1
        simp [he, run_bound P w hn h4.1]
    | some y =>
      obtain ⟨k, n, he, hn, rfl⟩ := bnd_some h2
      cases lo with
      | none => obtain rfl := bnd_none h1; simp [he, run_bound P w hn h4.2.1]
      | some x =>
        obtain ⟨k', n', he', hn', rfl⟩ := bnd_some h1
        simp [he, he', run_bound P w hn h4.2.1, run_bound P w hn' h4.1]
  | some z =>
    obtain ⟨k2, n2, he2, hn2, rfl⟩ := bnd_some h3
    cases hi with
    | none => simp at h5
    | some y =>
      obtain ⟨k, n, he, hn, rfl⟩ := bnd_some h2
      cases lo with
      | none => obtain rfl := bnd_none h1; simp [he, he2, run_bound P w hn h4.2.1, run_bound P w hn2 h4.2.2]
      | some x =>
        obtain ⟨k', n', he', hn', rfl⟩ := bnd_some h1
        simp [he, he', he2, run_bound P w hn h4.2.1, run_bound P w hn2 h4.2.2, run_bound P w hn' h4.1]

theorem foldl_set_toArray : ∀ (vs : List (Value × Nat)) (off : Nat) (cs : List Value),
    vs.foldl (fun (cs : Array Value) (x : Value × Nat) => cs.setIfInBounds (off + x.2) x.1) cs.toArray = (vs.foldl (fun (cs : List Value) (x : Value × Nat) => cs.set (off + x.2) x.1) cs).toArray
  | [], _, _ => rfl
  | x :: r, off, cs => by
    simp only [List.foldl_cons]
    rw [List.setIfInBounds_toArray]
    exact foldl_set_toArray r off _

theorem fill_ok (S : Fr) (pl : List (Nat × Nat)) (place : Nat → Option (Nat × Nat)) (hpl : ∀ i q, pl[i]? = some q → place i = some q) : ∀ (ps : List (Nat × Operand)) (cs cs' : List Value),
    fillC S pl ps cs = some cs' → Instr.fill place cs.toArray (ps.map fun x => (x.1, ev S x.2)) = some cs'.toArray
  | [], cs, cs', h => by
    simp [fillC] at h; subst h
    simp [Instr.fill]
  | (i, x) :: ps, cs, cs', h => by
    simp only [fillC] at h
    simp only [List.map_cons, Instr.fill]
    cases hp : pl[i]? with
    | none => simp [hp] at h
    | some q =>
      obtain ⟨off, n⟩ := q
      simp only [hp] at h
      simp only [hpl i _ hp]
      split at h
      · rename_i hc
        rw [if_neg (by simp; omega)]
        have e := foldl_set_toArray (ev S x).cells.toList.zipIdx off cs
        have e2 : (ev S x).cells.zipIdx.foldl (fun (cs : Array Value) (x : Value × Nat) => cs.setIfInBounds (off + x.2) x.1) cs.toArray = (lay cs off (ev S x)).toArray := by
          rw [← Array.foldl_toList, Array.toList_zipIdx]; exact e
        show Instr.fill place ((ev S x).cells.zipIdx.foldl (fun (cs : Array Value) (x : Value × Nat) => cs.setIfInBounds (off + x.2) x.1) cs.toArray) _ = _
        rw [e2]
        exact fill_ok S pl place hpl ps _ _ h
      · cases h

theorem mapM_sem {α β : Type} (P : Program) (w : World) (g : α → Sem β) (f : α → β) : ∀ (l : List α), (∀ x ∈ l, (g x).run P w = .ok (f x) w) → (l.mapM g).run P w = .ok (l.map f) w
  | [], _ => by simp
  | x :: l, h => by
    simp [List.mapM_cons, h x (by simp), mapM_sem P w g f l (fun y hy => h y (by simp [hy]))]
theorem mapM_semA {α β : Type} (P : Program) (w : World) (g : α → Sem β) (f : α → β) (l : Array α) (h : ∀ x ∈ l, (g x).run P w = .ok (f x) w) : (l.mapM g).run P w = .ok (l.map f) w := by
  rw [Array.mapM_eq_mapM_toList]
  simp [mapM_sem P w g f l.toList (fun x hx => h x (by simpa using hx))]
  rw [← Array.toList_map]

theorem run_isAgg {P : Program} {t : TypeId} {b : Bool} (h : aggT P t = some b) (w : World) : (isAgg t).run P w = .ok b w := by
  unfold aggT at h
  cases hu : P.underlying t with
  | none => simp [hu] at h
  | some d => cases d <;> simp [hu, isAggD] at h <;> simp [isAgg, run_underlying hu, h]

theorem sound_p {P : Program} {S : Fr} {K : Value → Prop} {i : PIns} {o : Oper} (h : compP P o.op = some i) (hv : PVC P i S K) : Pure P (ev S) o K := by
  obtain ⟨dst, op, ty, pos, after, guard⟩ := o
  unfold Pure
  cases op with
  | move x => simp only [compP] at h; injection h with h; subst h; exact ⟨_, fun w => by simp [execOp], hv⟩
  | assign x => simp only [compP] at h; injection h with h; subst h; exact ⟨_, fun w => by simp [execOp], hv⟩
  | pick c a b =>
    simp only [compP] at h; injection h with h; subst h
    obtain ⟨t, he, h1, h2⟩ := hv
    cases t with
    | true => exact ⟨_, fun w => by simp [execOp, he, asBool], h1 rfl⟩
    | false => exact ⟨_, fun w => by simp [execOp, he, asBool], h2 rfl⟩
  | binOp op t x y u =>
    simp only [compP] at h; injection h with h; subst h
    obtain ⟨v, hr, hk⟩ := hv
    exact ⟨v, fun w => by have := hr w; simp only [execOp, Sem.run_bind, this, Result.andThen, Sem.run_pure], hk⟩
  | unOp op t x =>
    simp only [compP] at h; injection h with h; subst h
    unfold PVC UnVC at hv
    cases hx : ev S x <;> cases op <;> simp [hx] at hv
    · exact ⟨_, fun w => by simp [execOp, Op.unary, hx], hv⟩
    · exact ⟨_, fun w => by simp [execOp, Op.unary, hx, Op.intArith], hv⟩
    · rename_i k n; exact ⟨_, fun w => by simp [execOp, Op.unary, hx]; cases k <;> simp [IntKind.signed, Op.intBits, bits], hv⟩
  | convert s d x =>
    simp only [compP] at h
    split at h
    · rename_i k' k h1 h2
      injection h with h; subst h
      obtain ⟨q, n, he, hk⟩ := hv
      exact ⟨_, fun w => by simp [execOp, he, convert, run_underlying h1, run_underlying h2, Conv.intToInt], hk⟩
    · rename_i h1 h2
      injection h with h; subst h
      obtain ⟨s, he, hk⟩ := hv
      exact ⟨_, fun w => by simp [execOp, he, convert, run_underlying h1, run_underlying h2], hk⟩
    · cases h
  | fieldAddr s x f =>
    simp only [compP] at h
    split at h
    · rename_i fs h1
      split at h
      · rename_i fd h2
        split at h
        · rename_i inf h3
          split at h
          · cases h
          · rename_i h4
            injection h with h; subst h
            obtain ⟨a, he, hk⟩ := hv
            exact ⟨_, fun w => by simp [execOp, he, Instr.fieldAt, run_underlying h1, h2, Instr.sureAddr, fieldPlace, run_size h3, h4], hk⟩
        · cases h
      · cases h
    · cases h
  | indexAddr t x i =>
    simp only [compP] at h
    split at h
    · rename_i e h1
      split at h
      · rename_i inf h2
        injection h with h; subst h
        obtain ⟨a, len, cap, k, n, he, hi, h0, hl, hk⟩ := hv
        exact ⟨_, fun w => by simp [execOp, he, hi, Instr.indexAt, run_underlying h1, asIntOf, h0, hl, run_size h2], hk⟩
      · cases h
    · rename_i n e h1
      split at h
      · rename_i inf h2
        split at h
        · cases h
        · injection h with h; subst h
          obtain ⟨a, k, n, he, hi, h0, hl, hk⟩ := hv
          exact ⟨_, fun w => by simp [execOp, he, hi, Instr.indexAt, run_underlying h1, asIntOf, h0, hl, run_size h2, Instr.sureAddr], hk⟩
      · cases h
    · cases h
  | index t x i =>
    simp only [compP] at h
    split at h
    · rename_i h1
      injection h with h; subst h
      obtain ⟨s, k, n, c, he, hi, h0, hc, hk⟩ := hv
      exact ⟨_, fun w => by simp [execOp, he, hi, Instr.index, run_underlying h1, asIntOf, h0, hc], hk⟩
    · rename_i n e h1
      split at h
      · rename_i inf h2 h3
        split at h
        · rename_i hd
          injection h with h; subst h
          obtain ⟨cs, k, n, v, he, hi, h0, hl, hc, hk⟩ := hv
          exact ⟨_, fun w => by simp [execOp, he, hi, Instr.index, run_underlying h1, asIntOf, h0, hl, run_size h2, hd, part, run_isAgg h3, hc], hk⟩
        · cases h
      · cases h
    · cases h
  | field t x f =>
    simp only [compP] at h
    split at h
    · rename_i fs h1
      split at h
      · rename_i fd h2
        split at h
        · rename_i inf h3 h4
          injection h with h; subst h
          obtain ⟨cs, he, hk⟩ := hv
          exact ⟨_, fun w => by simp [execOp, he, Instr.field, run_underlying h1, h2, asAgg, part, run_isAgg h3, run_size h4], hk⟩
        · rename_i h3
          injection h with h; subst h
          obtain ⟨cs, v, he, hc, hk⟩ := hv
          exact ⟨_, fun w => by simp [execOp, he, Instr.field, run_underlying h1, h2, asAgg, part, run_isAgg h3, hc], hk⟩
        · cases h
      · cases h
    · cases h
  | makeFunc f first cap =>
    cases f with
    | func f =>
      simp only [compP] at h; injection h with h; subst h
      exact ⟨_, fun w => by simp [execOp, Instr.makeFunc]; exact ⟨by rw [← Array.toList_map], by rw [← Array.toList_map]⟩, hv⟩
    | _ => simp [compP] at h
  | build t parts =>
    simp only [compP] at h
    split at h
    · rename_i fs z h1 h2
      split at h
      · rename_i hall
        injection h with h; subst h
        obtain ⟨cs, hf, hk⟩ := hv
        obtain ⟨inf, h3, h4⟩ := Option.bind_eq_some_iff.1 h2
        refine ⟨_, fun w => ?_, hk⟩
        have hz : (zeroValue t).run P w = .ok z w := by simp [zeroValue, run_info h3, h4]
        have hpl : (fs.mapM fun (f : Field) => (do pure (f.offset, ← Go.sizeOf f.type) : Sem (Nat × Nat))).run P w = .ok (fs.map fun f => (f.offset, P.cellsOf f.type)) w := by
          refine mapM_semA P w _ _ fs fun f hf => ?_
          have := Array.all_eq_true_iff_forall_mem.1 hall f hf
          obtain ⟨i, hi⟩ := Option.isSome_iff_exists.1 this
          simp [run_size hi, Program.cellsOf, hi]
        have hfl := fill_ok S (fs.toList.map fun f => (f.offset, P.cellsOf f.type)) (fun i => (fs.map fun f => (f.offset, P.cellsOf f.type))[i]?) (fun i q hq => by rw [← hq]; simp [← Array.getElem?_toList]) parts.toList z.cells.toList cs hf
        simp only [execOp, Instr.build, Sem.run_bind, hz, Result.andThen, run_underlying h1, hpl]
        simp only [Array.toList_map]
        simp only [Array.toArray_toList] at hfl
        rw [show (parts.toList.map fun x => (x.1, ev S x.2)) = (parts.toList.map fun (x : Nat × Operand) => match x with | (i, x) => (i, ev S x)) from rfl] at hfl
        rw [hfl]
        simp
      · cases h
    · cases h
  | slice t x lo hi mx =>
    simp only [compP] at h
    split at h
    · rename_i e h1
      split at h
      · rename_i inf h2
        injection h with h; subst h
        obtain ⟨a, len, cap, l, hh, m, he, b1, b2, b3, c1, c2, c3, c4, hk⟩ := hv
        exact ⟨_, fun w => by simp [execOp, he, Instr.sliceAt, Instr.slice, run_underlying h1, run_bounds w true b1 b2 b3 ⟨c1, c2, c3⟩ c4, run_size h2], hk⟩
      · cases h
    · rename_i h1
      split at h
      · injection h with h; subst h
        obtain ⟨s, l, hh, he, b1, b2, c1, c2, hk⟩ := hv
        exact ⟨_, fun w => by
          have := run_bounds (P := P) w false (len := s.size) (cap := s.size) (m := s.size) (mx := none) b1 b2 rfl ⟨c1, c2, Nat.le_refl _⟩ (by simp)
          simp only [Option.map_none] at this
          simp [execOp, he, Instr.sliceAt, Instr.slice, run_underlying h1, this], hk⟩
      · cases h
    · cases h
  | extract x i =>
    simp only [compP] at h; injection h with h; subst h
    obtain ⟨vs, v, he, hi, hk⟩ := hv
    exact ⟨_, fun w => by simp [execOp, he, Instr.extract, hi], hk⟩
  | makeInterface t x =>
    simp only [compP] at h
    split at h
    · rename_i h1
      injection h with h; subst h
      refine ⟨_, fun w => ?_, hv⟩
      cases hu : P.underlying t with
      | none => simp [hu] at h1
      | some d => cases d <;> simp [hu, isIfD] at h1 <;> simp [execOp, Instr.makeInterface, run_underlying hu]
    · cases h
  | nilCheck x =>
    simp only [compP] at h; injection h with h; subst h
    have hv' : NilVC (ev S x) K := hv
    unfold NilVC at hv'
    split at hv'
    · rename_i he; exact ⟨_, fun w => by simp [execOp, he], hv'⟩
    · rename_i he; exact ⟨_, fun w => by simp [execOp, he], hv'⟩
    · rename_i he; exact ⟨_, fun w => by simp [execOp, he], hv'⟩
    · exact hv'.elim
  | call c =>
    obtain ⟨callee, args, argTypes⟩ := c
    simp only [compP] at h
    have key : ∀ (b : Builtin), callee = .builtin b → ∃ cs, ∀ w, (execOp (ev S) ⟨dst, .call ⟨callee, args, argTypes⟩, ty, pos, after, guard⟩).run P w = (builtin b argTypes ty cs (args.map (ev S))).run P w := by
      rintro b rfl
      exact ⟨_, fun w => by simp [execOp, resolve, invoke]; rfl⟩
    split at h
    · rename_i x t r h2 h3
      obtain ⟨cs, key⟩ := key _ rfl
      have ea : args = #[x] := by rw [← Array.toArray_toList (xs := args), h2]
      have et : argTypes[0]? = some t := by rw [← Array.getElem?_toList, h3]; rfl
      split at h
      · rename_i hu
        injection h with h; subst h
        obtain ⟨s, he, hk⟩ := hv
        exact ⟨_, fun w => by rw [key]; simp [builtin, Builtin.len_, ea, et, he, run_underlying hu, goInt], hk⟩
      · rename_i hu
        injection h with h; subst h
        obtain ⟨a, n, c, he, hk⟩ := hv
        exact ⟨_, fun w => by rw [key]; simp [builtin, Builtin.len_, ea, et, he, run_underlying hu, goInt], hk⟩
      · rename_i hu
        injection h with h; subst h
        exact ⟨_, fun w => by rw [key]; simp [builtin, Builtin.len_, ea, et, run_underlying hu, goInt], hv⟩
      · cases h
    · rename_i x t r h2 h3
      obtain ⟨cs, key⟩ := key _ rfl
      have ea : args = #[x] := by rw [← Array.toArray_toList (xs := args), h2]
      have et : argTypes[0]? = some t := by rw [← Array.getElem?_toList, h3]; rfl
      split at h
      · rename_i hu
        injection h with h; subst h
        obtain ⟨a, n, c, he, hk⟩ := hv
        exact ⟨_, fun w => by rw [key]; simp [builtin, Builtin.cap_, ea, et, he, run_underlying hu, goInt], hk⟩
      · cases h
    · rename_i x y h2
      obtain ⟨cs, key⟩ := key _ rfl
      have ea : args = #[x, y] := by rw [← Array.toArray_toList (xs := args), h2]
      injection h with h; subst h
      obtain ⟨k, q, a, b, he, hy, hk⟩ := hv
      exact ⟨_, fun w => by rw [key]; simp [builtin, Builtin.max_, ea, he, hy, Builtin.max2]; omega, hk⟩
    · rename_i x y h2
      obtain ⟨cs, key⟩ := key _ rfl
      have ea : args = #[x, y] := by rw [← Array.toArray_toList (xs := args), h2]
      injection h with h; subst h
      obtain ⟨k, q, a, b, he, hy, hk⟩ := hv
      exact ⟨_, fun w => by rw [key]; simp [builtin, Builtin.min_, ea, he, hy, Builtin.min2]; omega, hk⟩
    · cases h
  | _ => simp [compP] at h
end Lite
