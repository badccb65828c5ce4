/- Lite, part 3: instructions that read, write, call. -/
import Derived.Test.YtoakjdilnkjcgaaDoorLite2
set_option linter.all false
set_option maxRecDepth 4000
namespace Lite
open Go Go.RowKit

/-- Instructions that look at the world and leave it. -/
inductive RIns where
  | ld (x : Operand)
  | ldA (n : Nat) (x : Operand)
  | lkp (d : TypeDesc) (z : Value) (ok : Bool) (m k : Operand)
  | lenM (x : Operand)
/-- Instructions that change the world. -/
inductive EIns where
  | box (t : TypeId) (x : Operand)
  | new (t : TypeId) (z : Value)
  | st (x v : Operand)
  | stA (n : Nat) (x v : Operand)
  | mkM
  | mkS (e : TypeId) (sz bytes : Nat) (z : Value) (l c : Operand)
  | bldS (e : TypeId) (len sz : Nat) (z : List Value) (parts : List (Nat × Operand))
  | app (t e : TypeId) (sz bytes : Nat) (s x : Operand)
  | mup (d : TypeDesc) (m k v : Operand)
  | rngS (x : Operand)
  | nxtS (x : Operand)
  | raw (op : Op) (ty : TypeId)
/-- Calls. -/
inductive CIns where
  | fn (f : FuncId) (args : List Operand)
  | val (x : Operand) (args : List Operand)
inductive Ins where
  | p (i : PIns)
  | r (i : RIns)
  | e (i : EIns)
  | c (i : CIns)

/-! ### Reading -/
def LdVC (x : Value) (w : World) (K : Value → Prop) : Prop := ∃ a c, x = .pointer (some a) ∧ w.cell? a = some c ∧ K c
theorem ld_ok {a : Addr} {w : World} {c : Value} {K : Value → Prop} (h : w.cell? a = some c) (hk : K c) : LdVC (.pointer (some a)) w K := ⟨a, c, rfl, h, hk⟩
/-- The cells from an address on. -/
def CellsAt (w : World) (a : Addr) (cs : List Value) : Prop := ∀ j v, cs[j]? = some v → w.cell? (a.add j) = some v
theorem CellsAt.ext {w w' : World} (he : Ext w w') {a : Addr} {cs : List Value} (h : CellsAt w a cs) : CellsAt w' a cs := fun j v hj => he.cell (h j v hj)
theorem cellsAt_blk {w : World} {b : Nat} {c : Array Value} {t : TypeId} {f : Nat × Nat} (h : w.heap[b]? = some (.cells c t f)) : CellsAt w ⟨b, 0, none⟩ c.toList :=
  fun j v hj => cell_blk h (by simpa using hj)
theorem cellsAt_new (w : World) (c : Array Value) (t : TypeId) : CellsAt (w.alloc (.cells c t)) ⟨w.heap.size, 0, none⟩ c.toList := cellsAt_blk (heap_alloc_new w _)
def LdAVC (n : Nat) (x : Value) (w : World) (K : Value → Prop) : Prop := ∃ a cs, x = .pointer (some a) ∧ cs.length = n ∧ CellsAt w a cs ∧ K (.agg cs.toArray)
theorem ldA_ok {n : Nat} {a : Addr} {w : World} {cs : List Value} {K : Value → Prop} (h : CellsAt w a cs) (hn : cs.length = n) (hk : K (.agg cs.toArray)) : LdAVC n (.pointer (some a)) w K := ⟨a, cs, rfl, hn, h, hk⟩
/-- A map's entries. -/
def MapOf (w : World) (m : Value) (es : Array MapEntry) : Prop := (m = .map none ∧ es = #[]) ∨ ∃ r c, m = .map (some r) ∧ w.heap[r]? = some (.map es c)
theorem MapOf.ext {w w' : World} (he : Ext w w') {m : Value} {es : Array MapEntry} (h : MapOf w m es) : MapOf w' m es := by
  rcases h with h | ⟨r, c, h1, h2⟩
  · exact .inl h
  · exact .inr ⟨r, c, h1, he.obj h2⟩
def lkpV (z : Value) (ok : Bool) (r : Option (Nat × Value)) : Value :=
  let v := (r.map (·.2)).getD z
  if ok then .tuple #[v, .bool r.isSome] else v
def LkpVC (d : TypeDesc) (z : Value) (ok : Bool) (m k : Value) (w : World) (K : Value → Prop) : Prop := ∃ es r, MapOf w m es ∧ Instr.findNow d k es.toList 0 = some r ∧ K (lkpV z ok r)
theorem lkp_ok {d : TypeDesc} {z : Value} {ok : Bool} {m k : Value} {w : World} {K : Value → Prop} {es : Array MapEntry} {r : Option (Nat × Value)} (h1 : MapOf w m es) (h2 : Instr.findNow d k es.toList 0 = some r)
    (hk : K (lkpV z ok r)) : LkpVC d z ok m k w K := ⟨es, r, h1, h2, hk⟩
def LenMVC (m : Value) (w : World) (K : Value → Prop) : Prop := ∃ es, MapOf w m es ∧ K (.int .i64 es.size)
theorem lenM_ok {m : Value} {w : World} {K : Value → Prop} {es : Array MapEntry} (h : MapOf w m es) (hk : K (.int .i64 es.size)) : LenMVC m w K := ⟨es, h, hk⟩
def RVC (i : RIns) (S : Fr) (w : World) (K : Value → Prop) : Prop :=
  match i with
  | .ld x => LdVC (ev S x) w K
  | .ldA n x => LdAVC n (ev S x) w K
  | .lkp d z ok m k => LkpVC d z ok (ev S m) (ev S k) w K
  | .lenM x => LenMVC (ev S x) w K
section
variable (S : Fr) (w : World) (K : Value → Prop)
theorem r_ld (x : Operand) : RVC (.ld x) S w K = LdVC (ev S x) w K := rfl
theorem r_ldA (n : Nat) (x : Operand) : RVC (.ldA n x) S w K = LdAVC n (ev S x) w K := rfl
theorem r_lkp (d : TypeDesc) (z : Value) (ok : Bool) (m k : Operand) : RVC (.lkp d z ok m k) S w K = LkpVC d z ok (ev S m) (ev S k) w K := rfl
theorem r_lenM (x : Operand) : RVC (.lenM x) S w K = LenMVC (ev S x) w K := rfl
end

/-! ### Writing -/
def StVC (x v : Value) (w : World) (K : World → Prop) : Prop := ∃ a old, x = .pointer (some a) ∧ w.cell? a = some old ∧ w.frozen? a = false ∧ v.oneCell' = true ∧ K (w.setCell a v)
theorem st_ok {a : Addr} {v old : Value} {w : World} {K : World → Prop} (h : w.cell? a = some old) (hf : w.frozen? a = false) (hv : v.oneCell' = true) (hk : K (w.setCell a v)) : StVC (.pointer (some a)) v w K :=
  ⟨a, old, rfl, h, hf, hv, hk⟩
def setAll (w : World) (a : Addr) : List Value → Nat → World
  | [], _ => w
  | v :: r, i => setAll (w.setCell (a.add i) v) a r (i + 1)
def StAVC (n : Nat) (x v : Value) (w : World) (K : World → Prop) : Prop :=
  ∃ a cs, x = .pointer (some a) ∧ v = .agg cs ∧ cs.size = n ∧ (∀ j, j < n → (∃ old, w.cell? (a.add j) = some old) ∧ w.frozen? (a.add j) = false) ∧ (∀ c ∈ cs.toList, c.oneCell' = true) ∧ K (setAll w a cs.toList 0)
theorem stA_ok {n : Nat} {a : Addr} {cs : Array Value} {w : World} {K : World → Prop} (hn : cs.size = n) (h : ∀ j, j < n → (∃ old, w.cell? (a.add j) = some old) ∧ w.frozen? (a.add j) = false) (h1 : ∀ c ∈ cs.toList, c.oneCell' = true)
    (hk : K (setAll w a cs.toList 0)) : StAVC n (.pointer (some a)) (.agg cs) w K := ⟨a, cs, rfl, rfl, hn, h, h1, hk⟩
/-- So many zero cells. -/
def zeros (z : Array Value) (n : Nat) : Array Value := (Array.range n).map fun i => z[i % z.size]!
def MkSVC (e : TypeId) (sz bytes : Nat) (z : Value) (l c : Value) (w : World) (K : Value → World → Prop) : Prop :=
  ∃ k q n m, l = .int k n ∧ c = .int q m ∧ 0 ≤ n ∧ n ≤ m ∧ m ≤ 9223372036854775807 ∧ bytes * m ≤ 281474976710656 ∧
    K (.slice (some ⟨w.heap.size, 0, none⟩) n.toNat m.toNat) (w.alloc (.cells (zeros z.cells (m.toNat * sz)) e))
theorem mkS_ok {e : TypeId} {sz bytes : Nat} {z : Value} {k q : IntKind} {n m : Int} {w : World} {K : Value → World → Prop} (h : 0 ≤ n ∧ n ≤ m ∧ m ≤ 9223372036854775807 ∧ bytes * m ≤ 281474976710656)
    (hk : K (.slice (some ⟨w.heap.size, 0, none⟩) n.toNat m.toNat) (w.alloc (.cells (zeros z.cells (m.toNat * sz)) e))) : MkSVC e sz bytes z (.int k n) (.int q m) w K :=
  ⟨k, q, n, m, rfl, rfl, h.1, h.2.1, h.2.2.1, h.2.2.2, hk⟩
def BldSVC (S : Fr) (e : TypeId) (len sz : Nat) (z : List Value) (ps : List (Nat × Operand)) (w : World) (K : Value → World → Prop) : Prop :=
  ∃ cs, fillC S ((List.range len).map fun i => (i * sz, sz)) ps z = some cs ∧ K (.slice (some ⟨w.heap.size, 0, none⟩) len len) (w.alloc (.cells cs.toArray e))
theorem bldS_ok {S : Fr} {e : TypeId} {len sz : Nat} {z cs : List Value} {ps : List (Nat × Operand)} {w : World} {K : Value → World → Prop} (h : fillC S ((List.range len).map fun i => (i * sz, sz)) ps z = some cs)
    (hk : K (.slice (some ⟨w.heap.size, 0, none⟩) len len) (w.alloc (.cells cs.toArray e))) : BldSVC S e len sz z ps w K := ⟨cs, h, hk⟩
/-- What the program's table says of a slice type. -/
def SlInfo (P : Program) (t e : TypeId) (sz bytes : Nat) : Prop := P.underlying t = some (.slice e) ∧ ∃ i z, P.info? e = some i ∧ i.zero = some z ∧ i.size = sz ∧ i.bytes = bytes ∧ z.cells.size = sz ∧ 0 < sz
def AppVC (P : Program) (t e : TypeId) (sz bytes : Nat) (s x : Value) (w : World) (K : Value → World → Prop) : Prop :=
  SlInfo P t e sz bytes → ∃ ty v' w', (Builtin.append_ #[t, t] ty #[s, x]).run P w = .ok v' w' ∧ K v' w'
/-- Where a key is put. -/
def mupO (es : Array MapEntry) (c : Nat) (k v : Value) : Option (Nat × Value) → Obj
  | some (i, _) => .map (es.modify i fun e => { e with key := k, val := v }) c
  | none => .map (es.push { key := k, val := v, born := c }) (c + 1)
def MupVC (d : TypeDesc) (m k v : Value) (w : World) (K : World → Prop) : Prop :=
  ∃ r es c q, m = .map (some r) ∧ w.heap[r]? = some (.map es c) ∧ Instr.findNow d k es.toList 0 = some q ∧ K (setO w r (mupO es c k v q))
theorem mup_ok {d : TypeDesc} {r : Nat} {k v : Value} {w : World} {K : World → Prop} {es : Array MapEntry} {c : Nat} {q : Option (Nat × Value)} (h1 : w.heap[r]? = some (.map es c)) (h2 : Instr.findNow d k es.toList 0 = some q)
    (hk : K (setO w r (mupO es c k v q))) : MupVC d (.map (some r)) k v w K := ⟨r, es, c, q, rfl, h1, h2, hk⟩
def NxtSVC (x : Value) (w : World) (K : Value → World → Prop) : Prop :=
  ∃ r s pos, x = .pointer (some ⟨r, 0, none⟩) ∧ w.heap[r]? = some (.stringIter s pos) ∧
    (pos < s.size → K (.tuple #[.bool true, .int .i64 pos, .int .i32 (Utf8.decode s pos).1]) (setO w r (.stringIter s (pos + (Utf8.decode s pos).2)))) ∧ (¬ pos < s.size → K (.tuple #[.bool false]) w)
theorem nxtS_ok {r pos : Nat} {s : ByteArray} {w : World} {K : Value → World → Prop} (h : w.heap[r]? = some (.stringIter s pos))
    (h1 : pos < s.size → K (.tuple #[.bool true, .int .i64 pos, .int .i32 (Utf8.decode s pos).1]) (setO w r (.stringIter s (pos + (Utf8.decode s pos).2)))) (h2 : ¬ pos < s.size → K (.tuple #[.bool false]) w) :
    NxtSVC (.pointer (some ⟨r, 0, none⟩)) w K := ⟨r, s, pos, rfl, h, h1, h2⟩
def RawVC (P : Program) (op : Op) (ty : TypeId) (S : Fr) (w : World) (K : Value → World → Prop) : Prop :=
  ∃ v w', ((execOp (ev S) ⟨none, op, ty, "", #[], none⟩).run P w = .ok (.value v) w' ∨ (v = undef ∧ (execOp (ev S) ⟨none, op, ty, "", #[], none⟩).run P w = .ok .skip w')) ∧ K v w'
def RngSVC (x : Value) (w : World) (K : Value → World → Prop) : Prop := ∃ s, x = .string s ∧ K (.pointer (some ⟨w.heap.size, 0, none⟩)) (w.alloc (.stringIter s 0))
theorem rngS_str (s : ByteArray) (w : World) (K : Value → World → Prop) : RngSVC (.string s) w K = K (.pointer (some ⟨w.heap.size, 0, none⟩)) (w.alloc (.stringIter s 0)) := by
  unfold RngSVC; apply propext; constructor
  · rintro ⟨b, h, hk⟩; injection h with h; subst h; exact hk
  · exact fun h => ⟨s, rfl, h⟩
def EVC (P : Program) (i : EIns) (S : Fr) (w : World) (K : Value → World → Prop) : Prop :=
  match i with
  | .box t x => K (.pointer (some ⟨w.heap.size, 0, none⟩)) (w.alloc (.cells (ev S x).cells t))
  | .new t z => K (.pointer (some ⟨w.heap.size, 0, none⟩)) (w.alloc (.cells z.cells t))
  | .st x v => StVC (ev S x) (ev S v) w (K undef)
  | .stA n x v => StAVC n (ev S x) (ev S v) w (K undef)
  | .mkM => K (.map (some w.heap.size)) (w.alloc (.map #[] 0))
  | .mkS e sz b z l c => MkSVC e sz b z (ev S l) (ev S c) w K
  | .bldS e len sz z ps => BldSVC S e len sz z ps w K
  | .app t e sz b s x => AppVC P t e sz b (ev S s) (ev S x) w K
  | .mup d m k v => MupVC d (ev S m) (ev S k) (ev S v) w (K undef)
  | .rngS x => RngSVC (ev S x) w K
  | .nxtS x => NxtSVC (ev S x) w K
  | .raw op ty => RawVC P op ty S w K
section
variable (P : Program) (S : Fr) (w : World) (K : Value → World → Prop)
theorem e_box (t : TypeId) (x : Operand) : EVC P (.box t x) S w K = K (.pointer (some ⟨w.heap.size, 0, none⟩)) (w.alloc (.cells (ev S x).cells t)) := rfl
theorem e_new (t : TypeId) (z : Value) : EVC P (.new t z) S w K = K (.pointer (some ⟨w.heap.size, 0, none⟩)) (w.alloc (.cells z.cells t)) := rfl
theorem e_st (x v : Operand) : EVC P (.st x v) S w K = StVC (ev S x) (ev S v) w (K undef) := rfl
theorem e_stA (n : Nat) (x v : Operand) : EVC P (.stA n x v) S w K = StAVC n (ev S x) (ev S v) w (K undef) := rfl
theorem e_mkM : EVC P .mkM S w K = K (.map (some w.heap.size)) (w.alloc (.map #[] 0)) := rfl
theorem e_mkS (e : TypeId) (sz b : Nat) (z : Value) (l c : Operand) : EVC P (.mkS e sz b z l c) S w K = MkSVC e sz b z (ev S l) (ev S c) w K := rfl
theorem e_bldS (e : TypeId) (len sz : Nat) (z : List Value) (ps : List (Nat × Operand)) : EVC P (.bldS e len sz z ps) S w K = BldSVC S e len sz z ps w K := rfl
theorem e_app (t e : TypeId) (sz b : Nat) (s x : Operand) : EVC P (.app t e sz b s x) S w K = AppVC P t e sz b (ev S s) (ev S x) w K := rfl
theorem e_mup (d : TypeDesc) (m k v : Operand) : EVC P (.mup d m k v) S w K = MupVC d (ev S m) (ev S k) (ev S v) w (K undef) := rfl
theorem e_rngS (x : Operand) : EVC P (.rngS x) S w K = RngSVC (ev S x) w K := rfl
theorem e_nxtS (x : Operand) : EVC P (.nxtS x) S w K = NxtSVC (ev S x) w K := rfl
theorem e_raw (op : Op) (ty : TypeId) : EVC P (.raw op ty) S w K = RawVC P op ty S w K := rfl
end

/-! ### Calling -/
def okF (P : Program) (f : FuncId) : Bool := match P.funcs[f]? with | some fn => fn.body.isSome && !(fn.name == "runtime.NumGoroutine") | none => false
def CallVC (P : Program) (f : FuncId) (args : List Value) (w : World) (K : Value → World → Prop) : Prop := Ret P f args.toArray w K
theorem call_ok {P : Program} {f : FuncId} {args : List Value} {w : World} {R : Value → World → Prop} {K : Value → World → Prop} (h : Ret P f args.toArray w R) (hk : ∀ v w', R v w' → K v w') : CallVC P f args w K := h.mono hk
def CallV (P : Program) (x : Value) (args : List Value) (w : World) (K : Value → World → Prop) : Prop := ∃ f first cap, x = .func (.func f) first cap ∧ okF P f = true ∧ Ret P f (first ++ args.toArray ++ cap) w K
theorem callV_ok {P : Program} {f : FuncId} {first cap : List Value} {args : List Value} {w : World} {R : Value → World → Prop} {K : Value → World → Prop} (hf : okF P f = true) (h : Ret P f (first ++ args ++ cap).toArray w R) (hk : ∀ v w', R v w' → K v w') :
    CallV P (.func (.func f) first.toArray cap.toArray) args w K := ⟨f, first.toArray, cap.toArray, rfl, hf, by simpa using h.mono hk⟩
def CVC (P : Program) (i : CIns) (S : Fr) (w : World) (K : Value → World → Prop) : Prop :=
  match i with
  | .fn f args => CallVC P f (args.map (ev S)) w K
  | .val x args => CallV P (ev S x) (args.map (ev S)) w K
theorem c_fn (P : Program) (f : FuncId) (args : List Operand) (S : Fr) (w : World) (K : Value → World → Prop) : CVC P (.fn f args) S w K = CallVC P f (args.map (ev S)) w K := rfl
theorem c_val (P : Program) (x : Operand) (args : List Operand) (S : Fr) (w : World) (K : Value → World → Prop) : CVC P (.val x args) S w K = CallV P (ev S x) (args.map (ev S)) w K := rfl

/-! ### Reading the operations -/
def plainKey : TypeDesc → Bool | .string | .int _ | .bool => true | _ => false
def compR (P : Program) : Op → Option RIns
  | .load t x =>
    match aggT P t, P.info? t with
    | some false, _ => some (.ld x)
    | some true, some i => some (.ldA i.size x)
    | _, _ => none
  | .lookup t m k ok =>
    match P.underlying t with
    | some (.map kt e) => match P.underlying kt, (P.info? e).bind (·.zero) with
      | some d, some z => if plainKey d then some (.lkp d z ok m k) else none
      | _, _ => none
    | _ => none
  | .call c =>
    match c.callee, c.args.toList, c.argTypes.toList with
    | .builtin .len, [x], t :: _ => match P.underlying t with
      | some (.map _ _) => some (.lenM x)
      | _ => none
    | _, _, _ => none
  | _ => none
def compE (P : Program) (ty : TypeId) : Op → Option EIns
  | .box t x => some (.box t x)
  | .alloc t => match (P.info? t).bind (·.zero) with | some z => some (.new t z) | none => none
  | .store t x v =>
    match aggT P t, P.info? t with
    | some false, some i => if i.size = 1 then some (.st x v) else none
    | some true, some i => some (.stA i.size x v)
    | _, _ => none
  | .makeMap _ none => some .mkM
  | .makeSlice t l c =>
    match P.underlying t with
    | some (.slice e) => match P.info? e with
      | some i => match i.zero with | some z => if 0 < z.cells.size then some (.mkS e i.size i.bytes z l c) else none | none => none
      | none => none
    | _ => none
  | .buildSlice t len ps =>
    match P.underlying t with
    | some (.slice e) => match P.info? e with
      | some i => match i.zero with | some z => if len * i.size ≤ 16777216 then some (.bldS e len i.size (zeros z.cells (len * i.size)).toList ps.toList) else none | none => none
      | none => none
    | _ => none
  | .mapUpdate t m k v | .insert t m k v =>
    match P.underlying t with
    | some (.map kt _) => match P.underlying kt with
      | some d => if plainKey d then some (.mup d m k v) else some (.raw (.mapUpdate t m k v) ty)
      | none => none
    | _ => none
  | .range t x => match P.underlying t with | some .string => some (.rngS x) | some (.map _ _) => some (.raw (.range t x) ty) | _ => none
  | .next x true => some (.nxtS x)
  | .next x false => some (.raw (.next x false) ty)
  | .lookup t m k ok => some (.raw (.lookup t m k ok) ty)
  | .mapEntry t m k => some (.raw (.mapEntry t m k) ty)
  | .entryStore t m s x => some (.raw (.entryStore t m s x) ty)
  | .entry x => some (.raw (.entry x) ty)
  | .typeAssert x t a ok => some (.raw (.typeAssert x t a ok) ty)
  | .convert s d x => some (.raw (.convert s d x) ty)
  | .makeMap t r => some (.raw (.makeMap t r) ty)
  | .call c =>
    match c.callee, c.args.toList, c.argTypes.toList with
    | .builtin .append, [s, x], [t, u] => match P.underlying t with
      | some (.slice e) => match P.info? e with
        | some i => match i.zero with
          | some z => if t = u ∧ z.cells.size = i.size ∧ 0 < i.size then some (.app t e i.size i.bytes s x) else some (.raw (.call c) ty)
          | none => none
        | none => none
      | _ => none
    | .builtin .copy, _, _ => some (.raw (.call c) ty)
    | .builtin .delete, _, _ => some (.raw (.call c) ty)
    | .builtin .clear, _, _ => some (.raw (.call c) ty)
    | .builtin .append, _, _ => some (.raw (.call c) ty)
    | _, _, _ => none
  | _ => none
def compC (P : Program) : Op → Option CIns
  | .call c =>
    match c.callee with
    | .value (.func f) => if okF P f then some (.fn f c.args.toList) else none
    | .value x => some (.val x c.args.toList)
    | _ => none
  | _ => none
def compI (P : Program) (o : Oper) : Option Ins :=
  match compP P o.op with
  | some i => some (.p i)
  | none => match compR P o.op with
    | some i => some (.r i)
    | none => match compE P o.type o.op with
      | some i => some (.e i)
      | none => match compC P o.op with
        | some i => some (.c i)
        | none => none
end Lite
