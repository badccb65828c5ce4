/- How the program's data lie in memory. -/
import Derived.Test.YtoakjdilnkjcgaaDoorDeclP
set_option linter.all false
namespace Abs
open Go Go.RowKit Lite
def Scalar.enc (x : Scalar) : List Value := [.string x.name, .int .i64 x.size]
def Var.enc (x : Var) : List Value := [.string x.name, .int .i64 x.scalar, .int .i64 x.over, .int .i64 x.lo, .int .i64 x.hi, .int .i64 x.init]
def Chan.enc (x : Chan) : List Value := [.string x.name, .int .i64 x.scalar, .int .i64 x.cap, .int .i64 x.lo, .int .i64 x.hi, .bool x.lossy]
/-- A name's length is a length. -/
def strOk (s : ByteArray) : Prop := s.size ≤ 9223372036854775807
instance instStrOk (s : ByteArray) : Decidable (strOk s) := Nat.decLe _ _
structure RScalar (w : World) (a : Addr) (x : Scalar) : Prop where
  cells : CellsAt w a x.enc
  ok : strOk x.name
structure RVar (w : World) (a : Addr) (x : Var) : Prop where
  cells : CellsAt w a x.enc
  ok : strOk x.name
structure RChan (w : World) (a : Addr) (x : Chan) : Prop where
  cells : CellsAt w a x.enc
  ok : strOk x.name
theorem RScalar.ext (w w' : World) (a : Addr) (x : Scalar) (he : Ext w w') (h : RScalar w a x) : RScalar w' a x := ⟨h.cells.ext he, h.ok⟩
theorem RVar.ext (w w' : World) (a : Addr) (x : Var) (he : Ext w w') (h : RVar w a x) : RVar w' a x := ⟨h.cells.ext he, h.ok⟩
theorem RChan.ext (w w' : World) (a : Addr) (x : Chan) (he : Ext w w') (h : RChan w a x) : RChan w' a x := ⟨h.cells.ext he, h.ok⟩
abbrev Scalars (w : World) (v : Value) (l : List Scalar) : Prop := SlR 2 RScalar w v l
abbrev Vars (w : World) (v : Value) (l : List Var) : Prop := SlR 6 RVar w v l
abbrev Chans (w : World) (v : Value) (l : List Chan) : Prop := SlR 6 RChan w v l
theorem Scalars.blk {w : World} {b n : Nat} {e : TypeId} {f : Nat × Nat} {xs : List Scalar} (hb : w.heap[b]? = some (.cells (xs.flatMap Scalar.enc).toArray e f)) (hn : n = xs.length) (hm : xs.length ≤ maxLen) (hok : ∀ x ∈ xs, strOk x.name) :
    Scalars w (.slice (some ⟨b, 0, none⟩) n n) xs := SlR.blk (enc := Scalar.enc) (fun _ => rfl) hb hn hm fun _ x hx hc => ⟨hc, hok x hx⟩
theorem Vars.blk {w : World} {b n : Nat} {e : TypeId} {f : Nat × Nat} {xs : List Var} (hb : w.heap[b]? = some (.cells (xs.flatMap Var.enc).toArray e f)) (hn : n = xs.length) (hm : xs.length ≤ maxLen) (hok : ∀ x ∈ xs, strOk x.name) :
    Vars w (.slice (some ⟨b, 0, none⟩) n n) xs := SlR.blk (enc := Var.enc) (fun _ => rfl) hb hn hm fun _ x hx hc => ⟨hc, hok x hx⟩
theorem Chans.blk {w : World} {b n : Nat} {e : TypeId} {f : Nat × Nat} {xs : List Chan} (hb : w.heap[b]? = some (.cells (xs.flatMap Chan.enc).toArray e f)) (hn : n = xs.length) (hm : xs.length ≤ maxLen) (hok : ∀ x ∈ xs, strOk x.name) :
    Chans w (.slice (some ⟨b, 0, none⟩) n n) xs := SlR.blk (enc := Chan.enc) (fun _ => rfl) hb hn hm fun _ x hx hc => ⟨hc, hok x hx⟩
end Abs
