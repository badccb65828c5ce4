/- Lite: short words for code that is printed. -/
import Derived.Test.YtoakjdilnkjcgaaDoorLite6
set_option linter.all false
namespace Lite
open Go
def yt (n : Nat) : Operand := .tmp n
def yi (n : Int) : Operand := .const (.int .i64 n)
def yb (b : Bool) : Operand := .const (.bool b)
def yp (d : Nat) (i : PIns) : Step := ⟨some d, none, .p i⟩
def yr (d : Nat) (i : RIns) : Step := ⟨some d, none, .r i⟩
def ye (d : Nat) (i : EIns) : Step := ⟨some d, none, .e i⟩
def yc (d : Nat) (i : CIns) : Step := ⟨some d, none, .c i⟩
def yv (i : EIns) : Step := ⟨none, none, .e i⟩
def yg (j : Nat) (b : Bool) (s : Step) : Step := ⟨s.dst, some (j, b), s.i⟩
def ym (d n : Nat) : Step := ⟨some d, none, .p (.mv (.tmp n))⟩
def yw (d : Nat) (x : Operand) : Step := ⟨some d, none, .p (.mv x)⟩
def ya (d k n : Nat) : Step := ⟨some d, none, .p (.fa k (.tmp n))⟩
def yl (d n : Nat) : Step := ⟨some d, none, .r (.ld (.tmp n))⟩
def yx (d k a i : Nat) : Step := ⟨some d, none, .p (.ia k (.tmp a) (.tmp i))⟩
def ys (a v : Nat) : Step := ⟨none, none, .e (.st (.tmp a) (.tmp v))⟩
def yn (d n : Nat) : Step := ⟨some d, none, .p (.lenL (.tmp n))⟩
end Lite
