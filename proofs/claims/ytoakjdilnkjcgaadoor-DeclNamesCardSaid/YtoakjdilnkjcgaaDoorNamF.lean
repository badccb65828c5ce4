/- The walk of the law on names, from what its argument is. -/
import Derived.Test.YtoakjdilnkjcgaaDoorNamE
import Derived.Test.YtoakjdilnkjcgaaDoorOpen4
import Derived.Test.YtoakjdilnkjcgaaDoorDeclT
set_option linter.all false
set_option maxRecDepth 4000
namespace Go.Proofs.YtoakjdilnkjcgaaDoor
open Go Go.RowKit Lite Go.ChangeShapes
theorem walk_DeclNames {H : Type} {enc : TypeId × Value → H} {r : Reach} {b0 : Nat} {d0 : DataW H} {p0 : List MemPlace} (v0 : Value) (W : World) (ho : OwnIs W)
    (k0 : Value.okWide Tryd.prog W r b0 T.api_Model v0) (h0 : DataW.Trod enc Tryd.prog W 0 (fun _ => true) true T.api_Model v0 d0 p0) :
    Ret Tryd.prog F.lariatlaw12_DeclNames #[v0] W fun v w' => v = .bool true ∧ Ext W w' := by
  obtain ⟨cs, m, rfl, hs⟩ := open_model k0 h0
  exact lawNames_r cs m W hs ho
end Go.Proofs.YtoakjdilnkjcgaaDoor
