/- The walks of the laws on scalars, variables, channels, from what their arguments are. -/
import Derived.Test.YtoakjdilnkjcgaaDoorDeclT
import Derived.Test.YtoakjdilnkjcgaaDoorDeclW
set_option maxRecDepth 4000
namespace Go.Proofs.YtoakjdilnkjcgaaDoor
open Go Go.RowKit Lite Go.ChangeShapes
theorem walk_DeclScalars {H : Type} {enc : TypeId × Value → H} {r : Reach} {b0 : Nat} {d0 : DataW H} {p0 : List MemPlace} (v0 : Value) (W : World) (ho : OwnIs W)
    (k0 : Value.okWide Tryd.prog W r b0 T.sl_api_Scalar v0) (h0 : DataW.Trod enc Tryd.prog W 0 (fun _ => true) true T.sl_api_Scalar v0 d0 p0) :
    Ret Tryd.prog F.lariatlaw12_DeclScalars #[v0] W fun v w' => v = .bool true ∧ Ext W w' := by
  obtain ⟨l, hl⟩ := open_scalars k0 h0
  exact lawScalars_r v0 l W ho hl
theorem walk_DeclVars {H : Type} {enc : TypeId × Value → H} {r : Reach} {b0 : Nat} {d0 d1 d2 : DataW H} {p0 p1 p2 : List MemPlace} (v0 v1 v2 : Value) (W : World) (ho : OwnIs W)
    (k0 : Value.okWide Tryd.prog W r b0 T.sl_api_Var v0) (h0 : DataW.Trod enc Tryd.prog W 0 (fun _ => true) true T.sl_api_Var v0 d0 p0)
    (k1 : Value.okWide Tryd.prog W r b0 T.sl_api_Scalar v1) (h1 : DataW.Trod enc Tryd.prog W 0 (fun _ => true) true T.sl_api_Scalar v1 d1 p1)
    (k2 : Value.okWide Tryd.prog W r b0 T.int v2) (h2 : DataW.Trod enc Tryd.prog W 0 (fun _ => true) true T.int v2 d2 p2) :
    Ret Tryd.prog F.lariatlaw12_DeclVars #[v0, v1, v2] W fun v w' => v = .bool true ∧ Ext W w' := by
  obtain ⟨l, hl⟩ := open_vars k0 h0
  obtain ⟨s, hs⟩ := open_scalars k1 h1
  obtain ⟨n, rfl, _⟩ := open_int (k := .i64) (by kernel_rfl) k2 h2
  exact lawVars_r v0 v1 l s n W ho hl hs
theorem walk_DeclChans {H : Type} {enc : TypeId × Value → H} {r : Reach} {b0 : Nat} {d0 d1 : DataW H} {p0 p1 : List MemPlace} (v0 v1 : Value) (W : World) (ho : OwnIs W)
    (k0 : Value.okWide Tryd.prog W r b0 T.sl_api_Chan v0) (h0 : DataW.Trod enc Tryd.prog W 0 (fun _ => true) true T.sl_api_Chan v0 d0 p0)
    (k1 : Value.okWide Tryd.prog W r b0 T.sl_api_Scalar v1) (h1 : DataW.Trod enc Tryd.prog W 0 (fun _ => true) true T.sl_api_Scalar v1 d1 p1) :
    Ret Tryd.prog F.lariatlaw12_DeclChans #[v0, v1] W fun v w' => v = .bool true ∧ Ext W w' := by
  obtain ⟨l, hl⟩ := open_chans k0 h0
  obtain ⟨s, hs⟩ := open_scalars k1 h1
  exact lawChans_r v0 v1 l s W ho hl hs
end Go.Proofs.YtoakjdilnkjcgaaDoor
