/- The walk of the law on parts, from what its arguments are. -/
import Derived.Test.YtoakjdilnkjcgaaDoorDeclT
import Derived.Test.YtoakjdilnkjcgaaDoorDeclB
set_option maxRecDepth 4000
namespace Go.Proofs.YtoakjdilnkjcgaaDoor
open Go Go.RowKit Lite Go.ChangeShapes
theorem walk_DeclParts {H : Type} {enc : TypeId × Value → H} {r : Reach} {b0 : Nat} {d0 d1 d2 d3 : DataW H} {p0 p1 p2 p3 : List MemPlace} (v0 v1 v2 v3 : Value) (W : World) (ho : OwnIs W)
    (k0 : Value.okWide Tryd.prog W r b0 T.sl_api_Var v0) (h0 : DataW.Trod enc Tryd.prog W 0 (fun _ => true) true T.sl_api_Var v0 d0 p0)
    (k1 : Value.okWide Tryd.prog W r b0 T.sl_api_Scalar v1) (h1 : DataW.Trod enc Tryd.prog W 0 (fun _ => true) true T.sl_api_Scalar v1 d1 p1)
    (k2 : Value.okWide Tryd.prog W r b0 T.sl_api_Chan v2) (h2 : DataW.Trod enc Tryd.prog W 0 (fun _ => true) true T.sl_api_Chan v2 d2 p2)
    (k3 : Value.okWide Tryd.prog W r b0 T.uint8 v3) (h3 : DataW.Trod enc Tryd.prog W 0 (fun _ => true) true T.uint8 v3 d3 p3) :
    Ret Tryd.prog F.lariatlaw12_DeclParts #[v0, v1, v2, v3] W fun v w' => v = .bool true ∧ Ext W w' := by
  obtain ⟨l, hl⟩ := open_vars k0 h0
  obtain ⟨s, hs⟩ := open_scalars k1 h1
  obtain ⟨c, hc⟩ := open_chans k2 h2
  obtain ⟨n, rfl, _, _, hn⟩ := open_int (k := .u8) (by kernel_rfl) k3 h3
  have hn : 0 ≤ n ∧ n < 256 := by simp [Lit.wf] at hn; have h0 : IntKind.u8.min = 0 := rfl; have h1 : IntKind.u8.max = 255 := rfl; omega
  obtain ⟨q, rfl⟩ := Int.eq_ofNat_of_zero_le (show 0 ≤ n by omega)
  exact lawParts_r v0 v1 v2 l s c q (by omega) W ho hl hs hc
end Go.Proofs.YtoakjdilnkjcgaaDoor
