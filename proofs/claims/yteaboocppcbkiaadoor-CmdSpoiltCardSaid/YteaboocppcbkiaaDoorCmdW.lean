/- The walks of the laws on commands, from what their arguments are. -/
import Derived.Test.YteaboocppcbkiaaDoorCmdF
import Derived.Test.YteaboocppcbkiaaDoorCmdG
set_option linter.all false
set_option maxRecDepth 4000
namespace Go.Proofs.YteaboocppcbkiaaDoor
open Go Go.RowKit Lite Go.ChangeShapes
theorem walk_CmdComms {H : Type} {enc : TypeId × Value → H} {r : Reach} {b0 : Nat} {d0 d1 : DataW H} {p0 p1 : List MemPlace} (v0 v1 : Value) (W : World) (ho : OwnIs W)
    (k0 : Value.okWide Tryd.prog W r b0 T.api_Cmd v0) (h0 : DataW.Trod enc Tryd.prog W 0 (fun _ => true) true T.api_Cmd v0 d0 p0)
    (k1 : Value.okWide Tryd.prog W r b0 T.sl_api_Chan v1) (h1 : DataW.Trod enc Tryd.prog W 0 (fun _ => true) true T.sl_api_Chan v1 d1 p1) :
    Ret Tryd.prog F.lariatlaw13_CmdComms #[v0, v1] W fun v w' => v = .bool true ∧ Ext W w' := by
  obtain ⟨_, c, rfl, _, vg, va, rfl, hg, ha⟩ := open_cmd k0 h0
  obtain ⟨l, hl⟩ := open_chans k1 h1
  exact lawComms_r c vg va v1 l W ho ha hg hl
theorem walk_CmdParts {H : Type} {enc : TypeId × Value → H} {r : Reach} {b0 : Nat} {d0 d1 d2 : DataW H} {p0 p1 p2 : List MemPlace} (v0 v1 v2 : Value) (W : World) (ho : OwnIs W)
    (k0 : Value.okWide Tryd.prog W r b0 T.api_Cmd v0) (h0 : DataW.Trod enc Tryd.prog W 0 (fun _ => true) true T.api_Cmd v0 d0 p0) (_s0 : Small Tryd.prog T.api_Cmd d0)
    (k1 : Value.okWide Tryd.prog W r b0 T.api_Proc v1) (h1 : DataW.Trod enc Tryd.prog W 0 (fun _ => true) true T.api_Proc v1 d1 p1) (_s1 : Small Tryd.prog T.api_Proc d1)
    (k2 : Value.okWide Tryd.prog W r b0 T.api_Scope v2) (h2 : DataW.Trod enc Tryd.prog W 0 (fun _ => true) true T.api_Scope v2 d2 p2) (_s2 : Small Tryd.prog T.api_Scope d2) :
    Ret Tryd.prog F.lariatlaw13_CmdParts #[v0, v1, v2] W fun v w' => v = .bool true ∧ Ext W w' := by
  obtain ⟨_, c, rfl, hn, vg, va, rfl, hg, ha⟩ := open_cmd k0 h0
  obtain ⟨_, p, rfl, _, vv, vc, rfl, hv, hc⟩ := open_proc k1 h1
  obtain ⟨cs, s, rfl, hs⟩ := open_scope k2 h2 _s2
  exact lawParts_r c vg va p vv vc cs s W ho hn hg ha hv hc hs
theorem walk_CmdValues {H : Type} {enc : TypeId × Value → H} {r : Reach} {b0 : Nat} {d0 d1 d2 : DataW H} {p0 p1 p2 : List MemPlace} (v0 v1 v2 : Value) (W : World) (ho : OwnIs W)
    (k0 : Value.okWide Tryd.prog W r b0 T.api_Cmd v0) (h0 : DataW.Trod enc Tryd.prog W 0 (fun _ => true) true T.api_Cmd v0 d0 p0) (_s0 : Small Tryd.prog T.api_Cmd d0)
    (k1 : Value.okWide Tryd.prog W r b0 T.api_Proc v1) (h1 : DataW.Trod enc Tryd.prog W 0 (fun _ => true) true T.api_Proc v1 d1 p1) (_s1 : Small Tryd.prog T.api_Proc d1)
    (k2 : Value.okWide Tryd.prog W r b0 T.api_Scope v2) (h2 : DataW.Trod enc Tryd.prog W 0 (fun _ => true) true T.api_Scope v2 d2 p2) (_s2 : Small Tryd.prog T.api_Scope d2) :
    Ret Tryd.prog F.lariatlaw13_CmdValues #[v0, v1, v2] W fun v w' => v = .bool true ∧ Ext W w' := by
  obtain ⟨_, c, rfl, hn, vg, va, rfl, hg, ha⟩ := open_cmd k0 h0
  obtain ⟨_, p, rfl, _, vv, vc, rfl, hv, hc⟩ := open_proc k1 h1
  obtain ⟨cs, s, rfl, hs⟩ := open_scope k2 h2 _s2
  exact lawValues_r c vg va p vv vc cs s W ho hn hg ha hv hc hs
theorem walk_CmdSpoilt {H : Type} {enc : TypeId × Value → H} {r : Reach} {b0 : Nat} {d0 d1 d2 : DataW H} {p0 p1 p2 : List MemPlace} (v0 v1 v2 : Value) (W : World) (ho : OwnIs W)
    (k0 : Value.okWide Tryd.prog W r b0 T.api_Cmd v0) (h0 : DataW.Trod enc Tryd.prog W 0 (fun _ => true) true T.api_Cmd v0 d0 p0) (_s0 : Small Tryd.prog T.api_Cmd d0)
    (k1 : Value.okWide Tryd.prog W r b0 T.api_Proc v1) (h1 : DataW.Trod enc Tryd.prog W 0 (fun _ => true) true T.api_Proc v1 d1 p1) (_s1 : Small Tryd.prog T.api_Proc d1)
    (k2 : Value.okWide Tryd.prog W r b0 T.api_Scope v2) (h2 : DataW.Trod enc Tryd.prog W 0 (fun _ => true) true T.api_Scope v2 d2 p2) (_s2 : Small Tryd.prog T.api_Scope d2) :
    Ret Tryd.prog F.lariatlaw13_CmdSpoilt #[v0, v1, v2] W fun v w' => v = .bool true ∧ Ext W w' := by
  obtain ⟨_, c, rfl, hn, vg, va, rfl, hg, ha⟩ := open_cmd k0 h0
  obtain ⟨_, p, rfl, _, vv, vc, rfl, hv, hc⟩ := open_proc k1 h1
  obtain ⟨cs, s, rfl, hs⟩ := open_scope k2 h2 _s2
  exact lawSpoilt_r c vg va p vv vc cs s W ho hn hg ha hv hc hs
end Go.Proofs.YteaboocppcbkiaaDoor
