/- The arguments of the laws on declarations, opened. -/
import Derived.Test.YtoakjdilnkjcgaaDoorDeclR
import Derived.Test.YtoakjdilnkjcgaaDoorLite8
set_option linter.all false
set_option maxRecDepth 4000
namespace Go.Proofs.YtoakjdilnkjcgaaDoor
open Go Go.RowKit Lite Go.ChangeShapes
variable {H : Type} {enc : TypeId × Value → H} {r : Reach} {b0 : Nat} {v : Value} {d : DataW H} {p : List MemPlace} {w : World}

theorem scalar_cells {base : Nat} {sp : Nat → Bool} {hd : Bool} {n : Nat} {cs : List Value} {y : DataW H × List MemPlace} (h : DataW.trod enc Tryd.prog w base sp hd n T.api_Scalar cs = some y) : ∃ x : Abs.Scalar, cs = x.enc ∧ Abs.strOk x.name := by
  obtain ⟨hl, n', hf⟩ := fields1 (t := T.api_Scalar) rfl (by kernel_rfl) (by kernel_rfl) h
  match cs, hl with
  | [c0, c1], _ =>
    obtain ⟨_, _, e0, h0⟩ := hf 0 _ rfl
    obtain ⟨_, _, e1, h1⟩ := hf 1 _ rfl
    cases e0; cases e1
    obtain ⟨s, e0, _, hs⟩ := DataW.trod_string (by kernel_rfl) h0
    obtain ⟨z, e1, _, _⟩ := DataW.trod_int (k := .i64) (by kernel_rfl) h1
    cases e0; cases e1
    exact ⟨⟨s, z⟩, rfl, hs⟩
theorem var_cells {base : Nat} {sp : Nat → Bool} {hd : Bool} {n : Nat} {cs : List Value} {y : DataW H × List MemPlace} (h : DataW.trod enc Tryd.prog w base sp hd n T.api_Var cs = some y) : ∃ x : Abs.Var, cs = x.enc ∧ Abs.strOk x.name := by
  obtain ⟨hl, n', hf⟩ := fields1 (t := T.api_Var) rfl (by kernel_rfl) (by kernel_rfl) h
  match cs, hl with
  | [c0, c1, c2, c3, c4, c5], _ =>
    obtain ⟨_, _, e0, h0⟩ := hf 0 _ rfl
    obtain ⟨_, _, e1, h1⟩ := hf 1 _ rfl
    obtain ⟨_, _, e2, h2⟩ := hf 2 _ rfl
    obtain ⟨_, _, e3, h3⟩ := hf 3 _ rfl
    obtain ⟨_, _, e4, h4⟩ := hf 4 _ rfl
    obtain ⟨_, _, e5, h5⟩ := hf 5 _ rfl
    cases e0; cases e1; cases e2; cases e3; cases e4; cases e5
    obtain ⟨s, e0, _, hs⟩ := DataW.trod_string (by kernel_rfl) h0
    obtain ⟨z1, e1, _, _⟩ := DataW.trod_int (k := .i64) (by kernel_rfl) h1
    obtain ⟨z2, e2, _, _⟩ := DataW.trod_int (k := .i64) (by kernel_rfl) h2
    obtain ⟨z3, e3, _, _⟩ := DataW.trod_int (k := .i64) (by kernel_rfl) h3
    obtain ⟨z4, e4, _, _⟩ := DataW.trod_int (k := .i64) (by kernel_rfl) h4
    obtain ⟨z5, e5, _, _⟩ := DataW.trod_int (k := .i64) (by kernel_rfl) h5
    cases e0; cases e1; cases e2; cases e3; cases e4; cases e5
    exact ⟨⟨s, z1, z2, z3, z4, z5⟩, rfl, hs⟩
theorem chan_cells {base : Nat} {sp : Nat → Bool} {hd : Bool} {n : Nat} {cs : List Value} {y : DataW H × List MemPlace} (h : DataW.trod enc Tryd.prog w base sp hd n T.api_Chan cs = some y) : ∃ x : Abs.Chan, cs = x.enc ∧ Abs.strOk x.name := by
  obtain ⟨hl, n', hf⟩ := fields1 (t := T.api_Chan) rfl (by kernel_rfl) (by kernel_rfl) h
  match cs, hl with
  | [c0, c1, c2, c3, c4, c5], _ =>
    obtain ⟨_, _, e0, h0⟩ := hf 0 _ rfl
    obtain ⟨_, _, e1, h1⟩ := hf 1 _ rfl
    obtain ⟨_, _, e2, h2⟩ := hf 2 _ rfl
    obtain ⟨_, _, e3, h3⟩ := hf 3 _ rfl
    obtain ⟨_, _, e4, h4⟩ := hf 4 _ rfl
    obtain ⟨_, _, e5, h5⟩ := hf 5 _ rfl
    cases e0; cases e1; cases e2; cases e3; cases e4; cases e5
    obtain ⟨s, e0, _, hs⟩ := DataW.trod_string (by kernel_rfl) h0
    obtain ⟨z1, e1, _, _⟩ := DataW.trod_int (k := .i64) (by kernel_rfl) h1
    obtain ⟨z2, e2, _, _⟩ := DataW.trod_int (k := .i64) (by kernel_rfl) h2
    obtain ⟨z3, e3, _, _⟩ := DataW.trod_int (k := .i64) (by kernel_rfl) h3
    obtain ⟨z4, e4, _, _⟩ := DataW.trod_int (k := .i64) (by kernel_rfl) h4
    obtain ⟨z5, e5, _⟩ := DataW.trod_bool (by kernel_rfl) h5
    cases e0; cases e1; cases e2; cases e3; cases e4; cases e5
    exact ⟨⟨s, z1, z2, z3, z4, z5⟩, rfl, hs⟩
theorem open_scalars (hval : Value.okWide Tryd.prog w r b0 T.sl_api_Scalar v) (h : DataW.Trod enc Tryd.prog w 0 (fun _ => true) true T.sl_api_Scalar v d p) : ∃ l, Abs.Scalars w v l :=
  open_sl (e := T.api_Scalar) 2 (by kernel_rfl) (by kernel_rfl) (fun a cs n y hc hl ht => by obtain ⟨x, rfl, hs⟩ := scalar_cells ht; exact ⟨x, hc, hs⟩) hval h
theorem open_vars (hval : Value.okWide Tryd.prog w r b0 T.sl_api_Var v) (h : DataW.Trod enc Tryd.prog w 0 (fun _ => true) true T.sl_api_Var v d p) : ∃ l, Abs.Vars w v l :=
  open_sl (e := T.api_Var) 6 (by kernel_rfl) (by kernel_rfl) (fun a cs n y hc hl ht => by obtain ⟨x, rfl, hs⟩ := var_cells ht; exact ⟨x, hc, hs⟩) hval h
theorem open_chans (hval : Value.okWide Tryd.prog w r b0 T.sl_api_Chan v) (h : DataW.Trod enc Tryd.prog w 0 (fun _ => true) true T.sl_api_Chan v d p) : ∃ l, Abs.Chans w v l :=
  open_sl (e := T.api_Chan) 6 (by kernel_rfl) (by kernel_rfl) (fun a cs n y hc hl ht => by obtain ⟨x, rfl, hs⟩ := chan_cells ht; exact ⟨x, hc, hs⟩) hval h
theorem open_var (hval : Value.okWide Tryd.prog w r b0 T.api_Var v) (h : DataW.Trod enc Tryd.prog w 0 (fun _ => true) true T.api_Var v d p) : ∃ x : Abs.Var, v = .agg x.enc.toArray ∧ Abs.strOk x.name := by
  obtain ⟨cs, n, y, rfl, ht⟩ := open_st (t := T.api_Var) rfl hval h
  obtain ⟨x, e, hs⟩ := var_cells ht
  exact ⟨x, by rw [← e], hs⟩

theorem walk_DeclCells {H : Type} {enc : TypeId × Value → H} {r : Reach} {b0 : Nat} {d0 d1 : DataW H} {p0 p1 : List MemPlace} (v0 v1 : Value) (W : World) (ho : OwnIs W)
    (k0 : Value.okWide Tryd.prog W r b0 T.api_Var v0) (h0 : DataW.Trod enc Tryd.prog W 0 (fun _ => true) true T.api_Var v0 d0 p0)
    (k1 : Value.okWide Tryd.prog W r b0 T.sl_api_Scalar v1) (h1 : DataW.Trod enc Tryd.prog W 0 (fun _ => true) true T.sl_api_Scalar v1 d1 p1) :
    Ret Tryd.prog F.lariatlaw12_DeclCells #[v0, v1] W fun v w' => v = .bool true ∧ Ext W w' := by
  obtain ⟨x, rfl, _⟩ := open_var k0 h0
  obtain ⟨l, hl⟩ := open_scalars k1 h1
  exact lawCells_r x v1 l W ho hl
end Go.Proofs.YtoakjdilnkjcgaaDoor
