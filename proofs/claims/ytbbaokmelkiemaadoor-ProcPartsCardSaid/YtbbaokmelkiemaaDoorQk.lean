/- Texts joined: Open5 ProcW ProcR ProcM ProcY. -/
import Derived.Test.YtbbaokmelkiemaaDoorQc
import Derived.Test.YtbbaokmelkiemaaDoorQg
import Derived.Test.YtbbaokmelkiemaaDoorQh
import Derived.Test.YtbbaokmelkiemaaDoorQj
import Derived.OpenShut
set_option linter.all false
section
/- Arguments opened: models, with what their sizes tell. -/
set_option maxRecDepth 4000
namespace Lite
open Go Go.RowKit Go.ChangeShapes Go.WideShapes Go.Deep
section
variable {H : Type} {enc : TypeId × Value → H} {P : Program} {w : World} {base : Nat} {spare : Nat → Bool} {held : Bool}
theorem weights_mem_all {e : TypeId} : ∀ {ds : List (DataW H)} {d : DataW H}, d ∈ ds → ∀ n ∈ d.weights P e, n ∈ DataW.weightsAll P e ds
  | [], _, h => by cases h
  | x :: r, d, h => fun n hn => by
    simp only [DataW.weightsAll]
    rcases List.mem_cons.1 h with rfl | h
    · exact List.mem_append_left _ hn
    · exact List.mem_append_right _ (weights_mem_all h n hn)
/-- A cell that holds a slice whose elements are read each by R, and are good where the datum is small. -/
theorem cell_slG {α : Type} {R : World → Addr → α → Prop} {G : α → Prop} {t e : TypeId} {v : Value} {n : Nat} {z : DataW H × List MemPlace} (sz B : Nat) (ht : P.underlying t = some (.slice e)) (hC : P.cellsOf e = sz) (hB : P.bytesOf e = B)
    (hR : ∀ (a : Addr) (cs : List Value) (n : Nat) (y : DataW H × List MemPlace), CellsAt w a cs → cs.length = sz → DataW.trod enc P w 0 (fun _ => true) true n e cs = some y → ∃ x, R w a x ∧ (Small P e y.1 → G x))
    (h : DataW.trod enc P w 0 (fun _ => true) true n t [v] = some z) : ∃ xs, SlR sz R w v xs ∧ (Small P t z.1 → Abs.big xs.length B ∧ ∀ x ∈ xs, G x) := by
  rcases open_slice ht h with ⟨hcs, _⟩ | ⟨a, len, cap, m, n, D, Pl, hcs, hb, hl, hm, hmm, hx, hi⟩
  · simp at hcs
    subst hcs
    exact ⟨[], SlR.nil, fun _ => ⟨by simp [Abs.big], fun x hx => by cases hx⟩⟩
  · simp at hcs
    subst hcs
    simp only [if_true] at hmm
    subst hmm
    obtain ⟨xs, hxl, hxs⟩ := list_of len (fun i x => R w (a.add (i * sz)) x ∧ (Small P e (D i) → G x)) fun i hi' => by
      obtain ⟨cs', hc, ht'⟩ := hi i (by omega)
      rw [hC] at hc
      obtain ⟨_, hcl, hat⟩ := World.cells?_some hc
      refine hR _ cs' n _ (fun j u hj => ?_) hcl ht'
      have hjl' : j < sz := hcl ▸ (List.getElem?_eq_some_iff.1 hj).1
      rw [← hj]
      exact hat j hjl'
    refine ⟨xs, ⟨some a, _, by rw [hxl], by omega, hm, fun _ => rfl, fun a' ha i hi => by injection ha with ha; subst ha; exact (hxs i hi).1⟩, fun hs => ⟨?_, fun x hx' => ?_⟩⟩
    · have h1 := hs ((len + (m - len)) * P.bytesOf e) (by rw [hx]; simp [DataW.weights, ht])
      have h2 : len * B ≤ (len + (m - len)) * P.bytesOf e := by rw [hB]; exact Nat.mul_le_mul_right _ (by omega)
      have h3 : reachBytes = 140737488351232 := rfl
      unfold Abs.big
      rw [hxl]
      omega
    · obtain ⟨i, hi', rfl⟩ := List.mem_iff_getElem.1 hx'
      refine (hxs i hi').2 fun q hq => hs q ?_
      rw [hx]
      simp only [DataW.weights, ht]
      refine List.mem_cons_of_mem _ (List.mem_append_left _ (weights_mem_all ?_ q hq))
      exact List.mem_map.2 ⟨i, by simp; omega, rfl⟩
theorem open_stG {r : Reach} {b0 : Nat} {t : TypeId} {fs : Array Field} {v : Value} {d : DataW H} {p : List MemPlace} (ht : P.underlying t = some (.struct fs))
    (hval : Value.okWide P w r b0 t v) (h : DataW.Trod enc P w base spare held t v d p) : ∃ cs n, v = .agg cs ∧ DataW.trod enc P w base spare held n t cs.toList = some (d, p) := by
  obtain ⟨cs, rfl, hsz⟩ := okWide_struct ht hval
  obtain ⟨fuel, hf⟩ := h
  exact ⟨cs, fuel, rfl, hf⟩
end
end Lite
namespace Go.Proofs.YtbbaokmelkiemaaDoor
open Go Go.RowKit Lite Go.ChangeShapes
variable {H : Type} {enc : TypeId × Value → H} {w : World} {cs : List Value} {n : Nat} {y : DataW H × List MemPlace} {v : Value}
theorem gscalar (h : DataW.trod enc Tryd.prog w 0 (fun _ => true) true n T.api_Scalar cs = some y) : ∃ x : Abs.Scalar, cs = x.enc ∧ Abs.strOk x.name ∧ x.good := by
  obtain ⟨hl, n', ds, _, hf⟩ := fields2 (t := T.api_Scalar) rfl (by kernel_rfl) (by kernel_rfl) h
  match cs, hl with
  | [c0, c1], _ =>
    obtain ⟨_, _, e0, h0, _⟩ := hf 0 _ rfl
    obtain ⟨_, _, e1, h1, _⟩ := hf 1 _ rfl
    cases e0; cases e1
    obtain ⟨s, e0, _, hs⟩ := DataW.trod_string (by kernel_rfl) h0
    obtain ⟨z, e1, _, k1⟩ := DataW.trod_int (k := .i64) (by kernel_rfl) h1
    cases e0; cases e1
    exact ⟨⟨s, z⟩, rfl, hs, ⟨wf_inI k1⟩⟩
theorem gvar (h : DataW.trod enc Tryd.prog w 0 (fun _ => true) true n T.api_Var cs = some y) : ∃ x : Abs.Var, cs = x.enc ∧ Abs.strOk x.name ∧ x.good := by
  obtain ⟨hl, n', ds, _, hf⟩ := fields2 (t := T.api_Var) rfl (by kernel_rfl) (by kernel_rfl) h
  match cs, hl with
  | [c0, c1, c2, c3, c4, c5], _ =>
    obtain ⟨_, _, e0, h0, _⟩ := hf 0 _ rfl
    obtain ⟨_, _, e1, h1, _⟩ := hf 1 _ rfl
    obtain ⟨_, _, e2, h2, _⟩ := hf 2 _ rfl
    obtain ⟨_, _, e3, h3, _⟩ := hf 3 _ rfl
    obtain ⟨_, _, e4, h4, _⟩ := hf 4 _ rfl
    obtain ⟨_, _, e5, h5, _⟩ := hf 5 _ rfl
    cases e0; cases e1; cases e2; cases e3; cases e4; cases e5
    obtain ⟨s, e0, _, hs⟩ := DataW.trod_string (by kernel_rfl) h0
    obtain ⟨z1, e1, _, k1⟩ := DataW.trod_int (k := .i64) (by kernel_rfl) h1
    obtain ⟨z2, e2, _, k2⟩ := DataW.trod_int (k := .i64) (by kernel_rfl) h2
    obtain ⟨z3, e3, _, k3⟩ := DataW.trod_int (k := .i64) (by kernel_rfl) h3
    obtain ⟨z4, e4, _, k4⟩ := DataW.trod_int (k := .i64) (by kernel_rfl) h4
    obtain ⟨z5, e5, _, k5⟩ := DataW.trod_int (k := .i64) (by kernel_rfl) h5
    cases e0; cases e1; cases e2; cases e3; cases e4; cases e5
    exact ⟨⟨s, z1, z2, z3, z4, z5⟩, rfl, hs, ⟨wf_inI k1, wf_inI k2, wf_inI k3, wf_inI k4, wf_inI k5⟩⟩
theorem gchan (h : DataW.trod enc Tryd.prog w 0 (fun _ => true) true n T.api_Chan cs = some y) : ∃ x : Abs.Chan, cs = x.enc ∧ Abs.strOk x.name ∧ x.good := by
  obtain ⟨hl, n', ds, _, hf⟩ := fields2 (t := T.api_Chan) rfl (by kernel_rfl) (by kernel_rfl) h
  match cs, hl with
  | [c0, c1, c2, c3, c4, c5], _ =>
    obtain ⟨_, _, e0, h0, _⟩ := hf 0 _ rfl
    obtain ⟨_, _, e1, h1, _⟩ := hf 1 _ rfl
    obtain ⟨_, _, e2, h2, _⟩ := hf 2 _ rfl
    obtain ⟨_, _, e3, h3, _⟩ := hf 3 _ rfl
    obtain ⟨_, _, e4, h4, _⟩ := hf 4 _ rfl
    obtain ⟨_, _, e5, h5, _⟩ := hf 5 _ rfl
    cases e0; cases e1; cases e2; cases e3; cases e4; cases e5
    obtain ⟨s, e0, _, hs⟩ := DataW.trod_string (by kernel_rfl) h0
    obtain ⟨z1, e1, _, k1⟩ := DataW.trod_int (k := .i64) (by kernel_rfl) h1
    obtain ⟨z2, e2, _, k2⟩ := DataW.trod_int (k := .i64) (by kernel_rfl) h2
    obtain ⟨z3, e3, _, k3⟩ := DataW.trod_int (k := .i64) (by kernel_rfl) h3
    obtain ⟨z4, e4, _, k4⟩ := DataW.trod_int (k := .i64) (by kernel_rfl) h4
    obtain ⟨z5, e5, _⟩ := DataW.trod_bool (by kernel_rfl) h5
    cases e0; cases e1; cases e2; cases e3; cases e4; cases e5
    exact ⟨⟨s, z1, z2, z3, z4, z5⟩, rfl, hs, ⟨wf_inI k1, wf_inI k2, wf_inI k3, wf_inI k4⟩⟩
theorem gnodes (h : DataW.trod enc Tryd.prog w 0 (fun _ => true) true n T.sl_api_Node [v] = some y) : ∃ l, Abs.Nodes w v l ∧ (Small Tryd.prog T.sl_api_Node y.1 → Abs.big l.length 16 ∧ ∀ x ∈ l, True) :=
  cell_slG (G := fun _ => True) (e := T.api_Node) 2 16 (by kernel_rfl) (by kernel_rfl) (by kernel_rfl) (fun a cs n y hc hl ht => by obtain ⟨x, rfl, hx⟩ := node_el ht; exact ⟨x, ⟨hc, hx⟩, fun _ => trivial⟩) h
theorem gscalars (h : DataW.trod enc Tryd.prog w 0 (fun _ => true) true n T.sl_api_Scalar [v] = some y) : ∃ l, Abs.Scalars w v l ∧ (Small Tryd.prog T.sl_api_Scalar y.1 → Abs.big l.length 24 ∧ ∀ x ∈ l, x.good) :=
  cell_slG (e := T.api_Scalar) 2 24 (by kernel_rfl) (by kernel_rfl) (by kernel_rfl) (fun a cs n y hc hl ht => by obtain ⟨x, rfl, hx, hg⟩ := gscalar ht; exact ⟨x, ⟨hc, hx⟩, fun _ => hg⟩) h
theorem gvars (h : DataW.trod enc Tryd.prog w 0 (fun _ => true) true n T.sl_api_Var [v] = some y) : ∃ l, Abs.Vars w v l ∧ (Small Tryd.prog T.sl_api_Var y.1 → Abs.big l.length 56 ∧ ∀ x ∈ l, x.good) :=
  cell_slG (e := T.api_Var) 6 56 (by kernel_rfl) (by kernel_rfl) (by kernel_rfl) (fun a cs n y hc hl ht => by obtain ⟨x, rfl, hx, hg⟩ := gvar ht; exact ⟨x, ⟨hc, hx⟩, fun _ => hg⟩) h
theorem gchans (h : DataW.trod enc Tryd.prog w 0 (fun _ => true) true n T.sl_api_Chan [v] = some y) : ∃ l, Abs.Chans w v l ∧ (Small Tryd.prog T.sl_api_Chan y.1 → Abs.big l.length 56 ∧ ∀ x ∈ l, x.good) :=
  cell_slG (e := T.api_Chan) 6 56 (by kernel_rfl) (by kernel_rfl) (by kernel_rfl) (fun a cs n y hc hl ht => by obtain ⟨x, rfl, hx, hg⟩ := gchan ht; exact ⟨x, ⟨hc, hx⟩, fun _ => hg⟩) h
theorem gact {a : Addr} (hc : CellsAt w a cs) (h : DataW.trod enc Tryd.prog w 0 (fun _ => true) true n T.api_Act cs = some y) : ∃ x : Abs.Act, Abs.RAct w a x ∧ (Small Tryd.prog T.api_Act y.1 → x.good) := by
  obtain ⟨hl, n', ds, he, hf⟩ := fields2 (t := T.api_Act) rfl (by kernel_rfl) (by kernel_rfl) h
  match cs, hl with
  | [c0, c1, c2, c3, c4], _ =>
    obtain ⟨_, _, e0, h0, _⟩ := hf 0 _ rfl
    obtain ⟨_, _, e1, h1, _⟩ := hf 1 _ rfl
    obtain ⟨_, _, e2, h2, _⟩ := hf 2 _ rfl
    obtain ⟨_, _, e3, h3, d3⟩ := hf 3 _ rfl
    obtain ⟨_, _, e4, h4, d4⟩ := hf 4 _ rfl
    cases e0; cases e1; cases e2; cases e3; cases e4
    obtain ⟨z0, e0, _, k0⟩ := DataW.trod_int (k := .i64) (by kernel_rfl) h0
    obtain ⟨z1, e1, _, k1⟩ := DataW.trod_int (k := .i64) (by kernel_rfl) h1
    obtain ⟨z2, e2, _, k2⟩ := DataW.trod_int (k := .i64) (by kernel_rfl) h2
    cases e0; cases e1; cases e2
    obtain ⟨l3, h3, g3⟩ := gnodes h3
    obtain ⟨l4, h4, g4⟩ := gnodes h4
    exact ⟨⟨z0, z1, z2, l3, l4⟩, ⟨c3, c4, hc, h3, h4⟩, fun hs => by
      rw [he] at hs
      exact ⟨wf_inI k0, wf_inI k1, wf_inI k2, (g3 (hs.field rfl rfl rfl d3)).1, (g4 (hs.field rfl rfl rfl d4)).1⟩⟩
theorem gacts (h : DataW.trod enc Tryd.prog w 0 (fun _ => true) true n T.sl_api_Act [v] = some y) : ∃ l, Abs.Acts w v l ∧ (Small Tryd.prog T.sl_api_Act y.1 → Abs.big l.length 72 ∧ ∀ x ∈ l, x.good) :=
  cell_slG (e := T.api_Act) 5 72 (by kernel_rfl) (by kernel_rfl) (by kernel_rfl) (fun a cs n y hc hl ht => gact hc ht) h
theorem gcmd (h : DataW.trod enc Tryd.prog w 0 (fun _ => true) true n T.api_Cmd cs = some y) : ∃ x : Abs.Cmd, Abs.CmdIs w cs x ∧ (Small Tryd.prog T.api_Cmd y.1 → x.good) := by
  obtain ⟨hl, n', ds, he, hf⟩ := fields2 (t := T.api_Cmd) rfl (by kernel_rfl) (by kernel_rfl) h
  match cs, hl with
  | [c0, c1, c2, c3, c4, c5], _ =>
    obtain ⟨_, _, e0, h0, _⟩ := hf 0 _ rfl
    obtain ⟨_, _, e1, h1, _⟩ := hf 1 _ rfl
    obtain ⟨_, _, e2, h2, _⟩ := hf 2 _ rfl
    obtain ⟨_, _, e3, h3, d3⟩ := hf 3 _ rfl
    obtain ⟨_, _, e4, h4, d4⟩ := hf 4 _ rfl
    obtain ⟨_, _, e5, h5, _⟩ := hf 5 _ rfl
    cases e0; cases e1; cases e2; cases e3; cases e4; cases e5
    obtain ⟨s, e0, _, hs⟩ := DataW.trod_string (by kernel_rfl) h0
    obtain ⟨z1, e1, _, k1⟩ := DataW.trod_int (k := .i64) (by kernel_rfl) h1
    obtain ⟨z2, e2, _, k2⟩ := DataW.trod_int (k := .i64) (by kernel_rfl) h2
    obtain ⟨z5, e5, _⟩ := DataW.trod_bool (by kernel_rfl) h5
    cases e0; cases e1; cases e2; cases e5
    obtain ⟨l3, h3, g3⟩ := gnodes h3
    obtain ⟨l4, h4, g4⟩ := gacts h4
    exact ⟨⟨s, z1, z2, l3, l4, z5⟩, ⟨hs, c3, c4, rfl, h3, h4⟩, fun hs => by
      rw [he] at hs
      exact ⟨wf_inI k1, wf_inI k2, (g3 (hs.field rfl rfl rfl d3)).1, (g4 (hs.field rfl rfl rfl d4)).1, (g4 (hs.field rfl rfl rfl d4)).2⟩⟩
theorem gcmds (h : DataW.trod enc Tryd.prog w 0 (fun _ => true) true n T.sl_api_Cmd [v] = some y) : ∃ l, Abs.Cmds w v l ∧ (Small Tryd.prog T.sl_api_Cmd y.1 → Abs.big l.length 88 ∧ ∀ x ∈ l, x.good) :=
  cell_slG (e := T.api_Cmd) 6 88 (by kernel_rfl) (by kernel_rfl) (by kernel_rfl) (fun a cs n y hc hl ht => by
    obtain ⟨x, ⟨h0, vg, va, rfl, h1, h2⟩, hg⟩ := gcmd ht
    exact ⟨x, ⟨h0, vg, va, hc, h1, h2⟩, hg⟩) h
theorem gproc (h : DataW.trod enc Tryd.prog w 0 (fun _ => true) true n T.api_Proc cs = some y) : ∃ x : Abs.Proc, Abs.ProcIs w cs x ∧ (Small Tryd.prog T.api_Proc y.1 → x.good) := by
  obtain ⟨hl, n', ds, he, hf⟩ := fields2 (t := T.api_Proc) rfl (by kernel_rfl) (by kernel_rfl) h
  match cs, hl with
  | [c0, c1, c2, c3, c4], _ =>
    obtain ⟨_, _, e0, h0, _⟩ := hf 0 _ rfl
    obtain ⟨_, _, e1, h1, _⟩ := hf 1 _ rfl
    obtain ⟨_, _, e2, h2, _⟩ := hf 2 _ rfl
    obtain ⟨_, _, e3, h3, d3⟩ := hf 3 _ rfl
    obtain ⟨_, _, e4, h4, d4⟩ := hf 4 _ rfl
    cases e0; cases e1; cases e2; cases e3; cases e4
    obtain ⟨s, e0, _, hs⟩ := DataW.trod_string (by kernel_rfl) h0
    obtain ⟨z1, e1, _, k1⟩ := DataW.trod_int (k := .i64) (by kernel_rfl) h1
    obtain ⟨z2, e2, _, k2⟩ := DataW.trod_int (k := .i64) (by kernel_rfl) h2
    cases e0; cases e1; cases e2
    obtain ⟨l3, h3, g3⟩ := gvars h3
    obtain ⟨l4, h4, g4⟩ := gcmds h4
    exact ⟨⟨s, z1, z2, l3, l4⟩, ⟨hs, c3, c4, rfl, h3, h4⟩, fun hs => by
      rw [he] at hs
      exact ⟨wf_inI k1, wf_inI k2, (g3 (hs.field rfl rfl rfl d3)).1, (g4 (hs.field rfl rfl rfl d4)).1, (g3 (hs.field rfl rfl rfl d3)).2, (g4 (hs.field rfl rfl rfl d4)).2⟩⟩
theorem gprocs (h : DataW.trod enc Tryd.prog w 0 (fun _ => true) true n T.sl_api_Proc [v] = some y) : ∃ l, Abs.Procs w v l ∧ (Small Tryd.prog T.sl_api_Proc y.1 → Abs.big l.length 80 ∧ ∀ x ∈ l, x.good) :=
  cell_slG (e := T.api_Proc) 5 80 (by kernel_rfl) (by kernel_rfl) (by kernel_rfl) (fun a cs n y hc hl ht => by
    obtain ⟨x, ⟨h0, vg, va, rfl, h1, h2⟩, hg⟩ := gproc ht
    exact ⟨x, ⟨h0, vg, va, hc, h1, h2⟩, hg⟩) h
theorem gprps (h : DataW.trod enc Tryd.prog w 0 (fun _ => true) true n T.sl_api_Prop [v] = some y) : ∃ l, Abs.Prps w v l ∧ (Small Tryd.prog T.sl_api_Prop y.1 → Abs.big l.length 40 ∧ ∀ x ∈ l, x.good) :=
  cell_slG (e := T.api_Prop) 2 40 (by kernel_rfl) (by kernel_rfl) (by kernel_rfl) (fun a cs n y hc hl ht => by
    obtain ⟨hl, n', ds, he, hf⟩ := fields2 (t := T.api_Prop) rfl (by kernel_rfl) (by kernel_rfl) ht
    match cs, hl with
    | [c0, c1], _ =>
      obtain ⟨_, _, e0, h0, _⟩ := hf 0 _ rfl
      obtain ⟨_, _, e1, h1, d1⟩ := hf 1 _ rfl
      cases e0; cases e1
      obtain ⟨s, e0, _, hs⟩ := DataW.trod_string (by kernel_rfl) h0
      cases e0
      obtain ⟨l1, h1, g1⟩ := gnodes h1
      exact ⟨⟨s, l1⟩, ⟨hs, c1, hc, h1⟩, fun hs => by rw [he] at hs; exact ⟨(g1 (hs.field rfl rfl rfl d1)).1⟩⟩) h
theorem open_proc {r : Reach} {b0 : Nat} {v : Value} {d : DataW H} {p : List MemPlace} (hval : Value.okWide Tryd.prog w r b0 T.api_Proc v) (h : DataW.Trod enc Tryd.prog w 0 (fun _ => true) true T.api_Proc v d p) (hs : Small Tryd.prog T.api_Proc d) :
    ∃ cs x, v = .agg cs.toArray ∧ Abs.ProcIs w cs x ∧ x.good := by
  obtain ⟨cs, n, rfl, ht⟩ := open_stG (t := T.api_Proc) rfl hval h
  obtain ⟨x, h1, h2⟩ := gproc ht
  exact ⟨cs.toList, x, by simp, h1, h2 hs⟩
theorem open_modelG {r : Reach} {b0 : Nat} {v : Value} {d : DataW H} {p : List MemPlace} (hval : Value.okWide Tryd.prog w r b0 T.api_Model v) (h : DataW.Trod enc Tryd.prog w 0 (fun _ => true) true T.api_Model v d p) (hs : Small Tryd.prog T.api_Model d) :
    ∃ cs m, v = .agg cs.toArray ∧ Abs.ModelIs w cs m ∧ m.good := by
  obtain ⟨cs, n, rfl, ht⟩ := open_stG (t := T.api_Model) rfl hval h
  obtain ⟨hl, n', ds, rfl, hf⟩ := fields2 (t := T.api_Model) rfl (by kernel_rfl) (by kernel_rfl) ht
  obtain ⟨cs⟩ := cs
  match cs, hl with
  | [c0, c1, c2, c3, c4], _ =>
    obtain ⟨_, _, e0, h0, d0⟩ := hf 0 _ rfl
    obtain ⟨_, _, e1, h1, d1⟩ := hf 1 _ rfl
    obtain ⟨_, _, e2, h2, d2⟩ := hf 2 _ rfl
    obtain ⟨_, _, e3, h3, d3⟩ := hf 3 _ rfl
    obtain ⟨_, _, e4, h4, d4⟩ := hf 4 _ rfl
    cases e0; cases e1; cases e2; cases e3; cases e4
    obtain ⟨l0, r0, b0⟩ := gscalars h0
    obtain ⟨l1, r1, b1⟩ := gvars h1
    obtain ⟨l2, r2, b2⟩ := gchans h2
    obtain ⟨l3, r3, b3⟩ := gprocs h3
    obtain ⟨l4, r4, b4⟩ := gprps h4
    have k0 := b0 (hs.field rfl rfl rfl d0)
    have k1 := b1 (hs.field rfl rfl rfl d1)
    have k2 := b2 (hs.field rfl rfl rfl d2)
    have k3 := b3 (hs.field rfl rfl rfl d3)
    have k4 := b4 (hs.field rfl rfl rfl d4)
    exact ⟨[c0, c1, c2, c3, c4], ⟨l0, l1, l2, l3, l4⟩, rfl, ⟨⟨c0, c1, c2, c3, c4, rfl, r0, r1, r2, r3, r4⟩⟩, ⟨k0.1, k1.1, k2.1, k3.1, k4.1, k0.2, k1.2, k2.2, k3.2, k4.2⟩⟩
end Go.Proofs.YtbbaokmelkiemaaDoor
end
section
/- The walks of the laws on processes, from what their arguments are. -/
set_option maxRecDepth 4000
namespace Go.Proofs.YtbbaokmelkiemaaDoor
open Go Go.RowKit Lite Go.ChangeShapes Go.WideShapes Go.Deep
theorem walk_ProcScopes {H : Type} {enc : TypeId × Value → H} {r : Reach} {b0 : Nat} {d0 d1 : DataW H} {p0 p1 : List MemPlace} (v0 v1 : Value) (W : World) (ho : OwnIs W)
    (k0 : Value.okWide Tryd.prog W r b0 T.api_Model v0) (h0 : DataW.Trod enc Tryd.prog W 0 (fun _ => true) true T.api_Model v0 d0 p0) (s0 : Small Tryd.prog T.api_Model d0)
    (k1 : Value.okWide Tryd.prog W r b0 T.int v1) (h1 : DataW.Trod enc Tryd.prog W 0 (fun _ => true) true T.int v1 d1 p1) (_s1 : Small Tryd.prog T.int d1) :
    Ret Tryd.prog F.lariatlaw14_ProcScopes #[v0, v1] W fun v w' => v = .bool true ∧ Ext W w' := by
  obtain ⟨cs, m, rfl, hm, hg⟩ := open_modelG k0 h0 s0
  obtain ⟨z, rfl, _⟩ := open_int (k := .i64) (by kernel_rfl) k1 h1
  exact lawScopes_r cs m z W hm hg ho
theorem walk_ProcInsts {H : Type} {enc : TypeId × Value → H} {r : Reach} {b0 : Nat} {d0 : DataW H} {p0 : List MemPlace} (v0 : Value) (W : World) (ho : OwnIs W)
    (k0 : Value.okWide Tryd.prog W r b0 T.api_Model v0) (h0 : DataW.Trod enc Tryd.prog W 0 (fun _ => true) true T.api_Model v0 d0 p0) (s0 : Small Tryd.prog T.api_Model d0) :
    Ret Tryd.prog F.lariatlaw14_ProcInsts #[v0] W fun v w' => v = .bool true ∧ Ext W w' := by
  obtain ⟨cs, m, rfl, hm, hg⟩ := open_modelG k0 h0 s0
  exact lawInsts_r cs m W hm hg ho
end Go.Proofs.YtbbaokmelkiemaaDoor
end
section
/- Plain: each instance has its process' commands, in order; a process stays right without its last command. No program in sight. -/
namespace Abs
open Go
theorem insts_mono {m : Model} {k : Nat} (h : k + 1 < (insts m).length) : (insts m)[k].proc ≤ (insts m)[k + 1].proc := by
  have hp := (instsFrom_pw (m := m) m.procs 0).1
  have := List.pairwise_iff_getElem.1 hp k (k + 1) (by unfold insts at h; omega) h (by omega)
  have h1 := (insts_of (insts m)[k] (List.getElem_mem _)).elem
  have h2 := (insts_of (insts m)[k + 1] (List.getElem_mem _)).elem
  unfold Inst.key at this
  unfold insts at *
  omega
theorem refs_pre {m : Model} {pre : List Ref} {k c n : Nat} {rest : List Ref} (h : pre ++ (refsOf k n ++ rest) = refs m) (hc : c < n) : ∃ hl : pre.length + c < (refs m).length, (refs m)[pre.length + c] = ⟨(k : Int), (c : Int)⟩ := by
  have hl : pre.length + c < (refs m).length := by
    rw [← h]; simp only [List.length_append, refsOf, List.length_map, List.length_range]; omega
  refine ⟨hl, ?_⟩
  have : (pre ++ (refsOf k n ++ rest))[pre.length + c]? = some ⟨(k : Int), (c : Int)⟩ := by
    rw [List.getElem?_append_right (by omega), List.getElem?_append_left (by simp [refsOf]; omega)]
    simp [refsOf, hc]
  rw [h] at this
  exact (List.getElem?_eq_some_iff.1 this).2
theorem fairsFrom_mem {m : Model} : ∀ (l : List Ref) (i0 : Nat) (n : Int), n ∈ fairsFrom m l i0 ↔ ∃ j, ∃ hj : j < l.length, n = ((i0 + j : Nat) : Int) ∧ isFair m l[j] = true
  | [], _, _ => by simp [fairsFrom]
  | r :: l, i0, n => by
    simp only [fairsFrom, List.mem_append]
    rw [fairsFrom_mem l (i0 + 1) n]
    constructor
    · rintro (h | ⟨j, hj, h1, h2⟩)
      · split at h
        · rename_i hf
          rw [List.mem_singleton] at h
          exact ⟨0, by simp, by simpa using h, by simpa using hf⟩
        · cases h
      · exact ⟨j + 1, by simpa using hj, by rw [h1]; congr 1; omega, by simpa using h2⟩
    · rintro ⟨j, hj, h1, h2⟩
      cases j with
      | zero => left; rw [if_pos (by simpa using h2)]; simpa using h1
      | succ j => right; exact ⟨j, by simpa using hj, by rw [h1]; congr 1; omega, by simpa using h2⟩
theorem fairs_mem {m : Model} {n : Nat} (h : n < (refs m).length) : ((n : Int) ∈ fairs m) ↔ isFair m (refs m)[n] = true := by
  unfold fairs
  rw [fairsFrom_mem]
  constructor
  · rintro ⟨j, hj, h1, h2⟩
    have : n = j := by omega
    subst this
    exact h2
  · exact fun hh => ⟨n, h, by simp, hh⟩
theorem fairsFrom_pw {m : Model} : ∀ (l : List Ref) (i0 : Nat), (fairsFrom m l i0).Pairwise (· < ·)
  | [], _ => by simp [fairsFrom]
  | r :: l, i0 => by
    simp only [fairsFrom]
    refine List.pairwise_append.2 ⟨?_, fairsFrom_pw l (i0 + 1), fun a ha b hb => ?_⟩
    · split
      · exact List.pairwise_singleton _ _
      · exact List.Pairwise.nil
    · obtain ⟨j, _, h1, _⟩ := (fairsFrom_mem _ _ _).1 hb
      split at ha
      · rw [List.mem_singleton] at ha; omega
      · cases ha
theorem fairs_sorted (m : Model) (i : Nat) (h : i + 1 < (fairs m).length) : (fairs m)[i] ≤ (fairs m)[i + 1] := by
  have := List.pairwise_iff_getElem.1 (fairsFrom_pw (m := m) (refs m) 0) i (i + 1) (by unfold fairs at h; omega) h (by omega)
  exact Int.le_of_lt this
/-! ### Parts -/
theorem procCheck_ok {p : Proc} {s : Scope} (h : (procCheck p s).2.2 = 0) : whole p s = 0 ∧ (plocals p s).2 = 0 ∧ (cmdsE (inner p s) p.locs p.cmds p.cmds 0).2.2 = 0 := by
  unfold procCheck at h
  by_cases h1 : whole p s ≠ 0
  · rw [if_pos h1] at h; exact absurd h h1
  rw [if_neg h1] at h
  by_cases h2 : (plocals p s).2 ≠ 0
  · rw [if_pos h2] at h; exact absurd h h2
  rw [if_neg h2] at h
  exact ⟨by simpa using h1, by simpa using h2, h⟩
theorem whole_ok {p : Proc} {s : Scope} (h : whole p s = 0) : isName p.name = true ∧ 0 ≤ p.over ∧ p.over ≤ s.scalars.length ∧ 1 ≤ p.locs ∧ p.locs ≤ 12 ∧ p.cmds.length ≤ 12 := by
  unfold whole at h
  by_cases h1 : isName p.name = false
  · rw [if_pos h1] at h; cases h
  rw [if_neg h1] at h
  by_cases h2 : p.over < 0 ∨ (s.scalars.length : Int) < p.over
  · rw [if_pos h2] at h; cases h
  rw [if_neg h2] at h
  by_cases h3 : p.locs < 1 ∨ 12 < p.locs
  · rw [if_pos h3] at h; cases h
  rw [if_neg h3] at h
  by_cases h4 : p.cmds.length > 12
  · rw [if_pos h4] at h; cases h
  exact ⟨by simpa using h1, by omega, by omega, by omega, by omega, by omega⟩
theorem cmdsE_each {own : Scope} {locs : Int} {all : List Cmd} : ∀ (l : List Cmd) (i : Nat), (cmdsE own locs all l i).2.2 = 0 → ∀ k (h : k < l.length), (cmdCheck l[k] locs own).2 = 0 ∧ (all.take (i + k)).any (fun x => decide (x.name = l[k].name)) = false
  | [], _, _, k, h => by simp at h
  | c :: r, i, hE, k, h => by
    simp only [cmdsE] at hE
    by_cases h1 : (cmdCheck c locs own).2 ≠ 0
    · rw [if_pos h1] at hE; exact absurd hE h1
    rw [if_neg h1] at hE
    by_cases h2 : (all.take i).any (fun x => decide (x.name = c.name)) = true
    · rw [if_pos h2] at hE; cases hE
    rw [if_neg h2] at hE
    cases k with
    | zero => exact ⟨by simpa using h1, by simpa using h2⟩
    | succ k =>
      have := cmdsE_each r (i + 1) hE k (by simpa using h)
      simpa [Nat.add_assoc, Nat.add_comm 1 k] using this
theorem cmdsE_none {own : Scope} {locs : Int} {all : List Cmd} : ∀ (l : List Cmd) (i : Nat), (∀ k (h : k < l.length), (cmdCheck l[k] locs own).2 = 0 ∧ (all.take (i + k)).any (fun x => decide (x.name = l[k].name)) = false) → cmdsE own locs all l i = (0, 0, 0)
  | [], _, _ => rfl
  | c :: r, i, hE => by
    have h0 := hE 0 (by simp)
    simp only [List.getElem_cons_zero, Nat.add_zero] at h0
    simp only [cmdsE]
    rw [if_neg (by simp [h0.1]), if_neg (by simp [h0.2])]
    refine cmdsE_none r (i + 1) fun k hk => ?_
    have := hE (k + 1) (by simpa using hk)
    simpa [Nat.add_assoc, Nat.add_comm 1 k] using this
/-- The last commands are looked at last. -/
theorem cmdsE_append {own : Scope} {locs : Int} {all : List Cmd} : ∀ (l r : List Cmd) (i : Nat), cmdsE own locs all l i = (0, 0, 0) → cmdsE own locs all (l ++ r) i = cmdsE own locs all r (i + l.length)
  | [], r, i, _ => by simp
  | c :: l, r, i, h => by
    simp only [cmdsE] at h
    by_cases h1 : (cmdCheck c locs own).2 ≠ 0
    · rw [if_pos h1] at h; injection h with h _; omega
    rw [if_neg h1] at h
    by_cases h2 : (all.take i).any (fun x => decide (x.name = c.name)) = true
    · rw [if_pos h2] at h; injection h with h _; omega
    rw [if_neg h2] at h
    simp only [List.cons_append, cmdsE]
    rw [if_neg h1, if_neg h2, cmdsE_append l r (i + 1) h]
    congr 1
    simp; omega
theorem parts_less {p : Proc} {s : Scope} (h : (procCheck p s).2.2 = 0) (n : Nat) : procCheck { p with cmds := p.cmds.take n } s = (0, 0, 0) := by
  obtain ⟨h1, h2, h3⟩ := procCheck_ok h
  obtain ⟨a1, a2, a3, a4, a5, a6⟩ := whole_ok h1
  have hw : whole { p with cmds := p.cmds.take n } s = 0 := by
    unfold whole
    simp only
    rw [if_neg (by simp [a1]), if_neg (by omega), if_neg (by omega), if_neg (by rw [List.length_take]; omega)]
  have hl : plocals { p with cmds := p.cmds.take n } s = plocals p s := rfl
  unfold procCheck
  rw [if_neg (by simp [hw]), if_neg (by rw [hl]; simp [h2])]
  have hi : inner { p with cmds := p.cmds.take n } s = inner p s := rfl
  rw [hi]
  refine cmdsE_none _ 0 fun k hk => ?_
  simp only [List.length_take] at hk
  have := cmdsE_each p.cmds 0 h3 k (by omega)
  simp only [List.getElem_take, Nat.zero_add] at this ⊢
  refine ⟨this.1, ?_⟩
  rw [List.take_take, Nat.min_eq_left (by omega)]
  exact this.2
theorem parts_more {p : Proc} {s : Scope} (h : (procCheck p s).2.2 = 0) (k : Nat) (hk : k + 1 = p.cmds.length) : procCheck { p with cmds := p.cmds ++ [p.cmds[k]] } s = if p.cmds.length = 12 then (0, 0, 11) else (2 + (p.cmds.length : Int), 0, 7) := by
  obtain ⟨h1, h2, h3⟩ := procCheck_ok h
  obtain ⟨a1, a2, a3, a4, a5, a6⟩ := whole_ok h1
  by_cases h12 : p.cmds.length = 12
  · rw [if_pos h12]
    have hw : whole { p with cmds := p.cmds ++ [p.cmds[k]] } s = 11 := by
      unfold whole
      simp only
      rw [if_neg (by simp [a1]), if_neg (by omega), if_neg (by omega), if_pos (by simp; omega)]
    unfold procCheck
    rw [if_pos (by simp [hw]), hw]
  · rw [if_neg h12]
    have hw : whole { p with cmds := p.cmds ++ [p.cmds[k]] } s = 0 := by
      unfold whole
      simp only
      rw [if_neg (by simp [a1]), if_neg (by omega), if_neg (by omega), if_neg (by simp; omega)]
    have hl : plocals { p with cmds := p.cmds ++ [p.cmds[k]] } s = plocals p s := rfl
    have hi : inner { p with cmds := p.cmds ++ [p.cmds[k]] } s = inner p s := rfl
    unfold procCheck
    rw [if_neg (by simp [hw]), if_neg (by rw [hl]; simp [h2]), hi]
    have each := cmdsE_each p.cmds 0 h3
    have e1 : cmdsE (inner p s) p.locs (p.cmds ++ [p.cmds[k]]) p.cmds 0 = (0, 0, 0) := cmdsE_none _ 0 fun j hj => by
      have := each j hj
      simp only [Nat.zero_add] at this ⊢
      exact ⟨this.1, by rw [List.take_append_of_le_length (by omega)]; exact this.2⟩
    show cmdsE (inner p s) p.locs (p.cmds ++ [p.cmds[k]]) (p.cmds ++ [p.cmds[k]]) 0 = _
    rw [cmdsE_append _ _ 0 e1]
    simp only [cmdsE, Nat.zero_add]
    rw [if_neg (by simp [(each k (by omega)).1]), if_pos]
    rw [List.take_append_of_le_length (by omega), List.take_of_length_le (by omega)]
    rw [List.any_eq_true]
    exact ⟨p.cmds[k], List.getElem_mem _, by simp⟩
end Abs
end
section
/- Processes: the law on parts, walked. -/
set_option maxRecDepth 8000
set_option maxHeartbeats 16000000
namespace Abs
def oneProc (p : Proc) : Model := ⟨[], [], [], [p], []⟩
end Abs
namespace Go.Proofs.YtbbaokmelkiemaaDoor
open Go Go.RowKit Lite
theorem cmds_twice {w0 w : World} {v : Value} {l : List Abs.Cmd} {css : List (Cs 6)} (hcl : css.length = l.length) (he : Ext w0 w) (hC : ∀ i (h1 : i < css.length) (h2 : i < l.length), Abs.CmdIs w0 css[i].1 l[i]) (k : Nat) (hk : k < l.length) (hk' : k < css.length) (h : SlR 6 (Flat encC) w v (css ++ [css[k]])) : Abs.Cmds w v (l ++ [l[k]]) := by
  refine SlR.ofCells (by simp [hcl]) h fun i h1 h2 => ?_
  by_cases hi : i < l.length
  · rw [List.getElem_append_left (by omega : i < css.length), List.getElem_append_left hi]
    exact (hC i (by omega) hi).ext he
  · have : i = l.length := by simp at h2; omega
    subst this
    have e1 : (css ++ [css[k]])[l.length] = css[k] := by rw [List.getElem_append_right (by omega)]; simp
    have e2 : (l ++ [l[k]])[l.length] = l[k] := by rw [List.getElem_append_right (by omega)]; simp
    rw [e1, e2]
    exact (hC k hk' hk).ext he
end Go.Proofs.YtbbaokmelkiemaaDoor
namespace Go.Proofs.YtbbaokmelkiemaaDoor
open Go Go.RowKit Lite
theorem lawParts_r (pcs : List Value) (p : Abs.Proc) (cs : List Value) (m : Abs.Model) (w : World) (hp : Abs.ProcIs w pcs p) (hpg : p.good) (h : Abs.ModelIs w cs m) (hg : m.good) (ho : OwnIs w) :
    Ret Tryd.prog F.lariatlaw14_ProcParts #[.agg pcs.toArray, .agg cs.toArray] w fun v w' => v = .bool true ∧ Ext w w' := by
  obtain ⟨o0, c0, o1, c1, o2, c2, o3, c3, o4, c4, rfl, _⟩ := h.form
  obtain ⟨hn, pv, pc, rfl, hv, hcm⟩ := hp
  obtain ⟨q3, d3, rfl, lv⟩ := hv.form
  obtain ⟨q4, d4, rfl, lc⟩ := hcm.form
  refine K.start hmix E.lariatlaw14_ProcParts (args := [_, _]) (Nat.le_of_ble_eq_true rfl) ?_; dsimp only [C.lariatlaw14_ProcParts,yt,yi,yb,yp,yr,ye,yc,yv,yg,ym,yw,ya,yl,yx,ys,yn]
  refine Sg ?_
  intro w1 b1 hb1 he1 hc1
  refine Sg ?_
  intro w2 b2 hb2 he2 hc2
  replace hc1 := he2.obj hc1
  have E2 : ∀ {w'}, Ext w2 w' → Ext w w' := fun e => (he1.trans he2).trans e
  refine Sg ?_
  refine K.call (heavy_r _ m w2 (h.ext (E2 (Ext.refl _)))) ?_
  rintro _ w3 ⟨hv3, he3⟩
  replace hc1 := he3.obj hc1
  replace hc2 := he3.obj hc2
  have E3 : ∀ {w'}, Ext w3 w' → Ext w w' := fun e => E2 (he3.trans e)
  rcases hv3 with rfl | ⟨rfl, hH⟩
  · refine Sg ?_
    refine K.call (pworks_r w3 (ho.ext (E3 (Ext.refl _)))) ?_
    rintro _ w4 ⟨rfl, he4⟩
    refine Sg ?_
    exact ⟨by first | trivial | rfl, E3 he4⟩
  refine Sg ?_
  intro w4 b3 hb3 he4 hc4
  replace hc1 := he4.obj hc1
  replace hc2 := he4.obj hc2
  have E4 : ∀ {w'}, Ext w4 w' → Ext w w' := fun e => E3 (he4.trans e)
  have hone : Abs.ModelIs w4 [.slice none 0 0, .slice none 0 0, .slice none 0 0, .slice (some ⟨b3, 0, none⟩) 1 1, .slice none 0 0] (Abs.oneProc p) := ⟨_, _, _, _, _, rfl, SlR.nil, SlR.nil, SlR.nil, SlR.blkC [⟨p.enc (.slice q3 p.vars.length d3) (.slice q4 p.cmds.length d4), rfl, by simp [Abs.Proc.enc, Value.oneCell']⟩] hc4 rfl rfl rfl (Nat.le_of_ble_eq_true rfl) (by
    intro i h1 h2
    have : i = 0 := by simp at h1; omega
    subst this
    exact ⟨hn, _, _, rfl, hv.ext (E4 (Ext.refl _)), hcm.ext (E4 (Ext.refl _))⟩), SlR.nil⟩
  refine Sg ?_
  refine K.call (heavy_r _ (Abs.oneProc p) w4 hone) ?_
  rintro _ w5 ⟨hv5, he5⟩
  replace hc1 := he5.obj hc1
  replace hc2 := he5.obj hc2
  have E5 : ∀ {w'}, Ext w5 w' → Ext w w' := fun e => E4 (he5.trans e)
  rcases hv5 with rfl | ⟨rfl, hH1⟩
  · refine Sg ?_
    refine K.call (pworks_r w5 (ho.ext (E5 (Ext.refl _)))) ?_
    rintro _ w6 ⟨rfl, he6⟩
    refine Sg ?_
    exact ⟨by first | trivial | rfl, E5 he6⟩
  have hpi := hH1.i p (by simp [Abs.oneProc])
  have hp30 := hpi.2.1
  clear hone hc4 hH hH1
  refine Sg ?_
  refine K.cond (fun g1 => ?_) (fun g1 => ?_)
  · refine Sg ?_
    refine K.call (pworks_r w5 (ho.ext (E5 (Ext.refl _)))) ?_
    rintro _ w6 ⟨rfl, he6⟩
    refine Sg ?_
    exact ⟨by first | trivial | rfl, E5 he6⟩
  obtain ⟨k, hk⟩ : ∃ k, k + 1 = p.cmds.length := ⟨p.cmds.length - 1, by omega⟩
  refine Sg ?_
  refine K.call (refScope_r (w0 := w) _ m (-1) w5 h (E5 (Ext.refl _)) hg) ?_
  rintro _ w6 ⟨⟨cs', rfl, hsc⟩, he6⟩
  replace hc1 := he6.obj hc1
  replace hc2 := he6.obj hc2
  have E6 : ∀ {w'}, Ext w6 w' → Ext w w' := fun e => E5 (he6.trans e)
  obtain ⟨x0, y0, x1, y1, x2, y2, x3, y3, x4, y4, rfl, _⟩ := (hsc _ (E6 (Ext.refl _))).form
  refine Sg ?_
  intro w7 b5 hb5 he7 hc7
  replace hc1 := he7.obj hc1
  have E7 : ∀ {w'}, Ext w7 w' → Ext w w' := fun e => E6 (he7.trans e)
  have hpr : ∀ w', Ext w w' → Abs.ProcIs w' (p.enc (.slice q3 p.vars.length d3) (.slice q4 p.cmds.length d4)) p := fun w' e => ⟨hn, _, _, rfl, hv.ext e, hcm.ext e⟩
  refine Sg ?_
  refine K.call (pcheck_r p _ _ (Abs.pscope m (-1)) w7 (ho.ext (E7 (Ext.refl _))) (hpr _ (E7 (Ext.refl _))) (hsc _ (E7 (Ext.refl _))) (hg.pscope _) hpg) ?_
  rintro _ w8 ⟨rfl, he8⟩
  replace hc1 := he8.obj hc1
  replace hc7 := he8.obj hc7
  have E8 : ∀ {w'}, Ext w8 w' → Ext w w' := fun e => E7 (he8.trans e)
  refine Sg ?_
  refine K.cond (fun g2 => ?_) (fun g2 => ?_)
  rotate_left
  · refine Sg ?_
    refine K.call (pworks_r w8 (ho.ext (E8 (Ext.refl _)))) ?_
    rintro _ w9 ⟨rfl, he9⟩
    refine Sg ?_
    exact ⟨by first | trivial | rfl, E8 he9⟩
  have hE : (Abs.procCheck p (Abs.pscope m (-1))).2.2 = 0 := by simpa using g2
  clear g2 hc2
  refine Su ?_
  simp -dsimp only [B9]
  refine Su ?_
  refine K.two _ 10 _ _ 5 50 11 _ _ 5 51 (by rfl) rfl (by rfl) (by rfl) ?_
  intro w9 he9
  dsimp only [strip]
  refine Sg ?_
  refine ⟨_, _, rfl, rfl, rfl, rfl, by simp [Abs.Proc.enc, Value.oneCell'], by simp [Abs.Proc.enc, Value.oneCell'], ?_⟩
  intro w10 bq bt he10 hbq hbt hne hcq hct
  have E9 : ∀ {w'}, Ext w10 w' → Ext w w' := fun e => E8 ((he9.trans he10).trans e)
  have hc1o := hc1
  have hc7o := hc7
  replace hc1 := (he9.trans he10).obj hc1
  replace hc7 := (he9.trans he10).obj hc7
  have hcap := (SlR.len hcm).2.1
  obtain ⟨a4, rfl⟩ := hcm.addr (by omega)
  obtain ⟨css, hcl, hfl, hC⟩ := hcm.cells
  have hkc : k < css.length := by omega
  refine Su ?_
  refine K.slcT (k := .i64) k (by simp [ev_tmp, upd_at]; omega) (by omega) ?_
  refine Su ?_
  intro w11 hw11 hcq'
  have hcq2 : w11.heap[bq]? = some (.cells (p.enc (.slice q3 p.vars.length d3) (.slice (some a4) k d4)).toArray T.api_Proc) := hcq'
  have zA := (E9 (Ext.refl w10)).size
  have zB := (E8 he9).size
  have zC := lt_of_heap hc1
  have zD := lt_of_heap hc7
  have zE := he9.size
  have zF := he10.size
  have zG := lt_of_heap hc1o
  have zH := lt_of_heap hc7o
  have hct2 := hw11.obj hct (Ne.symm hne)
  replace hc1 := hw11.obj hc1 (by omega)
  replace hc7 := hw11.obj hc7 (by omega)
  have E11 : ∀ {w'}, Ext w11 w' → Ext w w' := fun e => (hw11.ext (E9 (Ext.refl _)) (by omega)).trans e
  clear hcq hcq' hct
  refine Su ?_
  refine K.cutG [5, 9, 10, 11] (fun _ : SlP => []) (fun x w' => Ext w w' ∧ w'.heap[b5]? = w8.heap[b5]? ∧ w'.heap[bq]? = some (.cells (p.enc (.slice q3 p.vars.length d3) (.slice (some a4) k d4)).toArray T.api_Proc) ∧
    w'.heap[bt]? = some (.cells (p.enc (.slice q3 p.vars.length d3) (.slice x.1 (p.cmds.length + 1) x.2.2)).toArray T.api_Proc) ∧ Abs.Cmds w' (.slice x.1 (p.cmds.length + 1) x.2.2) (p.cmds ++ [p.cmds[k]])) ?_ ?_
  · refine Sg ?_
    intro w12 he12
    replace hc1 := he12.obj hc1
    replace hc7 := he12.obj hc7
    replace hcq2 := he12.obj hcq2
    replace hct2 := he12.obj hct2
    replace hfl := SlR.ext Flat.ext (E11 he12) hfl
    have zt := lt_of_heap hct2
    have zq := lt_of_heap hcq2
    refine Sg ?_
    refine K.ian k (by omega) (by omega) ?_
    refine Sg ?_
    refine K.ldA (hfl.at k hkc) (encC_len _) ?_
    refine Sg ?_
    refine ⟨?_, ?_⟩
    · refine Sg ?_
      intro w13 b13 hb13 he13 hc13
      have hctY := he13.obj hct2
      have hcqY := he13.obj hcq2
      have hc7Y := he13.obj hc7
      have ho13 : OwR (encC (sz := 6)) T.api_Cmd 6 w12.heap.size w13 (.slice (some ⟨b13, 0, none⟩) 0 0) [] := ownsRow_empty hb13 hc13
      refine Sg ?_
      refine ⟨he13, ?_⟩
      refine Sg ?_
      refine ⟨?_, ?_⟩
      · refine Sg ?_
        refine K.appAt (xs := []) (ys := css) ho13 encC_len (SlR.flat encC_len (fun _ _ h => h) (hfl.ext Flat.ext he13)) hcl.symm encC_one (by simp; omega) (by simp [maxLen]; omega) (he13).size fun v14 w14 ho14 hg14 ht14 => ?_
        obtain ⟨oa14, cap14, rfl, _⟩ := ho14.form
        replace hctY := (ho13).box hg14 hctY (by decide)
        replace hcqY := (ho13).box hg14 hcqY (by decide)
        replace hc7Y := (ho13).box hg14 hc7Y (by decide)
        have e14 := (ho13).extG he13 hg14 (Nat.le_refl _)
        refine Sg ?_
        refine ⟨e14, ?_⟩
        refine Sg ?_
        refine K.bldSa (fill_one (cs := encC css[k]) (by simp [upd_at]) (encC_len _) (by simp) (by decide)) fun w15 b15 hb15 he15 hc15 => ?_
        replace hctY := he15.obj hctY
        replace hcqY := he15.obj hcqY
        replace hc7Y := he15.obj hc7Y
        refine ⟨e14.trans he15, ?_⟩
        have ho15 := ho14.ext he15
        have e15 := e14.trans he15
        refine Sg ?_
        refine K.appAt (ys := [css[k]]) ho15 encC_len (by simpa using cellsAt_blk hc15) rfl encC_one (by simp; omega) (by simp [maxLen]; omega) (e15).size fun v16 w16 ho16 hg16 ht16 => ?_
        obtain ⟨oa16, cap16, rfl, _⟩ := ho16.form
        have hct16 := (ho15).box hg16 hctY (by decide)
        have hcq16 := (ho15).box hg16 hcqY (by decide)
        have hc716 := (ho15).box hg16 hc7Y (by decide)
        have e16 := (ho15).extG (e15) hg16 (Nat.le_refl _)
        refine Sg ?_
        intro w17 hw17 hc17
        have ho17 := ho16.mod (hw17.mod (A := fun k => k = bt) rfl) fun j hj e => by have := (ho16.lt j hj).1; omega
        have hl2 : (css ++ [css[k]]).length = p.cmds.length + 1 := by simp [hcl]
        have hs17 : SlR 6 (Flat encC) w17 (.slice oa16 (p.cmds.length + 1) cap16) (css ++ [css[k]]) := by
          have h1 := OwR.slF (enc := encC) encC_len ho17
          rw [List.nil_append, hl2] at h1
          exact h1
        have e17 := hw17.ext (E11 (he12.trans e16)) (by omega)
        refine ⟨(oa16, p.cmds.length + 1, cap16), trivial, e17, (hw17.obj hc716 (by omega)).trans hc7o.symm, hw17.obj hcq16 hne, ?_, cmds_twice hcl e17 hC k (by omega) hkc hs17⟩
        rw [hc17]
        simp only [hl2]
        rfl
      · refine Sg ?_
        refine K.bldSa (fill_one (cs := encC css[k]) (by simp [upd_at]) (encC_len _) (by simp) (by decide)) fun w15 b15 hb15 he15 hc15 => ?_
        replace hctY := he15.obj hctY
        replace hcqY := he15.obj hcqY
        replace hc7Y := he15.obj hc7Y
        have zz := lt_of_heap hc13
        replace ho13 := ho13.ext he15
        replace he13 := he13.trans he15
        refine ⟨he13, ?_⟩
        refine Sg ?_
        refine K.appAt (xs := []) (ys := css) ho13 encC_len (SlR.flat encC_len (fun _ _ h => h) (hfl.ext Flat.ext he13)) hcl.symm encC_one (by simp; omega) (by simp [maxLen]; omega) (he13).size fun v14 w14 ho14 hg14 ht14 => ?_
        obtain ⟨oa14, cap14, rfl, _⟩ := ho14.form
        replace hctY := (ho13).box hg14 hctY (by decide)
        replace hcqY := (ho13).box hg14 hcqY (by decide)
        replace hc7Y := (ho13).box hg14 hc7Y (by decide)
        have e14 := (ho13).extG he13 hg14 (Nat.le_refl _)
        have hc15' := (hg14.block b15 (lt_of_heap hc15) (by simp [Value.ownBlock]; omega)).trans hc15
        refine Sg ?_
        refine ⟨e14, ?_⟩
        refine Sg ?_
        refine K.appAt (ys := [css[k]]) ho14 encC_len (by simpa using cellsAt_blk hc15') rfl encC_one (by simp; omega) (by simp [maxLen]; omega) (e14).size fun v16 w16 ho16 hg16 ht16 => ?_
        obtain ⟨oa16, cap16, rfl, _⟩ := ho16.form
        have hct16 := (ho14).box hg16 hctY (by decide)
        have hcq16 := (ho14).box hg16 hcqY (by decide)
        have hc716 := (ho14).box hg16 hc7Y (by decide)
        have e16 := (ho14).extG (e14) hg16 (Nat.le_refl _)
        refine Sg ?_
        intro w17 hw17 hc17
        have ho17 := ho16.mod (hw17.mod (A := fun k => k = bt) rfl) fun j hj e => by have := (ho16.lt j hj).1; omega
        have hl2 : (css ++ [css[k]]).length = p.cmds.length + 1 := by simp [hcl]
        have hs17 : SlR 6 (Flat encC) w17 (.slice oa16 (p.cmds.length + 1) cap16) (css ++ [css[k]]) := by
          have h1 := OwR.slF (enc := encC) encC_len ho17
          rw [List.nil_append, hl2] at h1
          exact h1
        have e17 := hw17.ext (E11 (he12.trans e16)) (by omega)
        refine ⟨(oa16, p.cmds.length + 1, cap16), trivial, e17, (hw17.obj hc716 (by omega)).trans hc7o.symm, hw17.obj hcq16 hne, ?_, cmds_twice hcl e17 hC k (by omega) hkc hs17⟩
        rw [hc17]
        simp only [hl2]
        rfl
    · refine Sg ?_
      refine K.bldSa (fill_one (cs := encC css[k]) (by simp [upd_at]) (encC_len _) (by simp) (by decide)) fun w15 b15 hb15 he15 hc15 => ?_
      have hctX := he15.obj hct2
      have hcqX := he15.obj hcq2
      have hc7X := he15.obj hc7
      refine ⟨he15, ?_⟩
      refine Sg ?_
      intro w13 b13 hb13 he13' hc13
      have hctY := he13'.obj hctX
      have hcqY := he13'.obj hcqX
      have hc7Y := he13'.obj hc7X
      have zz := lt_of_heap hc15
      have he13 := he15.trans he13'
      have zy := he15.size
      replace hc15 := he13'.obj hc15
      have ho13 : OwR (encC (sz := 6)) T.api_Cmd 6 w12.heap.size w13 (.slice (some ⟨b13, 0, none⟩) 0 0) [] := ownsRow_empty (by omega) hc13
      clear hctX hcqX hc7X
      refine ⟨he13, ?_⟩
      refine Sg ?_
      refine K.appAt (xs := []) (ys := css) ho13 encC_len (SlR.flat encC_len (fun _ _ h => h) (hfl.ext Flat.ext he13)) hcl.symm encC_one (by simp; omega) (by simp [maxLen]; omega) (he13).size fun v14 w14 ho14 hg14 ht14 => ?_
      obtain ⟨oa14, cap14, rfl, _⟩ := ho14.form
      replace hctY := (ho13).box hg14 hctY (by decide)
      replace hcqY := (ho13).box hg14 hcqY (by decide)
      replace hc7Y := (ho13).box hg14 hc7Y (by decide)
      have e14 := (ho13).extG he13 hg14 (Nat.le_refl _)
      have hc15' := (hg14.block b15 (lt_of_heap hc15) (by simp [Value.ownBlock]; omega)).trans hc15
      refine Sg ?_
      refine ⟨e14, ?_⟩
      refine Sg ?_
      refine K.appAt (ys := [css[k]]) ho14 encC_len (by simpa using cellsAt_blk hc15') rfl encC_one (by simp; omega) (by simp [maxLen]; omega) (e14).size fun v16 w16 ho16 hg16 ht16 => ?_
      obtain ⟨oa16, cap16, rfl, _⟩ := ho16.form
      have hct16 := (ho14).box hg16 hctY (by decide)
      have hcq16 := (ho14).box hg16 hcqY (by decide)
      have hc716 := (ho14).box hg16 hc7Y (by decide)
      have e16 := (ho14).extG (e14) hg16 (Nat.le_refl _)
      refine Sg ?_
      intro w17 hw17 hc17
      have ho17 := ho16.mod (hw17.mod (A := fun k => k = bt) rfl) fun j hj e => by have := (ho16.lt j hj).1; omega
      have hl2 : (css ++ [css[k]]).length = p.cmds.length + 1 := by simp [hcl]
      have hs17 : SlR 6 (Flat encC) w17 (.slice oa16 (p.cmds.length + 1) cap16) (css ++ [css[k]]) := by
        have h1 := OwR.slF (enc := encC) encC_len ho17
        rw [List.nil_append, hl2] at h1
        exact h1
      have e17 := hw17.ext (E11 (he12.trans e16)) (by omega)
      refine ⟨(oa16, p.cmds.length + 1, cap16), trivial, e17, (hw17.obj hc716 (by omega)).trans hc7o.symm, hw17.obj hcq16 hne, ?_, cmds_twice hcl e17 hC k (by omega) hkc hs17⟩
      rw [hc17]
      simp only [hl2]
      rfl
  rintro x S' w13 ⟨he13, hs5, hsq, hst, hcm2⟩
  rw [hc7o] at hs5
  clear hc1 hc7 hc1o hc7o hct2 hcq2
  have hq : Abs.ProcIs w13 (p.enc (.slice q3 p.vars.length d3) (.slice (some a4) k d4)) { p with cmds := p.cmds.take k } := ⟨hn, _, _, rfl, hv.ext he13, (hcm.head k (by omega)).ext Abs.RCmd.ext he13⟩
  have ht : ∀ w', Ext w13 w' → Abs.ProcIs w' (p.enc (.slice q3 p.vars.length d3) (.slice x.1 (p.cmds.length + 1) x.2.2)) { p with cmds := p.cmds ++ [p.cmds[k]] } := fun w' e => ⟨hn, _, _, rfl, hv.ext (he13.trans e), hcm2.ext e⟩
  refine Sg ?_
  refine K.call (pcheck_r { p with cmds := p.cmds.take k } _ _ (Abs.pscope m (-1)) w13 (ho.ext he13) hq (hsc _ he13) (hg.pscope _) ⟨hpg.over, hpg.locs, hpg.vars, by simp only [Abs.big, List.length_take]; omega, hpg.var, fun a ha => hpg.cmd a (List.mem_of_mem_take ha)⟩) ?_
  rintro _ w14 ⟨hv14, he14⟩
  rw [Abs.parts_less hE k] at hv14
  subst hv14
  replace hs5 := he14.obj hs5
  replace hst := he14.obj hst
  have E14 : ∀ {w'}, Ext w14 w' → Ext w w' := fun e => (he13.trans he14).trans e
  refine Sg ?_
  refine K.call (pcheck_r { p with cmds := p.cmds ++ [p.cmds[k]] } _ _ (Abs.pscope m (-1)) w14 (ho.ext (E14 (Ext.refl _))) (ht _ he14) (hsc _ (E14 (Ext.refl _))) (hg.pscope _) ⟨hpg.over, hpg.locs, hpg.vars, by simp only [Abs.big, List.length_append, List.length_singleton]; omega, hpg.var, fun a ha => by
    rcases List.mem_append.1 ha with ha | ha
    · exact hpg.cmd a ha
    · rw [List.mem_singleton] at ha
      subst ha
      exact hpg.cmd _ (List.getElem_mem _)⟩) ?_
  rintro _ w15 ⟨hv15, he15⟩
  rw [Abs.parts_more hE k hk] at hv15
  by_cases h12 : p.cmds.length = 12
  · rw [if_pos h12] at hv15
    subst hv15
    refine Sg ?_
    refine K.call (pworks_r w15 (ho.ext (E14 he15))) ?_
    rintro _ w16 ⟨rfl, he16⟩
    refine Sg ?_
    exact ⟨by first | trivial | rfl, E14 (he15.trans he16)⟩
  · rw [if_neg h12] at hv15
    subst hv15
    refine Sg ?_
    refine K.call (pworks_r w15 (ho.ext (E14 he15))) ?_
    rintro _ w16 ⟨rfl, he16⟩
    refine Sg ?_
    exact ⟨by first | trivial | rfl, E14 (he15.trans he16)⟩
end Go.Proofs.YtbbaokmelkiemaaDoor
end
section
/- The walk of the law on parts, from what its arguments are. -/
set_option maxRecDepth 4000
namespace Go.Proofs.YtbbaokmelkiemaaDoor
open Go Go.RowKit Lite Go.ChangeShapes Go.WideShapes Go.Deep
theorem walk_ProcParts {H : Type} {enc : TypeId × Value → H} {r : Reach} {b0 : Nat} {d0 d1 : DataW H} {p0 p1 : List MemPlace} (v0 v1 : Value) (W : World) (ho : OwnIs W)
    (k0 : Value.okWide Tryd.prog W r b0 T.api_Proc v0) (h0 : DataW.Trod enc Tryd.prog W 0 (fun _ => true) true T.api_Proc v0 d0 p0) (s0 : Small Tryd.prog T.api_Proc d0)
    (k1 : Value.okWide Tryd.prog W r b0 T.api_Model v1) (h1 : DataW.Trod enc Tryd.prog W 0 (fun _ => true) true T.api_Model v1 d1 p1) (s1 : Small Tryd.prog T.api_Model d1) :
    Ret Tryd.prog F.lariatlaw14_ProcParts #[v0, v1] W fun v w' => v = .bool true ∧ Ext W w' := by
  obtain ⟨pcs, p, rfl, hp, hpg⟩ := open_proc k0 h0 s0
  obtain ⟨cs, m, rfl, hm, hg⟩ := open_modelG k1 h1 s1
  exact lawParts_r pcs p cs m W hp hpg hm hg ho
end Go.Proofs.YtbbaokmelkiemaaDoor
end
