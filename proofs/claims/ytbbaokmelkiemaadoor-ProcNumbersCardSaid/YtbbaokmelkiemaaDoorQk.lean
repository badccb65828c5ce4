/- Texts joined: Open5 ProcW ProcR LibB ProcL ProcX. -/
import Derived.Test.YtbbaokmelkiemaaDoorQc
import Derived.Test.YtbbaokmelkiemaaDoorQf
import Derived.Test.YtbbaokmelkiemaaDoorQg
import Derived.Test.YtbbaokmelkiemaaDoorQh
import Derived.Test.YtbbaokmelkiemaaDoorQj
import Derived.OpenShut
set_option linter.all false
section
/- Arguments opened: models, with what their sizes tell. -/
set_option maxRecDepth 4000
namespace Lite
open Go Go.RowKit Go.ChangeShapes Go.WideShapes Go.Deep
section
variable {H : Type} {enc : TypeId × Value → H} {P : Program} {w : World} {base : Nat} {spare : Nat → Bool} {held : Bool}
theorem weights_mem_all {e : TypeId} : ∀ {ds : List (DataW H)} {d : DataW H}, d ∈ ds → ∀ n ∈ d.weights P e, n ∈ DataW.weightsAll P e ds
  | [], _, h => by cases h
  | x :: r, d, h => fun n hn => by
    simp only [DataW.weightsAll]
    rcases List.mem_cons.1 h with rfl | h
    · exact List.mem_append_left _ hn
    · exact List.mem_append_right _ (weights_mem_all h n hn)
/-- A cell that holds a slice whose elements are read each by R, and are good where the datum is small. -/
theorem cell_slG {α : Type} {R : World → Addr → α → Prop} {G : α → Prop} {t e : TypeId} {v : Value} {n : Nat} {z : DataW H × List MemPlace} (sz B : Nat) (ht : P.underlying t = some (.slice e)) (hC : P.cellsOf e = sz) (hB : P.bytesOf e = B)
    (hR : ∀ (a : Addr) (cs : List Value) (n : Nat) (y : DataW H × List MemPlace), CellsAt w a cs → cs.length = sz → DataW.trod enc P w 0 (fun _ => true) true n e cs = some y → ∃ x, R w a x ∧ (Small P e y.1 → G x))
    (h : DataW.trod enc P w 0 (fun _ => true) true n t [v] = some z) : ∃ xs, SlR sz R w v xs ∧ (Small P t z.1 → Abs.big xs.length B ∧ ∀ x ∈ xs, G x) := by
  rcases open_slice ht h with ⟨hcs, _⟩ | ⟨a, len, cap, m, n, D, Pl, hcs, hb, hl, hm, hmm, hx, hi⟩
  · simp at hcs
    subst hcs
    exact ⟨[], SlR.nil, fun _ => ⟨by simp [Abs.big], fun x hx => by cases hx⟩⟩
  · simp at hcs
    subst hcs
    simp only [if_true] at hmm
    subst hmm
    obtain ⟨xs, hxl, hxs⟩ := list_of len (fun i x => R w (a.add (i * sz)) x ∧ (Small P e (D i) → G x)) fun i hi' => by
      obtain ⟨cs', hc, ht'⟩ := hi i (by omega)
      rw [hC] at hc
      obtain ⟨_, hcl, hat⟩ := World.cells?_some hc
      refine hR _ cs' n _ (fun j u hj => ?_) hcl ht'
      have hjl' : j < sz := hcl ▸ (List.getElem?_eq_some_iff.1 hj).1
      rw [← hj]
      exact hat j hjl'
    refine ⟨xs, ⟨some a, _, by rw [hxl], by omega, hm, fun _ => rfl, fun a' ha i hi => by injection ha with ha; subst ha; exact (hxs i hi).1⟩, fun hs => ⟨?_, fun x hx' => ?_⟩⟩
    · have h1 := hs ((len + (m - len)) * P.bytesOf e) (by rw [hx]; simp [DataW.weights, ht])
      have h2 : len * B ≤ (len + (m - len)) * P.bytesOf e := by rw [hB]; exact Nat.mul_le_mul_right _ (by omega)
      have h3 : reachBytes = 140737488351232 := rfl
      unfold Abs.big
      rw [hxl]
      omega
    · obtain ⟨i, hi', rfl⟩ := List.mem_iff_getElem.1 hx'
      refine (hxs i hi').2 fun q hq => hs q ?_
      rw [hx]
      simp only [DataW.weights, ht]
      refine List.mem_cons_of_mem _ (List.mem_append_left _ (weights_mem_all ?_ q hq))
      exact List.mem_map.2 ⟨i, by simp; omega, rfl⟩
theorem open_stG {r : Reach} {b0 : Nat} {t : TypeId} {fs : Array Field} {v : Value} {d : DataW H} {p : List MemPlace} (ht : P.underlying t = some (.struct fs))
    (hval : Value.okWide P w r b0 t v) (h : DataW.Trod enc P w base spare held t v d p) : ∃ cs n, v = .agg cs ∧ DataW.trod enc P w base spare held n t cs.toList = some (d, p) := by
  obtain ⟨cs, rfl, hsz⟩ := okWide_struct ht hval
  obtain ⟨fuel, hf⟩ := h
  exact ⟨cs, fuel, rfl, hf⟩
end
end Lite
namespace Go.Proofs.YtbbaokmelkiemaaDoor
open Go Go.RowKit Lite Go.ChangeShapes
variable {H : Type} {enc : TypeId × Value → H} {w : World} {cs : List Value} {n : Nat} {y : DataW H × List MemPlace} {v : Value}
theorem gscalar (h : DataW.trod enc Tryd.prog w 0 (fun _ => true) true n T.api_Scalar cs = some y) : ∃ x : Abs.Scalar, cs = x.enc ∧ Abs.strOk x.name ∧ x.good := by
  obtain ⟨hl, n', ds, _, hf⟩ := fields2 (t := T.api_Scalar) rfl (by kernel_rfl) (by kernel_rfl) h
  match cs, hl with
  | [c0, c1], _ =>
    obtain ⟨_, _, e0, h0, _⟩ := hf 0 _ rfl
    obtain ⟨_, _, e1, h1, _⟩ := hf 1 _ rfl
    cases e0; cases e1
    obtain ⟨s, e0, _, hs⟩ := DataW.trod_string (by kernel_rfl) h0
    obtain ⟨z, e1, _, k1⟩ := DataW.trod_int (k := .i64) (by kernel_rfl) h1
    cases e0; cases e1
    exact ⟨⟨s, z⟩, rfl, hs, ⟨wf_inI k1⟩⟩
theorem gvar (h : DataW.trod enc Tryd.prog w 0 (fun _ => true) true n T.api_Var cs = some y) : ∃ x : Abs.Var, cs = x.enc ∧ Abs.strOk x.name ∧ x.good := by
  obtain ⟨hl, n', ds, _, hf⟩ := fields2 (t := T.api_Var) rfl (by kernel_rfl) (by kernel_rfl) h
  match cs, hl with
  | [c0, c1, c2, c3, c4, c5], _ =>
    obtain ⟨_, _, e0, h0, _⟩ := hf 0 _ rfl
    obtain ⟨_, _, e1, h1, _⟩ := hf 1 _ rfl
    obtain ⟨_, _, e2, h2, _⟩ := hf 2 _ rfl
    obtain ⟨_, _, e3, h3, _⟩ := hf 3 _ rfl
    obtain ⟨_, _, e4, h4, _⟩ := hf 4 _ rfl
    obtain ⟨_, _, e5, h5, _⟩ := hf 5 _ rfl
    cases e0; cases e1; cases e2; cases e3; cases e4; cases e5
    obtain ⟨s, e0, _, hs⟩ := DataW.trod_string (by kernel_rfl) h0
    obtain ⟨z1, e1, _, k1⟩ := DataW.trod_int (k := .i64) (by kernel_rfl) h1
    obtain ⟨z2, e2, _, k2⟩ := DataW.trod_int (k := .i64) (by kernel_rfl) h2
    obtain ⟨z3, e3, _, k3⟩ := DataW.trod_int (k := .i64) (by kernel_rfl) h3
    obtain ⟨z4, e4, _, k4⟩ := DataW.trod_int (k := .i64) (by kernel_rfl) h4
    obtain ⟨z5, e5, _, k5⟩ := DataW.trod_int (k := .i64) (by kernel_rfl) h5
    cases e0; cases e1; cases e2; cases e3; cases e4; cases e5
    exact ⟨⟨s, z1, z2, z3, z4, z5⟩, rfl, hs, ⟨wf_inI k1, wf_inI k2, wf_inI k3, wf_inI k4, wf_inI k5⟩⟩
theorem gchan (h : DataW.trod enc Tryd.prog w 0 (fun _ => true) true n T.api_Chan cs = some y) : ∃ x : Abs.Chan, cs = x.enc ∧ Abs.strOk x.name ∧ x.good := by
  obtain ⟨hl, n', ds, _, hf⟩ := fields2 (t := T.api_Chan) rfl (by kernel_rfl) (by kernel_rfl) h
  match cs, hl with
  | [c0, c1, c2, c3, c4, c5], _ =>
    obtain ⟨_, _, e0, h0, _⟩ := hf 0 _ rfl
    obtain ⟨_, _, e1, h1, _⟩ := hf 1 _ rfl
    obtain ⟨_, _, e2, h2, _⟩ := hf 2 _ rfl
    obtain ⟨_, _, e3, h3, _⟩ := hf 3 _ rfl
    obtain ⟨_, _, e4, h4, _⟩ := hf 4 _ rfl
    obtain ⟨_, _, e5, h5, _⟩ := hf 5 _ rfl
    cases e0; cases e1; cases e2; cases e3; cases e4; cases e5
    obtain ⟨s, e0, _, hs⟩ := DataW.trod_string (by kernel_rfl) h0
    obtain ⟨z1, e1, _, k1⟩ := DataW.trod_int (k := .i64) (by kernel_rfl) h1
    obtain ⟨z2, e2, _, k2⟩ := DataW.trod_int (k := .i64) (by kernel_rfl) h2
    obtain ⟨z3, e3, _, k3⟩ := DataW.trod_int (k := .i64) (by kernel_rfl) h3
    obtain ⟨z4, e4, _, k4⟩ := DataW.trod_int (k := .i64) (by kernel_rfl) h4
    obtain ⟨z5, e5, _⟩ := DataW.trod_bool (by kernel_rfl) h5
    cases e0; cases e1; cases e2; cases e3; cases e4; cases e5
    exact ⟨⟨s, z1, z2, z3, z4, z5⟩, rfl, hs, ⟨wf_inI k1, wf_inI k2, wf_inI k3, wf_inI k4⟩⟩
theorem gnodes (h : DataW.trod enc Tryd.prog w 0 (fun _ => true) true n T.sl_api_Node [v] = some y) : ∃ l, Abs.Nodes w v l ∧ (Small Tryd.prog T.sl_api_Node y.1 → Abs.big l.length 16 ∧ ∀ x ∈ l, True) :=
  cell_slG (G := fun _ => True) (e := T.api_Node) 2 16 (by kernel_rfl) (by kernel_rfl) (by kernel_rfl) (fun a cs n y hc hl ht => by obtain ⟨x, rfl, hx⟩ := node_el ht; exact ⟨x, ⟨hc, hx⟩, fun _ => trivial⟩) h
theorem gscalars (h : DataW.trod enc Tryd.prog w 0 (fun _ => true) true n T.sl_api_Scalar [v] = some y) : ∃ l, Abs.Scalars w v l ∧ (Small Tryd.prog T.sl_api_Scalar y.1 → Abs.big l.length 24 ∧ ∀ x ∈ l, x.good) :=
  cell_slG (e := T.api_Scalar) 2 24 (by kernel_rfl) (by kernel_rfl) (by kernel_rfl) (fun a cs n y hc hl ht => by obtain ⟨x, rfl, hx, hg⟩ := gscalar ht; exact ⟨x, ⟨hc, hx⟩, fun _ => hg⟩) h
theorem gvars (h : DataW.trod enc Tryd.prog w 0 (fun _ => true) true n T.sl_api_Var [v] = some y) : ∃ l, Abs.Vars w v l ∧ (Small Tryd.prog T.sl_api_Var y.1 → Abs.big l.length 56 ∧ ∀ x ∈ l, x.good) :=
  cell_slG (e := T.api_Var) 6 56 (by kernel_rfl) (by kernel_rfl) (by kernel_rfl) (fun a cs n y hc hl ht => by obtain ⟨x, rfl, hx, hg⟩ := gvar ht; exact ⟨x, ⟨hc, hx⟩, fun _ => hg⟩) h
theorem gchans (h : DataW.trod enc Tryd.prog w 0 (fun _ => true) true n T.sl_api_Chan [v] = some y) : ∃ l, Abs.Chans w v l ∧ (Small Tryd.prog T.sl_api_Chan y.1 → Abs.big l.length 56 ∧ ∀ x ∈ l, x.good) :=
  cell_slG (e := T.api_Chan) 6 56 (by kernel_rfl) (by kernel_rfl) (by kernel_rfl) (fun a cs n y hc hl ht => by obtain ⟨x, rfl, hx, hg⟩ := gchan ht; exact ⟨x, ⟨hc, hx⟩, fun _ => hg⟩) h
theorem gact {a : Addr} (hc : CellsAt w a cs) (h : DataW.trod enc Tryd.prog w 0 (fun _ => true) true n T.api_Act cs = some y) : ∃ x : Abs.Act, Abs.RAct w a x ∧ (Small Tryd.prog T.api_Act y.1 → x.good) := by
  obtain ⟨hl, n', ds, he, hf⟩ := fields2 (t := T.api_Act) rfl (by kernel_rfl) (by kernel_rfl) h
  match cs, hl with
  | [c0, c1, c2, c3, c4], _ =>
    obtain ⟨_, _, e0, h0, _⟩ := hf 0 _ rfl
    obtain ⟨_, _, e1, h1, _⟩ := hf 1 _ rfl
    obtain ⟨_, _, e2, h2, _⟩ := hf 2 _ rfl
    obtain ⟨_, _, e3, h3, d3⟩ := hf 3 _ rfl
    obtain ⟨_, _, e4, h4, d4⟩ := hf 4 _ rfl
    cases e0; cases e1; cases e2; cases e3; cases e4
    obtain ⟨z0, e0, _, k0⟩ := DataW.trod_int (k := .i64) (by kernel_rfl) h0
    obtain ⟨z1, e1, _, k1⟩ := DataW.trod_int (k := .i64) (by kernel_rfl) h1
    obtain ⟨z2, e2, _, k2⟩ := DataW.trod_int (k := .i64) (by kernel_rfl) h2
    cases e0; cases e1; cases e2
    obtain ⟨l3, h3, g3⟩ := gnodes h3
    obtain ⟨l4, h4, g4⟩ := gnodes h4
    exact ⟨⟨z0, z1, z2, l3, l4⟩, ⟨c3, c4, hc, h3, h4⟩, fun hs => by
      rw [he] at hs
      exact ⟨wf_inI k0, wf_inI k1, wf_inI k2, (g3 (hs.field rfl rfl rfl d3)).1, (g4 (hs.field rfl rfl rfl d4)).1⟩⟩
theorem gacts (h : DataW.trod enc Tryd.prog w 0 (fun _ => true) true n T.sl_api_Act [v] = some y) : ∃ l, Abs.Acts w v l ∧ (Small Tryd.prog T.sl_api_Act y.1 → Abs.big l.length 72 ∧ ∀ x ∈ l, x.good) :=
  cell_slG (e := T.api_Act) 5 72 (by kernel_rfl) (by kernel_rfl) (by kernel_rfl) (fun a cs n y hc hl ht => gact hc ht) h
theorem gcmd (h : DataW.trod enc Tryd.prog w 0 (fun _ => true) true n T.api_Cmd cs = some y) : ∃ x : Abs.Cmd, Abs.CmdIs w cs x ∧ (Small Tryd.prog T.api_Cmd y.1 → x.good) := by
  obtain ⟨hl, n', ds, he, hf⟩ := fields2 (t := T.api_Cmd) rfl (by kernel_rfl) (by kernel_rfl) h
  match cs, hl with
  | [c0, c1, c2, c3, c4, c5], _ =>
    obtain ⟨_, _, e0, h0, _⟩ := hf 0 _ rfl
    obtain ⟨_, _, e1, h1, _⟩ := hf 1 _ rfl
    obtain ⟨_, _, e2, h2, _⟩ := hf 2 _ rfl
    obtain ⟨_, _, e3, h3, d3⟩ := hf 3 _ rfl
    obtain ⟨_, _, e4, h4, d4⟩ := hf 4 _ rfl
    obtain ⟨_, _, e5, h5, _⟩ := hf 5 _ rfl
    cases e0; cases e1; cases e2; cases e3; cases e4; cases e5
    obtain ⟨s, e0, _, hs⟩ := DataW.trod_string (by kernel_rfl) h0
    obtain ⟨z1, e1, _, k1⟩ := DataW.trod_int (k := .i64) (by kernel_rfl) h1
    obtain ⟨z2, e2, _, k2⟩ := DataW.trod_int (k := .i64) (by kernel_rfl) h2
    obtain ⟨z5, e5, _⟩ := DataW.trod_bool (by kernel_rfl) h5
    cases e0; cases e1; cases e2; cases e5
    obtain ⟨l3, h3, g3⟩ := gnodes h3
    obtain ⟨l4, h4, g4⟩ := gacts h4
    exact ⟨⟨s, z1, z2, l3, l4, z5⟩, ⟨hs, c3, c4, rfl, h3, h4⟩, fun hs => by
      rw [he] at hs
      exact ⟨wf_inI k1, wf_inI k2, (g3 (hs.field rfl rfl rfl d3)).1, (g4 (hs.field rfl rfl rfl d4)).1, (g4 (hs.field rfl rfl rfl d4)).2⟩⟩
theorem gcmds (h : DataW.trod enc Tryd.prog w 0 (fun _ => true) true n T.sl_api_Cmd [v] = some y) : ∃ l, Abs.Cmds w v l ∧ (Small Tryd.prog T.sl_api_Cmd y.1 → Abs.big l.length 88 ∧ ∀ x ∈ l, x.good) :=
  cell_slG (e := T.api_Cmd) 6 88 (by kernel_rfl) (by kernel_rfl) (by kernel_rfl) (fun a cs n y hc hl ht => by
    obtain ⟨x, ⟨h0, vg, va, rfl, h1, h2⟩, hg⟩ := gcmd ht
    exact ⟨x, ⟨h0, vg, va, hc, h1, h2⟩, hg⟩) h
theorem gproc (h : DataW.trod enc Tryd.prog w 0 (fun _ => true) true n T.api_Proc cs = some y) : ∃ x : Abs.Proc, Abs.ProcIs w cs x ∧ (Small Tryd.prog T.api_Proc y.1 → x.good) := by
  obtain ⟨hl, n', ds, he, hf⟩ := fields2 (t := T.api_Proc) rfl (by kernel_rfl) (by kernel_rfl) h
  match cs, hl with
  | [c0, c1, c2, c3, c4], _ =>
    obtain ⟨_, _, e0, h0, _⟩ := hf 0 _ rfl
    obtain ⟨_, _, e1, h1, _⟩ := hf 1 _ rfl
    obtain ⟨_, _, e2, h2, _⟩ := hf 2 _ rfl
    obtain ⟨_, _, e3, h3, d3⟩ := hf 3 _ rfl
    obtain ⟨_, _, e4, h4, d4⟩ := hf 4 _ rfl
    cases e0; cases e1; cases e2; cases e3; cases e4
    obtain ⟨s, e0, _, hs⟩ := DataW.trod_string (by kernel_rfl) h0
    obtain ⟨z1, e1, _, k1⟩ := DataW.trod_int (k := .i64) (by kernel_rfl) h1
    obtain ⟨z2, e2, _, k2⟩ := DataW.trod_int (k := .i64) (by kernel_rfl) h2
    cases e0; cases e1; cases e2
    obtain ⟨l3, h3, g3⟩ := gvars h3
    obtain ⟨l4, h4, g4⟩ := gcmds h4
    exact ⟨⟨s, z1, z2, l3, l4⟩, ⟨hs, c3, c4, rfl, h3, h4⟩, fun hs => by
      rw [he] at hs
      exact ⟨wf_inI k1, wf_inI k2, (g3 (hs.field rfl rfl rfl d3)).1, (g4 (hs.field rfl rfl rfl d4)).1, (g3 (hs.field rfl rfl rfl d3)).2, (g4 (hs.field rfl rfl rfl d4)).2⟩⟩
theorem gprocs (h : DataW.trod enc Tryd.prog w 0 (fun _ => true) true n T.sl_api_Proc [v] = some y) : ∃ l, Abs.Procs w v l ∧ (Small Tryd.prog T.sl_api_Proc y.1 → Abs.big l.length 80 ∧ ∀ x ∈ l, x.good) :=
  cell_slG (e := T.api_Proc) 5 80 (by kernel_rfl) (by kernel_rfl) (by kernel_rfl) (fun a cs n y hc hl ht => by
    obtain ⟨x, ⟨h0, vg, va, rfl, h1, h2⟩, hg⟩ := gproc ht
    exact ⟨x, ⟨h0, vg, va, hc, h1, h2⟩, hg⟩) h
theorem gprps (h : DataW.trod enc Tryd.prog w 0 (fun _ => true) true n T.sl_api_Prop [v] = some y) : ∃ l, Abs.Prps w v l ∧ (Small Tryd.prog T.sl_api_Prop y.1 → Abs.big l.length 40 ∧ ∀ x ∈ l, x.good) :=
  cell_slG (e := T.api_Prop) 2 40 (by kernel_rfl) (by kernel_rfl) (by kernel_rfl) (fun a cs n y hc hl ht => by
    obtain ⟨hl, n', ds, he, hf⟩ := fields2 (t := T.api_Prop) rfl (by kernel_rfl) (by kernel_rfl) ht
    match cs, hl with
    | [c0, c1], _ =>
      obtain ⟨_, _, e0, h0, _⟩ := hf 0 _ rfl
      obtain ⟨_, _, e1, h1, d1⟩ := hf 1 _ rfl
      cases e0; cases e1
      obtain ⟨s, e0, _, hs⟩ := DataW.trod_string (by kernel_rfl) h0
      cases e0
      obtain ⟨l1, h1, g1⟩ := gnodes h1
      exact ⟨⟨s, l1⟩, ⟨hs, c1, hc, h1⟩, fun hs => by rw [he] at hs; exact ⟨(g1 (hs.field rfl rfl rfl d1)).1⟩⟩) h
theorem open_proc {r : Reach} {b0 : Nat} {v : Value} {d : DataW H} {p : List MemPlace} (hval : Value.okWide Tryd.prog w r b0 T.api_Proc v) (h : DataW.Trod enc Tryd.prog w 0 (fun _ => true) true T.api_Proc v d p) (hs : Small Tryd.prog T.api_Proc d) :
    ∃ cs x, v = .agg cs.toArray ∧ Abs.ProcIs w cs x ∧ x.good := by
  obtain ⟨cs, n, rfl, ht⟩ := open_stG (t := T.api_Proc) rfl hval h
  obtain ⟨x, h1, h2⟩ := gproc ht
  exact ⟨cs.toList, x, by simp, h1, h2 hs⟩
theorem open_modelG {r : Reach} {b0 : Nat} {v : Value} {d : DataW H} {p : List MemPlace} (hval : Value.okWide Tryd.prog w r b0 T.api_Model v) (h : DataW.Trod enc Tryd.prog w 0 (fun _ => true) true T.api_Model v d p) (hs : Small Tryd.prog T.api_Model d) :
    ∃ cs m, v = .agg cs.toArray ∧ Abs.ModelIs w cs m ∧ m.good := by
  obtain ⟨cs, n, rfl, ht⟩ := open_stG (t := T.api_Model) rfl hval h
  obtain ⟨hl, n', ds, rfl, hf⟩ := fields2 (t := T.api_Model) rfl (by kernel_rfl) (by kernel_rfl) ht
  obtain ⟨cs⟩ := cs
  match cs, hl with
  | [c0, c1, c2, c3, c4], _ =>
    obtain ⟨_, _, e0, h0, d0⟩ := hf 0 _ rfl
    obtain ⟨_, _, e1, h1, d1⟩ := hf 1 _ rfl
    obtain ⟨_, _, e2, h2, d2⟩ := hf 2 _ rfl
    obtain ⟨_, _, e3, h3, d3⟩ := hf 3 _ rfl
    obtain ⟨_, _, e4, h4, d4⟩ := hf 4 _ rfl
    cases e0; cases e1; cases e2; cases e3; cases e4
    obtain ⟨l0, r0, b0⟩ := gscalars h0
    obtain ⟨l1, r1, b1⟩ := gvars h1
    obtain ⟨l2, r2, b2⟩ := gchans h2
    obtain ⟨l3, r3, b3⟩ := gprocs h3
    obtain ⟨l4, r4, b4⟩ := gprps h4
    have k0 := b0 (hs.field rfl rfl rfl d0)
    have k1 := b1 (hs.field rfl rfl rfl d1)
    have k2 := b2 (hs.field rfl rfl rfl d2)
    have k3 := b3 (hs.field rfl rfl rfl d3)
    have k4 := b4 (hs.field rfl rfl rfl d4)
    exact ⟨[c0, c1, c2, c3, c4], ⟨l0, l1, l2, l3, l4⟩, rfl, ⟨⟨c0, c1, c2, c3, c4, rfl, r0, r1, r2, r3, r4⟩⟩, ⟨k0.1, k1.1, k2.1, k3.1, k4.1, k0.2, k1.2, k2.2, k3.2, k4.2⟩⟩
end Go.Proofs.YtbbaokmelkiemaaDoor
end
section
/- The walks of the laws on processes, from what their arguments are. -/
set_option maxRecDepth 4000
namespace Go.Proofs.YtbbaokmelkiemaaDoor
open Go Go.RowKit Lite Go.ChangeShapes Go.WideShapes Go.Deep
theorem walk_ProcScopes {H : Type} {enc : TypeId × Value → H} {r : Reach} {b0 : Nat} {d0 d1 : DataW H} {p0 p1 : List MemPlace} (v0 v1 : Value) (W : World) (ho : OwnIs W)
    (k0 : Value.okWide Tryd.prog W r b0 T.api_Model v0) (h0 : DataW.Trod enc Tryd.prog W 0 (fun _ => true) true T.api_Model v0 d0 p0) (s0 : Small Tryd.prog T.api_Model d0)
    (k1 : Value.okWide Tryd.prog W r b0 T.int v1) (h1 : DataW.Trod enc Tryd.prog W 0 (fun _ => true) true T.int v1 d1 p1) (_s1 : Small Tryd.prog T.int d1) :
    Ret Tryd.prog F.lariatlaw14_ProcScopes #[v0, v1] W fun v w' => v = .bool true ∧ Ext W w' := by
  obtain ⟨cs, m, rfl, hm, hg⟩ := open_modelG k0 h0 s0
  obtain ⟨z, rfl, _⟩ := open_int (k := .i64) (by kernel_rfl) k1 h1
  exact lawScopes_r cs m z W hm hg ho
theorem walk_ProcInsts {H : Type} {enc : TypeId × Value → H} {r : Reach} {b0 : Nat} {d0 : DataW H} {p0 : List MemPlace} (v0 : Value) (W : World) (ho : OwnIs W)
    (k0 : Value.okWide Tryd.prog W r b0 T.api_Model v0) (h0 : DataW.Trod enc Tryd.prog W 0 (fun _ => true) true T.api_Model v0 d0 p0) (s0 : Small Tryd.prog T.api_Model d0) :
    Ret Tryd.prog F.lariatlaw14_ProcInsts #[v0] W fun v w' => v = .bool true ∧ Ext W w' := by
  obtain ⟨cs, m, rfl, hm, hg⟩ := open_modelG k0 h0 s0
  exact lawInsts_r cs m W hm hg ho
end Go.Proofs.YtbbaokmelkiemaaDoor
end
section
/- Plain: each instance has its process' commands, in order; a process stays right without its last command. No program in sight. -/
namespace Abs
open Go
theorem insts_mono {m : Model} {k : Nat} (h : k + 1 < (insts m).length) : (insts m)[k].proc ≤ (insts m)[k + 1].proc := by
  have hp := (instsFrom_pw (m := m) m.procs 0).1
  have := List.pairwise_iff_getElem.1 hp k (k + 1) (by unfold insts at h; omega) h (by omega)
  have h1 := (insts_of (insts m)[k] (List.getElem_mem _)).elem
  have h2 := (insts_of (insts m)[k + 1] (List.getElem_mem _)).elem
  unfold Inst.key at this
  unfold insts at *
  omega
theorem refs_pre {m : Model} {pre : List Ref} {k c n : Nat} {rest : List Ref} (h : pre ++ (refsOf k n ++ rest) = refs m) (hc : c < n) : ∃ hl : pre.length + c < (refs m).length, (refs m)[pre.length + c] = ⟨(k : Int), (c : Int)⟩ := by
  have hl : pre.length + c < (refs m).length := by
    rw [← h]; simp only [List.length_append, refsOf, List.length_map, List.length_range]; omega
  refine ⟨hl, ?_⟩
  have : (pre ++ (refsOf k n ++ rest))[pre.length + c]? = some ⟨(k : Int), (c : Int)⟩ := by
    rw [List.getElem?_append_right (by omega), List.getElem?_append_left (by simp [refsOf]; omega)]
    simp [refsOf, hc]
  rw [h] at this
  exact (List.getElem?_eq_some_iff.1 this).2
theorem fairsFrom_mem {m : Model} : ∀ (l : List Ref) (i0 : Nat) (n : Int), n ∈ fairsFrom m l i0 ↔ ∃ j, ∃ hj : j < l.length, n = ((i0 + j : Nat) : Int) ∧ isFair m l[j] = true
  | [], _, _ => by simp [fairsFrom]
  | r :: l, i0, n => by
    simp only [fairsFrom, List.mem_append]
    rw [fairsFrom_mem l (i0 + 1) n]
    constructor
    · rintro (h | ⟨j, hj, h1, h2⟩)
      · split at h
        · rename_i hf
          rw [List.mem_singleton] at h
          exact ⟨0, by simp, by simpa using h, by simpa using hf⟩
        · cases h
      · exact ⟨j + 1, by simpa using hj, by rw [h1]; congr 1; omega, by simpa using h2⟩
    · rintro ⟨j, hj, h1, h2⟩
      cases j with
      | zero => left; rw [if_pos (by simpa using h2)]; simpa using h1
      | succ j => right; exact ⟨j, by simpa using hj, by rw [h1]; congr 1; omega, by simpa using h2⟩
theorem fairs_mem {m : Model} {n : Nat} (h : n < (refs m).length) : ((n : Int) ∈ fairs m) ↔ isFair m (refs m)[n] = true := by
  unfold fairs
  rw [fairsFrom_mem]
  constructor
  · rintro ⟨j, hj, h1, h2⟩
    have : n = j := by omega
    subst this
    exact h2
  · exact fun hh => ⟨n, h, by simp, hh⟩
theorem fairsFrom_pw {m : Model} : ∀ (l : List Ref) (i0 : Nat), (fairsFrom m l i0).Pairwise (· < ·)
  | [], _ => by simp [fairsFrom]
  | r :: l, i0 => by
    simp only [fairsFrom]
    refine List.pairwise_append.2 ⟨?_, fairsFrom_pw l (i0 + 1), fun a ha b hb => ?_⟩
    · split
      · exact List.pairwise_singleton _ _
      · exact List.Pairwise.nil
    · obtain ⟨j, _, h1, _⟩ := (fairsFrom_mem _ _ _).1 hb
      split at ha
      · rw [List.mem_singleton] at ha; omega
      · cases ha
theorem fairs_sorted (m : Model) (i : Nat) (h : i + 1 < (fairs m).length) : (fairs m)[i] ≤ (fairs m)[i + 1] := by
  have := List.pairwise_iff_getElem.1 (fairsFrom_pw (m := m) (refs m) 0) i (i + 1) (by unfold fairs at h; omega) h (by omega)
  exact Int.le_of_lt this
/-! ### Parts -/
theorem procCheck_ok {p : Proc} {s : Scope} (h : (procCheck p s).2.2 = 0) : whole p s = 0 ∧ (plocals p s).2 = 0 ∧ (cmdsE (inner p s) p.locs p.cmds p.cmds 0).2.2 = 0 := by
  unfold procCheck at h
  by_cases h1 : whole p s ≠ 0
  · rw [if_pos h1] at h; exact absurd h h1
  rw [if_neg h1] at h
  by_cases h2 : (plocals p s).2 ≠ 0
  · rw [if_pos h2] at h; exact absurd h h2
  rw [if_neg h2] at h
  exact ⟨by simpa using h1, by simpa using h2, h⟩
theorem whole_ok {p : Proc} {s : Scope} (h : whole p s = 0) : isName p.name = true ∧ 0 ≤ p.over ∧ p.over ≤ s.scalars.length ∧ 1 ≤ p.locs ∧ p.locs ≤ 12 ∧ p.cmds.length ≤ 12 := by
  unfold whole at h
  by_cases h1 : isName p.name = false
  · rw [if_pos h1] at h; cases h
  rw [if_neg h1] at h
  by_cases h2 : p.over < 0 ∨ (s.scalars.length : Int) < p.over
  · rw [if_pos h2] at h; cases h
  rw [if_neg h2] at h
  by_cases h3 : p.locs < 1 ∨ 12 < p.locs
  · rw [if_pos h3] at h; cases h
  rw [if_neg h3] at h
  by_cases h4 : p.cmds.length > 12
  · rw [if_pos h4] at h; cases h
  exact ⟨by simpa using h1, by omega, by omega, by omega, by omega, by omega⟩
theorem cmdsE_each {own : Scope} {locs : Int} {all : List Cmd} : ∀ (l : List Cmd) (i : Nat), (cmdsE own locs all l i).2.2 = 0 → ∀ k (h : k < l.length), (cmdCheck l[k] locs own).2 = 0 ∧ (all.take (i + k)).any (fun x => decide (x.name = l[k].name)) = false
  | [], _, _, k, h => by simp at h
  | c :: r, i, hE, k, h => by
    simp only [cmdsE] at hE
    by_cases h1 : (cmdCheck c locs own).2 ≠ 0
    · rw [if_pos h1] at hE; exact absurd hE h1
    rw [if_neg h1] at hE
    by_cases h2 : (all.take i).any (fun x => decide (x.name = c.name)) = true
    · rw [if_pos h2] at hE; cases hE
    rw [if_neg h2] at hE
    cases k with
    | zero => exact ⟨by simpa using h1, by simpa using h2⟩
    | succ k =>
      have := cmdsE_each r (i + 1) hE k (by simpa using h)
      simpa [Nat.add_assoc, Nat.add_comm 1 k] using this
theorem cmdsE_none {own : Scope} {locs : Int} {all : List Cmd} : ∀ (l : List Cmd) (i : Nat), (∀ k (h : k < l.length), (cmdCheck l[k] locs own).2 = 0 ∧ (all.take (i + k)).any (fun x => decide (x.name = l[k].name)) = false) → cmdsE own locs all l i = (0, 0, 0)
  | [], _, _ => rfl
  | c :: r, i, hE => by
    have h0 := hE 0 (by simp)
    simp only [List.getElem_cons_zero, Nat.add_zero] at h0
    simp only [cmdsE]
    rw [if_neg (by simp [h0.1]), if_neg (by simp [h0.2])]
    refine cmdsE_none r (i + 1) fun k hk => ?_
    have := hE (k + 1) (by simpa using hk)
    simpa [Nat.add_assoc, Nat.add_comm 1 k] using this
/-- The last commands are looked at last. -/
theorem cmdsE_append {own : Scope} {locs : Int} {all : List Cmd} : ∀ (l r : List Cmd) (i : Nat), cmdsE own locs all l i = (0, 0, 0) → cmdsE own locs all (l ++ r) i = cmdsE own locs all r (i + l.length)
  | [], r, i, _ => by simp
  | c :: l, r, i, h => by
    simp only [cmdsE] at h
    by_cases h1 : (cmdCheck c locs own).2 ≠ 0
    · rw [if_pos h1] at h; injection h with h _; omega
    rw [if_neg h1] at h
    by_cases h2 : (all.take i).any (fun x => decide (x.name = c.name)) = true
    · rw [if_pos h2] at h; injection h with h _; omega
    rw [if_neg h2] at h
    simp only [List.cons_append, cmdsE]
    rw [if_neg h1, if_neg h2, cmdsE_append l r (i + 1) h]
    congr 1
    simp; omega
theorem parts_less {p : Proc} {s : Scope} (h : (procCheck p s).2.2 = 0) (n : Nat) : procCheck { p with cmds := p.cmds.take n } s = (0, 0, 0) := by
  obtain ⟨h1, h2, h3⟩ := procCheck_ok h
  obtain ⟨a1, a2, a3, a4, a5, a6⟩ := whole_ok h1
  have hw : whole { p with cmds := p.cmds.take n } s = 0 := by
    unfold whole
    simp only
    rw [if_neg (by simp [a1]), if_neg (by omega), if_neg (by omega), if_neg (by rw [List.length_take]; omega)]
  have hl : plocals { p with cmds := p.cmds.take n } s = plocals p s := rfl
  unfold procCheck
  rw [if_neg (by simp [hw]), if_neg (by rw [hl]; simp [h2])]
  have hi : inner { p with cmds := p.cmds.take n } s = inner p s := rfl
  rw [hi]
  refine cmdsE_none _ 0 fun k hk => ?_
  simp only [List.length_take] at hk
  have := cmdsE_each p.cmds 0 h3 k (by omega)
  simp only [List.getElem_take, Nat.zero_add] at this ⊢
  refine ⟨this.1, ?_⟩
  rw [List.take_take, Nat.min_eq_left (by omega)]
  exact this.2
theorem parts_more {p : Proc} {s : Scope} (h : (procCheck p s).2.2 = 0) (k : Nat) (hk : k + 1 = p.cmds.length) : procCheck { p with cmds := p.cmds ++ [p.cmds[k]] } s = if p.cmds.length = 12 then (0, 0, 11) else (2 + (p.cmds.length : Int), 0, 7) := by
  obtain ⟨h1, h2, h3⟩ := procCheck_ok h
  obtain ⟨a1, a2, a3, a4, a5, a6⟩ := whole_ok h1
  by_cases h12 : p.cmds.length = 12
  · rw [if_pos h12]
    have hw : whole { p with cmds := p.cmds ++ [p.cmds[k]] } s = 11 := by
      unfold whole
      simp only
      rw [if_neg (by simp [a1]), if_neg (by omega), if_neg (by omega), if_pos (by simp; omega)]
    unfold procCheck
    rw [if_pos (by simp [hw]), hw]
  · rw [if_neg h12]
    have hw : whole { p with cmds := p.cmds ++ [p.cmds[k]] } s = 0 := by
      unfold whole
      simp only
      rw [if_neg (by simp [a1]), if_neg (by omega), if_neg (by omega), if_neg (by simp; omega)]
    have hl : plocals { p with cmds := p.cmds ++ [p.cmds[k]] } s = plocals p s := rfl
    have hi : inner { p with cmds := p.cmds ++ [p.cmds[k]] } s = inner p s := rfl
    unfold procCheck
    rw [if_neg (by simp [hw]), if_neg (by rw [hl]; simp [h2]), hi]
    have each := cmdsE_each p.cmds 0 h3
    have e1 : cmdsE (inner p s) p.locs (p.cmds ++ [p.cmds[k]]) p.cmds 0 = (0, 0, 0) := cmdsE_none _ 0 fun j hj => by
      have := each j hj
      simp only [Nat.zero_add] at this ⊢
      exact ⟨this.1, by rw [List.take_append_of_le_length (by omega)]; exact this.2⟩
    show cmdsE (inner p s) p.locs (p.cmds ++ [p.cmds[k]]) (p.cmds ++ [p.cmds[k]]) 0 = _
    rw [cmdsE_append _ _ 0 e1]
    simp only [cmdsE, Nat.zero_add]
    rw [if_neg (by simp [(each k (by omega)).1]), if_pos]
    rw [List.take_append_of_le_length (by omega), List.take_of_length_le (by omega)]
    rw [List.any_eq_true]
    exact ⟨p.cmds[k], List.getElem_mem _, by simp⟩
end Abs
end
section
/- Functions of Go's library on rows of numbers: order. -/
set_option maxRecDepth 4000
set_option maxHeartbeats 1600000
namespace Go.Proofs.YtbbaokmelkiemaaDoor
open Go Go.RowKit Lite
theorem isNaN_r (x : Int) (w : World) : Ret Tryd.prog F.cmp_isNaN_int #[.int .i64 x] w fun v w' => v = .bool false ∧ w' = w := by
  refine K.start hmix E.cmp_isNaN_int (args := [_]) (Nat.le_of_ble_eq_true rfl) ?_; dsimp only [C.cmp_isNaN_int,yt,yi,yb,yp,yr,ye,yc,yv,yg,ym,yw,ya,yl,yx,ys,yn]
  refine Sg ?_
  exact ⟨by first | trivial | rfl | simp, by first | trivial | rfl⟩
theorem less_r (x y : Int) (w : World) : Ret Tryd.prog F.cmp_Less_int #[.int .i64 x, .int .i64 y] w fun v w' => v = .bool (decide (x < y)) ∧ w' = w := by
  refine K.start hmix E.cmp_Less_int (args := [_, _]) (Nat.le_of_ble_eq_true rfl) ?_; dsimp only [C.cmp_Less_int,yt,yi,yb,yp,yr,ye,yc,yv,yg,ym,yw,ya,yl,yx,ys,yn]
  refine Sg ?_
  refine K.call (isNaN_r x w) ?_
  rintro _ _ ⟨rfl, rfl⟩
  refine Sg ?_
  exact ⟨by first | trivial | rfl, by first | trivial | rfl⟩
theorem isSorted_r {R : World → Addr → Int → Prop} [Cel R (fun n => [Value.int .i64 n])] (v : Value) (l : List Int) (w : World) (h : SlR 1 R w v l) (hs : ∀ i (h : i + 1 < l.length), l[i] ≤ l[i + 1]) :
    Ret Tryd.prog F.slices_IsSorted_sl_int_int #[v] w fun v w' => v = .bool true ∧ Ext w w' := by
  obtain ⟨o1, c1, rfl, b1⟩ := h.form
  refine K.start hmix E.slices_IsSorted_sl_int_int (args := [_]) (Nat.le_of_ble_eq_true rfl) ?_; dsimp only [C.slices_IsSorted_sl_int_int,yt,yi,yb,yp,yr,ye,yc,yv,yg,ym,yw,ya,yl,yx,ys,yn]
  refine Sg ?_
  refine K.whG [0] (fun x : Int => [(3, .int .i64 x)]) ((l.length : Int) - 1) (fun x w' => -1 ≤ x ∧ x < l.length ∧ Ext w w') (fun x => (x + 1).toNat) (by first | trivial | rfl | exact ⟨rfl, trivial⟩ | (simp -dsimp only [LL,slots_nil,slots_cons,keepV_nil,keepV_cons,has_nil,has_cons,Nat.reduceAdd,Nat.reduceEqDiff,reduceIte,and_self]; done) | (simp -dsimp only [LL,slots_nil,slots_cons,keepV_nil,keepV_cons,has_nil,has_cons,Nat.reduceAdd,Nat.reduceEqDiff,reduceIte,and_self]; exact ⟨rfl, trivial⟩)) ⟨by omega, by omega, Ext.refl _⟩ ?_
  rintro x S w2 ⟨hx1, hx2, he2⟩
  refine Sg ?_
  refine K.cond (fun g1 => ?_) (fun g1 => ?_)
  · obtain ⟨k, rfl⟩ : ∃ k : Nat, x = ((k + 1 : Nat) : Int) := ⟨(x - 1).toNat, by omega⟩
    obtain ⟨a, rfl⟩ := h.addr (by omega)
    have hk := hs k (by omega)
    refine Sg ?_
    refine K.ian k (by omega) (by omega) ?_
    refine Sg ?_
    refine K.qfn (.bool (decide (l[k + 1] < l[k]))) (fun w' e => (less_r _ _ w').mono fun v w'' hh => ⟨hh.1, by rw [hh.2]; exact Ext.refl _⟩) ?_
    refine Sg ?_
    intro w3 he3
    refine Sg ?_
    refine ⟨_, (by first | trivial | rfl | exact ⟨rfl, trivial⟩ | (simp -dsimp only [LL,slots_nil,slots_cons,keepV_nil,keepV_cons,has_nil,has_cons,Nat.reduceAdd,Nat.reduceEqDiff,reduceIte,and_self]; done) | (simp -dsimp only [LL,slots_nil,slots_cons,keepV_nil,keepV_cons,has_nil,has_cons,Nat.reduceAdd,Nat.reduceEqDiff,reduceIte,and_self]; exact ⟨rfl, trivial⟩)), ⟨by omega, by omega, he2.trans he3⟩, by omega⟩
  · refine Sg ?_
    exact ⟨by first | trivial | rfl, he2⟩
end Go.Proofs.YtbbaokmelkiemaaDoor
end
section
/- Processes: the law on numbers, walked. -/
set_option maxRecDepth 8000
set_option maxHeartbeats 16000000
namespace Abs
theorem num_at {m : Model} {pre : List Ref} {k n c : Nat} {rest : List Ref} (hk : k < (insts m).length) (hn : (insts m)[k].proc = n) (hl : n < m.procs.length) (h : pre ++ (refsOf k (ncmds m (insts m)[k]) ++ rest) = refs m) (hc : c < m.procs[n].cmds.length) :
    ∃ hl' : pre.length + c < (refs m).length, (refs m)[pre.length + c] = ⟨(k : Int), (c : Int)⟩ ∧ decide (((pre.length + c : Nat) : Int) ∈ fairs m) = m.procs[n].cmds[c].fair := by
  have hnc : ncmds m (insts m)[k] = m.procs[n].cmds.length := by
    unfold ncmds
    rw [hn, nth_some (by omega) (by omega)]
    simp
  obtain ⟨h1, h2⟩ := refs_pre h (by rw [hnc]; exact hc)
  refine ⟨h1, h2, ?_⟩
  have hat : RefAt m (refs m)[pre.length + c] k n c := ⟨hk, by rw [h2], hn, hl, by rw [h2], hc⟩
  rw [← hat.fair, Bool.eq_iff_iff, decide_eq_true_eq]
  exact fairs_mem h1
theorem num_len {m : Model} {k n : Nat} (hk : k < (insts m).length) (hn : (insts m)[k].proc = n) (hl : n < m.procs.length) : ncmds m (insts m)[k] = m.procs[n].cmds.length := by
  unfold ncmds
  rw [hn, nth_some (by omega) (by omega)]
  simp
end Abs
namespace Lite
open Go
theorem K.neb1 {P : Program} {t' : TypeId} {cx cy : Operand} {K3 : Value → Prop} {a : Bool} {t} (h : P.underlying t' = some .bool) (hk : K3 (.bool false)) : BinVCh P .neq t' cx cy (.bool a) (.bool a) K3 t := K.neb h (by rw [bne_self_eq_false]; exact hk)
end Lite
namespace Go.Proofs.YtbbaokmelkiemaaDoor
open Go Go.RowKit Lite
theorem lawNumbers_r (cs : List Value) (m : Abs.Model) (w : World) (h : Abs.ModelIs w cs m) (hg : m.good) (ho : OwnIs w) :
    Ret Tryd.prog F.lariatlaw14_ProcNumbers #[.agg cs.toArray] w fun v w' => v = .bool true ∧ Ext w w' := by
  obtain ⟨o0, c0, o1, c1, o2, c2, o3, c3, o4, c4, rfl, h0, h1, h2, h3, h4, l0, l1, l2, l3, l4⟩ := h.form
  refine K.start hmix E.lariatlaw14_ProcNumbers (args := [_]) (Nat.le_of_ble_eq_true rfl) ?_; dsimp only [C.lariatlaw14_ProcNumbers,yt,yi,yb,yp,yr,ye,yc,yv,yg,ym,yw,ya,yl,yx,ys,yn]
  refine Sg ?_
  intro w1 b1 hb1 he1 hc1
  refine Sg ?_
  refine K.call (heavy_r _ m w1 (h.ext he1)) ?_
  rintro _ w2 ⟨hv, he2⟩
  replace hc1 := he2.obj hc1
  rcases hv with rfl | ⟨rfl, hH⟩
  · refine Sg ?_
    refine K.call (pworks_r w2 (ho.ext (he1.trans he2))) ?_
    rintro _ w3 ⟨rfl, he3⟩
    refine Sg ?_
    exact ⟨by first | trivial | rfl, (he1.trans he2).trans he3⟩
  have E2 : ∀ {w'}, Ext w2 w' → Ext w w' := fun e => (he1.trans he2).trans e
  have hL := hH.lim
  have hrl := Abs.refs_len hL
  have hil := Abs.insts_len m
  refine Sg ?_
  intro w3 he3
  replace hc1 := he3.obj hc1
  have E3 : ∀ {w'}, Ext w3 w' → Ext w w' := fun e => E2 (he3.trans e)
  refine Sg ?_
  refine K.call (insts_r _ m w3 (h.ext (E3 (Ext.refl _))) hg) ?_
  rintro va w4 ⟨ha, he4⟩
  refine ⟨he4, ?_⟩
  have E4 : ∀ {w'}, Ext w4 w' → Ext w3 w' := fun e => he4.trans e
  have hsl : InstsAt w4 va _ := OwR.slF (enc := Abs.Inst.enc) (fun _ => rfl) ha
  obtain ⟨oa, ca, rfl, _⟩ := hsl.form
  refine Sg ?_
  refine K.call (refs_r _ m w4 (h.ext (E3 (E4 (Ext.refl _)))) hL) ?_
  rintro vb w5 ⟨hb, he5⟩
  refine ⟨E4 he5, ?_⟩
  have E5 : ∀ {w'}, Ext w5 w' → Ext w3 w' := fun e => E4 (he5.trans e)
  have hsr : RefsAt w5 vb _ := OwR.slF (enc := Abs.Ref.enc) (fun _ => rfl) hb
  obtain ⟨ob, cb, rfl, _⟩ := hsr.form
  refine Sg ?_
  refine K.call (fair_r _ m w5 (h.ext (E3 (E5 (Ext.refl _)))) hg hL) ?_
  rintro vc w6 ⟨hf, he6⟩
  have E6 : ∀ {w'}, Ext w6 w' → Ext w3 w' := fun e => E5 (he6.trans e)
  have hsf : SlR 1 (Flat encN) w6 vc _ := OwR.slF (enc := encN) (fun _ => rfl) hf
  obtain ⟨oc, cc, rfl, _⟩ := hsf.form
  replace hc1 := (E6 (Ext.refl _)).obj hc1
  replace hsl : InstsAt w6 _ (Abs.insts m) := hsl.ext Flat.ext (he5.trans he6)
  replace hsr : RefsAt w6 _ (Abs.refs m) := hsr.ext Flat.ext he6
  have E7 : ∀ {w'}, Ext w6 w' → Ext w w' := fun e => E3 (E6 e)
  have hc6 := hc1
  clear ha hb hf he3 he4 he5 he6 E4 E5 E6 E3
  refine Sg ?_
  refine K.forG 7 (Abs.insts m).length [1, 3, 4, 5] (fun x : Nat => [(6, .int .i64 (x : Int))]) 0 (fun k x w' => Ext w6 w' ∧ ∃ pre : List Abs.Ref, pre.length = x ∧ pre ++ Abs.refsFrom m ((Abs.insts m).drop k) k = Abs.refs m) (by first | trivial | rfl | exact ⟨rfl, trivial⟩ | (simp -dsimp only [LL,slots_nil,slots_cons,keepV_nil,keepV_cons,has_nil,has_cons,Nat.reduceAdd,Nat.reduceEqDiff,reduceIte,and_self]; done) | (simp -dsimp only [LL,slots_nil,slots_cons,keepV_nil,keepV_cons,has_nil,has_cons,Nat.reduceAdd,Nat.reduceEqDiff,reduceIte,and_self]; exact ⟨rfl, trivial⟩)) (by first | trivial | rfl | exact ⟨rfl, trivial⟩ | (simp -dsimp only [LL,slots_nil,slots_cons,keepV_nil,keepV_cons,has_nil,has_cons,Nat.reduceAdd,Nat.reduceEqDiff,reduceIte,and_self]; done) | (simp -dsimp only [LL,slots_nil,slots_cons,keepV_nil,keepV_cons,has_nil,has_cons,Nat.reduceAdd,Nat.reduceEqDiff,reduceIte,and_self]; exact ⟨rfl, trivial⟩)) ⟨Ext.refl _, [], rfl, by simp [Abs.refs]⟩ ?_
  rintro k x S w7 hk ⟨he7, pre, rfl, hpre⟩
  replace hc1 := he7.obj hc1
  refine Sg ?_
  refine K.cond (fun g1 => ?_) (fun g1 => ?_)
  · have hk' : k < (Abs.insts m).length := by omega
    have hx := Abs.insts_of (Abs.insts m)[k] (List.getElem_mem _)
    obtain ⟨n, hn⟩ := Int.eq_ofNat_of_zero_le hx.lo
    have hnl : n < m.procs.length := by have := hx.hi; omega
    have hx1 := hx.lo
    have hx2 := hx.hi
    rw [Abs.refsFrom_drop hk'] at hpre
    obtain ⟨a, rfl⟩ := h3.addr (by omega)
    obtain ⟨ai, rfl⟩ := hsl.addr (by omega)
    obtain ⟨hs, vv, vc, hpc, hpv, hpcm⟩ := h3.at n hnl
    obtain ⟨_, _, rfl, _⟩ := hpv.form
    obtain ⟨oq, _, rfl, lq⟩ := hpcm.form
    replace hpc := hpc.ext (E7 (Ext.refl _))
    replace h3 := SlR.ext Abs.RProc.ext (E7 (Ext.refl _)) h3
    replace hpcm := SlR.ext Abs.RCmd.ext (E7 (Ext.refl _)) hpcm
    have hmono : ∀ j (hj : j + 1 = k), (Abs.insts m)[j].proc ≤ (Abs.insts m)[k].proc := fun j hj => by
      subst hj
      exact Abs.insts_mono hk'
    have hnum := fun c => Abs.num_at (c := c) hk' hn hnl hpre
    have hlen := Abs.num_len hk' hn hnl
    refine Sg ?_
    refine Sg ?_
    refine K.cond (fun g2 => ?_) (fun g2 => ?_)
    · have hm1 := hmono (k - 1) (by omega)
      refine Sg ?_
      refine K.ian (k - 1) (by omega) (by omega) ?_
      refine Sg ?_
      intro w8 he8
      refine Sg ?_
      refine K.forG 8 m.procs[n].cmds.length [1, 3, 4, 5, 7] (fun x : Nat => [(6, .int .i64 (x : Int))]) pre.length (fun c x w' => Ext w6 w' ∧ x = pre.length + c) (by first | trivial | rfl | exact ⟨rfl, trivial⟩ | (simp -dsimp only [LL,slots_nil,slots_cons,keepV_nil,keepV_cons,has_nil,has_cons,Nat.reduceAdd,Nat.reduceEqDiff,reduceIte,and_self]; done) | (simp -dsimp only [LL,slots_nil,slots_cons,keepV_nil,keepV_cons,has_nil,has_cons,Nat.reduceAdd,Nat.reduceEqDiff,reduceIte,and_self]; exact ⟨rfl, trivial⟩)) (by first | trivial | rfl | exact ⟨rfl, trivial⟩ | (simp -dsimp only [LL,slots_nil,slots_cons,keepV_nil,keepV_cons,has_nil,has_cons,Nat.reduceAdd,Nat.reduceEqDiff,reduceIte,and_self]; done) | (simp -dsimp only [LL,slots_nil,slots_cons,keepV_nil,keepV_cons,has_nil,has_cons,Nat.reduceAdd,Nat.reduceEqDiff,reduceIte,and_self]; exact ⟨rfl, trivial⟩)) ⟨he7.trans he8, rfl⟩ ?_
      rintro c x S w9 hc ⟨he9, rfl⟩
      replace hc1 := he9.obj hc6
      refine Sg ?_
      refine K.ian n (by omega) hnl ?_
      refine Sg ?_
      intro w10 he10
      replace hc1 := he10.obj hc1
      refine Sg ?_
      refine K.cond (fun g3 => ?_) (fun g3 => ?_)
      · have hcl : c < m.procs[n].cmds.length := by omega
        obtain ⟨hat, hr, hfr⟩ := hnum c hcl
        obtain ⟨aq, rfl⟩ := hpcm.addr (by omega)
        obtain ⟨hs2, vg, va, hcc, hvg, hva⟩ := hpcm.at c hcl
        obtain ⟨ar, rfl⟩ := hsr.addr (by omega)
        refine Sg ?_
        refine K.neS (sig := Abs.sigNode) (xs := ((Abs.refs m)[pre.length + c]).enc) (ys := (⟨(k : Int), (c : Int)⟩ : Abs.Ref).enc) (by kernel_rfl) (Abs.conf_ref _) (Abs.conf_ref _) fun r hr' => ?_
        obtain rfl : r = false := by
          cases r
          · rfl
          · exact absurd (by rw [hr]) (hr'.1 rfl)
        refine Sg ?_
        refine K.qfn (.bool m.procs[n].cmds[c].fair) (fun w' e => by rw [← hfr]; exact contains1_r hmix E.slices_Contains_sl_int_int E.slices_Index_sl_int_int _ _ _ w' (hsf.ext Flat.ext ((he9.trans he10).trans e))) ?_
        refine Sg ?_
        refine K.ian n (by omega) hnl ?_
        refine Sg ?_
        refine K.neb1 (by kernel_rfl) ?_
        refine Sg ?_
        intro w11 he11
        refine Sg ?_
        refine ⟨hcl, by first | trivial | rfl, pre.length + c + 1, (by first | trivial | rfl | exact ⟨rfl, trivial⟩ | (simp -dsimp only [LL,slots_nil,slots_cons,keepV_nil,keepV_cons,has_nil,has_cons,Nat.reduceAdd,Nat.reduceEqDiff,reduceIte,and_self]; done) | (simp -dsimp only [LL,slots_nil,slots_cons,keepV_nil,keepV_cons,has_nil,has_cons,Nat.reduceAdd,Nat.reduceEqDiff,reduceIte,and_self]; exact ⟨rfl, trivial⟩)), (he9.trans he10).trans he11, by omega⟩
      · refine Sg ?_
        refine ⟨hk', by first | trivial | rfl, pre.length + c, (by first | trivial | rfl | exact ⟨rfl, trivial⟩ | (simp -dsimp only [LL,slots_nil,slots_cons,keepV_nil,keepV_cons,has_nil,has_cons,Nat.reduceAdd,Nat.reduceEqDiff,reduceIte,and_self]; done) | (simp -dsimp only [LL,slots_nil,slots_cons,keepV_nil,keepV_cons,has_nil,has_cons,Nat.reduceAdd,Nat.reduceEqDiff,reduceIte,and_self]; exact ⟨rfl, trivial⟩)), he9.trans he10, pre ++ Abs.refsOf k (Abs.ncmds m (Abs.insts m)[k]), ?_, by rw [List.append_assoc]; exact hpre⟩
        simp only [List.length_append, Abs.refsOf, List.length_map, List.length_range]
        omega
    · refine Sg ?_
      intro w8 he8
      refine Sg ?_
      refine K.forG 8 m.procs[n].cmds.length [1, 3, 4, 5, 7] (fun x : Nat => [(6, .int .i64 (x : Int))]) pre.length (fun c x w' => Ext w6 w' ∧ x = pre.length + c) (by first | trivial | rfl | exact ⟨rfl, trivial⟩ | (simp -dsimp only [LL,slots_nil,slots_cons,keepV_nil,keepV_cons,has_nil,has_cons,Nat.reduceAdd,Nat.reduceEqDiff,reduceIte,and_self]; done) | (simp -dsimp only [LL,slots_nil,slots_cons,keepV_nil,keepV_cons,has_nil,has_cons,Nat.reduceAdd,Nat.reduceEqDiff,reduceIte,and_self]; exact ⟨rfl, trivial⟩)) (by first | trivial | rfl | exact ⟨rfl, trivial⟩ | (simp -dsimp only [LL,slots_nil,slots_cons,keepV_nil,keepV_cons,has_nil,has_cons,Nat.reduceAdd,Nat.reduceEqDiff,reduceIte,and_self]; done) | (simp -dsimp only [LL,slots_nil,slots_cons,keepV_nil,keepV_cons,has_nil,has_cons,Nat.reduceAdd,Nat.reduceEqDiff,reduceIte,and_self]; exact ⟨rfl, trivial⟩)) ⟨he7.trans he8, rfl⟩ ?_
      rintro c x S w9 hc ⟨he9, rfl⟩
      replace hc1 := he9.obj hc6
      refine Sg ?_
      refine K.ian n (by omega) hnl ?_
      refine Sg ?_
      intro w10 he10
      replace hc1 := he10.obj hc1
      refine Sg ?_
      refine K.cond (fun g3 => ?_) (fun g3 => ?_)
      · have hcl : c < m.procs[n].cmds.length := by omega
        obtain ⟨hat, hr, hfr⟩ := hnum c hcl
        obtain ⟨aq, rfl⟩ := hpcm.addr (by omega)
        obtain ⟨hs2, vg, va, hcc, hvg, hva⟩ := hpcm.at c hcl
        obtain ⟨ar, rfl⟩ := hsr.addr (by omega)
        refine Sg ?_
        refine K.neS (sig := Abs.sigNode) (xs := ((Abs.refs m)[pre.length + c]).enc) (ys := (⟨(k : Int), (c : Int)⟩ : Abs.Ref).enc) (by kernel_rfl) (Abs.conf_ref _) (Abs.conf_ref _) fun r hr' => ?_
        obtain rfl : r = false := by
          cases r
          · rfl
          · exact absurd (by rw [hr]) (hr'.1 rfl)
        refine Sg ?_
        refine K.qfn (.bool m.procs[n].cmds[c].fair) (fun w' e => by rw [← hfr]; exact contains1_r hmix E.slices_Contains_sl_int_int E.slices_Index_sl_int_int _ _ _ w' (hsf.ext Flat.ext ((he9.trans he10).trans e))) ?_
        refine Sg ?_
        refine K.ian n (by omega) hnl ?_
        refine Sg ?_
        refine K.neb1 (by kernel_rfl) ?_
        refine Sg ?_
        intro w11 he11
        refine Sg ?_
        refine ⟨hcl, by first | trivial | rfl, pre.length + c + 1, (by first | trivial | rfl | exact ⟨rfl, trivial⟩ | (simp -dsimp only [LL,slots_nil,slots_cons,keepV_nil,keepV_cons,has_nil,has_cons,Nat.reduceAdd,Nat.reduceEqDiff,reduceIte,and_self]; done) | (simp -dsimp only [LL,slots_nil,slots_cons,keepV_nil,keepV_cons,has_nil,has_cons,Nat.reduceAdd,Nat.reduceEqDiff,reduceIte,and_self]; exact ⟨rfl, trivial⟩)), (he9.trans he10).trans he11, by omega⟩
      · refine Sg ?_
        refine ⟨hk', by first | trivial | rfl, pre.length + c, (by first | trivial | rfl | exact ⟨rfl, trivial⟩ | (simp -dsimp only [LL,slots_nil,slots_cons,keepV_nil,keepV_cons,has_nil,has_cons,Nat.reduceAdd,Nat.reduceEqDiff,reduceIte,and_self]; done) | (simp -dsimp only [LL,slots_nil,slots_cons,keepV_nil,keepV_cons,has_nil,has_cons,Nat.reduceAdd,Nat.reduceEqDiff,reduceIte,and_self]; exact ⟨rfl, trivial⟩)), he9.trans he10, pre ++ Abs.refsOf k (Abs.ncmds m (Abs.insts m)[k]), ?_, by rw [List.append_assoc]; exact hpre⟩
        simp only [List.length_append, Abs.refsOf, List.length_map, List.length_range]
        omega
  · rw [List.drop_eq_nil_of_le (by omega)] at hpre
    simp only [Abs.refsFrom, List.append_nil] at hpre
    have hpl : pre.length = (Abs.refs m).length := by rw [hpre]
    refine Sg ?_
    refine K.call (isSorted_r _ _ _ (hsf.ext Flat.ext he7) (Abs.fairs_sorted m)) ?_
    rintro _ w8 ⟨rfl, he8⟩
    refine Sg ?_
    refine K.call (pworks_r w8 (ho.ext (E7 (he7.trans he8)))) ?_
    rintro _ w9 ⟨rfl, he9⟩
    refine Sg ?_
    exact ⟨by first | trivial | rfl, E7 ((he7.trans he8).trans he9)⟩
end Go.Proofs.YtbbaokmelkiemaaDoor
end
section
/- The walk of the law on numbers, from what its argument is. -/
set_option maxRecDepth 4000
namespace Go.Proofs.YtbbaokmelkiemaaDoor
open Go Go.RowKit Lite Go.ChangeShapes Go.WideShapes Go.Deep
theorem walk_ProcNumbers {H : Type} {enc : TypeId × Value → H} {r : Reach} {b0 : Nat} {d0 : DataW H} {p0 : List MemPlace} (v0 : Value) (W : World) (ho : OwnIs W)
    (k0 : Value.okWide Tryd.prog W r b0 T.api_Model v0) (h0 : DataW.Trod enc Tryd.prog W 0 (fun _ => true) true T.api_Model v0 d0 p0) (s0 : Small Tryd.prog T.api_Model d0) :
    Ret Tryd.prog F.lariatlaw14_ProcNumbers #[v0] W fun v w' => v = .bool true ∧ Ext W w' := by
  obtain ⟨cs, m, rfl, hm, hg⟩ := open_modelG k0 h0 s0
  exact lawNumbers_r cs m W hm hg ho
end Go.Proofs.YtbbaokmelkiemaaDoor
end
