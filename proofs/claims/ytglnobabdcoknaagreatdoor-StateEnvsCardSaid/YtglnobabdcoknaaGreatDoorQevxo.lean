/- Texts joined: ModL StbE StbF Open1 Open2 Open3 Open6 Open5 StbG LiteQ. -/
import Derived.Test.YtglnobabdcoknaaGreatDoorQevxc
import Derived.Test.YtglnobabdcoknaaGreatDoorQevxd
import Derived.Test.YtglnobabdcoknaaGreatDoorQevxf
import Derived.Test.YtglnobabdcoknaaGreatDoorQevxg
import Derived.Test.YtglnobabdcoknaaGreatDoorQevxn
import Derived.SizedLaws
import Derived.JoinedCond
set_option linter.all false
set_option maxRecDepth 8000
set_option maxHeartbeats 32000000
section
namespace Abs
structure LightM (m : Model) : Prop where
 s : m.scalars.length ≤ 8
 v : m.vars.length ≤ 20
 c : m.chans.length ≤ 8
 p : m.procs.length ≤ 10
 q : m.props.length ≤ 16
 i : ∀ (j : Nat) (h : j < m.procs.length), m.procs[j].vars.length ≤ 10 ∧ m.procs[j].cmds.length ≤ 16
end Abs
namespace Go.Proofs.YtglnobabdcoknaaGreatDoor
open Go Go.RowKit Lite
theorem lightC_r (cs : List Value) (c : Abs.Cmd) (w : World) (h : Abs.CmdIs w cs c) :
  Ret Tryz.prog F.lr15_light #[.agg cs.toArray] w fun v w' => (∃ b : Bool, v = .bool b) ∧ Ext w w' := by
 obtain ⟨h0, _, _, rfl, hg, ha⟩ := h
 obtain ⟨_, _, rfl, _⟩ := hg.form
 obtain ⟨oa, ca, rfl, la⟩ := ha.form
 unfold Abs.Cmd.enc
 refine Ks E.lr15_light ?_; dsimp only [C.lr15_light]; refine Yy ?_
 refine Sg ?_
 intro w1 b1 hb1 he1 hc1
 refine Sg ?_
 apply K.cond <;> intro g0
 ·refine Sg ?_
  exact ⟨⟨_, rfl⟩, he1⟩
 refine Sg ?_
 apply K.cond <;> intro g1
 ·refine Sg ?_
  exact ⟨⟨_, rfl⟩, he1⟩
 refine Sg ?_
 apply K.cond <;> intro g2
 ·refine Sg ?_
  exact ⟨⟨_, rfl⟩, he1⟩
 refine Sg ?_
 refine K.forG 3 c.acts.length [1] (fun _ => []) () (fun k _ w' => w' = w1) hZq hZq rfl ?_
 rintro k _ S w2 hk rfl
 refine Sg ?_
 apply K.cond <;> intro g5
 ·have hk' : k < c.acts.length := by omega
  obtain ⟨a, rfl⟩ := ha.addr (by omega)
  obtain ⟨vv, vc, hp, hpv, hpc⟩ := ha.at k hk'
  obtain ⟨ov, cv, rfl, lv⟩ := hpv.form
  obtain ⟨oc, cc, rfl, lc⟩ := hpc.form
  refine Sg ?_
  apply K.cond <;> intro g6
  ·refine Sg ?_
   exact ⟨⟨_, rfl⟩, he1⟩
  refine Sg ?_
  apply K.cond <;> intro g7
  ·refine Sg ?_
   exact ⟨⟨_, rfl⟩, he1⟩
  refine Sg ?_
  exact ⟨hk', Tr, (), trivial, Tr⟩
 refine Sg ?_
 exact ⟨⟨_, rfl⟩, he1⟩
theorem light15_r (cs : List Value) (m : Abs.Model) (w : World) (h : Abs.MI w cs m) :
  Ret Tryz.prog F.lr15_Light #[.agg cs.toArray] w fun v w' => (∃ b, v = .bool b ∧ (b = true → Abs.LightM m)) ∧ Ext w w' := by
 obtain ⟨o0, c0, o1, c1, o2, c2, o3, c3, o4, c4, rfl, h0, h1, h2, h3, h4, l0, l1, l2, l3, l4⟩ := h.form
 refine Ks E.lr15_Light ?_; dsimp only [C.lr15_Light]; refine Yy ?_
 refine Sg ?_
 intro w1 b1 hb1 he1 hc1
 refine Sg ?_
 apply K.cond <;> intro g0
 ·refine Sg ?_
  exact ⟨⟨false, rfl, fun h => by cases h⟩, he1⟩
 refine Sg ?_
 apply K.cond <;> intro g1
 ·refine Sg ?_
  exact ⟨⟨false, rfl, fun h => by cases h⟩, he1⟩
 refine Sg ?_
 apply K.cond <;> intro g2
 ·refine Sg ?_
  exact ⟨⟨false, rfl, fun h => by cases h⟩, he1⟩
 refine Sg ?_
 apply K.cond <;> intro g3
 ·refine Sg ?_
  exact ⟨⟨false, rfl, fun h => by cases h⟩, he1⟩
 refine Sg ?_
 apply K.cond <;> intro g4
 ·refine Sg ?_
  exact ⟨⟨false, rfl, fun h => by cases h⟩, he1⟩
 have hc0 := hc1
 refine Sg ?_
 refine K.forG 3 m.procs.length [1] (fun _ => []) () (fun k _ w' => Ext w1 w' ∧ ∀ j (h : j < m.procs.length), j < k → m.procs[j].vars.length ≤ 10 ∧ m.procs[j].cmds.length ≤ 16) hZq hZq ⟨Ext.refl _, fun j _ h => absurd h (Nat.not_lt_zero _)⟩ ?_
 rintro k _ S w2 hk ⟨he2, hall⟩
 replace hc1 := he2.obj hc0
 have e2 := he1.trans he2
 refine Sg ?_
 apply K.cond <;> intro g5
 ·have hk' : k < m.procs.length := by omega
  obtain ⟨a, rfl⟩ := h3.addr (by omega)
  obtain ⟨_, vv, vc, hp, hpv, hpc⟩ := h3.at k hk'
  obtain ⟨ov, cv, rfl, lv⟩ := hpv.form
  obtain ⟨oc, cc, rfl, lc⟩ := hpc.form
  refine Sg ?_
  apply K.cond <;> intro g6
  ·refine Sg ?_
   exact ⟨⟨false, rfl, fun h => by cases h⟩, e2⟩
  refine Sg ?_
  apply K.cond <;> intro g7
  ·refine Sg ?_
   exact ⟨⟨false, rfl, fun h => by cases h⟩, e2⟩
  refine Sg ?_
  refine K.forG 4 m.procs[k].cmds.length [1, 3] (fun _ => []) () (fun i _ w' => Ext w1 w') hZq hZq he2 ?_
  clear hc1 e2 he2
  rintro i _ S w3 hi he2
  have hc1 := he2.obj hc0
  have e2 := he1.trans he2
  refine Sg ?_
  apply K.cond <;> intro g8
  ·have hi' : i < m.procs[k].cmds.length := by omega
   obtain ⟨ac, rfl⟩ := hpc.addr (by omega)
   obtain ⟨cc1, hcc, hC⟩ := Rel.out (hpc.at i hi')
   obtain ⟨_, _, _, rfl, _, _⟩ := id hC
   refine Sg ?_
   refine K.call (lightC_r _ m.procs[k].cmds[i] w3 (hC.ext e2)) ?_
   rintro _ w4 ⟨⟨b, rfl⟩, he4⟩
   cases b with
   | false =>
    refine Sg ?_
    exact ⟨⟨false, rfl, fun h => by cases h⟩, e2.trans he4⟩
   | true =>
    refine Sg ?_
    exact ⟨hi', Tr, (), trivial, he2.trans he4⟩
  ·refine Sg ?_
   refine ⟨hk', Tr, (), trivial, he2, fun j hj hjk => ?_⟩
   by_cases hjj : j = k
   ·subst hjj; exact ⟨by omega, by omega⟩
   ·exact hall j hj (by omega)
 refine Sg ?_
 refine K.forG 5 m.props.length [1] (fun _ => []) () (fun i _ w' => w' = w2) hZq hZq rfl ?_
 rintro i _ S w3 hi rfl
 refine Sg ?_
 apply K.cond <;> intro g8
 ·have hi' : i < m.props.length := by omega
  obtain ⟨ac, rfl⟩ := h4.addr (by omega)
  obtain ⟨_, ve, hcc, hve⟩ := h4.at i hi'
  obtain ⟨ov, cv, rfl, lv⟩ := hve.form
  refine Sg ?_
  apply K.cond <;> intro g9
  ·refine Sg ?_
   exact ⟨⟨false, rfl, fun h => by cases h⟩, e2⟩
  refine Sg ?_
  exact ⟨hi', Tr, (), trivial, Tr⟩
 refine Sg ?_
 exact ⟨⟨true, rfl, fun _ => ⟨by omega, by omega, by omega, by omega, by omega, fun j hj => hall j hj (by omega)⟩⟩, e2⟩
end Go.Proofs.YtglnobabdcoknaaGreatDoor
end
section
namespace Lite
open Go Go.RowKit Go.ChangeShapes Go.WideShapes Go.Deep
section
variable {H : Type} {enc : TypeId × Value → H} {P : Program} {w : World} {base : Nat} {spare : Nat → Bool} {held : Bool}
theorem fields2 {t : TypeId} {fs : Array Field} {n : Nat} {cs : List Value} {y : DataW H × List MemPlace} (ht : P.underlying t = some (.struct fs)) (hone : oneCellFields P fs = true) (hC : P.cellsOf t = fs.size)
  (h : DataW.trod enc P w base spare held n t cs = some y) : cs.length = fs.size ∧ ∃ n' ds, y.1 = .agg ds ∧ ∀ (j : Nat) (f : Field), fs[j]? = some f → ∃ v z, cs[j]? = some v ∧ DataW.trod enc P w base spare held n' f.type [v] = some z ∧ ds[j]? = some z.1 := by
 obtain ⟨ys, n', hn', hy, hlen, hyl, hf⟩ := DataW.trod_struct ht h
 refine ⟨by omega, n', _, by rw [hy], fun j f hj => ?_⟩
 obtain ⟨ho, hk⟩ := hone_of hone j f hj
 have hjl : j < fs.size := (Array.getElem?_eq_some_iff.1 hj).1
 have hv : cs[j]? = some (cs[j]'(by omega)) := List.getElem?_eq_getElem (by omega)
 have h1 := hf j f hj
 rw [ho, hk] at h1
 have hone' : (cs.drop j).take 1 = [cs[j]'(by omega)] := by
  rw [List.drop_eq_getElem_cons (by omega)]
  rfl
 rw [hone', List.getElem?_eq_getElem (l := ys) (by omega)] at h1
 exact ⟨_, _, hv, h1, by rw [List.getElem?_map, List.getElem?_eq_getElem (by omega)]; rfl⟩
def Small (P : Program) (t : TypeId) (d : DataW H) : Prop := ∀ q ∈ d.weights P t, q ≤ reachBytes
theorem Small.field {t u : TypeId} {fs : Array Field} {ds : List (DataW H)} {j : Nat} {d : DataW H} {f : Field} (h : Small P t (.agg ds)) (ht : P.underlying t = some (.struct fs)) (hf : fs[j]? = some f) (hu : f.type = u) (hd : ds[j]? = some d) : Small P u d := by
 subst hu
 intro q hq
 refine h q ?_
 simp only [DataW.weights, ht]
 exact DataW.weights_mem_each (j := j) (by simp [hf]) hd q hq
theorem cell_sl {α : Type} {R : World → Addr → α → Prop} {t e : TypeId} {v : Value} {n : Nat} {z : DataW H × List MemPlace} (sz : Nat) (ht : P.underlying t = some (.slice e)) (hC : P.cellsOf e = sz) (hB : 0 < P.bytesOf e)
  (hR : ∀ (a : Addr) (cs : List Value) (n : Nat) (y : DataW H × List MemPlace), CellsAt w a cs → cs.length = sz → DataW.trod enc P w 0 (fun _ => true) true n e cs = some y → ∃ x, R w a x)
  (h : DataW.trod enc P w 0 (fun _ => true) true n t [v] = some z) : ∃ xs, SlR sz R w v xs ∧ (Small P t z.1 → xs.length ≤ 140737488355328) := by
 rcases open_slice ht h with ⟨hcs, _⟩ | ⟨a, len, cap, m, n, D, Pl, hcs, hb, hl, hm, hmm, hx, hi⟩
 ·simp at hcs
  subst hcs
  exact ⟨[], SlR.nil, fun _ => by simp⟩
 ·simp at hcs
  subst hcs
  simp only [if_true] at hmm
  subst hmm
  obtain ⟨xs, hxl, hxs⟩ := list_of len (fun i x => R w (a.add (i * sz)) x) fun i hi' => by
   obtain ⟨cs', hc, ht'⟩ := hi i (by omega)
   rw [hC] at hc
   obtain ⟨_, hcl, hat⟩ := World.cells?_some hc
   refine hR _ cs' n _ (fun j u hj => ?_) hcl ht'
   have hjl' : j < sz := hcl ▸ (List.getElem?_eq_some_iff.1 hj).1
   rw [← hj]
   exact hat j hjl'
  refine ⟨xs, ⟨some a, _, by rw [hxl], by omega, hm, fun _ => rfl, fun a' ha => by injection ha with ha; subst ha; exact hxs⟩, fun hs => ?_⟩
  have h1 := hs ((len + (m - len)) * P.bytesOf e) (by rw [hx]; simp [DataW.weights, ht])
  have h2 := reachBytes_lt
  have h3 : len ≤ (len + (m - len)) * P.bytesOf e := Nat.le_trans (Nat.le_add_right len _) (Nat.le_mul_of_pos_right _ hB)
  rw [hxl]
  omega
theorem arg_sl {r : Reach} {b0 : Nat} {t e : TypeId} {v : Value} {d : DataW H} {p : List MemPlace} (ht : P.underlying t = some (.slice e)) (hval : Value.okWide P w r b0 t v) (h : DataW.Trod enc P w 0 (fun _ => true) true t v d p) :
  ∃ n, DataW.trod enc P w 0 (fun _ => true) true n t [v] = some (d, p) := by
 obtain ⟨a0, len0, cap0, rfl⟩ := okWide_slice ht hval
 obtain ⟨n, hn⟩ := h
 exact ⟨n, hn⟩
end
end Lite
namespace Go.Proofs.YtglnobabdcoknaaGreatDoor
open Go Go.RowKit Lite Go.ChangeShapes
variable {H : Type} {enc : TypeId × Value → H} {w : World} {cs : List Value} {n : Nat} {y : DataW H × List MemPlace} {v : Value}
theorem wf_inI {z : Int} (h : (Lit.int .i64 z).wf = true) : Abs.inI z := by
 simp only [Lit.wf, Bool.and_eq_true, decide_eq_true_eq] at h
 exact ⟨h.1, h.2⟩
theorem node_el (h : DataW.trod enc Tryz.prog w 0 (fun _ => true) true n T.p cs = some y) : ∃ x : Abs.Node, cs = x.enc ∧ x.ok := by
 obtain ⟨hl, n', ds, _, hf⟩ := fields2 (t := T.p) rfl (by kernel_rfl) (by kernel_rfl) h
 match cs, hl with
 | [c0, c1], _ =>
  obtain ⟨_, _, e0, h0, _⟩ := hf 0 _ rfl
  obtain ⟨_, _, e1, h1, _⟩ := hf 1 _ rfl
  cases e0; cases e1
  obtain ⟨z0, e0, _, k0⟩ := DataW.trod_int (k := .i64) (by kernel_rfl) h0
  obtain ⟨z1, e1, _, k1⟩ := DataW.trod_int (k := .i64) (by kernel_rfl) h1
  cases e0; cases e1
  exact ⟨⟨z0, z1⟩, rfl, wf_inI k0, wf_inI k1⟩
end Go.Proofs.YtglnobabdcoknaaGreatDoor
end
section
namespace Go.Proofs.YtglnobabdcoknaaGreatDoor
open Go Go.RowKit Lite Go.ChangeShapes
variable {H : Type} {enc : TypeId × Value → H} {w : World} {r : Reach} {b0 : Nat} {v : Value} {d : DataW H} {p : List MemPlace}
theorem ints_c {n : Nat} {y : DataW H × List MemPlace} (h : DataW.trod enc Tryz.prog w 0 (fun _ => true) true n T.b [v] = some y) : ∃ l, IntsB w v l ∧ (Small Tryz.prog T.b y.1 → l.length ≤ 140737488355328) :=
 cell_sl (e := T.a) 1 (by kernel_rfl) (by kernel_rfl) (by decide +kernel) (fun a cs n y hc hl ht => by
  obtain ⟨z, e, _, kz⟩ := DataW.trod_int (k := .i64) (by kernel_rfl) ht
  cases e
  exact ⟨z, hc, wf_inI kz⟩) h
theorem open_ints (hval : Value.okWide Tryz.prog w r b0 T.b v) (h : DataW.Trod enc Tryz.prog w 0 (fun _ => true) true T.b v d p) : ∃ l, IntsB w v l := by
 obtain ⟨n, hn⟩ := arg_sl (e := T.a) (by kernel_rfl) hval h
 obtain ⟨l, hl, _⟩ := ints_c hn
 exact ⟨l, hl⟩
end Go.Proofs.YtglnobabdcoknaaGreatDoor
end
section
namespace Go.Proofs.YtglnobabdcoknaaGreatDoor
open Go Go.RowKit Lite Go.ChangeShapes
variable {H : Type} {enc : TypeId × Value → H} {w : World} {r : Reach} {b0 : Nat} {v : Value} {d : DataW H} {p : List MemPlace}
theorem open_nums (hval : Value.okWide Tryz.prog w r b0 T.b v) (h : DataW.Trod enc Tryz.prog w 0 (fun _ => true) true T.b v d p) : ∃ l, SlR 1 (Flat encN) w v l := by
 obtain ⟨l, hl⟩ := open_ints hval h
 obtain ⟨oa, cap, e, h1, h2, h3, h4⟩ := hl.ex
 exact ⟨l, oa, cap, e, h1, h2, h3, fun a ha i hi => (h4 a ha i hi).1⟩
end Go.Proofs.YtglnobabdcoknaaGreatDoor
end
section
namespace Lite
open Go Go.RowKit Go.ChangeShapes Go.WideShapes Go.Deep
section
variable {H : Type} {enc : TypeId × Value → H} {P : Program} {w : World} {base : Nat} {spare : Nat → Bool} {held : Bool}
theorem weights_mem_all {e : TypeId} : ∀ {ds : List (DataW H)} {d : DataW H}, d ∈ ds → ∀ n ∈ d.weights P e, n ∈ DataW.weightsAll P e ds
 | [], _, h => by cases h
 | x :: r, d, h => fun n hn => by
  simp only [DataW.weightsAll]
  rcases List.mem_cons.1 h with rfl | h
  ·exact List.mem_append_left _ hn
  ·exact List.mem_append_right _ (weights_mem_all h n hn)
theorem cell_slG {α : Type} {R : World → Addr → α → Prop} {G : α → Prop} {t e : TypeId} {v : Value} {n : Nat} {z : DataW H × List MemPlace} (sz B : Nat) (ht : P.underlying t = some (.slice e)) (hC : P.cellsOf e = sz) (hB : P.bytesOf e = B)
  (hR : ∀ (a : Addr) (cs : List Value) (n : Nat) (y : DataW H × List MemPlace), CellsAt w a cs → cs.length = sz → DataW.trod enc P w 0 (fun _ => true) true n e cs = some y → ∃ x, R w a x ∧ (Small P e y.1 → G x))
  (h : DataW.trod enc P w 0 (fun _ => true) true n t [v] = some z) : ∃ xs, SlR sz R w v xs ∧ (Small P t z.1 → Abs.big xs.length B ∧ ∀ x ∈ xs, G x) := by
 rcases open_slice ht h with ⟨hcs, _⟩ | ⟨a, len, cap, m, n, D, Pl, hcs, hb, hl, hm, hmm, hx, hi⟩
 ·simp at hcs
  subst hcs
  exact ⟨[], SlR.nil, fun _ => ⟨by simp [Abs.big], fun x hx => by cases hx⟩⟩
 ·simp at hcs
  subst hcs
  simp only [if_true] at hmm
  subst hmm
  obtain ⟨xs, hxl, hxs⟩ := list_of len (fun i x => R w (a.add (i * sz)) x ∧ (Small P e (D i) → G x)) fun i hi' => by
   obtain ⟨cs', hc, ht'⟩ := hi i (by omega)
   rw [hC] at hc
   obtain ⟨_, hcl, hat⟩ := World.cells?_some hc
   refine hR _ cs' n _ (fun j u hj => ?_) hcl ht'
   have hjl' : j < sz := hcl ▸ (List.getElem?_eq_some_iff.1 hj).1
   rw [← hj]
   exact hat j hjl'
  refine ⟨xs, ⟨some a, _, by rw [hxl], by omega, hm, fun _ => rfl, fun a' ha i hi => by injection ha with ha; subst ha; exact (hxs i hi).1⟩, fun hs => ⟨?_, fun x hx' => ?_⟩⟩
  ·have h1 := hs ((len + (m - len)) * P.bytesOf e) (by rw [hx]; simp [DataW.weights, ht])
   have h2 : len * B ≤ (len + (m - len)) * P.bytesOf e := by rw [hB]; exact Nat.mul_le_mul_right _ (by omega)
   have h3 : reachBytes = 140737488351232 := rfl
   unfold Abs.big
   rw [hxl]
   omega
  ·obtain ⟨i, hi', rfl⟩ := List.mem_iff_getElem.1 hx'
   refine (hxs i hi').2 fun q hq => hs q ?_
   rw [hx]
   simp only [DataW.weights, ht]
   refine List.mem_cons_of_mem _ (List.mem_append_left _ (weights_mem_all ?_ q hq))
   exact List.mem_map.2 ⟨i, by simp; omega, rfl⟩
theorem open_stG {r : Reach} {b0 : Nat} {t : TypeId} {fs : Array Field} {v : Value} {d : DataW H} {p : List MemPlace} (ht : P.underlying t = some (.struct fs))
  (hval : Value.okWide P w r b0 t v) (h : DataW.Trod enc P w base spare held t v d p) : ∃ cs n, v = .agg cs ∧ DataW.trod enc P w base spare held n t cs.toList = some (d, p) := by
 obtain ⟨cs, rfl, hsz⟩ := okWide_struct ht hval
 obtain ⟨fuel, hf⟩ := h
 exact ⟨cs, fuel, rfl, hf⟩
end
end Lite
namespace Go.Proofs.YtglnobabdcoknaaGreatDoor
open Go Go.RowKit Lite Go.ChangeShapes
variable {H : Type} {enc : TypeId × Value → H} {w : World} {cs : List Value} {n : Nat} {y : DataW H × List MemPlace} {v : Value}
theorem gscalar (h : DataW.trod enc Tryz.prog w 0 (fun _ => true) true n T.z cs = some y) : ∃ x : Abs.Scalar, cs = x.enc ∧ Abs.strOk x.name ∧ x.good := by
 obtain ⟨hl, n', ds, _, hf⟩ := fields2 (t := T.z) rfl (by kernel_rfl) (by kernel_rfl) h
 match cs, hl with
 | [c0, c1], _ =>
  obtain ⟨_, _, e0, h0, _⟩ := hf 0 _ rfl
  obtain ⟨_, _, e1, h1, _⟩ := hf 1 _ rfl
  cases e0; cases e1
  obtain ⟨s, e0, _, hs⟩ := DataW.trod_string (by kernel_rfl) h0
  obtain ⟨z, e1, _, k1⟩ := DataW.trod_int (k := .i64) (by kernel_rfl) h1
  cases e0; cases e1
  exact ⟨⟨s, z⟩, rfl, hs, ⟨wf_inI k1⟩⟩
theorem gvar (h : DataW.trod enc Tryz.prog w 0 (fun _ => true) true n T.e cs = some y) : ∃ x : Abs.Var, cs = x.enc ∧ Abs.strOk x.name ∧ x.good := by
 obtain ⟨hl, n', ds, _, hf⟩ := fields2 (t := T.e) rfl (by kernel_rfl) (by kernel_rfl) h
 match cs, hl with
 | [c0, c1, c2, c3, c4, c5], _ =>
  obtain ⟨_, _, e0, h0, _⟩ := hf 0 _ rfl
  obtain ⟨_, _, e1, h1, _⟩ := hf 1 _ rfl
  obtain ⟨_, _, e2, h2, _⟩ := hf 2 _ rfl
  obtain ⟨_, _, e3, h3, _⟩ := hf 3 _ rfl
  obtain ⟨_, _, e4, h4, _⟩ := hf 4 _ rfl
  obtain ⟨_, _, e5, h5, _⟩ := hf 5 _ rfl
  cases e0; cases e1; cases e2; cases e3; cases e4; cases e5
  obtain ⟨s, e0, _, hs⟩ := DataW.trod_string (by kernel_rfl) h0
  obtain ⟨z1, e1, _, k1⟩ := DataW.trod_int (k := .i64) (by kernel_rfl) h1
  obtain ⟨z2, e2, _, k2⟩ := DataW.trod_int (k := .i64) (by kernel_rfl) h2
  obtain ⟨z3, e3, _, k3⟩ := DataW.trod_int (k := .i64) (by kernel_rfl) h3
  obtain ⟨z4, e4, _, k4⟩ := DataW.trod_int (k := .i64) (by kernel_rfl) h4
  obtain ⟨z5, e5, _, k5⟩ := DataW.trod_int (k := .i64) (by kernel_rfl) h5
  cases e0; cases e1; cases e2; cases e3; cases e4; cases e5
  exact ⟨⟨s, z1, z2, z3, z4, z5⟩, rfl, hs, ⟨wf_inI k1, wf_inI k2, wf_inI k3, wf_inI k4, wf_inI k5⟩⟩
theorem gchan (h : DataW.trod enc Tryz.prog w 0 (fun _ => true) true n T.o cs = some y) : ∃ x : Abs.Chan, cs = x.enc ∧ Abs.strOk x.name ∧ x.good := by
 obtain ⟨hl, n', ds, _, hf⟩ := fields2 (t := T.o) rfl (by kernel_rfl) (by kernel_rfl) h
 match cs, hl with
 | [c0, c1, c2, c3, c4, c5], _ =>
  obtain ⟨_, _, e0, h0, _⟩ := hf 0 _ rfl
  obtain ⟨_, _, e1, h1, _⟩ := hf 1 _ rfl
  obtain ⟨_, _, e2, h2, _⟩ := hf 2 _ rfl
  obtain ⟨_, _, e3, h3, _⟩ := hf 3 _ rfl
  obtain ⟨_, _, e4, h4, _⟩ := hf 4 _ rfl
  obtain ⟨_, _, e5, h5, _⟩ := hf 5 _ rfl
  cases e0; cases e1; cases e2; cases e3; cases e4; cases e5
  obtain ⟨s, e0, _, hs⟩ := DataW.trod_string (by kernel_rfl) h0
  obtain ⟨z1, e1, _, k1⟩ := DataW.trod_int (k := .i64) (by kernel_rfl) h1
  obtain ⟨z2, e2, _, k2⟩ := DataW.trod_int (k := .i64) (by kernel_rfl) h2
  obtain ⟨z3, e3, _, k3⟩ := DataW.trod_int (k := .i64) (by kernel_rfl) h3
  obtain ⟨z4, e4, _, k4⟩ := DataW.trod_int (k := .i64) (by kernel_rfl) h4
  obtain ⟨z5, e5, _⟩ := DataW.trod_bool (by kernel_rfl) h5
  cases e0; cases e1; cases e2; cases e3; cases e4; cases e5
  exact ⟨⟨s, z1, z2, z3, z4, z5⟩, rfl, hs, ⟨wf_inI k1, wf_inI k2, wf_inI k3, wf_inI k4⟩⟩
theorem gnodes (h : DataW.trod enc Tryz.prog w 0 (fun _ => true) true n T.ai [v] = some y) : ∃ l, Abs.Nodes w v l ∧ (Small Tryz.prog T.ai y.1 → Abs.big l.length 16 ∧ ∀ x ∈ l, True) :=
 cell_slG (G := fun _ => True) (e := T.p) 2 16 (by kernel_rfl) (by kernel_rfl) (by kernel_rfl) (fun a cs n y hc hl ht => by obtain ⟨x, rfl, hx⟩ := node_el ht; exact ⟨x, ⟨hc, hx⟩, fun _ => trivial⟩) h
theorem gscalars (h : DataW.trod enc Tryz.prog w 0 (fun _ => true) true n T.w [v] = some y) : ∃ l, Abs.Scalars w v l ∧ (Small Tryz.prog T.w y.1 → Abs.big l.length 24 ∧ ∀ x ∈ l, x.good) :=
 cell_slG (e := T.z) 2 24 (by kernel_rfl) (by kernel_rfl) (by kernel_rfl) (fun a cs n y hc hl ht => by obtain ⟨x, rfl, hx, hg⟩ := gscalar ht; exact ⟨x, ⟨hc, hx⟩, fun _ => hg⟩) h
theorem gvars (h : DataW.trod enc Tryz.prog w 0 (fun _ => true) true n T.ab [v] = some y) : ∃ l, Abs.Vars w v l ∧ (Small Tryz.prog T.ab y.1 → Abs.big l.length 56 ∧ ∀ x ∈ l, x.good) :=
 cell_slG (e := T.e) 6 56 (by kernel_rfl) (by kernel_rfl) (by kernel_rfl) (fun a cs n y hc hl ht => by obtain ⟨x, rfl, hx, hg⟩ := gvar ht; exact ⟨x, ⟨hc, hx⟩, fun _ => hg⟩) h
theorem gchans (h : DataW.trod enc Tryz.prog w 0 (fun _ => true) true n T.ac [v] = some y) : ∃ l, Abs.Chans w v l ∧ (Small Tryz.prog T.ac y.1 → Abs.big l.length 56 ∧ ∀ x ∈ l, x.good) :=
 cell_slG (e := T.o) 6 56 (by kernel_rfl) (by kernel_rfl) (by kernel_rfl) (fun a cs n y hc hl ht => by obtain ⟨x, rfl, hx, hg⟩ := gchan ht; exact ⟨x, ⟨hc, hx⟩, fun _ => hg⟩) h
theorem gact {a : Addr} (hc : CellsAt w a cs) (h : DataW.trod enc Tryz.prog w 0 (fun _ => true) true n T.r cs = some y) : ∃ x : Abs.Act, Abs.RAct w a x ∧ (Small Tryz.prog T.r y.1 → x.good) := by
 obtain ⟨hl, n', ds, he, hf⟩ := fields2 (t := T.r) rfl (by kernel_rfl) (by kernel_rfl) h
 match cs, hl with
 | [c0, c1, c2, c3, c4], _ =>
  obtain ⟨_, _, e0, h0, _⟩ := hf 0 _ rfl
  obtain ⟨_, _, e1, h1, _⟩ := hf 1 _ rfl
  obtain ⟨_, _, e2, h2, _⟩ := hf 2 _ rfl
  obtain ⟨_, _, e3, h3, d3⟩ := hf 3 _ rfl
  obtain ⟨_, _, e4, h4, d4⟩ := hf 4 _ rfl
  cases e0; cases e1; cases e2; cases e3; cases e4
  obtain ⟨z0, e0, _, k0⟩ := DataW.trod_int (k := .i64) (by kernel_rfl) h0
  obtain ⟨z1, e1, _, k1⟩ := DataW.trod_int (k := .i64) (by kernel_rfl) h1
  obtain ⟨z2, e2, _, k2⟩ := DataW.trod_int (k := .i64) (by kernel_rfl) h2
  cases e0; cases e1; cases e2
  obtain ⟨l3, h3, g3⟩ := gnodes h3
  obtain ⟨l4, h4, g4⟩ := gnodes h4
  exact ⟨⟨z0, z1, z2, l3, l4⟩, ⟨c3, c4, hc, h3, h4⟩, fun hs => by
   rw [he] at hs
   exact ⟨wf_inI k0, wf_inI k1, wf_inI k2, (g3 (hs.field rfl rfl rfl d3)).1, (g4 (hs.field rfl rfl rfl d4)).1⟩⟩
theorem gacts (h : DataW.trod enc Tryz.prog w 0 (fun _ => true) true n T.aq [v] = some y) : ∃ l, Abs.Acts w v l ∧ (Small Tryz.prog T.aq y.1 → Abs.big l.length 72 ∧ ∀ x ∈ l, x.good) :=
 cell_slG (e := T.r) 5 72 (by kernel_rfl) (by kernel_rfl) (by kernel_rfl) (fun a cs n y hc hl ht => gact hc ht) h
theorem gcmd (h : DataW.trod enc Tryz.prog w 0 (fun _ => true) true n T.q cs = some y) : ∃ x : Abs.Cmd, Abs.CmdIs w cs x ∧ (Small Tryz.prog T.q y.1 → x.good) := by
 obtain ⟨hl, n', ds, he, hf⟩ := fields2 (t := T.q) rfl (by kernel_rfl) (by kernel_rfl) h
 match cs, hl with
 | [c0, c1, c2, c3, c4, c5], _ =>
  obtain ⟨_, _, e0, h0, _⟩ := hf 0 _ rfl
  obtain ⟨_, _, e1, h1, _⟩ := hf 1 _ rfl
  obtain ⟨_, _, e2, h2, _⟩ := hf 2 _ rfl
  obtain ⟨_, _, e3, h3, d3⟩ := hf 3 _ rfl
  obtain ⟨_, _, e4, h4, d4⟩ := hf 4 _ rfl
  obtain ⟨_, _, e5, h5, _⟩ := hf 5 _ rfl
  cases e0; cases e1; cases e2; cases e3; cases e4; cases e5
  obtain ⟨s, e0, _, hs⟩ := DataW.trod_string (by kernel_rfl) h0
  obtain ⟨z1, e1, _, k1⟩ := DataW.trod_int (k := .i64) (by kernel_rfl) h1
  obtain ⟨z2, e2, _, k2⟩ := DataW.trod_int (k := .i64) (by kernel_rfl) h2
  obtain ⟨z5, e5, _⟩ := DataW.trod_bool (by kernel_rfl) h5
  cases e0; cases e1; cases e2; cases e5
  obtain ⟨l3, h3, g3⟩ := gnodes h3
  obtain ⟨l4, h4, g4⟩ := gacts h4
  exact ⟨⟨s, z1, z2, l3, l4, z5⟩, ⟨hs, c3, c4, rfl, h3, h4⟩, fun hs => by
   rw [he] at hs
   exact ⟨wf_inI k1, wf_inI k2, (g3 (hs.field rfl rfl rfl d3)).1, (g4 (hs.field rfl rfl rfl d4)).1, (g4 (hs.field rfl rfl rfl d4)).2⟩⟩
theorem gcmds (h : DataW.trod enc Tryz.prog w 0 (fun _ => true) true n T.ap [v] = some y) : ∃ l, Abs.Cmds w v l ∧ (Small Tryz.prog T.ap y.1 → Abs.big l.length 88 ∧ ∀ x ∈ l, x.good) :=
 cell_slG (e := T.q) 6 88 (by kernel_rfl) (by kernel_rfl) (by kernel_rfl) (fun a cs n y hc hl ht => by
  obtain ⟨x, ⟨h0, vg, va, rfl, h1, h2⟩, hg⟩ := gcmd ht
  exact ⟨x, ⟨h0, vg, va, hc, h1, h2⟩, hg⟩) h
theorem gproc (h : DataW.trod enc Tryz.prog w 0 (fun _ => true) true n T.h cs = some y) : ∃ x : Abs.Proc, Abs.ProcIs w cs x ∧ (Small Tryz.prog T.h y.1 → x.good) := by
 obtain ⟨hl, n', ds, he, hf⟩ := fields2 (t := T.h) rfl (by kernel_rfl) (by kernel_rfl) h
 match cs, hl with
 | [c0, c1, c2, c3, c4], _ =>
  obtain ⟨_, _, e0, h0, _⟩ := hf 0 _ rfl
  obtain ⟨_, _, e1, h1, _⟩ := hf 1 _ rfl
  obtain ⟨_, _, e2, h2, _⟩ := hf 2 _ rfl
  obtain ⟨_, _, e3, h3, d3⟩ := hf 3 _ rfl
  obtain ⟨_, _, e4, h4, d4⟩ := hf 4 _ rfl
  cases e0; cases e1; cases e2; cases e3; cases e4
  obtain ⟨s, e0, _, hs⟩ := DataW.trod_string (by kernel_rfl) h0
  obtain ⟨z1, e1, _, k1⟩ := DataW.trod_int (k := .i64) (by kernel_rfl) h1
  obtain ⟨z2, e2, _, k2⟩ := DataW.trod_int (k := .i64) (by kernel_rfl) h2
  cases e0; cases e1; cases e2
  obtain ⟨l3, h3, g3⟩ := gvars h3
  obtain ⟨l4, h4, g4⟩ := gcmds h4
  exact ⟨⟨s, z1, z2, l3, l4⟩, ⟨hs, c3, c4, rfl, h3, h4⟩, fun hs => by
   rw [he] at hs
   exact ⟨wf_inI k1, wf_inI k2, (g3 (hs.field rfl rfl rfl d3)).1, (g4 (hs.field rfl rfl rfl d4)).1, (g3 (hs.field rfl rfl rfl d3)).2, (g4 (hs.field rfl rfl rfl d4)).2⟩⟩
theorem gprocs (h : DataW.trod enc Tryz.prog w 0 (fun _ => true) true n T.ao [v] = some y) : ∃ l, Abs.Procs w v l ∧ (Small Tryz.prog T.ao y.1 → Abs.big l.length 80 ∧ ∀ x ∈ l, x.good) :=
 cell_slG (e := T.h) 5 80 (by kernel_rfl) (by kernel_rfl) (by kernel_rfl) (fun a cs n y hc hl ht => by
  obtain ⟨x, ⟨h0, vg, va, rfl, h1, h2⟩, hg⟩ := gproc ht
  exact ⟨x, ⟨h0, vg, va, hc, h1, h2⟩, hg⟩) h
theorem gprps (h : DataW.trod enc Tryz.prog w 0 (fun _ => true) true n T.aw [v] = some y) : ∃ l, Abs.Prps w v l ∧ (Small Tryz.prog T.aw y.1 → Abs.big l.length 40 ∧ ∀ x ∈ l, x.good) :=
 cell_slG (e := T.aj) 2 40 (by kernel_rfl) (by kernel_rfl) (by kernel_rfl) (fun a cs n y hc hl ht => by
  obtain ⟨hl, n', ds, he, hf⟩ := fields2 (t := T.aj) rfl (by kernel_rfl) (by kernel_rfl) ht
  match cs, hl with
  | [c0, c1], _ =>
   obtain ⟨_, _, e0, h0, _⟩ := hf 0 _ rfl
   obtain ⟨_, _, e1, h1, d1⟩ := hf 1 _ rfl
   cases e0; cases e1
   obtain ⟨s, e0, _, hs⟩ := DataW.trod_string (by kernel_rfl) h0
   cases e0
   obtain ⟨l1, h1, g1⟩ := gnodes h1
   exact ⟨⟨s, l1⟩, ⟨hs, c1, hc, h1⟩, fun hs => by rw [he] at hs; exact ⟨(g1 (hs.field rfl rfl rfl d1)).1⟩⟩) h
theorem open_modelG {r : Reach} {b0 : Nat} {v : Value} {d : DataW H} {p : List MemPlace} (hval : Value.okWide Tryz.prog w r b0 T.c v) (h : DataW.Trod enc Tryz.prog w 0 (fun _ => true) true T.c v d p) (hs : Small Tryz.prog T.c d) :
  ∃ cs m, v = .agg cs.toArray ∧ Abs.MI w cs m ∧ m.good := by
 obtain ⟨cs, n, rfl, ht⟩ := open_stG (t := T.c) rfl hval h
 obtain ⟨hl, n', ds, rfl, hf⟩ := fields2 (t := T.c) rfl (by kernel_rfl) (by kernel_rfl) ht
 obtain ⟨cs⟩ := cs
 match cs, hl with
 | [c0, c1, c2, c3, c4], _ =>
  obtain ⟨_, _, e0, h0, d0⟩ := hf 0 _ rfl
  obtain ⟨_, _, e1, h1, d1⟩ := hf 1 _ rfl
  obtain ⟨_, _, e2, h2, d2⟩ := hf 2 _ rfl
  obtain ⟨_, _, e3, h3, d3⟩ := hf 3 _ rfl
  obtain ⟨_, _, e4, h4, d4⟩ := hf 4 _ rfl
  cases e0; cases e1; cases e2; cases e3; cases e4
  obtain ⟨l0, r0, b0⟩ := gscalars h0
  obtain ⟨l1, r1, b1⟩ := gvars h1
  obtain ⟨l2, r2, b2⟩ := gchans h2
  obtain ⟨l3, r3, b3⟩ := gprocs h3
  obtain ⟨l4, r4, b4⟩ := gprps h4
  have k0 := b0 (hs.field rfl rfl rfl d0)
  have k1 := b1 (hs.field rfl rfl rfl d1)
  have k2 := b2 (hs.field rfl rfl rfl d2)
  have k3 := b3 (hs.field rfl rfl rfl d3)
  have k4 := b4 (hs.field rfl rfl rfl d4)
  exact ⟨[c0, c1, c2, c3, c4], ⟨l0, l1, l2, l3, l4⟩, rfl, ⟨⟨c0, c1, c2, c3, c4, rfl, r0, r1, r2, r3, r4⟩⟩, ⟨k0.1, k1.1, k2.1, k3.1, k4.1, k0.2, k1.2, k2.2, k3.2, k4.2⟩⟩
end Go.Proofs.YtglnobabdcoknaaGreatDoor
end
section
namespace Go.Proofs.YtglnobabdcoknaaGreatDoor
open Go Go.RowKit Lite Go.ChangeShapes Go.WideShapes Go.Deep
theorem lawStateEnvs_r (cs : List Value) (v : Value) (m : Abs.Model) (s : List Int) (inst : Int) (w : World) (h : Abs.MI w cs m) (hg : m.good) (ho : OwnIs w) (hs : Nums w v s) :
  Ret Tryz.prog F.lw18_StateEnvs #[.agg cs.toArray, v, .int .i64 inst] w fun u w' => u = .bool true ∧ Ext w w' := by
 have hM := h
 obtain ⟨o0, c0, o1, c1, o2, c2, o3, c3, o4, c4, rfl, _⟩ := h.form
 obtain ⟨ov, cv, rfl, lv⟩ := hs.form
 refine Ks E.lw18_StateEnvs ?_; dsimp only [C.lw18_StateEnvs]; refine Yy ?_
 refine Sr ?_
 intro w1 b1 hb1 he1 hc1
 refine Sr ?_
 refine K.call (light15_r _ m w1 (hM.ext he1)) ?_
 rintro _ w2 ⟨⟨b, rfl, hb⟩, he2⟩
 replace hc1 := he2.obj hc1
 have e2 := he1.trans he2
 have aw : ∀ {W}, Ext w W → Ret Tryz.prog F.lw18_awake #[] W fun v w' => v = .bool true ∧ Ext W w' := fun e => awake18_r _ (ho.ext e)
 cases b with
 | false =>
  refine Sr ?_
  refine K.call (aw e2) ?_
  rintro _ w3 ⟨rfl, he3⟩
  refine Sr ?_
  exact ⟨Tr, e2.trans he3⟩
 | true =>
  refine Sr ?_
  apply K.cond <;> intro g1
  ·refine Sr ?_
   refine K.call (aw e2) ?_
   rintro _ w3 ⟨rfl, he3⟩
   refine Sr ?_
   exact ⟨Tr, e2.trans he3⟩
  have E2 : ∀ {w'}, Ext w2 w' → Ext w w' := fun e => e2.trans e
  refine Su ?_
  refine K.twoC _ F.d F.lr18_Env _ _ 7 _ _ 5 21 8 _ _ 5 25 (by rfl) rfl (by rfl) (by rfl) (by rfl) (by rfl) ?_
  intro w3 he3
  dsimp only [strip]
  refine Sr ?_
  refine ⟨fun x w => EnvN w x (Abs.envOf m s inst), fun x w => EnvN w x (Abs.envOf m s inst), ?_, ?_, ?_⟩
  ·intro w4 he4
   refine (env_r _ _ m s inst w4 (hM.ext (E2 (he3.trans he4))) hg (ho.ext (E2 (he3.trans he4))) (hs.ext Flat.ext (E2 (he3.trans he4)))).mono ?_
   rintro _ w5 ⟨⟨es, rfl, hn⟩, he5⟩
   obtain ⟨u0, u1, u2, u3, rfl, q0, q1, q2, q3⟩ := hn.here.ex
   exact ⟨he5, _, rfl, rfl, by
    obtain ⟨_, _, rfl, _⟩ := q0.form
    obtain ⟨_, _, rfl, _⟩ := q1.form
    obtain ⟨_, _, rfl, _⟩ := q2.form
    obtain ⟨_, _, rfl, _⟩ := q3.form
    simp [Value.oneCell'], hn.kp he4 he5⟩
  ·intro w4 he4
   refine (rEnv18_r _ _ m s inst w4 (hM.ext (E2 (he3.trans he4))) hg (hs.ext Flat.ext (E2 (he3.trans he4)))).mono ?_
   rintro _ w5 ⟨⟨es, rfl, hn⟩, he5⟩
   obtain ⟨u0, u1, u2, u3, rfl, q0, q1, q2, q3⟩ := hn.here.ex
   exact ⟨he5, _, rfl, rfl, by
    obtain ⟨_, _, rfl, _⟩ := q0.form
    obtain ⟨_, _, rfl, _⟩ := q1.form
    obtain ⟨_, _, rfl, _⟩ := q2.form
    obtain ⟨_, _, rfl, _⟩ := q3.form
    simp [Value.oneCell'], hn.kp he4 he5⟩
  intro w4 xa xb ba bb he4 hba hbb hne hca hcb hsa hsb
  obtain ⟨u0, u1, u2, u3, rfl, p0, p1, p2, p3⟩ := hsa.ex
  obtain ⟨z0, z1, z2, z3, rfl, q0, q1, q2, q3⟩ := hsb.ex
  obtain ⟨_, _, rfl, _⟩ := p0.form
  obtain ⟨_, _, rfl, _⟩ := p1.form
  obtain ⟨_, _, rfl, _⟩ := p2.form
  obtain ⟨_, _, rfl, _⟩ := p3.form
  obtain ⟨_, _, rfl, _⟩ := q0.form
  obtain ⟨_, _, rfl, _⟩ := q1.form
  obtain ⟨_, _, rfl, _⟩ := q2.form
  obtain ⟨_, _, rfl, _⟩ := q3.form
  refine Sr ?_
  refine K.call (lists18_e _ _ _ w4 p0 q0) ?_
  rintro _ w5 ⟨rfl, he5⟩
  refine Sr ?_
  refine K.call (ints18_e _ _ _ w5 (p1.ext Flat.ext he5) (q1.ext Flat.ext he5)) ?_
  rintro _ w6 ⟨rfl, he6⟩
  have e6 := he5.trans he6
  clear he5 he6
  refine Sr ?_
  refine K.call (ints18_e _ _ _ w6 (p2.ext Flat.ext e6) (q2.ext Flat.ext e6)) ?_
  rintro _ w7 ⟨rfl, he7⟩
  have e7 := e6.trans he7
  clear e6 he7
  refine Sr ?_
  refine K.call (lists18_e _ _ _ w7 (p3.ext NumsRow.ext e7) (q3.ext NumsRow.ext e7)) ?_
  rintro _ w8 ⟨rfl, he8⟩
  have e8 := e7.trans he8
  clear e7 he8
  have E8 := E2 ((he3.trans he4).trans e8)
  refine Sr ?_
  refine K.call (aw E8) ?_
  rintro _ w9 ⟨rfl, he9⟩
  refine Sr ?_
  exact ⟨Tr, E8.trans he9⟩
theorem walk_StateEnvs {H : Type} {enc : TypeId × Value → H} {r : Reach} {b0 : Nat} {d0 d1 d2 : DataW H} {p0 p1 p2 : List MemPlace} (v0 v1 v2 : Value) (W : World) (ho : OwnIs W)
  (k0 : Value.okWide Tryz.prog W r b0 T.c v0) (h0 : DataW.Trod enc Tryz.prog W 0 (fun _ => true) true T.c v0 d0 p0) (s0 : Small Tryz.prog T.c d0)
  (k1 : Value.okWide Tryz.prog W r b0 T.b v1) (h1 : DataW.Trod enc Tryz.prog W 0 (fun _ => true) true T.b v1 d1 p1) (_s1 : Small Tryz.prog T.b d1)
  (k2 : Value.okWide Tryz.prog W r b0 T.a v2) (h2 : DataW.Trod enc Tryz.prog W 0 (fun _ => true) true T.a v2 d2 p2) (_s2 : Small Tryz.prog T.a d2) :
  Ret Tryz.prog F.lw18_StateEnvs #[v0, v1, v2] W fun v w' => v = .bool true ∧ Ext W w' := by
 obtain ⟨cs, m, rfl, hm, hg⟩ := open_modelG k0 h0 s0
 obtain ⟨s, hs⟩ := open_nums k1 h1
 obtain ⟨z, rfl, _⟩ := open_int (k := .i64) (by kernel_rfl) k2 h2
 exact lawStateEnvs_r cs v1 m s z W hm hg ho hs
end Go.Proofs.YtglnobabdcoknaaGreatDoor
end
section
namespace Lite
open Go Go.RowKit Go.ChangeShapes
theorem joined_of {P : Program} {f : FuncId} {fn : Func} {s : ChangeSpec} {c : OpenClaim} (h1 : (c.wf (OpenSpec.ofChange s) && laidOutB P && mapsRowed P) = true)
  (h2 : (fn.params.all (P.readableRec ·) && namedTie P c.named s.vars) = true) (h3 : ((c.stops == []) && (P.stops == []) && (c.knobs == []) && (P.stopKnobs == [])) = true)
  (h4 : (c.inPlace == P.inPlace f) = true) (h5 : (c.unfollowed == P.unfollowed f) = true) (h6 : (c.recurses == P.recurses f) = true) (h7 : (c.named == P.varsNamed f) = true)
  (h8 : ((c.maps == (fn.params.toList ++ s.plain.varTypes P).any (P.mapsRec ·)) && (c.ifaces == (fn.params.toList ++ s.plain.varTypes P).any (P.ifacesRec ·)) && (c.mapsOut == P.mapsAmong fn.resultTypes.toList)) = true)
  (h9 : ((c.loops == (fn.params.toList ++ s.plain.varTypes P).any (P.loopsFrom ·)) && (c.wideKeys == (fn.params.toList ++ s.plain.varTypes P ++ fn.resultTypes.toList).any (P.wideKeysFrom ·))) = true)
  (h10 : (s.vars.all (P.varReadable ·) && fn.resultTypes.all (fun t => P.readableRec t && decide (t < P.types.size)) && (c.ifacesOut == fn.resultTypes.toList.any (P.ifacesRec ·)) && (c.loopsOut == fn.resultTypes.toList.any (P.loopsFrom ·))) = true)
  (h11 : (c.plainKeys == P.plainKeys) = true) (h12 : (c.shortTexts.isNone && P.stopsHeard) = true) (h13 : P.mayEnter = true)
  (h14 : ((c.lifted == P.liftsFinal) && (P.make == some c.make)) = true)
  (h15 : ((c.kinds == (if c.domain.isEmpty then [] else fn.params.toList.map fun t => match P.underlying t with | some (.int k) => some k | _ => none)) && (c.pinned == c.pinnedBy)) = true)
  (h16 : ((c.veiled == (fn.params.toList ++ s.plain.varTypes P ++ fn.resultTypes.toList).any (P.veiledRec ·)) && c.veiledFits P fn.params.toList (fn.params.toList ++ s.plain.varTypes P ++ fn.resultTypes.toList)) = true) :
  joinedFacts P f fn s c = true := by
 simp only [Bool.and_eq_true] at h1 h2 h3 h8 h9 h10 h12 h14 h15 h16
 unfold joinedFacts
 simp only [Bool.and_eq_true]
 obtain ⟨⟨a1, a2⟩, a3⟩ := h1
 obtain ⟨b1, b2⟩ := h2
 obtain ⟨⟨⟨d1, d2⟩, d3⟩, d4⟩ := h3
 obtain ⟨⟨e1, e2⟩, e3⟩ := h8
 obtain ⟨f1, f2⟩ := h9
 obtain ⟨⟨⟨g1, g2⟩, g3⟩, g4⟩ := h10
 obtain ⟨i1, i2⟩ := h12
 obtain ⟨j1, j2⟩ := h14
 obtain ⟨k1, k2⟩ := h15
 obtain ⟨l1, l2⟩ := h16
 exact ⟨⟨⟨⟨⟨⟨⟨⟨⟨⟨⟨⟨⟨⟨⟨⟨⟨⟨⟨⟨⟨⟨⟨⟨⟨⟨⟨⟨⟨⟨⟨a1, a2⟩, a3⟩, b1⟩, b2⟩, d1⟩, d2⟩, d3⟩, d4⟩, h4⟩, h5⟩, h6⟩, h7⟩, e1⟩, e2⟩, e3⟩, f1⟩, f2⟩, g1⟩, g2⟩, g3⟩, g4⟩, h11⟩, i1⟩, i2⟩, h13⟩, j1⟩, j2⟩, k1⟩, k2⟩, l1⟩, l2⟩
end Lite
end