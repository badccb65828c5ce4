/- Texts joined: ReaO Open1 Open5 ReaZ LiteQ. -/
import Derived.Test.YtglnobabdcoknaaGreatDoorQrdxc
import Derived.Test.YtglnobabdcoknaaGreatDoorQrdxd
import Derived.Test.YtglnobabdcoknaaGreatDoorQrdxf
import Derived.Test.YtglnobabdcoknaaGreatDoorQrdxg
import Derived.Test.YtglnobabdcoknaaGreatDoorQrdxj
import Derived.Test.YtglnobabdcoknaaGreatDoorQrdxn
import Derived.SizedLaws
import Derived.JoinedCond
set_option linter.all false
set_option maxRecDepth 8000
set_option maxHeartbeats 16000000
section
namespace Go.Proofs.R
open Go Go.RowKit Lite
theorem lawReadsOf_r (cs : List Value) (m : Abs.Model) (ref : Int) (w : World) (h : Abs.MI w cs m) (hg : m.good) (ho : OwnIs w) :
  Ret Tryz.prog F.lw41_ReadsOf #[.agg cs.toArray, .int .i64 ref] w fun v w' => v = .bool true ∧ Ext w w' := by
 have hM := h
 obtain ⟨o0, c0, o1, c1, o2, c2, o3, c3, o4, c4, rfl, _⟩ := h.form
 refine Ks E.lw41_ReadsOf ?_; dsimp only [C.lw41_ReadsOf]; refine Yy ?_
 refine Sr ?_
 intro w1 b1 hb1 he1 hc1
 refine Sr ?_
 refine K.call (heavy_r _ m w1 (hM.ext he1)) ?_
 rintro _ w2 ⟨hv, he2⟩
 replace hc1 := he2.obj hc1
 have e2 := he1.trans he2
 rcases hv with rfl | ⟨rfl, hH⟩
 ·refine Sr ?_
  refine K.call (rworks_r w2 (ho.ext e2)) ?_
  rintro _ w3 ⟨rfl, he3⟩
  refine Sr ?_
  exact ⟨Tr, e2.trans he3⟩
 refine Sr ?_
 refine K.call (Of_r _ m ref w2 (hM.ext e2) hg (ho.ext e2)) ?_
 rintro _ w3 ⟨⟨va, vb, a, b, rfl, na, nb, hR⟩, he3⟩
 replace hc1 := he3.obj hc1
 have e3 := e2.trans he3
 refine Sr ?_
 refine K.call (rOf_r _ m ref w3 (hM.ext e3) hg) ?_
 rintro _ w4 ⟨⟨vc, vd, c, d, rfl, nc, nd, hR'⟩, he4⟩
 replace hc1 := he4.obj hc1
 have e4 := e3.trans he4
 obtain ⟨rfl, rfl⟩ := hR.eq hR'
 replace na := na.ext Flat.ext he4
 replace nb := nb.ext Flat.ext he4
 obtain ⟨oa, ca, rfl, _⟩ := na.form
 obtain ⟨ob, cb, rfl, _⟩ := nb.form
 obtain ⟨oc, cc, rfl, _⟩ := nc.form
 obtain ⟨od, cd, rfl, _⟩ := nd.form
 refine Sr ?_
 intro w5 he5
 replace hc1 := he5.obj hc1
 have e5 := e4.trans he5
 refine Sr ?_
 refine K.call (leq_r _ _ _ _ w5 (na.ext Flat.ext he5) (nc.ext Flat.ext he5)) ?_
 rintro _ w6 ⟨⟨t, rfl, ht⟩, he6⟩
 obtain rfl := ht.2 rfl
 have e6 := e5.trans he6
 refine ⟨he6, ?_⟩
 refine Sr ?_
 refine K.call (leq_r _ _ _ _ w6 (nb.ext Flat.ext (he5.trans he6)) (nd.ext Flat.ext (he5.trans he6))) ?_
 rintro _ w7 ⟨⟨t, rfl, ht⟩, he7⟩
 obtain rfl := ht.2 rfl
 have e7 := e6.trans he7
 refine ⟨he6.trans he7, ?_⟩
 refine Sr ?_
 refine K.call (Guard_r _ m ref w7 (hM.ext e7) hg (ho.ext e7)) ?_
 rintro _ w8 ⟨⟨g, ng, hG⟩, he8⟩
 obtain ⟨og, cg, rfl, _⟩ := ng.form
 have e8 := e7.trans he8
 refine ⟨(he6.trans he7).trans he8, ?_⟩
 refine Sr ?_
 refine K.call (rGuard_r _ m ref w8 (hM.ext e8) hg) ?_
 rintro _ w9 ⟨⟨g', ng', hG'⟩, he9⟩
 obtain ⟨og', cg', rfl, _⟩ := ng'.form
 have e9 := e8.trans he9
 obtain rfl := hG.eq hG'
 refine Sr ?_
 refine K.call (leq_r _ _ _ _ w9 (ng.ext Flat.ext he9) ng') ?_
 rintro _ w10 ⟨⟨t, rfl, ht⟩, he10⟩
 obtain rfl := ht.2 rfl
 have e10 := e9.trans he10
 refine Sr ?_
 refine K.call (rworks_r w10 (ho.ext e10)) ?_
 rintro _ w11 ⟨rfl, he11⟩
 refine Sr ?_
 exact ⟨Tr, e10.trans he11⟩
theorem lawReadsOwn_r (cs : List Value) (m : Abs.Model) (inst : Int) (w : World) (h : Abs.MI w cs m) (hg : m.good) (ho : OwnIs w) :
  Ret Tryz.prog F.lw41_ReadsOwn #[.agg cs.toArray, .int .i64 inst] w fun v w' => v = .bool true ∧ Ext w w' := by
 have hM := h
 obtain ⟨o0, c0, o1, c1, o2, c2, o3, c3, o4, c4, rfl, _⟩ := h.form
 refine Ks E.lw41_ReadsOwn ?_; dsimp only [C.lw41_ReadsOwn]; refine Yy ?_
 refine Sr ?_
 intro w1 b1 hb1 he1 hc1
 refine Sr ?_
 refine K.call (heavy_r _ m w1 (hM.ext he1)) ?_
 rintro _ w2 ⟨hv, he2⟩
 replace hc1 := he2.obj hc1
 have e2 := he1.trans he2
 rcases hv with rfl | ⟨rfl, hH⟩
 ·refine Sr ?_
  refine K.call (rworks_r w2 (ho.ext e2)) ?_
  rintro _ w3 ⟨rfl, he3⟩
  refine Sr ?_
  exact ⟨Tr, e2.trans he3⟩
 refine Sr ?_
 intro w3 he3
 replace hc1 := he3.obj hc1
 have e3 := e2.trans he3
 refine Sr ?_
 refine K.call (Own_r _ m inst w3 (hM.ext e3) hg (ho.ext e3)) ?_
 rintro _ w4 ⟨na, he4⟩
 obtain ⟨oa, ca, rfl, _⟩ := na.form
 have e4 := e3.trans he4
 refine ⟨he4, ?_⟩
 refine Sr ?_
 refine K.call (rOwn_r _ m inst w4 (hM.ext e4) hg) ?_
 rintro _ w5 ⟨nb, he5⟩
 obtain ⟨ob, cb, rfl, _⟩ := nb.form
 have e5 := e4.trans he5
 refine Sr ?_
 refine K.call (leq_r _ _ _ _ w5 (na.ext Flat.ext he5) nb) ?_
 rintro _ w6 ⟨⟨t, rfl, ht⟩, he6⟩
 obtain rfl := ht.2 rfl
 have e6 := e5.trans he6
 refine Sr ?_
 refine K.call (rworks_r w6 (ho.ext e6)) ?_
 rintro _ w7 ⟨rfl, he7⟩
 refine Sr ?_
 exact ⟨Tr, e6.trans he7⟩
theorem lawReadsParts_r (cs : List Value) (m : Abs.Model) (ref : Int) (w : World) (h : Abs.MI w cs m) (hg : m.good) (ho : OwnIs w) :
  Ret Tryz.prog F.lw41_ReadsParts #[.agg cs.toArray, .int .i64 ref] w fun v w' => v = .bool true ∧ Ext w w' := by
 have hM := h
 obtain ⟨o0, c0, o1, c1, o2, c2, o3, c3, o4, c4, rfl, _⟩ := h.form
 refine Ks E.lw41_ReadsParts ?_; dsimp only [C.lw41_ReadsParts]; refine Yy ?_
 refine Sr ?_
 intro w1 b1 hb1 he1 hc1
 refine Sr ?_
 refine K.call (heavy_r _ m w1 (hM.ext he1)) ?_
 rintro _ w2 ⟨hv, he2⟩
 replace hc1 := he2.obj hc1
 have e2 := he1.trans he2
 rcases hv with rfl | ⟨rfl, hH⟩
 ·refine Sr ?_
  refine K.call (rworks_r w2 (ho.ext e2)) ?_
  rintro _ w3 ⟨rfl, he3⟩
  refine Sr ?_
  exact ⟨Tr, e2.trans he3⟩
 refine Sr ?_
 refine K.call (Of_r _ m ref w2 (hM.ext e2) hg (ho.ext e2)) ?_
 rintro _ w3 ⟨⟨va, vb, a, b, rfl, na, nb, hR⟩, he3⟩
 replace hc1 := he3.obj hc1
 have e3 := e2.trans he3
 obtain ⟨oa, ca, rfl, _⟩ := na.form
 obtain ⟨ob, cb, rfl, _⟩ := nb.form
 refine Sr ?_
 refine K.call (Guard_r _ m ref w3 (hM.ext e3) hg (ho.ext e3)) ?_
 rintro _ w4 ⟨⟨g, ng, hG⟩, he4⟩
 obtain ⟨og, cg, rfl, lg⟩ := ng.form
 replace hc1 := he4.obj hc1
 have e4 := e3.trans he4
 replace na := na.ext Flat.ext he4
 replace nb := nb.ext Flat.ext he4
 refine Sr ?_
 refine K.call (refCheck_r _ m w4 (hM.ext e4) hg) ?_
 rintro _ w5 ⟨rfl, he5⟩
 replace hc1 := he5.obj hc1
 have e5 := e4.trans he5
 unfold faultV
 have none : ¬ Abs.Told m ref → a.length = 0 ∧ b.length = 0 ∧ g.length = 0 := fun hn => ⟨by rw [(hR.none hn).1]; rfl, by rw [(hR.none hn).2]; rfl, by rw [hG.none hn]; rfl⟩
 refine Sr ?_
 refine K.fld (v := .int .i64 (Abs.check m).why) rfl ?_
 refine Sr ?_
 refine K.cond (fun hk => ?_) (fun hk => ?_)
 rotate_left
 ·obtain ⟨la, lb, lg⟩ := none fun ht => hk ht.1
  refine Sr ?_
  refine K.call (rworks_r w5 (ho.ext e5)) ?_
  rintro _ w6 ⟨rfl, he6⟩
  refine Sr ?_
  exact ⟨Tr, e5.trans he6⟩
 refine Sr ?_
 apply K.cond <;> intro g1
 ·obtain ⟨la, lb, lg⟩ := none fun ht => by have := ht.2; omega
  refine Sr ?_
  refine K.call (rworks_r w5 (ho.ext e5)) ?_
  rintro _ w6 ⟨rfl, he6⟩
  refine Sr ?_
  exact ⟨Tr, e5.trans he6⟩
 have hMB := Abs.maybe_of hk
 have hL := hMB.lim
 have hrl := Abs.refs_len hL
 refine Sr ?_
 refine K.call (refRefs_r _ m w5 (hM.ext e5) hg hL) ?_
 rintro vr w6 ⟨hvr, he6⟩
 obtain ⟨orr, crr, rfl, _⟩ := hvr.form
 replace hc1 := he6.obj hc1
 have e6 := e5.trans he6
 clear hvr
 refine Sr ?_
 apply K.cond <;> intro g2
 ·obtain ⟨la, lb, lg⟩ := none fun ht => by have := ht.2; omega
  refine Sr ?_
  refine K.call (rworks_r w6 (ho.ext e6)) ?_
  rintro _ w7 ⟨rfl, he7⟩
  refine Sr ?_
  exact ⟨Tr, e6.trans he7⟩
 obtain ⟨r, rfl⟩ := Int.eq_ofNat_of_zero_le (show 0 ≤ ref by omega)
 obtain ⟨q, p, k, hC⟩ := Abs.cmd_at (m := m) (ref := r) ⟨hk, by omega, by omega⟩
 have hq := hC.at_.hi
 have hri : (Abs.refs m)[r].inst = (q : Int) := hC.at_.ri
 obtain ⟨hii, hie⟩ := Abs.iAt_get hq
 obtain ⟨ha, hb⟩ := hR.there q p k hC
 have hgr := hG.there q p k hC
 refine Sr ?_
 intro w7 he7
 replace hc1 := he7.obj hc1
 have e7 := e6.trans he7
 refine Sr ?_
 refine K.call (refLayOf_r _ m w7 (hM.ext e7) hg) ?_
 rintro _ w8 ⟨⟨ys, rfl, hLn⟩, he8⟩
 have hL8 := hLn.here
 rw [Abs.lay_ok hk] at hL8
 obtain ⟨x0, d0, x1, d1, x2, d2, x3, d3, x4, d4, rfl, r0, r1, r2, r3, r4⟩ := hL8.form
 obtain ⟨a2, rfl⟩ := r2.addr (by omega)
 have e8 := e7.trans he8
 clear hLn hL8 r0 r1 r3 r4
 refine ⟨he8, ?_⟩
 refine Sr ?_
 refine K.fld (v := .slice (some a2) (Abs.layout m).insts.length d2) rfl ?_
 refine Sr ?_
 refine K.call (refRefs_r _ m w8 (hM.ext e8) hg hL) ?_
 rintro vr w9 ⟨hvr, he9⟩
 obtain ⟨orr, crr, rfl, _⟩ := hvr.form
 have hR9 : SlR 2 (Flat Abs.Ref.enc) w9 (.slice orr (Abs.refs m).length crr) (Abs.refs m) := OwR.slF (enc := Abs.Ref.enc) (fun _ => rfl) hvr
 obtain ⟨ar, rfl⟩ := hR9.addr (by omega)
 have e9 := e8.trans he9
 have r29 := r2.ext Flat.ext he9
 clear hvr
 refine ⟨he8.trans he9, ?_⟩
 refine Sr ?_
 refine ⟨he8.trans he9, ?_⟩
 refine Sr ?_
 refine K.ian q (by rw [hri]) hii ?_
 refine Sr ?_
 refine ⟨he8.trans he9, ?_⟩
 refine Sr ?_
 have e79 := he8.trans he9
 have na9 := na.ext Flat.ext (((he5.trans he6).trans he7).trans e79)
 have nb9 := nb.ext Flat.ext (((he5.trans he6).trans he7).trans e79)
 have ng9 := ng.ext Flat.ext (((he5.trans he6).trans he7).trans e79)
 have hc9 := e79.obj hc1
 have hgl := (Abs.guard_sml hMB hC.inst hC.cin).len
 rw [hie]
 clear na nb ng hc1 r29 r2 hR9
 refine Sr ?_
 refine K.forG 9 g.length [2, 5, 6, 7, 8] (fun _ : Unit => []) () (fun _ _ W => Ext w9 W) hZq hZq (Ext.refl _) ?_
 rintro j _ S w10 hj he10
 have na10 := na9.ext Flat.ext he10
 have nb10 := nb9.ext Flat.ext he10
 have ng10 := ng9.ext Flat.ext he10
 have e10 := e9.trans he10
 refine Sr ?_
 apply K.cond <;> intro g3
 ·have hj2 : j < g.length := by omega
  obtain ⟨agg, rfl⟩ := ng9.addr (by omega)
  have hin : g[j] ∈ a := (ha.mem _).2 (Abs.guard_in ((hgr.mem _).1 (List.getElem_mem hj2)))
  refine Sr ?_
  refine K.call (contains1_r hmix E.n E.a8 _ _ g[j] w10 na10) ?_
  rintro _ w11 ⟨rfl, he11⟩
  rw [decide_eq_true hin]
  refine Sr ?_
  exact ⟨hj2, Tr, (), trivial, he10.trans he11⟩
 ·have m1 : (Abs.iAt m q : Int) ∈ g := (hgr.mem _).2 Abs.here_in
  have m2 : (Abs.iAt m q : Int) ∈ a := (ha.mem _).2 (Abs.guard_in Abs.here_in)
  have m3 : (Abs.iAt m q : Int) ∈ b := (hb.mem _).2 Abs.here_written
  refine Sr ?_
  refine K.call (contains1_r hmix E.n E.a8 _ _ _ w10 ng10) ?_
  rintro _ w11 ⟨rfl, he11⟩
  rw [decide_eq_true m1]
  refine Sr ?_
  refine K.call (contains1_r hmix E.n E.a8 _ _ _ w11 (na10.ext Flat.ext he11)) ?_
  rintro _ w12 ⟨rfl, he12⟩
  rw [decide_eq_true m2]
  have e12 := he11.trans he12
  refine Sr ?_
  refine K.call (contains1_r hmix E.n E.a8 _ _ _ w12 (nb10.ext Flat.ext e12)) ?_
  rintro _ w13 ⟨rfl, he13⟩
  rw [decide_eq_true m3]
  have e13 := e12.trans he13
  refine Sr ?_
  refine K.call (isSorted_r _ _ w13 (na10.ext Flat.ext e13) ha.sorted) ?_
  rintro _ w14 ⟨rfl, he14⟩
  have e14 := e13.trans he14
  refine Sr ?_
  refine K.call (isSorted_r _ _ w14 (nb10.ext Flat.ext e14) hb.sorted) ?_
  rintro _ w15 ⟨rfl, he15⟩
  have e15 := e14.trans he15
  refine Sr ?_
  refine K.call (rworks_r w15 (ho.ext (e10.trans e15))) ?_
  rintro _ w16 ⟨rfl, he16⟩
  refine Sr ?_
  exact ⟨Tr, (e10.trans e15).trans he16⟩
end Go.Proofs.R
end
section
namespace Lite
open Go Go.RowKit Go.ChangeShapes Go.WideShapes Go.Deep
section
variable {H : Type} {enc : TypeId × Value → H} {P : Program} {w : World} {base : Nat} {spare : Nat → Bool} {held : Bool}
theorem fields2 {t : TypeId} {fs : Array Field} {n : Nat} {cs : List Value} {y : DataW H × List MemPlace} (ht : P.underlying t = some (.struct fs)) (hone : oneCellFields P fs = true) (hC : P.cellsOf t = fs.size)
  (h : DataW.trod enc P w base spare held n t cs = some y) : cs.length = fs.size ∧ ∃ n' ds, y.1 = .agg ds ∧ ∀ (j : Nat) (f : Field), fs[j]? = some f → ∃ v z, cs[j]? = some v ∧ DataW.trod enc P w base spare held n' f.type [v] = some z ∧ ds[j]? = some z.1 := by
 obtain ⟨ys, n', hn', hy, hlen, hyl, hf⟩ := DataW.trod_struct ht h
 refine ⟨by omega, n', _, by rw [hy], fun j f hj => ?_⟩
 obtain ⟨ho, hk⟩ := hone_of hone j f hj
 have hjl : j < fs.size := (Array.getElem?_eq_some_iff.1 hj).1
 have hv : cs[j]? = some (cs[j]'(by omega)) := List.getElem?_eq_getElem (by omega)
 have h1 := hf j f hj
 rw [ho, hk] at h1
 have hone' : (cs.drop j).take 1 = [cs[j]'(by omega)] := by
  rw [List.drop_eq_getElem_cons (by omega)]
  rfl
 rw [hone', List.getElem?_eq_getElem (l := ys) (by omega)] at h1
 exact ⟨_, _, hv, h1, by rw [List.getElem?_map, List.getElem?_eq_getElem (by omega)]; rfl⟩
def Small (P : Program) (t : TypeId) (d : DataW H) : Prop := ∀ q ∈ d.weights P t, q ≤ reachBytes
theorem Small.field {t u : TypeId} {fs : Array Field} {ds : List (DataW H)} {j : Nat} {d : DataW H} {f : Field} (h : Small P t (.agg ds)) (ht : P.underlying t = some (.struct fs)) (hf : fs[j]? = some f) (hu : f.type = u) (hd : ds[j]? = some d) : Small P u d := by
 subst hu
 intro q hq
 refine h q ?_
 simp only [DataW.weights, ht]
 exact DataW.weights_mem_each (j := j) (by simp [hf]) hd q hq
end
end Lite
namespace Go.Proofs.R
open Go Go.RowKit Lite Go.ChangeShapes
variable {H : Type} {enc : TypeId × Value → H} {w : World} {cs : List Value} {n : Nat} {y : DataW H × List MemPlace} {v : Value}
theorem wf_inI {z : Int} (h : (Lit.int .i64 z).wf = true) : Abs.inI z := by
 simp only [Lit.wf, Bool.and_eq_true, decide_eq_true_eq] at h
 exact ⟨h.1, h.2⟩
theorem node_el (h : DataW.trod enc Tryz.prog w 0 (fun _ => true) true n T.n cs = some y) : ∃ x : Abs.Node, cs = x.enc ∧ x.ok := by
 obtain ⟨hl, n', ds, _, hf⟩ := fields2 (t := T.n) rfl (by kernel_rfl) (by kernel_rfl) h
 match cs, hl with
 | [c0, c1], _ =>
  obtain ⟨_, _, e0, h0, _⟩ := hf 0 _ rfl
  obtain ⟨_, _, e1, h1, _⟩ := hf 1 _ rfl
  cases e0; cases e1
  obtain ⟨z0, e0, _, k0⟩ := DataW.trod_int (k := .i64) (by kernel_rfl) h0
  obtain ⟨z1, e1, _, k1⟩ := DataW.trod_int (k := .i64) (by kernel_rfl) h1
  cases e0; cases e1
  exact ⟨⟨z0, z1⟩, rfl, wf_inI k0, wf_inI k1⟩
end Go.Proofs.R
end
section
namespace Lite
open Go Go.RowKit Go.ChangeShapes Go.WideShapes Go.Deep
section
variable {H : Type} {enc : TypeId × Value → H} {P : Program} {w : World} {base : Nat} {spare : Nat → Bool} {held : Bool}
theorem weights_mem_all {e : TypeId} : ∀ {ds : List (DataW H)} {d : DataW H}, d ∈ ds → ∀ n ∈ d.weights P e, n ∈ DataW.weightsAll P e ds
 | [], _, h => by cases h
 | x :: r, d, h => fun n hn => by
  simp only [DataW.weightsAll]
  rcases List.mem_cons.1 h with rfl | h
  ·exact List.mem_append_left _ hn
  ·exact List.mem_append_right _ (weights_mem_all h n hn)
theorem cell_slG {α : Type} {R : World → Addr → α → Prop} {G : α → Prop} {t e : TypeId} {v : Value} {n : Nat} {z : DataW H × List MemPlace} (sz B : Nat) (ht : P.underlying t = some (.slice e)) (hC : P.cellsOf e = sz) (hB : P.bytesOf e = B)
  (hR : ∀ (a : Addr) (cs : List Value) (n : Nat) (y : DataW H × List MemPlace), CellsAt w a cs → cs.length = sz → DataW.trod enc P w 0 (fun _ => true) true n e cs = some y → ∃ x, R w a x ∧ (Small P e y.1 → G x))
  (h : DataW.trod enc P w 0 (fun _ => true) true n t [v] = some z) : ∃ xs, SlR sz R w v xs ∧ (Small P t z.1 → Abs.big xs.length B ∧ ∀ x ∈ xs, G x) := by
 rcases open_slice ht h with ⟨hcs, _⟩ | ⟨a, len, cap, m, n, D, Pl, hcs, hb, hl, hm, hmm, hx, hi⟩
 ·simp at hcs
  subst hcs
  exact ⟨[], SlR.nil, fun _ => ⟨by simp [Abs.big], fun x hx => by cases hx⟩⟩
 ·simp at hcs
  subst hcs
  simp only [if_true] at hmm
  subst hmm
  obtain ⟨xs, hxl, hxs⟩ := list_of len (fun i x => R w (a.add (i * sz)) x ∧ (Small P e (D i) → G x)) fun i hi' => by
   obtain ⟨cs', hc, ht'⟩ := hi i (by omega)
   rw [hC] at hc
   obtain ⟨_, hcl, hat⟩ := World.cells?_some hc
   refine hR _ cs' n _ (fun j u hj => ?_) hcl ht'
   have hjl' : j < sz := hcl ▸ (List.getElem?_eq_some_iff.1 hj).1
   rw [← hj]
   exact hat j hjl'
  refine ⟨xs, ⟨some a, _, by rw [hxl], by omega, hm, fun _ => rfl, fun a' ha i hi => by injection ha with ha; subst ha; exact (hxs i hi).1⟩, fun hs => ⟨?_, fun x hx' => ?_⟩⟩
  ·have h1 := hs ((len + (m - len)) * P.bytesOf e) (by rw [hx]; simp [DataW.weights, ht])
   have h2 : len * B ≤ (len + (m - len)) * P.bytesOf e := by rw [hB]; exact Nat.mul_le_mul_right _ (by omega)
   have h3 : reachBytes = 140737488351232 := rfl
   unfold Abs.big
   rw [hxl]
   omega
  ·obtain ⟨i, hi', rfl⟩ := List.mem_iff_getElem.1 hx'
   refine (hxs i hi').2 fun q hq => hs q ?_
   rw [hx]
   simp only [DataW.weights, ht]
   refine List.mem_cons_of_mem _ (List.mem_append_left _ (weights_mem_all ?_ q hq))
   exact List.mem_map.2 ⟨i, by simp; omega, rfl⟩
theorem open_stG {r : Reach} {b0 : Nat} {t : TypeId} {fs : Array Field} {v : Value} {d : DataW H} {p : List MemPlace} (ht : P.underlying t = some (.struct fs))
  (hval : Value.okWide P w r b0 t v) (h : DataW.Trod enc P w base spare held t v d p) : ∃ cs n, v = .agg cs ∧ DataW.trod enc P w base spare held n t cs.toList = some (d, p) := by
 obtain ⟨cs, rfl, hsz⟩ := okWide_struct ht hval
 obtain ⟨fuel, hf⟩ := h
 exact ⟨cs, fuel, rfl, hf⟩
end
end Lite
namespace Go.Proofs.R
open Go Go.RowKit Lite Go.ChangeShapes
variable {H : Type} {enc : TypeId × Value → H} {w : World} {cs : List Value} {n : Nat} {y : DataW H × List MemPlace} {v : Value}
theorem gscalar (h : DataW.trod enc Tryz.prog w 0 (fun _ => true) true n T.y cs = some y) : ∃ x : Abs.Scalar, cs = x.enc ∧ Abs.strOk x.name ∧ x.good := by
 obtain ⟨hl, n', ds, _, hf⟩ := fields2 (t := T.y) rfl (by kernel_rfl) (by kernel_rfl) h
 match cs, hl with
 | [c0, c1], _ =>
  obtain ⟨_, _, e0, h0, _⟩ := hf 0 _ rfl
  obtain ⟨_, _, e1, h1, _⟩ := hf 1 _ rfl
  cases e0; cases e1
  obtain ⟨s, e0, _, hs⟩ := DataW.trod_string (by kernel_rfl) h0
  obtain ⟨z, e1, _, k1⟩ := DataW.trod_int (k := .i64) (by kernel_rfl) h1
  cases e0; cases e1
  exact ⟨⟨s, z⟩, rfl, hs, ⟨wf_inI k1⟩⟩
theorem gvar (h : DataW.trod enc Tryz.prog w 0 (fun _ => true) true n T.f cs = some y) : ∃ x : Abs.Var, cs = x.enc ∧ Abs.strOk x.name ∧ x.good := by
 obtain ⟨hl, n', ds, _, hf⟩ := fields2 (t := T.f) rfl (by kernel_rfl) (by kernel_rfl) h
 match cs, hl with
 | [c0, c1, c2, c3, c4, c5], _ =>
  obtain ⟨_, _, e0, h0, _⟩ := hf 0 _ rfl
  obtain ⟨_, _, e1, h1, _⟩ := hf 1 _ rfl
  obtain ⟨_, _, e2, h2, _⟩ := hf 2 _ rfl
  obtain ⟨_, _, e3, h3, _⟩ := hf 3 _ rfl
  obtain ⟨_, _, e4, h4, _⟩ := hf 4 _ rfl
  obtain ⟨_, _, e5, h5, _⟩ := hf 5 _ rfl
  cases e0; cases e1; cases e2; cases e3; cases e4; cases e5
  obtain ⟨s, e0, _, hs⟩ := DataW.trod_string (by kernel_rfl) h0
  obtain ⟨z1, e1, _, k1⟩ := DataW.trod_int (k := .i64) (by kernel_rfl) h1
  obtain ⟨z2, e2, _, k2⟩ := DataW.trod_int (k := .i64) (by kernel_rfl) h2
  obtain ⟨z3, e3, _, k3⟩ := DataW.trod_int (k := .i64) (by kernel_rfl) h3
  obtain ⟨z4, e4, _, k4⟩ := DataW.trod_int (k := .i64) (by kernel_rfl) h4
  obtain ⟨z5, e5, _, k5⟩ := DataW.trod_int (k := .i64) (by kernel_rfl) h5
  cases e0; cases e1; cases e2; cases e3; cases e4; cases e5
  exact ⟨⟨s, z1, z2, z3, z4, z5⟩, rfl, hs, ⟨wf_inI k1, wf_inI k2, wf_inI k3, wf_inI k4, wf_inI k5⟩⟩
theorem gchan (h : DataW.trod enc Tryz.prog w 0 (fun _ => true) true n T.q cs = some y) : ∃ x : Abs.Chan, cs = x.enc ∧ Abs.strOk x.name ∧ x.good := by
 obtain ⟨hl, n', ds, _, hf⟩ := fields2 (t := T.q) rfl (by kernel_rfl) (by kernel_rfl) h
 match cs, hl with
 | [c0, c1, c2, c3, c4, c5], _ =>
  obtain ⟨_, _, e0, h0, _⟩ := hf 0 _ rfl
  obtain ⟨_, _, e1, h1, _⟩ := hf 1 _ rfl
  obtain ⟨_, _, e2, h2, _⟩ := hf 2 _ rfl
  obtain ⟨_, _, e3, h3, _⟩ := hf 3 _ rfl
  obtain ⟨_, _, e4, h4, _⟩ := hf 4 _ rfl
  obtain ⟨_, _, e5, h5, _⟩ := hf 5 _ rfl
  cases e0; cases e1; cases e2; cases e3; cases e4; cases e5
  obtain ⟨s, e0, _, hs⟩ := DataW.trod_string (by kernel_rfl) h0
  obtain ⟨z1, e1, _, k1⟩ := DataW.trod_int (k := .i64) (by kernel_rfl) h1
  obtain ⟨z2, e2, _, k2⟩ := DataW.trod_int (k := .i64) (by kernel_rfl) h2
  obtain ⟨z3, e3, _, k3⟩ := DataW.trod_int (k := .i64) (by kernel_rfl) h3
  obtain ⟨z4, e4, _, k4⟩ := DataW.trod_int (k := .i64) (by kernel_rfl) h4
  obtain ⟨z5, e5, _⟩ := DataW.trod_bool (by kernel_rfl) h5
  cases e0; cases e1; cases e2; cases e3; cases e4; cases e5
  exact ⟨⟨s, z1, z2, z3, z4, z5⟩, rfl, hs, ⟨wf_inI k1, wf_inI k2, wf_inI k3, wf_inI k4⟩⟩
theorem gnodes (h : DataW.trod enc Tryz.prog w 0 (fun _ => true) true n T.ag [v] = some y) : ∃ l, Abs.Nodes w v l ∧ (Small Tryz.prog T.ag y.1 → Abs.big l.length 16 ∧ ∀ x ∈ l, True) :=
 cell_slG (G := fun _ => True) (e := T.n) 2 16 (by kernel_rfl) (by kernel_rfl) (by kernel_rfl) (fun a cs n y hc hl ht => by obtain ⟨x, rfl, hx⟩ := node_el ht; exact ⟨x, ⟨hc, hx⟩, fun _ => trivial⟩) h
theorem gscalars (h : DataW.trod enc Tryz.prog w 0 (fun _ => true) true n T.w [v] = some y) : ∃ l, Abs.Scalars w v l ∧ (Small Tryz.prog T.w y.1 → Abs.big l.length 24 ∧ ∀ x ∈ l, x.good) :=
 cell_slG (e := T.y) 2 24 (by kernel_rfl) (by kernel_rfl) (by kernel_rfl) (fun a cs n y hc hl ht => by obtain ⟨x, rfl, hx, hg⟩ := gscalar ht; exact ⟨x, ⟨hc, hx⟩, fun _ => hg⟩) h
theorem gvars (h : DataW.trod enc Tryz.prog w 0 (fun _ => true) true n T.ab [v] = some y) : ∃ l, Abs.Vars w v l ∧ (Small Tryz.prog T.ab y.1 → Abs.big l.length 56 ∧ ∀ x ∈ l, x.good) :=
 cell_slG (e := T.f) 6 56 (by kernel_rfl) (by kernel_rfl) (by kernel_rfl) (fun a cs n y hc hl ht => by obtain ⟨x, rfl, hx, hg⟩ := gvar ht; exact ⟨x, ⟨hc, hx⟩, fun _ => hg⟩) h
theorem gchans (h : DataW.trod enc Tryz.prog w 0 (fun _ => true) true n T.ac [v] = some y) : ∃ l, Abs.Chans w v l ∧ (Small Tryz.prog T.ac y.1 → Abs.big l.length 56 ∧ ∀ x ∈ l, x.good) :=
 cell_slG (e := T.q) 6 56 (by kernel_rfl) (by kernel_rfl) (by kernel_rfl) (fun a cs n y hc hl ht => by obtain ⟨x, rfl, hx, hg⟩ := gchan ht; exact ⟨x, ⟨hc, hx⟩, fun _ => hg⟩) h
theorem gact {a : Addr} (hc : CellsAt w a cs) (h : DataW.trod enc Tryz.prog w 0 (fun _ => true) true n T.m cs = some y) : ∃ x : Abs.Act, Abs.RAct w a x ∧ (Small Tryz.prog T.m y.1 → x.good) := by
 obtain ⟨hl, n', ds, he, hf⟩ := fields2 (t := T.m) rfl (by kernel_rfl) (by kernel_rfl) h
 match cs, hl with
 | [c0, c1, c2, c3, c4], _ =>
  obtain ⟨_, _, e0, h0, _⟩ := hf 0 _ rfl
  obtain ⟨_, _, e1, h1, _⟩ := hf 1 _ rfl
  obtain ⟨_, _, e2, h2, _⟩ := hf 2 _ rfl
  obtain ⟨_, _, e3, h3, d3⟩ := hf 3 _ rfl
  obtain ⟨_, _, e4, h4, d4⟩ := hf 4 _ rfl
  cases e0; cases e1; cases e2; cases e3; cases e4
  obtain ⟨z0, e0, _, k0⟩ := DataW.trod_int (k := .i64) (by kernel_rfl) h0
  obtain ⟨z1, e1, _, k1⟩ := DataW.trod_int (k := .i64) (by kernel_rfl) h1
  obtain ⟨z2, e2, _, k2⟩ := DataW.trod_int (k := .i64) (by kernel_rfl) h2
  cases e0; cases e1; cases e2
  obtain ⟨l3, h3, g3⟩ := gnodes h3
  obtain ⟨l4, h4, g4⟩ := gnodes h4
  exact ⟨⟨z0, z1, z2, l3, l4⟩, ⟨c3, c4, hc, h3, h4⟩, fun hs => by
   rw [he] at hs
   exact ⟨wf_inI k0, wf_inI k1, wf_inI k2, (g3 (hs.field rfl rfl rfl d3)).1, (g4 (hs.field rfl rfl rfl d4)).1⟩⟩
theorem gacts (h : DataW.trod enc Tryz.prog w 0 (fun _ => true) true n T.ao [v] = some y) : ∃ l, Abs.Acts w v l ∧ (Small Tryz.prog T.ao y.1 → Abs.big l.length 72 ∧ ∀ x ∈ l, x.good) :=
 cell_slG (e := T.m) 5 72 (by kernel_rfl) (by kernel_rfl) (by kernel_rfl) (fun a cs n y hc hl ht => gact hc ht) h
theorem gcmd (h : DataW.trod enc Tryz.prog w 0 (fun _ => true) true n T.l cs = some y) : ∃ x : Abs.Cmd, Abs.CmdIs w cs x ∧ (Small Tryz.prog T.l y.1 → x.good) := by
 obtain ⟨hl, n', ds, he, hf⟩ := fields2 (t := T.l) rfl (by kernel_rfl) (by kernel_rfl) h
 match cs, hl with
 | [c0, c1, c2, c3, c4, c5], _ =>
  obtain ⟨_, _, e0, h0, _⟩ := hf 0 _ rfl
  obtain ⟨_, _, e1, h1, _⟩ := hf 1 _ rfl
  obtain ⟨_, _, e2, h2, _⟩ := hf 2 _ rfl
  obtain ⟨_, _, e3, h3, d3⟩ := hf 3 _ rfl
  obtain ⟨_, _, e4, h4, d4⟩ := hf 4 _ rfl
  obtain ⟨_, _, e5, h5, _⟩ := hf 5 _ rfl
  cases e0; cases e1; cases e2; cases e3; cases e4; cases e5
  obtain ⟨s, e0, _, hs⟩ := DataW.trod_string (by kernel_rfl) h0
  obtain ⟨z1, e1, _, k1⟩ := DataW.trod_int (k := .i64) (by kernel_rfl) h1
  obtain ⟨z2, e2, _, k2⟩ := DataW.trod_int (k := .i64) (by kernel_rfl) h2
  obtain ⟨z5, e5, _⟩ := DataW.trod_bool (by kernel_rfl) h5
  cases e0; cases e1; cases e2; cases e5
  obtain ⟨l3, h3, g3⟩ := gnodes h3
  obtain ⟨l4, h4, g4⟩ := gacts h4
  exact ⟨⟨s, z1, z2, l3, l4, z5⟩, ⟨hs, c3, c4, rfl, h3, h4⟩, fun hs => by
   rw [he] at hs
   exact ⟨wf_inI k1, wf_inI k2, (g3 (hs.field rfl rfl rfl d3)).1, (g4 (hs.field rfl rfl rfl d4)).1, (g4 (hs.field rfl rfl rfl d4)).2⟩⟩
theorem gcmds (h : DataW.trod enc Tryz.prog w 0 (fun _ => true) true n T.an [v] = some y) : ∃ l, Abs.Cmds w v l ∧ (Small Tryz.prog T.an y.1 → Abs.big l.length 88 ∧ ∀ x ∈ l, x.good) :=
 cell_slG (e := T.l) 6 88 (by kernel_rfl) (by kernel_rfl) (by kernel_rfl) (fun a cs n y hc hl ht => by
  obtain ⟨x, ⟨h0, vg, va, rfl, h1, h2⟩, hg⟩ := gcmd ht
  exact ⟨x, ⟨h0, vg, va, hc, h1, h2⟩, hg⟩) h
theorem gproc (h : DataW.trod enc Tryz.prog w 0 (fun _ => true) true n T.g cs = some y) : ∃ x : Abs.Proc, Abs.ProcIs w cs x ∧ (Small Tryz.prog T.g y.1 → x.good) := by
 obtain ⟨hl, n', ds, he, hf⟩ := fields2 (t := T.g) rfl (by kernel_rfl) (by kernel_rfl) h
 match cs, hl with
 | [c0, c1, c2, c3, c4], _ =>
  obtain ⟨_, _, e0, h0, _⟩ := hf 0 _ rfl
  obtain ⟨_, _, e1, h1, _⟩ := hf 1 _ rfl
  obtain ⟨_, _, e2, h2, _⟩ := hf 2 _ rfl
  obtain ⟨_, _, e3, h3, d3⟩ := hf 3 _ rfl
  obtain ⟨_, _, e4, h4, d4⟩ := hf 4 _ rfl
  cases e0; cases e1; cases e2; cases e3; cases e4
  obtain ⟨s, e0, _, hs⟩ := DataW.trod_string (by kernel_rfl) h0
  obtain ⟨z1, e1, _, k1⟩ := DataW.trod_int (k := .i64) (by kernel_rfl) h1
  obtain ⟨z2, e2, _, k2⟩ := DataW.trod_int (k := .i64) (by kernel_rfl) h2
  cases e0; cases e1; cases e2
  obtain ⟨l3, h3, g3⟩ := gvars h3
  obtain ⟨l4, h4, g4⟩ := gcmds h4
  exact ⟨⟨s, z1, z2, l3, l4⟩, ⟨hs, c3, c4, rfl, h3, h4⟩, fun hs => by
   rw [he] at hs
   exact ⟨wf_inI k1, wf_inI k2, (g3 (hs.field rfl rfl rfl d3)).1, (g4 (hs.field rfl rfl rfl d4)).1, (g3 (hs.field rfl rfl rfl d3)).2, (g4 (hs.field rfl rfl rfl d4)).2⟩⟩
theorem gprocs (h : DataW.trod enc Tryz.prog w 0 (fun _ => true) true n T.am [v] = some y) : ∃ l, Abs.Procs w v l ∧ (Small Tryz.prog T.am y.1 → Abs.big l.length 80 ∧ ∀ x ∈ l, x.good) :=
 cell_slG (e := T.g) 5 80 (by kernel_rfl) (by kernel_rfl) (by kernel_rfl) (fun a cs n y hc hl ht => by
  obtain ⟨x, ⟨h0, vg, va, rfl, h1, h2⟩, hg⟩ := gproc ht
  exact ⟨x, ⟨h0, vg, va, hc, h1, h2⟩, hg⟩) h
theorem gprps (h : DataW.trod enc Tryz.prog w 0 (fun _ => true) true n T.au [v] = some y) : ∃ l, Abs.Prps w v l ∧ (Small Tryz.prog T.au y.1 → Abs.big l.length 40 ∧ ∀ x ∈ l, x.good) :=
 cell_slG (e := T.ah) 2 40 (by kernel_rfl) (by kernel_rfl) (by kernel_rfl) (fun a cs n y hc hl ht => by
  obtain ⟨hl, n', ds, he, hf⟩ := fields2 (t := T.ah) rfl (by kernel_rfl) (by kernel_rfl) ht
  match cs, hl with
  | [c0, c1], _ =>
   obtain ⟨_, _, e0, h0, _⟩ := hf 0 _ rfl
   obtain ⟨_, _, e1, h1, d1⟩ := hf 1 _ rfl
   cases e0; cases e1
   obtain ⟨s, e0, _, hs⟩ := DataW.trod_string (by kernel_rfl) h0
   cases e0
   obtain ⟨l1, h1, g1⟩ := gnodes h1
   exact ⟨⟨s, l1⟩, ⟨hs, c1, hc, h1⟩, fun hs => by rw [he] at hs; exact ⟨(g1 (hs.field rfl rfl rfl d1)).1⟩⟩) h
theorem open_modelG {r : Reach} {b0 : Nat} {v : Value} {d : DataW H} {p : List MemPlace} (hval : Value.okWide Tryz.prog w r b0 T.b v) (h : DataW.Trod enc Tryz.prog w 0 (fun _ => true) true T.b v d p) (hs : Small Tryz.prog T.b d) :
  ∃ cs m, v = .agg cs.toArray ∧ Abs.MI w cs m ∧ m.good := by
 obtain ⟨cs, n, rfl, ht⟩ := open_stG (t := T.b) rfl hval h
 obtain ⟨hl, n', ds, rfl, hf⟩ := fields2 (t := T.b) rfl (by kernel_rfl) (by kernel_rfl) ht
 obtain ⟨cs⟩ := cs
 match cs, hl with
 | [c0, c1, c2, c3, c4], _ =>
  obtain ⟨_, _, e0, h0, d0⟩ := hf 0 _ rfl
  obtain ⟨_, _, e1, h1, d1⟩ := hf 1 _ rfl
  obtain ⟨_, _, e2, h2, d2⟩ := hf 2 _ rfl
  obtain ⟨_, _, e3, h3, d3⟩ := hf 3 _ rfl
  obtain ⟨_, _, e4, h4, d4⟩ := hf 4 _ rfl
  cases e0; cases e1; cases e2; cases e3; cases e4
  obtain ⟨l0, r0, b0⟩ := gscalars h0
  obtain ⟨l1, r1, b1⟩ := gvars h1
  obtain ⟨l2, r2, b2⟩ := gchans h2
  obtain ⟨l3, r3, b3⟩ := gprocs h3
  obtain ⟨l4, r4, b4⟩ := gprps h4
  have k0 := b0 (hs.field rfl rfl rfl d0)
  have k1 := b1 (hs.field rfl rfl rfl d1)
  have k2 := b2 (hs.field rfl rfl rfl d2)
  have k3 := b3 (hs.field rfl rfl rfl d3)
  have k4 := b4 (hs.field rfl rfl rfl d4)
  exact ⟨[c0, c1, c2, c3, c4], ⟨l0, l1, l2, l3, l4⟩, rfl, ⟨⟨c0, c1, c2, c3, c4, rfl, r0, r1, r2, r3, r4⟩⟩, ⟨k0.1, k1.1, k2.1, k3.1, k4.1, k0.2, k1.2, k2.2, k3.2, k4.2⟩⟩
end Go.Proofs.R
end
section
namespace Go.Proofs.R
open Go Go.RowKit Lite Go.ChangeShapes Go.WideShapes Go.Deep
theorem walk_ReadsOf {H : Type} {enc : TypeId × Value → H} {r : Reach} {b0 : Nat} {d0 d1 : DataW H} {p0 p1 : List MemPlace} (v0 v1 : Value) (W : World) (ho : OwnIs W)
  (k0 : Value.okWide Tryz.prog W r b0 T.b v0) (h0 : DataW.Trod enc Tryz.prog W 0 (fun _ => true) true T.b v0 d0 p0) (s0 : Small Tryz.prog T.b d0)
  (k1 : Value.okWide Tryz.prog W r b0 T.a v1) (h1 : DataW.Trod enc Tryz.prog W 0 (fun _ => true) true T.a v1 d1 p1) (_s1 : Small Tryz.prog T.a d1) :
  Ret Tryz.prog F.lw41_ReadsOf #[v0, v1] W fun v w' => v = .bool true ∧ Ext W w' := by
 obtain ⟨cs, m, rfl, hm, hg⟩ := open_modelG k0 h0 s0
 obtain ⟨z, rfl, _⟩ := open_int (k := .i64) (by kernel_rfl) k1 h1
 exact lawReadsOf_r cs m z W hm hg ho
theorem walk_ReadsOwn {H : Type} {enc : TypeId × Value → H} {r : Reach} {b0 : Nat} {d0 d1 : DataW H} {p0 p1 : List MemPlace} (v0 v1 : Value) (W : World) (ho : OwnIs W)
  (k0 : Value.okWide Tryz.prog W r b0 T.b v0) (h0 : DataW.Trod enc Tryz.prog W 0 (fun _ => true) true T.b v0 d0 p0) (s0 : Small Tryz.prog T.b d0)
  (k1 : Value.okWide Tryz.prog W r b0 T.a v1) (h1 : DataW.Trod enc Tryz.prog W 0 (fun _ => true) true T.a v1 d1 p1) (_s1 : Small Tryz.prog T.a d1) :
  Ret Tryz.prog F.lw41_ReadsOwn #[v0, v1] W fun v w' => v = .bool true ∧ Ext W w' := by
 obtain ⟨cs, m, rfl, hm, hg⟩ := open_modelG k0 h0 s0
 obtain ⟨z, rfl, _⟩ := open_int (k := .i64) (by kernel_rfl) k1 h1
 exact lawReadsOwn_r cs m z W hm hg ho
theorem walk_ReadsParts {H : Type} {enc : TypeId × Value → H} {r : Reach} {b0 : Nat} {d0 d1 : DataW H} {p0 p1 : List MemPlace} (v0 v1 : Value) (W : World) (ho : OwnIs W)
  (k0 : Value.okWide Tryz.prog W r b0 T.b v0) (h0 : DataW.Trod enc Tryz.prog W 0 (fun _ => true) true T.b v0 d0 p0) (s0 : Small Tryz.prog T.b d0)
  (k1 : Value.okWide Tryz.prog W r b0 T.a v1) (h1 : DataW.Trod enc Tryz.prog W 0 (fun _ => true) true T.a v1 d1 p1) (_s1 : Small Tryz.prog T.a d1) :
  Ret Tryz.prog F.lw41_ReadsParts #[v0, v1] W fun v w' => v = .bool true ∧ Ext W w' := by
 obtain ⟨cs, m, rfl, hm, hg⟩ := open_modelG k0 h0 s0
 obtain ⟨z, rfl, _⟩ := open_int (k := .i64) (by kernel_rfl) k1 h1
 exact lawReadsParts_r cs m z W hm hg ho
end Go.Proofs.R
end
section
namespace Lite
open Go Go.RowKit Go.ChangeShapes
theorem joined_of {P : Program} {f : FuncId} {fn : Func} {s : ChangeSpec} {c : OpenClaim} (h1 : (c.wf (OpenSpec.ofChange s) && laidOutB P && mapsRowed P) = true)
  (h2 : (fn.params.all (P.readableRec ·) && namedTie P c.named s.vars) = true) (h3 : ((c.stops == []) && (P.stops == []) && (c.knobs == []) && (P.stopKnobs == [])) = true)
  (h4 : (c.inPlace == P.inPlace f) = true) (h5 : (c.unfollowed == P.unfollowed f) = true) (h6 : (c.recurses == P.recurses f) = true) (h7 : (c.named == P.varsNamed f) = true)
  (h8 : ((c.maps == (fn.params.toList ++ s.plain.varTypes P).any (P.mapsRec ·)) && (c.ifaces == (fn.params.toList ++ s.plain.varTypes P).any (P.ifacesRec ·)) && (c.mapsOut == P.mapsAmong fn.resultTypes.toList)) = true)
  (h9 : ((c.loops == (fn.params.toList ++ s.plain.varTypes P).any (P.loopsFrom ·)) && (c.wideKeys == (fn.params.toList ++ s.plain.varTypes P ++ fn.resultTypes.toList).any (P.wideKeysFrom ·))) = true)
  (h10 : (s.vars.all (P.varReadable ·) && fn.resultTypes.all (fun t => P.readableRec t && decide (t < P.types.size)) && (c.ifacesOut == fn.resultTypes.toList.any (P.ifacesRec ·)) && (c.loopsOut == fn.resultTypes.toList.any (P.loopsFrom ·))) = true)
  (h11 : (c.plainKeys == P.plainKeys) = true) (h12 : (c.shortTexts.isNone && P.stopsHeard) = true) (h13 : P.mayEnter = true)
  (h14 : ((c.lifted == P.liftsFinal) && (P.make == some c.make)) = true)
  (h15 : ((c.kinds == (if c.domain.isEmpty then [] else fn.params.toList.map fun t => match P.underlying t with | some (.int k) => some k | _ => none)) && (c.pinned == c.pinnedBy)) = true)
  (h16 : ((c.veiled == (fn.params.toList ++ s.plain.varTypes P ++ fn.resultTypes.toList).any (P.veiledRec ·)) && c.veiledFits P fn.params.toList (fn.params.toList ++ s.plain.varTypes P ++ fn.resultTypes.toList)) = true) :
  joinedFacts P f fn s c = true := by
 simp only [Bool.and_eq_true] at h1 h2 h3 h8 h9 h10 h12 h14 h15 h16
 unfold joinedFacts
 simp only [Bool.and_eq_true]
 obtain ⟨⟨a1, a2⟩, a3⟩ := h1
 obtain ⟨b1, b2⟩ := h2
 obtain ⟨⟨⟨d1, d2⟩, d3⟩, d4⟩ := h3
 obtain ⟨⟨e1, e2⟩, e3⟩ := h8
 obtain ⟨f1, f2⟩ := h9
 obtain ⟨⟨⟨g1, g2⟩, g3⟩, g4⟩ := h10
 obtain ⟨i1, i2⟩ := h12
 obtain ⟨j1, j2⟩ := h14
 obtain ⟨k1, k2⟩ := h15
 obtain ⟨l1, l2⟩ := h16
 exact ⟨⟨⟨⟨⟨⟨⟨⟨⟨⟨⟨⟨⟨⟨⟨⟨⟨⟨⟨⟨⟨⟨⟨⟨⟨⟨⟨⟨⟨⟨⟨a1, a2⟩, a3⟩, b1⟩, b2⟩, d1⟩, d2⟩, d3⟩, d4⟩, h4⟩, h5⟩, h6⟩, h7⟩, e1⟩, e2⟩, e3⟩, f1⟩, f2⟩, g1⟩, g2⟩, g3⟩, g4⟩, h11⟩, i1⟩, i2⟩, h13⟩, j1⟩, j2⟩, k1⟩, k2⟩, l1⟩, l2⟩
end Lite
end