/- Texts joined: ModM LiteJ LiteK ModU ModK ModT. -/
import Derived.Test.YtbbaokmelkiemaaGreatDoorQd
import Derived.Test.YtbbaokmelkiemaaGreatDoorQf
set_option linter.all false
section
/- Models copied: model.Copy. -/
set_option maxRecDepth 4000
set_option maxHeartbeats 16000000
namespace Lite
open Go Go.RowKit
/-- It hangs on neither what was, nor on one box. -/
abbrev NB (w : World) (b : Nat) (p : World → Prop) (w' : World) : Prop := Stab (fun i => i < w.heap.size ∨ i = b) p w'
theorem New.box {w w1 w2 : World} {p : World → Prop} {b : Nat} (h : New w p w1) (e : Ext w1 w2) (hb : w1.heap.size ≤ b) : NB w b p w2 :=
  Stab.move h (A := fun _ => False) e.mod (fun _ _ h => h.elim) fun i hi hk => by rcases hk with hk | hk <;> omega
theorem NB.of {w wk w1 : World} {p : World → Prop} {b : Nat} (h : New wk p w1) (h0 : w.heap.size ≤ wk.heap.size) (hb : b < wk.heap.size) : NB w b p w1 := Stab.mono h fun i _ hi => by rcases hi with hi | hi <;> omega
theorem NB.ext {w w1 w2 : World} {p : World → Prop} {b : Nat} (h : NB w b p w1) (e : Ext w1 w2) (h0 : w.heap.size ≤ w1.heap.size) (hb : b < w1.heap.size) : NB w b p w2 :=
  Stab.ext h e fun i hi hk => by rcases hk with hk | hk <;> omega
theorem NB.wr {w w1 w2 : World} {p : World → Prop} {b : Nat} (h : NB w b p w1) (hw : Wr b w1 w2) : New w p w2 :=
  Stab.move h (A := fun k => k = b) (hw.mod rfl) (fun i _ e => .inr e) (fun i _ e => .inl e)
theorem Mod.mono {A B : Nat → Prop} {a b : World} (h : Mod A a b) (h1 : ∀ i, A i → B i) : Mod B a b := ⟨h.os, h.tape, h.output, h.size, fun i hi hn => h.block i hi fun e => hn (h1 i e)⟩
theorem New.at {w w1 : World} {p : World → Prop} {b : Nat} (h : New w p w1) (hb : w1.heap.size ≤ b) : NB w b p w1 := Stab.mono h fun i hi hk => by rcases hk with hk | hk <;> omega
theorem Ext.wrm {w0 w1 w2 : World} {b : Nat} (h : Ext w0 w1) (hw : Wr b w1 w2) : Mod (fun i => i = b) w0 w2 := (h.mod (A := fun _ => False)).comp (hw.mod (A := fun i => i = b) rfl) (fun _ _ h => h.elim) fun _ _ h => h
theorem OwC.wrT {e t : TypeId} {sz base b : Nat} {w w' : World} {v : Value} {css : List (Cs sz)} {c : Array Value} (h : OwC e sz base w v css) (hw : Wr b w w') (hc : w.heap[b]? = some (.cells c t)) (ht : t ≠ e) : OwC e sz base w' v css :=
  OwR.mod h (hw.mod (A := fun k => k = b) rfl) fun k hk a => by
    subst a
    obtain ⟨cur, h1⟩ := OwR.blk h k hk
    rw [hc] at h1
    injection h1 with h1
    injection h1 with _ h1
    exact ht h1
theorem clone0_r {α : Type} {P : Program} {f : FuncId} {t : TypeId} {sz : Nat} {R : World → Addr → α → Prop} {C : World → List Value → α → Prop} [Rel R C sz] {ts : TypeId} {b : Nat} (hm : P.follows .mixedOrders = true) (hE : compF P f = some (cloneCode ts t sz b)) (hts : P.underlying ts = some (.slice t))
    (v : Value) (xs : List α) {w0 : World} (w : World) (h : SlR sz R w0 v xs) (e0 : Ext w0 w) (hb : xs.length * b ≤ 140737488355328) :
    Ret P f #[v] w fun v' w' => (∃ css : List (Cs sz), css.length = xs.length ∧ OwC t sz w.heap.size w' v' css ∧ ∀ i (h1 : i < css.length) (h2 : i < xs.length), C w0 css[i].1 xs[i]) ∧ Ext w w' := by
  obtain ⟨o1, c1, rfl, b1⟩ := h.form
  refine K.start hm hE (args := [_]) (Nat.le_of_ble_eq_true rfl) ?_
  dsimp only [cloneCode,yt,yi,yb,yp,yr,ye,yc,yv,yg,ym,yw,ya,yl,yx,ys,yn]
  refine Sg ?_
  refine K.eqNil hts ?_
  refine Sg ?_
  refine K.condb (fun g => ?_) (fun g => ?_)
  · refine Sg ?_
    have : xs = [] := by
      obtain ⟨oa, cap, e, h2, h3, h4, h5⟩ := h.ex
      injection e with e1 e2 e3
      subst e1
      by_cases hx : xs = []
      · exact hx
      · have := h4 hx
        cases o1 <;> simp_all
    subst this
    exact ⟨⟨[], rfl, OwR.nil _ _ _ _ _, fun i h => by cases h⟩, Ext.refl _⟩
  obtain ⟨a, rfl⟩ : ∃ a, o1 = some a := by cases o1 with | none => cases g | some a => exact ⟨a, rfl⟩
  obtain ⟨css, hl, hcs, hC⟩ := h.cells
  refine Sg ?_
  intro w1 b1 hb1 he1 hc1
  refine Sg ?_
  have ho : OwC t sz w.heap.size w1 (.slice (some ⟨b1, 0, none⟩) 0 0) [] := OwR.empty hb1 hc1
  refine K.appAt (ys := css) ho encC_len (SlR.flat encC_len (fun _ _ h => h) (SlR.ext Flat.ext (e0.trans he1) hcs)) (by rw [hl]) encC_one (by rw [List.length_nil, Nat.zero_add, hl]; exact hb) (by have := hcs.len; have e := h.len; rw [List.length_nil, hl]; omega) (by exact he1.size) fun v' w' ho' hg _ => ?_
  obtain ⟨oa, cap, rfl, _⟩ := ho'.form
  have he2 : Ext w w' := he1.grown hg fun k hk => by injection hk with hk; subst hk; exact hb1
  refine Sg ?_
  exact ⟨⟨css, hl, by simpa using ho', hC⟩, he2⟩
end Lite
namespace Go.Proofs.YtbbaokmelkiemaaGreatDoor
open Go Go.RowKit Lite
theorem mnodes_r (v : Value) (xs : List Abs.Node) (w : World) (h : Abs.Nodes w v xs) (hb : Abs.big xs.length 16) :
    Ret Tryz.prog F.model_nodes #[v] w fun v' w' => (∃ oa c, v' = .slice oa xs.length c) ∧ New w (fun w => Abs.Nodes w v' xs) w' ∧ Ext w w' := by
  obtain ⟨_, _, rfl, _⟩ := id h.form
  refine K.start hmix E.model_nodes (args := [_]) (Nat.le_of_ble_eq_true rfl) ?_; dsimp only [C.model_nodes,yt,yi,yb,yp,yr,ye,yc,yv,yg,ym,yw,ya,yl,yx,ys,yn]
  refine Sg ?_
  refine K.call (nclone_r _ xs w h hb) ?_
  rintro _ w1 ⟨⟨o, c, rfl⟩, hn, he⟩
  refine Sg ?_
  exact ⟨⟨_, _, rfl⟩, hn, he⟩
theorem pclone0_r (v : Value) (xs : List Abs.Proc) {w0 : World} (w : World) (h : Abs.Procs w0 v xs) (e0 : Ext w0 w) (hb : Abs.big xs.length 80) :
    Ret Tryz.prog F.slices_Clone_sl_api_Proc_api_Proc #[v] w fun v' w' => (∃ css : List (Cs 5), css.length = xs.length ∧ OwC T.api_Proc 5 w.heap.size w' v' css ∧ ∀ i (h1 : i < css.length) (h2 : i < xs.length), Abs.ProcIs w0 css[i].1 xs[i]) ∧ Ext w w' :=
  clone0_r hmix E.slices_Clone_sl_api_Proc_api_Proc (by kernel_rfl) v xs w h e0 (by unfold Abs.big at hb; omega)
theorem prclone0_r (v : Value) (xs : List Abs.Prp) {w0 : World} (w : World) (h : Abs.Prps w0 v xs) (e0 : Ext w0 w) (hb : Abs.big xs.length 40) :
    Ret Tryz.prog F.slices_Clone_sl_api_Prop_api_Prop #[v] w fun v' w' => (∃ css : List (Cs 2), css.length = xs.length ∧ OwC T.api_Prop 2 w.heap.size w' v' css ∧ ∀ i (h1 : i < css.length) (h2 : i < xs.length), Abs.PrpIs w0 css[i].1 xs[i]) ∧ Ext w w' :=
  clone0_r hmix E.slices_Clone_sl_api_Prop_api_Prop (by kernel_rfl) v xs w h e0 (by unfold Abs.big at hb; omega)
abbrev slv (s : SlP) : Value := .slice s.1 s.2.1 s.2.2
theorem copy_r (cs : List Value) (m : Abs.Model) (w : World) (h : Abs.ModelIs w cs m) (hg : m.good) (hp0 : m.procs = []) :
    Ret Tryz.prog F.model_Copy #[.agg cs.toArray] w fun v w' => (∃ cs', v = .agg cs'.toArray ∧ New w (fun w => Abs.ModelIs w cs' m) w') ∧ Ext w w' := by
  obtain ⟨o0, c0, o1, c1, o2, c2, o3, c3, o4, c4, rfl, h0, h1, h2, h3, h4, l0, l1, l2, l3, l4⟩ := h.form
  refine K.start hmix E.model_Copy (args := [_]) (Nat.le_of_ble_eq_true rfl) ?_; dsimp only [C.model_Copy,yt,yi,yb,yp,yr,ye,yc,yv,yg,ym,yw,ya,yl,yx,ys,yn]
  simp -dsimp only [B9]
  refine Su ?_
  intro w1 b1 hb1 he1 hc1
  refine Su ?_
  intro w2 b2 hb2 he2 hc2
  replace hc1 := he2.obj hc1
  have e2 := he1.trans he2
  have r2 := Ext.refl w2
  have z1 := lt_of_heap hc1
  have z2 := lt_of_heap hc2
  have z3 := he1.size
  have z4 := he2.size
  refine Su ?_
  refine K.cutG [1, 2] (fun b3 => [(3, .pointer (some ⟨b3, 0, none⟩))]) (fun b3 w' => ∃ wa, w2.heap.size ≤ b3 ∧ Ext w2 w' ∧ w.heap.size ≤ wa.heap.size ∧ w2.heap.size ≤ wa.heap.size ∧ Mod (fun i => i = b3) wa w' ∧ ∃ s0 s1 s2 s3 s4 : SlP, w'.heap[b3]? = some (.cells #[slv s0, slv s1, slv s2, slv s3, slv s4] T.api_Model) ∧
    NB w2 b3 (fun w => Abs.Scalars w (slv s0) m.scalars) wa ∧ NB w2 b3 (fun w => Abs.Vars w (slv s1) m.vars) wa ∧ NB w2 b3 (fun w => Abs.Chans w (slv s2) m.chans) wa ∧
    (∃ ps : List (Cs 5), ps.length = m.procs.length ∧ OwC T.api_Proc 5 wa.heap.size w' (slv s3) ps ∧ ∀ i (h1 : i < ps.length) (h2 : i < m.procs.length), Abs.ProcIs w ps[i].1 m.procs[i]) ∧
    (∃ qs : List (Cs 2), qs.length = m.props.length ∧ OwC T.api_Prop 2 wa.heap.size w' (slv s4) qs ∧ ∀ i (h1 : i < qs.length) (h2 : i < m.props.length), Abs.PrpIs w qs[i].1 m.props[i])) ?_ ?_
  · refine Sg ?_
    intro w3 he3
    replace hc1 := he3.obj hc1
    have e3 := e2.trans he3
    have r3 := Ext.refl w3
    have z5 := he3.size
    refine Sg ?_
    refine ⟨?_, ?_⟩
    · refine Sg ?_
      refine K.call (sclone_r _ m.scalars w3 (h0.ext e3) hg.scalars) ?_
      rintro _ w4 ⟨⟨s0, d0, rfl⟩, n0, x⟩
      replace n0 := n0.low (he3.trans r3).size
      have r4 := r3.trans x
      have e4 := e3.trans x
      refine ⟨r4, ?_⟩
      refine Sg ?_
      refine ⟨?_, ?_⟩
      · refine Sg ?_
        refine K.call (vclone_r _ m.vars w4 (h1.ext e4) hg.vars) ?_
        rintro _ w5 ⟨⟨s1, d1, rfl⟩, n1, x⟩
        replace n1 := n1.low (he3.trans r4).size
        replace n0 := n0.ext x (he3.trans r4).size
        have r5 := r4.trans x
        have e5 := e4.trans x
        refine ⟨r5, ?_⟩
        refine Sg ?_
        refine ⟨?_, ?_⟩
        · refine Sg ?_
          refine K.call (chclone_r _ m.chans w5 (h2.ext e5) hg.chans) ?_
          rintro _ w6 ⟨⟨s2, d2, rfl⟩, n2, x⟩
          replace n2 := n2.low (he3.trans r5).size
          replace n0 := n0.ext x (he3.trans r5).size
          replace n1 := n1.ext x (he3.trans r5).size
          have r6 := r5.trans x
          have e6 := e5.trans x
          refine ⟨r6, ?_⟩
          refine Sg ?_
          refine ⟨?_, ?_⟩
          · refine Sg ?_
            have r3a := he3.trans r6
            refine K.call (pclone0_r _ m.procs w6 h3 e6 hg.procs) ?_
            rintro _ w7 ⟨⟨ps, pl, po, pc⟩, x⟩
            obtain ⟨s3, d3, rfl, _⟩ := OwR.form po
            have ya := x
            have r7 := r6.trans x
            have e7 := e6.trans x
            refine ⟨r7, ?_⟩
            refine Sg ?_
            refine ⟨?_, ?_⟩
            · refine Sg ?_
              refine K.call (prclone0_r _ m.props w7 h4 e7 hg.props) ?_
              rintro _ w8 ⟨⟨qs, ql, qo, qc⟩, x⟩
              obtain ⟨s4, d4, rfl, _⟩ := OwR.form qo
              replace qo := OwR.low ya.size qo
              replace ya := ya.trans x
              replace po := po.ext x
              have r8 := r7.trans x
              have e8 := e7.trans x
              refine Sg ?_
              intro w9 b3 hb3 x hc0
              have zw := r8.size
              have zv := e8.size
              have zu := (he3.trans r8).size
              have hb3a := Nat.le_trans ya.size hb3
              replace ya := ya.trans x
              replace po := po.ext x
              replace qo := qo.ext x
              have r9 := r8.trans x
              have e9 := e8.trans x
              refine ⟨r9, ?_⟩
              refine Sg ?_
              refine Sg ?_
              intro w10 hw hc3
              have es := hw.ext (he3.trans r9) (by omega)
              exact ⟨b3, by first | trivial | rfl, w6, by omega, es, e6.size, r3a.size, (Ext.wrm ya hw), (_, _, _), (_, _, _), (_, _, _), (_, _, _), (_, _, _), hc3, n0.at hb3a, n1.at hb3a, n2.at hb3a, ⟨ps, pl, OwC.wrT po hw hc0 (by decide), pc⟩, qs, ql, OwC.wrT qo hw hc0 (by decide), qc⟩
            · refine Sg ?_
              intro w8 b3 hb3 x hc0
              have zw := r7.size
              have zv := e7.size
              have zu := (he3.trans r7).size
              have hb3a := Nat.le_trans ya.size hb3
              replace ya := ya.trans x
              replace po := po.ext x
              have r8 := r7.trans x
              have e8 := e7.trans x
              refine ⟨r8, ?_⟩
              refine Sg ?_
              have zb := lt_of_heap hc0
              refine K.call (prclone0_r _ m.props w8 h4 e8 hg.props) ?_
              rintro _ w9 ⟨⟨qs, ql, qo, qc⟩, x⟩
              obtain ⟨s4, d4, rfl, _⟩ := OwR.form qo
              replace qo := OwR.low ya.size qo
              replace ya := ya.trans x
              replace po := po.ext x
              replace hc0 := x.obj hc0
              have r9 := r8.trans x
              have e9 := e8.trans x
              refine Sg ?_
              refine Sg ?_
              intro w10 hw hc3
              have es := hw.ext (he3.trans r9) (by omega)
              exact ⟨b3, by first | trivial | rfl, w6, by omega, es, e6.size, r3a.size, (Ext.wrm ya hw), (_, _, _), (_, _, _), (_, _, _), (_, _, _), (_, _, _), hc3, n0.at hb3a, n1.at hb3a, n2.at hb3a, ⟨ps, pl, OwC.wrT po hw hc0 (by decide), pc⟩, qs, ql, OwC.wrT qo hw hc0 (by decide), qc⟩
          · refine Sg ?_
            intro w7 b3 hb3 x hc0
            have zw := r6.size
            have zv := e6.size
            have zu := (he3.trans r6).size
            replace n0 := New.box n0 x hb3
            replace n1 := New.box n1 x hb3
            replace n2 := New.box n2 x hb3
            have r7 := r6.trans x
            have e7 := e6.trans x
            refine ⟨r7, ?_⟩
            refine Sg ?_
            have zb := lt_of_heap hc0
            have r3a := he3.trans r7
            refine K.call (pclone0_r _ m.procs w7 h3 e7 hg.procs) ?_
            rintro _ w8 ⟨⟨ps, pl, po, pc⟩, x⟩
            obtain ⟨s3, d3, rfl, _⟩ := OwR.form po
            have ya := x
            replace hc0 := x.obj hc0
            have r8 := r7.trans x
            have e8 := e7.trans x
            refine ⟨r8, ?_⟩
            refine Sg ?_
            have zb := lt_of_heap hc0
            refine K.call (prclone0_r _ m.props w8 h4 e8 hg.props) ?_
            rintro _ w9 ⟨⟨qs, ql, qo, qc⟩, x⟩
            obtain ⟨s4, d4, rfl, _⟩ := OwR.form qo
            replace qo := OwR.low ya.size qo
            replace ya := ya.trans x
            replace po := po.ext x
            replace hc0 := x.obj hc0
            have r9 := r8.trans x
            have e9 := e8.trans x
            refine Sg ?_
            refine Sg ?_
            intro w10 hw hc3
            have es := hw.ext (he3.trans r9) (by omega)
            exact ⟨b3, by first | trivial | rfl, w7, by omega, es, e7.size, r3a.size, (Ext.wrm ya hw), (_, _, _), (_, _, _), (_, _, _), (_, _, _), (_, _, _), hc3, n0, n1, n2, ⟨ps, pl, OwC.wrT po hw hc0 (by decide), pc⟩, qs, ql, OwC.wrT qo hw hc0 (by decide), qc⟩
        · refine Sg ?_
          intro w6 b3 hb3 x hc0
          have zw := r5.size
          have zv := e5.size
          have zu := (he3.trans r5).size
          replace n0 := New.box n0 x hb3
          replace n1 := New.box n1 x hb3
          have r6 := r5.trans x
          have e6 := e5.trans x
          refine ⟨r6, ?_⟩
          refine Sg ?_
          have zb := lt_of_heap hc0
          refine K.call (chclone_r _ m.chans w6 (h2.ext e6) hg.chans) ?_
          rintro _ w7 ⟨⟨s2, d2, rfl⟩, n2, x⟩
          replace n2 := NB.of n2 (he3.trans r6).size zb
          replace n0 := n0.ext x (he3.trans r6).size (by omega)
          replace n1 := n1.ext x (he3.trans r6).size (by omega)
          replace hc0 := x.obj hc0
          have r7 := r6.trans x
          have e7 := e6.trans x
          refine ⟨r7, ?_⟩
          refine Sg ?_
          have zb := lt_of_heap hc0
          have r3a := he3.trans r7
          refine K.call (pclone0_r _ m.procs w7 h3 e7 hg.procs) ?_
          rintro _ w8 ⟨⟨ps, pl, po, pc⟩, x⟩
          obtain ⟨s3, d3, rfl, _⟩ := OwR.form po
          have ya := x
          replace hc0 := x.obj hc0
          have r8 := r7.trans x
          have e8 := e7.trans x
          refine ⟨r8, ?_⟩
          refine Sg ?_
          have zb := lt_of_heap hc0
          refine K.call (prclone0_r _ m.props w8 h4 e8 hg.props) ?_
          rintro _ w9 ⟨⟨qs, ql, qo, qc⟩, x⟩
          obtain ⟨s4, d4, rfl, _⟩ := OwR.form qo
          replace qo := OwR.low ya.size qo
          replace ya := ya.trans x
          replace po := po.ext x
          replace hc0 := x.obj hc0
          have r9 := r8.trans x
          have e9 := e8.trans x
          refine Sg ?_
          refine Sg ?_
          intro w10 hw hc3
          have es := hw.ext (he3.trans r9) (by omega)
          exact ⟨b3, by first | trivial | rfl, w7, by omega, es, e7.size, r3a.size, (Ext.wrm ya hw), (_, _, _), (_, _, _), (_, _, _), (_, _, _), (_, _, _), hc3, n0, n1, n2, ⟨ps, pl, OwC.wrT po hw hc0 (by decide), pc⟩, qs, ql, OwC.wrT qo hw hc0 (by decide), qc⟩
      · refine Sg ?_
        intro w5 b3 hb3 x hc0
        have zw := r4.size
        have zv := e4.size
        have zu := (he3.trans r4).size
        replace n0 := New.box n0 x hb3
        have r5 := r4.trans x
        have e5 := e4.trans x
        refine ⟨r5, ?_⟩
        refine Sg ?_
        have zb := lt_of_heap hc0
        refine K.call (vclone_r _ m.vars w5 (h1.ext e5) hg.vars) ?_
        rintro _ w6 ⟨⟨s1, d1, rfl⟩, n1, x⟩
        replace n1 := NB.of n1 (he3.trans r5).size zb
        replace n0 := n0.ext x (he3.trans r5).size (by omega)
        replace hc0 := x.obj hc0
        have r6 := r5.trans x
        have e6 := e5.trans x
        refine ⟨r6, ?_⟩
        refine Sg ?_
        have zb := lt_of_heap hc0
        refine K.call (chclone_r _ m.chans w6 (h2.ext e6) hg.chans) ?_
        rintro _ w7 ⟨⟨s2, d2, rfl⟩, n2, x⟩
        replace n2 := NB.of n2 (he3.trans r6).size zb
        replace n0 := n0.ext x (he3.trans r6).size (by omega)
        replace n1 := n1.ext x (he3.trans r6).size (by omega)
        replace hc0 := x.obj hc0
        have r7 := r6.trans x
        have e7 := e6.trans x
        refine ⟨r7, ?_⟩
        refine Sg ?_
        have zb := lt_of_heap hc0
        have r3a := he3.trans r7
        refine K.call (pclone0_r _ m.procs w7 h3 e7 hg.procs) ?_
        rintro _ w8 ⟨⟨ps, pl, po, pc⟩, x⟩
        obtain ⟨s3, d3, rfl, _⟩ := OwR.form po
        have ya := x
        replace hc0 := x.obj hc0
        have r8 := r7.trans x
        have e8 := e7.trans x
        refine ⟨r8, ?_⟩
        refine Sg ?_
        have zb := lt_of_heap hc0
        refine K.call (prclone0_r _ m.props w8 h4 e8 hg.props) ?_
        rintro _ w9 ⟨⟨qs, ql, qo, qc⟩, x⟩
        obtain ⟨s4, d4, rfl, _⟩ := OwR.form qo
        replace qo := OwR.low ya.size qo
        replace ya := ya.trans x
        replace po := po.ext x
        replace hc0 := x.obj hc0
        have r9 := r8.trans x
        have e9 := e8.trans x
        refine Sg ?_
        refine Sg ?_
        intro w10 hw hc3
        have es := hw.ext (he3.trans r9) (by omega)
        exact ⟨b3, by first | trivial | rfl, w7, by omega, es, e7.size, r3a.size, (Ext.wrm ya hw), (_, _, _), (_, _, _), (_, _, _), (_, _, _), (_, _, _), hc3, n0, n1, n2, ⟨ps, pl, OwC.wrT po hw hc0 (by decide), pc⟩, qs, ql, OwC.wrT qo hw hc0 (by decide), qc⟩
    · refine Sg ?_
      intro w4 b3 hb3 x hc0
      have zw := r3.size
      have zv := e3.size
      have zu := (he3.trans r3).size
      have r4 := r3.trans x
      have e4 := e3.trans x
      refine ⟨r4, ?_⟩
      refine Sg ?_
      have zb := lt_of_heap hc0
      refine K.call (sclone_r _ m.scalars w4 (h0.ext e4) hg.scalars) ?_
      rintro _ w5 ⟨⟨s0, d0, rfl⟩, n0, x⟩
      replace n0 := NB.of n0 (he3.trans r4).size zb
      replace hc0 := x.obj hc0
      have r5 := r4.trans x
      have e5 := e4.trans x
      refine ⟨r5, ?_⟩
      refine Sg ?_
      have zb := lt_of_heap hc0
      refine K.call (vclone_r _ m.vars w5 (h1.ext e5) hg.vars) ?_
      rintro _ w6 ⟨⟨s1, d1, rfl⟩, n1, x⟩
      replace n1 := NB.of n1 (he3.trans r5).size zb
      replace n0 := n0.ext x (he3.trans r5).size (by omega)
      replace hc0 := x.obj hc0
      have r6 := r5.trans x
      have e6 := e5.trans x
      refine ⟨r6, ?_⟩
      refine Sg ?_
      have zb := lt_of_heap hc0
      refine K.call (chclone_r _ m.chans w6 (h2.ext e6) hg.chans) ?_
      rintro _ w7 ⟨⟨s2, d2, rfl⟩, n2, x⟩
      replace n2 := NB.of n2 (he3.trans r6).size zb
      replace n0 := n0.ext x (he3.trans r6).size (by omega)
      replace n1 := n1.ext x (he3.trans r6).size (by omega)
      replace hc0 := x.obj hc0
      have r7 := r6.trans x
      have e7 := e6.trans x
      refine ⟨r7, ?_⟩
      refine Sg ?_
      have zb := lt_of_heap hc0
      have r3a := he3.trans r7
      refine K.call (pclone0_r _ m.procs w7 h3 e7 hg.procs) ?_
      rintro _ w8 ⟨⟨ps, pl, po, pc⟩, x⟩
      obtain ⟨s3, d3, rfl, _⟩ := OwR.form po
      have ya := x
      replace hc0 := x.obj hc0
      have r8 := r7.trans x
      have e8 := e7.trans x
      refine ⟨r8, ?_⟩
      refine Sg ?_
      have zb := lt_of_heap hc0
      refine K.call (prclone0_r _ m.props w8 h4 e8 hg.props) ?_
      rintro _ w9 ⟨⟨qs, ql, qo, qc⟩, x⟩
      obtain ⟨s4, d4, rfl, _⟩ := OwR.form qo
      replace qo := OwR.low ya.size qo
      replace ya := ya.trans x
      replace po := po.ext x
      replace hc0 := x.obj hc0
      have r9 := r8.trans x
      have e9 := e8.trans x
      refine Sg ?_
      refine Sg ?_
      intro w10 hw hc3
      have es := hw.ext (he3.trans r9) (by omega)
      exact ⟨b3, by first | trivial | rfl, w7, by omega, es, e7.size, r3a.size, (Ext.wrm ya hw), (_, _, _), (_, _, _), (_, _, _), (_, _, _), (_, _, _), hc3, n0, n1, n2, ⟨ps, pl, OwC.wrT po hw hc0 (by decide), pc⟩, qs, ql, OwC.wrT qo hw hc0 (by decide), qc⟩
  · rintro b3 S3 w4 ⟨wa, hb3, e4, za, za2, ma, s0, s1, s2, s3, ⟨o4', n4', d4'⟩, hc3, n0, n1, n2, ⟨ps, pl, po, pc⟩, qs, ql, qo, qc⟩
    obtain ⟨_, _, ev, _, _⟩ := OwR.form qo
    unfold slv at ev
    injection ev with e1 e2' e3
    obtain ⟨_, _, ev, _, _⟩ := OwR.form po
    unfold slv at ev
    injection ev with e5 e6 e7
    dsimp only at e2' e6
    subst e2'
    have e6' : s3.2.1 = 0 := by rw [e6, pl, hp0]; rfl
    replace hc1 := e4.obj hc1
    replace hc2 := e4.obj hc2
    unfold slv at hc3
    obtain ⟨o3', n3', d3'⟩ := s3
    dsimp only at e6' hc3
    subst e6'
    obtain rfl : ps = [] := List.eq_nil_of_length_eq_zero (by rw [pl, hp0]; rfl)
    have hc3' := hc3
    have hc2' := hc2
    refine Sg ?_
    refine K.forG 29 0 [1, 2, 3, 28] (fun _ => []) () (fun k _ w' => w' = w4) (by first | trivial | rfl | exact ⟨rfl, trivial⟩ | (simp -dsimp only [LL,slots_nil,slots_cons,keepV_nil,keepV_cons,has_nil,has_cons,Nat.reduceAdd,Nat.reduceEqDiff,reduceIte,and_self]; done) | (simp -dsimp only [LL,slots_nil,slots_cons,keepV_nil,keepV_cons,has_nil,has_cons,Nat.reduceAdd,Nat.reduceEqDiff,reduceIte,and_self]; exact ⟨rfl, trivial⟩)) (by first | trivial | rfl | exact ⟨rfl, trivial⟩ | (simp -dsimp only [LL,slots_nil,slots_cons,keepV_nil,keepV_cons,has_nil,has_cons,Nat.reduceAdd,Nat.reduceEqDiff,reduceIte,and_self]; done) | (simp -dsimp only [LL,slots_nil,slots_cons,keepV_nil,keepV_cons,has_nil,has_cons,Nat.reduceAdd,Nat.reduceEqDiff,reduceIte,and_self]; exact ⟨rfl, trivial⟩)) rfl ?_
    rintro k _ S w5 hk rfl
    refine Sg ?_
    refine K.forG 128 qs.length [1, 2, 3, 127] (fun _ : List (Cs 2) => []) qs (fun k x w' => Mod (fun i => (slv (o4', qs.length, d4')).ownBlock = some i) w5 w' ∧ x.length = qs.length ∧ OwC T.api_Prop 2 wa.heap.size w' (slv (o4', qs.length, d4')) x ∧
      (∀ i (h1 : i < x.length) (h2 : i < m.props.length), i < k → Stab (fun j => j < w5.heap.size) (fun w => Abs.PrpIs w x[i].1 m.props[i]) w') ∧ (∀ i (h1 : i < x.length) (h2 : i < m.props.length), k ≤ i → Abs.PrpIs w x[i].1 m.props[i])) (by first | trivial | rfl | exact ⟨rfl, trivial⟩ | (simp -dsimp only [LL,slots_nil,slots_cons,keepV_nil,keepV_cons,has_nil,has_cons,Nat.reduceAdd,Nat.reduceEqDiff,reduceIte,and_self]; done) | (simp -dsimp only [LL,slots_nil,slots_cons,keepV_nil,keepV_cons,has_nil,has_cons,Nat.reduceAdd,Nat.reduceEqDiff,reduceIte,and_self]; exact ⟨rfl, trivial⟩)) (by first | trivial | rfl | exact ⟨rfl, trivial⟩ | (simp -dsimp only [LL,slots_nil,slots_cons,keepV_nil,keepV_cons,has_nil,has_cons,Nat.reduceAdd,Nat.reduceEqDiff,reduceIte,and_self]; done) | (simp -dsimp only [LL,slots_nil,slots_cons,keepV_nil,keepV_cons,has_nil,has_cons,Nat.reduceAdd,Nat.reduceEqDiff,reduceIte,and_self]; exact ⟨rfl, trivial⟩)) ⟨Mod.refl _ _, rfl, qo, fun _ _ _ h => absurd h (Nat.not_lt_zero _), fun i h1 h2 _ => qc i h1 h2⟩ ?_
    clear hc1 hc2 hc3
    rintro k x S w6 hk ⟨m6, xl, xo, xn, xc⟩
    have hown : ∀ i, (slv (o4', qs.length, d4')).ownBlock = some i → wa.heap.size ≤ i ∧ ∃ cur, w5.heap[i]? = some (.cells cur T.api_Prop) := fun i hi => ⟨(OwR.lt qo i hi).1, OwR.blk qo i hi⟩
    have hno : ∀ {i : Nat} {c : Array Value} {t : TypeId}, w5.heap[i]? = some (.cells c t) → t ≠ T.api_Prop → w6.heap[i]? = some (.cells c t) := fun {i} {c} {t} hi ht => m6.obj (fun e => by
      obtain ⟨cur, h1⟩ := (hown i e).2
      rw [hi] at h1
      injection h1 with h1
      injection h1 with _ h1
      exact ht h1) hi
    have hc3 := hno hc3' (by decide)
    have hc2 := hno hc2' (by decide)
    have e6 : Ext w w6 := m6.ext (e2.trans e4) fun i hi e => by have := (hown i e).1; omega
    refine Sg ?_
    refine K.cond (fun g1 => ?_) (fun g1 => ?_)
    · have hk' : k < qs.length := by omega
      obtain ⟨a, rfl⟩ : ∃ a, o4' = some a := by
        cases o4' with
        | some a => exact ⟨a, rfl⟩
        | none => rcases qo.2 with ⟨_, h0⟩ | ⟨_, _, _, h1, _⟩
                  · omega
                  · cases h1
      obtain ⟨hsn, ve, hxe, hve⟩ := xc k (by omega) (by omega) (Nat.le_refl _)
      have hce := OwC.at xo (i := k) (by omega)
      rw [hxe] at hce
      obtain ⟨ov, cv, rfl, _⟩ := hve.form
      unfold slv at xo
      refine Sg ?_
      intro w7 he7
      replace hc3 := he7.obj hc3
      replace hce := hce.ext he7
      have e7 := e6.trans he7
      have zb := (hown a.block rfl).1
      have zc := lt_of_heap (hown a.block rfl).2.choose_spec
      have zd := m6.size
      have ze := he7.size
      refine Sg ?_
      refine K.call (mnodes_r _ m.props[k].expr w7 (hve.ext e7) (hg.prop _ (List.getElem_mem _)).expr) ?_
      rintro _ w8 ⟨⟨o8, d8, rfl⟩, n8, he8⟩
      refine ⟨he8, ?_⟩
      refine Sg ?_
      refine K.stO ((xo.ext he7).ext he8) (by omega) (by decide) rfl fun w9 hw9 xo9 => ?_
      have e9 := hw9.ext (e7.trans he8) (by omega)
      have m9 : Mod (fun i => (slv (some a, qs.length, d4')).ownBlock = some i) w6 w9 := (Ext.wrm (he7.trans he8) hw9).mono fun i e => by subst e; rfl
      refine Sg ?_
      refine ⟨hk', by first | trivial | rfl, _, trivial, m6.trans m9, by rw [List.length_set]; exact xl, xo9, fun i h1 h2 hik => ?_, fun i h1 h2 hik => ?_⟩
      · by_cases hi : i = k
        · subst hi
          rw [List.getElem_set_self]
          have n9 := n8.wr hw9 (by omega)
          refine (n9.mono fun j _ hj => by omega).imp fun W hW => ⟨hsn, _, ?_, hW⟩
          simp only [Cs.put, hxe, Abs.Prp.enc, List.set_cons_succ, List.set_cons_zero]
        · rw [List.length_set] at h1
          rw [List.getElem_set_ne (by omega)]
          exact (xn i h1 h2 (by omega)).move m9 (fun j hj e => by injection e with e; omega) fun _ _ h => h
      · rw [List.length_set] at h1
        rw [List.getElem_set_ne (by omega)]
        exact xc i h1 h2 (by omega)
    · have hkl : qs.length ≤ k := by omega
      refine Sg ?_
      intro w7 hw7 hc7
      have e7 := hw7.ext e6 (by omega)
      refine Sg ?_
      refine ⟨⟨_, rfl, ?_⟩, e7⟩
      intro W mW
      have M1 : Mod (fun i => i < w2.heap.size ∨ i = b3) wa w6 := ma.comp m6 (fun i _ e => .inr e) fun i hi e => by have := (hown i e).1; omega
      have M2 : Mod (fun i => i < w2.heap.size ∨ i = b3) wa w7 := M1.comp (hw7.mod (A := fun i => i = b2) rfl) (fun _ _ h => h) fun i hi e => by omega
      have M3 : Mod (fun i => i < w2.heap.size ∨ i = b3) wa W := M2.comp mW (fun _ _ h => h) fun i hi e => by omega
      have M4 : Mod (fun i => i < w2.heap.size) w6 W := (hw7.mod (A := fun i => i = b2) rfl).comp mW (fun i _ e => by omega) fun i _ e => by omega
      have z5 := m6.size
      have z6 := ma.size
      refine ⟨⟨_, _, _, _, _, rfl, n0 W M3, n1 W M3, n2 W M3, ?_, ?_⟩⟩
      · obtain ⟨oa, cap, e, h1, h2, _⟩ := (OwR.slr encC_len po).ex
        rw [hp0]
        exact ⟨oa, cap, e, h1, h2, fun h => absurd rfl h, fun a _ i hi => absurd hi (Nat.not_lt_zero _)⟩
      · have x1 := OwR.mod xo M4 fun i hi e => by have := (OwR.lt xo i hi).1; omega
        have x2 := OwR.slr encC_len x1
        refine SlR.ofCells (R := Abs.RPrp) (by omega) x2 fun i h1 h2 => xn i h1 h2 (by omega) W (M4.mono fun i e => by omega)
end Go.Proofs.YtbbaokmelkiemaaGreatDoor
end
section
/- Lite: any list, be it nil, put behind a row of one's own. -/
set_option maxRecDepth 4000
set_option maxHeartbeats 1600000
namespace Lite
open Go Go.RowKit
section
variable {P : Program} {KK : Value → World → Prop} {e : TypeId} {sz base : Nat} {w : World} {s x : Value} {xs ys : List (Cs sz)}
end
end Lite
end
section
/- Lite: rows that are made new in place, element by element. -/
set_option maxRecDepth 4000
set_option maxHeartbeats 1600000
namespace Lite
open Go Go.RowKit
theorem Mod.monoK {A B : Nat → Prop} {a b : World} (h : Mod A a b) (h1 : ∀ i, A i → B i) : Mod B a b := ⟨h.os, h.tape, h.output, h.size, fun i hi hn => h.block i hi fun e => hn (h1 i e)⟩
section
variable {e : TypeId} {sz base : Nat} {w w' : World} {css : List (Cs sz)}
/-- A slot of an element is written: what the row is then. -/
theorem K.stP {a : Addr} {n c i f : Nat} {v : Value} {KW : World → Prop} {t} (h : OwC e sz base w (.slice (some a) n c) css) (hi : i < css.length) (hf : f < sz) (hv : v.oneCell' = true)
    (hk : ∀ w1 (y : List (Cs sz)), Wr a.block w w1 → OwC e sz base w1 (.slice (some a) n c) y → y.length = css.length → (∀ h, (y[i]'h).1 = css[i].1.set f v) → (∀ j (h1 : j < y.length) (h2 : j < css.length), j ≠ i → y[j] = css[j]) → KW w1) : StVCh (.pointer (some ((a.add (i * sz)).add f))) v w KW t :=
  K.stO h hi hf hv fun w1 hw ho => hk w1 _ hw ho (by rw [List.length_set]) (fun _ => by rw [List.getElem_set_self]; rfl) fun j h1 h2 hj => by rw [List.getElem_set_ne (fun e => hj e.symm)]
end
/-- A row whose first elements are new already. -/
structure RowSt {α : Type} (C : World → List Value → α → Prop) (e : TypeId) (sz base : Nat) (v : Value) (w0 ws : World) (xs : List α) (k : Nat) (x : List (Cs sz)) (W : World) : Prop where
  m : Mod (fun i => v.ownBlock = some i) ws W
  blk : ∀ i, v.ownBlock = some i → base ≤ i ∧ i < ws.heap.size ∧ ∃ cur, ws.heap[i]? = some (.cells cur e)
  len : x.length = xs.length
  own : OwC e sz base W v x
  new : ∀ i (h1 : i < x.length) (h2 : i < xs.length), i < k → Stab (fun j => j < ws.heap.size) (fun w => C w x[i].1 xs[i]) W
  old : ∀ i (h1 : i < x.length) (h2 : i < xs.length), k ≤ i → C w0 x[i].1 xs[i]
section
variable {α : Type} {C : World → List Value → α → Prop} {e : TypeId} {sz base : Nat} {v : Value} {w0 ws : World} {xs : List α} {k : Nat} {x : List (Cs sz)} {W : World}
theorem RowSt.start (ho : OwC e sz base ws v x) (hl : x.length = xs.length) (hc : ∀ i (h1 : i < x.length) (h2 : i < xs.length), C w0 x[i].1 xs[i]) : RowSt C e sz base v w0 ws xs 0 x ws :=
  ⟨Mod.refl _ _, fun i hi => ⟨(OwR.lt ho i hi).1, (OwR.lt ho i hi).2, OwR.blk ho i hi⟩, hl, ho, fun _ _ _ h => absurd h (Nat.not_lt_zero _), fun i h1 h2 _ => hc i h1 h2⟩
theorem RowSt.obj (h : RowSt C e sz base v w0 ws xs k x W) {i : Nat} {c : Array Value} {t : TypeId} (hi : ws.heap[i]? = some (.cells c t)) (ht : t ≠ e) : W.heap[i]? = some (.cells c t) :=
  h.m.obj (fun q => by
    obtain ⟨_, _, cur, h1⟩ := h.blk i q
    rw [hi] at h1
    injection h1 with h1
    injection h1 with _ h1
    exact ht h1) hi
theorem RowSt.row (h : RowSt C e sz base v w0 ws xs k x W) {e' : TypeId} {sz' base' : Nat} {v' : Value} {x' : List (Cs sz')} (ho : OwC e' sz' base' ws v' x') (ht : e' ≠ e) : OwC e' sz' base' W v' x' :=
  OwR.mod ho h.m fun i hi q => by
    obtain ⟨_, _, cur, h1⟩ := h.blk i q
    obtain ⟨cur', h2⟩ := OwR.blk ho i hi
    rw [h1] at h2
    injection h2 with h2
    injection h2 with _ h2
    exact ht h2.symm
theorem RowSt.ext {w1 : World} (h : RowSt C e sz base v w0 ws xs k x W) (he : Ext w1 ws) (hb : w1.heap.size ≤ base) : Ext w1 W := h.m.ext he fun i hi q => by have := (h.blk i q).1; omega
theorem RowSt.step {W' : World} {y : List (Cs sz)} (h : RowSt C e sz base v w0 ws xs k x W) (m : Mod (fun i => v.ownBlock = some i) W W') (hl : y.length = x.length) (ho : OwC e sz base W' v y) (hk : k < x.length) (hk2 : k < xs.length) (hy : ∀ j (h1 : j < y.length) (h2 : j < x.length), j ≠ k → y[j] = x[j])
    (hn : Stab (fun j => j < ws.heap.size) (fun w => C w (y[k]'(by omega)).1 xs[k]) W') : RowSt C e sz base v w0 ws xs (k + 1) y W' := by
  refine ⟨h.m.trans m, h.blk, hl.trans h.len, ho, fun i h1 h2 hik => ?_, fun i h1 h2 hik => ?_⟩
  · by_cases hi : i = k
    · subst hi; exact hn
    · rw [hy i h1 (by omega) hi]
      exact (h.new i (by omega) h2 (by omega)).move m (fun j _ q => (h.blk j q).2.1) fun _ _ q => q
  · rw [hy i h1 (by omega) (by omega)]
    exact h.old i (by omega) h2 (by omega)
theorem RowSt.stab {R : World → Addr → α → Prop} [Rel R C sz] {B : Nat → Prop} (h : RowSt C e sz base v w0 ws xs k x W) (hk : xs.length ≤ k) (h1 : ∀ i, v.ownBlock = some i → ¬ B i) (h2 : ∀ i, B i → i < ws.heap.size) : Stab B (fun W => SlR sz R W v xs) W := fun W' m => by
  have ho := OwR.mod h.own m h1
  refine SlR.ofCells h.len (OwR.slr encC_len ho) fun i q1 q2 => h.new i q1 q2 (by omega) W' (Mod.monoK m h2)
theorem RowSt.done {R : World → Addr → α → Prop} [Rel R C sz] {b0 : Nat} (h : RowSt C e sz base v w0 ws xs k x W) (hk : xs.length ≤ k) (h1 : b0 ≤ base) (h2 : b0 ≤ ws.heap.size) : Stab (fun j => j < b0) (fun W => SlR sz R W v xs) W :=
  h.stab hk (fun i q hi => by have := (h.blk i q).1; omega) fun i hi => by omega
end
end Lite
end
section
/- Models copied: model.Copy, any model (its orders are printed by copyorders.py: ModU.tmpl). -/
set_option maxRecDepth 4000
set_option maxHeartbeats 64000000
namespace Go.Proofs.YtbbaokmelkiemaaGreatDoor
open Go Go.RowKit Lite
theorem cclone0_r (v : Value) (xs : List Abs.Cmd) {w0 : World} (w : World) (h : Abs.Cmds w0 v xs) (e0 : Ext w0 w) (hb : Abs.big xs.length 88) :
    Ret Tryz.prog F.slices_Clone_sl_api_Cmd_api_Cmd #[v] w fun v' w' => (∃ css : List (Cs 6), css.length = xs.length ∧ OwC T.api_Cmd 6 w.heap.size w' v' css ∧ ∀ i (h1 : i < css.length) (h2 : i < xs.length), Abs.CmdIs w0 css[i].1 xs[i]) ∧ Ext w w' :=
  clone0_r hmix E.slices_Clone_sl_api_Cmd_api_Cmd (by kernel_rfl) v xs w h e0 (by unfold Abs.big at hb; omega)
theorem aclone0_r (v : Value) (xs : List Abs.Act) {w0 : World} (w : World) (h : Abs.Acts w0 v xs) (e0 : Ext w0 w) (hb : Abs.big xs.length 72) :
    Ret Tryz.prog F.slices_Clone_sl_api_Act_api_Act #[v] w fun v' w' => (∃ css : List (Cs 5), css.length = xs.length ∧ OwC T.api_Act 5 w.heap.size w' v' css ∧ ∀ i (h1 : i < css.length) (h2 : i < xs.length), Abs.ActIs w0 css[i].1 xs[i]) ∧ Ext w w' :=
  clone0_r hmix E.slices_Clone_sl_api_Act_api_Act (by kernel_rfl) v xs w h e0 (by unfold Abs.big at hb; omega)
theorem some_of {e : TypeId} {sz base n c : Nat} {w : World} {oa : Option Addr} {css : List (Cs sz)} (h : OwC e sz base w (.slice oa n c) css) (hn : 0 < css.length) : ∃ a, oa = some a := by
  cases oa with
  | some a => exact ⟨a, rfl⟩
  | none => rcases h.2 with ⟨_, h0⟩ | ⟨_, _, _, h1, _⟩
            · omega
            · cases h1
theorem copyG_r (cs : List Value) (m : Abs.Model) (w : World) (h : Abs.ModelIs w cs m) (hg : m.good) :
    Ret Tryz.prog F.model_Copy #[.agg cs.toArray] w fun v w' => (∃ cs', v = .agg cs'.toArray ∧ New w (fun w => Abs.ModelIs w cs' m) w') ∧ Ext w w' := by
  obtain ⟨o0, c0, o1, c1, o2, c2, o3, c3, o4, c4, rfl, h0, h1, h2, h3, h4, l0, l1, l2, l3, l4⟩ := h.form
  refine K.start hmix E.model_Copy (args := [_]) (Nat.le_of_ble_eq_true rfl) ?_; dsimp only [C.model_Copy,yt,yi,yb,yp,yr,ye,yc,yv,yg,ym,yw,ya,yl,yx,ys,yn]
  simp -dsimp only [B9]
  refine Su ?_
  intro w1 b1 hb1 he1 hc1
  refine Su ?_
  intro w2 b2 hb2 he2 hc2
  replace hc1 := he2.obj hc1
  have e2 := he1.trans he2
  have r2 := Ext.refl w2
  have z1 := lt_of_heap hc1
  have z2 := lt_of_heap hc2
  have z3 := he1.size
  have z4 := he2.size
  refine Su ?_
  refine K.cutG [1, 2] (fun b3 => [(3, .pointer (some ⟨b3, 0, none⟩))]) (fun b3 w' => ∃ wa, w2.heap.size ≤ b3 ∧ Ext w2 w' ∧ w.heap.size ≤ wa.heap.size ∧ w2.heap.size ≤ wa.heap.size ∧ Mod (fun i => i = b3) wa w' ∧ ∃ s0 s1 s2 s3 s4 : SlP, w'.heap[b3]? = some (.cells #[slv s0, slv s1, slv s2, slv s3, slv s4] T.api_Model) ∧
    NB w2 b3 (fun w => Abs.Scalars w (slv s0) m.scalars) wa ∧ NB w2 b3 (fun w => Abs.Vars w (slv s1) m.vars) wa ∧ NB w2 b3 (fun w => Abs.Chans w (slv s2) m.chans) wa ∧
    (∃ ps : List (Cs 5), ps.length = m.procs.length ∧ OwC T.api_Proc 5 wa.heap.size w' (slv s3) ps ∧ ∀ i (h1 : i < ps.length) (h2 : i < m.procs.length), Abs.ProcIs w ps[i].1 m.procs[i]) ∧
    (∃ qs : List (Cs 2), qs.length = m.props.length ∧ OwC T.api_Prop 2 wa.heap.size w' (slv s4) qs ∧ ∀ i (h1 : i < qs.length) (h2 : i < m.props.length), Abs.PrpIs w qs[i].1 m.props[i])) ?_ ?_
  · refine Sg ?_
    intro w3 he3
    replace hc1 := he3.obj hc1
    have e3 := e2.trans he3
    have r3 := Ext.refl w3
    have z5 := he3.size
    refine Sg ?_
    refine ⟨?_, ?_⟩
    · refine Sg ?_
      refine K.call (sclone_r _ m.scalars w3 (h0.ext e3) hg.scalars) ?_
      rintro _ w4 ⟨⟨s0, d0, rfl⟩, n0, x⟩
      replace n0 := n0.low (he3.trans r3).size
      have r4 := r3.trans x
      have e4 := e3.trans x
      refine ⟨r4, ?_⟩
      refine Sg ?_
      refine ⟨?_, ?_⟩
      · refine Sg ?_
        refine K.call (vclone_r _ m.vars w4 (h1.ext e4) hg.vars) ?_
        rintro _ w5 ⟨⟨s1, d1, rfl⟩, n1, x⟩
        replace n1 := n1.low (he3.trans r4).size
        replace n0 := n0.ext x (he3.trans r4).size
        have r5 := r4.trans x
        have e5 := e4.trans x
        refine ⟨r5, ?_⟩
        refine Sg ?_
        refine ⟨?_, ?_⟩
        · refine Sg ?_
          refine K.call (chclone_r _ m.chans w5 (h2.ext e5) hg.chans) ?_
          rintro _ w6 ⟨⟨s2, d2, rfl⟩, n2, x⟩
          replace n2 := n2.low (he3.trans r5).size
          replace n0 := n0.ext x (he3.trans r5).size
          replace n1 := n1.ext x (he3.trans r5).size
          have r6 := r5.trans x
          have e6 := e5.trans x
          refine ⟨r6, ?_⟩
          refine Sg ?_
          refine ⟨?_, ?_⟩
          · refine Sg ?_
            have r3a := he3.trans r6
            refine K.call (pclone0_r _ m.procs w6 h3 e6 hg.procs) ?_
            rintro _ w7 ⟨⟨ps, pl, po, pc⟩, x⟩
            obtain ⟨s3, d3, rfl, _⟩ := OwR.form po
            have ya := x
            have r7 := r6.trans x
            have e7 := e6.trans x
            refine ⟨r7, ?_⟩
            refine Sg ?_
            refine ⟨?_, ?_⟩
            · refine Sg ?_
              refine K.call (prclone0_r _ m.props w7 h4 e7 hg.props) ?_
              rintro _ w8 ⟨⟨qs, ql, qo, qc⟩, x⟩
              obtain ⟨s4, d4, rfl, _⟩ := OwR.form qo
              replace qo := OwR.low ya.size qo
              replace ya := ya.trans x
              replace po := po.ext x
              have r8 := r7.trans x
              have e8 := e7.trans x
              refine Sg ?_
              intro w9 b3 hb3 x hc0
              have zw := r8.size
              have zv := e8.size
              have zu := (he3.trans r8).size
              have hb3a := Nat.le_trans ya.size hb3
              replace ya := ya.trans x
              replace po := po.ext x
              replace qo := qo.ext x
              have r9 := r8.trans x
              have e9 := e8.trans x
              refine ⟨r9, ?_⟩
              refine Sg ?_
              refine Sg ?_
              intro w10 hw hc3
              have es := hw.ext (he3.trans r9) (by omega)
              exact ⟨b3, by first | trivial | rfl, w6, by omega, es, e6.size, r3a.size, (Ext.wrm ya hw), (_, _, _), (_, _, _), (_, _, _), (_, _, _), (_, _, _), hc3, n0.at hb3a, n1.at hb3a, n2.at hb3a, ⟨ps, pl, OwC.wrT po hw hc0 (by decide), pc⟩, qs, ql, OwC.wrT qo hw hc0 (by decide), qc⟩
            · refine Sg ?_
              intro w8 b3 hb3 x hc0
              have zw := r7.size
              have zv := e7.size
              have zu := (he3.trans r7).size
              have hb3a := Nat.le_trans ya.size hb3
              replace ya := ya.trans x
              replace po := po.ext x
              have r8 := r7.trans x
              have e8 := e7.trans x
              refine ⟨r8, ?_⟩
              refine Sg ?_
              have zb := lt_of_heap hc0
              refine K.call (prclone0_r _ m.props w8 h4 e8 hg.props) ?_
              rintro _ w9 ⟨⟨qs, ql, qo, qc⟩, x⟩
              obtain ⟨s4, d4, rfl, _⟩ := OwR.form qo
              replace qo := OwR.low ya.size qo
              replace ya := ya.trans x
              replace po := po.ext x
              replace hc0 := x.obj hc0
              have r9 := r8.trans x
              have e9 := e8.trans x
              refine Sg ?_
              refine Sg ?_
              intro w10 hw hc3
              have es := hw.ext (he3.trans r9) (by omega)
              exact ⟨b3, by first | trivial | rfl, w6, by omega, es, e6.size, r3a.size, (Ext.wrm ya hw), (_, _, _), (_, _, _), (_, _, _), (_, _, _), (_, _, _), hc3, n0.at hb3a, n1.at hb3a, n2.at hb3a, ⟨ps, pl, OwC.wrT po hw hc0 (by decide), pc⟩, qs, ql, OwC.wrT qo hw hc0 (by decide), qc⟩
          · refine Sg ?_
            intro w7 b3 hb3 x hc0
            have zw := r6.size
            have zv := e6.size
            have zu := (he3.trans r6).size
            replace n0 := New.box n0 x hb3
            replace n1 := New.box n1 x hb3
            replace n2 := New.box n2 x hb3
            have r7 := r6.trans x
            have e7 := e6.trans x
            refine ⟨r7, ?_⟩
            refine Sg ?_
            have zb := lt_of_heap hc0
            have r3a := he3.trans r7
            refine K.call (pclone0_r _ m.procs w7 h3 e7 hg.procs) ?_
            rintro _ w8 ⟨⟨ps, pl, po, pc⟩, x⟩
            obtain ⟨s3, d3, rfl, _⟩ := OwR.form po
            have ya := x
            replace hc0 := x.obj hc0
            have r8 := r7.trans x
            have e8 := e7.trans x
            refine ⟨r8, ?_⟩
            refine Sg ?_
            have zb := lt_of_heap hc0
            refine K.call (prclone0_r _ m.props w8 h4 e8 hg.props) ?_
            rintro _ w9 ⟨⟨qs, ql, qo, qc⟩, x⟩
            obtain ⟨s4, d4, rfl, _⟩ := OwR.form qo
            replace qo := OwR.low ya.size qo
            replace ya := ya.trans x
            replace po := po.ext x
            replace hc0 := x.obj hc0
            have r9 := r8.trans x
            have e9 := e8.trans x
            refine Sg ?_
            refine Sg ?_
            intro w10 hw hc3
            have es := hw.ext (he3.trans r9) (by omega)
            exact ⟨b3, by first | trivial | rfl, w7, by omega, es, e7.size, r3a.size, (Ext.wrm ya hw), (_, _, _), (_, _, _), (_, _, _), (_, _, _), (_, _, _), hc3, n0, n1, n2, ⟨ps, pl, OwC.wrT po hw hc0 (by decide), pc⟩, qs, ql, OwC.wrT qo hw hc0 (by decide), qc⟩
        · refine Sg ?_
          intro w6 b3 hb3 x hc0
          have zw := r5.size
          have zv := e5.size
          have zu := (he3.trans r5).size
          replace n0 := New.box n0 x hb3
          replace n1 := New.box n1 x hb3
          have r6 := r5.trans x
          have e6 := e5.trans x
          refine ⟨r6, ?_⟩
          refine Sg ?_
          have zb := lt_of_heap hc0
          refine K.call (chclone_r _ m.chans w6 (h2.ext e6) hg.chans) ?_
          rintro _ w7 ⟨⟨s2, d2, rfl⟩, n2, x⟩
          replace n2 := NB.of n2 (he3.trans r6).size zb
          replace n0 := n0.ext x (he3.trans r6).size (by omega)
          replace n1 := n1.ext x (he3.trans r6).size (by omega)
          replace hc0 := x.obj hc0
          have r7 := r6.trans x
          have e7 := e6.trans x
          refine ⟨r7, ?_⟩
          refine Sg ?_
          have zb := lt_of_heap hc0
          have r3a := he3.trans r7
          refine K.call (pclone0_r _ m.procs w7 h3 e7 hg.procs) ?_
          rintro _ w8 ⟨⟨ps, pl, po, pc⟩, x⟩
          obtain ⟨s3, d3, rfl, _⟩ := OwR.form po
          have ya := x
          replace hc0 := x.obj hc0
          have r8 := r7.trans x
          have e8 := e7.trans x
          refine ⟨r8, ?_⟩
          refine Sg ?_
          have zb := lt_of_heap hc0
          refine K.call (prclone0_r _ m.props w8 h4 e8 hg.props) ?_
          rintro _ w9 ⟨⟨qs, ql, qo, qc⟩, x⟩
          obtain ⟨s4, d4, rfl, _⟩ := OwR.form qo
          replace qo := OwR.low ya.size qo
          replace ya := ya.trans x
          replace po := po.ext x
          replace hc0 := x.obj hc0
          have r9 := r8.trans x
          have e9 := e8.trans x
          refine Sg ?_
          refine Sg ?_
          intro w10 hw hc3
          have es := hw.ext (he3.trans r9) (by omega)
          exact ⟨b3, by first | trivial | rfl, w7, by omega, es, e7.size, r3a.size, (Ext.wrm ya hw), (_, _, _), (_, _, _), (_, _, _), (_, _, _), (_, _, _), hc3, n0, n1, n2, ⟨ps, pl, OwC.wrT po hw hc0 (by decide), pc⟩, qs, ql, OwC.wrT qo hw hc0 (by decide), qc⟩
      · refine Sg ?_
        intro w5 b3 hb3 x hc0
        have zw := r4.size
        have zv := e4.size
        have zu := (he3.trans r4).size
        replace n0 := New.box n0 x hb3
        have r5 := r4.trans x
        have e5 := e4.trans x
        refine ⟨r5, ?_⟩
        refine Sg ?_
        have zb := lt_of_heap hc0
        refine K.call (vclone_r _ m.vars w5 (h1.ext e5) hg.vars) ?_
        rintro _ w6 ⟨⟨s1, d1, rfl⟩, n1, x⟩
        replace n1 := NB.of n1 (he3.trans r5).size zb
        replace n0 := n0.ext x (he3.trans r5).size (by omega)
        replace hc0 := x.obj hc0
        have r6 := r5.trans x
        have e6 := e5.trans x
        refine ⟨r6, ?_⟩
        refine Sg ?_
        have zb := lt_of_heap hc0
        refine K.call (chclone_r _ m.chans w6 (h2.ext e6) hg.chans) ?_
        rintro _ w7 ⟨⟨s2, d2, rfl⟩, n2, x⟩
        replace n2 := NB.of n2 (he3.trans r6).size zb
        replace n0 := n0.ext x (he3.trans r6).size (by omega)
        replace n1 := n1.ext x (he3.trans r6).size (by omega)
        replace hc0 := x.obj hc0
        have r7 := r6.trans x
        have e7 := e6.trans x
        refine ⟨r7, ?_⟩
        refine Sg ?_
        have zb := lt_of_heap hc0
        have r3a := he3.trans r7
        refine K.call (pclone0_r _ m.procs w7 h3 e7 hg.procs) ?_
        rintro _ w8 ⟨⟨ps, pl, po, pc⟩, x⟩
        obtain ⟨s3, d3, rfl, _⟩ := OwR.form po
        have ya := x
        replace hc0 := x.obj hc0
        have r8 := r7.trans x
        have e8 := e7.trans x
        refine ⟨r8, ?_⟩
        refine Sg ?_
        have zb := lt_of_heap hc0
        refine K.call (prclone0_r _ m.props w8 h4 e8 hg.props) ?_
        rintro _ w9 ⟨⟨qs, ql, qo, qc⟩, x⟩
        obtain ⟨s4, d4, rfl, _⟩ := OwR.form qo
        replace qo := OwR.low ya.size qo
        replace ya := ya.trans x
        replace po := po.ext x
        replace hc0 := x.obj hc0
        have r9 := r8.trans x
        have e9 := e8.trans x
        refine Sg ?_
        refine Sg ?_
        intro w10 hw hc3
        have es := hw.ext (he3.trans r9) (by omega)
        exact ⟨b3, by first | trivial | rfl, w7, by omega, es, e7.size, r3a.size, (Ext.wrm ya hw), (_, _, _), (_, _, _), (_, _, _), (_, _, _), (_, _, _), hc3, n0, n1, n2, ⟨ps, pl, OwC.wrT po hw hc0 (by decide), pc⟩, qs, ql, OwC.wrT qo hw hc0 (by decide), qc⟩
    · refine Sg ?_
      intro w4 b3 hb3 x hc0
      have zw := r3.size
      have zv := e3.size
      have zu := (he3.trans r3).size
      have r4 := r3.trans x
      have e4 := e3.trans x
      refine ⟨r4, ?_⟩
      refine Sg ?_
      have zb := lt_of_heap hc0
      refine K.call (sclone_r _ m.scalars w4 (h0.ext e4) hg.scalars) ?_
      rintro _ w5 ⟨⟨s0, d0, rfl⟩, n0, x⟩
      replace n0 := NB.of n0 (he3.trans r4).size zb
      replace hc0 := x.obj hc0
      have r5 := r4.trans x
      have e5 := e4.trans x
      refine ⟨r5, ?_⟩
      refine Sg ?_
      have zb := lt_of_heap hc0
      refine K.call (vclone_r _ m.vars w5 (h1.ext e5) hg.vars) ?_
      rintro _ w6 ⟨⟨s1, d1, rfl⟩, n1, x⟩
      replace n1 := NB.of n1 (he3.trans r5).size zb
      replace n0 := n0.ext x (he3.trans r5).size (by omega)
      replace hc0 := x.obj hc0
      have r6 := r5.trans x
      have e6 := e5.trans x
      refine ⟨r6, ?_⟩
      refine Sg ?_
      have zb := lt_of_heap hc0
      refine K.call (chclone_r _ m.chans w6 (h2.ext e6) hg.chans) ?_
      rintro _ w7 ⟨⟨s2, d2, rfl⟩, n2, x⟩
      replace n2 := NB.of n2 (he3.trans r6).size zb
      replace n0 := n0.ext x (he3.trans r6).size (by omega)
      replace n1 := n1.ext x (he3.trans r6).size (by omega)
      replace hc0 := x.obj hc0
      have r7 := r6.trans x
      have e7 := e6.trans x
      refine ⟨r7, ?_⟩
      refine Sg ?_
      have zb := lt_of_heap hc0
      have r3a := he3.trans r7
      refine K.call (pclone0_r _ m.procs w7 h3 e7 hg.procs) ?_
      rintro _ w8 ⟨⟨ps, pl, po, pc⟩, x⟩
      obtain ⟨s3, d3, rfl, _⟩ := OwR.form po
      have ya := x
      replace hc0 := x.obj hc0
      have r8 := r7.trans x
      have e8 := e7.trans x
      refine ⟨r8, ?_⟩
      refine Sg ?_
      have zb := lt_of_heap hc0
      refine K.call (prclone0_r _ m.props w8 h4 e8 hg.props) ?_
      rintro _ w9 ⟨⟨qs, ql, qo, qc⟩, x⟩
      obtain ⟨s4, d4, rfl, _⟩ := OwR.form qo
      replace qo := OwR.low ya.size qo
      replace ya := ya.trans x
      replace po := po.ext x
      replace hc0 := x.obj hc0
      have r9 := r8.trans x
      have e9 := e8.trans x
      refine Sg ?_
      refine Sg ?_
      intro w10 hw hc3
      have es := hw.ext (he3.trans r9) (by omega)
      exact ⟨b3, by first | trivial | rfl, w7, by omega, es, e7.size, r3a.size, (Ext.wrm ya hw), (_, _, _), (_, _, _), (_, _, _), (_, _, _), (_, _, _), hc3, n0, n1, n2, ⟨ps, pl, OwC.wrT po hw hc0 (by decide), pc⟩, qs, ql, OwC.wrT qo hw hc0 (by decide), qc⟩
  · rintro b3 S3 w4 ⟨wa, hb3, e4, za, za2, ma, s0, s1, s2, s3, ⟨o4', n4', d4'⟩, hc3, n0, n1, n2, ⟨ps, pl, po, pc⟩, qs, ql, qo, qc⟩
    obtain ⟨_, _, ev, _, _⟩ := OwR.form qo
    unfold slv at ev
    injection ev with e1 e2' e3
    obtain ⟨_, _, ev, _, _⟩ := OwR.form po
    unfold slv at ev
    injection ev with e5 e6 e7
    dsimp only at e2' e6
    subst e2'
    have e6' : s3.2.1 = ps.length := e6
    replace hc2 := e4.obj hc2
    unfold slv at hc3
    obtain ⟨o3', n3', d3'⟩ := s3
    dsimp only at e6' hc3
    subst e6'
    unfold slv at po qo
    dsimp only at po qo
    clear hc1 e5 e6 e7 e1 e3
    have hc3' := hc3
    have hc2' := hc2
    have sP0 : RowSt Abs.ProcIs T.api_Proc 5 wa.heap.size (.slice o3' ps.length d3') w w4 m.procs 0 ps w4 := RowSt.start po pl pc
    have e4w := e2.trans e4
    have y1 := ma.size
    refine Sg ?_
    refine K.forG 29 ps.length [2, 3, 28] (fun _ : List (Cs 5) => []) ps (fun k x w' => RowSt Abs.ProcIs T.api_Proc 5 wa.heap.size (.slice o3' ps.length d3') w w4 m.procs k x w') (by first | trivial | rfl | exact ⟨rfl, trivial⟩ | (simp -dsimp only [LL,slots_nil,slots_cons,keepV_nil,keepV_cons,has_nil,has_cons,Nat.reduceAdd,Nat.reduceEqDiff,reduceIte,and_self]; done) | (simp -dsimp only [LL,slots_nil,slots_cons,keepV_nil,keepV_cons,has_nil,has_cons,Nat.reduceAdd,Nat.reduceEqDiff,reduceIte,and_self]; exact ⟨rfl, trivial⟩)) (by first | trivial | rfl | exact ⟨rfl, trivial⟩ | (simp -dsimp only [LL,slots_nil,slots_cons,keepV_nil,keepV_cons,has_nil,has_cons,Nat.reduceAdd,Nat.reduceEqDiff,reduceIte,and_self]; done) | (simp -dsimp only [LL,slots_nil,slots_cons,keepV_nil,keepV_cons,has_nil,has_cons,Nat.reduceAdd,Nat.reduceEqDiff,reduceIte,and_self]; exact ⟨rfl, trivial⟩)) sP0 ?_
    clear hc2 hc3 sP0
    rintro k x S w6 hk sP
    have hc3 := sP.obj hc3' (by decide)
    have hc2 := sP.obj hc2' (by decide)
    have e6 : Ext w w6 := sP.ext e4w za
    have y2 := sP.m.size
    refine Sg ?_
    refine K.cond (fun g1 => ?_) (fun g1 => ?_)
    · have hk' : k < ps.length := by omega
      have hkx : k < x.length := by rw [sP.len, ← pl]; exact hk'
      have hkm : k < m.procs.length := by omega
      obtain ⟨a, rfl⟩ := some_of po (by omega)
      obtain ⟨hsn, vv, vc, hxe, hvv, hvc⟩ := sP.old k hkx hkm (Nat.le_refl _)
      have hce := OwC.at sP.own hkx
      rw [hxe] at hce
      obtain ⟨ov, cv, rfl, _⟩ := hvv.form
      obtain ⟨oc, cc, rfl, _⟩ := hvc.form
      have hgp := hg.proc _ (List.getElem_mem hkm)
      have hb6 := OwC.blk1 po
      refine Sg ?_
      refine K.call (vclone_r _ m.procs[k].vars w6 (hvv.ext e6) hgp.vars) ?_
      rintro _ w7 ⟨⟨o7, d7, rfl⟩, n7, he7⟩
      replace hc3 := he7.obj hc3
      refine Sg ?_
      refine K.stP (OwR.ext he7 sP.own) hkx (by decide) rfl fun w8 x8 hw8 xo8 xl8 xk8 xj8 => ?_
      have x8k : k < x8.length := by omega
      have hx8 : (x8[k]).1 = [.string m.procs[k].name, .int .i64 m.procs[k].over, .int .i64 m.procs[k].locs, .slice o7 m.procs[k].vars.length d7, .slice oc m.procs[k].cmds.length cc] := by rw [xk8, hxe]; rfl
      replace hc3 := hw8.obj hc3 (OwC.ne (OwR.ext he7 sP.own) hc3 (by decide))
      have e8 := hw8.ext (e6.trans he7) (by omega)
      replace hce := OwC.at xo8 x8k
      rw [hx8] at hce
      refine Sg ?_
      refine K.call (cclone0_r (w0 := w) _ m.procs[k].cmds w8 hvc e8 hgp.cmds) ?_
      rintro _ w9 ⟨⟨cs, cl, co, hcc⟩, he9⟩
      obtain ⟨oq, dq, rfl, _⟩ := OwR.form co
      replace hc3 := he9.obj hc3
      refine Sg ?_
      refine K.stP (OwR.ext he9 xo8) x8k (by decide) rfl fun w10 x10 hw10 xo10 xl10 xk10 xj10 => ?_
      have x10k : k < x10.length := by omega
      have hx10 : (x10[k]).1 = [.string m.procs[k].name, .int .i64 m.procs[k].over, .int .i64 m.procs[k].locs, .slice o7 m.procs[k].vars.length d7, .slice oq cs.length dq] := by rw [xk10, hx8]; rfl
      replace hc3 := hw10.obj hc3 (OwC.ne (OwR.ext he9 xo8) hc3 (by decide))
      have e10 := hw10.ext (e8.trans he9) (by omega)
      have co10 := OwC.wrT co hw10 (OwC.blk1 (OwR.ext he9 xo8)).2.2.choose_spec (by decide)
      replace hce := OwC.at xo10 x10k
      rw [hx10] at hce
      have y7 := he7.size
      have y8 := hw8.size
      have y9 := he9.size
      have y10 := hw10.size
      have sC0 : RowSt Abs.CmdIs T.api_Cmd 6 w8.heap.size (.slice oq cs.length dq) w w10 m.procs[k].cmds 0 cs w10 := RowSt.start co10 cl hcc
      have hc3P := hc3
      refine Sg ?_
      refine K.forG 57 cs.length [2, 3, 5, 28, 29, 56] (fun _ : List (Cs 6) => []) cs (fun j y w' => RowSt Abs.CmdIs T.api_Cmd 6 w8.heap.size (.slice oq cs.length dq) w w10 m.procs[k].cmds j y w') (by first | trivial | rfl | exact ⟨rfl, trivial⟩ | (simp -dsimp only [LL,slots_nil,slots_cons,keepV_nil,keepV_cons,has_nil,has_cons,Nat.reduceAdd,Nat.reduceEqDiff,reduceIte,and_self]; done) | (simp -dsimp only [LL,slots_nil,slots_cons,keepV_nil,keepV_cons,has_nil,has_cons,Nat.reduceAdd,Nat.reduceEqDiff,reduceIte,and_self]; exact ⟨rfl, trivial⟩)) (by first | trivial | rfl | exact ⟨rfl, trivial⟩ | (simp -dsimp only [LL,slots_nil,slots_cons,keepV_nil,keepV_cons,has_nil,has_cons,Nat.reduceAdd,Nat.reduceEqDiff,reduceIte,and_self]; done) | (simp -dsimp only [LL,slots_nil,slots_cons,keepV_nil,keepV_cons,has_nil,has_cons,Nat.reduceAdd,Nat.reduceEqDiff,reduceIte,and_self]; exact ⟨rfl, trivial⟩)) sC0 ?_
      clear hc2 hc3 hce sC0
      rintro j y S w11 hj sC
      have hc3 := sC.obj hc3P (by decide)
      have xo11 := sC.row xo10 (by decide)
      have hce := OwC.at xo11 x10k
      rw [hx10] at hce
      have e11 : Ext w w11 := sC.ext e10 (by omega)
      have y11 := sC.m.size
      refine Sg ?_
      refine K.cond (fun g2 => ?_) (fun g2 => ?_)
      · have hj' : j < cs.length := by omega
        have hjy : j < y.length := by rw [sC.len, ← cl]; exact hj'
        have hjm : j < m.procs[k].cmds.length := by omega
        obtain ⟨ac, rfl⟩ := some_of co (by omega)
        obtain ⟨hsc, vg, va, hye, hvg, hva⟩ := sC.old j hjy hjm (Nat.le_refl _)
        have hcd := OwC.at sC.own hjy
        rw [hye] at hcd
        obtain ⟨og, cg, rfl, _⟩ := hvg.form
        obtain ⟨oA, cA, rfl, _⟩ := hva.form
        have hgc := hgp.cmd _ (List.getElem_mem hjm)
        have hbc := OwC.blk1 co10
        refine Sg ?_
        refine K.call (mnodes_r _ m.procs[k].cmds[j].guard w11 (hvg.ext e11) hgc.guard) ?_
        rintro _ w12 ⟨⟨o12, d12, rfl⟩, n12, he12⟩
        replace hc3 := he12.obj hc3
        refine Sg ?_
        refine K.stP (OwR.ext he12 sC.own) hjy (by decide) rfl fun w13 y13 hw13 yo13 yl13 yk13 yj13 => ?_
        have y13j : j < y13.length := by omega
        have hy13 : (y13[j]).1 = [.string m.procs[k].cmds[j].name, .int .i64 m.procs[k].cmds[j].from_, .int .i64 m.procs[k].cmds[j].to, .slice o12 m.procs[k].cmds[j].guard.length d12, .slice oA m.procs[k].cmds[j].acts.length cA, .bool m.procs[k].cmds[j].fair] := by rw [yk13, hye]; rfl
        have yo12 := OwR.ext he12 sC.own
        replace hc3 := hw13.obj hc3 (OwC.ne yo12 hc3 (by decide))
        have y12 := he12.size
        have y13s := hw13.size
        have e13 := hw13.ext (e11.trans he12) (by have := hbc.1; omega)
        replace hcd := OwC.at yo13 y13j
        rw [hy13] at hcd
        refine Sg ?_
        refine K.call (aclone0_r (w0 := w) _ m.procs[k].cmds[j].acts w13 hva e13 hgc.acts) ?_
        rintro _ w14 ⟨⟨as', al, ao, hac⟩, he14⟩
        obtain ⟨oz, dz, rfl, _⟩ := OwR.form ao
        replace hc3 := he14.obj hc3
        have yo14 := OwR.ext he14 yo13
        refine Sg ?_
        refine K.stP yo14 y13j (by decide) rfl fun w15 y15 hw15 yo15 yl15 yk15 yj15 => ?_
        have y15j : j < y15.length := by omega
        have hy15 : (y15[j]).1 = [.string m.procs[k].cmds[j].name, .int .i64 m.procs[k].cmds[j].from_, .int .i64 m.procs[k].cmds[j].to, .slice o12 m.procs[k].cmds[j].guard.length d12, .slice oz as'.length dz, .bool m.procs[k].cmds[j].fair] := by rw [yk15, hy13]; rfl
        replace hc3 := hw15.obj hc3 (OwC.ne yo14 hc3 (by decide))
        have y14 := he14.size
        have y15s := hw15.size
        have e15 := hw15.ext (e13.trans he14) (by have := hbc.1; omega)
        have ao15 := OwC.wrT ao hw15 (OwC.blk1 yo14).2.2.choose_spec (by decide)
        replace hcd := OwC.at yo15 y15j
        rw [hy15] at hcd
        have sA0 : RowSt Abs.ActIs T.api_Act 5 w13.heap.size (.slice oz as'.length dz) w w15 m.procs[k].cmds[j].acts 0 as' w15 := RowSt.start ao15 al hac
        refine Sg ?_
        refine K.forG 87 as'.length [2, 3, 5, 7, 28, 29, 56, 57, 86] (fun _ : List (Cs 5) => []) as' (fun i z w' => RowSt Abs.ActIs T.api_Act 5 w13.heap.size (.slice oz as'.length dz) w w15 m.procs[k].cmds[j].acts i z w') (by first | trivial | rfl | exact ⟨rfl, trivial⟩ | (simp -dsimp only [LL,slots_nil,slots_cons,keepV_nil,keepV_cons,has_nil,has_cons,Nat.reduceAdd,Nat.reduceEqDiff,reduceIte,and_self]; done) | (simp -dsimp only [LL,slots_nil,slots_cons,keepV_nil,keepV_cons,has_nil,has_cons,Nat.reduceAdd,Nat.reduceEqDiff,reduceIte,and_self]; exact ⟨rfl, trivial⟩)) (by first | trivial | rfl | exact ⟨rfl, trivial⟩ | (simp -dsimp only [LL,slots_nil,slots_cons,keepV_nil,keepV_cons,has_nil,has_cons,Nat.reduceAdd,Nat.reduceEqDiff,reduceIte,and_self]; done) | (simp -dsimp only [LL,slots_nil,slots_cons,keepV_nil,keepV_cons,has_nil,has_cons,Nat.reduceAdd,Nat.reduceEqDiff,reduceIte,and_self]; exact ⟨rfl, trivial⟩)) sA0 ?_
        clear hcd hce hc3 sA0
        rintro i z S w16 hi sA
        have yo16 := sA.row yo15 (by decide)
        have hcd := OwC.at yo16 y15j
        rw [hy15] at hcd
        have e16 : Ext w w16 := sA.ext e15 (by have := e13.size; omega)
        have y16 := sA.m.size
        refine Sg ?_
        refine K.cond (fun g3 => ?_) (fun g3 => ?_)
        · have hi' : i < as'.length := by omega
          have hiz : i < z.length := by rw [sA.len, ← al]; exact hi'
          have him : i < m.procs[k].cmds[j].acts.length := by omega
          obtain ⟨az, rfl⟩ := some_of ao (by omega)
          obtain ⟨vi, vv', hze, hvi, hvv'⟩ := sA.old i hiz him (Nat.le_refl _)
          have hcz := OwC.at sA.own hiz
          rw [hze] at hcz
          obtain ⟨oi, ci, rfl, _⟩ := hvi.form
          obtain ⟨ow, cw, rfl, _⟩ := hvv'.form
          have hga := hgc.act _ (List.getElem_mem him)
          have hba := OwC.blk1 ao15
          refine Sg ?_
          intro w17 he17
          replace hcd := hcd.ext he17
          replace hcz := hcz.ext he17
          have y17 := he17.size
          refine Sg ?_
          refine K.call (mnodes_r _ m.procs[k].cmds[j].acts[i].index w17 (hvi.ext (e16.trans he17)) hga.index) ?_
          rintro _ w18 ⟨⟨o18, d18, rfl⟩, n18, he18⟩
          refine ⟨he18, ?_⟩
          have y18 := he18.size
          refine Sg ?_
          refine K.stP (OwR.ext (he17.trans he18) sA.own) hiz (by decide) rfl fun w19 z19 hw19 zo19 zl19 zk19 zj19 => ?_
          have z19i : i < z19.length := by omega
          have hz19 : (z19[i]).1 = [.int .i64 m.procs[k].cmds[j].acts[i].kind, .int .i64 m.procs[k].cmds[j].acts[i].to, .int .i64 m.procs[k].cmds[j].acts[i].loc, .slice o18 m.procs[k].cmds[j].acts[i].index.length d18, .slice ow m.procs[k].cmds[j].acts[i].value.length cw] := by rw [zk19, hze]; rfl
          have y19 := hw19.size
          have e19 := hw19.ext ((e16.trans he17).trans he18) (by have := hba.1; have := e13.size; omega)
          have yo19 := OwC.wrT (OwR.ext (he17.trans he18) yo16) hw19 (OwC.blk1 (OwR.ext (he17.trans he18) sA.own)).2.2.choose_spec (by decide)
          replace hcd := OwC.at yo19 y15j
          rw [hy15] at hcd
          replace hcz := OwC.at zo19 z19i
          rw [hz19] at hcz
          refine Sg ?_
          intro w20 he20
          replace hcd := hcd.ext he20
          replace hcz := hcz.ext he20
          have y20 := he20.size
          refine Sg ?_
          refine K.call (mnodes_r _ m.procs[k].cmds[j].acts[i].value w20 (hvv'.ext (e19.trans he20)) hga.value) ?_
          rintro _ w21 ⟨⟨o21, d21, rfl⟩, n21, he21⟩
          refine ⟨he21, ?_⟩
          have y21 := he21.size
          refine Sg ?_
          refine K.stP (OwR.ext (he20.trans he21) zo19) z19i (by decide) rfl fun w22 z22 hw22 zo22 zl22 zk22 zj22 => ?_
          have z22i : i < z22.length := by omega
          have hz22 : (z22[i]).1 = [.int .i64 m.procs[k].cmds[j].acts[i].kind, .int .i64 m.procs[k].cmds[j].acts[i].to, .int .i64 m.procs[k].cmds[j].acts[i].loc, .slice o18 m.procs[k].cmds[j].acts[i].index.length d18, .slice o21 m.procs[k].cmds[j].acts[i].value.length d21] := by rw [zk22, hz19]; rfl
          have mA : Mod (fun q => q = az.block) w18 w22 := ((hw19.mod (A := fun q => q = az.block) rfl).trans (he20.trans he21).mod).trans (hw22.mod rfl)
          have mB : Mod (fun q => (Value.slice (some az) as'.length dz).ownBlock = some q) w16 w22 := ((he17.trans he18).mod).trans (mA.monoK fun q e => by rw [e]; rfl)
          have nI : Stab (fun q => q < w15.heap.size) (fun w => Abs.Nodes w (.slice o18 m.procs[k].cmds[j].acts[i].index.length d18) m.procs[k].cmds[j].acts[i].index) w22 := n18.move mA (fun q _ e => by have := hba.2.1; omega) fun q _ e => by omega
          have nV : Stab (fun q => q < w15.heap.size) (fun w => Abs.Nodes w (.slice o21 m.procs[k].cmds[j].acts[i].value.length d21) m.procs[k].cmds[j].acts[i].value) w22 := n21.move (hw22.mod (A := fun q => q = az.block) rfl) (fun q _ e => by have := hba.2.1; omega) fun q _ e => by omega
          refine Sg ?_
          exact ⟨hi', by first | trivial | rfl, z22, trivial, sA.step mB (by omega) zo22 hiz him (fun q h1 h2 hq => (zj22 q h1 (by omega) hq).trans (zj19 q (by omega) h2 hq)) ((nI.and nV).imp fun W h => ⟨_, _, hz22, h.1, h.2⟩)⟩
        · have hia : m.procs[k].cmds[j].acts.length ≤ i := by omega
          have mC : Mod (fun q => (Value.slice (some ac) cs.length dq).ownBlock = some q) w11 w16 := ((((he12.mod (A := fun q => (Value.slice (some ac) cs.length dq).ownBlock = some q)).trans (hw13.mod rfl)).trans (he14.mod)).trans (hw15.mod rfl)).comp sA.m (fun _ _ q => q) fun q hq e => by have := (sA.blk q e).1; omega
          have mG : Mod (fun q => q = ac.block ∨ (Value.slice oz as'.length dz).ownBlock = some q) w12 w16 := ((hw13.mod (.inl rfl)).trans he14.mod).trans ((hw15.mod (.inl rfl)).trans (sA.m.monoK fun q e => .inr e))
          have nG : Stab (fun q => q < w10.heap.size) (fun w => Abs.Nodes w (.slice o12 m.procs[k].cmds[j].guard.length d12) m.procs[k].cmds[j].guard) w16 := n12.move mG (fun q hq e => by
            rcases e with e | e
            · have := hbc.2.1; omega
            · have := (sA.blk q e).1; omega) fun q _ e => by omega
          have nA : Stab (fun q => q < w10.heap.size) (fun w => Abs.Acts w (.slice oz as'.length dz) m.procs[k].cmds[j].acts) w16 := sA.done (R := Abs.RAct) hia (by omega) (by omega)
          refine Sg ?_
          exact ⟨hj', by first | trivial | rfl, y15, trivial, sC.step mC (by omega) yo16 hjy hjm (fun q h1 h2 hq => (yj15 q h1 (by omega) hq).trans (yj13 q (by omega) h2 hq)) ((nG.and nA).imp fun W h => ⟨hsc, _, _, hy15, h.1, h.2⟩)⟩
      · have hjc : m.procs[k].cmds.length ≤ j := by omega
        have mC : Mod (fun q => (Value.slice (some a) ps.length d3').ownBlock = some q) w6 w11 := ((((he7.mod (A := fun q => (Value.slice (some a) ps.length d3').ownBlock = some q)).trans (hw8.mod rfl)).trans (he9.mod)).trans (hw10.mod rfl)).comp sC.m (fun _ _ q => q) fun q hq e => by have := (sC.blk q e).1; omega
        have mG : Mod (fun q => q = a.block ∨ (Value.slice oq cs.length dq).ownBlock = some q) w7 w11 := ((hw8.mod (.inl rfl)).trans he9.mod).trans ((hw10.mod (.inl rfl)).trans (sC.m.monoK fun q e => .inr e))
        have nG : Stab (fun q => q < w4.heap.size) (fun w => Abs.Vars w (.slice o7 m.procs[k].vars.length d7) m.procs[k].vars) w11 := n7.move mG (fun q hq e => by
          rcases e with e | e
          · have := hb6.2.1; omega
          · have := (sC.blk q e).1; omega) fun q _ e => by omega
        have nA : Stab (fun q => q < w4.heap.size) (fun w => Abs.Cmds w (.slice oq cs.length dq) m.procs[k].cmds) w11 := sC.done (R := Abs.RCmd) hjc (by omega) (by omega)
        refine Sg ?_
        exact ⟨hk', by first | trivial | rfl, x10, trivial, sP.step mC (by omega) xo11 hkx hkm (fun q h1 h2 hq => (xj10 q h1 (by omega) hq).trans (xj8 q (by omega) h2 hq)) ((nG.and nA).imp fun W h => ⟨hsn, _, _, hx10, h.1, h.2⟩)⟩
    · have hkl : m.procs.length ≤ k := by omega
      have qo6 := sP.row qo (by decide)
      have hc3Q := hc3
      have hc2Q := hc2
      have sQ0 : RowSt Abs.PrpIs T.api_Prop 2 wa.heap.size (.slice o4' qs.length d4') w w6 m.props 0 qs w6 := RowSt.start qo6 ql qc
      refine Sg ?_
      refine K.forG 128 qs.length [2, 3, 127] (fun _ : List (Cs 2) => []) qs (fun i z w' => RowSt Abs.PrpIs T.api_Prop 2 wa.heap.size (.slice o4' qs.length d4') w w6 m.props i z w') (by first | trivial | rfl | exact ⟨rfl, trivial⟩ | (simp -dsimp only [LL,slots_nil,slots_cons,keepV_nil,keepV_cons,has_nil,has_cons,Nat.reduceAdd,Nat.reduceEqDiff,reduceIte,and_self]; done) | (simp -dsimp only [LL,slots_nil,slots_cons,keepV_nil,keepV_cons,has_nil,has_cons,Nat.reduceAdd,Nat.reduceEqDiff,reduceIte,and_self]; exact ⟨rfl, trivial⟩)) (by first | trivial | rfl | exact ⟨rfl, trivial⟩ | (simp -dsimp only [LL,slots_nil,slots_cons,keepV_nil,keepV_cons,has_nil,has_cons,Nat.reduceAdd,Nat.reduceEqDiff,reduceIte,and_self]; done) | (simp -dsimp only [LL,slots_nil,slots_cons,keepV_nil,keepV_cons,has_nil,has_cons,Nat.reduceAdd,Nat.reduceEqDiff,reduceIte,and_self]; exact ⟨rfl, trivial⟩)) sQ0 ?_
      clear hc2 hc3 sQ0
      rintro i z S w7 hi sQ
      have hc3 := sQ.obj hc3Q (by decide)
      have hc2 := sQ.obj hc2Q (by decide)
      have e7 : Ext w w7 := sQ.ext e6 za
      have y7 := sQ.m.size
      refine Sg ?_
      refine K.cond (fun g2 => ?_) (fun g2 => ?_)
      · have hi' : i < qs.length := by omega
        have hiz : i < z.length := by rw [sQ.len, ← ql]; exact hi'
        have him : i < m.props.length := by omega
        obtain ⟨aq, rfl⟩ := some_of qo (by omega)
        obtain ⟨hsn, ve, hze, hve⟩ := sQ.old i hiz him (Nat.le_refl _)
        have hcz := OwC.at sQ.own hiz
        rw [hze] at hcz
        obtain ⟨oe, ce, rfl, _⟩ := hve.form
        have hbq := OwC.blk1 qo6
        refine Sg ?_
        intro w8 he8
        replace hc3 := he8.obj hc3
        replace hcz := hcz.ext he8
        have y8 := he8.size
        refine Sg ?_
        refine K.call (mnodes_r _ m.props[i].expr w8 (hve.ext (e7.trans he8)) (hg.prop _ (List.getElem_mem him)).expr) ?_
        rintro _ w9 ⟨⟨o9, d9, rfl⟩, n9, he9⟩
        refine ⟨he9, ?_⟩
        have y9 := he9.size
        refine Sg ?_
        refine K.stP (OwR.ext (he8.trans he9) sQ.own) hiz (by decide) rfl fun w10 z10 hw10 zo10 zl10 zk10 zj10 => ?_
        have hz10 : (z10[i]'(by omega)).1 = [.string m.props[i].name, .slice o9 m.props[i].expr.length d9] := by rw [zk10, hze]; rfl
        have mB : Mod (fun q => (Value.slice (some aq) qs.length d4').ownBlock = some q) w7 w10 := ((he8.trans he9).mod).trans (hw10.mod rfl)
        have nI : Stab (fun q => q < w6.heap.size) (fun w => Abs.Nodes w (.slice o9 m.props[i].expr.length d9) m.props[i].expr) w10 := n9.move (hw10.mod (A := fun q => q = aq.block) rfl) (fun q _ e => by have := hbq.2.1; omega) fun q _ e => by omega
        refine Sg ?_
        exact ⟨hi', by first | trivial | rfl, z10, trivial, sQ.step mB (by omega) zo10 hiz him zj10 (nI.imp fun W h => ⟨hsn, _, hz10, h⟩)⟩
      · have hiq : m.props.length ≤ i := by omega
        refine Sg ?_
        intro w8 hw8 hc8
        have e8 := hw8.ext e7 (by omega)
        refine Sg ?_
        refine ⟨⟨_, rfl, ?_⟩, e8⟩
        intro W mW
        have M0 : Mod (fun i => i < w2.heap.size ∨ i = b3) wa w6 := ma.comp sP.m (fun i _ e => .inr e) fun q hq e => by have := (sP.blk q e).1; omega
        have M1 : Mod (fun i => i < w2.heap.size ∨ i = b3) wa w7 := M0.comp sQ.m (fun _ _ h => h) fun q hq e => by have := (sQ.blk q e).1; omega
        have M2 : Mod (fun i => i < w2.heap.size ∨ i = b3) wa w8 := M1.comp (hw8.mod (A := fun i => i = b2) rfl) (fun _ _ h => h) fun i hi e => by omega
        have M3 : Mod (fun i => i < w2.heap.size ∨ i = b3) wa W := M2.comp mW (fun _ _ h => h) fun i hi e => by omega
        have M4 : Mod (fun i => i < w2.heap.size) w7 W := (hw8.mod (A := fun i => i = b2) rfl).comp mW (fun i _ e => by omega) fun i _ e => by omega
        have M5 : Mod (fun q => q < w2.heap.size ∨ (Value.slice o4' qs.length d4').ownBlock = some q) w6 W := (sQ.m.monoK fun q e => .inr e).trans (M4.monoK fun q e => .inl e)
        refine ⟨⟨_, _, _, _, _, rfl, n0 W M3, n1 W M3, n2 W M3, ?_, ?_⟩⟩
        · exact (sP.stab (R := Abs.RProc) (B := fun q => q < w2.heap.size ∨ (Value.slice o4' qs.length d4').ownBlock = some q) hkl (fun q h1 h2 => by
            rcases h2 with h2 | h2
            · have := (sP.blk q h1).1; omega
            · obtain ⟨_, _, cur, k1⟩ := sP.blk q h1
              obtain ⟨cur', k2⟩ := OwR.blk qo q h2
              rw [k1] at k2
              injection k2 with k2
              injection k2 with _ k2
              exact absurd k2 (by decide)) (fun q h2 => by
            rcases h2 with h2 | h2
            · omega
            · exact (OwR.lt qo q h2).2)) W M5
        · exact (sQ.done (R := Abs.RPrp) (b0 := w2.heap.size) hiq (by omega) (by omega)) W M4
end Go.Proofs.YtbbaokmelkiemaaGreatDoor
end
section
/- Models compared: model.Same. -/
set_option maxRecDepth 4000
set_option maxHeartbeats 3200000
namespace Lite
open Go Go.RowKit
def eqfCode (t ti : TypeId) (sz : Nat) (z : Array Value) : LFn := ⟨32, [.tmp 6],
 (.seq (.reg [yw 6 (yb false)])
 (.seq (.seq (.reg [ym 10 0, yn 11 10, ym 12 1, yn 13 12, yp 14 (.bin .neq ti (yt 11) (yt 13))])
 (.cond (yt 14) (.seq (.reg [yw 6 (yb false)])
 .ret)
 .skip))
 (.seq (.seq (.reg [ym 15 0, yn 16 15, yw 17 (yi 0)])
 (.blk 0 (.loop (.seq (.reg [yp 18 (.bin .lss ti (yt 17) (yt 16))])
 (.seq (.cond (yt 18) .skip
 (.exit 0))
 (.seq (.blk 1 (.seq (.reg [ym 19 17, yx 20 sz 15 17, yr 21 (.ldA sz (yt 20)), ye 8 (.new t (.agg z)), ym 7 19, yv (.stA sz (yt 8) (yt 21))])
 (.seq (.reg [ym 22 1, ym 23 7, yx 24 sz 22 23, yr 25 (.ldA sz (yt 24)), ye 9 (.new t (.agg z)), yv (.stA sz (yt 9) (yt 25))])
 (.seq (.reg [ym 26 2, yr 27 (.ldA sz (yt 8)), yr 28 (.ldA sz (yt 9)), yc 29 (.val (yt 26) [(yt 27), (yt 28)]), yp 30 (.un .not (yt 29))])
 (.cond (yt 30) (.seq (.reg [yw 6 (yb false)])
 .ret)
 .skip)))))
 (.reg [yp 31 (.bin .add ti (yt 17) (yi 1)), ym 17 31])))))))
 (.seq (.reg [yw 6 (yb true)])
 .ret))))⟩
section
variable {α : Type} {P : Program} {f : FuncId} {t ti : TypeId} {sz : Nat} {z : Array Value}
theorem eqf_r {R : World → Addr → α → Prop} {C : World → List Value → α → Prop} [Rel R C sz] (hm : P.follows .mixedOrders = true) (hE : compF P f = some (eqfCode t ti sz z)) (hz : z.size = sz)
    (v1 v2 : Value) (l1 l2 : List α) (w : World) (h1 : SlR sz R w v1 l1) (h2 : SlR sz R w v2 l2) (g : FuncId) (hg : okF P g = true)
    (hp : ∀ (x y : α) (c1 c2 : List Value) (w' : World), C w' c1 x → C w' c2 y → Ret P g #[.agg c1.toArray, .agg c2.toArray] w' fun v w'' => (∃ b : Bool, v = .bool b ∧ (b = true ↔ x = y)) ∧ Ext w' w'') :
    Ret P f #[v1, v2, .func (.func g) #[] #[]] w fun v w' => (∃ b : Bool, v = .bool b ∧ (b = true ↔ l1 = l2)) ∧ Ext w w' := by
  obtain ⟨o1, c1, rfl, b1⟩ := h1.form
  obtain ⟨o2, c2, rfl, b2⟩ := h2.form
  refine K.start hm hE (args := [_, _, _]) (Nat.le_of_ble_eq_true rfl) ?_
  dsimp only [eqfCode,yt,yi,yb,yp,yr,ye,yc,yv,yg,ym,yw,ya,yl,yx,ys,yn]
  refine Sg ?_
  refine K.cond (fun g0 => ?_) (fun g0 => ?_)
  rotate_left
  · refine Sg ?_
    exact ⟨⟨false, rfl, by simp; intro e; subst e; exact g0 rfl⟩, Ext.refl _⟩
  have hlen : l1.length = l2.length := by omega
  refine Sg ?_
  refine K.forG 17 l1.length [0, 1, 2, 15, 16] (fun _ => []) () (fun k _ w' => Ext w w' ∧ l1.take k = l2.take k) (by first | trivial | rfl | exact ⟨rfl, trivial⟩ | (simp -dsimp only [LL,slots_nil,slots_cons,keepV_nil,keepV_cons,has_nil,has_cons,Nat.reduceAdd,Nat.reduceEqDiff,reduceIte,and_self]; done) | (simp -dsimp only [LL,slots_nil,slots_cons,keepV_nil,keepV_cons,has_nil,has_cons,Nat.reduceAdd,Nat.reduceEqDiff,reduceIte,and_self]; exact ⟨rfl, trivial⟩)) (by first | trivial | rfl | exact ⟨rfl, trivial⟩ | (simp -dsimp only [LL,slots_nil,slots_cons,keepV_nil,keepV_cons,has_nil,has_cons,Nat.reduceAdd,Nat.reduceEqDiff,reduceIte,and_self]; done) | (simp -dsimp only [LL,slots_nil,slots_cons,keepV_nil,keepV_cons,has_nil,has_cons,Nat.reduceAdd,Nat.reduceEqDiff,reduceIte,and_self]; exact ⟨rfl, trivial⟩)) ⟨Ext.refl _, by simp⟩ ?_
  rintro k _ S w2 hk ⟨he2, hI⟩
  refine Sg ?_
  refine K.cond (fun g1 => ?_) (fun g1 => ?_)
  · have hk' : k < l1.length := by omega
    have hk2 : k < l2.length := by omega
    obtain ⟨a1, rfl⟩ := h1.addr (by omega)
    obtain ⟨a2, rfl⟩ := h2.addr (by omega)
    obtain ⟨cs1, hc1, hC1⟩ := Rel.out (h1.at k hk')
    obtain ⟨cs2, hc2, hC2⟩ := Rel.out (h2.at k hk2)
    have hl1 := Rel.len (R := R) hC1
    have hl2 := Rel.len (R := R) hC2
    have ho1 := Rel.one (R := R) hC1
    have ho2 := Rel.one (R := R) hC2
    refine Sg ?_
    refine K.ldA (hc1.ext he2) hl1 ?_
    refine Sg ?_
    intro w3 b3 hb3 he3 hb
    refine K.stAb hb hz (by simpa using hl1) (by simpa using ho1) fun w4 hw4 hc4 => ?_
    have he4 := hw4.ext he3 hb3
    have hz4 := lt_of_heap hc4
    refine Sg ?_
    refine K.ldA (hc2.ext (he2.trans he4)) hl2 ?_
    refine Sg ?_
    intro w5 b5 hb5 he5 hb'
    refine K.stAb hb' hz (by simpa using hl2) (by simpa using ho2) fun w6 hw6 hc6 => ?_
    have he6 := hw6.ext he5 hb5
    have hc46 := he6.obj hc4
    refine Sg ?_
    refine K.ldAb hc46 (Ext.refl _) hl1 ?_
    refine Sg ?_
    refine K.ldAb hc6 (Ext.refl _) hl2 ?_
    refine Sg ?_
    refine K.callV (first := []) (cap := []) hg (hp _ _ cs1 cs2 w6 (Rel.ext (R := R) ((he2.trans he4).trans he6) hC1) (Rel.ext (R := R) ((he2.trans he4).trans he6) hC2)) ?_
    rintro _ w7 ⟨⟨b, rfl, hb7⟩, he7⟩
    have e7 := ((he2.trans he4).trans he6).trans he7
    cases b with
    | true =>
      refine Sg ?_
      exact ⟨hk', by first | trivial | rfl, (), trivial, e7, (take_succ_eq hk' hk2).2 ⟨hI, hb7.1 rfl⟩⟩
    | false =>
      refine Sg ?_
      refine ⟨⟨false, rfl, ?_⟩, e7⟩
      simp
      intro e
      subst e
      exact absurd (hb7.2 rfl) (by decide)
  · refine Sg ?_
    refine ⟨⟨true, rfl, by simp; rw [List.take_of_length_le (by omega), List.take_of_length_le (by omega)] at hI; exact hI⟩, he2⟩
end
end Lite
namespace Go.Proofs.YtbbaokmelkiemaaGreatDoor
open Go Go.RowKit Lite
theorem sameAct_r (x y : Abs.Act) (c1 c2 : List Value) (w : World) (h1 : Abs.ActIs w c1 x) (h2 : Abs.ActIs w c2 y) :
    Ret Tryz.prog F.model_sameAct #[.agg c1.toArray, .agg c2.toArray] w fun v w' => (∃ b : Bool, v = .bool b ∧ (b = true ↔ x = y)) ∧ Ext w w' := by
  obtain ⟨_, _, rfl, hi1, hv1⟩ := h1
  obtain ⟨_, _, rfl, hi2, hv2⟩ := h2
  obtain ⟨_, _, rfl, _⟩ := hi1.form
  obtain ⟨_, _, rfl, _⟩ := hv1.form
  obtain ⟨_, _, rfl, _⟩ := hi2.form
  obtain ⟨_, _, rfl, _⟩ := hv2.form
  unfold Abs.Act.enc
  refine K.start hmix E.model_sameAct (args := [_, _]) (Nat.le_of_ble_eq_true rfl) ?_; dsimp only [C.model_sameAct,yt,yi,yb,yp,yr,ye,yc,yv,yg,ym,yw,ya,yl,yx,ys,yn]
  refine Sg ?_
  intro w1 b1 hb1 he1 hc1
  refine Sg ?_
  intro w2 b2 hb2 he2 hc2
  replace hc1 := he2.obj hc1
  have e2 := he1.trans he2
  refine Sg ?_
  refine K.cond (fun g1 => ?_) (fun g1 => ?_)
  rotate_left
  · refine Sg ?_
    exact ⟨⟨false, rfl, by simp; intro e; subst e; exact g1 rfl⟩, e2⟩
  refine Sg ?_
  refine K.cond (fun g2 => ?_) (fun g2 => ?_)
  rotate_left
  · refine Sg ?_
    exact ⟨⟨false, rfl, by simp; intro e; subst e; exact g2 rfl⟩, e2⟩
  refine Sg ?_
  refine K.cond (fun g3 => ?_) (fun g3 => ?_)
  rotate_left
  · refine Sg ?_
    exact ⟨⟨false, rfl, by simp; intro e; subst e; exact g3 rfl⟩, e2⟩
  refine Sg ?_
  refine K.call (neq_r _ _ x.index y.index w2 (hi1.ext e2) (hi2.ext e2)) ?_
  rintro _ w3 ⟨⟨b, rfl, hb⟩, he3⟩
  replace hc1 := he3.obj hc1
  replace hc2 := he3.obj hc2
  have e3 := e2.trans he3
  clear e2 he2 he3
  cases b with
  | false =>
    refine Sg ?_
    exact ⟨⟨false, rfl, by simp; intro e; subst e; exact absurd (hb.2 rfl) (by decide)⟩, e3⟩
  | true =>
    refine Sg ?_
    refine K.call (neq_r _ _ x.value y.value w3 (hv1.ext e3) (hv2.ext e3)) ?_
    rintro _ w4 ⟨⟨b, rfl, hb'⟩, he4⟩
    refine Sg ?_
    refine ⟨⟨b, rfl, hb'.trans ⟨fun e => ?_, fun e => by rw [e]⟩⟩, e3.trans he4⟩
    cases x; cases y
    simp_all
theorem aeqf_r (v1 v2 : Value) (l1 l2 : List Abs.Act) (w : World) (h1 : Abs.Acts w v1 l1) (h2 : Abs.Acts w v2 l2) :
    Ret Tryz.prog F.slices_EqualFunc_sl_api_Act_sl_api_Act_api_Act_api_Act #[v1, v2, .func (.func F.model_sameAct) #[] #[]] w fun v w' => (∃ b : Bool, v = .bool b ∧ (b = true ↔ l1 = l2)) ∧ Ext w w' :=
  eqf_r hmix E.slices_EqualFunc_sl_api_Act_sl_api_Act_api_Act_api_Act rfl v1 v2 l1 l2 w h1 h2 F.model_sameAct (by kernel_rfl) sameAct_r
theorem sameCmd_r (x y : Abs.Cmd) (c1 c2 : List Value) (w : World) (h1 : Abs.CmdIs w c1 x) (h2 : Abs.CmdIs w c2 y) :
    Ret Tryz.prog F.model_sameCmd #[.agg c1.toArray, .agg c2.toArray] w fun v w' => (∃ b : Bool, v = .bool b ∧ (b = true ↔ x = y)) ∧ Ext w w' := by
  obtain ⟨_, _, _, rfl, hi1, hv1⟩ := h1
  obtain ⟨_, _, _, rfl, hi2, hv2⟩ := h2
  obtain ⟨_, _, rfl, _⟩ := hi1.form
  obtain ⟨_, _, rfl, _⟩ := hv1.form
  obtain ⟨_, _, rfl, _⟩ := hi2.form
  obtain ⟨_, _, rfl, _⟩ := hv2.form
  unfold Abs.Cmd.enc
  refine K.start hmix E.model_sameCmd (args := [_, _]) (Nat.le_of_ble_eq_true rfl) ?_; dsimp only [C.model_sameCmd,yt,yi,yb,yp,yr,ye,yc,yv,yg,ym,yw,ya,yl,yx,ys,yn]
  refine Sg ?_
  intro w1 b1 hb1 he1 hc1
  refine Sg ?_
  intro w2 b2 hb2 he2 hc2
  replace hc1 := he2.obj hc1
  have e2 := he1.trans he2
  clear he1 he2
  refine Sg ?_
  refine K.cond (fun g1 => ?_) (fun g1 => ?_)
  rotate_left
  · refine Sg ?_
    exact ⟨⟨false, rfl, by simp; intro e; subst e; exact g1 rfl⟩, e2⟩
  refine Sg ?_
  refine K.cond (fun g2 => ?_) (fun g2 => ?_)
  rotate_left
  · refine Sg ?_
    exact ⟨⟨false, rfl, by simp; intro e; subst e; exact g2 rfl⟩, e2⟩
  refine Sg ?_
  refine K.cond (fun g3 => ?_) (fun g3 => ?_)
  rotate_left
  · refine Sg ?_
    exact ⟨⟨false, rfl, by simp; intro e; subst e; exact g3 rfl⟩, e2⟩
  refine Sg ?_
  refine K.eqb (by kernel_rfl) ?_
  refine Sg ?_
  refine K.cond (fun g4 => ?_) (fun g4 => ?_)
  rotate_left
  · refine Sg ?_
    exact ⟨⟨false, rfl, by simp; intro e; subst e; exact g4 rfl⟩, e2⟩
  refine Sg ?_
  refine K.call (neq_r _ _ x.guard y.guard w2 (hi1.ext e2) (hi2.ext e2)) ?_
  rintro _ w3 ⟨⟨b, rfl, hb3⟩, he3⟩
  replace hc1 := he3.obj hc1
  replace hc2 := he3.obj hc2
  have e3 := e2.trans he3
  clear e2 he3
  rcases b with _ | _
  · refine Sg ?_
    exact ⟨⟨false, rfl, by simp; intro e; subst e; exact absurd (hb3.2 rfl) (by decide)⟩, e3⟩
  refine Sg ?_
  refine K.call (aeqf_r _ _ x.acts y.acts w3 (hv1.ext e3) (hv2.ext e3)) ?_
  rintro _ w4 ⟨⟨b, rfl, hb4⟩, he4⟩
  refine Sg ?_
  refine ⟨⟨b, rfl, hb4.trans ⟨fun e => ?_, fun e => by rw [e]⟩⟩, e3.trans he4⟩
  cases x; cases y
  simp_all
theorem ceqf_r (v1 v2 : Value) (l1 l2 : List Abs.Cmd) (w : World) (h1 : Abs.Cmds w v1 l1) (h2 : Abs.Cmds w v2 l2) :
    Ret Tryz.prog F.slices_EqualFunc_sl_api_Cmd_sl_api_Cmd_api_Cmd_api_Cmd #[v1, v2, .func (.func F.model_sameCmd) #[] #[]] w fun v w' => (∃ b : Bool, v = .bool b ∧ (b = true ↔ l1 = l2)) ∧ Ext w w' :=
  eqf_r hmix E.slices_EqualFunc_sl_api_Cmd_sl_api_Cmd_api_Cmd_api_Cmd rfl v1 v2 l1 l2 w h1 h2 F.model_sameCmd (by kernel_rfl) sameCmd_r
theorem sameProc_r (x y : Abs.Proc) (c1 c2 : List Value) (w : World) (h1 : Abs.ProcIs w c1 x) (h2 : Abs.ProcIs w c2 y) :
    Ret Tryz.prog F.model_sameProc #[.agg c1.toArray, .agg c2.toArray] w fun v w' => (∃ b : Bool, v = .bool b ∧ (b = true ↔ x = y)) ∧ Ext w w' := by
  obtain ⟨_, _, _, rfl, hi1, hv1⟩ := h1
  obtain ⟨_, _, _, rfl, hi2, hv2⟩ := h2
  obtain ⟨_, _, rfl, _⟩ := hi1.form
  obtain ⟨_, _, rfl, _⟩ := hv1.form
  obtain ⟨_, _, rfl, _⟩ := hi2.form
  obtain ⟨_, _, rfl, _⟩ := hv2.form
  unfold Abs.Proc.enc
  refine K.start hmix E.model_sameProc (args := [_, _]) (Nat.le_of_ble_eq_true rfl) ?_; dsimp only [C.model_sameProc,yt,yi,yb,yp,yr,ye,yc,yv,yg,ym,yw,ya,yl,yx,ys,yn]
  refine Sg ?_
  intro w1 b1 hb1 he1 hc1
  refine Sg ?_
  intro w2 b2 hb2 he2 hc2
  replace hc1 := he2.obj hc1
  have e2 := he1.trans he2
  clear he1 he2
  refine Sg ?_
  refine K.cond (fun g1 => ?_) (fun g1 => ?_)
  rotate_left
  · refine Sg ?_
    exact ⟨⟨false, rfl, by simp; intro e; subst e; exact g1 rfl⟩, e2⟩
  refine Sg ?_
  refine K.cond (fun g2 => ?_) (fun g2 => ?_)
  rotate_left
  · refine Sg ?_
    exact ⟨⟨false, rfl, by simp; intro e; subst e; exact g2 rfl⟩, e2⟩
  refine Sg ?_
  refine K.cond (fun g3 => ?_) (fun g3 => ?_)
  rotate_left
  · refine Sg ?_
    exact ⟨⟨false, rfl, by simp; intro e; subst e; exact g3 rfl⟩, e2⟩
  refine Sg ?_
  refine K.call (veq_r _ _ x.vars y.vars w2 (hi1.ext e2) (hi2.ext e2)) ?_
  rintro _ w3 ⟨⟨b, rfl, hb3⟩, he3⟩
  replace hc1 := he3.obj hc1
  replace hc2 := he3.obj hc2
  have e3 := e2.trans he3
  clear e2 he3
  rcases b with _ | _
  · refine Sg ?_
    exact ⟨⟨false, rfl, by simp; intro e; subst e; exact absurd (hb3.2 rfl) (by decide)⟩, e3⟩
  refine Sg ?_
  refine K.call (ceqf_r _ _ x.cmds y.cmds w3 (hv1.ext e3) (hv2.ext e3)) ?_
  rintro _ w4 ⟨⟨b, rfl, hb4⟩, he4⟩
  refine Sg ?_
  refine ⟨⟨b, rfl, hb4.trans ⟨fun e => ?_, fun e => by rw [e]⟩⟩, e3.trans he4⟩
  cases x; cases y
  simp_all
theorem peqf_r (v1 v2 : Value) (l1 l2 : List Abs.Proc) (w : World) (h1 : Abs.Procs w v1 l1) (h2 : Abs.Procs w v2 l2) :
    Ret Tryz.prog F.slices_EqualFunc_sl_api_Proc_sl_api_Proc_api_Proc_api_Proc #[v1, v2, .func (.func F.model_sameProc) #[] #[]] w fun v w' => (∃ b : Bool, v = .bool b ∧ (b = true ↔ l1 = l2)) ∧ Ext w w' :=
  eqf_r hmix E.slices_EqualFunc_sl_api_Proc_sl_api_Proc_api_Proc_api_Proc rfl v1 v2 l1 l2 w h1 h2 F.model_sameProc (by kernel_rfl) sameProc_r
theorem sameProp_r (x y : Abs.Prp) (c1 c2 : List Value) (w : World) (h1 : Abs.PrpIs w c1 x) (h2 : Abs.PrpIs w c2 y) :
    Ret Tryz.prog F.model_sameProp #[.agg c1.toArray, .agg c2.toArray] w fun v w' => (∃ b : Bool, v = .bool b ∧ (b = true ↔ x = y)) ∧ Ext w w' := by
  obtain ⟨_, _, rfl, hv1⟩ := h1
  obtain ⟨_, _, rfl, hv2⟩ := h2
  obtain ⟨_, _, rfl, _⟩ := hv1.form
  obtain ⟨_, _, rfl, _⟩ := hv2.form
  unfold Abs.Prp.enc
  refine K.start hmix E.model_sameProp (args := [_, _]) (Nat.le_of_ble_eq_true rfl) ?_; dsimp only [C.model_sameProp,yt,yi,yb,yp,yr,ye,yc,yv,yg,ym,yw,ya,yl,yx,ys,yn]
  refine Sg ?_
  intro w1 b1 hb1 he1 hc1
  refine Sg ?_
  intro w2 b2 hb2 he2 hc2
  replace hc1 := he2.obj hc1
  have e2 := he1.trans he2
  clear he1 he2
  refine Sg ?_
  refine K.cond (fun g1 => ?_) (fun g1 => ?_)
  rotate_left
  · refine Sg ?_
    exact ⟨⟨false, rfl, by simp; intro e; subst e; exact g1 rfl⟩, e2⟩
  refine Sg ?_
  refine K.call (neq_r _ _ x.expr y.expr w2 (hv1.ext e2) (hv2.ext e2)) ?_
  rintro _ w3 ⟨⟨b, rfl, hb3⟩, he3⟩
  refine Sg ?_
  refine ⟨⟨b, rfl, hb3.trans ⟨fun e => ?_, fun e => by rw [e]⟩⟩, e2.trans he3⟩
  cases x; cases y
  simp_all
theorem preqf_r (v1 v2 : Value) (l1 l2 : List Abs.Prp) (w : World) (h1 : Abs.Prps w v1 l1) (h2 : Abs.Prps w v2 l2) :
    Ret Tryz.prog F.slices_EqualFunc_sl_api_Prop_sl_api_Prop_api_Prop_api_Prop #[v1, v2, .func (.func F.model_sameProp) #[] #[]] w fun v w' => (∃ b : Bool, v = .bool b ∧ (b = true ↔ l1 = l2)) ∧ Ext w w' :=
  eqf_r hmix E.slices_EqualFunc_sl_api_Prop_sl_api_Prop_api_Prop_api_Prop rfl v1 v2 l1 l2 w h1 h2 F.model_sameProp (by kernel_rfl) sameProp_r
theorem same_r (c1 c2 : List Value) (x y : Abs.Model) (w : World) (h1 : Abs.ModelIs w c1 x) (h2 : Abs.ModelIs w c2 y) :
    Ret Tryz.prog F.model_Same #[.agg c1.toArray, .agg c2.toArray] w fun v w' => (∃ b : Bool, v = .bool b ∧ (b = true ↔ x = y)) ∧ Ext w w' := by
  obtain ⟨a0, d0, a1, d1, a2, d2, a3, d3, a4, d4, rfl, h0, h1, h2', h3, h4, _⟩ := h1.form
  obtain ⟨o0, e0, o1, e1, o2, e2', o3, e3', o4, e4', rfl, k0, k1, k2, k3, k4, _⟩ := h2.form
  refine K.start hmix E.model_Same (args := [_, _]) (Nat.le_of_ble_eq_true rfl) ?_; dsimp only [C.model_Same,yt,yi,yb,yp,yr,ye,yc,yv,yg,ym,yw,ya,yl,yx,ys,yn]
  refine Sg ?_
  intro w1 b1 hb1 he1 hc1
  refine Sg ?_
  intro w2 b2 hb2 he2 hc2
  replace hc1 := he2.obj hc1
  have e2 := he1.trans he2
  clear he1 he2
  refine Sg ?_
  refine K.call (seq_r _ _ x.scalars y.scalars w2 (h0.ext e2) (k0.ext e2)) ?_
  rintro _ w3 ⟨⟨b, rfl, hb3⟩, he3⟩
  replace hc1 := he3.obj hc1
  replace hc2 := he3.obj hc2
  have e3 := e2.trans he3
  clear e2 he3
  rcases b with _ | _
  · refine Sg ?_
    exact ⟨⟨false, rfl, by simp; intro e; subst e; exact absurd (hb3.2 rfl) (by decide)⟩, e3⟩
  refine Sg ?_
  refine K.call (veq_r _ _ x.vars y.vars w3 (h1.ext e3) (k1.ext e3)) ?_
  rintro _ w4 ⟨⟨b, rfl, hb4⟩, he4⟩
  replace hc1 := he4.obj hc1
  replace hc2 := he4.obj hc2
  have e4 := e3.trans he4
  clear e3 he4
  rcases b with _ | _
  · refine Sg ?_
    exact ⟨⟨false, rfl, by simp; intro e; subst e; exact absurd (hb4.2 rfl) (by decide)⟩, e4⟩
  refine Sg ?_
  refine K.call (cheq_r _ _ x.chans y.chans w4 (h2'.ext e4) (k2.ext e4)) ?_
  rintro _ w5 ⟨⟨b, rfl, hb5⟩, he5⟩
  replace hc1 := he5.obj hc1
  replace hc2 := he5.obj hc2
  have e5 := e4.trans he5
  clear e4 he5
  rcases b with _ | _
  · refine Sg ?_
    exact ⟨⟨false, rfl, by simp; intro e; subst e; exact absurd (hb5.2 rfl) (by decide)⟩, e5⟩
  refine Sg ?_
  refine K.call (peqf_r _ _ x.procs y.procs w5 (h3.ext e5) (k3.ext e5)) ?_
  rintro _ w6 ⟨⟨b, rfl, hb6⟩, he6⟩
  replace hc1 := he6.obj hc1
  replace hc2 := he6.obj hc2
  have e6 := e5.trans he6
  clear e5 he6
  rcases b with _ | _
  · refine Sg ?_
    exact ⟨⟨false, rfl, by simp; intro e; subst e; exact absurd (hb6.2 rfl) (by decide)⟩, e6⟩
  refine Sg ?_
  refine K.call (preqf_r _ _ x.props y.props w6 (h4.ext e6) (k4.ext e6)) ?_
  rintro _ w7 ⟨⟨b, rfl, hb7⟩, he7⟩
  refine Sg ?_
  refine ⟨⟨b, rfl, hb7.trans ⟨fun e => ?_, fun e => by rw [e]⟩⟩, e6.trans he7⟩
  cases x; cases y
  simp_all
end Go.Proofs.YtbbaokmelkiemaaGreatDoor
end
section
/- Models compared: the document's Same (printed by eqw.py). -/
set_option maxRecDepth 4000
set_option maxHeartbeats 6400000
namespace Lite
open Go Go.RowKit
def eqRefCode (t ti : TypeId) (sz : Nat) : LFn := ⟨26, [.tmp 4],
 (.seq (.reg [yw 4 (yb false)])
 (.seq (.seq (.reg [ym 6 0, yn 7 6, ym 8 1, yn 9 8, yp 10 (.bin .neq ti (yt 7) (yt 9))])
 (.cond (yt 10) (.seq (.reg [yw 4 (yb false)])
 .ret)
 .skip))
 (.seq (.seq (.reg [yw 5 (yi 0)])
 (.blk 0 (.loop (.seq (.seq (.reg [ym 11 5, ym 12 0, yn 13 12, yp 14 (.bin .lss ti (yt 11) (yt 13))])
 (.cond (yt 14) .skip
 (.exit 0)))
 (.seq (.blk 1 (.seq (.drw [ym 17 0, ym 18 5, yx 19 sz 17 18, yr 20 (.ldA sz (yt 19)), ym 21 1, ym 22 5, yx 23 sz 21 22, yr 24 (.ldA sz (yt 23)), yp 25 (.bin .neq t (yt 20) (yt 24))])
 (.cond (yt 25) (.seq (.reg [yw 4 (yb false)])
 .ret)
 .skip)))
 (.reg [ym 15 5, yp 16 (.bin .add ti (yt 15) (yi 1)), ym 5 16]))))))
 (.seq (.reg [yw 4 (yb true)])
 .ret))))⟩
section
variable {α : Type} {P : Program} {f : FuncId} {t ti : TypeId} {sz : Nat} {enc : α → List Value}
theorem eqRef_r {R R' : World → Addr → α → Prop} [Cel R enc] [Cel R' enc] {sig : List VK} (hm : P.follows .mixedOrders = true) (hE : compF P f = some (eqRefCode t ti sz)) (hs : eqSt P t sig = true) (hc : ∀ x, conf sig (enc x)) (hsz : sig.length = sz)
    (hj : ∀ x y, enc x = enc y → x = y) (v1 v2 : Value) (l1 l2 : List α) (w : World) (h1 : SlR sz R w v1 l1) (h2 : SlR sz R' w v2 l2) :
    Ret P f #[v1, v2] w fun v w' => (∃ b : Bool, v = .bool b ∧ (b = true ↔ l1 = l2)) ∧ Ext w w' := by
  obtain ⟨o1, c1, rfl, b1⟩ := h1.form
  obtain ⟨o2, c2, rfl, b2⟩ := h2.form
  have hl : ∀ x, (enc x).length = sz := fun x => (conf_len (hc x)).trans hsz
  refine K.start hm hE (args := [_, _]) (Nat.le_of_ble_eq_true rfl) ?_
  dsimp only [eqRefCode,yt,yi,yb,yp,yr,ye,yc,yv,yg,ym,yw,ya,yl,yx,ys,yn]
  refine Sg ?_
  refine K.cond (fun g => ?_) (fun g => ?_)
  rotate_left
  · refine Sg ?_
    exact ⟨⟨false, rfl, by simp; intro e; subst e; exact g rfl⟩, Ext.refl _⟩
  have hlen : l1.length = l2.length := by omega
  refine Sg ?_
  refine K.forG 5 l1.length [0, 1] (fun _ => []) () (fun k _ w' => Ext w w' ∧ l1.take k = l2.take k) (by first | trivial | rfl | exact ⟨rfl, trivial⟩ | (simp -dsimp only [LL,slots_nil,slots_cons,keepV_nil,keepV_cons,has_nil,has_cons,Nat.reduceAdd,Nat.reduceEqDiff,reduceIte,and_self]; done) | (simp -dsimp only [LL,slots_nil,slots_cons,keepV_nil,keepV_cons,has_nil,has_cons,Nat.reduceAdd,Nat.reduceEqDiff,reduceIte,and_self]; exact ⟨rfl, trivial⟩)) (by first | trivial | rfl | exact ⟨rfl, trivial⟩ | (simp -dsimp only [LL,slots_nil,slots_cons,keepV_nil,keepV_cons,has_nil,has_cons,Nat.reduceAdd,Nat.reduceEqDiff,reduceIte,and_self]; done) | (simp -dsimp only [LL,slots_nil,slots_cons,keepV_nil,keepV_cons,has_nil,has_cons,Nat.reduceAdd,Nat.reduceEqDiff,reduceIte,and_self]; exact ⟨rfl, trivial⟩)) ⟨Ext.refl _, by simp⟩ ?_
  rintro k _ S w2 hk ⟨he2, hI⟩
  refine Sg ?_
  refine K.cond (fun g1 => ?_) (fun g1 => ?_)
  · have hk' : k < l1.length := by omega
    have hk2 : k < l2.length := by omega
    obtain ⟨a1, rfl⟩ := h1.addr (by omega)
    obtain ⟨a2, rfl⟩ := h2.addr (by omega)
    refine Sg ?_
    refine K.ldA ((Cel.cel _ _ _ (h1.at k hk')).ext he2) (hl _) ?_
    refine Sg ?_
    refine K.ldA ((Cel.cel _ _ _ (h2.at k hk2)).ext he2) (hl _) ?_
    refine Sg ?_
    refine K.neS hs (hc _) (hc _) fun r hr => ?_
    refine Sg ?_
    intro w3 he3
    refine Sg ?_
    refine K.condb (fun g2 => ?_) (fun g2 => ?_)
    · refine Sg ?_
      refine ⟨⟨false, rfl, ?_⟩, he2.trans he3⟩
      simp
      intro e
      subst e
      exact (hr.1 g2) rfl
    · refine Sg ?_
      refine ⟨hk', by first | trivial | rfl, (), trivial, he2.trans he3, (take_succ_eq hk' hk2).2 ⟨hI, hj _ _ (Classical.byContradiction fun hn => ?_)⟩⟩
      rw [hr.2 hn] at g2
      cases g2
  · refine Sg ?_
    refine ⟨⟨true, rfl, by simp; rw [List.take_of_length_le (by omega), List.take_of_length_le (by omega)] at hI; exact hI⟩, he2⟩
end
/-- A test's answer as a value. -/
noncomputable def same {α : Type} (x y : α) : Bool := @decide (x = y) (Classical.propDecidable _)
theorem same_iff {α : Type} {x y : α} : same x y = true ↔ x = y := by unfold same; exact @decide_eq_true_iff _ (Classical.propDecidable _)
theorem same_of {α : Type} {x y : α} {b : Bool} (h : b = true ↔ x = y) : b = same x y := by
  cases b <;> cases e : same x y
  · rfl
  · exact absurd (h.2 (same_iff.1 e)) (by decide)
  · rw [same_iff.2 (h.1 rfl)] at e; exact e
  · rfl
end Lite
namespace Go.Proofs.YtbbaokmelkiemaaGreatDoor
open Go Go.RowKit Lite
theorem rnodes_r (v1 v2 : Value) (l1 l2 : List Abs.Node) (w : World) (h1 : Abs.Nodes w v1 l1) (h2 : Abs.Nodes w v2 l2) :
    Ret Tryz.prog F.lariatref15_Nodes #[v1, v2] w fun v w' => v = .bool (same l1 l2) ∧ Ext w w' :=
  (eqRef_r hmix E.lariatref15_Nodes (sig := Abs.sigNode) (by kernel_rfl) Abs.conf_node rfl Abs.node_inj v1 v2 l1 l2 w h1 h2).mono fun v w' ⟨⟨b, h, hb⟩, he⟩ => ⟨by rw [h, same_of hb], he⟩
theorem rvars_r (v1 v2 : Value) (l1 l2 : List Abs.Var) (w : World) (h1 : Abs.Vars w v1 l1) (h2 : Abs.Vars w v2 l2) :
    Ret Tryz.prog F.lariatref15_vars #[v1, v2] w fun v w' => v = .bool (same l1 l2) ∧ Ext w w' :=
  (eqRef_r hmix E.lariatref15_vars (sig := Abs.sigVar) (by kernel_rfl) Abs.conf_var rfl Abs.var_inj v1 v2 l1 l2 w h1 h2).mono fun v w' ⟨⟨b, h, hb⟩, he⟩ => ⟨by rw [h, same_of hb], he⟩
theorem same_ne {α : Type} {x y : α} (h : x ≠ y) : same x y = false := by
  cases e : same x y
  · rfl
  · exact absurd (same_iff.1 e) h
theorem rcmd15_r (x y : Abs.Cmd) (c1 c2 : List Value) (w : World) (h1 : Abs.CmdIs w c1 x) (h2 : Abs.CmdIs w c2 y) :
    Ret Tryz.prog F.lariatref15_cmd #[.agg c1.toArray, .agg c2.toArray] w fun v w' => v = .bool (same x y) ∧ Ext w w' := by
  obtain ⟨_, _, _, rfl, hi1, hv1⟩ := h1
  obtain ⟨_, _, _, rfl, hi2, hv2⟩ := h2
  obtain ⟨_, _, rfl, _⟩ := hi1.form
  obtain ⟨_, _, rfl, l1⟩ := hv1.form
  obtain ⟨_, _, rfl, _⟩ := hi2.form
  obtain ⟨_, _, rfl, l2⟩ := hv2.form
  unfold Abs.Cmd.enc
  refine K.start hmix E.lariatref15_cmd (args := [_, _]) (Nat.le_of_ble_eq_true rfl) ?_; dsimp only [C.lariatref15_cmd,yt,yi,yb,yp,yr,ye,yc,yv,yg,ym,yw,ya,yl,yx,ys,yn]
  refine Sg ?_
  intro w1 b1 hb1 he1 hc1
  refine Sg ?_
  intro w2 b2 hb2 he2 hc2
  replace hc1 := he2.obj hc1
  have e2 := he1.trans he2
  clear he1 he2
  refine Sg ?_
  refine K.cond (fun g1 => ?_) (fun g1 => ?_)
  rotate_left
  · refine Sg ?_
    exact ⟨by rw [same_ne (fun e => g1 (by rw [e]))], e2⟩
  refine Sg ?_
  refine K.cond (fun g2 => ?_) (fun g2 => ?_)
  rotate_left
  · refine Sg ?_
    exact ⟨by rw [same_ne (fun e => g2 (by rw [e]))], e2⟩
  refine Sg ?_
  refine K.cond (fun g3 => ?_) (fun g3 => ?_)
  rotate_left
  · refine Sg ?_
    exact ⟨by rw [same_ne (fun e => g3 (by rw [e]))], e2⟩
  refine Sg ?_
  refine K.neb (by kernel_rfl) ?_
  refine Sg ?_
  refine K.condb (fun g4 => ?_) (fun g4 => ?_)
  · refine Sg ?_
    exact ⟨by rw [same_ne (fun e => by rw [e] at g4; simp at g4)], e2⟩
  refine Sg ?_
  refine K.call (rnodes_r _ _ x.guard y.guard w2 (hi1.ext e2) (hi2.ext e2)) ?_
  rintro _ w3 ⟨rfl, he3⟩
  replace hc1 := he3.obj hc1
  replace hc2 := he3.obj hc2
  have e3 := e2.trans he3
  clear e2 he3
  cases hgu : same x.guard y.guard with
  | false =>
    refine Sg ?_
    exact ⟨by rw [same_ne (fun e => by rw [e, same_iff.2 rfl] at hgu; cases hgu)], e3⟩
  | true =>
  refine Sg ?_
  refine K.cond (fun g5 => ?_) (fun g5 => ?_)
  rotate_left
  · refine Sg ?_
    exact ⟨by rw [same_ne (fun e => g5 (by rw [e]))], e3⟩
  have hll : x.acts.length = y.acts.length := by omega
  have hc1o := hc1
  have hc2o := hc2
  refine Sg ?_
  refine K.forG 5 x.acts.length [2, 3] (fun _ => []) () (fun k _ w' => Ext w3 w' ∧ x.acts.take k = y.acts.take k) (by first | trivial | rfl | exact ⟨rfl, trivial⟩ | (simp -dsimp only [LL,slots_nil,slots_cons,keepV_nil,keepV_cons,has_nil,has_cons,Nat.reduceAdd,Nat.reduceEqDiff,reduceIte,and_self]; done) | (simp -dsimp only [LL,slots_nil,slots_cons,keepV_nil,keepV_cons,has_nil,has_cons,Nat.reduceAdd,Nat.reduceEqDiff,reduceIte,and_self]; exact ⟨rfl, trivial⟩)) (by first | trivial | rfl | exact ⟨rfl, trivial⟩ | (simp -dsimp only [LL,slots_nil,slots_cons,keepV_nil,keepV_cons,has_nil,has_cons,Nat.reduceAdd,Nat.reduceEqDiff,reduceIte,and_self]; done) | (simp -dsimp only [LL,slots_nil,slots_cons,keepV_nil,keepV_cons,has_nil,has_cons,Nat.reduceAdd,Nat.reduceEqDiff,reduceIte,and_self]; exact ⟨rfl, trivial⟩)) ⟨Ext.refl _, by simp⟩ ?_
  clear hc1 hc2
  rintro k _ S w4 hk ⟨he4, hI⟩
  have hc1 := he4.obj hc1o
  have hc2 := he4.obj hc2o
  have e4 := e3.trans he4
  refine Sg ?_
  refine K.cond (fun g6 => ?_) (fun g6 => ?_)
  · have hk' : k < x.acts.length := by omega
    have hk2 : k < y.acts.length := by omega
    obtain ⟨a1, rfl⟩ := hv1.addr (by omega)
    obtain ⟨a2, rfl⟩ := hv2.addr (by omega)
    obtain ⟨vi1, vv1, hx1, hxi, hxv⟩ := hv1.at k hk'
    obtain ⟨vi2, vv2, hx2, hyi, hyv⟩ := hv2.at k hk2
    obtain ⟨_, _, rfl, _⟩ := hxi.form
    obtain ⟨_, _, rfl, _⟩ := hxv.form
    obtain ⟨_, _, rfl, _⟩ := hyi.form
    obtain ⟨_, _, rfl, _⟩ := hyv.form
    unfold Abs.Act.enc at hx1 hx2
    replace hx1 := hx1.ext e4
    replace hx2 := hx2.ext e4
    refine Su ?_
    simp -dsimp only [B9]
    refine Su ?_
    refine K.two _ 6 _ _ 5 62 7 _ _ 5 67 (by rfl) rfl (by rfl) (by rfl) ?_
    intro w5 he5
    dsimp only [strip]
    refine Sg ?_
    refine ⟨_, _, rfl, rfl, rfl, rfl, by simp [Value.oneCell'], by simp [Value.oneCell'], ?_⟩
    intro w6 b6 b7 he6 hb6 hb7 hne hc6 hc7
    have e6 := (e4.trans he5).trans he6
    have j6 := (he4.trans he5).trans he6
    refine Sg ?_
    refine K.cond (fun k1 => ?_) (fun k1 => ?_)
    rotate_left
    · refine Sg ?_
      exact ⟨by rw [same_ne (fun e => k1 (by simp only [e]))], e6⟩
    refine Sg ?_
    refine K.cond (fun k2 => ?_) (fun k2 => ?_)
    rotate_left
    · refine Sg ?_
      exact ⟨by rw [same_ne (fun e => k2 (by simp only [e]))], e6⟩
    refine Sg ?_
    refine K.cond (fun k3 => ?_) (fun k3 => ?_)
    rotate_left
    · refine Sg ?_
      exact ⟨by rw [same_ne (fun e => k3 (by simp only [e]))], e6⟩
    refine Sg ?_
    refine K.call (rnodes_r _ _ x.acts[k].index y.acts[k].index w6 (hxi.ext e6) (hyi.ext e6)) ?_
    rintro _ w7 ⟨rfl, he7⟩
    replace hc6 := he7.obj hc6
    replace hc7 := he7.obj hc7
    have e7 := e6.trans he7
    have j7 := j6.trans he7
    cases hA : same x.acts[k].index y.acts[k].index with
    | false =>
      refine Sg ?_
      exact ⟨by rw [same_ne (fun e => by simp only [e, same_iff.2] at hA; cases hA)], e7⟩
    | true =>
    refine Sg ?_
    refine K.call (rnodes_r _ _ x.acts[k].value y.acts[k].value w7 (hxv.ext e7) (hyv.ext e7)) ?_
    rintro _ w8 ⟨rfl, he8⟩
    have e8 := e7.trans he8
    have j8 := j7.trans he8
    cases hB : same x.acts[k].value y.acts[k].value with
    | false =>
      refine Sg ?_
      exact ⟨by rw [same_ne (fun e => by simp only [e, same_iff.2] at hB; cases hB)], e8⟩
    | true =>
    have hact : x.acts[k] = y.acts[k] := by
      have h1 := same_iff.1 hA
      have h2 := same_iff.1 hB
      generalize x.acts[k] = p at *
      generalize y.acts[k] = q at *
      cases p; cases q
      simp_all
    refine Sg ?_
    exact ⟨hk', by first | trivial | rfl, (), trivial, j8, (take_succ_eq hk' hk2).2 ⟨hI, hact⟩⟩
  · have hkl : k = x.acts.length := by omega
    rw [hkl, List.take_length, hll, List.take_length] at hI
    have hgu' := same_iff.1 hgu
    have : x = y := by
      cases x; cases y
      simp_all
    refine Sg ?_
    exact ⟨by rw [same_iff.2 this], e4⟩
theorem rproc15_r (x y : Abs.Proc) (c1 c2 : List Value) (w : World) (h1 : Abs.ProcIs w c1 x) (h2 : Abs.ProcIs w c2 y) :
    Ret Tryz.prog F.lariatref15_proc #[.agg c1.toArray, .agg c2.toArray] w fun v w' => v = .bool (same x y) ∧ Ext w w' := by
  obtain ⟨_, _, _, rfl, hi1, hv1⟩ := h1
  obtain ⟨_, _, _, rfl, hi2, hv2⟩ := h2
  obtain ⟨_, _, rfl, _⟩ := hi1.form
  obtain ⟨_, _, rfl, l1⟩ := hv1.form
  obtain ⟨_, _, rfl, _⟩ := hi2.form
  obtain ⟨_, _, rfl, l2⟩ := hv2.form
  unfold Abs.Proc.enc
  refine K.start hmix E.lariatref15_proc (args := [_, _]) (Nat.le_of_ble_eq_true rfl) ?_; dsimp only [C.lariatref15_proc,yt,yi,yb,yp,yr,ye,yc,yv,yg,ym,yw,ya,yl,yx,ys,yn]
  refine Sg ?_
  intro w1 b1 hb1 he1 hc1
  refine Sg ?_
  intro w2 b2 hb2 he2 hc2
  replace hc1 := he2.obj hc1
  have e2 := he1.trans he2
  clear he1 he2
  refine Sg ?_
  refine K.cond (fun g1 => ?_) (fun g1 => ?_)
  rotate_left
  · refine Sg ?_
    exact ⟨by rw [same_ne (fun e => g1 (by rw [e]))], e2⟩
  refine Sg ?_
  refine K.cond (fun g2 => ?_) (fun g2 => ?_)
  rotate_left
  · refine Sg ?_
    exact ⟨by rw [same_ne (fun e => g2 (by rw [e]))], e2⟩
  refine Sg ?_
  refine K.cond (fun g3 => ?_) (fun g3 => ?_)
  rotate_left
  · refine Sg ?_
    exact ⟨by rw [same_ne (fun e => g3 (by rw [e]))], e2⟩
  refine Sg ?_
  refine K.call (rvars_r _ _ x.vars y.vars w2 (hi1.ext e2) (hi2.ext e2)) ?_
  rintro _ w3 ⟨rfl, he3⟩
  replace hc1 := he3.obj hc1
  replace hc2 := he3.obj hc2
  have e3 := e2.trans he3
  clear e2 he3
  cases hgu : same x.vars y.vars with
  | false =>
    refine Sg ?_
    exact ⟨by rw [same_ne (fun e => by rw [e, same_iff.2 rfl] at hgu; cases hgu)], e3⟩
  | true =>
  refine Sg ?_
  refine K.cond (fun g5 => ?_) (fun g5 => ?_)
  rotate_left
  · refine Sg ?_
    exact ⟨by rw [same_ne (fun e => g5 (by rw [e]))], e3⟩
  have hll : x.cmds.length = y.cmds.length := by omega
  have hc1o := hc1
  have hc2o := hc2
  refine Sg ?_
  refine K.forG 5 x.cmds.length [2, 3] (fun _ => []) () (fun k _ w' => Ext w3 w' ∧ x.cmds.take k = y.cmds.take k) (by first | trivial | rfl | exact ⟨rfl, trivial⟩ | (simp -dsimp only [LL,slots_nil,slots_cons,keepV_nil,keepV_cons,has_nil,has_cons,Nat.reduceAdd,Nat.reduceEqDiff,reduceIte,and_self]; done) | (simp -dsimp only [LL,slots_nil,slots_cons,keepV_nil,keepV_cons,has_nil,has_cons,Nat.reduceAdd,Nat.reduceEqDiff,reduceIte,and_self]; exact ⟨rfl, trivial⟩)) (by first | trivial | rfl | exact ⟨rfl, trivial⟩ | (simp -dsimp only [LL,slots_nil,slots_cons,keepV_nil,keepV_cons,has_nil,has_cons,Nat.reduceAdd,Nat.reduceEqDiff,reduceIte,and_self]; done) | (simp -dsimp only [LL,slots_nil,slots_cons,keepV_nil,keepV_cons,has_nil,has_cons,Nat.reduceAdd,Nat.reduceEqDiff,reduceIte,and_self]; exact ⟨rfl, trivial⟩)) ⟨Ext.refl _, by simp⟩ ?_
  clear hc1 hc2
  rintro k _ S w4 hk ⟨he4, hI⟩
  have hc1 := he4.obj hc1o
  have hc2 := he4.obj hc2o
  have e4 := e3.trans he4
  refine Sg ?_
  refine K.cond (fun g6 => ?_) (fun g6 => ?_)
  · have hk' : k < x.cmds.length := by omega
    have hk2 : k < y.cmds.length := by omega
    obtain ⟨a1, rfl⟩ := hv1.addr (by omega)
    obtain ⟨a2, rfl⟩ := hv2.addr (by omega)
    obtain ⟨cs1, hx1, hX⟩ := Rel.out (hv1.at k hk')
    obtain ⟨cs2, hx2, hY⟩ := Rel.out (hv2.at k hk2)
    have hl1 := Rel.len (R := Abs.RCmd) hX
    have hl2 := Rel.len (R := Abs.RCmd) hY
    refine Sg ?_
    refine K.ldA (hx1.ext e4) hl1 ?_
    refine Sg ?_
    refine K.ldA (hx2.ext e4) hl2 ?_
    refine Sg ?_
    refine K.qfn (.bool (same x.cmds[k] y.cmds[k])) (fun w' e => rcmd15_r _ _ cs1 cs2 w' (hX.ext (e4.trans e)) (hY.ext (e4.trans e))) ?_
    cases hA : same x.cmds[k] y.cmds[k] with
    | false =>
      refine Sg ?_
      intro w5 he5
      refine Sg ?_
      exact ⟨by rw [same_ne (fun e => by simp only [e, same_iff.2] at hA; cases hA)], e4.trans he5⟩
    | true =>
    refine Sg ?_
    intro w5 he5
    refine Sg ?_
    exact ⟨hk', by first | trivial | rfl, (), trivial, he4.trans he5, (take_succ_eq hk' hk2).2 ⟨hI, same_iff.1 hA⟩⟩
  · have hkl : k = x.cmds.length := by omega
    rw [hkl, List.take_length, hll, List.take_length] at hI
    have hgu' := same_iff.1 hgu
    have : x = y := by
      cases x; cases y
      simp_all
    refine Sg ?_
    exact ⟨by rw [same_iff.2 this], e4⟩
theorem rsame_r (c1 c2 : List Value) (x y : Abs.Model) (w : World) (h1 : Abs.ModelIs w c1 x) (h2 : Abs.ModelIs w c2 y) :
    Ret Tryz.prog F.lariatref15_Same #[.agg c1.toArray, .agg c2.toArray] w fun v w' => v = .bool (same x y) ∧ Ext w w' := by
  obtain ⟨a0, d0, a1, d1, a2, d2, a3, d3, a4, d4, rfl, h0, h1', h2', h3, h4, la0, la1, la2, la3, la4⟩ := h1.form
  obtain ⟨o0, e0, o1, e1, o2, e2', o3, e3', o4, e4', rfl, k0, k1, k2, k3, k4, lb0, lb1, lb2, lb3, lb4⟩ := h2.form
  refine K.start hmix E.lariatref15_Same (args := [_, _]) (Nat.le_of_ble_eq_true rfl) ?_; dsimp only [C.lariatref15_Same,yt,yi,yb,yp,yr,ye,yc,yv,yg,ym,yw,ya,yl,yx,ys,yn]
  refine Sg ?_
  intro w1 b1 hb1 he1 hc1
  refine Sg ?_
  intro w2 b2 hb2 he2 hc2
  replace hc1 := he2.obj hc1
  have e2 := he1.trans he2
  clear he1 he2
  refine Sg ?_
  refine K.cond (fun g1 => ?_) (fun g1 => ?_)
  rotate_left
  · refine Sg ?_
    exact ⟨by rw [same_ne (fun e => g1 (by rw [e]))], e2⟩
  refine Sg ?_
  refine K.call (rvars_r _ _ x.vars y.vars w2 (h1'.ext e2) (k1.ext e2)) ?_
  rintro _ w3 ⟨rfl, he3⟩
  replace hc1 := he3.obj hc1
  replace hc2 := he3.obj hc2
  have e3 := e2.trans he3
  clear e2 he3
  cases hgu : same x.vars y.vars with
  | false =>
    refine Sg ?_
    exact ⟨by rw [same_ne (fun e => by rw [e, same_iff.2 rfl] at hgu; cases hgu)], e3⟩
  | true =>
  refine Sg ?_
  refine K.cond (fun g2 => ?_) (fun g2 => ?_)
  rotate_left
  · refine Sg ?_
    exact ⟨by rw [same_ne (fun e => g2 (by rw [e]))], e3⟩
  refine Sg ?_
  refine K.cond (fun g3 => ?_) (fun g3 => ?_)
  rotate_left
  · refine Sg ?_
    exact ⟨by rw [same_ne (fun e => g3 (by rw [e]))], e3⟩
  refine Sg ?_
  refine K.cond (fun g4 => ?_) (fun g4 => ?_)
  rotate_left
  · refine Sg ?_
    exact ⟨by rw [same_ne (fun e => g4 (by rw [e]))], e3⟩
  refine Sg ?_
  have hc1o := hc1
  have hc2o := hc2
  refine Sg ?_
  have hl5 : x.scalars.length = y.scalars.length := by omega
  refine K.forG 5 x.scalars.length [2, 3] (fun _ => []) () (fun k _ w' => Ext w3 w' ∧ x.scalars.take k = y.scalars.take k) (by first | trivial | rfl | exact ⟨rfl, trivial⟩ | (simp -dsimp only [LL,slots_nil,slots_cons,keepV_nil,keepV_cons,has_nil,has_cons,Nat.reduceAdd,Nat.reduceEqDiff,reduceIte,and_self]; done) | (simp -dsimp only [LL,slots_nil,slots_cons,keepV_nil,keepV_cons,has_nil,has_cons,Nat.reduceAdd,Nat.reduceEqDiff,reduceIte,and_self]; exact ⟨rfl, trivial⟩)) (by first | trivial | rfl | exact ⟨rfl, trivial⟩ | (simp -dsimp only [LL,slots_nil,slots_cons,keepV_nil,keepV_cons,has_nil,has_cons,Nat.reduceAdd,Nat.reduceEqDiff,reduceIte,and_self]; done) | (simp -dsimp only [LL,slots_nil,slots_cons,keepV_nil,keepV_cons,has_nil,has_cons,Nat.reduceAdd,Nat.reduceEqDiff,reduceIte,and_self]; exact ⟨rfl, trivial⟩)) ⟨Ext.refl _, by simp⟩ ?_
  clear hc1 hc2
  rintro k5 _ S w10 hk5 ⟨he10, hI5⟩
  have hc1 := he10.obj hc1o
  have hc2 := he10.obj hc2o
  have e10 := e3.trans he10
  refine Sg ?_
  refine K.cond (fun g6 => ?_) (fun g6 => ?_)
  · have hk' : k5 < x.scalars.length := by omega
    have hk2 : k5 < y.scalars.length := by omega
    obtain ⟨a1, rfl⟩ := h0.addr (by omega)
    obtain ⟨a2, rfl⟩ := k0.addr (by omega)
    refine Sg ?_
    refine K.neS (sig := Abs.sigScalar) (by kernel_rfl) (Abs.conf_scalar _) (Abs.conf_scalar _) fun r hr => ?_
    refine Sg ?_
    intro wn hen
    refine Sg ?_
    refine K.condb (fun g2 => ?_) (fun g2 => ?_)
    · have hd := hr.1 g2
      refine Sg ?_
      exact ⟨by rw [same_ne (fun e => hd (by simp only [e]))], e10.trans hen⟩
    · refine Sg ?_
      refine ⟨hk', by first | trivial | rfl, (), trivial, he10.trans hen, (take_succ_eq hk' hk2).2 ⟨hI5, Abs.scalar_inj _ _ (Classical.byContradiction fun hn => ?_)⟩⟩
      rw [hr.2 hn] at g2
      cases g2
  have hkl : k5 = x.scalars.length := by omega
  rw [hkl, List.take_length, hl5, List.take_length] at hI5
  refine Sg ?_
  have hl6 : x.chans.length = y.chans.length := by omega
  refine K.forG 6 x.chans.length [2, 3] (fun _ => []) () (fun k _ w' => Ext w3 w' ∧ x.chans.take k = y.chans.take k) (by first | trivial | rfl | exact ⟨rfl, trivial⟩ | (simp -dsimp only [LL,slots_nil,slots_cons,keepV_nil,keepV_cons,has_nil,has_cons,Nat.reduceAdd,Nat.reduceEqDiff,reduceIte,and_self]; done) | (simp -dsimp only [LL,slots_nil,slots_cons,keepV_nil,keepV_cons,has_nil,has_cons,Nat.reduceAdd,Nat.reduceEqDiff,reduceIte,and_self]; exact ⟨rfl, trivial⟩)) (by first | trivial | rfl | exact ⟨rfl, trivial⟩ | (simp -dsimp only [LL,slots_nil,slots_cons,keepV_nil,keepV_cons,has_nil,has_cons,Nat.reduceAdd,Nat.reduceEqDiff,reduceIte,and_self]; done) | (simp -dsimp only [LL,slots_nil,slots_cons,keepV_nil,keepV_cons,has_nil,has_cons,Nat.reduceAdd,Nat.reduceEqDiff,reduceIte,and_self]; exact ⟨rfl, trivial⟩)) ⟨he10, by simp⟩ ?_
  clear hc1 hc2
  rintro k6 _ S w11 hk6 ⟨he11, hI6⟩
  have hc1 := he11.obj hc1o
  have hc2 := he11.obj hc2o
  have e11 := e3.trans he11
  refine Sg ?_
  refine K.cond (fun g6 => ?_) (fun g6 => ?_)
  · have hk' : k6 < x.chans.length := by omega
    have hk2 : k6 < y.chans.length := by omega
    obtain ⟨a1, rfl⟩ := h2'.addr (by omega)
    obtain ⟨a2, rfl⟩ := k2.addr (by omega)
    refine Sg ?_
    refine K.neS (sig := Abs.sigChan) (by kernel_rfl) (Abs.conf_chan _) (Abs.conf_chan _) fun r hr => ?_
    refine Sg ?_
    intro wn hen
    refine Sg ?_
    refine K.condb (fun g2 => ?_) (fun g2 => ?_)
    · have hd := hr.1 g2
      refine Sg ?_
      exact ⟨by rw [same_ne (fun e => hd (by simp only [e]))], e11.trans hen⟩
    · refine Sg ?_
      refine ⟨hk', by first | trivial | rfl, (), trivial, he11.trans hen, (take_succ_eq hk' hk2).2 ⟨hI6, Abs.chan_inj _ _ (Classical.byContradiction fun hn => ?_)⟩⟩
      rw [hr.2 hn] at g2
      cases g2
  have hkl : k6 = x.chans.length := by omega
  rw [hkl, List.take_length, hl6, List.take_length] at hI6
  refine Sg ?_
  have hl7 : x.procs.length = y.procs.length := by omega
  refine K.forG 7 x.procs.length [2, 3] (fun _ => []) () (fun k _ w' => Ext w3 w' ∧ x.procs.take k = y.procs.take k) (by first | trivial | rfl | exact ⟨rfl, trivial⟩ | (simp -dsimp only [LL,slots_nil,slots_cons,keepV_nil,keepV_cons,has_nil,has_cons,Nat.reduceAdd,Nat.reduceEqDiff,reduceIte,and_self]; done) | (simp -dsimp only [LL,slots_nil,slots_cons,keepV_nil,keepV_cons,has_nil,has_cons,Nat.reduceAdd,Nat.reduceEqDiff,reduceIte,and_self]; exact ⟨rfl, trivial⟩)) (by first | trivial | rfl | exact ⟨rfl, trivial⟩ | (simp -dsimp only [LL,slots_nil,slots_cons,keepV_nil,keepV_cons,has_nil,has_cons,Nat.reduceAdd,Nat.reduceEqDiff,reduceIte,and_self]; done) | (simp -dsimp only [LL,slots_nil,slots_cons,keepV_nil,keepV_cons,has_nil,has_cons,Nat.reduceAdd,Nat.reduceEqDiff,reduceIte,and_self]; exact ⟨rfl, trivial⟩)) ⟨he11, by simp⟩ ?_
  clear hc1 hc2
  rintro k7 _ S w12 hk7 ⟨he12, hI7⟩
  have hc1 := he12.obj hc1o
  have hc2 := he12.obj hc2o
  have e12 := e3.trans he12
  refine Sg ?_
  refine K.cond (fun g6 => ?_) (fun g6 => ?_)
  · have hk' : k7 < x.procs.length := by omega
    have hk2 : k7 < y.procs.length := by omega
    obtain ⟨a1, rfl⟩ := h3.addr (by omega)
    obtain ⟨a2, rfl⟩ := k3.addr (by omega)
    obtain ⟨cs1, hx1, hX⟩ := Rel.out (h3.at k7 hk')
    obtain ⟨cs2, hx2, hY⟩ := Rel.out (k3.at k7 hk2)
    have hl1 := Rel.len (R := Abs.RProc) hX
    have hl2 := Rel.len (R := Abs.RProc) hY
    refine Sg ?_
    refine K.ldA (hx1.ext e12) hl1 ?_
    refine Sg ?_
    refine K.ldA (hx2.ext e12) hl2 ?_
    refine Sg ?_
    refine K.qfn (.bool (same x.procs[k7] y.procs[k7])) (fun w' e => rproc15_r _ _ cs1 cs2 w' (hX.ext (e12.trans e)) (hY.ext (e12.trans e))) ?_
    cases hA : same x.procs[k7] y.procs[k7] with
    | false =>
      refine Sg ?_
      intro wn hen
      refine Sg ?_
      exact ⟨by rw [same_ne (fun e => by simp only [e, same_iff.2] at hA; cases hA)], e12.trans hen⟩
    | true =>
    refine Sg ?_
    intro wn hen
    refine Sg ?_
    exact ⟨hk', by first | trivial | rfl, (), trivial, he12.trans hen, (take_succ_eq hk' hk2).2 ⟨hI7, same_iff.1 hA⟩⟩
  have hkl : k7 = x.procs.length := by omega
  rw [hkl, List.take_length, hl7, List.take_length] at hI7
  refine Sg ?_
  have hl8 : x.props.length = y.props.length := by omega
  refine K.forG 8 x.props.length [2, 3] (fun _ => []) () (fun k _ w' => Ext w3 w' ∧ x.props.take k = y.props.take k) (by first | trivial | rfl | exact ⟨rfl, trivial⟩ | (simp -dsimp only [LL,slots_nil,slots_cons,keepV_nil,keepV_cons,has_nil,has_cons,Nat.reduceAdd,Nat.reduceEqDiff,reduceIte,and_self]; done) | (simp -dsimp only [LL,slots_nil,slots_cons,keepV_nil,keepV_cons,has_nil,has_cons,Nat.reduceAdd,Nat.reduceEqDiff,reduceIte,and_self]; exact ⟨rfl, trivial⟩)) (by first | trivial | rfl | exact ⟨rfl, trivial⟩ | (simp -dsimp only [LL,slots_nil,slots_cons,keepV_nil,keepV_cons,has_nil,has_cons,Nat.reduceAdd,Nat.reduceEqDiff,reduceIte,and_self]; done) | (simp -dsimp only [LL,slots_nil,slots_cons,keepV_nil,keepV_cons,has_nil,has_cons,Nat.reduceAdd,Nat.reduceEqDiff,reduceIte,and_self]; exact ⟨rfl, trivial⟩)) ⟨he12, by simp⟩ ?_
  clear hc1 hc2
  rintro k8 _ S w13 hk8 ⟨he13, hI8⟩
  have hc1 := he13.obj hc1o
  have hc2 := he13.obj hc2o
  have e13 := e3.trans he13
  refine Sg ?_
  refine K.cond (fun g6 => ?_) (fun g6 => ?_)
  · have hk' : k8 < x.props.length := by omega
    have hk2 : k8 < y.props.length := by omega
    obtain ⟨a1, rfl⟩ := h4.addr (by omega)
    obtain ⟨a2, rfl⟩ := k4.addr (by omega)
    obtain ⟨_, ve1, hx1, hX⟩ := h4.at k8 hk'
    obtain ⟨_, ve2, hx2, hY⟩ := k4.at k8 hk2
    obtain ⟨_, _, rfl, _⟩ := hX.form
    obtain ⟨_, _, rfl, _⟩ := hY.form
    unfold Abs.Prp.enc at hx1 hx2
    replace hx1 := hx1.ext e13
    replace hx2 := hx2.ext e13
    refine Sg ?_
    refine K.cond (fun k1 => ?_) (fun k1 => ?_)
    rotate_left
    · refine Sg ?_
      intro wn hen
      refine Sg ?_
      exact ⟨by rw [same_ne (fun e => k1 (by simp only [e]))], e13.trans hen⟩
    refine Sg ?_
    refine K.qfn (.bool (same x.props[k8].expr y.props[k8].expr)) (fun w' e => rnodes_r _ _ _ _ w' (hX.ext (e13.trans e)) (hY.ext (e13.trans e))) ?_
    cases hA : same x.props[k8].expr y.props[k8].expr with
    | false =>
      refine Sg ?_
      intro wn hen
      refine Sg ?_
      exact ⟨by rw [same_ne (fun e => by simp only [e, same_iff.2] at hA; cases hA)], e13.trans hen⟩
    | true =>
    refine Sg ?_
    intro wn hen
    have hprp : x.props[k8] = y.props[k8] := by
      have h1 := same_iff.1 hA
      generalize x.props[k8] = p at *
      generalize y.props[k8] = q at *
      cases p; cases q
      simp_all
    refine Sg ?_
    exact ⟨hk', by first | trivial | rfl, (), trivial, he13.trans hen, (take_succ_eq hk' hk2).2 ⟨hI8, hprp⟩⟩
  have hkl : k8 = x.props.length := by omega
  rw [hkl, List.take_length, hl8, List.take_length] at hI8
  have hgu' := same_iff.1 hgu
  have : x = y := by
    cases x; cases y
    simp_all
  refine Sg ?_
  exact ⟨by rw [same_iff.2 this], e13⟩
end Go.Proofs.YtbbaokmelkiemaaGreatDoor
end
