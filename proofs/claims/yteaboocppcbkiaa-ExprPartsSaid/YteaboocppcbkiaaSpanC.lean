/- The law on expressions' parts, walked. -/
import Derived.Test.YteaboocppcbkiaaSpanB
import Derived.Test.YteaboocppcbkiaaExprO
import Derived.Test.YteaboocppcbkiaaPartQ
import Derived.Test.YteaboocppcbkiaaLite13
set_option linter.all false
set_option maxRecDepth 4000
set_option maxHeartbeats 1600000
namespace Go.Proofs.Yteaboocppcbkiaa
open Go Go.RowKit Lite Go.ChangeShapes
theorem ints_cell {w w' : World} {a : Addr} {n c : Nat} {l : List Int} (h : Ints w (.slice (some a) n c) l) (he : Ext w w') {i : Nat} {z : Int} (hz : l[i]? = some z) : w'.cell? (a.add (i * 1)) = some (.int .i64 z) := by
  obtain ⟨hi, e⟩ := List.getElem?_eq_some_iff.1 hz
  have := h.at i hi 0 (.int .i64 l[i]) rfl
  rw [add_zero] at this
  rw [he.cell this, e]
theorem lawParts_r (ve : Value) (e : List Abs.Node) (cs : List Value) (s : Abs.Scope) (w : World) (he : Abs.Nodes w ve e) (h : Abs.ScopeIs w cs s) :
    Ret Try.prog F.lariatlaw10_ExprParts #[ve, .agg cs.toArray] w fun v w' => v = .bool true ∧ Ext w w' := by
  obtain ⟨a0, c0, a1, c1, a2, c2, a3, c3, a4, c4, rfl, _⟩ := h.form
  obtain ⟨oa, cap, rfl, hlen⟩ := he.form
  refine K.start hmix E.lariatlaw10_ExprParts (args := [_, _]) (Nat.le_of_ble_eq_true rfl) ?_; dsimp only [C.lariatlaw10_ExprParts,yt,yi,yb,yp,yr,ye,yc,yv,yg,ym,yw,ya,yl,yx,ys,yn]
  refine Sg ?_
  intro w1 b1 hb1 he1 hc1
  refine Sg ?_
  refine K.call (kind_r _ e _ s w1 (he.ext he1) (h.ext he1)) ?_
  rintro _ w2 ⟨rfl, he2⟩
  have he02 := he1.trans he2
  refine Sg ?_
  refine K.cond (fun g1 => ?_) (fun g1 => ?_)
  rotate_left
  · refine Sg ?_
    refine K.call (elives_r w2) ?_
    rintro _ w3 ⟨rfl, he3⟩
    refine Sg ?_
    (refine ⟨?_, ?_⟩ <;> first | trivial | rfl | (repeat' first | assumption | exact Ext.refl _ | refine Ext.trans ?_ (by assumption)))
  obtain ⟨l, p1, p2, p3, p4, p5, p6⟩ := Abs.parts_law g1
  have hc1 := he2.obj hc1
  refine Sg ?_
  refine K.call (spans_r _ e w2 (he.ext he02) (by omega)) ?_
  rintro _ w3 ⟨⟨sv, rfl, hs⟩, he3⟩
  rw [p1] at hs ⊢
  have he03 := he02.trans he3
  have hc1 := he3.obj hc1
  obtain ⟨os, cs', rfl, hl'⟩ := hs.form
  obtain ⟨sa, rfl⟩ := hs.addr (by simp only; omega)
  obtain ⟨ea, rfl⟩ := he.addr p3
  simp only at hs
  have p4' : l[e.length - 1]'(by omega) = 0 := (List.getElem?_eq_some_iff.1 p4).2
  refine Sg ?_
  refine K.ian (e.length - 1) (by omega) (by omega) ?_
  refine Sg ?_
  refine K.forG 48 e.length [0, 3, 7, 47] (fun _ => []) () (fun k _ w' => Ext w w' ∧ Ext w3 w') (by first | trivial | rfl | exact ⟨rfl, trivial⟩ | (simp -dsimp only [LL,slots_nil,slots_cons,keepV_nil,keepV_cons,has_nil,has_cons,Nat.reduceAdd,Nat.reduceEqDiff,reduceIte,and_self]; done) | (simp -dsimp only [LL,slots_nil,slots_cons,keepV_nil,keepV_cons,has_nil,has_cons,Nat.reduceAdd,Nat.reduceEqDiff,reduceIte,and_self]; exact ⟨rfl, trivial⟩)) (by first | trivial | rfl | exact ⟨rfl, trivial⟩ | (simp -dsimp only [LL,slots_nil,slots_cons,keepV_nil,keepV_cons,has_nil,has_cons,Nat.reduceAdd,Nat.reduceEqDiff,reduceIte,and_self]; done) | (simp -dsimp only [LL,slots_nil,slots_cons,keepV_nil,keepV_cons,has_nil,has_cons,Nat.reduceAdd,Nat.reduceEqDiff,reduceIte,and_self]; exact ⟨rfl, trivial⟩)) ⟨he03, Ext.refl _⟩ ?_
  rintro k _ S w4 hk ⟨he04, he34⟩
  have hc1 := he34.obj hc1
  refine Sg ?_
  refine K.cond (fun g3 => ?_) (fun g3 => ?_)
  · have hk' : k < e.length := by omega
    obtain ⟨b, q1, q2, q3, m, q4, q5⟩ := p6 k hk'
    have q1' : l[k]'(by omega) = (b : Int) := (List.getElem?_eq_some_iff.1 q1).2
    have hcap := he.cap
    have hpart : Abs.Nodes w (.slice (if cap = b then some ea else (some ea).map (·.add (b * 2))) (k + 1 - b) (cap - b)) ((e.take (k + 1)).drop b) :=
      (he.head (k + 1) (by omega)).tail b (by rw [List.length_take]; omega)
    have hpl : ((e.take (k + 1)).drop b).length ≤ 300 := by rw [List.length_drop, List.length_take]; omega
    refine Sg ?_
    refine Sg ?_
    refine K.slc b (k + 1) cap (by simp [bnd, ev_tmp, upd_at, q1']) (by simp [bnd, ev_tmp, upd_at]; omega) (by simp [bnd]) (by omega) (by simp) ?_
    refine Sg ?_
    refine K.qfn _ (fun w' e' => kind_r _ _ _ s w' (hpart.ext (he04.trans e')) (h.ext (he04.trans e'))) ?_
    rw [q3]
    refine Sg ?_
    intro w5 he5
    have he05 := he04.trans he5
    have he35 := he34.trans he5
    refine Sg ?_
    refine K.slc b (k + 1) cap (by simp [bnd, ev_tmp, upd_at, q1']) (by simp [bnd, ev_tmp, upd_at]; omega) (by simp [bnd]) (by omega) (by simp) ?_
    refine Sg ?_
    refine K.call (spans_r _ _ w5 (hpart.ext he05) hpl) ?_
    rintro _ w6 ⟨⟨sv2, rfl, hs2⟩, he6⟩
    rw [q4] at hs2 ⊢
    simp only at hs2
    obtain ⟨os2, cs2, rfl, hl2⟩ := hs2.form
    have hm0 : 0 < m.length := (List.getElem?_eq_some_iff.1 q5).1
    obtain ⟨sa2, rfl⟩ := hs2.addr hm0
    have q5' : m[0]'hm0 = 0 := (List.getElem?_eq_some_iff.1 q5).2
    refine Sg ?_
    exact ⟨hk', by first | trivial | rfl, (), trivial, by (repeat' first | assumption | exact Ext.refl _ | refine Ext.trans ?_ (by assumption)), by (repeat' first | assumption | exact Ext.refl _ | refine Ext.trans ?_ (by assumption))⟩
  · refine Sg ?_
    refine K.call (elives_r w4) ?_
    rintro _ w5 ⟨rfl, he5⟩
    refine Sg ?_
    (refine ⟨?_, ?_⟩ <;> first | trivial | rfl | (repeat' first | assumption | exact Ext.refl _ | refine Ext.trans ?_ (by assumption)))
theorem walk_ExprParts {H : Type} {enc : TypeId × Value → H} {r : Reach} {b0 : Nat} {d0 d1 : DataW H} {p0 p1 : List MemPlace} (v0 v1 : Value) (W : World)
    (k0 : Value.okWide Try.prog W r b0 T.sl_api_Node v0) (h0 : DataW.Trod enc Try.prog W 0 (fun _ => true) true T.sl_api_Node v0 d0 p0) (_s0 : Small Try.prog T.sl_api_Node d0)
    (k1 : Value.okWide Try.prog W r b0 T.api_Scope v1) (h1 : DataW.Trod enc Try.prog W 0 (fun _ => true) true T.api_Scope v1 d1 p1) (s1 : Small Try.prog T.api_Scope d1) :
    Ret Try.prog F.lariatlaw10_ExprParts #[v0, v1] W fun v w' => v = .bool true ∧ Ext W w' := by
  obtain ⟨e, he⟩ := open_nodes k0 h0
  obtain ⟨cs, s, rfl, hs⟩ := open_scope k1 h1 s1
  exact lawParts_r v0 e cs s W he hs
end Go.Proofs.Yteaboocppcbkiaa
