/- Texts joined: ExprJ RefA RefB RefC ModJ LiteM ModA ModD. -/
import Derived.Test.YtpaahhleopalaaaGreatDoorQe
import Derived.Test.YtpaahhleopalaaaGreatDoorQf
import Derived.Test.YtpaahhleopalaaaGreatDoorQg
import Derived.Test.YtpaahhleopalaaaGreatDoorQh
import Derived.Test.YtpaahhleopalaaaGreatDoorQi
import Derived.Test.YtpaahhleopalaaaGreatDoorQj
import Derived.Maps.RangeRun
set_option linter.all false
section
/- What the reference says of kinds: the whole. -/
set_option maxRecDepth 4000
set_option linter.unusedSimpArgs false
set_option maxHeartbeats 3200000
namespace Go.Proofs.YtpaahhleopalaaaGreatDoor
open Go Go.RowKit Lite

theorem fKind_0 {s : Abs.Scope} {x : Abs.Node} {st : List Int} (h : Abs.nparts x.op = 0) : Abs.fKind s x st = Abs.kleaf x s (st.getLastD 0) := by
  unfold Abs.fKind; rw [(np0 h).2.2.2]
theorem fKind_1 {s : Abs.Scope} {x : Abs.Node} {st : List Int} (h : Abs.nparts x.op = 1) (hl : 1 ≤ st.length) : Abs.fKind s x st = oneK x st[st.length - 1] s := by
  unfold Abs.fKind oneK
  cases ho : Abs.opOf x.op with
  | none => simp only; rw [getLast_eq st (by omega)]
  | some o =>
    have := (Abs.opOf_parts ho).1
    simp only
    rw [show o.parts.toNat = 1 from by omega, drop1 hl]
theorem fKind_2 {s : Abs.Scope} {x : Abs.Node} {st : List Int} (h : Abs.nparts x.op = 2) (hl : 2 ≤ st.length) : Abs.fKind s x st = twoK x.op st[st.length - 2] st[st.length - 1] := by
  unfold Abs.fKind twoK
  obtain ⟨o, ho, hp⟩ := opOf_some (show 9 ≤ x.op ∧ x.op ≤ 19 by have := np2 h; omega)
  rw [ho]
  simp only
  rw [show o.parts.toNat = 2 from by omega, drop2 hl]
theorem refKind_r (ve : Value) (e : List Abs.Node) (cs : List Value) (s : Abs.Scope) (w : World) (he : Abs.Nodes w ve e) (h : Abs.ScopeIs w cs s) :
    Ret Tryz.prog F.lariatref10_Kind #[ve, .agg cs.toArray] w fun v w' => v = .tuple #[.int .i64 (Abs.kind e s).1, .int .i64 (Abs.kind e s).2] ∧ Ext w w' := by
  obtain ⟨v0, v1, v2, v3, v4, rfl, _⟩ := h.ex
  obtain ⟨oa, cap, rfl, hlen⟩ := he.form
  refine K.start hmix E.lariatref10_Kind (args := [_, _]) (Nat.le_of_ble_eq_true rfl) ?_
  dsimp only [C.lariatref10_Kind]; refine Yy ?_
  refine St ?_
  refine K.new fun w1 ps hps he1 hc1 => ?_
  refine St ?_
  refine K.cond (fun g1 => ?_) (fun g1 => ?_)
  · refine St ?_
    rw [Abs.kind, Abs.runE, if_pos (by omega)]
    (refine ⟨?_, ?_⟩ <;> first | trivial | rfl | (repeat' first | assumption | exact Ext.refl _ | refine Ext.trans ?_ (by assumption)))
  refine St ?_
  refine K.cond (fun g2 => ?_) (fun g2 => ?_)
  · refine St ?_
    rw [Abs.kind, Abs.runE, if_neg (by omega), if_pos (by omega)]
    (refine ⟨?_, ?_⟩ <;> first | trivial | rfl | (repeat' first | assumption | exact Ext.refl _ | refine Ext.trans ?_ (by assumption)))
  refine St ?_
  refine K.for1 7 e.length (fun k S w' => ∃ v st, S 6 = v ∧ OwnI w1.heap.size w' v st ∧ Abs.runL (Abs.fKind s) (e.take k) [] = (0, st) ∧ (0 < k → 1 ≤ st.length) ∧ st.length ≤ 12 ∧ Ext w1 w')
    (by simp -dsimp only [LL,B9,Nat.reduceAdd,Nat.reduceEqDiff,reduceIte,reduceCtorEq,Bool.false_eq_true]) ⟨.slice none 0 0, [], by simp -dsimp only [LL,B9,Nat.reduceAdd,Nat.reduceEqDiff,reduceIte,reduceCtorEq,Bool.false_eq_true], OwR.nil _ _ _ _ _, by simp [Abs.runL], by simp, by simp, Ext.refl _⟩ ?_
  rintro k S w2 hS hk h7 ⟨v6, st, h6, hown, hrun, h1st, h12, he2⟩
  have h0 := hS 0 rfl; have h3 := hS 3 rfl; simp only [upd_at, Nat.reduceAdd, Nat.reduceEqDiff, reduceIte, fr0_cons, fr0_nil] at h0 h3; clear hS
  obtain ⟨oa6, c6, rfl, hc6, hm6⟩ := hown.form
  have hi : Ints w2 _ st := OwR.slr (enc := encI) (sz := 1) (fun _ => rfl) hown
  unfold maxLen at hm6
  (repeat' first
 | assumption
 | exact Ext.refl _
 | refine Ext.trans ?_ (by assumption)
 | refine K.wrap (by omega) ?_
 | refine K.ldb (by assumption) ?_ rfl ?_
 | refine K.ldb0 (by assumption) ?_ rfl ?_
 | refine K.ldE (by assumption) ?_ (by omega) rfl ?_
 | refine K.ldE0 (by assumption) ?_ (by omega) rfl ?_
 | refine K.ldAE (by assumption) ?_ (by omega) rfl ?_
 | refine K.iaC (by omega) ?_
 | refine K.condT (by first | assumption | omega) ?_
 | refine K.condF (by first | assumption | omega) ?_
 | refine K.condbT (by assumption) ?_
 | refine K.condbF (by assumption) ?_
 | simp -dsimp only [LL,B9,Nat.reduceAdd,Nat.reduceEqDiff,reduceIte,reduceCtorEq,Bool.false_eq_true,h0, h3, h6, h7])
  refine K.cond (fun g3 => ?_) (fun g3 => ?_)
  rotate_left
  · have hk' : k = e.length := by omega
    subst hk'
    rw [List.take_length] at hrun
    have h1 := h1st (by omega)
    obtain ⟨a, rfl⟩ := hi.addr h1
    have hE : Abs.kind e s = if st.length > 1 then (0, 5) else (st.headD 0, 0) := by
      rw [Abs.kind, Abs.runE, if_neg (by omega), if_neg (by omega), hrun, if_neg (by simp)]
    rw [hE]
    clear hE
    (repeat' first
 | assumption
 | exact Ext.refl _
 | refine Ext.trans ?_ (by assumption)
 | refine K.wrap (by omega) ?_
 | refine K.ldb (by assumption) ?_ rfl ?_
 | refine K.ldb0 (by assumption) ?_ rfl ?_
 | refine K.ldE (by assumption) ?_ (by omega) rfl ?_
 | refine K.ldE0 (by assumption) ?_ (by omega) rfl ?_
 | refine K.ldAE (by assumption) ?_ (by omega) rfl ?_
 | refine K.iaC (by omega) ?_
 | refine K.condT (by first | assumption | omega) ?_
 | refine K.condF (by first | assumption | omega) ?_
 | refine K.condbT (by assumption) ?_
 | refine K.condbF (by assumption) ?_
 | simp -dsimp only [LL,B9,Nat.reduceAdd,Nat.reduceEqDiff,reduceIte,reduceCtorEq,Bool.false_eq_true,h0, h3, h6, h7])
    refine K.cond (fun g4 => ?_) (fun g4 => ?_)
    · refine St ?_
      rw [if_pos (by omega)]
      (refine ⟨?_, ?_⟩ <;> first | trivial | rfl | (repeat' first | assumption | exact Ext.refl _ | refine Ext.trans ?_ (by assumption)))
    · (repeat' first
 | assumption
 | exact Ext.refl _
 | refine Ext.trans ?_ (by assumption)
 | refine K.wrap (by omega) ?_
 | refine K.ldb (by assumption) ?_ rfl ?_
 | refine K.ldb0 (by assumption) ?_ rfl ?_
 | refine K.ldE (by assumption) ?_ (by omega) rfl ?_
 | refine K.ldE0 (by assumption) ?_ (by omega) rfl ?_
 | refine K.ldAE (by assumption) ?_ (by omega) rfl ?_
 | refine K.iaC (by omega) ?_
 | refine K.condT (by first | assumption | omega) ?_
 | refine K.condF (by first | assumption | omega) ?_
 | refine K.condbT (by assumption) ?_
 | refine K.condbF (by assumption) ?_
 | simp -dsimp only [LL,B9,Nat.reduceAdd,Nat.reduceEqDiff,reduceIte,reduceCtorEq,Bool.false_eq_true,h0, h3, h6, h7])
      refine K.ian 0 rfl (by omega) ?_
      refine St ?_
      rw [if_neg (by omega)]
      have : st.headD 0 = st[0] := by
        cases st with
        | nil => simp at h1
        | cons z st => rfl
      rw [this]
      (refine ⟨?_, ?_⟩ <;> first | trivial | rfl | (repeat' first | assumption | exact Ext.refl _ | refine Ext.trans ?_ (by assumption)))
  have hk' : k < e.length := by omega
  obtain ⟨a, rfl⟩ := he.addr (by omega)
  have hxk := (he.at k hk').ok
  have hrs := fun h0 => Abs.runE_err (f := Abs.fKind s) (e := e) (by omega) hk' hrun h0
  have hrn := Abs.runL_step hk' hrun
  have h02 := he1.trans he2
  have hs2 := he2.obj hc1
  (repeat' first
 | assumption
 | exact Ext.refl _
 | refine Ext.trans ?_ (by assumption)
 | refine K.wrap (by omega) ?_
 | refine K.ldb (by assumption) ?_ rfl ?_
 | refine K.ldb0 (by assumption) ?_ rfl ?_
 | refine K.ldE (by assumption) ?_ (by omega) rfl ?_
 | refine K.ldE0 (by assumption) ?_ (by omega) rfl ?_
 | refine K.ldAE (by assumption) ?_ (by omega) rfl ?_
 | refine K.iaC (by omega) ?_
 | refine K.condT (by first | assumption | omega) ?_
 | refine K.condF (by first | assumption | omega) ?_
 | refine K.condbT (by assumption) ?_
 | refine K.condbF (by assumption) ?_
 | simp -dsimp only [LL,B9,Nat.reduceAdd,Nat.reduceEqDiff,reduceIte,reduceCtorEq,Bool.false_eq_true,h0, h3, h6, h7])
  refine K.call (takes_r e[k].op w2) ?_
  rintro _ _ ⟨rfl, rfl⟩
  generalize hn : Abs.nparts e[k].op = n at *
  have hn2 : -1 ≤ n ∧ n ≤ 2 := by rw [← hn]; unfold Abs.nparts; (repeat' split) <;> omega
  (repeat' first
 | assumption
 | exact Ext.refl _
 | refine Ext.trans ?_ (by assumption)
 | refine K.wrap (by omega) ?_
 | refine K.ldb (by assumption) ?_ rfl ?_
 | refine K.ldb0 (by assumption) ?_ rfl ?_
 | refine K.ldE (by assumption) ?_ (by omega) rfl ?_
 | refine K.ldE0 (by assumption) ?_ (by omega) rfl ?_
 | refine K.ldAE (by assumption) ?_ (by omega) rfl ?_
 | refine K.iaC (by omega) ?_
 | refine K.condT (by first | assumption | omega) ?_
 | refine K.condF (by first | assumption | omega) ?_
 | refine K.condbT (by assumption) ?_
 | refine K.condbF (by assumption) ?_
 | simp -dsimp only [LL,B9,Nat.reduceAdd,Nat.reduceEqDiff,reduceIte,reduceCtorEq,Bool.false_eq_true,h0, h3, h6, h7])
  refine K.cond (fun g4 => ?_) (fun g4 => ?_)
  · have hs : Abs.stepG (Abs.fKind s) e[k] st = (3, st) := by unfold Abs.stepG; rw [hn, if_pos g4]
    rw [hs] at hrs
    refine St ?_
    rw [Abs.kind, hrs (by simp)]
    (refine ⟨?_, ?_⟩ <;> first | trivial | rfl | (repeat' first | assumption | exact Ext.refl _ | refine Ext.trans ?_ (by assumption)))
  (repeat' first
 | assumption
 | exact Ext.refl _
 | refine Ext.trans ?_ (by assumption)
 | refine K.wrap (by omega) ?_
 | refine K.ldb (by assumption) ?_ rfl ?_
 | refine K.ldb0 (by assumption) ?_ rfl ?_
 | refine K.ldE (by assumption) ?_ (by omega) rfl ?_
 | refine K.ldE0 (by assumption) ?_ (by omega) rfl ?_
 | refine K.ldAE (by assumption) ?_ (by omega) rfl ?_
 | refine K.iaC (by omega) ?_
 | refine K.condT (by first | assumption | omega) ?_
 | refine K.condF (by first | assumption | omega) ?_
 | refine K.condbT (by assumption) ?_
 | refine K.condbF (by assumption) ?_
 | simp -dsimp only [LL,B9,Nat.reduceAdd,Nat.reduceEqDiff,reduceIte,reduceCtorEq,Bool.false_eq_true,h0, h3, h6, h7])
  refine K.cond (fun g5 => ?_) (fun g5 => ?_)
  · have hs : Abs.stepG (Abs.fKind s) e[k] st = (4, st) := by unfold Abs.stepG; rw [hn, if_neg g4, if_pos g5]
    rw [hs] at hrs
    refine St ?_
    rw [Abs.kind, hrs (by simp)]
    (refine ⟨?_, ?_⟩ <;> first | trivial | rfl | (repeat' first | assumption | exact Ext.refl _ | refine Ext.trans ?_ (by assumption)))
  obtain ⟨p, rfl⟩ := Int.eq_ofNat_of_zero_le (show 0 ≤ n by omega)
  have hsg : Abs.stepG (Abs.fKind s) e[k] st = if (Abs.fKind s e[k] st).2 ≠ 0 then ((Abs.fKind s e[k] st).2, st) else if (st.take (st.length - p) ++ [(Abs.fKind s e[k] st).1]).length > 12 then (12, st) else (0, st.take (st.length - p) ++ [(Abs.fKind s e[k] st).1]) := by
    unfold Abs.stepG; rw [hn, if_neg g4, if_neg g5]; simp only [Int.toNat_natCast]
  have hml : (st.take (st.length - p) ++ [(Abs.fKind s e[k] st).1]).length = st.length - p + 1 := by simp [List.length_take]
  rw [hml] at hsg
  have fin : p = 0 ∨ p = 1 ∨ p = 2 := by omega
  rcases fin with hn0 | hn0 | hn0
  · have hf := fKind_0 (s := s) (st := st) (x := e[k]) (by omega)
    obtain ⟨z1, z2, z3, z4⟩ := np0 (x := e[k].op) (by omega)
    (repeat' first
 | assumption
 | exact Ext.refl _
 | refine Ext.trans ?_ (by assumption)
 | refine K.wrap (by omega) ?_
 | refine K.ldb (by assumption) ?_ rfl ?_
 | refine K.ldb0 (by assumption) ?_ rfl ?_
 | refine K.ldE (by assumption) ?_ (by omega) rfl ?_
 | refine K.ldE0 (by assumption) ?_ (by omega) rfl ?_
 | refine K.ldAE (by assumption) ?_ (by omega) rfl ?_
 | refine K.iaC (by omega) ?_
 | refine K.condT (by first | assumption | omega) ?_
 | refine K.condF (by first | assumption | omega) ?_
 | refine K.condbT (by assumption) ?_
 | refine K.condbF (by assumption) ?_
 | simp -dsimp only [LL,B9,Nat.reduceAdd,Nat.reduceEqDiff,reduceIte,reduceCtorEq,Bool.false_eq_true,h0, h3, h6, h7])
    refine K.ldAb (c := [_, _, _, _, _, _]) hs2 (Ext.refl _) rfl ?_
    (repeat' first
 | assumption
 | exact Ext.refl _
 | refine Ext.trans ?_ (by assumption)
 | refine K.wrap (by omega) ?_
 | refine K.ldb (by assumption) ?_ rfl ?_
 | refine K.ldb0 (by assumption) ?_ rfl ?_
 | refine K.ldE (by assumption) ?_ (by omega) rfl ?_
 | refine K.ldE0 (by assumption) ?_ (by omega) rfl ?_
 | refine K.ldAE (by assumption) ?_ (by omega) rfl ?_
 | refine K.iaC (by omega) ?_
 | refine K.condT (by first | assumption | omega) ?_
 | refine K.condF (by first | assumption | omega) ?_
 | refine K.condbT (by assumption) ?_
 | refine K.condbF (by assumption) ?_
 | simp -dsimp only [LL,B9,Nat.reduceAdd,Nat.reduceEqDiff,reduceIte,reduceCtorEq,Bool.false_eq_true,h0, h3, h6, h7])
    refine K.qfn _ (fun w' e' => rleaf_r e[k] _ s w' hxk (h.ext (h02.trans e')) ⟨z1, z2⟩ z3 (st.getLastD 0)) ?_
    rw [← hf]
    (repeat' first
 | assumption
 | exact Ext.refl _
 | refine Ext.trans ?_ (by assumption)
 | refine K.wrap (by omega) ?_
 | refine K.ldb (by assumption) ?_ rfl ?_
 | refine K.ldb0 (by assumption) ?_ rfl ?_
 | refine K.ldE (by assumption) ?_ (by omega) rfl ?_
 | refine K.ldE0 (by assumption) ?_ (by omega) rfl ?_
 | refine K.ldAE (by assumption) ?_ (by omega) rfl ?_
 | refine K.iaC (by omega) ?_
 | refine K.condT (by first | assumption | omega) ?_
 | refine K.condF (by first | assumption | omega) ?_
 | refine K.condbT (by assumption) ?_
 | refine K.condbF (by assumption) ?_
 | simp -dsimp only [LL,B9,Nat.reduceAdd,Nat.reduceEqDiff,reduceIte,reduceCtorEq,Bool.false_eq_true,h0, h3, h6, h7])
    intro w3 he3
    (repeat' first
 | assumption
 | exact Ext.refl _
 | refine Ext.trans ?_ (by assumption)
 | refine K.wrap (by omega) ?_
 | refine K.ldb (by assumption) ?_ rfl ?_
 | refine K.ldb0 (by assumption) ?_ rfl ?_
 | refine K.ldE (by assumption) ?_ (by omega) rfl ?_
 | refine K.ldE0 (by assumption) ?_ (by omega) rfl ?_
 | refine K.ldAE (by assumption) ?_ (by omega) rfl ?_
 | refine K.iaC (by omega) ?_
 | refine K.condT (by first | assumption | omega) ?_
 | refine K.condF (by first | assumption | omega) ?_
 | refine K.condbT (by assumption) ?_
 | refine K.condbF (by assumption) ?_
 | simp -dsimp only [LL,B9,Nat.reduceAdd,Nat.reduceEqDiff,reduceIte,reduceCtorEq,Bool.false_eq_true,h0, h3, h6, h7])
    refine K.cond (fun g6 => ?_) (fun g6 => ?_)
    rotate_left
    · rw [if_pos g6] at hsg
      refine St ?_
      rw [Abs.kind, hrs (by rw [hsg]; exact g6), hsg]
      (refine ⟨?_, ?_⟩ <;> first | trivial | rfl | (repeat' first | assumption | exact Ext.refl _ | refine Ext.trans ?_ (by assumption)))
    rw [if_neg (by simpa using g6)] at hsg
    have ho3 := hown.ext he3
    (repeat' first
 | assumption
 | exact Ext.refl _
 | refine Ext.trans ?_ (by assumption)
 | refine K.wrap (by omega) ?_
 | refine K.ldb (by assumption) ?_ rfl ?_
 | refine K.ldb0 (by assumption) ?_ rfl ?_
 | refine K.ldE (by assumption) ?_ (by omega) rfl ?_
 | refine K.ldE0 (by assumption) ?_ (by omega) rfl ?_
 | refine K.ldAE (by assumption) ?_ (by omega) rfl ?_
 | refine K.iaC (by omega) ?_
 | refine K.condT (by first | assumption | omega) ?_
 | refine K.condF (by first | assumption | omega) ?_
 | refine K.condbT (by assumption) ?_
 | refine K.condbF (by assumption) ?_
 | simp -dsimp only [LL,B9,Nat.reduceAdd,Nat.reduceEqDiff,reduceIte,reduceCtorEq,Bool.false_eq_true,h0, h3, h6, h7])
    refine K.bldSa (cs := []) (by simp [List.range, List.range.loop, fillC]) fun w4 b4 hb4 he4 hc4 => ?_
    have z12 := he2.size
    have z23 := he3.size
    have z34 := he4.size
    have hE4 : OwnI w1.heap.size w4 (.slice (some ⟨b4, 0, none⟩) 0 0) [] := OwR.empty (by omega) hc4
    have ho4 := ho3.ext he4
    have ho5 : OwnI w1.heap.size w4 (.slice _ (st.length - p) _) (st.take (st.length - p)) := OwR.head (enc := encI) (sz := 1) (xs := st) (fun _ => rfl) ho4 (st.length - p) (Nat.sub_le _ _)
    have hlt : (st.take (st.length - p)).length = st.length - p := by simp [List.length_take]
    (repeat' first
 | assumption
 | exact Ext.refl _
 | refine Ext.trans ?_ (by assumption)
 | refine K.wrap (by omega) ?_
 | refine K.ldb (by assumption) ?_ rfl ?_
 | refine K.ldb0 (by assumption) ?_ rfl ?_
 | refine K.ldE (by assumption) ?_ (by omega) rfl ?_
 | refine K.ldE0 (by assumption) ?_ (by omega) rfl ?_
 | refine K.ldAE (by assumption) ?_ (by omega) rfl ?_
 | refine K.iaC (by omega) ?_
 | refine K.condT (by first | assumption | omega) ?_
 | refine K.condF (by first | assumption | omega) ?_
 | refine K.condbT (by assumption) ?_
 | refine K.condbF (by assumption) ?_
 | simp -dsimp only [LL,B9,Nat.reduceAdd,Nat.reduceEqDiff,reduceIte,reduceCtorEq,Bool.false_eq_true,h0, h3, h6, h7])
    refine K.slcT (st.length - p) (by simp -dsimp only [LL,B9,Nat.reduceAdd,Nat.reduceEqDiff,reduceIte,reduceCtorEq,Bool.false_eq_true,h6]; first | rfl | (congr 1; omega)) (by omega) ?_
    refine St ?_
    refine K.appS (xs := []) (ys := st.take (st.length - p)) hE4 ho5 (fun _ => rfl) encI1 (by rw [hlt]; simp only [List.length_nil]; omega) (by rw [hlt]; simp only [List.length_nil, maxLen]; omega) (by omega) fun v5 w5 ho5' hg5 => ?_
    have he45 : Ext w3 w5 := he4.grown hg5 fun q hq => by simp [Value.ownBlock] at hq; omega
    rw [List.nil_append] at ho5'
    have z35 := he45.size
    refine St ?_
    refine K.bldSa (cs := [(Abs.fKind s e[k] st).1].flatMap encI) (by simp [List.range, List.range.loop, fillC, lay, ev_tmp, upd_at, Value.cells, encI]) fun w6 b6 hb6 he6 hc6 => ?_
    have z56 := he6.size
    have ho6 := ho5'.ext he6
    refine St ?_
    refine K.appO (xs := st.take (st.length - p)) (ys := [(Abs.fKind s e[k] st).1]) ho6 (fun _ => rfl) (cellsAt_blk hc6) rfl encI1 (by rw [hlt]; simp only [List.length_cons, List.length_nil]; omega) (by rw [hlt]; simp only [List.length_cons, List.length_nil, maxLen]; omega) (by omega) fun v7 w7 ho7 hg7 => ?_
    have he7 : Ext w1 w7 := Ext.grown (((he2.trans he3).trans he45).trans he6) hg7 fun q hq => (ho6.lt q hq).1
    obtain ⟨oa7, c7, rfl, _⟩ := ho7.form
    rw [hml] at ho7 ⊢
    by_cases g7 : 12 < st.length - p + 1
    · rw [if_pos (by omega)] at hsg
      first
        | (exfalso; omega)
        | (refine St ?_
           rw [Abs.kind, hrs (by rw [hsg]; simp), hsg]
           exact ⟨by first | trivial | rfl, he1.trans he7⟩)
    rw [if_neg (by omega)] at hsg
    (repeat' first
 | assumption
 | exact Ext.refl _
 | refine Ext.trans ?_ (by assumption)
 | refine K.wrap (by omega) ?_
 | refine K.ldb (by assumption) ?_ rfl ?_
 | refine K.ldb0 (by assumption) ?_ rfl ?_
 | refine K.ldE (by assumption) ?_ (by omega) rfl ?_
 | refine K.ldE0 (by assumption) ?_ (by omega) rfl ?_
 | refine K.ldAE (by assumption) ?_ (by omega) rfl ?_
 | refine K.iaC (by omega) ?_
 | refine K.condT (by first | assumption | omega) ?_
 | refine K.condF (by first | assumption | omega) ?_
 | refine K.condbT (by assumption) ?_
 | refine K.condbF (by assumption) ?_
 | simp -dsimp only [LL,B9,Nat.reduceAdd,Nat.reduceEqDiff,reduceIte,reduceCtorEq,Bool.false_eq_true,h7])
    refine ⟨hk', by first | trivial | rfl, _, _, rfl, ho7, by rw [hrn, hsg], fun _ => by rw [hml]; omega, by rw [hml]; omega, he7⟩
  · have hf := fKind_1 (s := s) (st := st) (x := e[k]) (by omega) (by omega)
    obtain ⟨a6, rfl⟩ := hi.addr (by omega)
    (repeat' first
 | assumption
 | exact Ext.refl _
 | refine Ext.trans ?_ (by assumption)
 | refine K.wrap (by omega) ?_
 | refine K.ldb (by assumption) ?_ rfl ?_
 | refine K.ldb0 (by assumption) ?_ rfl ?_
 | refine K.ldE (by assumption) ?_ (by omega) rfl ?_
 | refine K.ldE0 (by assumption) ?_ (by omega) rfl ?_
 | refine K.ldAE (by assumption) ?_ (by omega) rfl ?_
 | refine K.iaC (by omega) ?_
 | refine K.condT (by first | assumption | omega) ?_
 | refine K.condF (by first | assumption | omega) ?_
 | refine K.condbT (by assumption) ?_
 | refine K.condbF (by assumption) ?_
 | simp -dsimp only [LL,B9,Nat.reduceAdd,Nat.reduceEqDiff,reduceIte,reduceCtorEq,Bool.false_eq_true,h0, h3, h6, h7])
    refine K.ian (st.length - 1) (by omega) (by omega) ?_
    (repeat' first
 | assumption
 | exact Ext.refl _
 | refine Ext.trans ?_ (by assumption)
 | refine K.wrap (by omega) ?_
 | refine K.ldb (by assumption) ?_ rfl ?_
 | refine K.ldb0 (by assumption) ?_ rfl ?_
 | refine K.ldE (by assumption) ?_ (by omega) rfl ?_
 | refine K.ldE0 (by assumption) ?_ (by omega) rfl ?_
 | refine K.ldAE (by assumption) ?_ (by omega) rfl ?_
 | refine K.iaC (by omega) ?_
 | refine K.condT (by first | assumption | omega) ?_
 | refine K.condF (by first | assumption | omega) ?_
 | refine K.condbT (by assumption) ?_
 | refine K.condbF (by assumption) ?_
 | simp -dsimp only [LL,B9,Nat.reduceAdd,Nat.reduceEqDiff,reduceIte,reduceCtorEq,Bool.false_eq_true,h0, h3, h6, h7])
    refine K.ldAb (c := [_, _, _, _, _, _]) hs2 (Ext.refl _) rfl ?_
    (repeat' first
 | assumption
 | exact Ext.refl _
 | refine Ext.trans ?_ (by assumption)
 | refine K.wrap (by omega) ?_
 | refine K.ldb (by assumption) ?_ rfl ?_
 | refine K.ldb0 (by assumption) ?_ rfl ?_
 | refine K.ldE (by assumption) ?_ (by omega) rfl ?_
 | refine K.ldE0 (by assumption) ?_ (by omega) rfl ?_
 | refine K.ldAE (by assumption) ?_ (by omega) rfl ?_
 | refine K.iaC (by omega) ?_
 | refine K.condT (by first | assumption | omega) ?_
 | refine K.condF (by first | assumption | omega) ?_
 | refine K.condbT (by assumption) ?_
 | refine K.condbF (by assumption) ?_
 | simp -dsimp only [LL,B9,Nat.reduceAdd,Nat.reduceEqDiff,reduceIte,reduceCtorEq,Bool.false_eq_true,h0, h3, h6, h7])
    refine K.qfn _ (fun w' e' => rone_r e[k] _ _ s w' (h.ext (h02.trans e')) (np1 (by omega))) ?_
    rw [← hf]
    (repeat' first
 | assumption
 | exact Ext.refl _
 | refine Ext.trans ?_ (by assumption)
 | refine K.wrap (by omega) ?_
 | refine K.ldb (by assumption) ?_ rfl ?_
 | refine K.ldb0 (by assumption) ?_ rfl ?_
 | refine K.ldE (by assumption) ?_ (by omega) rfl ?_
 | refine K.ldE0 (by assumption) ?_ (by omega) rfl ?_
 | refine K.ldAE (by assumption) ?_ (by omega) rfl ?_
 | refine K.iaC (by omega) ?_
 | refine K.condT (by first | assumption | omega) ?_
 | refine K.condF (by first | assumption | omega) ?_
 | refine K.condbT (by assumption) ?_
 | refine K.condbF (by assumption) ?_
 | simp -dsimp only [LL,B9,Nat.reduceAdd,Nat.reduceEqDiff,reduceIte,reduceCtorEq,Bool.false_eq_true,h0, h3, h6, h7])
    intro w3 he3
    (repeat' first
 | assumption
 | exact Ext.refl _
 | refine Ext.trans ?_ (by assumption)
 | refine K.wrap (by omega) ?_
 | refine K.ldb (by assumption) ?_ rfl ?_
 | refine K.ldb0 (by assumption) ?_ rfl ?_
 | refine K.ldE (by assumption) ?_ (by omega) rfl ?_
 | refine K.ldE0 (by assumption) ?_ (by omega) rfl ?_
 | refine K.ldAE (by assumption) ?_ (by omega) rfl ?_
 | refine K.iaC (by omega) ?_
 | refine K.condT (by first | assumption | omega) ?_
 | refine K.condF (by first | assumption | omega) ?_
 | refine K.condbT (by assumption) ?_
 | refine K.condbF (by assumption) ?_
 | simp -dsimp only [LL,B9,Nat.reduceAdd,Nat.reduceEqDiff,reduceIte,reduceCtorEq,Bool.false_eq_true,h0, h3, h6, h7])
    refine K.cond (fun g6 => ?_) (fun g6 => ?_)
    rotate_left
    · rw [if_pos g6] at hsg
      refine St ?_
      rw [Abs.kind, hrs (by rw [hsg]; exact g6), hsg]
      (refine ⟨?_, ?_⟩ <;> first | trivial | rfl | (repeat' first | assumption | exact Ext.refl _ | refine Ext.trans ?_ (by assumption)))
    rw [if_neg (by simpa using g6)] at hsg
    have ho3 := hown.ext he3
    (repeat' first
 | assumption
 | exact Ext.refl _
 | refine Ext.trans ?_ (by assumption)
 | refine K.wrap (by omega) ?_
 | refine K.ldb (by assumption) ?_ rfl ?_
 | refine K.ldb0 (by assumption) ?_ rfl ?_
 | refine K.ldE (by assumption) ?_ (by omega) rfl ?_
 | refine K.ldE0 (by assumption) ?_ (by omega) rfl ?_
 | refine K.ldAE (by assumption) ?_ (by omega) rfl ?_
 | refine K.iaC (by omega) ?_
 | refine K.condT (by first | assumption | omega) ?_
 | refine K.condF (by first | assumption | omega) ?_
 | refine K.condbT (by assumption) ?_
 | refine K.condbF (by assumption) ?_
 | simp -dsimp only [LL,B9,Nat.reduceAdd,Nat.reduceEqDiff,reduceIte,reduceCtorEq,Bool.false_eq_true,h0, h3, h6, h7])
    refine K.bldSa (cs := []) (by simp [List.range, List.range.loop, fillC]) fun w4 b4 hb4 he4 hc4 => ?_
    have z12 := he2.size
    have z23 := he3.size
    have z34 := he4.size
    have hE4 : OwnI w1.heap.size w4 (.slice (some ⟨b4, 0, none⟩) 0 0) [] := OwR.empty (by omega) hc4
    have ho4 := ho3.ext he4
    have ho5 : OwnI w1.heap.size w4 (.slice _ (st.length - p) _) (st.take (st.length - p)) := OwR.head (enc := encI) (sz := 1) (xs := st) (fun _ => rfl) ho4 (st.length - p) (Nat.sub_le _ _)
    have hlt : (st.take (st.length - p)).length = st.length - p := by simp [List.length_take]
    (repeat' first
 | assumption
 | exact Ext.refl _
 | refine Ext.trans ?_ (by assumption)
 | refine K.wrap (by omega) ?_
 | refine K.ldb (by assumption) ?_ rfl ?_
 | refine K.ldb0 (by assumption) ?_ rfl ?_
 | refine K.ldE (by assumption) ?_ (by omega) rfl ?_
 | refine K.ldE0 (by assumption) ?_ (by omega) rfl ?_
 | refine K.ldAE (by assumption) ?_ (by omega) rfl ?_
 | refine K.iaC (by omega) ?_
 | refine K.condT (by first | assumption | omega) ?_
 | refine K.condF (by first | assumption | omega) ?_
 | refine K.condbT (by assumption) ?_
 | refine K.condbF (by assumption) ?_
 | simp -dsimp only [LL,B9,Nat.reduceAdd,Nat.reduceEqDiff,reduceIte,reduceCtorEq,Bool.false_eq_true,h0, h3, h6, h7])
    refine K.slcT (st.length - p) (by simp -dsimp only [LL,B9,Nat.reduceAdd,Nat.reduceEqDiff,reduceIte,reduceCtorEq,Bool.false_eq_true,h6]; first | rfl | (congr 1; omega)) (by omega) ?_
    refine St ?_
    refine K.appS (xs := []) (ys := st.take (st.length - p)) hE4 ho5 (fun _ => rfl) encI1 (by rw [hlt]; simp only [List.length_nil]; omega) (by rw [hlt]; simp only [List.length_nil, maxLen]; omega) (by omega) fun v5 w5 ho5' hg5 => ?_
    have he45 : Ext w3 w5 := he4.grown hg5 fun q hq => by simp [Value.ownBlock] at hq; omega
    rw [List.nil_append] at ho5'
    have z35 := he45.size
    refine St ?_
    refine K.bldSa (cs := [(Abs.fKind s e[k] st).1].flatMap encI) (by simp [List.range, List.range.loop, fillC, lay, ev_tmp, upd_at, Value.cells, encI]) fun w6 b6 hb6 he6 hc6 => ?_
    have z56 := he6.size
    have ho6 := ho5'.ext he6
    refine St ?_
    refine K.appO (xs := st.take (st.length - p)) (ys := [(Abs.fKind s e[k] st).1]) ho6 (fun _ => rfl) (cellsAt_blk hc6) rfl encI1 (by rw [hlt]; simp only [List.length_cons, List.length_nil]; omega) (by rw [hlt]; simp only [List.length_cons, List.length_nil, maxLen]; omega) (by omega) fun v7 w7 ho7 hg7 => ?_
    have he7 : Ext w1 w7 := Ext.grown (((he2.trans he3).trans he45).trans he6) hg7 fun q hq => (ho6.lt q hq).1
    obtain ⟨oa7, c7, rfl, _⟩ := ho7.form
    rw [hml] at ho7 ⊢
    by_cases g7 : 12 < st.length - p + 1
    · rw [if_pos (by omega)] at hsg
      first
        | (exfalso; omega)
        | (refine St ?_
           rw [Abs.kind, hrs (by rw [hsg]; simp), hsg]
           exact ⟨by first | trivial | rfl, he1.trans he7⟩)
    rw [if_neg (by omega)] at hsg
    (repeat' first
 | assumption
 | exact Ext.refl _
 | refine Ext.trans ?_ (by assumption)
 | refine K.wrap (by omega) ?_
 | refine K.ldb (by assumption) ?_ rfl ?_
 | refine K.ldb0 (by assumption) ?_ rfl ?_
 | refine K.ldE (by assumption) ?_ (by omega) rfl ?_
 | refine K.ldE0 (by assumption) ?_ (by omega) rfl ?_
 | refine K.ldAE (by assumption) ?_ (by omega) rfl ?_
 | refine K.iaC (by omega) ?_
 | refine K.condT (by first | assumption | omega) ?_
 | refine K.condF (by first | assumption | omega) ?_
 | refine K.condbT (by assumption) ?_
 | refine K.condbF (by assumption) ?_
 | simp -dsimp only [LL,B9,Nat.reduceAdd,Nat.reduceEqDiff,reduceIte,reduceCtorEq,Bool.false_eq_true,h7])
    refine ⟨hk', by first | trivial | rfl, _, _, rfl, ho7, by rw [hrn, hsg], fun _ => by rw [hml]; omega, by rw [hml]; omega, he7⟩
  · have hf := fKind_2 (s := s) (st := st) (x := e[k]) (by omega) (by omega)
    obtain ⟨a6, rfl⟩ := hi.addr (by omega)
    (repeat' first
 | assumption
 | exact Ext.refl _
 | refine Ext.trans ?_ (by assumption)
 | refine K.wrap (by omega) ?_
 | refine K.ldb (by assumption) ?_ rfl ?_
 | refine K.ldb0 (by assumption) ?_ rfl ?_
 | refine K.ldE (by assumption) ?_ (by omega) rfl ?_
 | refine K.ldE0 (by assumption) ?_ (by omega) rfl ?_
 | refine K.ldAE (by assumption) ?_ (by omega) rfl ?_
 | refine K.iaC (by omega) ?_
 | refine K.condT (by first | assumption | omega) ?_
 | refine K.condF (by first | assumption | omega) ?_
 | refine K.condbT (by assumption) ?_
 | refine K.condbF (by assumption) ?_
 | simp -dsimp only [LL,B9,Nat.reduceAdd,Nat.reduceEqDiff,reduceIte,reduceCtorEq,Bool.false_eq_true,h0, h3, h6, h7])
    refine K.ian (st.length - 2) (by omega) (by omega) ?_
    (repeat' first
 | assumption
 | exact Ext.refl _
 | refine Ext.trans ?_ (by assumption)
 | refine K.wrap (by omega) ?_
 | refine K.ldb (by assumption) ?_ rfl ?_
 | refine K.ldb0 (by assumption) ?_ rfl ?_
 | refine K.ldE (by assumption) ?_ (by omega) rfl ?_
 | refine K.ldE0 (by assumption) ?_ (by omega) rfl ?_
 | refine K.ldAE (by assumption) ?_ (by omega) rfl ?_
 | refine K.iaC (by omega) ?_
 | refine K.condT (by first | assumption | omega) ?_
 | refine K.condF (by first | assumption | omega) ?_
 | refine K.condbT (by assumption) ?_
 | refine K.condbF (by assumption) ?_
 | simp -dsimp only [LL,B9,Nat.reduceAdd,Nat.reduceEqDiff,reduceIte,reduceCtorEq,Bool.false_eq_true,h0, h3, h6, h7])
    refine K.ian (st.length - 1) (by omega) (by omega) ?_
    (repeat' first
 | assumption
 | exact Ext.refl _
 | refine Ext.trans ?_ (by assumption)
 | refine K.wrap (by omega) ?_
 | refine K.ldb (by assumption) ?_ rfl ?_
 | refine K.ldb0 (by assumption) ?_ rfl ?_
 | refine K.ldE (by assumption) ?_ (by omega) rfl ?_
 | refine K.ldE0 (by assumption) ?_ (by omega) rfl ?_
 | refine K.ldAE (by assumption) ?_ (by omega) rfl ?_
 | refine K.iaC (by omega) ?_
 | refine K.condT (by first | assumption | omega) ?_
 | refine K.condF (by first | assumption | omega) ?_
 | refine K.condbT (by assumption) ?_
 | refine K.condbF (by assumption) ?_
 | simp -dsimp only [LL,B9,Nat.reduceAdd,Nat.reduceEqDiff,reduceIte,reduceCtorEq,Bool.false_eq_true,h0, h3, h6, h7])
    refine K.qfn _ (fun w' e' => (rtwo_r e[k].op _ _ w' (np2 (by omega))).mono fun v w'' h => ⟨h.1, h.2 ▸ Ext.refl _⟩) ?_
    rw [← hf]
    (repeat' first
 | assumption
 | exact Ext.refl _
 | refine Ext.trans ?_ (by assumption)
 | refine K.wrap (by omega) ?_
 | refine K.ldb (by assumption) ?_ rfl ?_
 | refine K.ldb0 (by assumption) ?_ rfl ?_
 | refine K.ldE (by assumption) ?_ (by omega) rfl ?_
 | refine K.ldE0 (by assumption) ?_ (by omega) rfl ?_
 | refine K.ldAE (by assumption) ?_ (by omega) rfl ?_
 | refine K.iaC (by omega) ?_
 | refine K.condT (by first | assumption | omega) ?_
 | refine K.condF (by first | assumption | omega) ?_
 | refine K.condbT (by assumption) ?_
 | refine K.condbF (by assumption) ?_
 | simp -dsimp only [LL,B9,Nat.reduceAdd,Nat.reduceEqDiff,reduceIte,reduceCtorEq,Bool.false_eq_true,h0, h3, h6, h7])
    intro w3 he3
    (repeat' first
 | assumption
 | exact Ext.refl _
 | refine Ext.trans ?_ (by assumption)
 | refine K.wrap (by omega) ?_
 | refine K.ldb (by assumption) ?_ rfl ?_
 | refine K.ldb0 (by assumption) ?_ rfl ?_
 | refine K.ldE (by assumption) ?_ (by omega) rfl ?_
 | refine K.ldE0 (by assumption) ?_ (by omega) rfl ?_
 | refine K.ldAE (by assumption) ?_ (by omega) rfl ?_
 | refine K.iaC (by omega) ?_
 | refine K.condT (by first | assumption | omega) ?_
 | refine K.condF (by first | assumption | omega) ?_
 | refine K.condbT (by assumption) ?_
 | refine K.condbF (by assumption) ?_
 | simp -dsimp only [LL,B9,Nat.reduceAdd,Nat.reduceEqDiff,reduceIte,reduceCtorEq,Bool.false_eq_true,h0, h3, h6, h7])
    refine K.cond (fun g6 => ?_) (fun g6 => ?_)
    rotate_left
    · rw [if_pos g6] at hsg
      refine St ?_
      rw [Abs.kind, hrs (by rw [hsg]; exact g6), hsg]
      (refine ⟨?_, ?_⟩ <;> first | trivial | rfl | (repeat' first | assumption | exact Ext.refl _ | refine Ext.trans ?_ (by assumption)))
    rw [if_neg (by simpa using g6)] at hsg
    have ho3 := hown.ext he3
    (repeat' first
 | assumption
 | exact Ext.refl _
 | refine Ext.trans ?_ (by assumption)
 | refine K.wrap (by omega) ?_
 | refine K.ldb (by assumption) ?_ rfl ?_
 | refine K.ldb0 (by assumption) ?_ rfl ?_
 | refine K.ldE (by assumption) ?_ (by omega) rfl ?_
 | refine K.ldE0 (by assumption) ?_ (by omega) rfl ?_
 | refine K.ldAE (by assumption) ?_ (by omega) rfl ?_
 | refine K.iaC (by omega) ?_
 | refine K.condT (by first | assumption | omega) ?_
 | refine K.condF (by first | assumption | omega) ?_
 | refine K.condbT (by assumption) ?_
 | refine K.condbF (by assumption) ?_
 | simp -dsimp only [LL,B9,Nat.reduceAdd,Nat.reduceEqDiff,reduceIte,reduceCtorEq,Bool.false_eq_true,h0, h3, h6, h7])
    refine K.bldSa (cs := []) (by simp [List.range, List.range.loop, fillC]) fun w4 b4 hb4 he4 hc4 => ?_
    have z12 := he2.size
    have z23 := he3.size
    have z34 := he4.size
    have hE4 : OwnI w1.heap.size w4 (.slice (some ⟨b4, 0, none⟩) 0 0) [] := OwR.empty (by omega) hc4
    have ho4 := ho3.ext he4
    have ho5 : OwnI w1.heap.size w4 (.slice _ (st.length - p) _) (st.take (st.length - p)) := OwR.head (enc := encI) (sz := 1) (xs := st) (fun _ => rfl) ho4 (st.length - p) (Nat.sub_le _ _)
    have hlt : (st.take (st.length - p)).length = st.length - p := by simp [List.length_take]
    (repeat' first
 | assumption
 | exact Ext.refl _
 | refine Ext.trans ?_ (by assumption)
 | refine K.wrap (by omega) ?_
 | refine K.ldb (by assumption) ?_ rfl ?_
 | refine K.ldb0 (by assumption) ?_ rfl ?_
 | refine K.ldE (by assumption) ?_ (by omega) rfl ?_
 | refine K.ldE0 (by assumption) ?_ (by omega) rfl ?_
 | refine K.ldAE (by assumption) ?_ (by omega) rfl ?_
 | refine K.iaC (by omega) ?_
 | refine K.condT (by first | assumption | omega) ?_
 | refine K.condF (by first | assumption | omega) ?_
 | refine K.condbT (by assumption) ?_
 | refine K.condbF (by assumption) ?_
 | simp -dsimp only [LL,B9,Nat.reduceAdd,Nat.reduceEqDiff,reduceIte,reduceCtorEq,Bool.false_eq_true,h0, h3, h6, h7])
    refine K.slcT (st.length - p) (by simp -dsimp only [LL,B9,Nat.reduceAdd,Nat.reduceEqDiff,reduceIte,reduceCtorEq,Bool.false_eq_true,h6]; first | rfl | (congr 1; omega)) (by omega) ?_
    refine St ?_
    refine K.appS (xs := []) (ys := st.take (st.length - p)) hE4 ho5 (fun _ => rfl) encI1 (by rw [hlt]; simp only [List.length_nil]; omega) (by rw [hlt]; simp only [List.length_nil, maxLen]; omega) (by omega) fun v5 w5 ho5' hg5 => ?_
    have he45 : Ext w3 w5 := he4.grown hg5 fun q hq => by simp [Value.ownBlock] at hq; omega
    rw [List.nil_append] at ho5'
    have z35 := he45.size
    refine St ?_
    refine K.bldSa (cs := [(Abs.fKind s e[k] st).1].flatMap encI) (by simp [List.range, List.range.loop, fillC, lay, ev_tmp, upd_at, Value.cells, encI]) fun w6 b6 hb6 he6 hc6 => ?_
    have z56 := he6.size
    have ho6 := ho5'.ext he6
    refine St ?_
    refine K.appO (xs := st.take (st.length - p)) (ys := [(Abs.fKind s e[k] st).1]) ho6 (fun _ => rfl) (cellsAt_blk hc6) rfl encI1 (by rw [hlt]; simp only [List.length_cons, List.length_nil]; omega) (by rw [hlt]; simp only [List.length_cons, List.length_nil, maxLen]; omega) (by omega) fun v7 w7 ho7 hg7 => ?_
    have he7 : Ext w1 w7 := Ext.grown (((he2.trans he3).trans he45).trans he6) hg7 fun q hq => (ho6.lt q hq).1
    obtain ⟨oa7, c7, rfl, _⟩ := ho7.form
    rw [hml] at ho7 ⊢
    by_cases g7 : 12 < st.length - p + 1
    · rw [if_pos (by omega)] at hsg
      first
        | (exfalso; omega)
        | (refine St ?_
           rw [Abs.kind, hrs (by rw [hsg]; simp), hsg]
           exact ⟨by first | trivial | rfl, he1.trans he7⟩)
    rw [if_neg (by omega)] at hsg
    (repeat' first
 | assumption
 | exact Ext.refl _
 | refine Ext.trans ?_ (by assumption)
 | refine K.wrap (by omega) ?_
 | refine K.ldb (by assumption) ?_ rfl ?_
 | refine K.ldb0 (by assumption) ?_ rfl ?_
 | refine K.ldE (by assumption) ?_ (by omega) rfl ?_
 | refine K.ldE0 (by assumption) ?_ (by omega) rfl ?_
 | refine K.ldAE (by assumption) ?_ (by omega) rfl ?_
 | refine K.iaC (by omega) ?_
 | refine K.condT (by first | assumption | omega) ?_
 | refine K.condF (by first | assumption | omega) ?_
 | refine K.condbT (by assumption) ?_
 | refine K.condbF (by assumption) ?_
 | simp -dsimp only [LL,B9,Nat.reduceAdd,Nat.reduceEqDiff,reduceIte,reduceCtorEq,Bool.false_eq_true,h7])
    refine ⟨hk', by first | trivial | rfl, _, _, rfl, ho7, by rw [hrn, hsg], fun _ => by rw [hml]; omega, by rw [hml]; omega, he7⟩
end Go.Proofs.YtpaahhleopalaaaGreatDoor
end
section
/- What the reference says of commands. -/
set_option maxRecDepth 4000
set_option maxHeartbeats 8000000
namespace Go.Proofs.YtpaahhleopalaaaGreatDoor
open Go Go.RowKit Lite
theorem ris_r (ve : Value) (e : List Abs.Node) (k : Int) (cs : List Value) (s : Abs.Scope) (w : World) (hn : Abs.Nodes w ve e) (h : Abs.ScopeIs w cs s) :
    Ret Tryz.prog F.lariatref13_is #[ve, .int .i64 k, .agg cs.toArray] w fun v w' => v = .int .i64 (Abs.asked e k s) ∧ Ext w w' := by
  obtain ⟨a0, c0, a1, c1, a2, c2, a3, c3, a4, c4, rfl, _⟩ := h.form
  obtain ⟨oa, cap, rfl, _⟩ := hn.form
  refine K.start hmix E.lariatref13_is (args := [_, _, _]) (Nat.le_of_ble_eq_true rfl) ?_; dsimp only [C.lariatref13_is]; refine Yy ?_
  refine Sg ?_
  intro w1 b1 hb1 he1 hc1
  refine Sg ?_
  refine K.call (refKind_r _ e _ s w1 (hn.ext he1) (h.ext he1)) ?_
  rintro _ w2 ⟨rfl, he2⟩
  rw [Abs.asked]
  refine Sg ?_
  refine K.cond (fun g1 => ?_) (fun g1 => ?_)
  rotate_left
  · refine Sg ?_
    exact ⟨by rw [if_pos g1], he1.trans he2⟩
  rw [if_neg (by simpa using g1)]
  refine Sg ?_
  refine K.cond (fun g2 => ?_) (fun g2 => ?_)
  rotate_left
  · refine Sg ?_
    exact ⟨by rw [if_pos g2], he1.trans he2⟩
  · refine Sg ?_
    exact ⟨by rw [if_neg (by simpa using g2)], he1.trans he2⟩
theorem kindOf_r' (n : Int) (w : World) (h : 0 ≤ n ∧ n ≤ 4611686018427387904) : Ret Tryz.prog F.lariatref10_KindOf #[.int .i64 n] w fun v w' => v = .int .i64 (if n = 0 then 0 else 1 + n) ∧ w' = w := kindOf_r n w h
theorem plain_r (v : Value) (l : List Abs.Var) (n : Int) (cs : List Value) (s : Abs.Scope) (w : World) (hl : Abs.Vars w v l) (h : Abs.ScopeIs w cs s) :
    Ret Tryz.prog F.lariatref13_plain #[v, .int .i64 n, .agg cs.toArray] w fun v w' => v = .tuple #[.int .i64 (Abs.plainE l n s).1, .int .i64 (Abs.plainE l n s).2] ∧ Ext w w' := by
  obtain ⟨a0, c0, a1, c1, a2, c2, a3, c3, a4, c4, rfl, _, _, _, _, _, l0, l1, l2, l3, l4⟩ := h.form
  obtain ⟨oa, cap, rfl, _⟩ := hl.form
  refine K.start hmix E.lariatref13_plain (args := [_, _, _]) (Nat.le_of_ble_eq_true rfl) ?_; dsimp only [C.lariatref13_plain]; refine Yy ?_
  refine Sg ?_
  intro w1 b1 hb1 he1 hc1
  refine Sg ?_
  refine K.call (rvariable_r _ l n _ s w1 (hl.ext he1) (h.ext he1)) ?_
  rintro u w2 ⟨⟨x, hu, hx⟩, he2⟩
  cases hk : (Abs.kvar l n s).2.2 with
  | false =>
    rw [hk] at hu
    subst hu
    refine Sg ?_
    intro w3 b3 hb3 he3 hc3
    refine Sg ?_
    exact ⟨by rw [Abs.plainE, Abs.declared_none hk], (he1.trans he2).trans he3⟩
  | true =>
    rw [hk] at hu
    subst hu
    obtain ⟨hd, p1, p2, p3, p4⟩ := Abs.declared_some hk (hx hk)
    have hpe : Abs.plainE l n s = if x.over ≠ 0 then (0, 9) else ((if x.scalar = 0 then 0 else 1 + x.scalar), 0) := by unfold Abs.plainE; rw [hd]
    refine Sg ?_
    intro w3 b3 hb3 he3 hc3
    refine Sg ?_
    refine K.cond (fun g1 => ?_) (fun g1 => ?_)
    · rw [if_neg (by simpa using g1)] at hpe
      refine Sg ?_
      refine K.call (kindOf_r' _ w3 ⟨p1, by omega⟩) ?_
      rintro _ _ ⟨rfl, rfl⟩
      refine Sg ?_
      exact ⟨by rw [hpe], (he1.trans he2).trans he3⟩
    · rw [if_pos g1] at hpe
      refine Sg ?_
      exact ⟨by rw [hpe], (he1.trans he2).trans he3⟩
theorem item_r (a : Abs.Act) (vi vv : Value) (cs : List Value) (s : Abs.Scope) (w : World) (hi : Abs.Nodes w vi a.index) (hv : Abs.Nodes w vv a.value) (h : Abs.ScopeIs w cs s) :
    Ret Tryz.prog F.lariatref13_item #[.agg (a.enc vi vv).toArray, .agg cs.toArray] w fun v w' => v = .int .i64 (Abs.itemE a s) ∧ Ext w w' := by
  obtain ⟨a0, c0, a1, c1, a2, c2, a3, c3, a4, c4, rfl, _, hsv, _, _, _, l0, l1, l2, l3, l4⟩ := h.form
  obtain ⟨_, _, rfl, _⟩ := hi.form
  obtain ⟨_, _, rfl, _⟩ := hv.form
  refine K.start hmix E.lariatref13_item (args := [_, _]) (Nat.le_of_ble_eq_true rfl) ?_; dsimp only [C.lariatref13_item]; refine Yy ?_
  refine Sg ?_
  intro w1 b1 hb1 he1 hc1
  refine Sg ?_
  intro w2 b2 hb2 he2 hc2
  replace hc1 := he2.obj hc1
  have E2 : ∀ {w'}, Ext w2 w' → Ext w w' := fun e => (he1.trans he2).trans e
  refine Sg ?_
  refine K.call (rvariable_r _ s.vars a.to _ s w2 (hsv.ext (E2 (Ext.refl _))) (h.ext (E2 (Ext.refl _)))) ?_
  rintro u w3 ⟨⟨x, hu, hx⟩, he3⟩
  replace hc1 := he3.obj hc1
  replace hc2 := he3.obj hc2
  cases hk : (Abs.kvar s.vars a.to s).2.2 with
  | false =>
    rw [hk] at hu
    subst hu
    refine Sg ?_
    intro w4 b4 hb4 he4 hc4
    refine Sg ?_
    exact ⟨by rw [Abs.itemE, Abs.declared_none hk], E2 (he3.trans he4)⟩
  | true =>
    rw [hk] at hu
    subst hu
    obtain ⟨hd, p1, p2, p3, p4⟩ := Abs.declared_some hk (hx hk)
    have hpe : Abs.itemE a s = if x.over = 0 then 9 else if Abs.asked a.index (1 + x.over) s ≠ 0 then Abs.asked a.index (1 + x.over) s else Abs.asked a.value (if x.scalar = 0 then 0 else 1 + x.scalar) s := by unfold Abs.itemE; rw [hd]
    refine Sg ?_
    intro w4 b4 hb4 he4 hc4
    replace hc1 := he4.obj hc1
    replace hc2 := he4.obj hc2
    have E4 : ∀ {w'}, Ext w4 w' → Ext w w' := fun e => E2 ((he3.trans he4).trans e)
    refine Sg ?_
    refine K.cond (fun g1 => ?_) (fun g1 => ?_)
    · rw [if_pos g1] at hpe
      refine Sg ?_
      exact ⟨by rw [hpe], E4 (Ext.refl _)⟩
    rw [if_neg g1] at hpe
    refine Sg ?_
    refine K.call (ris_r _ a.index (1 + x.over) _ s w4 (hi.ext (E4 (Ext.refl _))) (h.ext (E4 (Ext.refl _)))) ?_
    rintro _ w5 ⟨rfl, he5⟩
    replace hc1 := he5.obj hc1
    replace hc2 := he5.obj hc2
    replace hc4 := he5.obj hc4
    have E5 : ∀ {w'}, Ext w5 w' → Ext w w' := fun e => E4 (he5.trans e)
    refine Sg ?_
    refine K.cond (fun g2 => ?_) (fun g2 => ?_)
    rotate_left
    · rw [if_pos g2] at hpe
      refine Sg ?_
      exact ⟨by rw [hpe], E5 (Ext.refl _)⟩
    rw [if_neg (by simpa using g2)] at hpe
    refine Sg ?_
    refine K.qfn (.int .i64 (if x.scalar = 0 then 0 else 1 + x.scalar)) (fun w' e => (kindOf_r' _ w' ⟨p1, by omega⟩).mono fun v w'' hh => ⟨hh.1, by rw [hh.2]; exact Ext.refl _⟩) ?_
    refine Sg ?_
    refine K.qfn (.int .i64 (Abs.itemE a s)) (fun w' e => by rw [hpe]; exact ris_r _ a.value _ _ s w' (hv.ext (E5 e)) (h.ext (E5 e))) ?_
    refine Sg ?_
    intro w6 he6
    refine Sg ?_
    exact ⟨by first | trivial | rfl, E5 he6⟩
theorem ract_r (a : Abs.Act) (comm : Bool) (vi vv : Value) (cs : List Value) (s : Abs.Scope) (w : World) (hi : Abs.Nodes w vi a.index) (hv : Abs.Nodes w vv a.value) (h : Abs.ScopeIs w cs s) :
    Ret Tryz.prog F.lariatref13_act #[.agg (a.enc vi vv).toArray, .agg cs.toArray, .bool comm] w fun v w' => v = .int .i64 (Abs.ractE a s comm) ∧ Ext w w' := by
  obtain ⟨a0, c0, a1, c1, a2, c2, a3, c3, a4, c4, rfl, _, hsv, _, _, hsl, l0, l1, l2, l3, l4⟩ := h.form
  obtain ⟨_, _, rfl, _⟩ := hi.form
  obtain ⟨_, _, rfl, _⟩ := hv.form
  refine K.start hmix E.lariatref13_act (args := [_, _, _]) (Nat.le_of_ble_eq_true rfl) ?_; dsimp only [C.lariatref13_act]; refine Yy ?_
  refine Sg ?_
  intro w1 b1 hb1 he1 hc1
  refine Sg ?_
  intro w2 b2 hb2 he2 hc2
  replace hc1 := he2.obj hc1
  have E2 : ∀ {w'}, Ext w2 w' → Ext w w' := fun e => (he1.trans he2).trans e
  refine Sg ?_
  refine K.cond (fun g1 => ?_) (fun g1 => ?_)
  · refine Sg ?_
    exact ⟨by rw [Abs.ractE, if_pos (.inl g1)], E2 (Ext.refl _)⟩
  refine Sg ?_
  refine K.cond (fun g2 => ?_) (fun g2 => ?_)
  · refine Sg ?_
    exact ⟨by rw [Abs.ractE, if_pos (.inr g2)], E2 (Ext.refl _)⟩
  have h12 : ¬ (a.kind < 1 ∨ 5 < a.kind) := by omega
  refine Sg ?_
  refine K.cond (fun g3 => ?_) (fun g3 => ?_)
  · refine Sg ?_
    refine K.call (item_r a _ _ _ s w2 (hi.ext (E2 (Ext.refl _))) (hv.ext (E2 (Ext.refl _))) (h.ext (E2 (Ext.refl _)))) ?_
    rintro _ w3 ⟨rfl, he3⟩
    refine Sg ?_
    exact ⟨by rw [Abs.ractE, if_neg h12, if_pos g3], E2 he3⟩
  refine Sg ?_
  refine K.cond (fun g4 => ?_) (fun g4 => ?_)
  · have hr : Abs.ractE a s comm = if (Abs.plainE s.vars a.to s).2 ≠ 0 then (Abs.plainE s.vars a.to s).2 else Abs.asked a.value (Abs.plainE s.vars a.to s).1 s := by
      rw [Abs.ractE, if_neg h12, if_neg g3, if_pos (.inl g4)]; simp only [if_neg (by omega : ¬ a.kind = 3)]
    refine Sg ?_
    refine K.call (plain_r _ s.vars a.to _ s w2 (hsv.ext (E2 (Ext.refl _))) (h.ext (E2 (Ext.refl _)))) ?_
    rintro _ w3 ⟨rfl, he3⟩
    replace hc1 := he3.obj hc1
    replace hc2 := he3.obj hc2
    refine Sg ?_
    refine K.cond (fun g5 => ?_) (fun g5 => ?_)
    rotate_left
    · rw [if_pos g5] at hr
      refine Sg ?_
      exact ⟨by rw [hr], E2 he3⟩
    rw [if_neg (by simpa using g5)] at hr
    refine Sg ?_
    refine K.call (ris_r _ a.value _ _ s w3 (hv.ext (E2 he3)) (h.ext (E2 he3))) ?_
    rintro _ w4 ⟨rfl, he4⟩
    refine Sg ?_
    exact ⟨by rw [hr], E2 (he3.trans he4)⟩
  refine Sg ?_
  refine K.cond (fun g5 => ?_) (fun g5 => ?_)
  · have hr : Abs.ractE a s comm = if (Abs.plainE s.locals a.to s).2 ≠ 0 then (Abs.plainE s.locals a.to s).2 else Abs.asked a.value (Abs.plainE s.locals a.to s).1 s := by
      rw [Abs.ractE, if_neg h12, if_neg g3, if_pos (.inr g5)]; simp only [if_pos g5]
    refine Sg ?_
    refine K.call (plain_r _ s.locals a.to _ s w2 (hsl.ext (E2 (Ext.refl _))) (h.ext (E2 (Ext.refl _)))) ?_
    rintro _ w3 ⟨rfl, he3⟩
    replace hc1 := he3.obj hc1
    replace hc2 := he3.obj hc2
    refine Sg ?_
    refine K.cond (fun g5 => ?_) (fun g5 => ?_)
    rotate_left
    · rw [if_pos g5] at hr
      refine Sg ?_
      exact ⟨by rw [hr], E2 he3⟩
    rw [if_neg (by simpa using g5)] at hr
    refine Sg ?_
    refine K.call (ris_r _ a.value _ _ s w3 (hv.ext (E2 he3)) (h.ext (E2 he3))) ?_
    rintro _ w4 ⟨rfl, he4⟩
    refine Sg ?_
    exact ⟨by rw [hr], E2 (he3.trans he4)⟩
  have h13 : ¬ (a.kind = 1 ∨ a.kind = 3) := by omega
  refine Sg ?_
  refine K.condb (fun g6 => ?_) (fun g6 => ?_)
  · refine Sg ?_
    exact ⟨by rw [Abs.ractE, if_neg h12, if_neg g3, if_neg h13, if_pos g6], E2 (Ext.refl _)⟩
  refine Sg ?_
  refine K.call (rchannel_r a.to _ s w2 (h.ext (E2 (Ext.refl _)))) ?_
  rintro u w3 ⟨⟨x, hu, hx⟩, he3⟩
  replace hc1 := he3.obj hc1
  replace hc2 := he3.obj hc2
  by_cases hk : (Abs.kLen a.to s).2 = 0
  rotate_left
  · rw [decide_eq_false hk] at hu
    subst hu
    refine Sg ?_
    intro w4 b4 hb4 he4 hc4
    refine Sg ?_
    exact ⟨by rw [Abs.ractE, if_neg h12, if_neg g3, if_neg h13, if_neg (by simp [g6]), Abs.channel_none hk], E2 (he3.trans he4)⟩
  rw [decide_eq_true hk] at hu
  subst hu
  obtain ⟨hd, p1, p2⟩ := Abs.channel_some hk (hx hk)
  have hr : Abs.ractE a s comm = if a.kind = 4 then Abs.asked a.value (if x.scalar = 0 then 0 else 1 + x.scalar) s else if (Abs.plainE s.locals a.loc s).2 ≠ 0 then (Abs.plainE s.locals a.loc s).2 else if (Abs.plainE s.locals a.loc s).1 ≠ (if x.scalar = 0 then 0 else 1 + x.scalar) then 9 else 0 := by
    rw [Abs.ractE, if_neg h12, if_neg g3, if_neg h13, if_neg (by simp [g6]), hd]
  refine Sg ?_
  intro w4 b4 hb4 he4 hc4
  replace hc1 := he4.obj hc1
  replace hc2 := he4.obj hc2
  have E4 : ∀ {w'}, Ext w4 w' → Ext w w' := fun e => E2 ((he3.trans he4).trans e)
  refine Sg ?_
  refine K.cond (fun g7 => ?_) (fun g7 => ?_)
  · rw [if_pos g7] at hr
    refine Sg ?_
    refine K.qfn (.int .i64 (if x.scalar = 0 then 0 else 1 + x.scalar)) (fun w' e => (kindOf_r' _ w' ⟨p1, by omega⟩).mono fun v w'' hh => ⟨hh.1, by rw [hh.2]; exact Ext.refl _⟩) ?_
    refine Sg ?_
    refine K.qfn (.int .i64 (Abs.ractE a s comm)) (fun w' e => by rw [hr]; exact ris_r _ a.value _ _ s w' (hv.ext (E4 e)) (h.ext (E4 e))) ?_
    refine Sg ?_
    intro w6 he6
    refine Sg ?_
    exact ⟨by first | trivial | rfl, E4 he6⟩
  rw [if_neg g7] at hr
  refine Sg ?_
  refine K.call (plain_r _ s.locals a.loc _ s w4 (hsl.ext (E4 (Ext.refl _))) (h.ext (E4 (Ext.refl _)))) ?_
  rintro _ w5 ⟨rfl, he5⟩
  replace hc4 := he5.obj hc4
  refine Sg ?_
  refine K.cond (fun g8 => ?_) (fun g8 => ?_)
  rotate_left
  · rw [if_pos g8] at hr
    refine Sg ?_
    exact ⟨by rw [hr], E4 he5⟩
  rw [if_neg (by simpa using g8)] at hr
  refine Sg ?_
  refine K.call (kindOf_r' _ w5 ⟨p1, by omega⟩) ?_
  rintro _ _ ⟨rfl, rfl⟩
  refine Sg ?_
  refine K.cond (fun g9 => ?_) (fun g9 => ?_)
  · rw [if_neg (by simpa using g9)] at hr
    refine Sg ?_
    exact ⟨by rw [hr], E4 he5⟩
  · rw [if_pos g9] at hr
    refine Sg ?_
    exact ⟨by rw [hr], E4 he5⟩
end Go.Proofs.YtpaahhleopalaaaGreatDoor
end
section
/- What the reference says of whole commands. -/
set_option maxRecDepth 4000
set_option maxHeartbeats 16000000
namespace Abs
theorem actsE_ract {s : Scope} {a : Act} {k : Nat} {b : Bool} {Z : Int × Int} : (if talks a && b then ((2 + (k : Int)), (7 : Int)) else if actE a s ≠ 0 then (2 + (k : Int), actE a s) else Z) = if ractE a s b ≠ 0 then (2 + (k : Int), ractE a s b) else Z := by
  rw [ractE_eq]
  by_cases h : (talks a && b) = true
  · simp [h]
  · simp [h]
end Abs
namespace Go.Proofs.YtpaahhleopalaaaGreatDoor
open Go Go.RowKit Lite
theorem rcheck_r (c : Abs.Cmd) (vg va : Value) (p : Abs.Proc) (pv pc : Value) (cs : List Value) (s : Abs.Scope) (w : World) (hn : Abs.strOk c.name) (hg : Abs.Nodes w vg c.guard) (ha : Abs.Acts w va c.acts)
    (hv : Abs.Vars w pv p.vars) (hc : Abs.Cmds w pc p.cmds) (h : Abs.ScopeIs w cs s) :
    Ret Tryz.prog F.lariatref13_Check #[.agg (c.enc vg va).toArray, .agg (p.enc pv pc).toArray, .agg cs.toArray] w fun v w' =>
      v = .tuple #[.int .i64 (Abs.cmdCheck c p.locs s).1, .int .i64 (Abs.cmdCheck c p.locs s).2] ∧ Ext w w' := by
  obtain ⟨a0, c0, a1, c1, a2, c2, a3, c3, a4, c4, rfl, _⟩ := h.form
  obtain ⟨oa, cap, rfl, hlen⟩ := ha.form
  obtain ⟨og, capg, rfl, hleng⟩ := hg.form
  obtain ⟨_, _, rfl, _⟩ := hv.form
  obtain ⟨_, _, rfl, _⟩ := hc.form
  refine K.start hmix E.lariatref13_Check (args := [_, _, _]) (Nat.le_of_ble_eq_true rfl) ?_; dsimp only [C.lariatref13_Check]; refine Yy ?_
  refine Sg ?_
  intro w1 b1 hb1 he1 hc1
  refine Sg ?_
  intro w2 b2 hb2 he2 hc2
  refine Sg ?_
  intro w3 b3 hb3 he3 hc3
  replace hc1 := (he2.trans he3).obj hc1
  replace hc2 := he3.obj hc2
  have E3 : ∀ {w'}, Ext w3 w' → Ext w w' := fun e => ((he1.trans he2).trans he3).trans e
  refine Sg ?_
  refine K.call (rname_r c.name w3 hn) ?_
  rintro u w4 ⟨hu, he4⟩
  replace hc1 := he4.obj hc1
  replace hc2 := he4.obj hc2
  replace hc3 := he4.obj hc3
  have E4 : ∀ {w'}, Ext w4 w' → Ext w w' := fun e => E3 (he4.trans e)
  have hd : ∀ n, Abs.head c p.locs = n → n ≠ 0 → Abs.cmdCheck c p.locs s = (0, n) := fun n e h0 => by unfold Abs.cmdCheck; rw [e, if_pos h0]
  cases hnm : Abs.isName c.name with
  | false =>
    rw [hnm] at hu
    subst hu
    refine Sg ?_
    exact ⟨by rw [hd 6 (by unfold Abs.head; rw [if_pos hnm]) (by decide)], E4 (Ext.refl _)⟩
  | true =>
    rw [hnm] at hu
    subst hu
    have hnn : ¬ Abs.isName c.name = false := by rw [hnm]; simp
    refine Sg ?_
    refine K.cond (fun g1 => ?_) (fun g1 => ?_)
    · refine Sg ?_
      exact ⟨by rw [hd 10 (by unfold Abs.head; rw [if_neg hnn, if_pos (by omega)]) (by decide)], E4 (Ext.refl _)⟩
    refine Sg ?_
    refine K.cond (fun g2 => ?_) (fun g2 => ?_)
    · refine Sg ?_
      exact ⟨by rw [hd 10 (by unfold Abs.head; rw [if_neg hnn, if_pos (by omega)]) (by decide)], E4 (Ext.refl _)⟩
    refine Sg ?_
    refine K.cond (fun g3 => ?_) (fun g3 => ?_)
    · refine Sg ?_
      exact ⟨by rw [hd 10 (by unfold Abs.head; rw [if_neg hnn, if_pos (by omega)]) (by decide)], E4 (Ext.refl _)⟩
    refine Sg ?_
    refine K.cond (fun g4 => ?_) (fun g4 => ?_)
    · refine Sg ?_
      exact ⟨by rw [hd 10 (by unfold Abs.head; rw [if_neg hnn, if_pos (by omega)]) (by decide)], E4 (Ext.refl _)⟩
    have hno : ¬ (c.from_ < 0 ∨ p.locs ≤ c.from_ ∨ c.to < 0 ∨ p.locs ≤ c.to) := by omega
    refine Sg ?_
    refine K.cond (fun g5 => ?_) (fun g5 => ?_)
    · refine Sg ?_
      exact ⟨by rw [hd 11 (by unfold Abs.head; rw [if_neg hnn, if_neg hno, if_pos (by omega)]) (by decide)], E4 (Ext.refl _)⟩
    have hr0 : Abs.cmdCheck c p.locs s = if c.guard.length > 0 ∧ Abs.asked c.guard 1 s ≠ 0 then (1, Abs.asked c.guard 1 s) else Abs.actsE s c.acts 0 false := by
      unfold Abs.cmdCheck
      rw [if_neg]
      unfold Abs.head
      rw [if_neg hnn, if_neg hno, if_neg (by omega)]
      simp
    clear hd
    refine Sg ?_
    refine K.cond (fun g6 => ?_) (fun g6 => ?_)
    · refine Sg ?_
      refine K.call (ris_r _ c.guard 1 _ s w4 (hg.ext (E4 (Ext.refl _))) (h.ext (E4 (Ext.refl _)))) ?_
      rintro _ w5 ⟨rfl, he5⟩
      replace hc1 := he5.obj hc1
      replace hc3 := he5.obj hc3
      have E5 : ∀ {w'}, Ext w5 w' → Ext w w' := fun e => E4 (he5.trans e)
      refine Sg ?_
      refine K.cond (fun g7 => ?_) (fun g7 => ?_)
      rotate_left
      · rw [if_pos ⟨by omega, g7⟩] at hr0
        refine Sg ?_
        exact ⟨by rw [hr0], E5 (Ext.refl _)⟩
      have hr : Abs.cmdCheck c p.locs s = Abs.actsE s c.acts 0 false := by rw [hr0, if_neg (fun hh => hh.2 (by simpa using g7))]
      refine Sg ?_
      refine K.forG 10 c.acts.length [3, 4, 5] (fun b => [(9, .bool b)]) false (fun k b w' => Ext w5 w' ∧ Abs.actsE s c.acts 0 false = Abs.actsE s (c.acts.drop k) k b) hZq hZq ⟨Ext.refl _, by simp⟩ ?_
      rintro k b S w6 hk ⟨he6, hI⟩
      replace hc1 := he6.obj hc1
      replace hc3 := he6.obj hc3
      refine Sg ?_
      refine K.cond (fun g1 => ?_) (fun g1 => ?_)
      · have hk' : k < c.acts.length := by omega
        obtain ⟨a, rfl⟩ := ha.addr (by omega)
        obtain ⟨vi, vv, hcell, hvi, hvv⟩ := ha.at k hk'
        obtain ⟨_, _, rfl, _⟩ := hvi.form
        obtain ⟨_, _, rfl, _⟩ := hvv.form
        rw [Abs.actsE_cons hk', Abs.actsE_ract] at hI
        replace hcell := hcell.ext (E5 (Ext.refl _))
        refine Sg ?_
        refine K.qfn (.int .i64 (Abs.ractE c.acts[k] s b)) (fun w' e => ract_r c.acts[k] b _ _ _ s w' (hvi.ext (E5 (he6.trans e))) (hvv.ext (E5 (he6.trans e))) (h.ext (E5 (he6.trans e)))) ?_
        refine Sg ?_
        intro w7 he7
        replace hc1 := he7.obj hc1
        replace hc3 := he7.obj hc3
        refine Sg ?_
        refine K.cond (fun g2 => ?_) (fun g2 => ?_)
        rotate_left
        · rw [if_pos g2] at hI
          refine Sg ?_
          exact ⟨by rw [hr, hI], E5 (he6.trans he7)⟩
        rw [if_neg (by simpa using g2)] at hI
        refine Sg ?_
        refine K.condb (fun g3 => ?_) (fun g3 => ?_)
        · subst g3
          refine Sg ?_
          exact ⟨hk', by first | trivial | rfl, true, hZq, he6.trans he7, by simpa using hI⟩
        subst g3
        refine Sg ?_
        refine K.cond (fun g4 => ?_) (fun g4 => ?_)
        · have ht : Abs.talks c.acts[k] = true := by unfold Abs.talks; rw [decide_eq_true_eq]; omega
          refine Sg ?_
          exact ⟨hk', by first | trivial | rfl, true, hZq, he6.trans he7, by simpa [ht] using hI⟩
        have ht : Abs.talks c.acts[k] = decide (c.acts[k].kind = 5) := by unfold Abs.talks; rw [Bool.eq_iff_iff, decide_eq_true_eq, decide_eq_true_eq]; omega
        rw [Bool.false_or, ht] at hI
        refine Sg ?_
        exact ⟨hk', by first | trivial | rfl, decide (c.acts[k].kind = 5), hZq, he6.trans he7, hI⟩
      · rw [List.drop_eq_nil_of_le (by omega)] at hI
        refine Sg ?_
        exact ⟨by rw [hr, hI]; rfl, E5 he6⟩
    · have hr : Abs.cmdCheck c p.locs s = Abs.actsE s c.acts 0 false := by rw [hr0, if_neg (fun hh => g6 (by omega))]
      refine Sg ?_
      refine K.forG 10 c.acts.length [3, 4, 5] (fun b => [(9, .bool b)]) false (fun k b w' => Ext w4 w' ∧ Abs.actsE s c.acts 0 false = Abs.actsE s (c.acts.drop k) k b) hZq hZq ⟨Ext.refl _, by simp⟩ ?_
      rintro k b S w6 hk ⟨he6, hI⟩
      replace hc1 := he6.obj hc1
      replace hc3 := he6.obj hc3
      refine Sg ?_
      refine K.cond (fun g1 => ?_) (fun g1 => ?_)
      · have hk' : k < c.acts.length := by omega
        obtain ⟨a, rfl⟩ := ha.addr (by omega)
        obtain ⟨vi, vv, hcell, hvi, hvv⟩ := ha.at k hk'
        obtain ⟨_, _, rfl, _⟩ := hvi.form
        obtain ⟨_, _, rfl, _⟩ := hvv.form
        rw [Abs.actsE_cons hk', Abs.actsE_ract] at hI
        replace hcell := hcell.ext (E4 (Ext.refl _))
        refine Sg ?_
        refine K.qfn (.int .i64 (Abs.ractE c.acts[k] s b)) (fun w' e => ract_r c.acts[k] b _ _ _ s w' (hvi.ext (E4 (he6.trans e))) (hvv.ext (E4 (he6.trans e))) (h.ext (E4 (he6.trans e)))) ?_
        refine Sg ?_
        intro w7 he7
        replace hc1 := he7.obj hc1
        replace hc3 := he7.obj hc3
        refine Sg ?_
        refine K.cond (fun g2 => ?_) (fun g2 => ?_)
        rotate_left
        · rw [if_pos g2] at hI
          refine Sg ?_
          exact ⟨by rw [hr, hI], E4 (he6.trans he7)⟩
        rw [if_neg (by simpa using g2)] at hI
        refine Sg ?_
        refine K.condb (fun g3 => ?_) (fun g3 => ?_)
        · subst g3
          refine Sg ?_
          exact ⟨hk', by first | trivial | rfl, true, hZq, he6.trans he7, by simpa using hI⟩
        subst g3
        refine Sg ?_
        refine K.cond (fun g4 => ?_) (fun g4 => ?_)
        · have ht : Abs.talks c.acts[k] = true := by unfold Abs.talks; rw [decide_eq_true_eq]; omega
          refine Sg ?_
          exact ⟨hk', by first | trivial | rfl, true, hZq, he6.trans he7, by simpa [ht] using hI⟩
        have ht : Abs.talks c.acts[k] = decide (c.acts[k].kind = 5) := by unfold Abs.talks; rw [Bool.eq_iff_iff, decide_eq_true_eq, decide_eq_true_eq]; omega
        rw [Bool.false_or, ht] at hI
        refine Sg ?_
        exact ⟨hk', by first | trivial | rfl, decide (c.acts[k].kind = 5), hZq, he6.trans he7, hI⟩
      · rw [List.drop_eq_nil_of_le (by omega)] at hI
        refine Sg ?_
        exact ⟨by rw [hr, hI]; rfl, E4 he6⟩
end Go.Proofs.YtpaahhleopalaaaGreatDoor
end
section
/- What the reference says of processes. (Draft of session 4.) -/
set_option maxRecDepth 8000
set_option maxHeartbeats 16000000
namespace Go.Proofs.YtpaahhleopalaaaGreatDoor
open Go Go.RowKit Lite
theorem rpcheck_r (p : Abs.Proc) (pcs cs : List Value) (s : Abs.Scope) (w : World) (hp : Abs.ProcIs w pcs p) (h : Abs.ScopeIs w cs s) (hg : s.good) (hpg : p.good) :
    Ret Tryz.prog F.lariatref14_Check #[.agg pcs.toArray, .agg cs.toArray] w fun v w' => v = .tuple #[.int .i64 (Abs.procCheck p s).1, .int .i64 (Abs.procCheck p s).2.1, .int .i64 (Abs.procCheck p s).2.2] ∧ Ext w w' := by
  obtain ⟨a0, c0, a1, c1, a2, c2, a3, d3, a4, d4, rfl, h0, h1, h2, h3, h4, l0, l1, l2, l3, l4⟩ := h.form
  obtain ⟨hn, pv, pc, rfl, hv, hcm⟩ := hp
  obtain ⟨o3, c3, rfl, lv⟩ := hv.form
  obtain ⟨o4, c4, rfl, lc⟩ := hcm.form
  refine K.start hmix E.lariatref14_Check (args := [_, _]) (Nat.le_of_ble_eq_true rfl) ?_; dsimp only [C.lariatref14_Check]; refine Yy ?_
  refine Sg ?_
  intro w1 b1 hb1 he1 hc1
  refine Sg ?_
  intro w2 b2 hb2 he2 hc2
  replace hc1 := he2.obj hc1
  have E2 : ∀ {w'}, Ext w2 w' → Ext w w' := fun e => (he1.trans he2).trans e
  refine Sg ?_
  refine K.call (rname_r p.name w2 hn) ?_
  rintro u w3 ⟨hu, he3⟩
  replace hc1 := he3.obj hc1
  replace hc2 := he3.obj hc2
  have E3 : ∀ {w'}, Ext w3 w' → Ext w w' := fun e => E2 (he3.trans e)
  have hd : ∀ n, Abs.whole p s = n → n ≠ 0 → Abs.procCheck p s = (0, 0, n) := fun n e h0 => by unfold Abs.procCheck; rw [e, if_pos h0]
  cases hnm : Abs.isName p.name with
  | false =>
    rw [hnm] at hu
    subst hu
    refine Sg ?_
    exact ⟨by rw [hd 6 (by unfold Abs.whole; rw [if_pos hnm]) (by decide)], E3 (Ext.refl _)⟩
  | true =>
    rw [hnm] at hu
    subst hu
    have hnn : ¬ Abs.isName p.name = false := by rw [hnm]; simp
    refine Sg ?_
    refine K.cond (fun g1 => ?_) (fun g1 => ?_)
    · refine Sg ?_
      exact ⟨by rw [hd 8 (by unfold Abs.whole; rw [if_neg hnn, if_pos (.inl g1)]) (by decide)], E3 (Ext.refl _)⟩
    refine Sg ?_
    refine K.cond (fun g2 => ?_) (fun g2 => ?_)
    · refine Sg ?_
      exact ⟨by rw [hd 8 (by unfold Abs.whole; rw [if_neg hnn, if_pos (.inr (by omega))]) (by decide)], E3 (Ext.refl _)⟩
    have n1 : ¬ (p.over < 0 ∨ (s.scalars.length : Int) < p.over) := by omega
    refine Sg ?_
    refine K.cond (fun g3 => ?_) (fun g3 => ?_)
    · refine Sg ?_
      exact ⟨by rw [hd 10 (by unfold Abs.whole; rw [if_neg hnn, if_neg n1, if_pos (.inl g3)]) (by decide)], E3 (Ext.refl _)⟩
    refine Sg ?_
    refine K.cond (fun g4 => ?_) (fun g4 => ?_)
    · refine Sg ?_
      exact ⟨by rw [hd 10 (by unfold Abs.whole; rw [if_neg hnn, if_neg n1, if_pos (.inr (by omega))]) (by decide)], E3 (Ext.refl _)⟩
    have n2 : ¬ (p.locs < 1 ∨ 12 < p.locs) := by omega
    refine Sg ?_
    refine K.cond (fun g5 => ?_) (fun g5 => ?_)
    · refine Sg ?_
      exact ⟨by rw [hd 11 (by unfold Abs.whole; rw [if_neg hnn, if_neg n1, if_neg n2, if_pos (by omega)]) (by decide)], E3 (Ext.refl _)⟩
    have hr : Abs.procCheck p s = if (Abs.plocals p s).2 ≠ 0 then (1, (Abs.plocals p s).1, (Abs.plocals p s).2) else Abs.cmdsE (Abs.inner p s) p.locs p.cmds p.cmds 0 := by
      unfold Abs.procCheck
      rw [if_neg]
      unfold Abs.whole
      rw [if_neg hnn, if_neg n1, if_neg n2, if_neg (by omega)]
      simp
    clear hd
    refine Sg ?_
    refine K.call (refVars_r _ _ p.vars s.scalars 4 w3 (hv.ext (E3 (Ext.refl _))) (h0.ext (E3 (Ext.refl _)))) ?_
    rintro _ w4 ⟨rfl, he4⟩
    replace hc1 := he4.obj hc1
    replace hc2 := he4.obj hc2
    have E4 : ∀ {w'}, Ext w4 w' → Ext w w' := fun e => E3 (he4.trans e)
    refine Sg ?_
    refine K.cond (fun g6 => ?_) (fun g6 => ?_)
    rotate_left
    · have hl : Abs.plocals p s = Abs.vars p.vars s.scalars 4 := by unfold Abs.plocals; rw [if_pos g6]
      rw [hl, if_pos g6] at hr
      refine Sg ?_
      exact ⟨by rw [hr], E4 (Ext.refl _)⟩
    have hl : Abs.plocals p s = Abs.localsE s p.vars 0 := by unfold Abs.plocals; rw [if_neg (by simpa using g6)]
    rw [hl] at hr
    refine Sg ?_
    refine K.forG 9 p.vars.length [2, 3] (fun _ : Unit => []) () (fun k _ w' => Ext w4 w' ∧ Abs.localsE s p.vars 0 = Abs.localsE s (p.vars.drop k) k) hZq hZq ⟨Ext.refl _, by simp⟩ ?_
    rintro k _ S w5 hk ⟨he5, hI⟩
    replace hc1 := he5.obj hc1
    replace hc2 := he5.obj hc2
    refine Sg ?_
    refine K.cond (fun g7 => ?_) (fun g7 => ?_)
    · have hk' : k < p.vars.length := by omega
      obtain ⟨a, rfl⟩ := hv.addr (by omega)
      have hcv := ((hv.at k hk').cells).ext (E4 he5)
      rw [Abs.localsE_drop hk'] at hI
      refine Sg ?_
      refine K.cond (fun g8 => ?_) (fun g8 => ?_)
      rotate_left
      · rw [if_pos g8] at hI
        refine Sg ?_
        exact ⟨by rw [hr, hI]; rfl, E4 he5⟩
      rw [if_neg (by simpa using g8)] at hI
      refine Sg ?_
      refine K.forG 10 s.vars.length [2, 3, 9] (fun _ : Unit => []) () (fun j _ w' => Ext w5 w' ∧ ∀ t (ht : t < s.vars.length), t < j → ¬ s.vars[t].name = p.vars[k].name) hZq hZq ⟨Ext.refl _, fun _ _ h => absurd h (Nat.not_lt_zero _)⟩ ?_
      rintro j _ S' w6 hj ⟨he6, hJ⟩
      replace hc1 := he6.obj hc1
      replace hc2 := he6.obj hc2
      have E6 : ∀ {w'}, Ext w6 w' → Ext w w' := fun e => E4 ((he5.trans he6).trans e)
      refine Sg ?_
      refine K.cond (fun g9 => ?_) (fun g9 => ?_)
      · have hj' : j < s.vars.length := by omega
        obtain ⟨a', rfl⟩ := h1.addr (by omega)
        have hcs := ((h1.at j hj').cells).ext (E6 (Ext.refl _))
        replace hcv := hcv.ext he6
        refine Sg ?_
        intro w7 he7
        replace hc1 := he7.obj hc1
        replace hc2 := he7.obj hc2
        refine Sg ?_
        refine K.cond (fun g10 => ?_) (fun g10 => ?_)
        · have hany : s.vars.any (fun x => decide (x.name = p.vars[k].name)) = true := List.any_eq_true.2 ⟨s.vars[j], List.getElem_mem _, by simpa using g10⟩
          rw [if_pos hany] at hI
          refine Sg ?_
          exact ⟨by rw [hr, hI]; rfl, E6 he7⟩
        · refine Sg ?_
          exact ⟨hj', by first | trivial | rfl, (), trivial, he6.trans he7, fun t ht h => by
            by_cases e : t = j
            · subst e; exact g10
            · exact hJ t ht (by omega)⟩
      · have hany : ¬ s.vars.any (fun x => decide (x.name = p.vars[k].name)) = true := by
          intro hh
          obtain ⟨x, hx, hx2⟩ := List.any_eq_true.1 hh
          obtain ⟨t, ht, rfl⟩ := List.mem_iff_getElem.1 hx
          exact hJ t ht (by omega) (by simpa using hx2)
        rw [if_neg hany] at hI
        refine Sg ?_
        exact ⟨hk', by first | trivial | rfl, (), trivial, he5.trans he6, hI⟩
    rw [List.drop_eq_nil_of_le (by omega)] at hI
    replace hr : Abs.procCheck p s = Abs.cmdsE (Abs.inner p s) p.locs p.cmds p.cmds 0 := by rw [hr, hI]; rfl
    clear hI hl
    have hin : ∀ w', Ext w w' → Abs.ScopeIs w' [.slice a0 s.scalars.length c0, .slice a1 s.vars.length c1, .slice a2 s.chans.length c2, .slice a3 s.procs.length d3, .slice o3 p.vars.length c3, .int .i64 p.over] (Abs.inner p s) := fun w' e =>
      ⟨(hg.inner hpg).sm.1, _, _, _, _, _, rfl, h0.ext e, h1.ext e, h2.ext e, h3.ext e, hv.ext e, (hg.inner hpg).sm.2⟩
    refine Sg ?_
    intro w6 b3 hb3 he6 hc3
    replace hc1 := he6.obj hc1
    replace hc2 := he6.obj hc2
    have E6 : ∀ {w'}, Ext w6 w' → Ext w w' := fun e => E4 ((he5.trans he6).trans e)
    refine Sg ?_
    refine K.forG 12 p.cmds.length [2, 3, 11] (fun _ : Unit => []) () (fun k _ w' => Ext w6 w' ∧ Abs.cmdsE (Abs.inner p s) p.locs p.cmds p.cmds 0 = Abs.cmdsE (Abs.inner p s) p.locs p.cmds (p.cmds.drop k) k) hZq hZq ⟨Ext.refl _, by simp⟩ ?_

    rintro k _ S w7 hk ⟨he7, hI⟩
    replace hc1 := he7.obj hc1
    replace hc2 := he7.obj hc2
    replace hc3 := he7.obj hc3
    have E7 : ∀ {w'}, Ext w7 w' → Ext w w' := fun e => E6 (he7.trans e)
    refine Sg ?_
    refine K.cond (fun g7 => ?_) (fun g7 => ?_)
    · have hk' : k < p.cmds.length := by omega
      obtain ⟨a, rfl⟩ := hcm.addr (by omega)
      obtain ⟨hs, vg, va, hcc, hvg, hva⟩ := hcm.at k hk'
      obtain ⟨og, cg, rfl, lg⟩ := hvg.form
      obtain ⟨oa, ca, rfl, la⟩ := hva.form
      rw [Abs.cmdsE_drop hk'] at hI
      replace hcc := hcc.ext (E7 (Ext.refl _))
      refine Sg ?_
      refine K.qfn (.tuple #[.int .i64 (Abs.cmdCheck p.cmds[k] p.locs (Abs.inner p s)).1, .int .i64 (Abs.cmdCheck p.cmds[k] p.locs (Abs.inner p s)).2]) (fun w' e => rcheck_r p.cmds[k] _ _ p _ _ _ (Abs.inner p s) w' hs (hvg.ext (E7 e)) (hva.ext (E7 e)) (hv.ext (E7 e)) (hcm.ext (E7 e)) (hin _ (E7 e))) ?_
      refine Sg ?_
      intro w8 he8
      replace hc1 := he8.obj hc1
      replace hc2 := he8.obj hc2
      replace hc3 := he8.obj hc3
      replace hcc := hcc.ext he8
      have E8 : ∀ {w'}, Ext w8 w' → Ext w w' := fun e => E7 (he8.trans e)
      refine Sg ?_
      refine K.cond (fun g8 => ?_) (fun g8 => ?_)
      rotate_left
      · rw [if_pos g8] at hI
        refine Sg ?_
        exact ⟨by rw [hr, hI], E8 (Ext.refl _)⟩
      rw [if_neg (by simpa using g8)] at hI
      refine Sg ?_
      refine K.forG 15 k [2, 3, 11, 12] (fun _ : Unit => []) () (fun j _ w' => Ext w8 w' ∧ ∀ t (ht : t < p.cmds.length), t < j → ¬ p.cmds[t].name = p.cmds[k].name) hZq hZq ⟨Ext.refl _, fun _ _ h => absurd h (Nat.not_lt_zero _)⟩ ?_
      rintro j _ S' w9 hj ⟨he9, hJ⟩
      replace hc1 := he9.obj hc1
      replace hc2 := he9.obj hc2
      replace hc3 := he9.obj hc3
      have E9 : ∀ {w'}, Ext w9 w' → Ext w w' := fun e => E8 (he9.trans e)
      refine Sg ?_
      refine K.cond (fun g9 => ?_) (fun g9 => ?_)
      · have hj' : j < p.cmds.length := by omega
        obtain ⟨_, vg', va', hcj, _, _⟩ := hcm.at j hj'
        replace hcj := hcj.ext (E9 (Ext.refl _))
        replace hcc := hcc.ext he9
        refine Sg ?_
        intro w10 he10
        replace hc1 := he10.obj hc1
        replace hc2 := he10.obj hc2
        replace hc3 := he10.obj hc3
        refine Sg ?_
        refine K.cond (fun g10 => ?_) (fun g10 => ?_)
        · have hany : (p.cmds.take k).any (fun x => decide (x.name = p.cmds[k].name)) = true := List.any_eq_true.2 ⟨p.cmds[j], by rw [List.mem_iff_getElem]; exact ⟨j, by simp; omega, by simp⟩, by simpa using g10⟩
          rw [if_pos hany] at hI
          refine Sg ?_
          exact ⟨by rw [hr, hI], E9 he10⟩
        · refine Sg ?_
          exact ⟨by omega, by first | trivial | rfl, (), trivial, he9.trans he10, fun t ht h => by
            by_cases e : t = j
            · subst e; exact g10
            · exact hJ t ht (by omega)⟩
      · have hany : ¬ (p.cmds.take k).any (fun x => decide (x.name = p.cmds[k].name)) = true := by
          intro hh
          obtain ⟨x, hx, hx2⟩ := List.any_eq_true.1 hh
          obtain ⟨t, ht, rfl⟩ := List.mem_iff_getElem.1 hx
          have ht2 : t < k ∧ t < p.cmds.length := by simp at ht; omega
          exact hJ t ht2.2 (by omega) (by simpa using hx2)
        rw [if_neg hany] at hI
        refine Sg ?_
        exact ⟨hk', by first | trivial | rfl, (), trivial, (he7.trans he8).trans he9, hI⟩
    · rw [List.drop_eq_nil_of_le (by omega)] at hI
      refine Sg ?_
      exact ⟨by rw [hr, hI]; rfl, E7 (Ext.refl _)⟩
end Go.Proofs.YtpaahhleopalaaaGreatDoor
end
section
/- Whole models: what is wrong first, the document's. -/
set_option maxRecDepth 8000
set_option maxHeartbeats 16000000
namespace Go.Proofs.YtpaahhleopalaaaGreatDoor
open Go Go.RowKit Lite
theorem refProcess_r (cs : List Value) (m : Abs.Model) (k : Nat) (w : World) (h : Abs.ModelIs w cs m) (hg : m.good) (hk : k < m.procs.length) (hk6 : k ≤ 6) (hdf : m.scalars.length ≤ 2 ∧ m.vars.length ≤ 12 ∧ m.chans.length ≤ 4) (hp6 : k < 6 → ∀ j, j < k → (Abs.eproc m j).1 = 0) :
    Ret Tryz.prog F.lariatref15_process #[.agg cs.toArray, .int .i64 k] w fun v w' => v = faultV (if (Abs.eproc m k).1 ≠ 0 then ⟨(Abs.eproc m k).1, 4, k, (Abs.eproc m k).2⟩ else Abs.fine) ∧ Ext w w' := by
  have hM := h
  obtain ⟨o0, c0, o1, c1, o2, c2, o3, c3, o4, c4, rfl, h0, h1, h2, h3, h4, l0, l1, l2, l3, l4⟩ := h.form
  have hget := Abs.eproc_get hk
  refine K.start hmix E.lariatref15_process (args := [_, _]) (Nat.le_of_ble_eq_true rfl) ?_; dsimp only [C.lariatref15_process]; refine Yy ?_
  refine Sg ?_
  intro w1 b1 hb1 he1 hc1
  refine Sg ?_
  intro w2 b2 hb2 he2 hc2
  replace hc1 := he2.obj hc1
  have e2 := he1.trans he2
  have z1 := lt_of_heap hc1
  have z2 := he1.size
  refine Sg ?_
  refine K.cond (fun g1 => ?_) (fun g1 => ?_)
  · rw [if_pos (by omega)] at hget
    refine Sg ?_
    intro w3 hw3 hc3
    refine Sg ?_
    exact ⟨by rw [hget]; rfl, hw3.ext e2 (by omega)⟩
  rw [if_neg (by omega)] at hget
  obtain ⟨a, rfl⟩ := h3.addr (by omega)
  obtain ⟨hsn, vv, vc, hp, hpv, hpc⟩ := h3.at k hk
  obtain ⟨ov, cv, rfl, lv⟩ := hpv.form
  obtain ⟨oc, cc, rfl, lc⟩ := hpc.form
  have hpg := hg.proc _ (List.getElem_mem hk)
  replace hp := hp.ext e2
  refine Sg ?_
  intro w3 b5 hb5 he3 hc5
  replace hc1 := he3.obj hc1
  replace hc2 := he3.obj hc2
  refine Sg ?_
  intro w4 he4
  replace hc1 := he4.obj hc1
  replace hc2 := he4.obj hc2
  replace hc5 := he4.obj hc5
  have e4 := (e2.trans he3).trans he4
  refine Sg ?_
  refine K.call (refScope_r (w0 := w) _ m k w4 hM e4 hg) ?_
  rintro _ w5 ⟨⟨cs5, rfl, hsc⟩, he5⟩
  refine ⟨he5, ?_⟩
  have e5 := e4.trans he5
  obtain ⟨x0, y0, x1, y1, x2, y2, x3, y3, x4, y4, rfl, _⟩ := (hsc _ e5).form
  refine Sg ?_
  refine K.call (rpcheck_r m.procs[k] _ _ (Abs.pscope m k) w5 ⟨hsn, _, _, rfl, hpv.ext e5, hpc.ext e5⟩ (hsc _ e5) (hg.pscope _) hpg) ?_
  rintro _ w6 ⟨rfl, he6⟩
  replace hc1 := (he5.trans he6).obj hc1
  replace hc2 := (he5.trans he6).obj hc2
  replace hc5 := (he5.trans he6).obj hc5
  have e6 := e5.trans he6
  clear e2 e4 hp
  have hin := Abs.procCheck_in m.procs[k] (Abs.pscope m k) 140737488351232 fun c hc => by have := (hpg.cmd c hc).acts; unfold Abs.big at this; omega
  have hvb : m.procs[k].vars.length ≤ 140737488351232 := by have := hpg.vars; unfold Abs.big at this; omega
  have hcb : m.procs[k].cmds.length ≤ 140737488351232 := by have := hpg.cmds; unfold Abs.big at this; omega
  refine Sg ?_
  refine K.cond (fun g2 => ?_) (fun g2 => ?_)
  rotate_left
  · rw [if_pos g2] at hget
    refine Sg ?_
    intro w7 hw7 hc7
    refine Sg ?_
    exact ⟨by rw [hget, if_pos g2]; rfl, hw7.ext e6 (by omega)⟩
  rw [if_neg (by simpa using g2)] at hget
  have hlen : ∀ (i : Int), m.scalars.length + Abs.upN 1 4 i m.vars.length + Abs.upN 2 4 i m.chans.length + Abs.upN 3 4 k m.procs.length + Abs.upL 4 i m.props.length ≤ 8000000000000 := fun i => by
    have q1 := Abs.upN_le 1 4 i m.vars.length
    have q2 := Abs.upN_le 2 4 i m.chans.length
    have q3 : Abs.upN 3 4 k m.procs.length ≤ k := by unfold Abs.upN; (repeat' split) <;> omega
    have q4 : Abs.upL 4 i m.props.length = 0 := by unfold Abs.upL; rw [if_neg (by decide)]
    omega
  refine Sg ?_
  intro w7 he7
  replace hc1 := he7.obj hc1
  replace hc2 := he7.obj hc2
  replace hc5 := he7.obj hc5
  have e7 := e6.trans he7
  refine Sg ?_
  refine K.call (ahead_r _ m 4 k w7 (hM.ext e7) (by omega) (by omega) (hlen k)) ?_
  rintro _ w8 ⟨⟨v, rfl, hown⟩, he8⟩
  refine ⟨he8, ?_⟩
  rw [Abs.aheadP] at hown
  replace hc1 := he8.obj hc1
  replace hc2 := he8.obj hc2
  replace hc5 := he8.obj hc5
  have e8 := e7.trans he8
  refine Sg ?_
  refine K.call (has_r v _ m.procs[k].name _ w8 hown) ?_
  rintro _ wA ⟨rfl, rfl⟩
  refine Sg ?_
  refine K.cond (fun g3 => ?_) (fun g3 => ?_)
  · rw [if_pos g3] at hget
    refine Sg ?_
    intro w9 hw9 hc9
    refine Sg ?_
    exact ⟨by rw [hget]; rfl, hw9.ext e8 (by omega)⟩
  rw [if_neg g3] at hget
  have hpl : m.procs.length * 80 ≤ 140737488355328 := by have := hg.procs; unfold Abs.big at this; omega
  have hlen5 : m.scalars.length + Abs.upN 1 5 (0 : Nat) m.vars.length + Abs.upN 2 5 (0 : Nat) m.chans.length + Abs.upN 3 5 (0 : Nat) m.procs.length + Abs.upL 5 (0 : Nat) m.props.length ≤ 8000000000000 := by
    have q1 := Abs.upN_le 1 5 (0 : Nat) m.vars.length
    have q2 := Abs.upN_le 2 5 (0 : Nat) m.chans.length
    have q3 := Abs.upN_le 3 5 (0 : Nat) m.procs.length
    have q4 : Abs.upL 5 (0 : Nat) m.props.length = 0 := by unfold Abs.upL; rw [if_pos (by decide)]; simp
    omega
  have hc1w := hc1
  have hc2w := hc2
  have hc5w := hc5
  clear hc1 hc2 hc5 hown
  have hc1 := hc1w
  have hc5 := hc5w
  refine Sg ?_
  refine K.forG 9 m.procs[k].vars.length [1, 2, 4, 5] (fun _ : Unit => []) () (fun j _ w' => Ext wA w' ∧ ∀ i, i < j → Abs.elocs m m.procs[k] i = 0) hZq hZq ⟨Ext.refl _, fun j h => absurd h (Nat.not_lt_zero _)⟩ ?_
  clear hc1 hc5
  rintro j _ S w9 hj ⟨he9, hz⟩
  have hc1 := he9.obj hc1w
  have hc2 := he9.obj hc2w
  have hc5 := he9.obj hc5w
  have e9 := e8.trans he9
  refine Sg ?_
  refine K.cond (fun g4 => ?_) (fun g4 => ?_)
  · have hj' : j < m.procs[k].vars.length := by omega
    obtain ⟨a', rfl⟩ := hpv.addr (by omega)
    have hcv := ((hpv.at j hj').cells).ext e9
    have hnm := Abs.nameAt_get (f := fun x : Abs.Var => x.name) hj'
    refine Sg ?_
    intro w10 he10
    replace hc1 := he10.obj hc1
    replace hc2 := he10.obj hc2
    replace hc5 := he10.obj hc5
    replace hcv := hcv.ext he10
    have e10 := e9.trans he10
    refine Sg ?_
    refine K.call (ahead_r _ m 5 (0 : Nat) w10 (hM.ext e10) (by omega) (by omega) hlen5) ?_
    rintro _ w11 ⟨⟨v2, rfl, hown2⟩, he11⟩
    refine ⟨he11, ?_⟩
    rw [Abs.aheadR] at hown2
    replace hc1 := he11.obj hc1
    replace hc2 := he11.obj hc2
    replace hc5 := he11.obj hc5
    have e11 := e10.trans he11
    refine Sg ?_
    refine K.call (has_r v2 _ m.procs[k].vars[j].name _ w11 hown2) ?_
    rintro _ wB ⟨rfl, rfl⟩
    have hall : Abs.nAll m 0 = Abs.nSVCP m m.procs.length := by simp [Abs.nAll]
    rw [hall]
    refine Sg ?_
    refine K.cond (fun g5 => ?_) (fun g5 => ?_)
    · have hel : Abs.elocs m m.procs[k] j = 7 := by unfold Abs.elocs; rw [hnm, if_pos g5]
      rw [Abs.first_stop hj' hz (by rw [hel]; decide), hel, if_pos (show (7 : Int) ≠ 0 by decide)] at hget
      refine Sg ?_
      intro w12 hw12 hc12
      refine Sg ?_
      exact ⟨by rw [hget]; rfl, hw12.ext e11 (by omega)⟩
    · refine Sg ?_
      refine ⟨hj', by first | trivial | rfl, (), trivial, (he9.trans he10).trans he11, fun i hi => ?_⟩
      by_cases hij : i = j
      · subst hij
        unfold Abs.elocs
        rw [hnm, if_neg g5]
      · exact hz i (by omega)
  · rw [Abs.first_none fun i hi => hz i (by omega), if_neg (by simp)] at hget
    refine Sg ?_
    intro w10 hw10 hc10
    refine Sg ?_
    exact ⟨by rw [hget]; rfl, hw10.ext e9 (by omega)⟩
theorem refProposition_r (cs : List Value) (m : Abs.Model) (k : Nat) (w : World) (h : Abs.ModelIs w cs m) (hg : m.good) (hk : k < m.props.length) (hk8 : k ≤ 8) (hdf : m.scalars.length ≤ 2 ∧ m.vars.length ≤ 12 ∧ m.chans.length ≤ 4) (hp6 : m.procs.length ≤ 6) :
    Ret Tryz.prog F.lariatref15_proposition #[.agg cs.toArray, .int .i64 k] w fun v w' => v = .int .i64 (Abs.eprop m k) ∧ Ext w w' := by
  have hM := h
  obtain ⟨o0, c0, o1, c1, o2, c2, o3, c3, o4, c4, rfl, h0, h1, h2, h3, h4, l0, l1, l2, l3, l4⟩ := h.form
  have hget := Abs.eprop_get hk
  refine K.start hmix E.lariatref15_proposition (args := [_, _]) (Nat.le_of_ble_eq_true rfl) ?_; dsimp only [C.lariatref15_proposition]; refine Yy ?_
  refine Sg ?_
  intro w1 b1 hb1 he1 hc1
  refine Sg ?_
  refine K.cond (fun g1 => ?_) (fun g1 => ?_)
  · rw [if_pos (by omega)] at hget
    refine Sg ?_
    exact ⟨by rw [hget], he1⟩
  rw [if_neg (by omega)] at hget
  obtain ⟨a, rfl⟩ := h4.addr (by omega)
  obtain ⟨hsn, ve, hp, hpe⟩ := h4.at k hk
  obtain ⟨oe, ce, rfl, le⟩ := hpe.form
  replace hp := hp.ext he1
  refine Sg ?_
  intro w2 b5 hb5 he2 hc5
  replace hc1 := he2.obj hc1
  have e2 := he1.trans he2
  refine Sg ?_
  refine K.call (rname_r m.props[k].name w2 hsn) ?_
  rintro _ w3 ⟨rfl, he3⟩
  replace hc1 := he3.obj hc1
  replace hc5 := he3.obj hc5
  have e3 := e2.trans he3
  refine Sg ?_
  refine K.condb (fun g2 => ?_) (fun g2 => ?_)
  rotate_left
  · rw [if_pos g2] at hget
    refine Sg ?_
    exact ⟨by rw [hget], e3⟩
  rw [if_neg (by rw [g2]; decide)] at hget
  refine Sg ?_
  intro w4 he4
  replace hc1 := he4.obj hc1
  replace hc5 := he4.obj hc5
  have e4 := e3.trans he4
  refine Sg ?_
  refine K.call (ahead_r _ m 5 k w4 (hM.ext e4) (by omega) (by omega) (by
    have q1 := Abs.upN_le 1 5 k m.vars.length
    have q2 := Abs.upN_le 2 5 k m.chans.length
    have q3 := Abs.upN_le 3 5 k m.procs.length
    have q4 : Abs.upL 5 k m.props.length ≤ k := by unfold Abs.upL; (repeat' split) <;> omega
    omega)) ?_
  rintro _ w5 ⟨⟨v2, rfl, hown2⟩, he5⟩
  refine ⟨he5, ?_⟩
  rw [Abs.aheadR] at hown2
  replace hc1 := he5.obj hc1
  replace hc5 := he5.obj hc5
  have e5 := e4.trans he5
  refine Sg ?_
  refine K.call (has_r v2 _ m.props[k].name _ w5 hown2) ?_
  rintro _ wB ⟨rfl, rfl⟩
  refine Sg ?_
  refine K.cond (fun g3 => ?_) (fun g3 => ?_)
  · rw [if_pos g3] at hget
    refine Sg ?_
    exact ⟨by rw [hget], e5⟩
  rw [if_neg g3] at hget
  have hsc : ∀ w', Ext w w' → Abs.ScopeIs w' [.slice o0 m.scalars.length c0, .slice o1 m.vars.length c1, .slice o2 m.chans.length c2, .slice o3 m.procs.length c3, .slice none 0 0, .int .i64 0] (Abs.mscope m) := fun w' e =>
    ⟨hg.scope.sm.1, _, _, _, _, _, rfl, h0.ext e, h1.ext e, h2.ext e, h3.ext e, SlR.nil, hg.scope.sm.2⟩
  refine Sg ?_
  refine K.call (refKind_r _ m.props[k].expr _ (Abs.mscope m) _ (hpe.ext e5) (hsc _ e5)) ?_
  rintro _ w6 ⟨rfl, he6⟩
  refine Sg ?_
  refine K.cond (fun g4 => ?_) (fun g4 => ?_)
  rotate_left
  · rw [if_pos g4] at hget
    refine Sg ?_
    exact ⟨by rw [hget], e5.trans he6⟩
  rw [if_neg (by simpa using g4)] at hget
  refine Sg ?_
  refine K.cond (fun g5 => ?_) (fun g5 => ?_)
  rotate_left
  · rw [if_pos g5] at hget
    refine Sg ?_
    exact ⟨by rw [hget], e5.trans he6⟩
  rw [if_neg (by simpa using g5)] at hget
  refine Sg ?_
  exact ⟨by rw [hget], e5.trans he6⟩
theorem refCheck_r (cs : List Value) (m : Abs.Model) (w : World) (h : Abs.ModelIs w cs m) (hg : m.good) :
    Ret Tryz.prog F.lariatref15_Check #[.agg cs.toArray] w fun v w' => v = faultV (Abs.check m) ∧ Ext w w' := by
  have hM := h
  obtain ⟨o0, c0, o1, c1, o2, c2, o3, c3, o4, c4, rfl, h0, h1, h2, h3, h4, l0, l1, l2, l3, l4⟩ := h.form
  refine K.start hmix E.lariatref15_Check (args := [_]) (Nat.le_of_ble_eq_true rfl) ?_; dsimp only [C.lariatref15_Check]; refine Yy ?_
  simp -dsimp only [B9]
  refine Su ?_
  intro w1 b1 hb1 he1 hc1
  refine Su ?_
  intro w2 b2 hb2 he2 hc2
  replace hc1 := he2.obj hc1
  have e2 := he1.trans he2
  have z1 := lt_of_heap hc1
  have z2 := lt_of_heap hc2
  have z3 := he1.size
  refine Su ?_
  simp -dsimp only [B9]
  refine Su ?_
  refine K.call (refData_r _ m w2 (hM.ext e2)) ?_
  rintro _ w3 ⟨rfl, he3⟩
  replace hc1 := he3.obj hc1
  replace hc2 := he3.obj hc2
  unfold faultV
  have z4 := he2.size
  have z5 := he3.size
  refine Su ?_
  intro w4 b3 hb3 he4 hc3
  replace hc1 := he4.obj hc1
  replace hc2 := he4.obj hc2
  have e4 := (e2.trans he3).trans he4
  have z6 := lt_of_heap hc3
  have hc1w := hc1
  have hc2w := hc2
  have hM4 := hM.ext e4
  refine Su ?_
  refine K.cutG [1, 2, 3] (fun _ : Abs.Fault => []) (fun f w' => Mod (fun i => i = b3) w4 w' ∧ w'.heap[b3]? = some (.cells #[.int .i64 f.why, .int .i64 f.part, .int .i64 f.item, .int .i64 f.sub] T.api_Fault) ∧
    ((f.why ≠ 0 ∧ f = Abs.check m) ∨ (f.why = 0 ∧ (Abs.data m).why = 0 ∧ ∀ j, j < m.procs.length → (Abs.eproc m j).1 = 0))) ?_ ?_
  · refine Sg ?_
    refine K.forG 4 m.procs.length [1, 2, 3] (fun _ : Abs.Fault => []) (Abs.data m) (fun k f w' => Mod (fun i => i = b3) w4 w' ∧ w'.heap[b3]? = some (.cells #[.int .i64 f.why, .int .i64 f.part, .int .i64 f.item, .int .i64 f.sub] T.api_Fault) ∧
      ((f = Abs.data m ∧ (Abs.data m).why ≠ 0) ∨ ((Abs.data m).why = 0 ∧ f.why = 0 ∧ ∀ j, j < k → (Abs.eproc m j).1 = 0) ∨ ((Abs.data m).why = 0 ∧ f = Abs.procsF m ∧ (Abs.procsF m).why ≠ 0))) hZq hZq ⟨Mod.refl _ _, hc3, by
        by_cases h : (Abs.data m).why = 0
        · exact .inr (.inl ⟨h, h, fun j h => absurd h (Nat.not_lt_zero _)⟩)
        · exact .inl ⟨rfl, h⟩⟩ ?_
    clear hc1 hc2 hc3
    rintro k f S w5 hk ⟨m5, hc3, hf⟩
    have hc1 := m5.obj (by omega) hc1w
    have hc2 := m5.obj (by omega) hc2w
    have e5 := m5.ext e4 (fun i hi e => by omega)
    have fin1 : f.why ≠ 0 → (f.why ≠ 0 ∧ f = Abs.check m) := fun hw => ⟨hw, by
      rcases hf with ⟨rfl, h⟩ | ⟨_, h, _⟩ | ⟨h1, rfl, h2⟩
      · rw [Abs.check, if_pos h]
      · exact absurd h hw
      · rw [Abs.check, if_neg (by simpa using h1), if_pos h2]⟩
    refine Sg ?_
    refine K.cond (fun g1 => ?_) (fun g1 => ?_)
    · have hk' : k < m.procs.length := by omega
      refine Sg ?_
      refine K.cond (fun g2 => ?_) (fun g2 => ?_)
      · have hf2 : (Abs.data m).why = 0 ∧ f.why = 0 ∧ ∀ j, j < k → (Abs.eproc m j).1 = 0 := by
          rcases hf with ⟨rfl, h⟩ | h | ⟨h1, rfl, h2⟩
          · exact absurd g2 h
          · exact h
          · exact absurd g2 h2
        have hk6 : k ≤ 6 := by
          apply Classical.byContradiction
          intro hn
          have := Abs.eproc_lt (m := m) (i := 6) (by omega) (hf2.2.2 6 (by omega))
          omega
        refine Sg ?_
        refine K.call (refProcess_r _ m k w5 (hM.ext e5) hg hk' hk6 (Abs.data_few hf2.1) fun _ => hf2.2.2) ?_
        rintro _ w6 ⟨rfl, he6⟩
        unfold faultV
        replace hc1 := he6.obj hc1
        replace hc2 := he6.obj hc2
        replace hc3 := he6.obj hc3
        refine Sg ?_
        intro w7 hw7 hc7
        refine Sg ?_
        refine ⟨hk', by first | trivial | rfl, _, trivial, (m5.trans he6.mod).trans (hw7.mod rfl), hc7, ?_⟩
        by_cases h0 : (Abs.eproc m k).1 = 0
        · rw [if_neg (by simpa using h0)]
          refine .inr (.inl ⟨hf2.1, rfl, fun j hj => ?_⟩)
          by_cases hjk : j = k
          · subst hjk; exact h0
          · exact hf2.2.2 j (by omega)
        · rw [if_pos h0]
          have := Abs.procs_i hk' hf2.2.2 h0
          exact .inr (.inr ⟨hf2.1, this.symm, by rw [this]; exact h0⟩)
      · refine Sg ?_
        exact ⟨f, trivial, m5, hc3, .inl (fin1 g2)⟩
    · refine Sg ?_
      refine ⟨f, trivial, m5, hc3, ?_⟩
      by_cases hw : f.why = 0
      · refine .inr ?_
        rcases hf with ⟨rfl, h⟩ | ⟨h1, h2, h3⟩ | ⟨h1, rfl, h2⟩
        · exact absurd hw h
        · exact ⟨h2, h1, fun j hj => h3 j (by omega)⟩
        · exact absurd hw h2
      · exact .inl (fin1 hw)
  clear hc1 hc2 hc3
  rintro f S w5 ⟨m5, hc3, hf⟩
  have hc1 := m5.obj (by omega) hc1w
  have hc2 := m5.obj (by omega) hc2w
  have e5 := m5.ext e4 (fun i hi e => by omega)
  refine Sg ?_
  refine K.cond (fun g1 => ?_) (fun g1 => ?_)
  rotate_left
  · have hck : f = Abs.check m := by
      rcases hf with ⟨_, h⟩ | ⟨h, _⟩
      · exact h
      · exact absurd h g1
    refine Sg ?_
    intro w6 hw6 hc6
    refine Sg ?_
    exact ⟨by rw [hck], hw6.ext e5 (by omega)⟩
  have hok : (Abs.data m).why = 0 ∧ ∀ j, j < m.procs.length → (Abs.eproc m j).1 = 0 := by
    rcases hf with ⟨h, _⟩ | ⟨_, h⟩
    · exact absurd g1 h
    · exact h
  obtain ⟨hd, hP⟩ := hok
  have hdf := Abs.data_few hd
  have hpl : m.procs.length ≤ 6 := by
    apply Classical.byContradiction
    intro hn
    have := Abs.eproc_lt (i := 6) (by omega) (hP 6 (by omega))
    omega
  have hfew : Abs.Few m := ⟨by omega, by omega, by omega, fun p hp => by
    obtain ⟨j, hj, rfl⟩ := List.mem_iff_getElem.1 hp
    have := Abs.procCheck_few (Abs.eproc_ok hj (hP j hj)).2.1
    omega⟩
  have hpa := Abs.procs_all hP
  have hck : Abs.check m = if (Abs.procsF m).why ≠ 0 then Abs.procsF m else Abs.propsF m := by rw [Abs.check, if_neg (by simpa using hd)]
  clear hc3
  refine Sg ?_
  refine K.call (refPieces_r _ m w5 (hM.ext e5) hfew) ?_
  rintro _ w6 ⟨rfl, he6⟩
  replace hc1 := he6.obj hc1
  replace hc2 := he6.obj hc2
  have e6 := e5.trans he6
  refine Sg ?_
  refine K.cond (fun g2 => ?_) (fun g2 => ?_)
  · rw [if_pos (.inl (by omega))] at hpa
    rw [hpa, if_pos (show (11 : Int) ≠ 0 by decide)] at hck
    refine Sg ?_
    intro w7 hw7 hc7
    refine Sg ?_
    exact ⟨by rw [hck]; rfl, hw7.ext e6 (by omega)⟩
  refine Sg ?_
  refine K.cond (fun g3 => ?_) (fun g3 => ?_)
  · rw [if_pos (.inr (by omega))] at hpa
    rw [hpa, if_pos (show (11 : Int) ≠ 0 by decide)] at hck
    refine Sg ?_
    intro w7 hw7 hc7
    refine Sg ?_
    exact ⟨by rw [hck]; rfl, hw7.ext e6 (by omega)⟩
  rw [if_neg (by omega)] at hpa
  rw [hpa, if_neg (by simp [Abs.fine])] at hck
  have hc1v := hc1
  have hc2v := hc2
  refine Sg ?_
  refine K.forG 8 m.props.length [1, 2] (fun _ : Unit => []) () (fun k _ w' => Ext w6 w' ∧ ∀ j, j < k → Abs.eprop m j = 0) hZq hZq ⟨Ext.refl _, fun j h => absurd h (Nat.not_lt_zero _)⟩ ?_
  clear hc1 hc2
  rintro k _ S2 w7 hk ⟨he7, hz⟩
  have hc1 := he7.obj hc1v
  have hc2 := he7.obj hc2v
  have e7 := e6.trans he7
  refine Sg ?_
  refine K.cond (fun g4 => ?_) (fun g4 => ?_)
  · have hk' : k < m.props.length := by omega
    have hk8 : k ≤ 8 := by
      apply Classical.byContradiction
      intro hn
      have := Abs.eprop_lt (m := m) (i := 8) (by omega) (hz 8 (by omega))
      omega
    refine Sg ?_
    refine K.call (refProposition_r _ m k w7 (hM.ext e7) hg hk' hk8 hdf hpl) ?_
    rintro _ w8 ⟨rfl, he8⟩
    replace hc1 := he8.obj hc1
    replace hc2 := he8.obj hc2
    refine Sg ?_
    refine K.cond (fun g5 => ?_) (fun g5 => ?_)
    rotate_left
    · rw [Abs.props_i hk' hz g5] at hck
      refine Sg ?_
      intro w9 hw9 hc9
      refine Sg ?_
      exact ⟨by rw [hck]; rfl, hw9.ext (e7.trans he8) (by omega)⟩
    · refine Sg ?_
      refine ⟨hk', by first | trivial | rfl, (), trivial, he7.trans he8, fun j hj => ?_⟩
      by_cases hjk : j = k
      · subst hjk; simpa using g5
      · exact hz j (by omega)
  · rw [Abs.props_0 fun j hj => hz j (by omega)] at hck
    refine Sg ?_
    intro w8 hw8 hc8
    refine Sg ?_
    exact ⟨by rw [hck]; rfl, hw8.ext e7 (by omega)⟩
end Go.Proofs.YtpaahhleopalaaaGreatDoor
end
section
/- Lite: maps that are sets of names; a range over one. -/
set_option maxRecDepth 4000
namespace Lite
open Go Go.RowKit
def seenS (l : List ByteArray) : List (ByteArray × Value) := l.map fun x => (x, .bool true)
theorem seenS_find (l : List ByteArray) (x : ByteArray) : ((seenS l).find? (fun p => decide (x = p.1))).map (·.2) = if x ∈ l then some (.bool true) else none := by
  induction l with
  | nil => rfl
  | cons y l ih =>
    simp only [seenS, List.map_cons, List.find?_cons, List.mem_cons]
    by_cases h : x = y
    · simp [h]
    · simp only [h, decide_false, false_or]
      exact ih
/-- Entries that are a set of names. -/
structure MapS (es : Array MapEntry) (c : Nat) (L : List ByteArray) : Prop where
  kv : ∃ l, KV Value.string es.toList (seenS l) ∧ ∀ x, x ∈ l ↔ x ∈ L
  born : ∀ e ∈ es.toList, e.born < c
  nodup : (es.toList.map (·.born)).Nodup
theorem KV.mem {l : List ByteArray} : ∀ {es : List MapEntry}, KV Value.string es (seenS l) → ∀ e ∈ es, ∃ x ∈ l, e.key = .string x ∧ e.val = .bool true := by
  induction l with
  | nil => intro es h e he; cases es with | nil => cases he | cons _ _ => simp [KV, seenS] at h
  | cons y l ih =>
    intro es h e he
    cases es with
    | nil => cases he
    | cons f es =>
      simp only [KV, seenS, List.map_cons, List.cons.injEq, Prod.mk.injEq] at h
      rcases List.mem_cons.1 he with rfl | he
      · exact ⟨y, by simp, h.1.1, h.1.2⟩
      · obtain ⟨x, hx, h2⟩ := ih (es := es) h.2 e he
        exact ⟨x, by simp [hx], h2⟩
theorem KV.of_mem {l : List ByteArray} : ∀ {es : List MapEntry}, KV Value.string es (seenS l) → ∀ x ∈ l, ∃ e ∈ es, e.key = .string x := by
  induction l with
  | nil => intro es h x hx; cases hx
  | cons y l ih =>
    intro es h x hx
    cases es with
    | nil => simp [KV, seenS] at h
    | cons f es =>
      simp only [KV, seenS, List.map_cons, List.cons.injEq, Prod.mk.injEq] at h
      rcases List.mem_cons.1 hx with rfl | hx
      · exact ⟨f, by simp, h.1.1⟩
      · obtain ⟨e, he, h2⟩ := ih (es := es) h.2 x hx
        exact ⟨e, by simp [he], h2⟩
theorem MapS.mem {es : Array MapEntry} {c : Nat} {L : List ByteArray} (h : MapS es c L) : ∀ e ∈ es.toList, ∃ x ∈ L, e.key = .string x ∧ e.val = .bool true := fun e he => by
  obtain ⟨l, h1, h2⟩ := h.kv
  obtain ⟨x, hx, h3⟩ := h1.mem e he
  exact ⟨x, (h2 x).1 hx, h3⟩
theorem MapS.of_mem {es : Array MapEntry} {c : Nat} {L : List ByteArray} (h : MapS es c L) : ∀ x ∈ L, ∃ e ∈ es.toList, e.key = .string x := fun x hx => by
  obtain ⟨l, h1, h2⟩ := h.kv
  exact h1.of_mem x ((h2 x).2 hx)
theorem findNow_ix {d : TypeDesc} {k : Value} : ∀ {es : List MapEntry} {i j : Nat} {v : Value}, Instr.findNow d k es i = some (some (j, v)) → i ≤ j ∧ ∃ e, es[j - i]? = some e ∧ Instr.sameNow d k e.key = some true
  | [], i, j, v, h => by simp [Instr.findNow] at h
  | e :: es, i, j, v, h => by
    unfold Instr.findNow at h
    split at h
    · rename_i hs
      injection h with h; injection h with h; injection h with h1 h2
      subst h1
      exact ⟨Nat.le_refl _, e, by simp, hs⟩
    · obtain ⟨h1, e', h2, h3⟩ := findNow_ix h
      refine ⟨by omega, e', ?_, h3⟩
      rw [show j - i = (j - (i + 1)) + 1 from by omega, List.getElem?_cons_succ]
      exact h2
    · cases h
theorem modify_same {es : Array MapEntry} {j : Nat} {e : MapEntry} {f : MapEntry → MapEntry} (hj : es[j]? = some e) (hf : f e = e) : es.modify j f = es := by
  apply Array.ext_getElem?
  intro i
  rw [Array.getElem?_modify]
  by_cases h : j = i
  · subst h; rw [if_pos rfl, hj, Option.map_some, hf]
  · rw [if_neg h]
/-- A block that holds a set of names. -/
def SetAt (w : World) (b : Nat) (L : List ByteArray) : Prop := ∃ es c, w.heap[b]? = some (.map es c) ∧ MapS es c L
theorem SetAt.of {w w' : World} {b : Nat} {L : List ByteArray} (h : SetAt w b L) (e : w'.heap[b]? = w.heap[b]?) : SetAt w' b L := let ⟨es, c, h1, h2⟩ := h; ⟨es, c, e.trans h1, h2⟩
theorem SetAt.lt {w : World} {b : Nat} {L : List ByteArray} (h : SetAt w b L) : b < w.heap.size := let ⟨_, _, h1, _⟩ := h; lt_of_heap h1
theorem SetAt.ext {w w' : World} {b : Nat} {L : List ByteArray} (h : SetAt w b L) (e : Ext w w') : SetAt w' b L := h.of (e.heap h.lt)
theorem SetAt.wr {w w' : World} {b k : Nat} {L : List ByteArray} (h : SetAt w b L) (e : Wr k w w') (hk : b ≠ k) : SetAt w' b L := h.of (e.block b hk)
theorem SetAt.re {w : World} {b : Nat} {L L' : List ByteArray} (h : SetAt w b L) (e : ∀ x, x ∈ L ↔ x ∈ L') : SetAt w b L' := by
  obtain ⟨es, c, h1, ⟨⟨l, h2, h3⟩, h4, h5⟩⟩ := h
  exact ⟨es, c, h1, ⟨⟨l, h2, fun x => (h3 x).trans (e x)⟩, h4, h5⟩⟩
theorem SetAt.empty {w : World} {b : Nat} (h : w.heap[b]? = some (.map #[] 0)) : SetAt w b [] := ⟨_, _, h, ⟨⟨[], rfl, fun _ => Iff.rfl⟩, fun e he => by simp at he, by simp⟩⟩
theorem SetAt.look {w : World} {b : Nat} {L : List ByteArray} (h : SetAt w b L) (x : ByteArray) : ∃ es r, MapOf w (.map (some b)) es ∧ Instr.findNow .string (.string x) es.toList 0 = some r ∧ lkpV (.bool false) false r = .bool (decide (x ∈ L)) := by
  obtain ⟨es, c, h1, ⟨⟨l, h2, h3⟩, _, _⟩⟩ := h
  obtain ⟨r, hr1, hr2⟩ := findNow_kv same_str x es.toList _ 0 h2
  rw [seenS_find] at hr2
  refine ⟨es, r, .inr ⟨b, c, rfl, h1⟩, hr1, ?_⟩
  by_cases hx : x ∈ L
  · rw [if_pos ((h3 x).2 hx)] at hr2
    simp [lkpV, hr2, hx]
  · rw [if_neg (fun h => hx ((h3 x).1 h))] at hr2
    simp [lkpV, hr2, hx]
theorem SetAt.put {w : World} {b : Nat} {L : List ByteArray} (h : SetAt w b L) (x : ByteArray) : ∃ es c q, w.heap[b]? = some (.map es c) ∧ Instr.findNow .string (.string x) es.toList 0 = some q ∧
    ∀ w' : World, w'.heap[b]? = some (mupO es c (.string x) (.bool true) q) → SetAt w' b (L ++ [x]) := by
  obtain ⟨es, c, h1, hm⟩ := h
  obtain ⟨l, h2, h3⟩ := hm.kv
  obtain ⟨r, hr1, hr2⟩ := findNow_kv same_str x es.toList _ 0 h2
  refine ⟨es, c, r, h1, hr1, fun w' hw => ?_⟩
  cases r with
  | none =>
    refine ⟨_, _, hw, ⟨⟨l ++ [x], ?_, fun y => ?_⟩, ?_, ?_⟩⟩
    · have := KV.push h2 x (.bool true) c
      simpa [seenS] using this
    · simp [h3 y]
    · intro e he
      simp only [Array.toList_push, List.mem_append, List.mem_singleton] at he
      rcases he with he | rfl
      · have := hm.born e he; omega
      · show c < c + 1; omega
    · simp only [Array.toList_push, List.map_append, List.map_cons, List.map_nil]
      rw [List.nodup_append]
      refine ⟨hm.nodup, by simp, fun a ha b' hb' => ?_⟩
      obtain ⟨e, he, rfl⟩ := List.mem_map.1 ha
      simp only [List.mem_singleton] at hb'
      have := hm.born e he
      omega
  | some jv =>
    obtain ⟨j, v⟩ := jv
    obtain ⟨_, e, he, hs⟩ := findNow_ix hr1
    have hmem : e ∈ es.toList := List.mem_of_getElem? he
    obtain ⟨y, hy, hk, hv⟩ := hm.mem e hmem
    have hxy : x = y := by rw [hk, same_str] at hs; simpa using hs
    subst hxy
    have hsame : es.modify j (fun e => { e with key := .string x, val := .bool true }) = es := modify_same (e := e) (by simpa using he) (by cases e; simp only at hk hv; subst hk hv; rfl)
    have hw2 : w'.heap[b]? = some (.map es c) := by rw [hw]; show some (Obj.map (es.modify j _) c) = _; rw [hsame]
    exact ⟨es, c, hw2, ⟨⟨l, h2, fun z => by rw [h3 z]; simp; rintro rfl; exact hy⟩, hm.born, hm.nodup⟩⟩
/-- A range over a set of names, under way: D has come, n are left. -/
def IterAt (w : World) (r b : Nat) (L D : List ByteArray) (n : Nat) (cur : Option ByteArray) : Prop :=
  ∃ es c since seen c0, w.heap[b]? = some (.map es c) ∧ MapS es c L ∧ w.heap[r]? = some (.mapIter (some b) since seen c0) ∧ (∀ x ∈ es.toList, x.born < since) ∧ since ≤ c0 ∧ since ≤ c ∧ (leftOf es seen).size = n ∧
    (∀ e ∈ es.toList, seen.contains e.born = true → ∃ x ∈ D, e.key = .string x) ∧ (∀ x ∈ D, x ∈ L) ∧ (∀ x, cur = some x → ∃ (seen0 : Array Nat) (e : MapEntry), c0 = c ∧ seen = seen0.push e.born ∧ e ∈ es.toList ∧ e.key = .string x ∧ e.val = .bool true)
theorem IterAt.of {w w' : World} {r b : Nat} {L D : List ByteArray} {n : Nat} {cur : Option ByteArray} (h : IterAt w r b L D n cur) (e1 : w'.heap[b]? = w.heap[b]?) (e2 : w'.heap[r]? = w.heap[r]?) : IterAt w' r b L D n cur :=
  let ⟨es, c, since, seen, c0, h1, h2, h3, h4⟩ := h; ⟨es, c, since, seen, c0, e1.trans h1, h2, e2.trans h3, h4⟩
theorem IterAt.set {w : World} {r b : Nat} {L D : List ByteArray} {n : Nat} {cur : Option ByteArray} (h : IterAt w r b L D n cur) : SetAt w b L := let ⟨es, c, _, _, _, h1, h2, _⟩ := h; ⟨es, c, h1, h2⟩
theorem IterAt.sub {w : World} {r b : Nat} {L D : List ByteArray} {n : Nat} {cur : Option ByteArray} (h : IterAt w r b L D n cur) : ∀ x ∈ D, x ∈ L := let ⟨_, _, _, _, _, _, _, _, _, _, _, _, _, h2, _⟩ := h; h2
theorem IterAt.ne {w : World} {r b : Nat} {L D : List ByteArray} {n : Nat} {cur : Option ByteArray} (h : IterAt w r b L D n cur) : r ≠ b := by
  obtain ⟨es, c, since, seen, c0, h1, h2, h3, h4⟩ := h
  intro e
  rw [e, h1] at h3
  cases h3
theorem IterAt.lt {w : World} {r b : Nat} {L D : List ByteArray} {n : Nat} {cur : Option ByteArray} (h : IterAt w r b L D n cur) : r < w.heap.size := by
  obtain ⟨es, c, since, seen, c0, h1, h2, h3, h4⟩ := h
  exact lt_of_heap h3
theorem IterAt.ext {w w' : World} {r b : Nat} {L D : List ByteArray} {n : Nat} {cur : Option ByteArray} (h : IterAt w r b L D n cur) (e : Ext w w') : IterAt w' r b L D n cur := h.of (e.heap h.set.lt) (e.heap h.lt)
theorem IterAt.wr {w w' : World} {r b k : Nat} {L D : List ByteArray} {n : Nat} {cur : Option ByteArray} (h : IterAt w r b L D n cur) (e : Wr k w w') (h1 : b ≠ k) (h2 : r ≠ k) : IterAt w' r b L D n cur := h.of (e.block b h1) (e.block r h2)
theorem wr_drew (k : Nat) (w : World) : Wr k w w.drew := ⟨rfl, rfl, rfl, rfl, fun _ _ => rfl⟩
section
variable {P : Program} {KK : Value → World → Prop} {S : Fr} {w : World} {KW : World → Prop} {K3 : Value → Prop}
theorem K.lkpS {b : Nat} {L : List ByteArray} {x : ByteArray} {t} (h : SetAt w b L) (hk : K3 (.bool (decide (x ∈ L)))) : LkpVCh .string (.bool false) false (.map (some b)) (.string x) w K3 t := by
  obtain ⟨es, r, h1, h2, h3⟩ := h.look x
  exact K.lkp h1 h2 (by rw [h3]; exact hk)
theorem K.mupS {b : Nat} {L : List ByteArray} {x : ByteArray} {t} (h : SetAt w b L) (hk : ∀ w1, Wr b w w1 → SetAt w1 b (L ++ [x]) → KW w1) : MupVCh .string (.map (some b)) (.string x) (.bool true) w KW t := by
  obtain ⟨es, c, q, h1, h2, h3⟩ := h.put x
  exact K.mup h1 h2 (hk _ (Wr.setO w b _) (h3 _ (setO_same (lt_of_heap h1))))
theorem K.rngM {b : Nat} {L : List ByteArray} {x : Operand} {t' k e ty : TypeId} {t} (hx : ev S x = .map (some b)) (ht : P.underlying t' = some (.map k e)) (h : SetAt w b L)
    (hk : ∀ w1 r n, w.heap.size ≤ r → Ext w w1 → IterAt w1 r b L [] n none → KK (.pointer (some ⟨r, 0, none⟩)) w1) : RawVCh P (.range t' x) ty S w KK t := by
  obtain ⟨es, c, h1, h2⟩ := h
  have hrun := run_range_map (P := P) w t' k e b es c ht h1
  refine K.raw (v := .pointer (some ⟨w.heap.size, 0, none⟩)) (w' := w.alloc (.mapIter (some b) c #[] c)) (by simp [execOp, hx, hrun, Result.andThen]) ?_
  refine hk _ _ _ (Nat.le_refl _) ((Ext.refl w).alloc _) ⟨es, c, c, #[], c, heap_alloc_old h1, h2, heap_alloc_new w _, h2.born, Nat.le_refl _, Nat.le_refl _, rfl, ?_, ?_, ?_⟩
  · intro e _ h
    simp at h
  · intro x hx
    cases hx
  · intro x hx
    cases hx
theorem K.nxtM {r b n : Nat} {L D : List ByteArray} {cur : Option ByteArray} {x : Operand} {ty : TypeId} {t} (hx : ev S x = .pointer (some ⟨r, 0, none⟩)) (h : IterAt w r b L D n cur)
    (h0 : (∀ y ∈ L, y ∈ D) → KK (.tuple #[.bool false]) w)
    (h1 : ∀ y w1 n', y ∈ L → n' < n → Wr r w w1 → IterAt w1 r b L (D ++ [y]) n' (some y) → KK (.tuple #[.bool true, .string y, .bool true]) w1) : RawVCh P (.next x false) ty S w KK t := by
  have hne := h.ne
  obtain ⟨es, c, since, seen, c0, hb, hm, hr, hold, hsc, hsk, hn, hD, hDL, _⟩ := h
  rcases run_next_at (P := P) w ty r b since c0 seen es c hr hb hold hsc with ⟨hz, hrun⟩ | ⟨e, he, w1, hal, hrun⟩
  · refine K.raw (v := .tuple #[.bool false]) (w' := w) (by simp [execOp, hx, hrun, Result.andThen]) (h0 fun y hy => ?_)
    obtain ⟨e, he, hk⟩ := hm.of_mem y hy
    obtain ⟨z, hz1, hz2⟩ := hD e he (all_seen es seen hz e he)
    rw [hk] at hz2
    injection hz2 with hz2
    rw [hz2]; exact hz1
  · obtain ⟨hem, hes⟩ := mem_left he
    obtain ⟨y, hy, hk, hv⟩ := hm.mem e hem
    have hw1 : Wr r w w1 := by
      rcases hal with rfl | rfl
      · exact Wr.refl _ _
      · exact wr_drew r w
    have hsz : w1.heap.size = w.heap.size := hw1.size
    have hrl : r < w1.heap.size := by rw [hsz]; exact lt_of_heap hr
    have hset : Go.ChangeMaps.setBlock w1 r (.mapIter (some b) since (seen.push e.born) c) = Lite.setO w1 r (.mapIter (some b) since (seen.push e.born) c) := rfl
    rw [hset] at hrun
    refine K.raw (v := .tuple #[.bool true, e.key, e.val]) (w' := setO w1 r (.mapIter (some b) since (seen.push e.born) c)) (by simp [execOp, hx, hrun, Result.andThen]) ?_
    rw [hk, hv]
    refine h1 y _ _ hy (Nat.lt_of_lt_of_eq (left_shrinks es seen e he) hn) (hw1.trans (Wr.setO _ _ _)) ⟨es, c, since, seen.push e.born, c, ?_, hm, setO_same hrl, hold, hsk, hsk, rfl, fun f hf hc => ?_, fun z hz => ?_, fun z hz => ?_⟩
    · rw [setO_ne (Ne.symm hne)]
      rcases hal with rfl | rfl <;> exact hb
    · rw [contains_push] at hc
      rcases Bool.or_eq_true_iff.1 hc with hc | hc
      · obtain ⟨x, hx1, hx2⟩ := hD f hf hc
        exact ⟨x, by simp [hx1], hx2⟩
      · have hbe : f.born = e.born := by simpa using hc
        have h5 := find_born f es.toList hm.nodup hf
        rw [hbe, find_born e es.toList hm.nodup hem] at h5
        injection h5 with h5
        have : f = e := h5.symm
        subst this
        exact ⟨y, by simp, hk⟩
    · rcases List.mem_append.1 hz with hz | hz
      · exact hDL z hz
      · simp only [List.mem_singleton] at hz; subst hz; exact hy
    · injection hz with hz
      subst hz
      exact ⟨seen, e, rfl, rfl, hem, hk, hv⟩
theorem K.entM {r b n : Nat} {L D : List ByteArray} {y : ByteArray} {x : Operand} {ty : TypeId} {t} (hx : ev S x = .pointer (some ⟨r, 0, none⟩)) (h : IterAt w r b L D n (some y))
    (hk : KK (.tuple #[.string y, .bool true]) w) : RawVCh P (.entry x) ty S w KK t := by
  obtain ⟨es, c, since, seen, c0, hb, hm, hr, hold, hsc, hsk, hn, hD, hDL, hc⟩ := h
  obtain ⟨seen0, e, rfl, rfl, he, hk1, hk2⟩ := hc y rfl
  have hrun : (Instr.entry (.pointer (some ⟨r, 0, none⟩))).run P w = .ok (.tuple #[e.key, e.val]) w := run_entry_at w r b since seen0 es c0 e hr hb he hm.nodup
  refine K.raw (v := .tuple #[e.key, e.val]) (w' := w) (by simp [execOp, hx, hrun, Result.andThen]) ?_
  rw [hk1, hk2]
  exact hk
end
end Lite
end
section
/- Whole models: what throws. -/
set_option maxRecDepth 4000
namespace Go.Proofs.YtpaahhleopalaaaGreatDoor
open Go Go.RowKit Lite
/-- What is thrown of a fault. -/
def thrown (f : Abs.Fault) : List PanicEntry := [{ v := .iface T.model_thrown (.agg #[.int .i64 f.why, .int .i64 f.part, .int .i64 f.item, .int .i64 f.sub]), recovered := false }]
theorem throw_r (e p i s : Int) (w : World) : RetT Tryz.prog F.model_throw #[.int .i64 e, .int .i64 p, .int .i64 i, .int .i64 s] w (fun _ w' => e = 0 ∧ w' = w) (fun c w' => e ≠ 0 ∧ c = thrown ⟨e, p, i, s⟩ ∧ w' = w) := by
  refine K.startT hmix E.model_throw (args := [_, _, _, _]) (Nat.le_of_ble_eq_true rfl) ?_; dsimp only [C.model_throw]; refine Yy ?_
  refine Sg ?_
  refine K.cond (fun g => ?_) (fun g => ?_)
  · refine Sg ?_
    exact ⟨g, by first | trivial | rfl⟩
  · refine Sg ?_
    exact ⟨g, by first | trivial | rfl, by first | trivial | rfl⟩
theorem take_r (b : Nat) (L : List ByteArray) (x : ByteArray) (p i : Int) (w : World) (h : SetAt w b L) : RetT Tryz.prog F.model_take #[.map (some b), .string x, .int .i64 p, .int .i64 i] w
    (fun _ w' => ¬ x ∈ L ∧ Wr b w w' ∧ SetAt w' b (L ++ [x])) (fun c w' => x ∈ L ∧ c = thrown ⟨7, p, i, 0⟩ ∧ w' = w) := by
  refine K.startT hmix E.model_take (args := [_, _, _, _]) (Nat.le_of_ble_eq_true rfl) ?_; dsimp only [C.model_take]; refine Yy ?_
  refine Sg ?_
  refine K.lkpS h ?_
  refine Sg ?_
  refine K.cond (fun g => ?_) (fun g => ?_)
  · refine Sg ?_
    refine K.thr (throw_r 7 p i 0 w) ?_ ?_
    · rintro _ _ ⟨h0, _⟩
      exact absurd h0 (by decide)
    · rintro c _ ⟨_, rfl, rfl⟩
      refine Sg ?_
      exact ⟨g, by first | trivial | rfl, by first | trivial | rfl⟩
  · refine Sg ?_
    refine K.mupS h fun w1 hw h1 => ?_
    refine Sg ?_
    exact ⟨g, hw, h1⟩
end Go.Proofs.YtpaahhleopalaaaGreatDoor
end
section
/- Whole models: scalars, variables, channels. -/
set_option maxRecDepth 4000
set_option maxHeartbeats 6400000
namespace Go.Proofs.YtpaahhleopalaaaGreatDoor
open Go Go.RowKit Lite
/-- The names that are taken lie in block bt; a model in box b1. -/
structure TakSt (w0 w : World) (bt b1 : Nat) (cs : List Value) (w' : World) (L : List ByteArray) : Prop where
  ext : Ext w0 w'
  mod : Mod (fun k => k = bt) w w'
  box : w'.heap[b1]? = some (.cells cs.toArray T.api_Model)
  set : SetAt w' bt L
  low : w0.heap.size ≤ bt
  ne : b1 ≠ bt
section
variable {w0 w w' w'' : World} {bt b1 : Nat} {cs : List Value} {L L' : List ByteArray}
theorem TakSt.then (h : TakSt w0 w bt b1 cs w' L) (he : Ext w' w'') : TakSt w0 w bt b1 cs w'' L := ⟨h.ext.trans he, h.mod.trans he.mod, he.obj h.box, h.set.ext he, h.low, h.ne⟩
theorem TakSt.wr (h : TakSt w0 w bt b1 cs w' L) (hw : Wr bt w' w'') (hs : SetAt w'' bt L') : TakSt w0 w bt b1 cs w'' L' := ⟨hw.ext h.ext h.low, h.mod.trans (hw.mod rfl), hw.obj h.box h.ne, hs, h.low, h.ne⟩
theorem TakSt.re (h : TakSt w0 w bt b1 cs w' L) (e : L = L') : TakSt w0 w bt b1 cs w' L' := e ▸ h
end
theorem globals_r {w0 : World} (cs : List Value) (m : Abs.Model) (bt : Nat) (w : World) (h : Abs.ModelIs w0 cs m) (e0 : Ext w0 w) (hbt : w0.heap.size ≤ bt) (ho : OwnIs w0) (hs : SetAt w bt []) :
    RetT Tryz.prog F.model_globals #[.agg cs.toArray, .map (some bt)] w (fun _ w' => (Abs.data m).why = 0 ∧ Ext w0 w' ∧ Mod (fun k => k = bt) w w' ∧ SetAt w' bt (Abs.nSVC m m.chans.length))
      (fun c w' => (Abs.data m).why ≠ 0 ∧ c = thrown (Abs.data m) ∧ Ext w0 w' ∧ Mod (fun k => k = bt) w w') := by
  obtain ⟨o0, c0, o1, c1, o2, c2, o3, c3, o4, c4, rfl, h0, h1, h2, h3, h4, l0, l1, l2, l3, l4⟩ := h.form
  refine K.startT hmix E.model_globals (args := [_, _]) (Nat.le_of_ble_eq_true rfl) ?_; dsimp only [C.model_globals]; refine Yy ?_
  refine Sg ?_
  intro w1 b1 hb1 he1 hc1
  have st1 : TakSt w0 w bt b1 _ w1 [] := ⟨e0.trans he1, he1.mod, hc1, hs.ext he1, hbt, by have := hs.lt; omega⟩
  clear hs
  refine Sg ?_
  refine K.call (scalars_r _ m.scalars w1 (ho.ext st1.ext) (h0.ext st1.ext)) ?_
  rintro _ w2 ⟨rfl, he2⟩
  replace st1 := st1.then he2
  clear hc1
  refine Sg ?_
  refine K.thr (throw_r (Abs.scalars m.scalars).2 1 (Abs.scalars m.scalars).1 0 w2) ?_ ?_
  rotate_left
  · rintro c _ ⟨g, rfl, rfl⟩
    refine Sg ?_
    rw [Abs.data_s g]
    exact ⟨g, rfl, st1.ext, st1.mod⟩
  rintro _ _ ⟨hS, rfl⟩
  have hc1 := st1.box
  refine Sg ?_
  refine K.forG 24 m.scalars.length [1, 2, 22, 23] (fun _ : Unit => []) () (fun k _ w' => TakSt w0 w bt b1 _ w' ((m.scalars.take k).map (·.name))) hZq hZq (st1.re (by simp)) ?_
  clear hc1 he2 st1
  rintro k _ S w3 hk st3
  have hc1 := st3.box
  have e3 := st3.ext
  refine Sg ?_
  refine K.cond (fun g1 => ?_) (fun g1 => ?_)
  · have hk' : k < m.scalars.length := by omega
    obtain ⟨a, rfl⟩ := h0.addr (by omega)
    refine Sg ?_
    intro w4 b3 hb3 he4 hc3
    have st4 := st3.then he4
    refine Sg ?_
    refine K.mupS st4.set fun w5 hw hs5 => ?_
    refine Sg ?_
    exact ⟨hk', by first | trivial | rfl, (), trivial, (st4.wr hw hs5).re (Abs.take_snocN _ _ hk').symm⟩
  replace st3 := st3.re (show _ = Abs.nSV m 0 by rw [List.take_of_length_le (by omega)]; simp)
  refine Sg ?_
  refine K.call (vars_r _ _ m.vars m.scalars 12 w3 (ho.ext e3) (h1.ext e3) (h0.ext e3)) ?_
  rintro _ w4 ⟨rfl, he4⟩
  replace st3 := st3.then he4
  clear hc1 e3
  have hc1 := st3.box
  rw [Abs.vars_eq]
  refine Sg ?_
  refine K.forG 43 m.vars.length [1, 2, 4, 5, 41, 42] (fun _ : Unit => []) () (fun k _ w' => TakSt w0 w bt b1 _ w' (Abs.nSV m k) ∧ ∀ j, j < k → Abs.evar m j = 0) hZq hZq ⟨st3, fun j h => absurd h (Nat.not_lt_zero _)⟩ ?_
  clear hc1 st3 he4
  rintro k _ S' w5 hk ⟨st5, hz⟩
  have hc1 := st5.box
  have e5 := st5.ext
  refine Sg ?_
  refine K.cond (fun g1 => ?_) (fun g1 => ?_)
  · have hk' : k < m.vars.length := by omega
    obtain ⟨a, rfl⟩ := h1.addr (by omega)
    have hnm := Abs.nameAt_get (f := fun x : Abs.Var => x.name) hk'
    refine Sg ?_
    intro wN b9 hb9 heN hcN
    refine Su ?_
    intro w6 hw6 hc6
    have he6 := hw6.ext heN hb9
    have st6 := st5.then he6
    replace hc1 := st6.box
    clear hcN heN
    refine Su ?_
    refine K.cutG [1, 2, 4, 5, 8, 9, 41, 42, 43] (fun _ : Unit => []) (fun _ w' => w' = w6 ∧ Abs.verr m k = 0) ?_ ?_
    · refine Sg ?_
      refine K.cond (fun g2 => ?_) (fun g2 => ?_)
      · refine Sg ?_
        refine K.thr (throw_r (Abs.first m.vars.length (Abs.verr m)).2 2 k 0 w6) ?_ ?_
        · rintro _ _ ⟨h00, rfl⟩
          refine Sg ?_
          exact ⟨(), trivial, by first | trivial | rfl, Abs.first_zero h00 k hk'⟩
        · rintro c _ ⟨h00, rfl, rfl⟩
          obtain ⟨i, hi, e1, e2⟩ := Abs.first_lt h00
          obtain rfl : k = i := by omega
          rw [e2] at h00
          have hev : Abs.evar m k = Abs.verr m k := by unfold Abs.evar; rw [if_pos h00]
          have hd := Abs.data_v hS hk' hz (by rw [hev]; exact h00)
          rw [hev] at hd
          refine Sg ?_
          rw [hd, e2]
          exact ⟨h00, by first | trivial | rfl, st6.ext, st6.mod⟩
      · refine Sg ?_
        refine ⟨(), trivial, by first | trivial | rfl, ?_⟩
        apply Classical.byContradiction
        intro hne
        apply g2
        rw [Abs.first_stop hk' (fun j hj => Abs.verr_of (hz j hj)) hne]
    rintro _ S2 _ ⟨rfl, hv0⟩
    refine Sg ?_
    refine K.thr (take_r bt (Abs.nSV m k) m.vars[k].name 2 k _ st6.set) ?_ ?_
    · rintro _ w7 ⟨hn, hw7, hs7⟩
      refine Sg ?_
      refine ⟨hk', by first | trivial | rfl, (), trivial, (st6.wr hw7 hs7).re (by simp only [Abs.nSV, Abs.nV]; rw [Abs.take_snocN (fun x : Abs.Var => x.name) _ hk', List.append_assoc]), fun j hj => ?_⟩
      by_cases hjk : j = k
      · subst hjk
        unfold Abs.evar
        rw [if_neg (by simpa using hv0), hnm, if_neg hn]
      · exact hz j (by omega)
    · rintro c _ ⟨hn, rfl, rfl⟩
      have hev : Abs.evar m k = 7 := by unfold Abs.evar; rw [if_neg (by simpa using hv0), hnm, if_pos hn]
      have hd := Abs.data_v hS hk' hz (by rw [hev]; decide)
      rw [hev] at hd
      refine Sg ?_
      rw [hd]
      exact ⟨(show (7 : Int) ≠ 0 by decide), by first | trivial | rfl, st6.ext, st6.mod⟩
  have hkv : m.vars.length ≤ k := by omega
  have hV : ∀ j, j < m.vars.length → Abs.evar m j = 0 := fun j hj => hz j (by omega)
  replace st5 := st5.re (show _ = Abs.nSVC m 0 by simp only [Abs.nSVC, Abs.nSV, Abs.nV, Abs.nC]; rw [List.take_of_length_le hkv]; simp)
  refine Sg ?_
  refine K.call (chans_r _ _ m.chans m.scalars w5 (ho.ext e5) (h2.ext e5) (h0.ext e5)) ?_
  rintro _ w6 ⟨rfl, he6⟩
  replace st5 := st5.then he6
  clear hc1 e5
  have hc1 := st5.box
  rw [Abs.chans_eq]
  refine Sg ?_
  refine K.forG 71 m.chans.length [1, 2, 4, 5, 69, 70] (fun _ : Unit => []) () (fun k _ w' => TakSt w0 w bt b1 _ w' (Abs.nSVC m k) ∧ ∀ j, j < k → Abs.echan m j = 0) hZq hZq ⟨st5, fun j h => absurd h (Nat.not_lt_zero _)⟩ ?_
  clear hc1 st5 he6
  rintro k _ S' w7 hk ⟨st7, hz⟩
  have hc1 := st7.box
  have e7 := st7.ext
  refine Sg ?_
  refine K.cond (fun g1 => ?_) (fun g1 => ?_)
  · have hk' : k < m.chans.length := by omega
    obtain ⟨a, rfl⟩ := h2.addr (by omega)
    have hnm := Abs.nameAt_get (f := fun x : Abs.Chan => x.name) hk'
    refine Sg ?_
    intro wN b9 hb9 heN hcN
    refine Su ?_
    intro w6 hw6 hc6
    have he6 := hw6.ext heN hb9
    have st6 := st7.then he6
    replace hc1 := st6.box
    clear hcN heN
    refine Su ?_
    refine K.cutG [1, 2, 4, 5, 10, 11, 69, 70, 71] (fun _ : Unit => []) (fun _ w' => w' = w6 ∧ Abs.cerr m k = 0) ?_ ?_
    · refine Sg ?_
      refine K.cond (fun g2 => ?_) (fun g2 => ?_)
      · refine Sg ?_
        refine K.thr (throw_r (Abs.first m.chans.length (Abs.cerr m)).2 3 k 0 w6) ?_ ?_
        · rintro _ _ ⟨h00, rfl⟩
          refine Sg ?_
          exact ⟨(), trivial, by first | trivial | rfl, Abs.first_zero h00 k hk'⟩
        · rintro c _ ⟨h00, rfl, rfl⟩
          obtain ⟨i, hi, e1, e2⟩ := Abs.first_lt h00
          obtain rfl : k = i := by omega
          rw [e2] at h00
          have hev : Abs.echan m k = Abs.cerr m k := by unfold Abs.echan; rw [if_pos h00]
          have hd := Abs.data_c hS hV hk' hz (by rw [hev]; exact h00)
          rw [hev] at hd
          refine Sg ?_
          rw [hd, e2]
          exact ⟨h00, by first | trivial | rfl, st6.ext, st6.mod⟩
      · refine Sg ?_
        refine ⟨(), trivial, by first | trivial | rfl, ?_⟩
        apply Classical.byContradiction
        intro hne
        apply g2
        rw [Abs.first_stop hk' (fun j hj => Abs.cerr_of (hz j hj)) hne]
    rintro _ S2 _ ⟨rfl, hv0⟩
    refine Sg ?_
    refine K.thr (take_r bt (Abs.nSVC m k) m.chans[k].name 3 k _ st6.set) ?_ ?_
    · rintro _ w7 ⟨hn, hw7, hs7⟩
      refine Sg ?_
      refine ⟨hk', by first | trivial | rfl, (), trivial, (st6.wr hw7 hs7).re (by simp only [Abs.nSVC, Abs.nC]; rw [Abs.take_snocN (fun x : Abs.Chan => x.name) _ hk', List.append_assoc]), fun j hj => ?_⟩
      by_cases hjk : j = k
      · subst hjk
        unfold Abs.echan
        rw [if_neg (by simpa using hv0), hnm, if_neg hn]
      · exact hz j (by omega)
    · rintro c _ ⟨hn, rfl, rfl⟩
      have hev : Abs.echan m k = 7 := by unfold Abs.echan; rw [if_neg (by simpa using hv0), hnm, if_pos hn]
      have hd := Abs.data_c hS hV hk' hz (by rw [hev]; decide)
      rw [hev] at hd
      refine Sg ?_
      rw [hd]
      exact ⟨(show (7 : Int) ≠ 0 by decide), by first | trivial | rfl, st6.ext, st6.mod⟩
  have hkc : m.chans.length ≤ k := by omega
  refine Sg ?_
  refine ⟨by rw [Abs.data_0 hS hV fun j hj => hz j (by omega)]; rfl, st7.ext, st7.mod, (st7.re ?_).set⟩
  simp only [Abs.nSVC, Abs.nC]
  rw [List.take_of_length_le hkc, List.take_of_length_le (Nat.le_refl _)]
end Go.Proofs.YtpaahhleopalaaaGreatDoor
end
