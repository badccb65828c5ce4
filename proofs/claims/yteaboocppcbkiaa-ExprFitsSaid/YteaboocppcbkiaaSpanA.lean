/- Where parts begin: the program. -/
import Derived.Test.YteaboocppcbkiaaSpanP
import Derived.Test.YteaboocppcbkiaaExprT
set_option linter.all false
set_option maxRecDepth 4000
set_option linter.unusedSimpArgs false
set_option maxHeartbeats 1600000
namespace Lite
open Go Go.RowKit
theorem zeros1 (v : Value) (n : Nat) : zeros #[v] n = (List.replicate n v).toArray := by
  apply Array.ext
  · simp [zeros]
  · intro i h1 h2
    simp [zeros, Nat.mod_one]
/-- A new row of so many zeros. -/
theorem K.mkSa {e : TypeId} {bytes : Nat} {z v : Value} {k q : IntKind} {n : Nat} {w : World} {KK : Value → World → Prop} {t} (hz : z.cells = #[v]) (hn : n ≤ 9223372036854775807) (hb : (bytes : Int) * (n : Int) ≤ 281474976710656)
    (hk : ∀ w1 b, w.heap.size ≤ b → Ext w w1 → w1.heap[b]? = some (.cells (List.replicate n v).toArray e) → KK (.slice (some ⟨b, 0, none⟩) n n) w1) : MkSVCh e 1 bytes z (.int k (n : Int)) (.int q (n : Int)) w KK t := by
  refine K.mkS ⟨by omega, by omega, by omega, hb⟩ ?_
  rw [hz, zeros1]
  simp only [Int.toNat_natCast, Nat.mul_one]
  exact hk _ _ (Nat.le_refl _) ((Ext.refl w).alloc _) (heap_alloc_new w _)
theorem set_fill (f : Int → Value) (out : List Int) (n : Nat) (v : Int) (h : out.length < n) :
    ((out ++ List.replicate (n - out.length) 0).map f).set out.length (f v) = ((out ++ [v]) ++ List.replicate (n - (out.length + 1)) 0).map f := by
  obtain ⟨m, hm⟩ : ∃ m, n - out.length = m + 1 := ⟨n - out.length - 1, by omega⟩
  rw [hm, show n - (out.length + 1) = m from by omega]
  simp only [List.map_append, List.replicate_succ, List.map_cons, List.append_assoc, List.map_nil]
  rw [List.set_append_right _ _ (by simp)]
  simp
theorem set_again (f : Int → Value) (out : List Int) (r : List Int) (u v : Int) : (((out ++ [u]) ++ r).map f).set out.length (f v) = (((out ++ [v]) ++ r).map f) := by
  simp only [List.map_append, List.map_cons, List.map_nil, List.append_assoc]
  rw [List.set_append_right _ _ (by simp)]
  simp
end Lite
theorem Lite.map_flat (l : List Int) : l.map (Go.Value.int .i64) = l.flatMap fun n => [Go.Value.int .i64 n] := by
  induction l with
  | nil => rfl
  | cons a l ih => simp only [List.map_cons, List.flatMap_cons, ih]; rfl
namespace Go.Proofs.Yteaboocppcbkiaa
open Go Go.RowKit Lite
theorem spans_r (ve : Value) (e : List Abs.Node) (w : World) (he : Abs.Nodes w ve e) (hlen : e.length ≤ 300) :
    Ret Try.prog F.expr_Spans #[ve] w fun v w' => (∃ sv, v = .tuple #[sv, .bool (Abs.spans e).2] ∧ Ints w' sv (Abs.spans e).1) ∧ Ext w w' := by
  obtain ⟨oa, cap, rfl, _⟩ := he.form
  refine K.start hmix E.expr_Spans (args := [_]) (Nat.le_of_ble_eq_true rfl) ?_
  dsimp only [C.expr_Spans,yt,yi,yb,yp,yr,ye,yc,yv,yg,ym,yw,ya,yl,yx,ys,yn]
  (repeat' first
 | assumption
 | exact Ext.refl _
 | refine Ext.trans ?_ (by assumption)
 | refine K.wrap (by omega) ?_
 | refine K.ldb (by assumption) ?_ rfl ?_
 | refine K.ldb0 (by assumption) ?_ rfl ?_
 | refine K.ldE (by assumption) ?_ (by omega) rfl ?_
 | refine K.ldE0 (by assumption) ?_ (by omega) rfl ?_
 | refine K.ldAE (by assumption) ?_ (by omega) rfl ?_
 | refine K.iaC (by omega) ?_
 | refine K.condT (by first | assumption | omega) ?_
 | refine K.condF (by first | assumption | omega) ?_
 | refine K.condbT (by assumption) ?_
 | refine K.condbF (by assumption) ?_
 | simp -dsimp only [LL,B9,Nat.reduceAdd,Nat.reduceEqDiff,reduceIte,reduceCtorEq,Bool.false_eq_true])
  refine K.call (ops_r w) ?_
  rintro m w1 ⟨hops, he1⟩
  (repeat' first
 | assumption
 | exact Ext.refl _
 | refine Ext.trans ?_ (by assumption)
 | refine K.wrap (by omega) ?_
 | refine K.ldb (by assumption) ?_ rfl ?_
 | refine K.ldb0 (by assumption) ?_ rfl ?_
 | refine K.ldE (by assumption) ?_ (by omega) rfl ?_
 | refine K.ldE0 (by assumption) ?_ (by omega) rfl ?_
 | refine K.ldAE (by assumption) ?_ (by omega) rfl ?_
 | refine K.iaC (by omega) ?_
 | refine K.condT (by first | assumption | omega) ?_
 | refine K.condF (by first | assumption | omega) ?_
 | refine K.condbT (by assumption) ?_
 | refine K.condbF (by assumption) ?_
 | simp -dsimp only [LL,B9,Nat.reduceAdd,Nat.reduceEqDiff,reduceIte,reduceCtorEq,Bool.false_eq_true])
  refine K.mkSa (v := .int .i64 0) rfl (by omega) (by omega) fun w2 bo hbo he2 hc2 => ?_
  have hq2 := lt_of_heap hc2
  have hops2 := hops.ext he2
  have he02 := he1.trans he2
  have hz1 := he1.size
  have hc2' : w2.heap[bo]? = some (.cells ((([] : List Int) ++ List.replicate (e.length - 0) (0 : Int)).map (Value.int .i64)).toArray T.int) := by simpa using hc2
  clear hc2
  (repeat' first
 | assumption
 | exact Ext.refl _
 | refine Ext.trans ?_ (by assumption)
 | refine K.wrap (by omega) ?_
 | refine K.ldb (by assumption) ?_ rfl ?_
 | refine K.ldb0 (by assumption) ?_ rfl ?_
 | refine K.ldE (by assumption) ?_ (by omega) rfl ?_
 | refine K.ldE0 (by assumption) ?_ (by omega) rfl ?_
 | refine K.ldAE (by assumption) ?_ (by omega) rfl ?_
 | refine K.iaC (by omega) ?_
 | refine K.condT (by first | assumption | omega) ?_
 | refine K.condF (by first | assumption | omega) ?_
 | refine K.condbT (by assumption) ?_
 | refine K.condbF (by assumption) ?_
 | simp -dsimp only [LL,B9,Nat.reduceAdd,Nat.reduceEqDiff,reduceIte,reduceCtorEq,Bool.false_eq_true])
  refine K.for1 16 e.length (fun k S w' => ∃ v5 st out, S 5 = v5 ∧ OwnI w2.heap.size w' v5 st ∧ Abs.spAll (e.take k) ([], []) = some (st, out) ∧ out.length = k ∧ st.length ≤ k ∧
      w'.heap[bo]? = some (.cells ((out ++ List.replicate (e.length - k) 0).map (Value.int .i64)).toArray T.int) ∧ Mod (fun q => q = bo) w2 w')
    (by simp -dsimp only [LL,B9,Nat.reduceAdd,Nat.reduceEqDiff,reduceIte,reduceCtorEq,Bool.false_eq_true]) ⟨.slice none 0 0, [], [], by simp -dsimp only [LL,B9,Nat.reduceAdd,Nat.reduceEqDiff,reduceIte,reduceCtorEq,Bool.false_eq_true], OwR.nil _ _ _ _ _, by simp [Abs.spAll], rfl, by simp, hc2', Mod.refl _ _⟩ ?_
  rintro k S w3 hS hk h16 ⟨v5, st, out, h5, hown, hall, hol, hsl, hc3, hmod⟩
  have h0 := hS 0 rfl; have h4 := hS 4 rfl; have h6 := hS 6 rfl; have h14 := hS 14 rfl; have h15 := hS 15 rfl; simp only [upd_at, Nat.reduceAdd, Nat.reduceEqDiff, reduceIte, fr0_cons, fr0_nil] at h0 h4 h6 h14 h15; clear hS
  obtain ⟨o5, c5, rfl, hcp, hm5⟩ := hown.form
  unfold maxLen at hm5
  have h03 : Ext w w3 := hmod.ext he02 (by intro q hq e; omega)
  have z3 := hmod.size
  (repeat' first
 | assumption
 | exact Ext.refl _
 | refine Ext.trans ?_ (by assumption)
 | refine K.wrap (by omega) ?_
 | refine K.ldb (by assumption) ?_ rfl ?_
 | refine K.ldb0 (by assumption) ?_ rfl ?_
 | refine K.ldE (by assumption) ?_ (by omega) rfl ?_
 | refine K.ldE0 (by assumption) ?_ (by omega) rfl ?_
 | refine K.ldAE (by assumption) ?_ (by omega) rfl ?_
 | refine K.iaC (by omega) ?_
 | refine K.condT (by first | assumption | omega) ?_
 | refine K.condF (by first | assumption | omega) ?_
 | refine K.condbT (by assumption) ?_
 | refine K.condbF (by assumption) ?_
 | simp -dsimp only [LL,B9,Nat.reduceAdd,Nat.reduceEqDiff,reduceIte,reduceCtorEq,Bool.false_eq_true,h0, h4, h5, h6, h14, h15, h16])
  refine K.cond (fun g1 => ?_) (fun g1 => ?_)
  rotate_left
  · have hk' : k = e.length := by omega
    subst hk'
    rw [List.take_length] at hall
    rw [Nat.sub_self] at hc3
    have hsp : Abs.spans e = if st.length = 1 then (out, true) else ([], false) := by rw [Abs.spans, hall]
    rw [hsp]
    (repeat' first
 | assumption
 | exact Ext.refl _
 | refine Ext.trans ?_ (by assumption)
 | refine K.wrap (by omega) ?_
 | refine K.ldb (by assumption) ?_ rfl ?_
 | refine K.ldb0 (by assumption) ?_ rfl ?_
 | refine K.ldE (by assumption) ?_ (by omega) rfl ?_
 | refine K.ldE0 (by assumption) ?_ (by omega) rfl ?_
 | refine K.ldAE (by assumption) ?_ (by omega) rfl ?_
 | refine K.iaC (by omega) ?_
 | refine K.condT (by first | assumption | omega) ?_
 | refine K.condF (by first | assumption | omega) ?_
 | refine K.condbT (by assumption) ?_
 | refine K.condbF (by assumption) ?_
 | simp -dsimp only [LL,B9,Nat.reduceAdd,Nat.reduceEqDiff,reduceIte,reduceCtorEq,Bool.false_eq_true,h0, h4, h5, h6, h14, h15, h16])
    refine K.cond (fun g2 => ?_) (fun g2 => ?_)
    · rw [if_pos (by omega)]
      (repeat' first
 | assumption
 | exact Ext.refl _
 | refine Ext.trans ?_ (by assumption)
 | refine K.wrap (by omega) ?_
 | refine K.ldb (by assumption) ?_ rfl ?_
 | refine K.ldb0 (by assumption) ?_ rfl ?_
 | refine K.ldE (by assumption) ?_ (by omega) rfl ?_
 | refine K.ldE0 (by assumption) ?_ (by omega) rfl ?_
 | refine K.ldAE (by assumption) ?_ (by omega) rfl ?_
 | refine K.iaC (by omega) ?_
 | refine K.condT (by first | assumption | omega) ?_
 | refine K.condF (by first | assumption | omega) ?_
 | refine K.condbT (by assumption) ?_
 | refine K.condbF (by assumption) ?_
 | simp -dsimp only [LL,B9,Nat.reduceAdd,Nat.reduceEqDiff,reduceIte,reduceCtorEq,Bool.false_eq_true,h6])
      refine ⟨⟨_, rfl, ?_⟩, h03⟩
      refine Ints.blk (e := T.int) (f := (0, 0)) (xs := out) ?_ hol.symm (by rw [hol]; unfold maxLen; omega)
      rw [hc3, List.replicate_zero, List.append_nil, map_flat]
    · rw [if_neg (by omega)]
      (repeat' first
 | assumption
 | exact Ext.refl _
 | refine Ext.trans ?_ (by assumption)
 | refine K.wrap (by omega) ?_
 | refine K.ldb (by assumption) ?_ rfl ?_
 | refine K.ldb0 (by assumption) ?_ rfl ?_
 | refine K.ldE (by assumption) ?_ (by omega) rfl ?_
 | refine K.ldE0 (by assumption) ?_ (by omega) rfl ?_
 | refine K.ldAE (by assumption) ?_ (by omega) rfl ?_
 | refine K.iaC (by omega) ?_
 | refine K.condT (by first | assumption | omega) ?_
 | refine K.condF (by first | assumption | omega) ?_
 | refine K.condbT (by assumption) ?_
 | refine K.condbF (by assumption) ?_
 | simp -dsimp only [LL,B9,Nat.reduceAdd,Nat.reduceEqDiff,reduceIte,reduceCtorEq,Bool.false_eq_true])
      exact ⟨⟨_, rfl, SlR.nil⟩, h03⟩
  have hk' : k < e.length := by omega
  obtain ⟨a, rfl⟩ := he.addr (by omega)
  have hst := Abs.spAll_step hk' hall
  have hstop := fun h => Abs.spAll_stop hk' hall h
  have hops3 : OpsIs w3 m := hops2.mod (A := fun q => q = bo) hmod fun q o h1 h2 hk => by
    subst hk
    rw [hc2'] at h1
    injection h1 with h1
    rcases h2 with ⟨es, c, h2⟩ | ⟨cs, h2⟩
    · rw [h2] at h1; cases h1
    · rw [h2] at h1
      injection h1 with _ h1
      cases h1
  (repeat' first
 | assumption
 | exact Ext.refl _
 | refine Ext.trans ?_ (by assumption)
 | refine K.wrap (by omega) ?_
 | refine K.ldb (by assumption) ?_ rfl ?_
 | refine K.ldb0 (by assumption) ?_ rfl ?_
 | refine K.ldE (by assumption) ?_ (by omega) rfl ?_
 | refine K.ldE0 (by assumption) ?_ (by omega) rfl ?_
 | refine K.ldAE (by assumption) ?_ (by omega) rfl ?_
 | refine K.iaC (by omega) ?_
 | refine K.condT (by first | assumption | omega) ?_
 | refine K.condF (by first | assumption | omega) ?_
 | refine K.condbT (by assumption) ?_
 | refine K.condbF (by assumption) ?_
 | simp -dsimp only [LL,B9,Nat.reduceAdd,Nat.reduceEqDiff,reduceIte,reduceCtorEq,Bool.false_eq_true,h0, h4, h5, h6, h14, h15, h16])
  refine K.new fun w4 b4 hb4 he4 hc4 => ?_
  (repeat' first
 | assumption
 | exact Ext.refl _
 | refine Ext.trans ?_ (by assumption)
 | refine K.wrap (by omega) ?_
 | refine K.ldb (by assumption) ?_ rfl ?_
 | refine K.ldb0 (by assumption) ?_ rfl ?_
 | refine K.ldE (by assumption) ?_ (by omega) rfl ?_
 | refine K.ldE0 (by assumption) ?_ (by omega) rfl ?_
 | refine K.ldAE (by assumption) ?_ (by omega) rfl ?_
 | refine K.iaC (by omega) ?_
 | refine K.condT (by first | assumption | omega) ?_
 | refine K.condF (by first | assumption | omega) ?_
 | refine K.condbT (by assumption) ?_
 | refine K.condbF (by assumption) ?_
 | simp -dsimp only [LL,B9,Nat.reduceAdd,Nat.reduceEqDiff,reduceIte,reduceCtorEq,Bool.false_eq_true,h0, h4, h5, h6, h14, h15, h16])
  refine K.stAb (cs := e[k].enc.toArray) hc4 rfl rfl (by simp [Abs.Node.enc, Value.oneCell']) fun w5 hw5 hc5 => ?_
  have he5 : Ext w3 w5 := hw5.ext he4 hb4
  clear hw5 he4 hc4
  have k5 : w5.heap[b4]? = some (.cells #[.int .i64 e[k].op, .int .i64 e[k].n] T.api_Node) := hc5
  (repeat' first
 | assumption
 | exact Ext.refl _
 | refine Ext.trans ?_ (by assumption)
 | refine K.wrap (by omega) ?_
 | refine K.ldb (by assumption) ?_ rfl ?_
 | refine K.ldb0 (by assumption) ?_ rfl ?_
 | refine K.ldE (by assumption) ?_ (by omega) rfl ?_
 | refine K.ldE0 (by assumption) ?_ (by omega) rfl ?_
 | refine K.ldAE (by assumption) ?_ (by omega) rfl ?_
 | refine K.iaC (by omega) ?_
 | refine K.condT (by first | assumption | omega) ?_
 | refine K.condF (by first | assumption | omega) ?_
 | refine K.condbT (by assumption) ?_
 | refine K.condbF (by assumption) ?_
 | simp -dsimp only [LL,B9,Nat.reduceAdd,Nat.reduceEqDiff,reduceIte,reduceCtorEq,Bool.false_eq_true,h0, h4, h5, h6, h14, h15, h16])
  refine K.call (parts_r e[k].op m w5 (hops3.ext he5)) ?_
  rintro _ w6 ⟨rfl, he6⟩
  have he36 := he5.trans he6
  generalize hn : Abs.nparts e[k].op = n at *
  have hn2 : -1 ≤ n ∧ n ≤ 2 := by rw [← hn]; unfold Abs.nparts; (repeat' split) <;> omega
  (repeat' first
 | assumption
 | exact Ext.refl _
 | refine Ext.trans ?_ (by assumption)
 | refine K.wrap (by omega) ?_
 | refine K.ldb (by assumption) ?_ rfl ?_
 | refine K.ldb0 (by assumption) ?_ rfl ?_
 | refine K.ldE (by assumption) ?_ (by omega) rfl ?_
 | refine K.ldE0 (by assumption) ?_ (by omega) rfl ?_
 | refine K.ldAE (by assumption) ?_ (by omega) rfl ?_
 | refine K.iaC (by omega) ?_
 | refine K.condT (by first | assumption | omega) ?_
 | refine K.condF (by first | assumption | omega) ?_
 | refine K.condbT (by assumption) ?_
 | refine K.condbF (by assumption) ?_
 | simp -dsimp only [LL,B9,Nat.reduceAdd,Nat.reduceEqDiff,reduceIte,reduceCtorEq,Bool.false_eq_true,h0, h4, h5, h6, h14, h15, h16])
  have hbad : (n < 0 ∨ (st.length : Int) < n) → Abs.spans e = ([], false) := fun h => hstop (by unfold Abs.spStep; rw [hn, if_pos h])
  refine K.cond (fun g2 => ?_) (fun g2 => ?_)
  · rw [hbad (.inl g2)]
    (repeat' first
 | assumption
 | exact Ext.refl _
 | refine Ext.trans ?_ (by assumption)
 | refine K.wrap (by omega) ?_
 | refine K.ldb (by assumption) ?_ rfl ?_
 | refine K.ldb0 (by assumption) ?_ rfl ?_
 | refine K.ldE (by assumption) ?_ (by omega) rfl ?_
 | refine K.ldE0 (by assumption) ?_ (by omega) rfl ?_
 | refine K.ldAE (by assumption) ?_ (by omega) rfl ?_
 | refine K.iaC (by omega) ?_
 | refine K.condT (by first | assumption | omega) ?_
 | refine K.condF (by first | assumption | omega) ?_
 | refine K.condbT (by assumption) ?_
 | refine K.condbF (by assumption) ?_
 | simp -dsimp only [LL,B9,Nat.reduceAdd,Nat.reduceEqDiff,reduceIte,reduceCtorEq,Bool.false_eq_true])
    exact ⟨⟨_, rfl, SlR.nil⟩, h03.trans he36⟩
  (repeat' first
 | assumption
 | exact Ext.refl _
 | refine Ext.trans ?_ (by assumption)
 | refine K.wrap (by omega) ?_
 | refine K.ldb (by assumption) ?_ rfl ?_
 | refine K.ldb0 (by assumption) ?_ rfl ?_
 | refine K.ldE (by assumption) ?_ (by omega) rfl ?_
 | refine K.ldE0 (by assumption) ?_ (by omega) rfl ?_
 | refine K.ldAE (by assumption) ?_ (by omega) rfl ?_
 | refine K.iaC (by omega) ?_
 | refine K.condT (by first | assumption | omega) ?_
 | refine K.condF (by first | assumption | omega) ?_
 | refine K.condbT (by assumption) ?_
 | refine K.condbF (by assumption) ?_
 | simp -dsimp only [LL,B9,Nat.reduceAdd,Nat.reduceEqDiff,reduceIte,reduceCtorEq,Bool.false_eq_true,h0, h4, h5, h6, h14, h15, h16])
  refine K.cond (fun g3 => ?_) (fun g3 => ?_)
  · rw [hbad (.inr g3)]
    (repeat' first
 | assumption
 | exact Ext.refl _
 | refine Ext.trans ?_ (by assumption)
 | refine K.wrap (by omega) ?_
 | refine K.ldb (by assumption) ?_ rfl ?_
 | refine K.ldb0 (by assumption) ?_ rfl ?_
 | refine K.ldE (by assumption) ?_ (by omega) rfl ?_
 | refine K.ldE0 (by assumption) ?_ (by omega) rfl ?_
 | refine K.ldAE (by assumption) ?_ (by omega) rfl ?_
 | refine K.iaC (by omega) ?_
 | refine K.condT (by first | assumption | omega) ?_
 | refine K.condF (by first | assumption | omega) ?_
 | refine K.condbT (by assumption) ?_
 | refine K.condbF (by assumption) ?_
 | simp -dsimp only [LL,B9,Nat.reduceAdd,Nat.reduceEqDiff,reduceIte,reduceCtorEq,Bool.false_eq_true])
    exact ⟨⟨_, rfl, SlR.nil⟩, h03.trans he36⟩
  obtain ⟨p, rfl⟩ := Int.eq_ofNat_of_zero_le (show 0 ≤ n by omega)
  have hgood : Abs.spStep e[k] (st, out) = some (st.take (st.length - p) ++ [Abs.spVal e[k] (st, out)], out ++ [Abs.spVal e[k] (st, out)]) := by
    unfold Abs.spStep; rw [hn, if_neg (show ¬ ((p : Int) < 0 ∨ (st.length : Int) < p) by omega)]; simp only [Int.toNat_natCast]
  rw [hgood] at hst
  have hc6 := he36.obj hc3
  have hbo : bo < w3.heap.size := lt_of_heap hc3
  have ho6 := hown.ext he36
  have hset : ∀ (r : List Int) (u v : Int) (w' : World) (hj : k * 1 < (((out ++ [u]) ++ r).map (Value.int .i64)).toArray.size),
      ((((out ++ [u]) ++ r).map (Value.int .i64)).toArray.set (k * 1) (.int .i64 v) hj) = (((out ++ [v]) ++ r).map (Value.int .i64)).toArray := by
    intro r u v w' hj
    rw [List.set_toArray]
    congr 1
    rw [Nat.mul_one, ← hol]
    exact set_again _ out r u v
  (repeat' first
 | assumption
 | exact Ext.refl _
 | refine Ext.trans ?_ (by assumption)
 | refine K.wrap (by omega) ?_
 | refine K.ldb (by assumption) ?_ rfl ?_
 | refine K.ldb0 (by assumption) ?_ rfl ?_
 | refine K.ldE (by assumption) ?_ (by omega) rfl ?_
 | refine K.ldE0 (by assumption) ?_ (by omega) rfl ?_
 | refine K.ldAE (by assumption) ?_ (by omega) rfl ?_
 | refine K.iaC (by omega) ?_
 | refine K.condT (by first | assumption | omega) ?_
 | refine K.condF (by first | assumption | omega) ?_
 | refine K.condbT (by assumption) ?_
 | refine K.condbF (by assumption) ?_
 | simp -dsimp only [LL,Nat.reduceAdd,Nat.reduceEqDiff,reduceIte,reduceCtorEq,Bool.false_eq_true,h0, h4, h5, h6, h14, h15, h16])
  simp -dsimp only [B9]
  (repeat' first
 | assumption
 | exact Ext.refl _
 | refine Ext.trans ?_ (by assumption)
 | refine K.wrap (by omega) ?_
 | refine K.ldb (by assumption) ?_ rfl ?_
 | refine K.ldb0 (by assumption) ?_ rfl ?_
 | refine K.ldE (by assumption) ?_ (by omega) rfl ?_
 | refine K.ldE0 (by assumption) ?_ (by omega) rfl ?_
 | refine K.ldAE (by assumption) ?_ (by omega) rfl ?_
 | refine K.iaC (by omega) ?_
 | refine K.condT (by first | assumption | omega) ?_
 | refine K.condF (by first | assumption | omega) ?_
 | refine K.condbT (by assumption) ?_
 | refine K.condbF (by assumption) ?_
 | simp -dsimp only [LL,Nat.reduceAdd,Nat.reduceEqDiff,reduceIte,reduceCtorEq,Bool.false_eq_true,h0, h4, h5, h6, h14, h15, h16])
  have hj0 : k * 1 < ((out ++ List.replicate (e.length - k) 0).map (Value.int .i64)).toArray.size := by simp; omega
  refine K.st1 hc6 hj0 rfl fun w7 hw7 hc7 => ?_
  have hc7' : w7.heap[bo]? = some (.cells (((out ++ [(k : Int)]) ++ List.replicate (e.length - (k + 1)) 0).map (Value.int .i64)).toArray T.int) := by
    rw [hc7, List.set_toArray]
    congr 3
    have h := set_fill (Value.int .i64) out e.length (k : Int) (by omega)
    rw [hol] at h
    rw [Nat.mul_one]
    exact h
  clear hc7
  have hm7 : Mod (fun q => q = bo) w3 w7 := he36.mod.trans (hw7.mod rfl)
  have ho7 := ho6.wr hw7 (by omega)
  (repeat' first
 | assumption
 | exact Ext.refl _
 | refine Ext.trans ?_ (by assumption)
 | refine K.wrap (by omega) ?_
 | refine K.ldb (by assumption) ?_ rfl ?_
 | refine K.ldb0 (by assumption) ?_ rfl ?_
 | refine K.ldE (by assumption) ?_ (by omega) rfl ?_
 | refine K.ldE0 (by assumption) ?_ (by omega) rfl ?_
 | refine K.ldAE (by assumption) ?_ (by omega) rfl ?_
 | refine K.iaC (by omega) ?_
 | refine K.condT (by first | assumption | omega) ?_
 | refine K.condF (by first | assumption | omega) ?_
 | refine K.condbT (by assumption) ?_
 | refine K.condbF (by assumption) ?_
 | simp -dsimp only [LL,Nat.reduceAdd,Nat.reduceEqDiff,reduceIte,reduceCtorEq,Bool.false_eq_true,h0, h4, h5, h6, h14, h15, h16])
  refine K.cut (fun S' w' => w'.heap[bo]? = some (.cells (((out ++ [Abs.spVal e[k] (st, out)]) ++ List.replicate (e.length - (k + 1)) 0).map (Value.int .i64)).toArray T.int) ∧ Mod (fun q => q = bo) w3 w' ∧ OwnI w2.heap.size w' (.slice o5 st.length c5) st) ?_ ?_
  · have hval : Abs.spVal e[k] (st, out) = if 0 < p then (st[st.length - p]?).getD 0 else (k : Int) := by
      unfold Abs.spVal
      rw [hn]
      simp only [Int.toNat_natCast, hol]
      by_cases hp : 0 < p
      · rw [if_pos hp, if_pos (by omega)]
      · rw [if_neg hp, if_neg (by omega)]
    rw [hval]
    (repeat' first
 | assumption
 | exact Ext.refl _
 | refine Ext.trans ?_ (by assumption)
 | refine K.wrap (by omega) ?_
 | refine K.ldb (by assumption) ?_ rfl ?_
 | refine K.ldb0 (by assumption) ?_ rfl ?_
 | refine K.ldE (by assumption) ?_ (by omega) rfl ?_
 | refine K.ldE0 (by assumption) ?_ (by omega) rfl ?_
 | refine K.ldAE (by assumption) ?_ (by omega) rfl ?_
 | refine K.iaC (by omega) ?_
 | refine K.condT (by first | assumption | omega) ?_
 | refine K.condF (by first | assumption | omega) ?_
 | refine K.condbT (by assumption) ?_
 | refine K.condbF (by assumption) ?_
 | simp -dsimp only [LL,B9,Nat.reduceAdd,Nat.reduceEqDiff,reduceIte,reduceCtorEq,Bool.false_eq_true,h0, h4, h5, h6, h14, h15, h16])
    refine K.cond (fun g4 => ?_) (fun g4 => ?_)
    rotate_left
    · (repeat' first
 | assumption
 | exact Ext.refl _
 | refine Ext.trans ?_ (by assumption)
 | refine K.wrap (by omega) ?_
 | refine K.ldb (by assumption) ?_ rfl ?_
 | refine K.ldb0 (by assumption) ?_ rfl ?_
 | refine K.ldE (by assumption) ?_ (by omega) rfl ?_
 | refine K.ldE0 (by assumption) ?_ (by omega) rfl ?_
 | refine K.ldAE (by assumption) ?_ (by omega) rfl ?_
 | refine K.iaC (by omega) ?_
 | refine K.condT (by first | assumption | omega) ?_
 | refine K.condF (by first | assumption | omega) ?_
 | refine K.condbT (by assumption) ?_
 | refine K.condbF (by assumption) ?_
 | simp -dsimp only [LL,B9,Nat.reduceAdd,Nat.reduceEqDiff,reduceIte,reduceCtorEq,Bool.false_eq_true])
      rw [if_neg (by omega)]
      exact ⟨hc7', hm7, ho7⟩
    have hi7 : Ints w7 _ st := OwR.slr (enc := encI) (sz := 1) (fun _ => rfl) ho7
    obtain ⟨a5, rfl⟩ := hi7.addr (by omega)
    rw [if_pos (by omega), List.getElem?_eq_getElem (show st.length - p < st.length by omega)]
    (repeat' first
 | assumption
 | exact Ext.refl _
 | refine Ext.trans ?_ (by assumption)
 | refine K.wrap (by omega) ?_
 | refine K.ldb (by assumption) ?_ rfl ?_
 | refine K.ldb0 (by assumption) ?_ rfl ?_
 | refine K.ldE (by assumption) ?_ (by omega) rfl ?_
 | refine K.ldE0 (by assumption) ?_ (by omega) rfl ?_
 | refine K.ldAE (by assumption) ?_ (by omega) rfl ?_
 | refine K.iaC (by omega) ?_
 | refine K.condT (by first | assumption | omega) ?_
 | refine K.condF (by first | assumption | omega) ?_
 | refine K.condbT (by assumption) ?_
 | refine K.condbF (by assumption) ?_
 | simp -dsimp only [LL,B9,Nat.reduceAdd,Nat.reduceEqDiff,reduceIte,reduceCtorEq,Bool.false_eq_true,h0, h4, h5, h6, h14, h15, h16])
    refine K.ian (st.length - p) (by omega) (by omega) ?_
    (repeat' first
 | assumption
 | exact Ext.refl _
 | refine Ext.trans ?_ (by assumption)
 | refine K.wrap (by omega) ?_
 | refine K.ldb (by assumption) ?_ rfl ?_
 | refine K.ldb0 (by assumption) ?_ rfl ?_
 | refine K.ldE (by assumption) ?_ (by omega) rfl ?_
 | refine K.ldE0 (by assumption) ?_ (by omega) rfl ?_
 | refine K.ldAE (by assumption) ?_ (by omega) rfl ?_
 | refine K.iaC (by omega) ?_
 | refine K.condT (by first | assumption | omega) ?_
 | refine K.condF (by first | assumption | omega) ?_
 | refine K.condbT (by assumption) ?_
 | refine K.condbF (by assumption) ?_
 | simp -dsimp only [LL,B9,Nat.reduceAdd,Nat.reduceEqDiff,reduceIte,reduceCtorEq,Bool.false_eq_true,h0, h4, h5, h6, h14, h15, h16])
    refine K.st1 hc7' (by simp; omega) rfl fun w8 hw8 hc8 => ?_
    rw [hset _ _ _ w8] at hc8
    (repeat' first
 | assumption
 | exact Ext.refl _
 | refine Ext.trans ?_ (by assumption)
 | refine K.wrap (by omega) ?_
 | refine K.ldb (by assumption) ?_ rfl ?_
 | refine K.ldb0 (by assumption) ?_ rfl ?_
 | refine K.ldE (by assumption) ?_ (by omega) rfl ?_
 | refine K.ldE0 (by assumption) ?_ (by omega) rfl ?_
 | refine K.ldAE (by assumption) ?_ (by omega) rfl ?_
 | refine K.iaC (by omega) ?_
 | refine K.condT (by first | assumption | omega) ?_
 | refine K.condF (by first | assumption | omega) ?_
 | refine K.condbT (by assumption) ?_
 | refine K.condbF (by assumption) ?_
 | simp -dsimp only [LL,B9,Nat.reduceAdd,Nat.reduceEqDiff,reduceIte,reduceCtorEq,Bool.false_eq_true])
    exact ⟨hc8, hm7.trans (hw8.mod rfl), ho7.wr hw8 (by omega)⟩
  · rintro S' w8 hS' ⟨hc8, hm8, ho8⟩
    have u5 := hS' 5 rfl; have u6 := hS' 6 rfl; have u7 := hS' 7 rfl; have u9 := hS' 9 rfl; have u16 := hS' 16 rfl
    simp -dsimp only [LL,B9,Nat.reduceAdd,Nat.reduceEqDiff,reduceIte,reduceCtorEq,Bool.false_eq_true,h5, h6, h16] at u5 u6 u7 u9 u16
    have hol2 : (out ++ [Abs.spVal e[k] (st, out)]).length = k + 1 := by simp [hol]
    generalize Abs.spVal e[k] (st, out) = z at *
    (repeat' first
 | assumption
 | exact Ext.refl _
 | refine Ext.trans ?_ (by assumption)
 | refine K.wrap (by omega) ?_
 | refine K.ldb (by assumption) ?_ rfl ?_
 | refine K.ldb0 (by assumption) ?_ rfl ?_
 | refine K.ldE (by assumption) ?_ (by omega) rfl ?_
 | refine K.ldE0 (by assumption) ?_ (by omega) rfl ?_
 | refine K.ldAE (by assumption) ?_ (by omega) rfl ?_
 | refine K.iaC (by omega) ?_
 | refine K.condT (by first | assumption | omega) ?_
 | refine K.condF (by first | assumption | omega) ?_
 | refine K.condbT (by assumption) ?_
 | refine K.condbF (by assumption) ?_
 | simp -dsimp only [LL,B9,Nat.reduceAdd,Nat.reduceEqDiff,reduceIte,reduceCtorEq,Bool.false_eq_true,u5, u6, u7, u9, u16])
    intro w9 he9
    (repeat' first
 | assumption
 | exact Ext.refl _
 | refine Ext.trans ?_ (by assumption)
 | refine K.wrap (by omega) ?_
 | refine K.ldb (by assumption) ?_ rfl ?_
 | refine K.ldb0 (by assumption) ?_ rfl ?_
 | refine K.ldE (by assumption) ?_ (by omega) rfl ?_
 | refine K.ldE0 (by assumption) ?_ (by omega) rfl ?_
 | refine K.ldAE (by assumption) ?_ (by omega) rfl ?_
 | refine K.iaC (by omega) ?_
 | refine K.condT (by first | assumption | omega) ?_
 | refine K.condF (by first | assumption | omega) ?_
 | refine K.condbT (by assumption) ?_
 | refine K.condbF (by assumption) ?_
 | simp -dsimp only [LL,B9,Nat.reduceAdd,Nat.reduceEqDiff,reduceIte,reduceCtorEq,Bool.false_eq_true,u5, u6, u7, u9, u16])
    refine K.slcT (st.length - p) (by simp -dsimp only [LL,B9,Nat.reduceAdd,Nat.reduceEqDiff,reduceIte,reduceCtorEq,Bool.false_eq_true,u5, u9]; rw [Int.ofNat_sub (by omega)]) (by omega) ?_
    (repeat' first
 | assumption
 | exact Ext.refl _
 | refine Ext.trans ?_ (by assumption)
 | refine K.wrap (by omega) ?_
 | refine K.ldb (by assumption) ?_ rfl ?_
 | refine K.ldb0 (by assumption) ?_ rfl ?_
 | refine K.ldE (by assumption) ?_ (by omega) rfl ?_
 | refine K.ldE0 (by assumption) ?_ (by omega) rfl ?_
 | refine K.ldAE (by assumption) ?_ (by omega) rfl ?_
 | refine K.iaC (by omega) ?_
 | refine K.condT (by first | assumption | omega) ?_
 | refine K.condF (by first | assumption | omega) ?_
 | refine K.condbT (by assumption) ?_
 | refine K.condbF (by assumption) ?_
 | simp -dsimp only [LL,B9,Nat.reduceAdd,Nat.reduceEqDiff,reduceIte,reduceCtorEq,Bool.false_eq_true,u5, u6, u7, u9, u16])
    have hrd : w9.cell? (Addr.add ⟨bo, 0, none⟩ (k * 1)) = some (.int .i64 z) := cell_blk (he9.obj hc8) (by
      rw [Nat.mul_one, List.getElem?_toArray, List.getElem?_map, List.getElem?_append_left (by omega), List.getElem?_append_right (by omega), hol]
      simp)
    refine K.ld hrd ?_
    (repeat' first
 | assumption
 | exact Ext.refl _
 | refine Ext.trans ?_ (by assumption)
 | refine K.wrap (by omega) ?_
 | refine K.ldb (by assumption) ?_ rfl ?_
 | refine K.ldb0 (by assumption) ?_ rfl ?_
 | refine K.ldE (by assumption) ?_ (by omega) rfl ?_
 | refine K.ldE0 (by assumption) ?_ (by omega) rfl ?_
 | refine K.ldAE (by assumption) ?_ (by omega) rfl ?_
 | refine K.iaC (by omega) ?_
 | refine K.condT (by first | assumption | omega) ?_
 | refine K.condF (by first | assumption | omega) ?_
 | refine K.condbT (by assumption) ?_
 | refine K.condbF (by assumption) ?_
 | simp -dsimp only [LL,B9,Nat.reduceAdd,Nat.reduceEqDiff,reduceIte,reduceCtorEq,Bool.false_eq_true,u5, u6, u7, u9, u16])
    refine K.bldSa (cs := [z].flatMap encI) (by simp [List.range, List.range.loop, fillC, lay, ev_tmp, upd_at, Value.cells, encI]) fun w10 b10 hb10 he10 hc10 => ?_
    have he8 := he9.trans he10
    have ho10 : OwnI w2.heap.size w10 (.slice o5 (st.length - p) c5) (st.take (st.length - p)) := OwR.head (enc := encI) (sz := 1) (xs := st) (fun _ => rfl) (ho8.ext he8) (st.length - p) (Nat.sub_le _ _)
    have hlt : (st.take (st.length - p)).length = st.length - p := by simp [List.length_take]
    have z8 := hm8.size
    have z9 := he8.size
    (repeat' first
 | assumption
 | exact Ext.refl _
 | refine Ext.trans ?_ (by assumption)
 | refine K.wrap (by omega) ?_
 | refine K.ldb (by assumption) ?_ rfl ?_
 | refine K.ldb0 (by assumption) ?_ rfl ?_
 | refine K.ldE (by assumption) ?_ (by omega) rfl ?_
 | refine K.ldE0 (by assumption) ?_ (by omega) rfl ?_
 | refine K.ldAE (by assumption) ?_ (by omega) rfl ?_
 | refine K.iaC (by omega) ?_
 | refine K.condT (by first | assumption | omega) ?_
 | refine K.condF (by first | assumption | omega) ?_
 | refine K.condbT (by assumption) ?_
 | refine K.condbF (by assumption) ?_
 | simp -dsimp only [LL,B9,Nat.reduceAdd,Nat.reduceEqDiff,reduceIte,reduceCtorEq,Bool.false_eq_true,u5, u6, u7, u9, u16])
    refine K.appO (xs := st.take (st.length - p)) (ys := [z]) ho10 (fun _ => rfl) (cellsAt_blk hc10) rfl encI1 (by rw [hlt]; simp only [List.length_cons, List.length_nil]; omega) (by rw [hlt]; simp only [List.length_cons, List.length_nil, maxLen]; omega) (by omega) fun v11 w11 ho11 hg11 => ?_
    have hc11 : w11.heap[bo]? = some (.cells (((out ++ [z]) ++ List.replicate (e.length - (k + 1)) 0).map (Value.int .i64)).toArray T.int) := by
      have h0 := he8.obj hc8
      refine (hg11.block bo (lt_of_heap h0) fun e => ?_).trans h0
      have := (ho10.lt bo e.symm).1
      omega
    have hm11 : Mod (fun q => q = bo) w2 w11 := by
      refine (hmod.trans hm8).then ((he8.mod (A := fun q => q = bo ∨ w2.heap.size ≤ q)).trans (Mod.grown hg11 fun q hq => .inr (ho10.lt q hq).1)) fun q hq h => ?_
      rcases h with h | h
      · exact h
      · omega
    (repeat' first
 | assumption
 | exact Ext.refl _
 | refine Ext.trans ?_ (by assumption)
 | refine K.wrap (by omega) ?_
 | refine K.ldb (by assumption) ?_ rfl ?_
 | refine K.ldb0 (by assumption) ?_ rfl ?_
 | refine K.ldE (by assumption) ?_ (by omega) rfl ?_
 | refine K.ldE0 (by assumption) ?_ (by omega) rfl ?_
 | refine K.ldAE (by assumption) ?_ (by omega) rfl ?_
 | refine K.iaC (by omega) ?_
 | refine K.condT (by first | assumption | omega) ?_
 | refine K.condF (by first | assumption | omega) ?_
 | refine K.condbT (by assumption) ?_
 | refine K.condbF (by assumption) ?_
 | simp -dsimp only [LL,B9,Nat.reduceAdd,Nat.reduceEqDiff,reduceIte,reduceCtorEq,Bool.false_eq_true,u5, u6, u7, u9, u16])
    refine ⟨hk', by first | trivial | rfl, _, _, _, rfl, ho11, hst, hol2, by simp [List.length_take]; omega, hc11, hm11⟩
end Go.Proofs.Yteaboocppcbkiaa
