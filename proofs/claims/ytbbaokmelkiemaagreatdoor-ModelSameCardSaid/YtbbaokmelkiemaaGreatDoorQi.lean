/- Texts joined: ExprE ExprF CmdA CmdB CmdQ CmdC ProcI ModE ModF. -/
import Derived.Test.YtbbaokmelkiemaaGreatDoorQc
import Derived.Test.YtbbaokmelkiemaaGreatDoorQd
import Derived.Test.YtbbaokmelkiemaaGreatDoorQf
import Derived.Test.YtbbaokmelkiemaaGreatDoorQh
set_option linter.all false
section
/- The machine: one step. -/
set_option maxRecDepth 4000
set_option linter.unusedSimpArgs false
set_option maxHeartbeats 4000000
namespace Go.Proofs.YtbbaokmelkiemaaGreatDoor
open Go Go.RowKit Lite

theorem K.qval {P : Program} {x : Value} {args : List Value} {w : World} {K3 : Value → Prop} {t} (v : Value) (h : ∀ w', Ext w w' → CallVh P x args w' (fun u w'' => u = v ∧ Ext w' w'') ⟨⟩) (hk : K3 v) : QValh P x args w K3 t := by
  unfold QValh
  refine ⟨v, fun w' he => ?_, hk⟩
  have := h w' he
  unfold CallVh at this
  obtain ⟨f, first, cap, e, hf, hr⟩ := this
  exact ⟨f, first, cap, e, hf, hr.mono fun _ _ ⟨h1, h2⟩ => ⟨h1, he.trans h2⟩⟩
theorem DoesR.ext {w w' : World} {v : Value} {g : Int → Int → Int × Bool} (he : Ext w w') (h : DoesR w v g) : DoesR w' v g := by
  rcases h with h | ⟨c, f, p, h1, h2, h3⟩
  · exact .inl h
  · exact .inr ⟨c, f, p, h1, he.obj h2, h3⟩
def stepRes (f : Abs.Node → List Int → Int × Int) (two : Abs.OpD → List Int → Int × Int) (leaf : Abs.Node → List Int → Int × Int) : Prop :=
  ∀ x st, f x st = match Abs.opOf x.op with | some o => two o (st.drop (st.length - o.parts.toNat)) | none => leaf x st
theorem nparts_op {x : Int} {o : Abs.OpD} (h : Abs.opOf x = some o) : 1 ≤ o.parts ∧ o.parts ≤ 2 := by
  unfold Abs.opOf at h
  repeat' split at h
  all_goals first | (cases h; exact ⟨by decide, by decide⟩) | cases h
theorem step_r (f : Abs.Node → List Int → Int × Int) (two : Abs.OpD → List Int → Int × Int) (leaf : Abs.Node → List Int → Int × Int) (hf : stepRes f two leaf)
    (x : Abs.Node) (base b : Nat) (w : World) (m vl v2 : Value) (st : List Int) (hm : MachIs base b w m st) (ho : OpsIs w m) (h24 : st.length ≤ 24)
    (hleaf : 0 ≤ Abs.nparts x.op → Abs.nparts x.op ≤ st.length → Abs.opOf x.op = none → ∀ w' KK t, Ext w w' → (∀ w'', Ext w' w'' → KK (.tuple #[.int .i64 (leaf x st).1, .int .i64 (leaf x st).2]) w'') → CallYh Tryz.prog vl [.agg x.enc.toArray] w' KK t)
    (htwo : ∀ o ov lv w' KK t, Ext w w' → Abs.opOf x.op = some o → OpV w' o ov → o.parts ≤ st.length → Ints w' lv (st.drop (st.length - o.parts.toNat)) →
      (∀ w'', Ext w' w'' → KK (.tuple #[.int .i64 (two o (st.drop (st.length - o.parts.toNat))).1, .int .i64 (two o (st.drop (st.length - o.parts.toNat))).2]) w'') → CallVh Tryz.prog v2 [ov, lv] w' KK t) :
    Ret Tryz.prog F.p_expr_machine_step #[.pointer (some ⟨b, 0, none⟩), .agg x.enc.toArray, vl, v2] w fun v w' =>
      v = .int .i64 (Abs.stepG f x st).1 ∧ Mod (fun k => k = b ∨ base ≤ k) w w' ∧ ((Abs.stepG f x st).1 = 0 → MachIs base b w' m (Abs.stepG f x st).2) := by
  obtain ⟨sv, hh, hown⟩ := hm.ex
  obtain ⟨oa, cap, rfl, hcp, hml⟩ := hown.form
  have hi : Ints w _ st := OwR.slr (enc := encI) (sz := 1) (fun _ => rfl) hown
  unfold maxLen at hml
  refine K.start hmix E.p_expr_machine_step (args := [_, _, _, _]) (Nat.le_of_ble_eq_true rfl) ?_
  dsimp only [C.p_expr_machine_step,yt,yi,yb,yp,yr,ye,yc,yv,yg,ym,yw,ya,yl,yx,ys,yn]
  simp -dsimp only [B9]
  (repeat' first
 | assumption
 | exact Ext.refl _
 | refine Ext.trans ?_ (by assumption)
 | refine K.wrap (by omega) ?_
 | refine K.ldb (by assumption) ?_ rfl ?_
 | refine K.ldb0 (by assumption) ?_ rfl ?_
 | refine K.ldE (by assumption) ?_ (by omega) rfl ?_
 | refine K.ldE0 (by assumption) ?_ (by omega) rfl ?_
 | refine K.ldAE (by assumption) ?_ (by omega) rfl ?_
 | refine K.iaC (by omega) ?_
 | refine K.condT (by first | assumption | omega) ?_
 | refine K.condF (by first | assumption | omega) ?_
 | refine K.condbT (by assumption) ?_
 | refine K.condbF (by assumption) ?_
 | simp -dsimp only [LL,Nat.reduceAdd,Nat.reduceEqDiff,reduceIte,reduceCtorEq,Bool.false_eq_true])
  refine K.new fun w1 b1 hb1 he1 hc1 => ?_
  (repeat' first
 | assumption
 | exact Ext.refl _
 | refine Ext.trans ?_ (by assumption)
 | refine K.wrap (by omega) ?_
 | refine K.ldb (by assumption) ?_ rfl ?_
 | refine K.ldb0 (by assumption) ?_ rfl ?_
 | refine K.ldE (by assumption) ?_ (by omega) rfl ?_
 | refine K.ldE0 (by assumption) ?_ (by omega) rfl ?_
 | refine K.ldAE (by assumption) ?_ (by omega) rfl ?_
 | refine K.iaC (by omega) ?_
 | refine K.condT (by first | assumption | omega) ?_
 | refine K.condF (by first | assumption | omega) ?_
 | refine K.condbT (by assumption) ?_
 | refine K.condbF (by assumption) ?_
 | simp -dsimp only [LL,Nat.reduceAdd,Nat.reduceEqDiff,reduceIte,reduceCtorEq,Bool.false_eq_true])
  simp -dsimp only [B9]
  (repeat' first
 | assumption
 | exact Ext.refl _
 | refine Ext.trans ?_ (by assumption)
 | refine K.wrap (by omega) ?_
 | refine K.ldb (by assumption) ?_ rfl ?_
 | refine K.ldb0 (by assumption) ?_ rfl ?_
 | refine K.ldE (by assumption) ?_ (by omega) rfl ?_
 | refine K.ldE0 (by assumption) ?_ (by omega) rfl ?_
 | refine K.ldAE (by assumption) ?_ (by omega) rfl ?_
 | refine K.iaC (by omega) ?_
 | refine K.condT (by first | assumption | omega) ?_
 | refine K.condF (by first | assumption | omega) ?_
 | refine K.condbT (by assumption) ?_
 | refine K.condbF (by assumption) ?_
 | simp -dsimp only [LL,Nat.reduceAdd,Nat.reduceEqDiff,reduceIte,reduceCtorEq,Bool.false_eq_true])
  refine K.qfn _ (fun w' e => parts_r x.op m w' (ho.ext (he1.trans e))) ?_
  (repeat' first
 | assumption
 | exact Ext.refl _
 | refine Ext.trans ?_ (by assumption)
 | refine K.wrap (by omega) ?_
 | refine K.ldb (by assumption) ?_ rfl ?_
 | refine K.ldb0 (by assumption) ?_ rfl ?_
 | refine K.ldE (by assumption) ?_ (by omega) rfl ?_
 | refine K.ldE0 (by assumption) ?_ (by omega) rfl ?_
 | refine K.ldAE (by assumption) ?_ (by omega) rfl ?_
 | refine K.iaC (by omega) ?_
 | refine K.condT (by first | assumption | omega) ?_
 | refine K.condF (by first | assumption | omega) ?_
 | refine K.condbT (by assumption) ?_
 | refine K.condbF (by assumption) ?_
 | simp -dsimp only [LL,Nat.reduceAdd,Nat.reduceEqDiff,reduceIte,reduceCtorEq,Bool.false_eq_true])
  intro w2 he2
  have he12 := he1.trans he2
  (repeat' first
 | assumption
 | exact Ext.refl _
 | refine Ext.trans ?_ (by assumption)
 | refine K.wrap (by omega) ?_
 | refine K.ldb (by assumption) ?_ rfl ?_
 | refine K.ldb0 (by assumption) ?_ rfl ?_
 | refine K.ldE (by assumption) ?_ (by omega) rfl ?_
 | refine K.ldE0 (by assumption) ?_ (by omega) rfl ?_
 | refine K.ldAE (by assumption) ?_ (by omega) rfl ?_
 | refine K.iaC (by omega) ?_
 | refine K.condT (by first | assumption | omega) ?_
 | refine K.condF (by first | assumption | omega) ?_
 | refine K.condbT (by assumption) ?_
 | refine K.condbF (by assumption) ?_
 | simp -dsimp only [LL,Nat.reduceAdd,Nat.reduceEqDiff,reduceIte,reduceCtorEq,Bool.false_eq_true])
  simp -dsimp only [B9]
  generalize hn : Abs.nparts x.op = n
  have hn2 : -1 ≤ n ∧ n ≤ 2 := by rw [← hn]; unfold Abs.nparts; (repeat' split) <;> omega
  refine St ?_
  refine K.cond (fun g1 => ?_) (fun g1 => ?_)
  · refine St ?_
    have hs : Abs.stepG f x st = (3, st) := by unfold Abs.stepG; rw [hn, if_pos g1]
    rw [hs]
    exact ⟨rfl, he12.mod, fun h => by cases h⟩
  refine St ?_
  refine K.cond (fun g2 => ?_) (fun g2 => ?_)
  · refine St ?_
    have hs : Abs.stepG f x st = (4, st) := by unfold Abs.stepG; rw [hn, if_neg g1, if_pos g2]
    rw [hs]
    exact ⟨rfl, he12.mod, fun h => by cases h⟩
  (repeat' first
 | assumption
 | exact Ext.refl _
 | refine Ext.trans ?_ (by assumption)
 | refine K.wrap (by omega) ?_
 | refine K.ldb (by assumption) ?_ rfl ?_
 | refine K.ldb0 (by assumption) ?_ rfl ?_
 | refine K.ldE (by assumption) ?_ (by omega) rfl ?_
 | refine K.ldE0 (by assumption) ?_ (by omega) rfl ?_
 | refine K.ldAE (by assumption) ?_ (by omega) rfl ?_
 | refine K.iaC (by omega) ?_
 | refine K.condT (by first | assumption | omega) ?_
 | refine K.condF (by first | assumption | omega) ?_
 | refine K.condbT (by assumption) ?_
 | refine K.condbF (by assumption) ?_
 | simp -dsimp only [LL,Nat.reduceAdd,Nat.reduceEqDiff,reduceIte,reduceCtorEq,Bool.false_eq_true])
  simp -dsimp only [B9]
  (repeat' first
 | assumption
 | exact Ext.refl _
 | refine Ext.trans ?_ (by assumption)
 | refine K.wrap (by omega) ?_
 | refine K.ldb (by assumption) ?_ rfl ?_
 | refine K.ldb0 (by assumption) ?_ rfl ?_
 | refine K.ldE (by assumption) ?_ (by omega) rfl ?_
 | refine K.ldE0 (by assumption) ?_ (by omega) rfl ?_
 | refine K.ldAE (by assumption) ?_ (by omega) rfl ?_
 | refine K.iaC (by omega) ?_
 | refine K.condT (by first | assumption | omega) ?_
 | refine K.condF (by first | assumption | omega) ?_
 | refine K.condbT (by assumption) ?_
 | refine K.condbF (by assumption) ?_
 | simp -dsimp only [LL,Nat.reduceAdd,Nat.reduceEqDiff,reduceIte,reduceCtorEq,Bool.false_eq_true])
  simp -dsimp only [B9]
  (repeat' first
 | assumption
 | exact Ext.refl _
 | refine Ext.trans ?_ (by assumption)
 | refine K.wrap (by omega) ?_
 | refine K.ldb (by assumption) ?_ rfl ?_
 | refine K.ldb0 (by assumption) ?_ rfl ?_
 | refine K.ldE (by assumption) ?_ (by omega) rfl ?_
 | refine K.ldE0 (by assumption) ?_ (by omega) rfl ?_
 | refine K.ldAE (by assumption) ?_ (by omega) rfl ?_
 | refine K.iaC (by omega) ?_
 | refine K.condT (by first | assumption | omega) ?_
 | refine K.condF (by first | assumption | omega) ?_
 | refine K.condbT (by assumption) ?_
 | refine K.condbF (by assumption) ?_
 | simp -dsimp only [LL,Nat.reduceAdd,Nat.reduceEqDiff,reduceIte,reduceCtorEq,Bool.false_eq_true])
  have hsg : Abs.stepG f x st = if (f x st).2 ≠ 0 then ((f x st).2, st) else if (st.take (st.length - n.toNat) ++ [(f x st).1]).length > 12 then (12, st) else (0, st.take (st.length - n.toNat) ++ [(f x st).1]) := by
    unfold Abs.stepG; rw [hn, if_neg g1, if_neg g2]
  rw [hsg]
  clear hsg
  have hfx := hf x st
  generalize hr : f x st = r at hfx ⊢
  refine K.cut (fun S' w' => S' 0 = .pointer (some ⟨b, 0, none⟩) ∧ S' 9 = .int .i64 n ∧ S' 10 = .int .i64 r.1 ∧ S' 11 = .int .i64 r.2 ∧ Ext w w') ?_ ?_
  · refine St ?_
    intro w3 he3
    obtain ⟨es, q, j1, j2, j3⟩ := (ho.ext (he12.trans he3)).look x.op
    refine St ?_
    refine K.lkp j1 j2 ?_
    cases hop : Abs.opOf x.op with
    | none =>
      simp only [hop] at j3 hfx
      subst j3
      simp only [lkpV, Option.map_none, Option.getD_none, Option.isSome_none, if_true]
      refine St ?_
      refine K.new fun w4 b4 hb4 he4 hc4 => ?_
      refine ⟨he4, ?_⟩
      refine St ?_
      refine K.stAb (cs := #[.int .i64 0, .int .i64 0, .int .i64 0, .nilFunc]) hc4 rfl rfl (by simp [Value.oneCell']) fun w5 hw5 hc5 => ?_
      have he5 : Ext w3 w5 := hw5.ext he4 hb4
      clear hc4 hw5 he4
      refine St ?_
      refine K.ldAb (c := [_, _]) (he2.obj hc1) (by (repeat' first | assumption | exact Ext.refl _ | refine Ext.trans ?_ (by assumption))) rfl ?_
      refine St ?_
      refine hleaf (by omega) (by omega) hop _ _ _ ((he12.trans he3).trans he5) fun w6 he6 => ?_
      refine St ?_
      rw [hfx]
      exact ⟨trivial, trivial, rfl, rfl, ((he12.trans he3).trans he5).trans he6⟩
    | some o =>
      simp only [hop] at j3 hfx
      obtain ⟨i, ov, rfl, u, rfl, hd⟩ := j3
      obtain ⟨o1, o2⟩ := nparts_op hop
      have on := (Abs.opOf_parts hop).1
      simp only [lkpV, Option.map_some, Option.getD_some, Option.isSome_some, if_true]
      refine St ?_
      refine K.new fun w4 b4 hb4 he4 hc4 => ?_
      refine ⟨he4, ?_⟩
      refine St ?_
      refine K.stAb (cs := #[.int .i64 o.parts, .int .i64 o.takes, .int .i64 o.makes, u]) hc4 rfl rfl (by rcases hd with ⟨f, rfl, _⟩ | ⟨c, f, p, rfl, _⟩ <;> simp [Value.oneCell']) fun w5 hw5 hc5 => ?_
      have he5 : Ext w3 w5 := hw5.ext he4 hb4
      clear hc4 hw5 he4
      have he35 := (he12.trans he3).trans he5
      have hd5 : OpV w3 o (.agg #[.int .i64 o.parts, .int .i64 o.takes, .int .i64 o.makes, u]) := ⟨u, rfl, hd⟩
      obtain ⟨p, rfl⟩ := Int.eq_ofNat_of_zero_le (show 0 ≤ n by omega)
      have hp : o.parts.toNat = p := by omega
      refine St ?_
      refine K.ldAb (c := [_, _, _, _]) hc5 (Ext.refl _) rfl ?_
      refine St ?_
      refine K.slcD (st.length - p) (by simp -dsimp only [LL,B9,Nat.reduceAdd,Nat.reduceEqDiff,reduceIte,reduceCtorEq,Bool.false_eq_true]; rw [Int.ofNat_sub (by omega)]) ⟨by omega, by omega⟩ ?_
      have ht := hi.tail (st.length - p) (by omega)
      rw [hp] at hfx
      refine St ?_
      refine K.qval _ (fun w' e => htwo o _ _ w' _ _ (he35.trans e) hop ⟨u, rfl, hd.ext (he5.trans e)⟩ (by omega) (by rw [hp]; exact ht.ext Flat.ext (he35.trans e)) fun w'' e2 => ⟨rfl, e2⟩) ?_
      refine St ?_
      intro w6 he6
      refine St ?_
      rw [hfx, hp]
      exact ⟨trivial, trivial, rfl, rfl, he35.trans he6⟩
  · clear hc1 he1 he2 he12
    rintro S w3 hS ⟨s0, s9, s10, s11, he3⟩
    simp -dsimp only [B9]
    (repeat' first
 | assumption
 | exact Ext.refl _
 | refine Ext.trans ?_ (by assumption)
 | refine K.wrap (by omega) ?_
 | refine K.ldb (by assumption) ?_ rfl ?_
 | refine K.ldb0 (by assumption) ?_ rfl ?_
 | refine K.ldE (by assumption) ?_ (by omega) rfl ?_
 | refine K.ldE0 (by assumption) ?_ (by omega) rfl ?_
 | refine K.ldAE (by assumption) ?_ (by omega) rfl ?_
 | refine K.iaC (by omega) ?_
 | refine K.condT (by first | assumption | omega) ?_
 | refine K.condF (by first | assumption | omega) ?_
 | refine K.condbT (by assumption) ?_
 | refine K.condbF (by assumption) ?_
 | simp -dsimp only [LL,B9,Nat.reduceAdd,Nat.reduceEqDiff,reduceIte,reduceCtorEq,Bool.false_eq_true,s0, s9, s10, s11])
    refine K.cond (fun g3 => ?_) (fun g3 => ?_)
    rotate_left
    · (repeat' first
 | assumption
 | exact Ext.refl _
 | refine Ext.trans ?_ (by assumption)
 | refine K.wrap (by omega) ?_
 | refine K.ldb (by assumption) ?_ rfl ?_
 | refine K.ldb0 (by assumption) ?_ rfl ?_
 | refine K.ldE (by assumption) ?_ (by omega) rfl ?_
 | refine K.ldE0 (by assumption) ?_ (by omega) rfl ?_
 | refine K.ldAE (by assumption) ?_ (by omega) rfl ?_
 | refine K.iaC (by omega) ?_
 | refine K.condT (by first | assumption | omega) ?_
 | refine K.condF (by first | assumption | omega) ?_
 | refine K.condbT (by assumption) ?_
 | refine K.condbF (by assumption) ?_
 | simp -dsimp only [LL,B9,Nat.reduceAdd,Nat.reduceEqDiff,reduceIte,reduceCtorEq,Bool.false_eq_true,s11])
      rw [if_pos g3]
      exact ⟨rfl, he3.mod, fun h => absurd h g3⟩
    obtain ⟨p, rfl⟩ := Int.eq_ofNat_of_zero_le (show 0 ≤ n by omega)
    have g3' : ¬ r.2 ≠ 0 := by simpa using g3
    rw [if_neg g3']
    have hml : (st.take (st.length - p) ++ [r.1]).length = st.length - p + 1 := by simp [List.length_take]
    have hm3 := hm.ext he3
    have ho3 : OwnI base w3 (.slice oa st.length cap) st := hown.ext he3
    (repeat' first
 | assumption
 | exact Ext.refl _
 | refine Ext.trans ?_ (by assumption)
 | refine K.wrap (by omega) ?_
 | refine K.ldb (by assumption) ?_ rfl ?_
 | refine K.ldb0 (by assumption) ?_ rfl ?_
 | refine K.ldE (by assumption) ?_ (by omega) rfl ?_
 | refine K.ldE0 (by assumption) ?_ (by omega) rfl ?_
 | refine K.ldAE (by assumption) ?_ (by omega) rfl ?_
 | refine K.iaC (by omega) ?_
 | refine K.condT (by first | assumption | omega) ?_
 | refine K.condF (by first | assumption | omega) ?_
 | refine K.condbT (by assumption) ?_
 | refine K.condbF (by assumption) ?_
 | simp -dsimp only [LL,Nat.reduceAdd,Nat.reduceEqDiff,reduceIte,reduceCtorEq,Bool.false_eq_true])
    simp -dsimp only [B9]
    (repeat' first
 | assumption
 | exact Ext.refl _
 | refine Ext.trans ?_ (by assumption)
 | refine K.wrap (by omega) ?_
 | refine K.ldb (by assumption) ?_ rfl ?_
 | refine K.ldb0 (by assumption) ?_ rfl ?_
 | refine K.ldE (by assumption) ?_ (by omega) rfl ?_
 | refine K.ldE0 (by assumption) ?_ (by omega) rfl ?_
 | refine K.ldAE (by assumption) ?_ (by omega) rfl ?_
 | refine K.iaC (by omega) ?_
 | refine K.condT (by first | assumption | omega) ?_
 | refine K.condF (by first | assumption | omega) ?_
 | refine K.condbT (by assumption) ?_
 | refine K.condbF (by assumption) ?_
 | simp -dsimp only [LL,B9,Nat.reduceAdd,Nat.reduceEqDiff,reduceIte,reduceCtorEq,Bool.false_eq_true,s0, s9, s10, s11])
    intro w4 he4
    have ho4 : OwnI base w4 (.slice oa st.length cap) st := ho3.ext he4
    (repeat' first
 | assumption
 | exact Ext.refl _
 | refine Ext.trans ?_ (by assumption)
 | refine K.wrap (by omega) ?_
 | refine K.ldb (by assumption) ?_ rfl ?_
 | refine K.ldb0 (by assumption) ?_ rfl ?_
 | refine K.ldE (by assumption) ?_ (by omega) rfl ?_
 | refine K.ldE0 (by assumption) ?_ (by omega) rfl ?_
 | refine K.ldAE (by assumption) ?_ (by omega) rfl ?_
 | refine K.iaC (by omega) ?_
 | refine K.condT (by first | assumption | omega) ?_
 | refine K.condF (by first | assumption | omega) ?_
 | refine K.condbT (by assumption) ?_
 | refine K.condbF (by assumption) ?_
 | simp -dsimp only [LL,B9,Nat.reduceAdd,Nat.reduceEqDiff,reduceIte,reduceCtorEq,Bool.false_eq_true,s0, s9, s10, s11])
    refine K.slcT (st.length - p) (by simp -dsimp only [LL,B9,Nat.reduceAdd,Nat.reduceEqDiff,reduceIte,reduceCtorEq,Bool.false_eq_true]; rw [Int.ofNat_sub (by omega)]) (by omega) ?_
    (repeat' first
 | assumption
 | exact Ext.refl _
 | refine Ext.trans ?_ (by assumption)
 | refine K.wrap (by omega) ?_
 | refine K.ldb (by assumption) ?_ rfl ?_
 | refine K.ldb0 (by assumption) ?_ rfl ?_
 | refine K.ldE (by assumption) ?_ (by omega) rfl ?_
 | refine K.ldE0 (by assumption) ?_ (by omega) rfl ?_
 | refine K.ldAE (by assumption) ?_ (by omega) rfl ?_
 | refine K.iaC (by omega) ?_
 | refine K.condT (by first | assumption | omega) ?_
 | refine K.condF (by first | assumption | omega) ?_
 | refine K.condbT (by assumption) ?_
 | refine K.condbF (by assumption) ?_
 | simp -dsimp only [LL,B9,Nat.reduceAdd,Nat.reduceEqDiff,reduceIte,reduceCtorEq,Bool.false_eq_true,s0, s9, s10, s11])
    refine K.bldSa (cs := [r.1].flatMap encI) (by simp [List.range, List.range.loop, fillC, lay, ev_tmp, upd_at, Value.cells, encI]) fun w5 b5 hb5 he5 hc5 => ?_
    refine ⟨he5, ?_⟩
    refine St ?_
    have ho5 : OwnI base w5 (.slice oa (st.length - p) cap) (st.take (st.length - p)) := OwR.head (enc := encI) (sz := 1) (xs := st) (fun _ => rfl) (OwR.ext he5 ho4) (st.length - p) (Nat.sub_le _ _)
    have hlt : (st.take (st.length - p)).length = st.length - p := by simp [List.length_take]
    have q8 : ((st.take (st.length - p)).length + [r.1].length) * 8 ≤ 140737488355328 := by rw [hlt]; simp only [List.length_cons, List.length_nil]; omega
    have q63 : (st.take (st.length - p)).length + [r.1].length ≤ maxLen := by rw [hlt]; simp only [List.length_cons, List.length_nil, maxLen]; omega
    have q1 : ∀ y, ∀ u ∈ encI y, u.oneCell' = true := fun y u h => by simp [encI] at h; subst h; rfl
    refine K.appO (xs := st.take (st.length - p)) (ys := [r.1]) ho5 (fun _ => rfl) (cellsAt_blk hc5) rfl q1 q8 q63 (by have := hm.le; have := he3.size; have := he4.size; have := he5.size; omega) fun v6 w6 ho6 hg6 => ?_
    have hb5' : w5.heap[b]? = some (.cells #[.slice oa st.length cap, m] T.expr_machine) := he5.obj (he4.obj (he3.obj hh))
    have hb6 : w6.heap[b]? = some (.cells #[.slice oa st.length cap, m] T.expr_machine) := by
      refine (hg6.block b (lt_of_heap hb5') fun e => ?_).trans hb5'
      have := (ho5.lt b e.symm).1
      have := hm.lt
      omega
    refine St ?_
    refine K.st1 hb6 (by simp) (by obtain ⟨oa, cap, e, _⟩ := ho6.form; rw [e]; rfl) fun w7 hw7 hc7 => ?_
    have hmod : Mod (fun k => k = b ∨ base ≤ k) w w7 :=
      (((he3.trans he4).trans he5).mod.trans (Mod.grown hg6 fun k hk => .inr (ho5.lt k hk).1)).trans (hw7.mod (.inl rfl))
    have hm7 : MachIs base b w7 m (st.take (st.length - p) ++ [r.1]) :=
      ⟨⟨v6, hc7, ho6.wr hw7 hm.lt⟩, hm.lt, Nat.le_trans hm.le hmod.size⟩
    obtain ⟨oa6, cap6, rfl, hc6, _⟩ := ho6.form
    rw [hml]
    have hl6 : ((st.take (st.length - p) ++ [r.1]).length : Int) = st.length - p + 1 := by rw [hml]; omega
    (repeat' first
 | assumption
 | exact Ext.refl _
 | refine Ext.trans ?_ (by assumption)
 | refine K.wrap (by omega) ?_
 | refine K.ldb (by assumption) ?_ rfl ?_
 | refine K.ldb0 (by assumption) ?_ rfl ?_
 | refine K.ldE (by assumption) ?_ (by omega) rfl ?_
 | refine K.ldE0 (by assumption) ?_ (by omega) rfl ?_
 | refine K.ldAE (by assumption) ?_ (by omega) rfl ?_
 | refine K.iaC (by omega) ?_
 | refine K.condT (by first | assumption | omega) ?_
 | refine K.condF (by first | assumption | omega) ?_
 | refine K.condbT (by assumption) ?_
 | refine K.condbF (by assumption) ?_
 | simp -dsimp only [LL,B9,Nat.reduceAdd,Nat.reduceEqDiff,reduceIte,reduceCtorEq,Bool.false_eq_true,s0, s9, s10, s11])
    refine K.cond (fun g4 => ?_) (fun g4 => ?_)
    · refine St ?_
      simp only [Int.toNat_natCast, hml]
      rw [if_pos (by omega)]
      exact ⟨rfl, hmod, fun h => by cases h⟩
    · refine St ?_
      simp only [Int.toNat_natCast, hml]
      rw [if_neg (by omega)]
      exact ⟨rfl, hmod, fun _ => hm7⟩
end Go.Proofs.YtbbaokmelkiemaaGreatDoor
end
section
/- The machine: all steps; the kind of an expression. -/
set_option maxRecDepth 4000
set_option linter.unusedSimpArgs false
set_option maxHeartbeats 4000000
namespace Go.Proofs.YtbbaokmelkiemaaGreatDoor
open Go Go.RowKit Lite

theorem run_r (f : Abs.Node → List Int → Int × Int) (two : Abs.OpD → List Int → Int × Int) (leaf : Abs.Node → List Int → Int × Int) (hf : stepRes f two leaf) (good : Int → Prop)
    (b : Nat) (w0 w : World) (hw0 : Ext w0 w) (hb0 : w0.heap.size ≤ b) (ve vl v2 : Value) (e : List Abs.Node) (he : Abs.Nodes w0 ve e) (hb : w.heap[b]? = some (.cells #[.slice none 0 0, .map none] T.expr_machine))
    (hgood : ∀ x st, x.ok → (∀ z ∈ st, good z) → 0 ≤ Abs.nparts x.op → Abs.nparts x.op ≤ st.length → (f x st).2 = 0 → good (f x st).1)
    (hleaf : ∀ x st base m w', x.ok → Mod (fun k => k = b) w w' → MachIs base b w' m st → (∀ z ∈ st, good z) → 0 ≤ Abs.nparts x.op → Abs.nparts x.op ≤ st.length → Abs.opOf x.op = none → ∀ w1 KK t, Ext w' w1 →
      (∀ w'', Ext w1 w'' → KK (.tuple #[.int .i64 (leaf x st).1, .int .i64 (leaf x st).2]) w'') → CallYh Tryz.prog vl [.agg x.enc.toArray] w1 KK t)
    (htwo : ∀ o ov lv l w' KK t, Mod (fun k => k = b) w w' → OpV w' o ov → (∃ x, Abs.opOf x = some o) → o.parts = l.length → Ints w' lv l →
      (∀ w'', Ext w' w'' → KK (.tuple #[.int .i64 (two o l).1, .int .i64 (two o l).2]) w'') → CallVh Tryz.prog v2 [ov, lv] w' KK t) :
    Ret Tryz.prog F.p_expr_machine_run #[.pointer (some ⟨b, 0, none⟩), ve, vl, v2] w fun v w' =>
      v = .tuple #[.int .i64 (Abs.runE f e).1, .int .i64 (Abs.runE f e).2] ∧ Mod (fun k => k = b) w w' := by
  obtain ⟨oa, cap, rfl, hlen⟩ := he.form
  refine K.start hmix E.p_expr_machine_run (args := [_, _, _, _]) (Nat.le_of_ble_eq_true rfl) ?_
  dsimp only [C.p_expr_machine_run,yt,yi,yb,yp,yr,ye,yc,yv,yg,ym,yw,ya,yl,yx,ys,yn]
  refine St ?_
  refine K.cond (fun g1 => ?_) (fun g1 => ?_)
  · refine St ?_
    rw [Abs.runE, if_pos (by omega)]
    exact ⟨rfl, Mod.refl _ _⟩
  refine St ?_
  refine K.cond (fun g2 => ?_) (fun g2 => ?_)
  · refine St ?_
    rw [Abs.runE, if_neg (by omega), if_pos (by omega)]
    exact ⟨rfl, Mod.refl _ _⟩
  refine St ?_
  refine K.call (ops_r w) ?_
  rintro m w1 ⟨hops, he1⟩
  refine St ?_
  refine K.st1 (he1.obj hb) (by decide) (by obtain ⟨r, _, _, _, e, _⟩ := hops; rw [e]; rfl) fun w2 hw2 hc2 => ?_
  have hc2' : w2.heap[b]? = some (.cells #[.slice none 0 0, m] T.expr_machine) := hc2
  clear hc2
  have hops2 : OpsIs w2 m := hops.mod (A := fun k => k = b) (hw2.mod rfl) fun k o h1 h2 hk => by
    subst hk
    rw [he1.obj hb] at h1
    injection h1 with h1
    rcases h2 with ⟨es, c, h2⟩ | ⟨cs, h2⟩
    · rw [h2] at h1; cases h1
    · rw [h2] at h1
      injection h1 with _ h1
      cases h1
  have hm02 : Mod (fun k => k = b) w w2 := he1.mod.trans (hw2.mod rfl)
  have hlt : b < w2.heap.size := lt_of_heap hc2'
  refine St ?_
  refine K.for1 27 e.length (fun k S w' => Mod (fun k => k = b) w2 w' ∧ ∃ st, Abs.runL f (e.take k) [] = (0, st) ∧ MachIs w2.heap.size b w' m st ∧ (0 < k → 1 ≤ st.length) ∧ st.length ≤ 12 ∧ ∀ z ∈ st, good z)
    (by simp -dsimp only [LL,B9,Nat.reduceAdd,Nat.reduceEqDiff,reduceIte,reduceCtorEq,Bool.false_eq_true]) ⟨Mod.refl _ _, [], by simp [Abs.runL], ⟨⟨_, hc2', OwR.nil _ _ _ _ _⟩, hlt, Nat.le_refl _⟩, by simp, by simp, by simp⟩ ?_
  rintro k S w3 hS hk h27 ⟨hmod, st, hrun, hmach, h1st, h12, hgd⟩
  have h0 := hS 0 rfl; have h1 := hS 1 rfl; have h2 := hS 2 rfl; have h3 := hS 3 rfl; have h25 := hS 25 rfl; have h26 := hS 26 rfl; simp only [upd_at, Nat.reduceAdd, Nat.reduceEqDiff, reduceIte, fr0_cons, fr0_nil] at h0 h1 h2 h3 h25 h26; clear hS
  have hm03 : Mod (fun k => k = b) w w3 := hm02.trans hmod
  (repeat' first
 | assumption
 | exact Ext.refl _
 | refine Ext.trans ?_ (by assumption)
 | refine K.wrap (by omega) ?_
 | refine K.ldb (by assumption) ?_ rfl ?_
 | refine K.ldb0 (by assumption) ?_ rfl ?_
 | refine K.ldE (by assumption) ?_ (by omega) rfl ?_
 | refine K.ldE0 (by assumption) ?_ (by omega) rfl ?_
 | refine K.ldAE (by assumption) ?_ (by omega) rfl ?_
 | refine K.iaC (by omega) ?_
 | refine K.condT (by first | assumption | omega) ?_
 | refine K.condF (by first | assumption | omega) ?_
 | refine K.condbT (by assumption) ?_
 | refine K.condbF (by assumption) ?_
 | simp -dsimp only [LL,B9,Nat.reduceAdd,Nat.reduceEqDiff,reduceIte,reduceCtorEq,Bool.false_eq_true,h0, h1, h2, h3, h25, h26, h27])
  refine K.cond (fun g3 => ?_) (fun g3 => ?_)
  · have hk' : k < e.length := by omega
    have h03 : Ext w0 w3 := hm03.ext hw0 fun q hq e => by omega
    obtain ⟨a, rfl⟩ := he.addr (by omega)
    have hxk := (he.at k hk').ok
    have hrs := fun h0 => Abs.runE_err (f := f) (e := e) (by omega) hk' hrun h0
    have hrn := Abs.runL_step hk' hrun
    have hops3 : OpsIs w3 m := hops2.mod (A := fun k => k = b) hmod fun k o h1 h2 hk => by
      subst hk
      rw [hc2'] at h1
      injection h1 with h1
      rcases h2 with ⟨es, c, h2⟩ | ⟨cs, h2⟩
      · rw [h2] at h1; cases h1
      · rw [h2] at h1
        injection h1 with _ h1
        cases h1
    (repeat' first
 | assumption
 | exact Ext.refl _
 | refine Ext.trans ?_ (by assumption)
 | refine K.wrap (by omega) ?_
 | refine K.ldb (by assumption) ?_ rfl ?_
 | refine K.ldb0 (by assumption) ?_ rfl ?_
 | refine K.ldE (by assumption) ?_ (by omega) rfl ?_
 | refine K.ldE0 (by assumption) ?_ (by omega) rfl ?_
 | refine K.ldAE (by assumption) ?_ (by omega) rfl ?_
 | refine K.iaC (by omega) ?_
 | refine K.condT (by first | assumption | omega) ?_
 | refine K.condF (by first | assumption | omega) ?_
 | refine K.condbT (by assumption) ?_
 | refine K.condbF (by assumption) ?_
 | simp -dsimp only [LL,B9,Nat.reduceAdd,Nat.reduceEqDiff,reduceIte,reduceCtorEq,Bool.false_eq_true,h0, h1, h2, h3, h25, h26, h27])
    generalize hx : e[k] = x at *
    refine K.newst (vs := x.enc) (fun _ => by simp -dsimp only [LL,B9,Nat.reduceAdd,Nat.reduceEqDiff,reduceIte,reduceCtorEq,Bool.false_eq_true]) rfl rfl (by simp [Abs.Node.enc, Value.oneCell']) fun w4 b4 hb4 he4 hc4 => ?_
    (repeat' first
 | assumption
 | exact Ext.refl _
 | refine Ext.trans ?_ (by assumption)
 | refine K.wrap (by omega) ?_
 | refine K.ldb (by assumption) ?_ rfl ?_
 | refine K.ldb0 (by assumption) ?_ rfl ?_
 | refine K.ldE (by assumption) ?_ (by omega) rfl ?_
 | refine K.ldE0 (by assumption) ?_ (by omega) rfl ?_
 | refine K.ldAE (by assumption) ?_ (by omega) rfl ?_
 | refine K.iaC (by omega) ?_
 | refine K.condT (by first | assumption | omega) ?_
 | refine K.condF (by first | assumption | omega) ?_
 | refine K.condbT (by assumption) ?_
 | refine K.condbF (by assumption) ?_
 | simp -dsimp only [LL,B9,Nat.reduceAdd,Nat.reduceEqDiff,reduceIte,reduceCtorEq,Bool.false_eq_true,h0, h1, h2, h3, h25, h26, h27])
    refine K.ldAb (c := x.enc) hc4 (Ext.refl _) rfl ?_
    (repeat' first
 | assumption
 | exact Ext.refl _
 | refine Ext.trans ?_ (by assumption)
 | refine K.wrap (by omega) ?_
 | refine K.ldb (by assumption) ?_ rfl ?_
 | refine K.ldb0 (by assumption) ?_ rfl ?_
 | refine K.ldE (by assumption) ?_ (by omega) rfl ?_
 | refine K.ldE0 (by assumption) ?_ (by omega) rfl ?_
 | refine K.ldAE (by assumption) ?_ (by omega) rfl ?_
 | refine K.iaC (by omega) ?_
 | refine K.condT (by first | assumption | omega) ?_
 | refine K.condF (by first | assumption | omega) ?_
 | refine K.condbT (by assumption) ?_
 | refine K.condbF (by assumption) ?_
 | simp -dsimp only [LL,B9,Nat.reduceAdd,Nat.reduceEqDiff,reduceIte,reduceCtorEq,Bool.false_eq_true,h0, h1, h2, h3, h25, h26, h27])
    have hm04 : Mod (fun k => k = b) w w4 := hm03.trans he4.mod
    refine K.call (step_r f two leaf hf x w2.heap.size b w4 m vl v2 st (hmach.ext he4) (hops3.ext he4) (by omega)
      (fun q1 q2 q3 w' KK t hw' hk => hleaf x st _ m w4 hxk hm04 (hmach.ext he4) hgd q1 q2 q3 w' KK t hw' hk)
      (fun o ov lv w' KK t hw' q1 q2 q3 q4 hk => htwo o ov lv _ w' KK t (hm04.trans hw'.mod) q2 ⟨_, q1⟩ (by have := nparts_op q1; simp [List.length_drop]; omega) q4 hk)) ?_
    rintro _ w5 ⟨rfl, hm5, hst5⟩
    have hm05 : Mod (fun k => k = b) w w5 := hm04.then hm5 fun i hi h => by
      rcases h with h | h
      · exact h
      · have := hm02.size; omega
    (repeat' first
 | assumption
 | exact Ext.refl _
 | refine Ext.trans ?_ (by assumption)
 | refine K.wrap (by omega) ?_
 | refine K.ldb (by assumption) ?_ rfl ?_
 | refine K.ldb0 (by assumption) ?_ rfl ?_
 | refine K.ldE (by assumption) ?_ (by omega) rfl ?_
 | refine K.ldE0 (by assumption) ?_ (by omega) rfl ?_
 | refine K.ldAE (by assumption) ?_ (by omega) rfl ?_
 | refine K.iaC (by omega) ?_
 | refine K.condT (by first | assumption | omega) ?_
 | refine K.condF (by first | assumption | omega) ?_
 | refine K.condbT (by assumption) ?_
 | refine K.condbF (by assumption) ?_
 | simp -dsimp only [LL,B9,Nat.reduceAdd,Nat.reduceEqDiff,reduceIte,reduceCtorEq,Bool.false_eq_true,h0, h1, h2, h3, h25, h26, h27])
    refine K.cond (fun g4 => ?_) (fun g4 => ?_)
    rotate_left
    · (repeat' first
 | assumption
 | exact Ext.refl _
 | refine Ext.trans ?_ (by assumption)
 | refine K.wrap (by omega) ?_
 | refine K.ldb (by assumption) ?_ rfl ?_
 | refine K.ldb0 (by assumption) ?_ rfl ?_
 | refine K.ldE (by assumption) ?_ (by omega) rfl ?_
 | refine K.ldE0 (by assumption) ?_ (by omega) rfl ?_
 | refine K.ldAE (by assumption) ?_ (by omega) rfl ?_
 | refine K.iaC (by omega) ?_
 | refine K.condT (by first | assumption | omega) ?_
 | refine K.condF (by first | assumption | omega) ?_
 | refine K.condbT (by assumption) ?_
 | refine K.condbF (by assumption) ?_
 | simp -dsimp only [LL,B9,Nat.reduceAdd,Nat.reduceEqDiff,reduceIte,reduceCtorEq,Bool.false_eq_true,h0, h1, h2, h3, h25, h26, h27])
      rw [hrs g4]
      exact ⟨by first | trivial | rfl, hm05⟩
    have hlen5 := Abs.step_len g4
    have hgood5 : ∀ z ∈ (Abs.stepG f x st).2, good z := by
      have hg := hgood x st hxk hgd
      clear hrs hrn hlen5 hst5
      unfold Abs.stepG at g4 ⊢
      by_cases q1 : Abs.nparts x.op < 0
      · rw [if_pos q1] at g4; cases g4
      by_cases q2 : (st.length : Int) < Abs.nparts x.op
      · rw [if_neg q1, if_pos q2] at g4; cases g4
      by_cases q3 : (f x st).2 ≠ 0
      · rw [if_neg q1, if_neg q2, if_pos q3] at g4; exact absurd g4 q3
      by_cases q4 : (st.take (st.length - (Abs.nparts x.op).toNat) ++ [(f x st).1]).length > 12
      · rw [if_neg q1, if_neg q2, if_neg q3, if_pos q4] at g4; cases g4
      rw [if_neg q1, if_neg q2, if_neg q3, if_neg q4]
      intro z hz
      rcases List.mem_append.1 hz with hz | hz
      · exact hgd z (List.mem_of_mem_take hz)
      · simp at hz; subst hz; exact hg (by omega) (by omega) (by simpa using q3)
    (repeat' first
 | assumption
 | exact Ext.refl _
 | refine Ext.trans ?_ (by assumption)
 | refine K.wrap (by omega) ?_
 | refine K.ldb (by assumption) ?_ rfl ?_
 | refine K.ldb0 (by assumption) ?_ rfl ?_
 | refine K.ldE (by assumption) ?_ (by omega) rfl ?_
 | refine K.ldE0 (by assumption) ?_ (by omega) rfl ?_
 | refine K.ldAE (by assumption) ?_ (by omega) rfl ?_
 | refine K.iaC (by omega) ?_
 | refine K.condT (by first | assumption | omega) ?_
 | refine K.condF (by first | assumption | omega) ?_
 | refine K.condbT (by assumption) ?_
 | refine K.condbF (by assumption) ?_
 | simp -dsimp only [LL,B9,Nat.reduceAdd,Nat.reduceEqDiff,reduceIte,reduceCtorEq,Bool.false_eq_true,h0, h1, h2, h3, h25, h26, h27])
    refine ⟨hk', by first | trivial | rfl, ?_, (Abs.stepG f x st).2, ?_, hst5 g4, fun _ => hlen5.1, hlen5.2, hgood5⟩
    · refine (hmod.trans he4.mod).then hm5 fun i hi h => ?_
      rcases h with h | h
      · exact h
      · omega
    · rw [hrn]; exact Prod.ext g4 rfl
  · have hk' : k = e.length := by omega
    subst hk'
    rw [List.take_length] at hrun
    obtain ⟨sv, hh, hown⟩ := hmach.ex
    obtain ⟨oa', cap', rfl, hcp, hml⟩ := hown.form
    have hi : Ints w3 _ st := OwR.slr (enc := encI) (sz := 1) (fun _ => rfl) hown
    have h1 := h1st (by omega)
    obtain ⟨a, rfl⟩ := hi.addr h1
    have hE : Abs.runE f e = if st.length > 1 then (0, 5) else (st.headD 0, 0) := by
      rw [Abs.runE, if_neg (by omega), if_neg (by omega), hrun, if_neg (by simp)]
    rw [hE]
    clear hE
    (repeat' first
 | assumption
 | exact Ext.refl _
 | refine Ext.trans ?_ (by assumption)
 | refine K.wrap (by omega) ?_
 | refine K.ldb (by assumption) ?_ rfl ?_
 | refine K.ldb0 (by assumption) ?_ rfl ?_
 | refine K.ldE (by assumption) ?_ (by omega) rfl ?_
 | refine K.ldE0 (by assumption) ?_ (by omega) rfl ?_
 | refine K.ldAE (by assumption) ?_ (by omega) rfl ?_
 | refine K.iaC (by omega) ?_
 | refine K.condT (by first | assumption | omega) ?_
 | refine K.condF (by first | assumption | omega) ?_
 | refine K.condbT (by assumption) ?_
 | refine K.condbF (by assumption) ?_
 | simp -dsimp only [LL,B9,Nat.reduceAdd,Nat.reduceEqDiff,reduceIte,reduceCtorEq,Bool.false_eq_true,h0, h1, h2, h3, h25, h26, h27])
    refine K.cond (fun g4 => ?_) (fun g4 => ?_)
    · refine St ?_
      rw [if_pos (by omega)]
      exact ⟨rfl, hm03⟩
    · (repeat' first
 | assumption
 | exact Ext.refl _
 | refine Ext.trans ?_ (by assumption)
 | refine K.wrap (by omega) ?_
 | refine K.ldb (by assumption) ?_ rfl ?_
 | refine K.ldb0 (by assumption) ?_ rfl ?_
 | refine K.ldE (by assumption) ?_ (by omega) rfl ?_
 | refine K.ldE0 (by assumption) ?_ (by omega) rfl ?_
 | refine K.ldAE (by assumption) ?_ (by omega) rfl ?_
 | refine K.iaC (by omega) ?_
 | refine K.condT (by first | assumption | omega) ?_
 | refine K.condF (by first | assumption | omega) ?_
 | refine K.condbT (by assumption) ?_
 | refine K.condbF (by assumption) ?_
 | simp -dsimp only [LL,B9,Nat.reduceAdd,Nat.reduceEqDiff,reduceIte,reduceCtorEq,Bool.false_eq_true,h0, h1, h2, h3, h25, h26, h27])
      refine K.ian 0 rfl (by omega) ?_
      refine St ?_
      rw [if_neg (by omega)]
      have : st.headD 0 = st[0] := by
        cases st with
        | nil => simp at h1
        | cons z st => rfl
      rw [this]
      exact ⟨by first | trivial | rfl, hm03⟩
/-- The kinds that an operation is given. -/
theorem ktwo_r (o : Abs.OpD) (u lv : Value) (l : List Int) (w : World) (hl : Ints w lv l) :
    Ret Tryz.prog F.expr_Kind_2 #[.agg #[.int .i64 o.parts, .int .i64 o.takes, .int .i64 o.makes, u], lv] w fun v w' => v = .tuple #[.int .i64 (Abs.ktwo o l).1, .int .i64 (Abs.ktwo o l).2] ∧ Ext w w' := by
  obtain ⟨oa, cap, rfl, hlen⟩ := hl.form
  refine K.start hmix E.expr_Kind_2 (args := [_, _]) (Nat.le_of_ble_eq_true rfl) ?_
  dsimp only [C.expr_Kind_2,yt,yi,yb,yp,yr,ye,yc,yv,yg,ym,yw,ya,yl,yx,ys,yn]
  refine St ?_
  refine K.new fun w1 b hb he1 hc1 => ?_
  refine St ?_
  refine K.for1 10 l.length (fun k S w' => w' = w1 ∧ (l.take k).all (fun k => (decide (o.takes = -1) || decide (k = o.takes)) && decide (k = l.headD 0)) = true) (by simp -dsimp only [LL,B9,Nat.reduceAdd,Nat.reduceEqDiff,reduceIte,reduceCtorEq,Bool.false_eq_true]) ⟨rfl, by simp⟩ ?_
  rintro k S w2 hS hk h10 ⟨rfl, hall⟩
  have h1 := hS 1 rfl; have h2 := hS 2 rfl; have h8 := hS 8 rfl; have h9 := hS 9 rfl; simp only [upd_at, Nat.reduceAdd, Nat.reduceEqDiff, reduceIte, fr0_cons, fr0_nil] at h1 h2 h8 h9; clear hS
  (repeat' first
 | assumption
 | exact Ext.refl _
 | refine Ext.trans ?_ (by assumption)
 | refine K.wrap (by omega) ?_
 | refine K.ldb (by assumption) ?_ rfl ?_
 | refine K.ldb0 (by assumption) ?_ rfl ?_
 | refine K.ldE (by assumption) ?_ (by omega) rfl ?_
 | refine K.ldE0 (by assumption) ?_ (by omega) rfl ?_
 | refine K.ldAE (by assumption) ?_ (by omega) rfl ?_
 | refine K.iaC (by omega) ?_
 | refine K.condT (by first | assumption | omega) ?_
 | refine K.condF (by first | assumption | omega) ?_
 | refine K.condbT (by assumption) ?_
 | refine K.condbF (by assumption) ?_
 | simp -dsimp only [LL,B9,Nat.reduceAdd,Nat.reduceEqDiff,reduceIte,reduceCtorEq,Bool.false_eq_true,h1, h2, h8, h9, h10])
  refine K.cond (fun g1 => ?_) (fun g1 => ?_)
  rotate_left
  · rw [List.take_of_length_le (by omega)] at hall
    (repeat' first
 | assumption
 | exact Ext.refl _
 | refine Ext.trans ?_ (by assumption)
 | refine K.wrap (by omega) ?_
 | refine K.ldb (by assumption) ?_ rfl ?_
 | refine K.ldb0 (by assumption) ?_ rfl ?_
 | refine K.ldE (by assumption) ?_ (by omega) rfl ?_
 | refine K.ldE0 (by assumption) ?_ (by omega) rfl ?_
 | refine K.ldAE (by assumption) ?_ (by omega) rfl ?_
 | refine K.iaC (by omega) ?_
 | refine K.condT (by first | assumption | omega) ?_
 | refine K.condF (by first | assumption | omega) ?_
 | refine K.condbT (by assumption) ?_
 | refine K.condbF (by assumption) ?_
 | simp -dsimp only [LL,B9,Nat.reduceAdd,Nat.reduceEqDiff,reduceIte,reduceCtorEq,Bool.false_eq_true,h1, h2, h8, h9, h10])
    rw [Abs.ktwo, if_pos hall]
    (refine ⟨?_, ?_⟩ <;> first | trivial | rfl | (repeat' first | assumption | exact Ext.refl _ | refine Ext.trans ?_ (by assumption)))
  have hk' : k < l.length := by omega
  obtain ⟨a, rfl⟩ := hl.addr (by omega)
  have hsp : l.take (k + 1) = l.take k ++ [l[k]] := List.take_succ_eq_append_getElem hk'
  have hall2 := List.all_append (xs := l.take (k + 1)) (ys := l.drop (k + 1)) (f := fun k => (decide (o.takes = -1) || decide (k = o.takes)) && decide (k = l.headD 0))
  rw [List.take_append_drop, hsp, List.all_append] at hall2
  have h0 : l.headD 0 = l[0] := by
    cases l with
    | nil => simp at hk'
    | cons z l => rfl
  have hbad : ((decide (o.takes = -1) || decide (l[k] = o.takes)) && decide (l[k] = l.headD 0)) = false → Abs.ktwo o l = (0, 9) := by
    intro h
    rw [Abs.ktwo, if_neg (by rw [hall2]; simp only [List.all_cons, List.all_nil, h]; simp)]
  have hgood : ((decide (o.takes = -1) || decide (l[k] = o.takes)) && decide (l[k] = l.headD 0)) = true → (l.take (k + 1)).all (fun k => (decide (o.takes = -1) || decide (k = o.takes)) && decide (k = l.headD 0)) = true := by
    intro h
    rw [hsp, List.all_append, hall]
    simp only [List.all_cons, List.all_nil, h]; rfl
  rw [h0] at hbad
  clear hall2
  have hp : 0 < l.length := by omega
  have hl1 : Ints w2 (.slice (some a) l.length cap) l := hl.ext he1
  have hg0 := hgood
  rw [h0] at hgood hall
  (repeat' first
 | (refine K.cond (fun _ => ?_) (fun _ => ?_) <;> try (exfalso; omega))
 | (refine K.condb (fun _ => ?_) (fun _ => ?_))
 | assumption
 | exact Ext.refl _
 | refine Ext.trans ?_ (by assumption)
 | refine K.wrap (by omega) ?_
 | refine K.ldb (by assumption) ?_ rfl ?_
 | refine K.ldb0 (by assumption) ?_ rfl ?_
 | refine K.ldE (by assumption) ?_ (by omega) rfl ?_
 | refine K.ldE0 (by assumption) ?_ (by omega) rfl ?_
 | refine K.ldAE (by assumption) ?_ (by omega) rfl ?_
 | refine K.iaC (by omega) ?_
 | refine K.condT (by first | assumption | omega) ?_
 | refine K.condF (by first | assumption | omega) ?_
 | refine K.condbT (by assumption) ?_
 | refine K.condbF (by assumption) ?_
 | simp -dsimp only [LL,B9,Nat.reduceAdd,Nat.reduceEqDiff,reduceIte,reduceCtorEq,Bool.false_eq_true,h1, h2, h8, h9, h10])
  all_goals first
    | (have hh := hbad (by simp; omega); rw [hh]; refine ⟨by first | trivial | rfl, he1⟩)
    | (refine ⟨by omega, by first | trivial | rfl, trivial, ?_⟩; rw [h0]; exact hgood (by simp; omega))
theorem kind1_r (x : Abs.Node) (cs : List Value) (s : Abs.Scope) (base b pm ps : Nat) (w : World) (m : Value) (st : List Int) (tm : TypeId) (hx : x.ok) (h : Abs.ScopeIs w cs s) (hm : MachIs base b w m st) (h3 : x.op = 3 → 0 < st.length)
    (hpm : w.heap[pm]? = some (.cells #[.pointer (some ⟨b, 0, none⟩)] tm)) (hps : w.heap[ps]? = some (.cells cs.toArray T.api_Scope)) :
    Ret Tryz.prog F.expr_Kind_1 #[.agg x.enc.toArray, .pointer (some ⟨pm, 0, none⟩), .pointer (some ⟨ps, 0, none⟩)] w fun v w' =>
      v = .tuple #[.int .i64 (Abs.kleaf x s (st.getLastD 0)).1, .int .i64 (Abs.kleaf x s (st.getLastD 0)).2] ∧ Ext w w' := by
  obtain ⟨v0, v1, v2, v3, v4, rfl, _⟩ := h.ex
  refine K.start hmix E.expr_Kind_1 (args := [_, _, _]) (Nat.le_of_ble_eq_true rfl) ?_
  dsimp only [C.expr_Kind_1,yt,yi,yb,yp,yr,ye,yc,yv,yg,ym,yw,ya,yl,yx,ys,yn]
  refine St ?_
  refine K.new fun w1 b1 hb1 he1 hc1 => ?_
  have k1 : w1.heap[b1]? = some (.cells x.enc.toArray T.api_Node) := hc1
  refine St ?_
  refine K.ldAb (c := x.enc) k1 (Ext.refl _) rfl ?_
  refine St ?_
  refine K.ldAb hps he1 rfl ?_
  refine St ?_
  refine K.call (kleaf_r x _ s base b w1 m st hx (h.ext he1) (hm.ext he1) h3) ?_
  rintro _ w2 ⟨rfl, he2⟩
  refine St ?_
  (refine ⟨?_, ?_⟩ <;> first | trivial | rfl | (repeat' first | assumption | exact Ext.refl _ | refine Ext.trans ?_ (by assumption)))
theorem fKind_step (s : Abs.Scope) : stepRes (Abs.fKind s) Abs.ktwo fun x st => Abs.kleaf x s (st.getLastD 0) := fun _ _ => rfl
theorem kind_r (ve : Value) (e : List Abs.Node) (cs : List Value) (s : Abs.Scope) (w : World) (he : Abs.Nodes w ve e) (h : Abs.ScopeIs w cs s) :
    Ret Tryz.prog F.expr_Kind #[ve, .agg cs.toArray] w fun v w' => v = .tuple #[.int .i64 (Abs.kind e s).1, .int .i64 (Abs.kind e s).2] ∧ Ext w w' := by
  obtain ⟨v0, v1, v2, v3, v4, rfl, _⟩ := h.ex
  refine K.start hmix E.expr_Kind (args := [_, _]) (Nat.le_of_ble_eq_true rfl) ?_
  dsimp only [C.expr_Kind,yt,yi,yb,yp,yr,ye,yc,yv,yg,ym,yw,ya,yl,yx,ys,yn]
  refine St ?_
  refine K.new fun w1 ps hps he1 hc1 => ?_
  refine St ?_
  refine K.bld (cs := [.slice none 0 0, .map none]) (by simp [fillC]) ?_
  refine St ?_
  refine K.new fun w2 b hb he2 hc2 => ?_
  refine St ?_
  refine K.new fun w3 pm hpm he3 hc3 => ?_
  refine St ?_
  refine K.st0 hc3 (by decide) rfl fun w4 hw4 hc4 => ?_
  have hc4' : w4.heap[pm]? = some (.cells #[.pointer (some ⟨b, 0, none⟩)] T.p_expr_machine) := hc4
  have he4 : Ext w2 w4 := hw4.ext he3 hpm
  have hq2 := lt_of_heap hc2
  have hq1 := lt_of_heap hc1
  have hew : Ext w w4 := (he1.trans he2).trans he4
  clear hc4 hw4 he3 hc3
  have hb4 := he4.obj hc2
  have hs4 := he4.obj (he2.obj hc1)
  have z1 := he1.size
  refine St ?_
  refine K.call (run_r (Abs.fKind s) Abs.ktwo (fun x st => Abs.kleaf x s (st.getLastD 0)) (fKind_step s) (fun _ => True) b w w4 hew (by omega) ve _ _ e he hb4 (fun _ _ _ _ _ _ _ => trivial) ?_ ?_) ?_
  · intro x st base m w' hx hm hmach _ q1 q2 q3 w1' KK t hw1 hk
    refine K.callV (first := []) (cap := [.pointer (some ⟨pm, 0, none⟩), .pointer (some ⟨ps, 0, none⟩)]) (by kernel_rfl)
      (kind1_r x _ s base b pm ps w1' m st _ hx (h.ext ((hm.ext hew (by intro k hk e; omega)).trans hw1)) (hmach.ext hw1) ?_ (hw1.obj (hm.obj (by omega) hc4')) (hw1.obj (hm.obj (by omega) hs4))) fun v w'' ⟨h1, h2⟩ => by subst h1; exact hk w'' h2
    intro h3
    have : Abs.nparts x.op = 1 := by rw [h3]; rfl
    omega
  · rintro o ov lv l w' KK t hm ⟨u, rfl, hd⟩ _ hl hi hk
    exact K.callV0 (first := []) (cap := []) (by kernel_rfl) (ktwo_r o u lv l w' hi) fun v w'' ⟨h1, h2⟩ => by subst h1; exact hk w'' h2
  rintro _ w5 ⟨rfl, hm5⟩
  have he5 : Ext w w5 := hm5.ext hew (by intro k hk e; omega)
  refine St ?_
  (refine ⟨?_, ?_⟩ <;> first | trivial | rfl | (repeat' first | assumption | exact Ext.refl _ | refine Ext.trans ?_ (by assumption)))
end Go.Proofs.YtbbaokmelkiemaaGreatDoor
end
section
/- Commands: what each function of cmd computes. -/
set_option maxRecDepth 4000
set_option maxHeartbeats 1600000
namespace Abs
open Go Go.RowKit Lite
/-- What declared tells. -/
def DeclV (v : Value) : Option (Var × Int) → Prop
  | some q => v = .tuple #[.agg q.1.enc.toArray, .int .i64 q.2, .bool true]
  | none => ∃ (x : Var) (k : Int), v = .tuple #[.agg x.enc.toArray, .int .i64 k, .bool false]
end Abs
namespace Go.Proofs.YtbbaokmelkiemaaGreatDoor
open Go Go.RowKit Lite

theorem cthing_r (a b : Int) (cs : List Value) (s : Abs.Scope) (w : World) (h : Abs.ScopeIs w cs s) :
    Ret Tryz.prog F.cmd_thing #[.int .i64 a, .int .i64 b, .agg cs.toArray] w fun v w' => v = .tuple #[.int .i64 (Abs.thing a b s).1, .bool (Abs.thing a b s).2] ∧ Ext w w' := by
  obtain ⟨a0, c0, a1, c1, a2, c2, a3, c3, a4, c4, rfl, h0, h1, h2, h3, h4, l0, l1, l2, l3, l4⟩ := h.form
  refine K.start hmix E.cmd_thing (args := [_, _, _]) (Nat.le_of_ble_eq_true rfl) ?_; dsimp only [C.cmd_thing,yt,yi,yb,yp,yr,ye,yc,yv,yg,ym,yw,ya,yl,yx,ys,yn]
  refine Sg ?_
  intro w1 b hb he1 hc1
  refine Sg ?_
  (repeat' first
 | (refine K.cond (fun _ => ?_) (fun _ => ?_) <;> try (exfalso; omega))
 | (refine K.condb (fun _ => ?_) (fun _ => ?_))
 | assumption
 | exact Ext.refl _
 | refine Ext.trans ?_ (by assumption)
 | refine K.wrap (by omega) ?_
 | refine K.ldb (by assumption) ?_ rfl ?_
 | refine K.ldb0 (by assumption) ?_ rfl ?_
 | refine K.ldE (by assumption) ?_ (by omega) rfl ?_
 | refine K.ldE0 (by assumption) ?_ (by omega) rfl ?_
 | refine K.ldAE (by assumption) ?_ (by omega) rfl ?_
 | refine K.iaC (by omega) ?_
 | refine K.condT (by first | assumption | omega) ?_
 | refine K.condF (by first | assumption | omega) ?_
 | refine K.condbT (by assumption) ?_
 | refine K.condbF (by assumption) ?_
 | simp -dsimp only [LL,B9,Nat.reduceAdd,Nat.reduceEqDiff,reduceIte,reduceCtorEq,Bool.false_eq_true])
  all_goals
    refine ⟨?_, by (repeat' first | assumption | exact Ext.refl _ | refine Ext.trans ?_ (by assumption))⟩
    unfold Abs.thing
    (repeat' split) <;> first | rfl | (exfalso; omega)
theorem declared_r (v : Value) (l : List Abs.Var) (n : Int) (cs : List Value) (s : Abs.Scope) (w : World) (hl : Abs.Vars w v l) (h : Abs.ScopeIs w cs s) :
    Ret Tryz.prog F.cmd_declared #[v, .int .i64 n, .agg cs.toArray] w fun v w' => Abs.DeclV v (Abs.declared l n s) ∧ Ext w w' := by
  obtain ⟨v0, v1, v2, v3, v4, rfl, _⟩ := h.ex
  obtain ⟨oa, cap, rfl, hlen⟩ := hl.form
  refine K.start hmix E.cmd_declared (args := [_, _, _]) (Nat.le_of_ble_eq_true rfl) ?_; dsimp only [C.cmd_declared,yt,yi,yb,yp,yr,ye,yc,yv,yg,ym,yw,ya,yl,yx,ys,yn]
  refine Sg ?_
  intro w1 b1 hb1 he1 hc1
  refine Sg ?_
  intro w2 b2 hb2 he2 hc2
  have he := he1.trans he2
  refine Sg ?_
  refine K.cond (fun g1 => ?_) (fun g1 => ?_)
  · refine Sg ?_
    intro w3 hw3 hc3
    refine Sg ?_
    rw [Abs.declared, Abs.nth_none (.inl g1)]
    exact ⟨⟨(⟨⟨#[]⟩, 0, 0, 0, 0, 0⟩ : Abs.Var), 0, rfl⟩, hw3.ext he (by have := he1.size; omega)⟩
  refine Sg ?_
  refine K.cond (fun g2 => ?_) (fun g2 => ?_)
  · refine Sg ?_
    intro w3 hw3 hc3
    refine Sg ?_
    rw [Abs.declared, Abs.nth_none (.inr (by omega))]
    exact ⟨⟨(⟨⟨#[]⟩, 0, 0, 0, 0, 0⟩ : Abs.Var), 0, rfl⟩, hw3.ext he (by have := he1.size; omega)⟩
  obtain ⟨i, rfl⟩ := Int.eq_ofNat_of_zero_le (show 0 ≤ n by omega)
  have hi : i < l.length := by omega
  rw [Abs.declared, Abs.nth_some (by omega) (by omega)]
  simp only [Int.toNat_natCast]
  obtain ⟨a, rfl⟩ := hl.addr (by omega)
  refine Sg ?_
  refine K.qfn _ (fun w' e => cthing_r _ _ _ s w' (h.ext (he.trans e))) ?_
  refine Sg ?_
  intro w3 he3
  have hc2 := he3.obj hc2
  refine Sg ?_
  intro w4 hw4 hc4
  refine Sg ?_
  refine ⟨?_, hw4.ext (he.trans he3) (by have := he1.size; omega)⟩
  by_cases hb : (Abs.thing l[i].scalar l[i].over s).2 = true
  · rw [if_pos hb, hb]; rfl
  · rw [if_neg hb, Bool.eq_false_iff.2 hb]; exact ⟨_, _, rfl⟩
theorem channel_r (n : Int) (cs : List Value) (s : Abs.Scope) (w : World) (h : Abs.ScopeIs w cs s) :
    Ret Tryz.prog F.cmd_channel #[.int .i64 n, .agg cs.toArray] w fun v w' => v = .tuple #[.int .i64 ((Abs.channel n s).getD 0), .bool (Abs.channel n s).isSome] ∧ Ext w w' := by
  obtain ⟨a0, c0, a1, c1, a2, c2, a3, c3, a4, c4, rfl, h0, h1, h2, h3, h4, l0, l1, l2, l3, l4⟩ := h.form
  refine K.start hmix E.cmd_channel (args := [_, _]) (Nat.le_of_ble_eq_true rfl) ?_; dsimp only [C.cmd_channel,yt,yi,yb,yp,yr,ye,yc,yv,yg,ym,yw,ya,yl,yx,ys,yn]
  refine Sg ?_
  intro w1 b1 hb1 he1 hc1
  refine Sg ?_
  refine K.cond (fun g1 => ?_) (fun g1 => ?_)
  · refine Sg ?_
    rw [Abs.channel, Abs.nth_none (.inl g1)]
    (refine ⟨?_, ?_⟩ <;> first | trivial | rfl | (repeat' first | assumption | exact Ext.refl _ | refine Ext.trans ?_ (by assumption)))
  refine Sg ?_
  refine K.cond (fun g2 => ?_) (fun g2 => ?_)
  · refine Sg ?_
    rw [Abs.channel, Abs.nth_none (.inr (by omega))]
    (refine ⟨?_, ?_⟩ <;> first | trivial | rfl | (repeat' first | assumption | exact Ext.refl _ | refine Ext.trans ?_ (by assumption)))
  obtain ⟨i, rfl⟩ := Int.eq_ofNat_of_zero_le (show 0 ≤ n by omega)
  have hi : i < s.chans.length := by omega
  rw [Abs.channel, Abs.nth_some (by omega) (by omega)]
  simp only [Int.toNat_natCast]
  obtain ⟨a, rfl⟩ := h2.addr (by omega)
  refine Sg ?_
  refine K.qfn _ (fun w' e => cthing_r _ _ _ s w' (h.ext (he1.trans e))) ?_
  refine Sg ?_
  intro w2 he2
  refine Sg ?_
  refine ⟨?_, by (repeat' first | assumption | exact Ext.refl _ | refine Ext.trans ?_ (by assumption))⟩
  by_cases hb : (Abs.thing s.chans[i].scalar 0 s).2 = true
  · rw [if_pos hb, hb]; rfl
  · rw [if_neg hb, Bool.eq_false_iff.2 hb]
    rw [Abs.thing_false (Bool.eq_false_iff.2 hb)]; rfl
theorem asked_r (ve : Value) (e : List Abs.Node) (k : Int) (cs : List Value) (s : Abs.Scope) (w : World) (hn : Abs.Nodes w ve e) (h : Abs.ScopeIs w cs s) :
    Ret Tryz.prog F.cmd_asked #[ve, .int .i64 k, .agg cs.toArray] w fun v w' => v = .int .i64 (Abs.asked e k s) ∧ Ext w w' := by
  obtain ⟨v0, v1, v2, v3, v4, rfl, _⟩ := h.ex
  refine K.start hmix E.cmd_asked (args := [_, _, _]) (Nat.le_of_ble_eq_true rfl) ?_; dsimp only [C.cmd_asked,yt,yi,yb,yp,yr,ye,yc,yv,yg,ym,yw,ya,yl,yx,ys,yn]
  refine Sg ?_
  intro w1 b1 hb1 he1 hc1
  refine Sg ?_
  refine K.call (kind_r ve e _ s w1 (hn.ext he1) (h.ext he1)) ?_
  rintro _ w2 ⟨rfl, he2⟩
  refine Sg ?_
  rw [Abs.asked]
  refine K.cond (fun g1 => ?_) (fun g1 => ?_)
  · rw [if_neg (by simpa using g1)]
    refine Sg ?_
    refine K.cond (fun g2 => ?_) (fun g2 => ?_)
    · refine Sg ?_
      rw [if_neg (by simpa using g2)]
      (refine ⟨?_, ?_⟩ <;> first | trivial | rfl | (repeat' first | assumption | exact Ext.refl _ | refine Ext.trans ?_ (by assumption)))
    refine Sg ?_
    rw [if_pos g2]
    (refine ⟨?_, ?_⟩ <;> first | trivial | rfl | (repeat' first | assumption | exact Ext.refl _ | refine Ext.trans ?_ (by assumption)))
  refine Sg ?_
  rw [if_pos g1]
  (refine ⟨?_, ?_⟩ <;> first | trivial | rfl | (repeat' first | assumption | exact Ext.refl _ | refine Ext.trans ?_ (by assumption)))
theorem talks_r (a : Abs.Act) (vi vv : Value) (w : World) : Ret Tryz.prog F.cmd_talks #[.agg (a.enc vi vv).toArray] w fun v w' => v = .bool (Abs.talks a) ∧ Ext w w' := by
  refine K.start hmix E.cmd_talks (args := [_]) (Nat.le_of_ble_eq_true rfl) ?_; dsimp only [C.cmd_talks,yt,yi,yb,yp,yr,ye,yc,yv,yg,ym,yw,ya,yl,yx,ys,yn]
  refine Sg ?_
  intro w1 b1 hb1 he1 hc1
  refine Sg ?_
  rw [Abs.talks]
  refine K.cond (fun g1 => ?_) (fun g1 => ?_)
  · refine Sg ?_
    refine ⟨?_, by (repeat' first | assumption | exact Ext.refl _ | refine Ext.trans ?_ (by assumption))⟩
    congr 1; simp [g1]
  refine Sg ?_
  refine ⟨?_, by (repeat' first | assumption | exact Ext.refl _ | refine Ext.trans ?_ (by assumption))⟩
  congr 1; simp [g1]
theorem receives_r (a : Abs.Act) (vi vv : Value) (k : Int) (cs : List Value) (s : Abs.Scope) (w : World) (h : Abs.ScopeIs w cs s) :
    Ret Tryz.prog F.cmd_receives #[.agg (a.enc vi vv).toArray, .int .i64 k, .agg cs.toArray] w fun v w' => v = .int .i64 (Abs.receives a k s) ∧ Ext w w' := by
  obtain ⟨v0, v1, v2, v3, v4, rfl, h0, h1, h2, h3, h4, _⟩ := h.ex
  refine K.start hmix E.cmd_receives (args := [_, _, _]) (Nat.le_of_ble_eq_true rfl) ?_; dsimp only [C.cmd_receives,yt,yi,yb,yp,yr,ye,yc,yv,yg,ym,yw,ya,yl,yx,ys,yn]
  refine Sg ?_
  intro w1 b1 hb1 he1 hc1
  refine Sg ?_
  intro w2 b2 hb2 he2 hc2
  have he := he1.trans he2
  refine Sg ?_
  refine K.call (declared_r v4 s.locals a.loc _ s w2 (h4.ext he) (h.ext he)) ?_
  rintro q w3 ⟨hq, he3⟩
  rw [Abs.receives]
  cases hd : Abs.declared s.locals a.loc s with
  | none =>
    rw [hd] at hq
    obtain ⟨x, k', rfl⟩ := hq
    refine Sg ?_
    intro w4 b4 hb4 he4 hc4
    refine Sg ?_
    (refine ⟨?_, ?_⟩ <;> first | trivial | rfl | (repeat' first | assumption | exact Ext.refl _ | refine Ext.trans ?_ (by assumption)))
  | some q =>
    obtain ⟨x, k'⟩ := q
    rw [hd] at hq
    subst hq
    refine Sg ?_
    intro w4 b4 hb4 he4 hc4
    refine Sg ?_
    refine K.cond (fun g1 => ?_) (fun g1 => ?_)
    · refine Sg ?_
      refine K.cond (fun g2 => ?_) (fun g2 => ?_)
      · refine Sg ?_
        simp only [g1, g2, ne_eq, not_true_eq_false, or_self, if_false]
        (refine ⟨?_, ?_⟩ <;> first | trivial | rfl | (repeat' first | assumption | exact Ext.refl _ | refine Ext.trans ?_ (by assumption)))
      refine Sg ?_
      simp only [g2, ne_eq, not_false_eq_true, or_true, if_true]
      (refine ⟨?_, ?_⟩ <;> first | trivial | rfl | (repeat' first | assumption | exact Ext.refl _ | refine Ext.trans ?_ (by assumption)))
    refine Sg ?_
    simp only [g1, ne_eq, not_false_eq_true, true_or, if_true]
    (refine ⟨?_, ?_⟩ <;> first | trivial | rfl | (repeat' first | assumption | exact Ext.refl _ | refine Ext.trans ?_ (by assumption)))
end Go.Proofs.YtbbaokmelkiemaaGreatDoor
end
section
/- Commands: what an act, and a whole command, must be. -/
set_option maxRecDepth 4000
set_option maxHeartbeats 1600000
namespace Abs
open Go Go.RowKit Lite
theorem actsE_cons {s : Scope} {l : List Act} {k : Nat} {t : Bool} (h : k < l.length) :
    actsE s (l.drop k) k t = if talks l[k] && t then (2 + (k : Int), 7) else if actE l[k] s ≠ 0 then (2 + (k : Int), actE l[k] s) else actsE s (l.drop (k + 1)) (k + 1) (t || talks l[k]) := by
  rw [List.drop_eq_getElem_cons h]; rfl
end Abs
namespace Go.Proofs.YtbbaokmelkiemaaGreatDoor
open Go Go.RowKit Lite

theorem act1_r (k : Int) (a : Abs.Act) (vi vv : Value) (cs : List Value) (s : Abs.Scope) (w : World) (b1 b2 : Nat) (hb1 : w.heap[b1]? = some (.cells (a.enc vi vv).toArray T.api_Act)) (hb2 : w.heap[b2]? = some (.cells cs.toArray T.api_Scope))
    (hv : Abs.Nodes w vv a.value) (h : Abs.ScopeIs w cs s) :
    Ret Tryz.prog F.cmd_act_1 #[.int .i64 k, .pointer (some ⟨b1, 0, none⟩), .pointer (some ⟨b2, 0, none⟩)] w fun v w' => v = .int .i64 (Abs.asked a.value k s) ∧ Ext w w' := by
  obtain ⟨v0, v1, v2, v3, v4, rfl, _⟩ := h.ex
  refine K.start hmix E.cmd_act_1 (args := [_, _, _]) (Nat.le_of_ble_eq_true rfl) ?_; dsimp only [C.cmd_act_1,yt,yi,yb,yp,yr,ye,yc,yv,yg,ym,yw,ya,yl,yx,ys,yn]
  refine Sg ?_
  refine K.call (asked_r vv a.value k _ s w hv h) ?_
  rintro _ w2 ⟨rfl, he2⟩
  refine Sg ?_
  (refine ⟨?_, ?_⟩ <;> first | trivial | rfl | (repeat' first | assumption | exact Ext.refl _ | refine Ext.trans ?_ (by assumption)))
theorem act_r (a : Abs.Act) (vi vv : Value) (cs : List Value) (s : Abs.Scope) (w : World) (hi : Abs.Nodes w vi a.index) (hv : Abs.Nodes w vv a.value) (h : Abs.ScopeIs w cs s) :
    Ret Tryz.prog F.cmd_act #[.agg (a.enc vi vv).toArray, .agg cs.toArray] w fun v w' => v = .int .i64 (Abs.actE a s) ∧ Ext w w' := by
  obtain ⟨v0, v1, v2, v3, v4, rfl, h0, h1, h2, h3, h4, l0⟩ := h.ex
  refine K.start hmix E.cmd_act (args := [_, _]) (Nat.le_of_ble_eq_true rfl) ?_; dsimp only [C.cmd_act,yt,yi,yb,yp,yr,ye,yc,yv,yg,ym,yw,ya,yl,yx,ys,yn]
  refine Sg ?_
  intro w1 b1 hb1 he1 hc1
  refine Sg ?_
  intro w2 b2 hb2 he2 hc2
  have he := he1.trans he2
  have hc1 := he2.obj hc1
  by_cases q : a.kind = 1 ∨ a.kind = 2 ∨ a.kind = 3
  · rw [Abs.actE, if_pos q]
    generalize hL : (if a.kind = 3 then s.locals else s.vars) = L
    have hcall : ∀ vl n, vl = (if a.kind = 3 then v4 else v1) → Ret Tryz.prog F.cmd_declared #[vl, .int .i64 n, .agg #[v0, v1, v2, v3, v4, .int .i64 s.self]] w2 fun v w' => Abs.DeclV v (Abs.declared L n s) ∧ Ext w2 w' := by
      rintro vl n rfl
      refine declared_r _ L n _ s w2 ?_ (h.ext he)
      rw [← hL]
      split
      · exact h4.ext he
      · exact h1.ext he
    by_cases q5 : a.kind = 2
    · refine Sg ?_
      refine K.call (hcall _ _ (by simp [q5])) ?_
      rintro u w3 ⟨hq, he3⟩
      have hc1 := he3.obj hc1
      have hc2 := he3.obj hc2
      have he03 := he.trans he3
      cases hd : Abs.declared L a.to s with
      | none =>
        rw [hd] at hq
        obtain ⟨x, k', rfl⟩ := hq
        refine Sg ?_
        intro w4 b4 hb4 he4 hc4
        refine Sg ?_
        (refine ⟨?_, ?_⟩ <;> first | trivial | rfl | (repeat' first | assumption | exact Ext.refl _ | refine Ext.trans ?_ (by assumption)))
      | some u =>
        obtain ⟨x, k'⟩ := u
        rw [hd] at hq
        subst hq
        have hov := Abs.declared_over hd
        simp only at hov
        refine Sg ?_
        intro w4 b4 hb4 he4 hc4
        have hc1 := he4.obj hc1
        have hc2 := he4.obj hc2
        have he04 := he03.trans he4
        refine Sg ?_
        refine K.neb (by kernel_rfl) ?_
        refine Sg ?_
        by_cases q2 : x.over = 0
        · refine K.condbT (by simp [q5, q2]) ?_
          refine Sg ?_
          exact ⟨by simp [q5, q2], by (repeat' first | assumption | exact Ext.refl _ | refine Ext.trans ?_ (by assumption))⟩
        refine K.condbF (by simp [q5, q2]) ?_
        refine Sg ?_
        refine K.call (asked_r vi a.index _ _ s w4 (hi.ext he04) (h.ext he04)) ?_
        rintro _ w5 ⟨rfl, he5⟩
        have hc1 := he5.obj hc1
        have hc2 := he5.obj hc2
        have he05 := he04.trans he5
        refine Sg ?_
        refine K.cond (fun q3 => ?_) (fun q3 => ?_)
        · refine Sg ?_
          refine K.callV (first := []) (cap := [_, _]) (by kernel_rfl) (act1_r k' a vi vv _ s w5 b1 b2 hc1 hc2 (hv.ext he05) (h.ext he05)) ?_
          rintro _ w6 ⟨rfl, he6⟩
          refine Sg ?_
          exact ⟨by simp [q5, q2, q3], by (repeat' first | assumption | exact Ext.refl _ | refine Ext.trans ?_ (by assumption))⟩
        · refine Sg ?_
          exact ⟨by simp [q5, q2, q3], by (repeat' first | assumption | exact Ext.refl _ | refine Ext.trans ?_ (by assumption))⟩
    have q6 : a.kind = 1 ∨ a.kind = 3 := by omega
    clear q
    rcases q6 with q | q
    all_goals
      refine Sg ?_
      refine K.call (hcall _ _ (by simp [q])) ?_
      rintro u w3 ⟨hq, he3⟩
      have hc1 := he3.obj hc1
      have hc2 := he3.obj hc2
      have he03 := he.trans he3
      cases hd : Abs.declared L a.to s with
      | none =>
        rw [hd] at hq
        obtain ⟨x, k', rfl⟩ := hq
        refine Sg ?_
        intro w4 b4 hb4 he4 hc4
        refine Sg ?_
        (refine ⟨?_, ?_⟩ <;> first | trivial | rfl | (repeat' first | assumption | exact Ext.refl _ | refine Ext.trans ?_ (by assumption)))
      | some u =>
        obtain ⟨x, k'⟩ := u
        rw [hd] at hq
        subst hq
        refine Sg ?_
        intro w4 b4 hb4 he4 hc4
        have hc1 := he4.obj hc1
        have hc2 := he4.obj hc2
        have he04 := he03.trans he4
        refine Sg ?_
        refine K.neb (by kernel_rfl) ?_
        refine Sg ?_
        by_cases q2 : x.over = 0
        · refine K.condbF (by simp [q, q2]) ?_
          refine Sg ?_
          refine K.callV (first := []) (cap := [_, _]) (by kernel_rfl) (act1_r k' a vi vv _ s w4 b1 b2 hc1 hc2 (hv.ext he04) (h.ext he04)) ?_
          rintro _ w6 ⟨rfl, he6⟩
          refine Sg ?_
          exact ⟨by simp [q, q2], by (repeat' first | assumption | exact Ext.refl _ | refine Ext.trans ?_ (by assumption))⟩
        · refine K.condbT (by simp [q, q2]) ?_
          refine Sg ?_
          exact ⟨by simp [q, q2], by (repeat' first | assumption | exact Ext.refl _ | refine Ext.trans ?_ (by assumption))⟩
  by_cases q4 : a.kind = 4 ∨ a.kind = 5
  · rw [Abs.actE, if_neg q, if_pos q4]
    have q7 : a.kind ≠ 3 := by omega
    have q8 : a.kind ≠ 1 := by omega
    have q9 : a.kind ≠ 2 := by omega
    have step : ∀ (w' : World), Ext w2 w' → Ret Tryz.prog F.cmd_channel #[.int .i64 a.to, .agg #[v0, v1, v2, v3, v4, .int .i64 s.self]] w' fun v w'' => v = .tuple #[.int .i64 ((Abs.channel a.to s).getD 0), .bool (Abs.channel a.to s).isSome] ∧ Ext w' w'' :=
      fun w' e => channel_r a.to _ s w' (h.ext (he.trans e))
    rcases q4 with q4 | q4
    · refine Sg ?_
      refine K.call (step w2 (Ext.refl _)) ?_
      rintro _ w3 ⟨rfl, he3⟩
      have hc1 := he3.obj hc1
      have hc2 := he3.obj hc2
      have he03 := he.trans he3
      cases hd : Abs.channel a.to s with
      | none =>
        simp only [Option.isSome_none, Option.getD_none]
        refine Sg ?_
        (refine ⟨?_, ?_⟩ <;> first | trivial | rfl | (repeat' first | assumption | exact Ext.refl _ | refine Ext.trans ?_ (by assumption)))
      | some k =>
        simp only [Option.isSome_some, Option.getD_some]
        refine Sg ?_
        refine K.callV (first := []) (cap := [_, _]) (by kernel_rfl) (act1_r k a vi vv _ s w3 b1 b2 hc1 hc2 (hv.ext he03) (h.ext he03)) ?_
        rintro _ w6 ⟨rfl, he6⟩
        refine Sg ?_
        exact ⟨by simp [q4], by (repeat' first | assumption | exact Ext.refl _ | refine Ext.trans ?_ (by assumption))⟩
    · refine Sg ?_
      refine K.call (step w2 (Ext.refl _)) ?_
      rintro _ w3 ⟨rfl, he3⟩
      have hc1 := he3.obj hc1
      have hc2 := he3.obj hc2
      have he03 := he.trans he3
      cases hd : Abs.channel a.to s with
      | none =>
        simp only [Option.isSome_none, Option.getD_none]
        refine Sg ?_
        (refine ⟨?_, ?_⟩ <;> first | trivial | rfl | (repeat' first | assumption | exact Ext.refl _ | refine Ext.trans ?_ (by assumption)))
      | some k =>
        simp only [Option.isSome_some, Option.getD_some]
        refine Sg ?_
        refine K.call (receives_r a vi vv k _ s w3 (h.ext he03)) ?_
        rintro _ w6 ⟨rfl, he6⟩
        refine Sg ?_
        exact ⟨by simp [q4], by (repeat' first | assumption | exact Ext.refl _ | refine Ext.trans ?_ (by assumption))⟩
  rw [Abs.actE, if_neg q, if_neg q4]
  have q7 : a.kind ≠ 3 := by omega
  have q8 : a.kind ≠ 1 := by omega
  have q9 : a.kind ≠ 2 := by omega
  have q10 : a.kind ≠ 4 := by omega
  have q11 : a.kind ≠ 5 := by omega
  refine Sg ?_
  (refine ⟨?_, ?_⟩ <;> first | trivial | rfl | (repeat' first | assumption | exact Ext.refl _ | refine Ext.trans ?_ (by assumption)))
end Go.Proofs.YtbbaokmelkiemaaGreatDoor
end
section
/- Plain: what commands that are right have. No program in sight. -/
namespace Abs
open Go
theorem head_ok {c : Cmd} {n : Int} (h : head c n = 0) : isName c.name = true ∧ 0 ≤ c.from_ ∧ c.from_ < n ∧ 0 ≤ c.to ∧ c.to < n ∧ c.acts.length ≤ 6 := by
  unfold head at h
  by_cases h1 : isName c.name = false
  · rw [if_pos h1] at h; cases h
  rw [if_neg h1] at h
  by_cases h2 : c.from_ < 0 ∨ n ≤ c.from_ ∨ c.to < 0 ∨ n ≤ c.to
  · rw [if_pos h2] at h; cases h
  rw [if_neg h2] at h
  by_cases h3 : c.acts.length > 6
  · rw [if_pos h3] at h; cases h
  exact ⟨by simpa using h1, by omega, by omega, by omega, by omega, by omega⟩
end Abs
end
section
/- Commands: what a whole command must be; what it sends or receives by. -/
set_option maxRecDepth 4000
set_option maxHeartbeats 1600000
namespace Abs
open Go Go.RowKit Lite
end Abs
namespace Go.Proofs.YtbbaokmelkiemaaGreatDoor
open Go Go.RowKit Lite
theorem head1_r (n : Int) (p : Abs.Proc) (pv pc : Value) (w : World) (b : Nat) (hb : w.heap[b]? = some (.cells (p.enc pv pc).toArray T.api_Proc)) :
    Ret Tryz.prog F.cmd_head_1 #[.int .i64 n, .pointer (some ⟨b, 0, none⟩)] w fun v w' => v = .bool (decide (n < 0 ∨ p.locs ≤ n)) ∧ w' = w := by
  refine K.start hmix E.cmd_head_1 (args := [_, _]) (Nat.le_of_ble_eq_true rfl) ?_; dsimp only [C.cmd_head_1,yt,yi,yb,yp,yr,ye,yc,yv,yg,ym,yw,ya,yl,yx,ys,yn]
  refine Sg ?_
  refine K.cond (fun g1 => ?_) (fun g1 => ?_)
  · refine Sg ?_
    exact ⟨by simp [g1], by first | trivial | rfl⟩
  refine Sg ?_
  exact ⟨by simp [g1], by first | trivial | rfl⟩
theorem head_r (c : Abs.Cmd) (vg va : Value) (p : Abs.Proc) (pv pc : Value) (w : World) (ho : OwnIs w) (hn : Abs.strOk c.name) (ha : Abs.Acts w va c.acts) :
    Ret Tryz.prog F.cmd_head #[.agg (c.enc vg va).toArray, .agg (p.enc pv pc).toArray] w fun v w' => v = .int .i64 (Abs.head c p.locs) ∧ Ext w w' := by
  obtain ⟨oa, cap, rfl, hlen⟩ := ha.form
  refine K.start hmix E.cmd_head (args := [_, _]) (Nat.le_of_ble_eq_true rfl) ?_; dsimp only [C.cmd_head,yt,yi,yb,yp,yr,ye,yc,yv,yg,ym,yw,ya,yl,yx,ys,yn]
  refine Sg ?_
  intro w1 b1 hb1 he1 hc1
  refine Sg ?_
  intro w2 b2 hb2 he2 hc2
  have he := he1.trans he2
  have hc1 := he2.obj hc1
  refine Sg ?_
  refine K.call (name_r c.name w2 (ho.ext he) hn) ?_
  rintro _ w3 ⟨rfl, he3⟩
  have hc1 := he3.obj hc1
  have hc2 := he3.obj hc2
  have he03 := he.trans he3
  rw [Abs.head]
  refine Sg ?_
  refine K.condb (fun g1 => ?_) (fun g1 => ?_)
  rotate_left
  · refine Sg ?_
    exact ⟨by simp [g1], by (repeat' first | assumption | exact Ext.refl _ | refine Ext.trans ?_ (by assumption))⟩
  refine Sg ?_
  refine K.callV (first := []) (cap := [_]) (by kernel_rfl) (head1_r c.from_ p pv pc w3 b2 hc2) ?_
  rintro _ _ ⟨rfl, rfl⟩
  refine Sg ?_
  refine K.cond (fun g2 => ?_) (fun g2 => ?_)
  · refine Sg ?_
    refine ⟨?_, by (repeat' first | assumption | exact Ext.refl _ | refine Ext.trans ?_ (by assumption))⟩
    rw [if_neg (by simp [g1]), if_pos (by omega)]
  refine Sg ?_
  refine K.callV (first := []) (cap := [_]) (by kernel_rfl) (head1_r c.to p pv pc _ b2 hc2) ?_
  rintro _ _ ⟨rfl, rfl⟩
  refine Sg ?_
  refine K.cond (fun g3 => ?_) (fun g3 => ?_)
  · refine Sg ?_
    refine ⟨?_, by (repeat' first | assumption | exact Ext.refl _ | refine Ext.trans ?_ (by assumption))⟩
    rw [if_neg (by simp [g1]), if_pos (by omega)]
  refine Sg ?_
  refine K.cond (fun g4 => ?_) (fun g4 => ?_)
  · refine Sg ?_
    refine ⟨?_, by (repeat' first | assumption | exact Ext.refl _ | refine Ext.trans ?_ (by assumption))⟩
    rw [if_neg (by simp [g1]), if_neg (by omega), if_pos (by omega)]
  · refine Sg ?_
    refine ⟨?_, by (repeat' first | assumption | exact Ext.refl _ | refine Ext.trans ?_ (by assumption))⟩
    rw [if_neg (by simp [g1]), if_neg (by omega), if_neg (by omega)]
theorem check_r (c : Abs.Cmd) (vg va : Value) (p : Abs.Proc) (pv pc : Value) (cs : List Value) (s : Abs.Scope) (w : World) (ho : OwnIs w) (hn : Abs.strOk c.name) (hg : Abs.Nodes w vg c.guard) (ha : Abs.Acts w va c.acts)
    (hv : Abs.Vars w pv p.vars) (hc : Abs.Cmds w pc p.cmds) (h : Abs.ScopeIs w cs s) :
    Ret Tryz.prog F.cmd_Check #[.agg (c.enc vg va).toArray, .agg (p.enc pv pc).toArray, .agg cs.toArray] w fun v w' =>
      v = .tuple #[.int .i64 (Abs.cmdCheck c p.locs s).1, .int .i64 (Abs.cmdCheck c p.locs s).2] ∧ Ext w w' := by
  obtain ⟨a0, c0, a1, c1, a2, c2, a3, c3, a4, c4, rfl, _⟩ := h.form
  obtain ⟨oa, cap, rfl, hlen⟩ := ha.form
  obtain ⟨og, capg, rfl, hleng⟩ := hg.form
  obtain ⟨_, _, rfl, _⟩ := hv.form
  obtain ⟨_, _, rfl, _⟩ := hc.form
  refine K.start hmix E.cmd_Check (args := [_, _, _]) (Nat.le_of_ble_eq_true rfl) ?_; dsimp only [C.cmd_Check,yt,yi,yb,yp,yr,ye,yc,yv,yg,ym,yw,ya,yl,yx,ys,yn]
  refine Sg ?_
  intro w1 b1 hb1 he1 hc1
  refine Sg ?_
  intro w2 b2 hb2 he2 hc2
  refine Sg ?_
  intro w3 b3 hb3 he3 hc3
  have he := (he1.trans he2).trans he3
  have hc1 := (he2.trans he3).obj hc1
  have hc2 := he3.obj hc2
  refine Sg ?_
  refine K.call (head_r c _ _ p _ _ w3 (ho.ext he) hn (ha.ext he)) ?_
  rintro _ w4 ⟨rfl, he4⟩
  have hc1 := he4.obj hc1
  have hc3 := he4.obj hc3
  have he04 := he.trans he4
  rw [Abs.cmdCheck]
  refine Sg ?_
  refine K.cond (fun g1 => ?_) (fun g1 => ?_)
  rotate_left
  · refine Sg ?_
    exact ⟨by simp [g1], by (repeat' first | assumption | exact Ext.refl _ | refine Ext.trans ?_ (by assumption))⟩
  rw [if_neg (by simpa using g1)]
  have h6 := (Abs.head_ok g1).2.2.2.2.2
  refine Su ?_
  refine K.cutG [3, 4, 5] (fun _ => []) (fun (_ : Unit) w' => Ext w4 w' ∧ ¬ (c.guard.length > 0 ∧ Abs.asked c.guard 1 s ≠ 0)) ?_ ?_
  · refine Sg ?_
    refine K.cond (fun g2 => ?_) (fun g2 => ?_)
    · refine Sg ?_
      refine K.call (asked_r _ c.guard 1 _ s w4 (hg.ext he04) (h.ext he04)) ?_
      rintro _ w5 ⟨rfl, he5⟩
      refine Sg ?_
      refine K.cond (fun g3 => ?_) (fun g3 => ?_)
      · refine Sg ?_
        exact ⟨(), trivial, by (repeat' first | assumption | exact Ext.refl _ | refine Ext.trans ?_ (by assumption)), fun hh => hh.2 g3⟩
      · refine Sg ?_
        rw [if_pos ⟨by omega, g3⟩]
        (refine ⟨?_, ?_⟩ <;> first | trivial | rfl | (repeat' first | assumption | exact Ext.refl _ | refine Ext.trans ?_ (by assumption)))
    · refine Sg ?_
      exact ⟨(), trivial, by (repeat' first | assumption | exact Ext.refl _ | refine Ext.trans ?_ (by assumption)), fun hh => g2 (by omega)⟩
  rintro _ S w5 ⟨he5, hgd⟩
  have hc1 := he5.obj hc1
  have hc3 := he5.obj hc3
  have he05 := he04.trans he5
  rw [if_neg hgd]
  refine Sg ?_
  refine K.forG 34 c.acts.length [3, 4, 5, 32, 33] (fun b => [(10, .bool b)]) false (fun k b w' => Ext w5 w' ∧ Abs.actsE s c.acts 0 false = Abs.actsE s (c.acts.drop k) k b) (by first | trivial | rfl | exact ⟨rfl, trivial⟩ | (simp -dsimp only [LL,slots_nil,slots_cons,keepV_nil,keepV_cons,has_nil,has_cons,Nat.reduceAdd,Nat.reduceEqDiff,reduceIte,and_self]; done) | (simp -dsimp only [LL,slots_nil,slots_cons,keepV_nil,keepV_cons,has_nil,has_cons,Nat.reduceAdd,Nat.reduceEqDiff,reduceIte,and_self]; exact ⟨rfl, trivial⟩)) (by first | trivial | rfl | exact ⟨rfl, trivial⟩ | (simp -dsimp only [LL,slots_nil,slots_cons,keepV_nil,keepV_cons,has_nil,has_cons,Nat.reduceAdd,Nat.reduceEqDiff,reduceIte,and_self]; done) | (simp -dsimp only [LL,slots_nil,slots_cons,keepV_nil,keepV_cons,has_nil,has_cons,Nat.reduceAdd,Nat.reduceEqDiff,reduceIte,and_self]; exact ⟨rfl, trivial⟩)) ⟨Ext.refl _, by simp⟩ ?_
  rintro k b S w6 hk ⟨he6, hI⟩
  have he06 := he05.trans he6
  refine Sg ?_
  refine K.cond (fun g1 => ?_) (fun g1 => ?_)
  · have hk' : k < c.acts.length := by omega
    obtain ⟨a, rfl⟩ := ha.addr (by omega)
    obtain ⟨vi, vv, hcell, hvi, hvv⟩ := ha.at k hk'
    obtain ⟨_, _, rfl, _⟩ := hvi.form
    obtain ⟨_, _, rfl, _⟩ := hvv.form
    rw [Abs.actsE_cons hk'] at hI
    refine Sg ?_
    intro w7 b7 hb7 he7 hc7
    refine Su ?_
    intro w8 hw8 hc8
    have he68 := hw8.ext he7 hb7
    have he08 := he06.trans he68
    have hc3 := (he6.trans he68).obj hc3
    refine Su ?_
    refine K.cutG [3, 5, 10, 11, 12, 32, 33, 34] (fun _ => []) (fun (_ : Unit) w' => Ext w8 w' ∧ ¬ (Abs.talks c.acts[k] && b) = true) ?_ ?_
    · refine Sg ?_
      refine K.call (talks_r c.acts[k] _ _ w8) ?_
      rintro _ w9 ⟨rfl, he9⟩
      refine Sg ?_
      refine K.condb (fun g2 => ?_) (fun g2 => ?_)
      · refine Sg ?_
        refine K.condb (fun g3 => ?_) (fun g3 => ?_)
        · refine Sg ?_
          rw [hI, if_pos (by simp [g2, g3])]
          (refine ⟨?_, ?_⟩ <;> first | trivial | rfl | (repeat' first | assumption | exact Ext.refl _ | refine Ext.trans ?_ (by assumption)))
        · refine Sg ?_
          exact ⟨(), trivial, by (repeat' first | assumption | exact Ext.refl _ | refine Ext.trans ?_ (by assumption)), by simp [g3]⟩
      · refine Sg ?_
        exact ⟨(), trivial, by (repeat' first | assumption | exact Ext.refl _ | refine Ext.trans ?_ (by assumption)), by simp [g2]⟩
    rintro _ S w9 ⟨he9, g2⟩
    rw [if_neg g2] at hI
    have hc8 := he9.obj hc8
    have hc3 := he9.obj hc3
    refine Su ?_
    refine K.cutG [3, 5, 11, 12, 32, 33, 34] (fun u => [(10, .bool u)]) (fun u w' => Ext w9 w' ∧ u = (b || Abs.talks c.acts[k])) ?_ ?_
    · refine Sg ?_
      refine K.condb (fun g3 => ?_) (fun g3 => ?_)
      · refine Sg ?_
        exact ⟨true, (by first | trivial | rfl | exact ⟨rfl, trivial⟩ | (simp -dsimp only [LL,slots_nil,slots_cons,keepV_nil,keepV_cons,has_nil,has_cons,Nat.reduceAdd,Nat.reduceEqDiff,reduceIte,and_self]; done) | (simp -dsimp only [LL,slots_nil,slots_cons,keepV_nil,keepV_cons,has_nil,has_cons,Nat.reduceAdd,Nat.reduceEqDiff,reduceIte,and_self]; exact ⟨rfl, trivial⟩)), by (repeat' first | assumption | exact Ext.refl _ | refine Ext.trans ?_ (by assumption)), by simp [g3]⟩
      · refine Sg ?_
        refine K.call (talks_r c.acts[k] _ _ w9) ?_
        rintro _ w10 ⟨rfl, he10⟩
        refine Sg ?_
        exact ⟨Abs.talks c.acts[k], (by first | trivial | rfl | exact ⟨rfl, trivial⟩ | (simp -dsimp only [LL,slots_nil,slots_cons,keepV_nil,keepV_cons,has_nil,has_cons,Nat.reduceAdd,Nat.reduceEqDiff,reduceIte,and_self]; done) | (simp -dsimp only [LL,slots_nil,slots_cons,keepV_nil,keepV_cons,has_nil,has_cons,Nat.reduceAdd,Nat.reduceEqDiff,reduceIte,and_self]; exact ⟨rfl, trivial⟩)), by (repeat' first | assumption | exact Ext.refl _ | refine Ext.trans ?_ (by assumption)), by simp [g3]⟩
    rintro _ S w10 ⟨he10, rfl⟩
    have hc8 := he10.obj hc8
    have hc3 := he10.obj hc3
    have he010 := (he08.trans he9).trans he10
    have he510 := ((he6.trans he68).trans he9).trans he10
    refine Sg ?_
    refine K.call (act_r c.acts[k] _ _ _ s w10 (hvi.ext he010) (hvv.ext he010) (h.ext he010)) ?_
    rintro _ w11 ⟨rfl, he11⟩
    refine Sg ?_
    refine K.cond (fun g3 => ?_) (fun g3 => ?_)
    · refine Sg ?_
      rw [if_neg (by simpa using g3)] at hI
      exact ⟨hk', by first | trivial | rfl, _, (by first | trivial | rfl | exact ⟨rfl, trivial⟩ | (simp -dsimp only [LL,slots_nil,slots_cons,keepV_nil,keepV_cons,has_nil,has_cons,Nat.reduceAdd,Nat.reduceEqDiff,reduceIte,and_self]; done) | (simp -dsimp only [LL,slots_nil,slots_cons,keepV_nil,keepV_cons,has_nil,has_cons,Nat.reduceAdd,Nat.reduceEqDiff,reduceIte,and_self]; exact ⟨rfl, trivial⟩)), by (repeat' first | assumption | exact Ext.refl _ | refine Ext.trans ?_ (by assumption)), hI⟩
    · refine Sg ?_
      rw [hI, if_pos g3]
      (refine ⟨?_, ?_⟩ <;> first | trivial | rfl | (repeat' first | assumption | exact Ext.refl _ | refine Ext.trans ?_ (by assumption)))
  · refine Sg ?_
    rw [hI, List.drop_eq_nil_of_le (by omega)]
    (refine ⟨?_, ?_⟩ <;> first | trivial | rfl | (repeat' first | assumption | exact Ext.refl _ | refine Ext.trans ?_ (by assumption)))
end Go.Proofs.YtbbaokmelkiemaaGreatDoor
end
section
/- Processes: what one must be. -/
set_option maxRecDepth 4000
set_option maxHeartbeats 3200000
namespace Abs
theorem localsE_drop {s : Scope} {l : List Var} {k : Nat} (h : k < l.length) : localsE s (l.drop k) k = if l[k].over ≠ 0 then ((k : Int), 9) else if s.vars.any (fun x => decide (x.name = l[k].name)) then ((k : Int), 7) else localsE s (l.drop (k + 1)) (k + 1) := by
  rw [List.drop_eq_getElem_cons h]; rfl
theorem cmdsE_drop {own : Scope} {locs : Int} {all l : List Cmd} {k : Nat} (h : k < l.length) : cmdsE own locs all (l.drop k) k = if (cmdCheck l[k] locs own).2 ≠ 0 then (2 + (k : Int), (cmdCheck l[k] locs own).1, (cmdCheck l[k] locs own).2)
    else if (all.take k).any (fun x => decide (x.name = l[k].name)) then (2 + (k : Int), 0, 7) else cmdsE own locs all (l.drop (k + 1)) (k + 1) := by
  rw [List.drop_eq_getElem_cons h]; rfl
end Abs
namespace Go.Proofs.YtbbaokmelkiemaaGreatDoor
open Go Go.RowKit Lite
theorem whole_r (p : Abs.Proc) (o3 o4 : Option Addr) (n3 c3 c4 : Nat) (cs : List Value) (s : Abs.Scope) (w : World) (ho : OwnIs w) (hn : Abs.strOk p.name) (h : Abs.ScopeIs w cs s) :
    Ret Tryz.prog F.proc_whole #[.agg (p.enc (.slice o3 n3 c3) (.slice o4 p.cmds.length c4)).toArray, .agg cs.toArray] w fun v w' => v = .int .i64 (Abs.whole p s) ∧ Ext w w' := by
  obtain ⟨a0, c0, a1, c1, a2, c2, a3, d3, a4, d4, rfl, h0, h1, h2, h3, h4, l0, l1, l2, l3, l4⟩ := h.form
  refine K.start hmix E.proc_whole (args := [_, _]) (Nat.le_of_ble_eq_true rfl) ?_; dsimp only [C.proc_whole,yt,yi,yb,yp,yr,ye,yc,yv,yg,ym,yw,ya,yl,yx,ys,yn]
  refine Sg ?_
  intro w1 b1 hb1 he1 hc1
  refine Sg ?_
  intro w2 b2 hb2 he2 hc2
  have E2 : ∀ {w'}, Ext w2 w' → Ext w w' := fun e => (he1.trans he2).trans e
  have hc1 := he2.obj hc1
  refine Sg ?_
  refine K.call (name_r p.name w2 (ho.ext (E2 (Ext.refl _))) hn) ?_
  rintro _ w3 ⟨rfl, he3⟩
  have hc1 := he3.obj hc1
  have hc2 := he3.obj hc2
  rw [Abs.whole]
  refine Sg ?_
  refine K.condb (fun g1 => ?_) (fun g1 => ?_)
  rotate_left
  · refine Sg ?_
    exact ⟨by rw [if_pos g1], E2 he3⟩
  rw [if_neg (by simp [g1])]
  refine Sg ?_
  refine K.cond (fun g2 => ?_) (fun g2 => ?_)
  · refine Sg ?_
    exact ⟨by rw [if_pos (.inl g2)], E2 he3⟩
  refine Sg ?_
  refine K.cond (fun g3 => ?_) (fun g3 => ?_)
  · refine Sg ?_
    exact ⟨by rw [if_pos (.inr (by omega))], E2 he3⟩
  rw [if_neg (by omega)]
  refine Sg ?_
  refine K.cond (fun g4 => ?_) (fun g4 => ?_)
  · refine Sg ?_
    exact ⟨by rw [if_pos (.inl g4)], E2 he3⟩
  refine Sg ?_
  refine K.cond (fun g5 => ?_) (fun g5 => ?_)
  · refine Sg ?_
    exact ⟨by rw [if_pos (.inr (by omega))], E2 he3⟩
  rw [if_neg (by omega)]
  refine Sg ?_
  refine K.cond (fun g6 => ?_) (fun g6 => ?_)
  · refine Sg ?_
    exact ⟨by rw [if_pos (by omega)], E2 he3⟩
  refine Sg ?_
  exact ⟨by rw [if_neg (by omega)], E2 he3⟩
theorem locals1_r (x v : Abs.Var) (b : Nat) (w : World) (hc : w.heap[b]? = some (.cells v.enc.toArray T.api_Var)) :
    Ret Tryz.prog F.proc_locals_1 #[.agg x.enc.toArray, .pointer (some ⟨b, 0, none⟩)] w fun u w' => u = .bool (decide (x.name = v.name)) ∧ Ext w w' := by
  refine K.start hmix E.proc_locals_1 (args := [_, _]) (Nat.le_of_ble_eq_true rfl) ?_; dsimp only [C.proc_locals_1,yt,yi,yb,yp,yr,ye,yc,yv,yg,ym,yw,ya,yl,yx,ys,yn]
  refine Sg ?_
  intro w1 b1 hb1 he1 hc1
  refine Sg ?_
  (refine ⟨?_, ?_⟩ <;> first | trivial | rfl | (repeat' first | assumption | exact Ext.refl _ | refine Ext.trans ?_ (by assumption)))
theorem check1_r (x c : Abs.Cmd) (o1 o2 o3 o4 : Option Addr) (n1 n2 n3 n4 c1 c2 c3 c4 : Nat) (b : Nat) (w : World) (hc : w.heap[b]? = some (.cells (c.enc (.slice o3 n3 c3) (.slice o4 n4 c4)).toArray T.api_Cmd)) :
    Ret Tryz.prog F.proc_Check_1 #[.agg (x.enc (.slice o1 n1 c1) (.slice o2 n2 c2)).toArray, .pointer (some ⟨b, 0, none⟩)] w fun u w' => u = .bool (decide (x.name = c.name)) ∧ Ext w w' := by
  refine K.start hmix E.proc_Check_1 (args := [_, _]) (Nat.le_of_ble_eq_true rfl) ?_; dsimp only [C.proc_Check_1,yt,yi,yb,yp,yr,ye,yc,yv,yg,ym,yw,ya,yl,yx,ys,yn]
  refine Sg ?_
  intro w1 b1 hb1 he1 hc1
  refine Sg ?_
  (refine ⟨?_, ?_⟩ <;> first | trivial | rfl | (repeat' first | assumption | exact Ext.refl _ | refine Ext.trans ?_ (by assumption)))
theorem locals_r (p : Abs.Proc) (o3 o4 : Option Addr) (c3 n4 c4 : Nat) (cs : List Value) (s : Abs.Scope) (w : World) (ho : OwnIs w) (hv : Abs.Vars w (.slice o3 p.vars.length c3) p.vars) (h : Abs.ScopeIs w cs s) :
    Ret Tryz.prog F.proc_locals #[.agg (p.enc (.slice o3 p.vars.length c3) (.slice o4 n4 c4)).toArray, .agg cs.toArray] w fun v w' => v = .tuple #[.int .i64 (Abs.plocals p s).1, .int .i64 (Abs.plocals p s).2] ∧ Ext w w' := by
  obtain ⟨a0, c0, a1, c1, a2, c2, a3, d3, a4, d4, rfl, h0, h1, h2, h3, h4, l0, l1, l2, l3, l4⟩ := h.form
  have lv : p.vars.length ≤ 9223372036854775807 := by have := (SlR.len hv).2; unfold maxLen at this; omega
  refine K.start hmix E.proc_locals (args := [_, _]) (Nat.le_of_ble_eq_true rfl) ?_; dsimp only [C.proc_locals,yt,yi,yb,yp,yr,ye,yc,yv,yg,ym,yw,ya,yl,yx,ys,yn]
  refine Sg ?_
  intro w1 b1 hb1 he1 hc1
  refine Sg ?_
  intro w2 b2 hb2 he2 hc2
  have E2 : ∀ {w'}, Ext w2 w' → Ext w w' := fun e => (he1.trans he2).trans e
  have hc1 := he2.obj hc1
  refine Sg ?_
  refine K.call (vars_r _ _ p.vars s.scalars 4 w2 (ho.ext (E2 (Ext.refl _))) (hv.ext (E2 (Ext.refl _))) (h0.ext (E2 (Ext.refl _)))) ?_
  rintro _ w3 ⟨rfl, he3⟩
  have hc1 := he3.obj hc1
  have hc2 := he3.obj hc2
  rw [Abs.plocals]
  refine Sg ?_
  refine K.cond (fun g1 => ?_) (fun g1 => ?_)
  rotate_left
  · refine Sg ?_
    exact ⟨by rw [if_pos g1], E2 he3⟩
  rw [if_neg (by simpa using g1)]
  have E3 : ∀ {w'}, Ext w3 w' → Ext w w' := fun e => E2 (he3.trans e)
  refine Sg ?_
  refine K.forG 25 p.vars.length [3, 23, 24] (fun _ => []) () (fun k _ w' => Ext w3 w' ∧ Abs.localsE s p.vars 0 = Abs.localsE s (p.vars.drop k) k) (by first | trivial | rfl | exact ⟨rfl, trivial⟩ | (simp -dsimp only [LL,slots_nil,slots_cons,keepV_nil,keepV_cons,has_nil,has_cons,Nat.reduceAdd,Nat.reduceEqDiff,reduceIte,and_self]; done) | (simp -dsimp only [LL,slots_nil,slots_cons,keepV_nil,keepV_cons,has_nil,has_cons,Nat.reduceAdd,Nat.reduceEqDiff,reduceIte,and_self]; exact ⟨rfl, trivial⟩)) (by first | trivial | rfl | exact ⟨rfl, trivial⟩ | (simp -dsimp only [LL,slots_nil,slots_cons,keepV_nil,keepV_cons,has_nil,has_cons,Nat.reduceAdd,Nat.reduceEqDiff,reduceIte,and_self]; done) | (simp -dsimp only [LL,slots_nil,slots_cons,keepV_nil,keepV_cons,has_nil,has_cons,Nat.reduceAdd,Nat.reduceEqDiff,reduceIte,and_self]; exact ⟨rfl, trivial⟩)) ⟨Ext.refl _, by simp⟩ ?_
  rintro k _ S w4 hk ⟨he4, hI⟩
  refine Sg ?_
  refine K.cond (fun g2 => ?_) (fun g2 => ?_)
  · have hk' : k < p.vars.length := by omega
    obtain ⟨a, rfl⟩ := hv.addr (by omega)
    replace hv := hv.ext (E3 (Ext.refl _))
    rw [Abs.localsE_drop hk'] at hI
    refine Sg ?_
    intro wN b9 hb9 heN hcN
    refine Sg ?_
    intro w5 hw5 hc5
    have he5 := hw5.ext heN hb9
    refine Sg ?_
    refine K.cond (fun g3 => ?_) (fun g3 => ?_)
    rotate_left
    · refine Sg ?_
      exact ⟨by rw [hI, if_pos g3], E3 (he4.trans he5)⟩
    rw [if_neg (by simpa using g3)] at hI
    refine Sg ?_
    refine K.call (containsFunc_r hmix E.slices_ContainsFunc_sl_api_Var_api_Var E.slices_IndexFunc_sl_api_Var_api_Var _ s.vars w5 (h1.ext (E3 (he4.trans he5))) F.proc_locals_1 (by kernel_rfl) [] [_] (fun x => decide (x.name = p.vars[k].name)) ?_) ?_
    · rintro i hi cs' w' e ⟨rfl, _⟩
      exact locals1_r _ _ b9 w' (e.obj hc5)
    rintro _ w6 ⟨rfl, he6⟩
    refine Sg ?_
    refine K.condb (fun g4 => ?_) (fun g4 => ?_)
    · refine Sg ?_
      exact ⟨by rw [hI, if_pos g4], E3 ((he4.trans he5).trans he6)⟩
    · refine Sg ?_
      exact ⟨hk', by first | trivial | rfl, (), trivial, (he4.trans he5).trans he6, by rw [hI, if_neg (by simp [g4])]⟩
  · refine Sg ?_
    exact ⟨by rw [hI, List.drop_eq_nil_of_le (by omega)]; rfl, E3 he4⟩
theorem pcheck_r (p : Abs.Proc) (pcs cs : List Value) (s : Abs.Scope) (w : World) (ho : OwnIs w) (hp : Abs.ProcIs w pcs p) (h : Abs.ScopeIs w cs s) (hg : s.good) (hpg : p.good) :
    Ret Tryz.prog F.proc_Check #[.agg pcs.toArray, .agg cs.toArray] w fun v w' => v = .tuple #[.int .i64 (Abs.procCheck p s).1, .int .i64 (Abs.procCheck p s).2.1, .int .i64 (Abs.procCheck p s).2.2] ∧ Ext w w' := by
  obtain ⟨a0, c0, a1, c1, a2, c2, a3, d3, a4, d4, rfl, h0, h1, h2, h3, h4, l0, l1, l2, l3, l4⟩ := h.form
  obtain ⟨hn, pv, pc, rfl, hv, hcm⟩ := hp
  obtain ⟨o3, c3, rfl, lv⟩ := hv.form
  obtain ⟨o4, c4, rfl, lc⟩ := hcm.form
  have hcb : p.cmds.length ≤ 140737488351232 := by have := hpg.cmds; unfold Abs.big at this; omega
  refine K.start hmix E.proc_Check (args := [_, _]) (Nat.le_of_ble_eq_true rfl) ?_; dsimp only [C.proc_Check,yt,yi,yb,yp,yr,ye,yc,yv,yg,ym,yw,ya,yl,yx,ys,yn]
  refine Sg ?_
  intro w1 b1 hb1 he1 hc1
  refine Sg ?_
  intro w2 b2 hb2 he2 hc2
  have E2 : ∀ {w'}, Ext w2 w' → Ext w w' := fun e => (he1.trans he2).trans e
  replace hc1 := he2.obj hc1
  refine Sg ?_
  refine K.call (whole_r p _ _ _ _ _ _ s w2 (ho.ext (E2 (Ext.refl _))) hn (h.ext (E2 (Ext.refl _)))) ?_
  rintro _ w3 ⟨rfl, he3⟩
  replace hc1 := he3.obj hc1
  replace hc2 := he3.obj hc2
  have E3 : ∀ {w'}, Ext w3 w' → Ext w w' := fun e => E2 (he3.trans e)
  rw [Abs.procCheck]
  refine Sg ?_
  refine K.cond (fun g1 => ?_) (fun g1 => ?_)
  rotate_left
  · refine Sg ?_
    exact ⟨by rw [if_pos g1], E3 (Ext.refl _)⟩
  rw [if_neg (by simpa using g1)]
  refine Sg ?_
  refine K.call (locals_r p _ _ _ _ _ _ s w3 (ho.ext (E3 (Ext.refl _))) (hv.ext (E3 (Ext.refl _))) (h.ext (E3 (Ext.refl _)))) ?_
  rintro _ w4 ⟨rfl, he4⟩
  replace hc1 := he4.obj hc1
  replace hc2 := he4.obj hc2
  have E4 : ∀ {w'}, Ext w4 w' → Ext w w' := fun e => E3 (he4.trans e)
  refine Sg ?_
  refine K.cond (fun g2 => ?_) (fun g2 => ?_)
  rotate_left
  · refine Sg ?_
    exact ⟨by rw [if_pos g2], E4 (Ext.refl _)⟩
  rw [if_neg (by simpa using g2)]
  refine Sg ?_
  refine K.call (inner_r p _ _ _ _ _ _ _ _ _ _ _ _ _ _ _ _ _ _ _ _ _ _ w4) ?_
  rintro _ w5 ⟨rfl, he5⟩
  replace hc1 := he5.obj hc1
  have E5 : ∀ {w'}, Ext w5 w' → Ext w w' := fun e => E4 (he5.trans e)
  refine Sg ?_
  intro w6 b10 hb10 he6 hc6
  replace hc1 := he6.obj hc1
  have E6 : ∀ {w'}, Ext w6 w' → Ext w w' := fun e => E5 (he6.trans e)
  have hin : ∀ w', Ext w w' → Abs.ScopeIs w' [.slice a0 s.scalars.length c0, .slice a1 s.vars.length c1, .slice a2 s.chans.length c2, .slice a3 s.procs.length d3, .slice o3 p.vars.length c3, .int .i64 p.over] (Abs.inner p s) := fun w' e =>
    ⟨(hg.inner hpg).sm.1, _, _, _, _, _, rfl, h0.ext e, h1.ext e, h2.ext e, h3.ext e, hv.ext e, (hg.inner hpg).sm.2⟩
  refine Sg ?_
  refine K.forG 37 p.cmds.length [2, 10, 35, 36] (fun _ => []) () (fun k _ w' => Ext w6 w' ∧ Abs.cmdsE (Abs.inner p s) p.locs p.cmds p.cmds 0 = Abs.cmdsE (Abs.inner p s) p.locs p.cmds (p.cmds.drop k) k) (by first | trivial | rfl | exact ⟨rfl, trivial⟩ | (simp -dsimp only [LL,slots_nil,slots_cons,keepV_nil,keepV_cons,has_nil,has_cons,Nat.reduceAdd,Nat.reduceEqDiff,reduceIte,and_self]; done) | (simp -dsimp only [LL,slots_nil,slots_cons,keepV_nil,keepV_cons,has_nil,has_cons,Nat.reduceAdd,Nat.reduceEqDiff,reduceIte,and_self]; exact ⟨rfl, trivial⟩)) (by first | trivial | rfl | exact ⟨rfl, trivial⟩ | (simp -dsimp only [LL,slots_nil,slots_cons,keepV_nil,keepV_cons,has_nil,has_cons,Nat.reduceAdd,Nat.reduceEqDiff,reduceIte,and_self]; done) | (simp -dsimp only [LL,slots_nil,slots_cons,keepV_nil,keepV_cons,has_nil,has_cons,Nat.reduceAdd,Nat.reduceEqDiff,reduceIte,and_self]; exact ⟨rfl, trivial⟩)) ⟨Ext.refl _, by simp⟩ ?_
  rintro k _ S w7 hk ⟨he7, hI⟩
  replace hc1 := he7.obj hc1
  replace hc6 := he7.obj hc6
  refine Sg ?_
  refine K.cond (fun g3 => ?_) (fun g3 => ?_)
  · have hk' : k < p.cmds.length := by omega
    obtain ⟨a, rfl⟩ := hcm.addr (by omega)
    obtain ⟨hs, vg, va, hcc, hvg, hva⟩ := hcm.at k hk'
    obtain ⟨og, cg, rfl, lg⟩ := hvg.form
    obtain ⟨oa, ca, rfl, la⟩ := hva.form
    rw [Abs.cmdsE_drop hk'] at hI
    replace hcc := hcc.ext (E6 (Ext.refl _))
    refine Sg ?_
    intro wN b12 hb12 heN hcN
    refine Sg ?_
    intro w8 hw8 hc8
    have he8 := hw8.ext heN hb12
    replace hc1 := he8.obj hc1
    replace hc6 := he8.obj hc6
    have E8 : ∀ {w'}, Ext w8 w' → Ext w w' := fun e => E6 ((he7.trans he8).trans e)
    clear hcN heN
    refine Sg ?_
    refine K.call (check_r p.cmds[k] _ _ p _ _ _ (Abs.inner p s) w8 (ho.ext (E8 (Ext.refl _))) hs (hvg.ext (E8 (Ext.refl _))) (hva.ext (E8 (Ext.refl _))) (hv.ext (E8 (Ext.refl _))) (hcm.ext (E8 (Ext.refl _))) (hin _ (E8 (Ext.refl _)))) ?_
    rintro _ w9 ⟨rfl, he9⟩
    replace hc1 := he9.obj hc1
    replace hc8 := he9.obj hc8
    have E9 : ∀ {w'}, Ext w9 w' → Ext w w' := fun e => E8 (he9.trans e)
    refine Sg ?_
    refine K.cond (fun g4 => ?_) (fun g4 => ?_)
    rotate_left
    · refine Sg ?_
      exact ⟨by rw [hI, if_pos g4], E9 (Ext.refl _)⟩
    rw [if_neg (by simpa using g4)] at hI
    have hcap := (SlR.len hcm).2.1
    refine Sg ?_
    refine K.slcT (k := .i64) k (by rfl) (by omega) ?_
    refine Sg ?_
    refine K.call (containsFunc_r hmix E.slices_ContainsFunc_sl_api_Cmd_api_Cmd E.slices_IndexFunc_sl_api_Cmd_api_Cmd _ (p.cmds.take k) w9 ((hcm.head k (by omega)).ext Abs.RCmd.ext (E9 (Ext.refl _))) F.proc_Check_1 (by kernel_rfl) [] [_] (fun x => decide (x.name = p.cmds[k].name)) ?_) ?_
    · rintro i hi cs' w' e ⟨_, xg, xa, rfl, hxg, hxa⟩
      obtain ⟨_, _, rfl, _⟩ := hxg.form
      obtain ⟨_, _, rfl, _⟩ := hxa.form
      exact check1_r _ _ _ _ _ _ _ _ _ _ _ _ _ _ b12 w' (e.obj hc8)
    rintro _ w10 ⟨rfl, he10⟩
    refine Sg ?_
    refine K.condb (fun g5 => ?_) (fun g5 => ?_)
    · refine Sg ?_
      exact ⟨by rw [hI, if_pos g5], E9 he10⟩
    · refine Sg ?_
      exact ⟨hk', by first | trivial | rfl, (), trivial, ((he7.trans he8).trans he9).trans he10, by rw [hI, if_neg (by simp [g5])]⟩
  · refine Sg ?_
    exact ⟨by rw [hI, List.drop_eq_nil_of_le (by omega)]; rfl, E6 he7⟩
end Go.Proofs.YtbbaokmelkiemaaGreatDoor
end
section
/- Whole models: processes. -/
set_option maxRecDepth 8000
set_option maxHeartbeats 16000000
namespace Go.Proofs.YtbbaokmelkiemaaGreatDoor
open Go Go.RowKit Lite
theorem TakSt.wrN {w0 w w' w'' : World} {bt b1 k : Nat} {cs : List Value} {L : List ByteArray} (h : TakSt w0 w bt b1 cs w' L) (hsz : w0.heap.size ≤ w.heap.size) (hw : Wr k w' w'') (hk : w.heap.size ≤ k) (h1 : b1 ≠ k) (h2 : bt ≠ k) : TakSt w0 w bt b1 cs w'' L :=
  ⟨hw.ext h.ext (Nat.le_trans hsz hk), h.mod.then (hw.mod (A := fun j => j = k) rfl) fun i hi e => absurd e (by omega), hw.obj h.box h1, h.set.wr hw h2, h.low, h.ne⟩
theorem processes_r {w0 : World} (cs : List Value) (m : Abs.Model) (bt : Nat) (w : World) (h : Abs.ModelIs w0 cs m) (hg : m.good) (e0 : Ext w0 w) (hbt : w0.heap.size ≤ bt) (ho : OwnIs w0) (hd : (Abs.data m).why = 0) (hs : SetAt w bt (Abs.nSVC m m.chans.length)) :
    RetT Tryz.prog F.model_processes #[.agg cs.toArray, .map (some bt)] w (fun _ w' => (Abs.procsF m).why = 0 ∧ Ext w0 w' ∧ Mod (fun k => k = bt) w w' ∧ SetAt w' bt (Abs.nSVCP m m.procs.length))
      (fun c w' => (Abs.procsF m).why ≠ 0 ∧ c = thrown (Abs.procsF m) ∧ Ext w0 w' ∧ Mod (fun k => k = bt) w w') := by
  have hM := h
  obtain ⟨o0, c0, o1, c1, o2, c2, o3, c3, o4, c4, rfl, h0, h1, h2, h3, h4, l0, l1, l2, l3, l4⟩ := h.form
  have hsz := e0.size
  refine K.startT hmix E.model_processes (args := [_, _]) (Nat.le_of_ble_eq_true rfl) ?_; dsimp only [C.model_processes,yt,yi,yb,yp,yr,ye,yc,yv,yg,ym,yw,ya,yl,yx,ys,yn]
  refine Sg ?_
  intro w1 b1 hb1 he1 hc1
  have st1 : TakSt w0 w bt b1 _ w1 (Abs.nSVC m m.chans.length) := ⟨e0.trans he1, he1.mod, hc1, hs.ext he1, hbt, by have := hs.lt; omega⟩
  have zt := hs.lt
  have z1 := lt_of_heap hc1
  clear hs hc1
  refine Sg ?_
  refine K.newM fun w2 ba hba he2 hm2 => ?_
  replace st1 := st1.then he2
  have sa : SetAt w2 ba [] := SetAt.empty hm2
  have z0 := he1.size
  have z2 := sa.lt
  clear hm2
  refine Sg ?_
  refine K.rngM (b := bt) rfl (k := T.string) (e := T.bool) (by kernel_rfl) st1.set fun w3 r n hr he3 hit => ?_
  replace st1 := st1.then he3
  replace sa := sa.ext he3
  have z4 := he2.size
  have z5 := hit.lt
  refine Sg ?_
  refine K.whG [1, 2, 4, 20] (fun _ : List ByteArray × Nat => []) ([], n) (fun x w' => TakSt w0 w bt b1 _ w' (Abs.nSVC m m.chans.length) ∧ SetAt w' ba x.1 ∧ ∃ cur, IterAt w' r bt (Abs.nSVC m m.chans.length) x.1 x.2 cur) (fun x => x.2) (by first | trivial | rfl | exact ⟨rfl, trivial⟩ | (simp -dsimp only [LL,slots_nil,slots_cons,keepV_nil,keepV_cons,has_nil,has_cons,Nat.reduceAdd,Nat.reduceEqDiff,reduceIte,and_self]; done) | (simp -dsimp only [LL,slots_nil,slots_cons,keepV_nil,keepV_cons,has_nil,has_cons,Nat.reduceAdd,Nat.reduceEqDiff,reduceIte,and_self]; exact ⟨rfl, trivial⟩)) ⟨st1, sa, _, hit⟩ ?_
  clear st1 sa hit
  rintro ⟨D, n'⟩ S w4 ⟨st4, sa, cur, hit⟩
  have hc1 := st4.box
  refine Sg ?_
  refine K.nxtM rfl hit (fun hall => ?_) (fun y w5 n2 hy hlt hw5 hit5 => ?_)
  rotate_left
  · have st5 := st4.wrN hsz hw5 (by omega) (by omega) (by omega)
    have sa5 := sa.wr hw5 (by omega)
    refine Sg ?_
    refine K.entM rfl hit5 ?_
    refine Sg ?_
    refine K.mupS sa5 fun w6 hw6 sa6 => ?_
    have st6 := st5.wrN hsz hw6 (by omega) (by omega) (by omega)
    have hit6 := hit5.wr hw6 (by omega) (by omega)
    refine Sg ?_
    exact ⟨(D ++ [y], n2), trivial, ⟨st6, sa6, _, hit6⟩, hlt⟩
  have sb : SetAt w4 ba (Abs.nSVCP m 0) := sa.re fun x => by
    have hsub := hit.sub
    simp only [Abs.nSVCP, Abs.nP, List.take_zero, List.map_nil, List.append_nil]
    exact ⟨fun hx => hsub x hx, fun hx => hall x hx⟩
  clear sa hit hall
  refine Sg ?_
  refine K.forG 30 m.procs.length [1, 2, 4, 28, 29] (fun _ : Unit => []) () (fun k _ w' => TakSt w0 w bt b1 _ w' (Abs.nSVC m m.chans.length) ∧ SetAt w' ba (Abs.nSVCP m k)) (by first | trivial | rfl | exact ⟨rfl, trivial⟩ | (simp -dsimp only [LL,slots_nil,slots_cons,keepV_nil,keepV_cons,has_nil,has_cons,Nat.reduceAdd,Nat.reduceEqDiff,reduceIte,and_self]; done) | (simp -dsimp only [LL,slots_nil,slots_cons,keepV_nil,keepV_cons,has_nil,has_cons,Nat.reduceAdd,Nat.reduceEqDiff,reduceIte,and_self]; exact ⟨rfl, trivial⟩)) (by first | trivial | rfl | exact ⟨rfl, trivial⟩ | (simp -dsimp only [LL,slots_nil,slots_cons,keepV_nil,keepV_cons,has_nil,has_cons,Nat.reduceAdd,Nat.reduceEqDiff,reduceIte,and_self]; done) | (simp -dsimp only [LL,slots_nil,slots_cons,keepV_nil,keepV_cons,has_nil,has_cons,Nat.reduceAdd,Nat.reduceEqDiff,reduceIte,and_self]; exact ⟨rfl, trivial⟩)) ⟨st4, sb⟩ ?_
  clear hc1 st4 sb
  rintro k _ S' w5 hk ⟨st5, sb⟩
  have hc1 := st5.box
  have e5 := st5.ext
  refine Sg ?_
  refine K.cond (fun g1 => ?_) (fun g1 => ?_)
  · have hk' : k < m.procs.length := by omega
    obtain ⟨a, rfl⟩ := h3.addr (by omega)
    obtain ⟨_, vv, vc, hp, hpv, hpc⟩ := h3.at k hk'
    obtain ⟨ov, cv, rfl, lv⟩ := hpv.form
    obtain ⟨oc, cc, rfl, lc⟩ := hpc.form
    replace hp := hp.ext e5
    refine Sg ?_
    intro w6 b7 hb7 he6 hc7
    have st6 := st5.then he6
    replace sb := sb.ext he6
    refine Sg ?_
    refine K.mupS sb fun w7 hw7 sb7 => ?_
    have st7 := st6.wrN hsz hw7 (by omega) (by omega) (by omega)
    refine Sg ?_
    exact ⟨hk', by first | trivial | rfl, (), trivial, st7, by simp only [Abs.nSVCP, Abs.nP]; rw [Abs.take_snocN (fun x : Abs.Proc => x.name) _ hk', ← List.append_assoc]; exact sb7⟩
  have sA : ∀ {w'}, SetAt w' ba (Abs.nSVCP m k) → SetAt w' ba (Abs.nSVCP m m.procs.length) := fun h => h.re fun x => by
    simp only [Abs.nSVCP, Abs.nP]; rw [List.take_of_length_le (by omega), List.take_of_length_le (Nat.le_refl _)]
  replace sb := sA sb
  clear sA
  replace st5 := st5.re (show _ = Abs.nSVCP m 0 by simp [Abs.nSVCP])
  refine Sg ?_
  refine K.forG 41 m.procs.length [1, 2, 4, 39, 40] (fun _ : Unit => []) () (fun k _ w' => TakSt w0 w bt b1 _ w' (Abs.nSVCP m k) ∧ SetAt w' ba (Abs.nSVCP m m.procs.length) ∧ ∀ j, j < k → (Abs.eproc m j).1 = 0) (by first | trivial | rfl | exact ⟨rfl, trivial⟩ | (simp -dsimp only [LL,slots_nil,slots_cons,keepV_nil,keepV_cons,has_nil,has_cons,Nat.reduceAdd,Nat.reduceEqDiff,reduceIte,and_self]; done) | (simp -dsimp only [LL,slots_nil,slots_cons,keepV_nil,keepV_cons,has_nil,has_cons,Nat.reduceAdd,Nat.reduceEqDiff,reduceIte,and_self]; exact ⟨rfl, trivial⟩)) (by first | trivial | rfl | exact ⟨rfl, trivial⟩ | (simp -dsimp only [LL,slots_nil,slots_cons,keepV_nil,keepV_cons,has_nil,has_cons,Nat.reduceAdd,Nat.reduceEqDiff,reduceIte,and_self]; done) | (simp -dsimp only [LL,slots_nil,slots_cons,keepV_nil,keepV_cons,has_nil,has_cons,Nat.reduceAdd,Nat.reduceEqDiff,reduceIte,and_self]; exact ⟨rfl, trivial⟩)) ⟨st5, sb, fun j h => absurd h (Nat.not_lt_zero _)⟩ ?_
  clear hc1 e5 st5 sb
  rintro k _ S2 w6 hk ⟨st6, sb, hz⟩
  have hc1 := st6.box
  have e6 := st6.ext
  have z6 := st6.mod.size
  refine Sg ?_
  refine K.cond (fun g1 => ?_) (fun g1 => ?_)
  · have hk' : k < m.procs.length := by omega
    obtain ⟨a, rfl⟩ := h3.addr (by omega)
    obtain ⟨hsn, vv, vc, hp, hpv, hpc⟩ := h3.at k hk'
    obtain ⟨ov, cv, rfl, lv⟩ := hpv.form
    obtain ⟨oc, cc, rfl, lc⟩ := hpc.form
    have hpg := hg.proc _ (List.getElem_mem hk')
    have hget := Abs.eproc_get hk'
    replace hp := hp.ext e6
    refine Sg ?_
    intro wN b9 hb9 heN hcN
    refine Su ?_
    intro w7 hw7 hc9
    have he7 := hw7.ext heN hb9
    have st7 := st6.then he7
    replace sb := sb.ext he7
    replace hc1 := st7.box
    have zb9 := lt_of_heap hc9
    have za := sb.lt
    have e7 := st7.ext
    clear hcN heN hw7
    refine Sg ?_
    refine K.cond (fun g2 => ?_) (fun g2 => ?_)
    · have h6 : 6 ≤ k := by omega
      rw [if_pos h6] at hget
      have hd2 := Abs.procs_i hk' hz (by rw [hget]; decide)
      rw [hget] at hd2
      refine Sg ?_
      refine K.thr (throw_r 11 4 k 0 w7) ?_ ?_
      · rintro _ _ ⟨h00, _⟩
        exact absurd h00 (by decide)
      · rintro c _ ⟨_, rfl, rfl⟩
        refine Sg ?_
        rw [hd2]
        exact ⟨(show (11 : Int) ≠ 0 by decide), by first | trivial | rfl, e7, st7.mod⟩
    rw [if_neg (by omega)] at hget
    refine Sg ?_
    intro w8 he8
    replace hc1 := he8.obj hc1
    replace hc9 := he8.obj hc9
    refine Sg ?_
    refine K.call (scope_r _ m k w8 (hM.ext (e7.trans he8)) hg) ?_
    rintro _ w9 ⟨⟨cs9, rfl, hn9⟩, he9⟩
    refine ⟨he9, ?_⟩
    have hsc := hn9.here
    obtain ⟨x0, y0, x1, y1, x2, y2, x3, y3, x4, y4, rfl, _⟩ := hsc.form
    refine Sg ?_
    refine K.call (pcheck_r m.procs[k] _ _ (Abs.pscope m k) w9 (ho.ext (e7.trans (he8.trans he9))) ⟨hsn, _, _, rfl, hpv.ext (e7.trans (he8.trans he9)), hpc.ext (e7.trans (he8.trans he9))⟩ hsc (hg.pscope _) hpg) ?_
    rintro _ w10 ⟨rfl, he10⟩
    have e710 := (he8.trans he9).trans he10
    have st10 := st7.then e710
    replace sb := sb.ext e710
    replace hc1 := st10.box
    replace hc9 := (he9.trans he10).obj hc9
    have zb10 := lt_of_heap hc9
    have za10 := sb.lt
    clear hsc hn9 st7 e7
    have e10 := st10.ext
    have hin := Abs.procCheck_in m.procs[k] (Abs.pscope m k) 140737488351232 fun c hc => by have := (hpg.cmd c hc).acts; unfold Abs.big at this; omega
    have hvb : m.procs[k].vars.length ≤ 140737488351232 := by have := hpg.vars; unfold Abs.big at this; omega
    have hcb : m.procs[k].cmds.length ≤ 140737488351232 := by have := hpg.cmds; unfold Abs.big at this; omega
    refine Sg ?_
    refine K.thr (throw_r (Abs.procCheck m.procs[k] (Abs.pscope m k)).2.2 4 k (16 * (Abs.procCheck m.procs[k] (Abs.pscope m k)).1 + (Abs.procCheck m.procs[k] (Abs.pscope m k)).2.1) w10) ?_ ?_
    rotate_left
    · rintro c _ ⟨h00, rfl, rfl⟩
      rw [if_pos h00] at hget
      have hd2 := Abs.procs_i hk' hz (by rw [hget]; exact h00)
      rw [hget] at hd2
      refine Sg ?_
      rw [hd2]
      exact ⟨h00, by first | trivial | rfl, e10, st10.mod⟩
    rintro _ wA ⟨h00, rfl⟩
    rw [if_neg (by simpa using h00)] at hget
    refine Sg ?_
    refine K.thr (take_r bt (Abs.nSVCP m k) m.procs[k].name 4 k wA st10.set) ?_ ?_
    rotate_left
    · rintro c _ ⟨hn, rfl, rfl⟩
      rw [if_pos hn] at hget
      have hd2 := Abs.procs_i hk' hz (by rw [hget]; decide)
      rw [hget] at hd2
      refine Sg ?_
      rw [hd2]
      exact ⟨(show (7 : Int) ≠ 0 by decide), by first | trivial | rfl, e10, st10.mod⟩
    rintro _ w11 ⟨hn, hw11, hs11⟩
    rw [if_neg hn] at hget
    have st11 : TakSt w0 w bt b1 _ w11 (Abs.nSVCP m (k + 1)) := (st10.wr hw11 hs11).re (by simp only [Abs.nSVCP, Abs.nP]; rw [Abs.take_snocN (fun x : Abs.Proc => x.name) _ hk', List.append_assoc])
    replace sb := sb.wr hw11 (by omega)
    replace hc1 := st11.box
    replace hc9 := hw11.obj hc9 (by omega)
    have e11 := st11.ext
    have z11 := hw11.size
    clear st10 e10
    refine Sg ?_
    refine K.forG 74 m.procs[k].vars.length [1, 2, 4, 8, 9, 39, 40, 41, 72, 73] (fun _ : Unit => []) () (fun j _ w' => TakSt w0 w bt b1 _ w' (Abs.nSVCP m (k + 1)) ∧ SetAt w' ba (Abs.nSVCP m m.procs.length) ∧ Ext w11 w' ∧ ∀ i, i < j → Abs.elocs m m.procs[k] i = 0) (by first | trivial | rfl | exact ⟨rfl, trivial⟩ | (simp -dsimp only [LL,slots_nil,slots_cons,keepV_nil,keepV_cons,has_nil,has_cons,Nat.reduceAdd,Nat.reduceEqDiff,reduceIte,and_self]; done) | (simp -dsimp only [LL,slots_nil,slots_cons,keepV_nil,keepV_cons,has_nil,has_cons,Nat.reduceAdd,Nat.reduceEqDiff,reduceIte,and_self]; exact ⟨rfl, trivial⟩)) (by first | trivial | rfl | exact ⟨rfl, trivial⟩ | (simp -dsimp only [LL,slots_nil,slots_cons,keepV_nil,keepV_cons,has_nil,has_cons,Nat.reduceAdd,Nat.reduceEqDiff,reduceIte,and_self]; done) | (simp -dsimp only [LL,slots_nil,slots_cons,keepV_nil,keepV_cons,has_nil,has_cons,Nat.reduceAdd,Nat.reduceEqDiff,reduceIte,and_self]; exact ⟨rfl, trivial⟩)) ⟨st11, sb, Ext.refl _, fun j h => absurd h (Nat.not_lt_zero _)⟩ ?_
    have hc11 := hc9
    clear st11 sb hc1 hc9 e11
    rintro j _ S3 w12 hj ⟨st12, sb, he12, hz2⟩
    have hc1 := st12.box
    have hc9 := he12.obj hc11
    have e12 := st12.ext
    refine Sg ?_
    refine K.cond (fun g3 => ?_) (fun g3 => ?_)
    · have hj' : j < m.procs[k].vars.length := by omega
      obtain ⟨a', rfl⟩ := hpv.addr (by omega)
      have hcv := ((hpv.at j hj').cells).ext e12
      have hnm := Abs.nameAt_get (f := fun x : Abs.Var => x.name) hj'
      refine Sg ?_
      intro wM b14 hb14 heM hcM
      refine Su ?_
      intro w13 hw13 hc14
      have he13 := hw13.ext heM hb14
      have st13 := st12.then he13
      replace sb := sb.ext he13
      replace hc1 := st13.box
      clear hcM heM hw13
      refine Sg ?_
      refine K.lkpS sb ?_
      refine Sg ?_
      refine K.cond (fun g4 => ?_) (fun g4 => ?_)
      · have hel : Abs.elocs m m.procs[k] j = 7 := by unfold Abs.elocs; rw [hnm, if_pos g4]
        rw [Abs.first_stop hj' hz2 (by rw [hel]; decide), hel, if_pos (show (7 : Int) ≠ 0 by decide)] at hget
        have hd2 := Abs.procs_i hk' hz (by rw [hget]; exact (show (7 : Int) ≠ 0 by decide))
        rw [hget] at hd2
        refine Sg ?_
        refine K.thr (throw_r 7 4 k (16 + j) w13) ?_ ?_
        · rintro _ _ ⟨h01, _⟩
          exact absurd h01 (by decide)
        · rintro c _ ⟨_, rfl, rfl⟩
          refine Sg ?_
          rw [hd2]
          exact ⟨(show (7 : Int) ≠ 0 by decide), by first | trivial | rfl, st13.ext, st13.mod⟩
      · refine Sg ?_
        refine ⟨hj', by first | trivial | rfl, (), trivial, st13, sb, he12.trans he13, fun i hi => ?_⟩
        by_cases hij : i = j
        · subst hij
          unfold Abs.elocs
          rw [hnm, if_neg g4]
        · exact hz2 i (by omega)
    · rw [Abs.first_none fun i hi => hz2 i (by omega), if_neg (by simp)] at hget
      refine Sg ?_
      refine ⟨hk', by first | trivial | rfl, (), trivial, st12, sb, fun i hi => ?_⟩
      by_cases hik : i = k
      · subst hik
        rw [hget]
      · exact hz i (by omega)
  have hkp : m.procs.length ≤ k := by omega
  have hP : ∀ j, j < m.procs.length → (Abs.eproc m j).1 = 0 := fun j hj => hz j (by omega)
  have hdf := Abs.data_few hd
  have hpl : m.procs.length ≤ 6 := by
    apply Classical.byContradiction
    intro hn
    have := Abs.eproc_lt (i := 6) (by omega) (hP 6 (by omega))
    omega
  have hfew : Abs.Few m := ⟨by omega, by omega, by omega, fun p hp => by
    obtain ⟨j, hj, rfl⟩ := List.mem_iff_getElem.1 hp
    have := Abs.procCheck_few (Abs.eproc_ok hj (hP j hj)).2.1
    omega⟩
  refine Sg ?_
  refine K.call (pieces_r _ m w6 (hM.ext e6) hfew) ?_
  rintro _ w7 ⟨rfl, he7⟩
  have st7 := st6.then he7
  replace hc1 := st7.box
  have hpa := Abs.procs_all hP
  have hset : SetAt w7 bt (Abs.nSVCP m m.procs.length) := by
    have h := st7.set
    simp only [Abs.nSVCP, Abs.nP] at h ⊢
    rw [List.take_of_length_le hkp] at h
    rw [List.take_of_length_le (Nat.le_refl _)]
    exact h
  refine Sg ?_
  refine K.cond (fun g2 => ?_) (fun g2 => ?_)
  · rw [if_pos (.inl (by omega))] at hpa
    refine Sg ?_
    refine K.thr (throw_r 11 4 m.procs.length 0 w7) ?_ ?_
    · rintro _ _ ⟨h01, _⟩
      exact absurd h01 (by decide)
    · rintro c _ ⟨_, rfl, rfl⟩
      refine Sg ?_
      rw [hpa]
      exact ⟨(show (11 : Int) ≠ 0 by decide), by first | trivial | rfl, st7.ext, st7.mod⟩
  refine Sg ?_
  refine K.cond (fun g3 => ?_) (fun g3 => ?_)
  · rw [if_pos (.inr (by omega))] at hpa
    refine Sg ?_
    refine K.thr (throw_r 11 4 m.procs.length 0 w7) ?_ ?_
    · rintro _ _ ⟨h01, _⟩
      exact absurd h01 (by decide)
    · rintro c _ ⟨_, rfl, rfl⟩
      refine Sg ?_
      rw [hpa]
      exact ⟨(show (11 : Int) ≠ 0 by decide), by first | trivial | rfl, st7.ext, st7.mod⟩
  rw [if_neg (by omega)] at hpa
  refine Sg ?_
  exact ⟨by rw [hpa]; rfl, st7.ext, st7.mod, hset⟩
end Go.Proofs.YtbbaokmelkiemaaGreatDoor
end
section
/- Whole models: propositions. -/
set_option maxRecDepth 8000
set_option maxHeartbeats 16000000
namespace Go.Proofs.YtbbaokmelkiemaaGreatDoor
open Go Go.RowKit Lite
theorem propositions_r {w0 : World} (cs : List Value) (m : Abs.Model) (bt : Nat) (w : World) (h : Abs.ModelIs w0 cs m) (hg : m.good) (e0 : Ext w0 w) (hbt : w0.heap.size ≤ bt) (ho : OwnIs w0) (hs : SetAt w bt (Abs.nSVCP m m.procs.length)) :
    RetT Tryz.prog F.model_propositions #[.agg cs.toArray, .map (some bt)] w (fun _ w' => (Abs.propsF m).why = 0 ∧ Ext w0 w' ∧ Mod (fun k => k = bt) w w')
      (fun c w' => (Abs.propsF m).why ≠ 0 ∧ c = thrown (Abs.propsF m) ∧ Ext w0 w' ∧ Mod (fun k => k = bt) w w') := by
  have hM := h
  obtain ⟨o0, c0, o1, c1, o2, c2, o3, c3, o4, c4, rfl, h0, h1, h2, h3, h4, l0, l1, l2, l3, l4⟩ := h.form
  refine K.startT hmix E.model_propositions (args := [_, _]) (Nat.le_of_ble_eq_true rfl) ?_; dsimp only [C.model_propositions,yt,yi,yb,yp,yr,ye,yc,yv,yg,ym,yw,ya,yl,yx,ys,yn]
  refine Sg ?_
  intro w1 b1 hb1 he1 hc1
  have st1 : TakSt w0 w bt b1 _ w1 (Abs.nAll m 0) := ⟨e0.trans he1, he1.mod, hc1, by have := hs.ext he1; simpa [Abs.nAll] using this, hbt, by have := hs.lt; omega⟩
  have zt := hs.lt
  have z0 := he1.size
  clear hs
  refine Sg ?_
  refine K.call (scope_r _ m (-1) w1 (hM.ext st1.ext) hg) ?_
  rintro _ w2 ⟨⟨cs2, rfl, hn2⟩, he2⟩
  rw [Abs.pscope_none (.inl (by decide))] at hn2
  have hsc := hn2.here
  obtain ⟨x0, y0, x1, y1, x2, y2, x3, y3, x4, y4, rfl, _⟩ := hsc.form
  clear hsc
  have st2 := st1.then he2
  clear hc1 st1
  have z1 := he2.size
  refine Sg ?_
  intro w3 b4 hb4 he3 hc4
  have hn3 := hn2.ext he3 z1
  have st3 := st2.then he3
  have hc1 := st3.box
  clear hn2 st2
  refine Sg ?_
  refine K.forG 14 m.props.length [1, 2, 4, 12, 13] (fun _ : Unit => []) () (fun k _ w' => TakSt w0 w bt b1 _ w' (Abs.nAll m k) ∧ New w1 (fun w => Abs.ScopeIs w _ (Abs.mscope m)) w' ∧ w'.heap[b4]? = some (.cells (List.toArray [_, _, _, _, _, _]) T.api_Scope) ∧ w1.heap.size ≤ w'.heap.size ∧ ∀ j, j < k → Abs.eprop m j = 0) (by first | trivial | rfl | exact ⟨rfl, trivial⟩ | (simp -dsimp only [LL,slots_nil,slots_cons,keepV_nil,keepV_cons,has_nil,has_cons,Nat.reduceAdd,Nat.reduceEqDiff,reduceIte,and_self]; done) | (simp -dsimp only [LL,slots_nil,slots_cons,keepV_nil,keepV_cons,has_nil,has_cons,Nat.reduceAdd,Nat.reduceEqDiff,reduceIte,and_self]; exact ⟨rfl, trivial⟩)) (by first | trivial | rfl | exact ⟨rfl, trivial⟩ | (simp -dsimp only [LL,slots_nil,slots_cons,keepV_nil,keepV_cons,has_nil,has_cons,Nat.reduceAdd,Nat.reduceEqDiff,reduceIte,and_self]; done) | (simp -dsimp only [LL,slots_nil,slots_cons,keepV_nil,keepV_cons,has_nil,has_cons,Nat.reduceAdd,Nat.reduceEqDiff,reduceIte,and_self]; exact ⟨rfl, trivial⟩)) ⟨st3, hn3, hc4, by have := he3.size; omega, fun j h => absurd h (Nat.not_lt_zero _)⟩ ?_
  clear hc1 st3 hn3 hc4
  rintro k _ S w4 hk ⟨st4, hn4, hc4, z4, hz⟩
  have hc1 := st4.box
  have e4 := st4.ext
  refine Sg ?_
  refine K.cond (fun g1 => ?_) (fun g1 => ?_)
  · have hk' : k < m.props.length := by omega
    obtain ⟨a, rfl⟩ := h4.addr (by omega)
    obtain ⟨hsn, ve, hp, hpe⟩ := h4.at k hk'
    obtain ⟨oe, ce, rfl, le⟩ := hpe.form
    have hget := Abs.eprop_get hk'
    replace hp := hp.ext e4
    have z5 := st4.mod.size
    refine Sg ?_
    intro wN b6 hb6 heN hcN
    refine Su ?_
    intro w5 hw5 hc6
    have he5 := hw5.ext heN hb6
    have st5 := st4.then he5
    replace hn4 := hn4.ext he5 z4
    replace hc4 := he5.obj hc4
    replace hc1 := st5.box
    have e5 := st5.ext
    clear hcN heN hw5 st4
    have hd : Abs.eprop m k ≠ 0 → Abs.propsF m = ⟨Abs.eprop m k, 5, k, 0⟩ := Abs.props_i hk' hz
    refine Sg ?_
    refine K.cond (fun g2 => ?_) (fun g2 => ?_)
    · rw [if_pos (by omega)] at hget
      rw [hget] at hd
      replace hd := hd (by decide)
      refine Sg ?_
      refine K.thr (throw_r 11 5 k 0 w5) ?_ ?_
      · rintro _ _ ⟨h00, _⟩
        exact absurd h00 (by decide)
      · rintro c _ ⟨_, rfl, rfl⟩
        refine Sg ?_
        rw [hd]
        exact ⟨(show (11 : Int) ≠ 0 by decide), by first | trivial | rfl, e5, st5.mod⟩
    rw [if_neg (by omega)] at hget
    refine Sg ?_
    refine K.call (name_r m.props[k].name w5 (ho.ext e5) hsn) ?_
    rintro _ w6 ⟨rfl, he6⟩
    have st6 := st5.then he6
    replace hn4 := hn4.ext he6 (by have := he5.size; omega)
    replace hc4 := he6.obj hc4
    replace hc6 := he6.obj hc6
    replace hc1 := st6.box
    have e6 := st6.ext
    clear st5
    refine Sg ?_
    refine K.condb (fun g3 => ?_) (fun g3 => ?_)
    rotate_left
    · rw [if_pos g3] at hget
      rw [hget] at hd
      replace hd := hd (by decide)
      refine Sg ?_
      refine K.thr (throw_r 6 5 k 0 w6) ?_ ?_
      · rintro _ _ ⟨h00, _⟩
        exact absurd h00 (by decide)
      · rintro c _ ⟨_, rfl, rfl⟩
        refine Sg ?_
        rw [hd]
        exact ⟨(show (6 : Int) ≠ 0 by decide), by first | trivial | rfl, e6, st6.mod⟩
    rw [if_neg (by rw [g3]; decide)] at hget
    refine Sg ?_
    refine K.thr (take_r bt (Abs.nAll m k) m.props[k].name 5 k w6 st6.set) ?_ ?_
    rotate_left
    · rintro c _ ⟨hn, rfl, rfl⟩
      rw [if_pos hn] at hget
      rw [hget] at hd
      replace hd := hd (by decide)
      refine Sg ?_
      rw [hd]
      exact ⟨(show (7 : Int) ≠ 0 by decide), by first | trivial | rfl, st6.ext, st6.mod⟩
    rintro _ w7 ⟨hn, hw7, hs7⟩
    rw [if_neg hn] at hget
    have st7 : TakSt w0 w bt b1 _ w7 (Abs.nAll m (k + 1)) := (st6.wr hw7 hs7).re (by simp only [Abs.nAll, Abs.nR]; rw [Abs.take_snocN (fun x : Abs.Prp => x.name) _ hk', List.append_assoc])
    replace hn4 := hn4.wr hw7 (by omega)
    replace hc4 := hw7.obj hc4 (by omega)
    replace hc6 := hw7.obj hc6 (by omega)
    replace hc1 := st7.box
    have e7 := st7.ext
    clear st6 e6
    refine Sg ?_
    refine K.call (kind_r _ m.props[k].expr _ _ w7 (hpe.ext e7) hn4.here) ?_
    rintro _ w8 ⟨rfl, he8⟩
    have st8 := st7.then he8
    have z7 := hw7.size
    replace hn4 := hn4.ext he8 (by have := he5.size; have := he6.size; omega)
    replace hc4 := he8.obj hc4
    replace hc1 := st8.box
    have e8 := st8.ext
    clear st7
    refine Sg ?_
    refine K.thr (throw_r (Abs.kind m.props[k].expr (Abs.mscope m)).2 5 k 0 w8) ?_ ?_
    rotate_left
    · rintro c _ ⟨h00, rfl, rfl⟩
      rw [if_pos h00] at hget
      rw [hget] at hd
      replace hd := hd h00
      refine Sg ?_
      rw [hd]
      exact ⟨h00, by first | trivial | rfl, e8, st8.mod⟩
    rintro _ w9 ⟨h00, rfl⟩
    rw [if_neg (by simpa using h00)] at hget
    refine Sg ?_
    refine K.cond (fun g4 => ?_) (fun g4 => ?_)
    rotate_left
    · rw [if_pos g4] at hget
      rw [hget] at hd
      replace hd := hd (by decide)
      refine Sg ?_
      refine K.thr (throw_r 9 5 k 0 w9) ?_ ?_
      · rintro _ _ ⟨h01, _⟩
        exact absurd h01 (by decide)
      · rintro c _ ⟨_, rfl, rfl⟩
        refine Sg ?_
        rw [hd]
        exact ⟨(show (9 : Int) ≠ 0 by decide), by first | trivial | rfl, e8, st8.mod⟩
    rw [if_neg (by simpa using g4)] at hget
    refine Sg ?_
    refine ⟨hk', by first | trivial | rfl, (), trivial, st8, hn4, hc4, by have := he5.size; have := he6.size; have := he8.size; omega, fun i hi => ?_⟩
    by_cases hik : i = k
    · subst hik
      rw [hget]
    · exact hz i (by omega)
  refine Sg ?_
  exact ⟨by rw [Abs.props_0 fun j hj => hz j (by omega)]; rfl, e4, st4.mod⟩
end Go.Proofs.YtbbaokmelkiemaaGreatDoor
end
