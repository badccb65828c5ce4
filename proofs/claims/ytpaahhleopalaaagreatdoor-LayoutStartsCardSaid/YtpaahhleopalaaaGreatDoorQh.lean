/- Texts joined: ExprE ExprF LexC CmdA CmdB CmdQ CmdC DeclC DeclD. -/
import Derived.Test.YtpaahhleopalaaaGreatDoorQc
import Derived.Test.YtpaahhleopalaaaGreatDoorQd
import Derived.Test.YtpaahhleopalaaaGreatDoorQe
import Derived.Test.YtpaahhleopalaaaGreatDoorQf
import Derived.Test.YtpaahhleopalaaaGreatDoorQg
set_option linter.all false
section
/- The machine: one step. -/
set_option maxRecDepth 4000
set_option linter.unusedSimpArgs false
set_option maxHeartbeats 4000000
namespace Go.Proofs.YtpaahhleopalaaaGreatDoor
open Go Go.RowKit Lite

theorem K.qval {P : Program} {x : Value} {args : List Value} {w : World} {K3 : Value → Prop} {t} (v : Value) (h : ∀ w', Ext w w' → CallVh P x args w' (fun u w'' => u = v ∧ Ext w' w'') ⟨⟩) (hk : K3 v) : QValh P x args w K3 t := by
  unfold QValh
  refine ⟨v, fun w' he => ?_, hk⟩
  have := h w' he
  unfold CallVh at this
  obtain ⟨f, first, cap, e, hf, hr⟩ := this
  exact ⟨f, first, cap, e, hf, hr.mono fun _ _ ⟨h1, h2⟩ => ⟨h1, he.trans h2⟩⟩
theorem DoesR.ext {w w' : World} {v : Value} {g : Int → Int → Int × Bool} (he : Ext w w') (h : DoesR w v g) : DoesR w' v g := by
  rcases h with h | ⟨c, f, p, h1, h2, h3⟩
  · exact .inl h
  · exact .inr ⟨c, f, p, h1, he.obj h2, h3⟩
def stepRes (f : Abs.Node → List Int → Int × Int) (two : Abs.OpD → List Int → Int × Int) (leaf : Abs.Node → List Int → Int × Int) : Prop :=
  ∀ x st, f x st = match Abs.opOf x.op with | some o => two o (st.drop (st.length - o.parts.toNat)) | none => leaf x st
theorem nparts_op {x : Int} {o : Abs.OpD} (h : Abs.opOf x = some o) : 1 ≤ o.parts ∧ o.parts ≤ 2 := by
  unfold Abs.opOf at h
  repeat' split at h
  all_goals first | (cases h; exact ⟨by decide, by decide⟩) | cases h
theorem step_r (f : Abs.Node → List Int → Int × Int) (two : Abs.OpD → List Int → Int × Int) (leaf : Abs.Node → List Int → Int × Int) (hf : stepRes f two leaf)
    (x : Abs.Node) (base b : Nat) (w : World) (m vl v2 : Value) (st : List Int) (hm : MachIs base b w m st) (ho : OpsIs w m) (h24 : st.length ≤ 24)
    (hleaf : 0 ≤ Abs.nparts x.op → Abs.nparts x.op ≤ st.length → Abs.opOf x.op = none → ∀ w' KK t, Ext w w' → (∀ w'', Ext w' w'' → KK (.tuple #[.int .i64 (leaf x st).1, .int .i64 (leaf x st).2]) w'') → CallYh Tryz.prog vl [.agg x.enc.toArray] w' KK t)
    (htwo : ∀ o ov lv w' KK t, Ext w w' → Abs.opOf x.op = some o → OpV w' o ov → o.parts ≤ st.length → Ints w' lv (st.drop (st.length - o.parts.toNat)) →
      (∀ w'', Ext w' w'' → KK (.tuple #[.int .i64 (two o (st.drop (st.length - o.parts.toNat))).1, .int .i64 (two o (st.drop (st.length - o.parts.toNat))).2]) w'') → CallVh Tryz.prog v2 [ov, lv] w' KK t) :
    Ret Tryz.prog F.p_expr_machine_step #[.pointer (some ⟨b, 0, none⟩), .agg x.enc.toArray, vl, v2] w fun v w' =>
      v = .int .i64 (Abs.stepG f x st).1 ∧ Mod (fun k => k = b ∨ base ≤ k) w w' ∧ ((Abs.stepG f x st).1 = 0 → MachIs base b w' m (Abs.stepG f x st).2) := by
  obtain ⟨sv, hh, hown⟩ := hm.ex
  obtain ⟨oa, cap, rfl, hcp, hml⟩ := hown.form
  have hi : Ints w _ st := OwR.slr (enc := encI) (sz := 1) (fun _ => rfl) hown
  unfold maxLen at hml
  refine K.start hmix E.p_expr_machine_step (args := [_, _, _, _]) (Nat.le_of_ble_eq_true rfl) ?_
  dsimp only [C.p_expr_machine_step]; refine Yy ?_
  simp -dsimp only [B9]
  (repeat' first
 | assumption
 | exact Ext.refl _
 | refine Ext.trans ?_ (by assumption)
 | refine K.wrap (by omega) ?_
 | refine K.ldb (by assumption) ?_ rfl ?_
 | refine K.ldb0 (by assumption) ?_ rfl ?_
 | refine K.ldE (by assumption) ?_ (by omega) rfl ?_
 | refine K.ldE0 (by assumption) ?_ (by omega) rfl ?_
 | refine K.ldAE (by assumption) ?_ (by omega) rfl ?_
 | refine K.iaC (by omega) ?_
 | refine K.condT (by first | assumption | omega) ?_
 | refine K.condF (by first | assumption | omega) ?_
 | refine K.condbT (by assumption) ?_
 | refine K.condbF (by assumption) ?_
 | simp -dsimp only [LL,Nat.reduceAdd,Nat.reduceEqDiff,reduceIte,reduceCtorEq,Bool.false_eq_true])
  refine K.new fun w1 b1 hb1 he1 hc1 => ?_
  (repeat' first
 | assumption
 | exact Ext.refl _
 | refine Ext.trans ?_ (by assumption)
 | refine K.wrap (by omega) ?_
 | refine K.ldb (by assumption) ?_ rfl ?_
 | refine K.ldb0 (by assumption) ?_ rfl ?_
 | refine K.ldE (by assumption) ?_ (by omega) rfl ?_
 | refine K.ldE0 (by assumption) ?_ (by omega) rfl ?_
 | refine K.ldAE (by assumption) ?_ (by omega) rfl ?_
 | refine K.iaC (by omega) ?_
 | refine K.condT (by first | assumption | omega) ?_
 | refine K.condF (by first | assumption | omega) ?_
 | refine K.condbT (by assumption) ?_
 | refine K.condbF (by assumption) ?_
 | simp -dsimp only [LL,Nat.reduceAdd,Nat.reduceEqDiff,reduceIte,reduceCtorEq,Bool.false_eq_true])
  simp -dsimp only [B9]
  (repeat' first
 | assumption
 | exact Ext.refl _
 | refine Ext.trans ?_ (by assumption)
 | refine K.wrap (by omega) ?_
 | refine K.ldb (by assumption) ?_ rfl ?_
 | refine K.ldb0 (by assumption) ?_ rfl ?_
 | refine K.ldE (by assumption) ?_ (by omega) rfl ?_
 | refine K.ldE0 (by assumption) ?_ (by omega) rfl ?_
 | refine K.ldAE (by assumption) ?_ (by omega) rfl ?_
 | refine K.iaC (by omega) ?_
 | refine K.condT (by first | assumption | omega) ?_
 | refine K.condF (by first | assumption | omega) ?_
 | refine K.condbT (by assumption) ?_
 | refine K.condbF (by assumption) ?_
 | simp -dsimp only [LL,Nat.reduceAdd,Nat.reduceEqDiff,reduceIte,reduceCtorEq,Bool.false_eq_true])
  refine K.qfn _ (fun w' e => parts_r x.op m w' (ho.ext (he1.trans e))) ?_
  (repeat' first
 | assumption
 | exact Ext.refl _
 | refine Ext.trans ?_ (by assumption)
 | refine K.wrap (by omega) ?_
 | refine K.ldb (by assumption) ?_ rfl ?_
 | refine K.ldb0 (by assumption) ?_ rfl ?_
 | refine K.ldE (by assumption) ?_ (by omega) rfl ?_
 | refine K.ldE0 (by assumption) ?_ (by omega) rfl ?_
 | refine K.ldAE (by assumption) ?_ (by omega) rfl ?_
 | refine K.iaC (by omega) ?_
 | refine K.condT (by first | assumption | omega) ?_
 | refine K.condF (by first | assumption | omega) ?_
 | refine K.condbT (by assumption) ?_
 | refine K.condbF (by assumption) ?_
 | simp -dsimp only [LL,Nat.reduceAdd,Nat.reduceEqDiff,reduceIte,reduceCtorEq,Bool.false_eq_true])
  intro w2 he2
  have he12 := he1.trans he2
  (repeat' first
 | assumption
 | exact Ext.refl _
 | refine Ext.trans ?_ (by assumption)
 | refine K.wrap (by omega) ?_
 | refine K.ldb (by assumption) ?_ rfl ?_
 | refine K.ldb0 (by assumption) ?_ rfl ?_
 | refine K.ldE (by assumption) ?_ (by omega) rfl ?_
 | refine K.ldE0 (by assumption) ?_ (by omega) rfl ?_
 | refine K.ldAE (by assumption) ?_ (by omega) rfl ?_
 | refine K.iaC (by omega) ?_
 | refine K.condT (by first | assumption | omega) ?_
 | refine K.condF (by first | assumption | omega) ?_
 | refine K.condbT (by assumption) ?_
 | refine K.condbF (by assumption) ?_
 | simp -dsimp only [LL,Nat.reduceAdd,Nat.reduceEqDiff,reduceIte,reduceCtorEq,Bool.false_eq_true])
  simp -dsimp only [B9]
  generalize hn : Abs.nparts x.op = n
  have hn2 : -1 ≤ n ∧ n ≤ 2 := by rw [← hn]; unfold Abs.nparts; (repeat' split) <;> omega
  refine St ?_
  refine K.cond (fun g1 => ?_) (fun g1 => ?_)
  · refine St ?_
    have hs : Abs.stepG f x st = (3, st) := by unfold Abs.stepG; rw [hn, if_pos g1]
    rw [hs]
    exact ⟨rfl, he12.mod, fun h => by cases h⟩
  refine St ?_
  refine K.cond (fun g2 => ?_) (fun g2 => ?_)
  · refine St ?_
    have hs : Abs.stepG f x st = (4, st) := by unfold Abs.stepG; rw [hn, if_neg g1, if_pos g2]
    rw [hs]
    exact ⟨rfl, he12.mod, fun h => by cases h⟩
  (repeat' first
 | assumption
 | exact Ext.refl _
 | refine Ext.trans ?_ (by assumption)
 | refine K.wrap (by omega) ?_
 | refine K.ldb (by assumption) ?_ rfl ?_
 | refine K.ldb0 (by assumption) ?_ rfl ?_
 | refine K.ldE (by assumption) ?_ (by omega) rfl ?_
 | refine K.ldE0 (by assumption) ?_ (by omega) rfl ?_
 | refine K.ldAE (by assumption) ?_ (by omega) rfl ?_
 | refine K.iaC (by omega) ?_
 | refine K.condT (by first | assumption | omega) ?_
 | refine K.condF (by first | assumption | omega) ?_
 | refine K.condbT (by assumption) ?_
 | refine K.condbF (by assumption) ?_
 | simp -dsimp only [LL,Nat.reduceAdd,Nat.reduceEqDiff,reduceIte,reduceCtorEq,Bool.false_eq_true])
  simp -dsimp only [B9]
  (repeat' first
 | assumption
 | exact Ext.refl _
 | refine Ext.trans ?_ (by assumption)
 | refine K.wrap (by omega) ?_
 | refine K.ldb (by assumption) ?_ rfl ?_
 | refine K.ldb0 (by assumption) ?_ rfl ?_
 | refine K.ldE (by assumption) ?_ (by omega) rfl ?_
 | refine K.ldE0 (by assumption) ?_ (by omega) rfl ?_
 | refine K.ldAE (by assumption) ?_ (by omega) rfl ?_
 | refine K.iaC (by omega) ?_
 | refine K.condT (by first | assumption | omega) ?_
 | refine K.condF (by first | assumption | omega) ?_
 | refine K.condbT (by assumption) ?_
 | refine K.condbF (by assumption) ?_
 | simp -dsimp only [LL,Nat.reduceAdd,Nat.reduceEqDiff,reduceIte,reduceCtorEq,Bool.false_eq_true])
  simp -dsimp only [B9]
  (repeat' first
 | assumption
 | exact Ext.refl _
 | refine Ext.trans ?_ (by assumption)
 | refine K.wrap (by omega) ?_
 | refine K.ldb (by assumption) ?_ rfl ?_
 | refine K.ldb0 (by assumption) ?_ rfl ?_
 | refine K.ldE (by assumption) ?_ (by omega) rfl ?_
 | refine K.ldE0 (by assumption) ?_ (by omega) rfl ?_
 | refine K.ldAE (by assumption) ?_ (by omega) rfl ?_
 | refine K.iaC (by omega) ?_
 | refine K.condT (by first | assumption | omega) ?_
 | refine K.condF (by first | assumption | omega) ?_
 | refine K.condbT (by assumption) ?_
 | refine K.condbF (by assumption) ?_
 | simp -dsimp only [LL,Nat.reduceAdd,Nat.reduceEqDiff,reduceIte,reduceCtorEq,Bool.false_eq_true])
  have hsg : Abs.stepG f x st = if (f x st).2 ≠ 0 then ((f x st).2, st) else if (st.take (st.length - n.toNat) ++ [(f x st).1]).length > 12 then (12, st) else (0, st.take (st.length - n.toNat) ++ [(f x st).1]) := by
    unfold Abs.stepG; rw [hn, if_neg g1, if_neg g2]
  rw [hsg]
  clear hsg
  have hfx := hf x st
  generalize hr : f x st = r at hfx ⊢
  refine K.cut (fun S' w' => S' 0 = .pointer (some ⟨b, 0, none⟩) ∧ S' 9 = .int .i64 n ∧ S' 10 = .int .i64 r.1 ∧ S' 11 = .int .i64 r.2 ∧ Ext w w') ?_ ?_
  · refine St ?_
    intro w3 he3
    obtain ⟨es, q, j1, j2, j3⟩ := (ho.ext (he12.trans he3)).look x.op
    refine St ?_
    refine K.lkp j1 j2 ?_
    cases hop : Abs.opOf x.op with
    | none =>
      simp only [hop] at j3 hfx
      subst j3
      simp only [lkpV, Option.map_none, Option.getD_none, Option.isSome_none, if_true]
      refine St ?_
      refine K.new fun w4 b4 hb4 he4 hc4 => ?_
      refine ⟨he4, ?_⟩
      refine St ?_
      refine K.stAb (cs := #[.int .i64 0, .int .i64 0, .int .i64 0, .nilFunc]) hc4 rfl rfl (by simp [Value.oneCell']) fun w5 hw5 hc5 => ?_
      have he5 : Ext w3 w5 := hw5.ext he4 hb4
      clear hc4 hw5 he4
      refine St ?_
      refine K.ldAb (c := [_, _]) (he2.obj hc1) (by (repeat' first | assumption | exact Ext.refl _ | refine Ext.trans ?_ (by assumption))) rfl ?_
      refine St ?_
      refine hleaf (by omega) (by omega) hop _ _ _ ((he12.trans he3).trans he5) fun w6 he6 => ?_
      refine St ?_
      rw [hfx]
      exact ⟨trivial, trivial, rfl, rfl, ((he12.trans he3).trans he5).trans he6⟩
    | some o =>
      simp only [hop] at j3 hfx
      obtain ⟨i, ov, rfl, u, rfl, hd⟩ := j3
      obtain ⟨o1, o2⟩ := nparts_op hop
      have on := (Abs.opOf_parts hop).1
      simp only [lkpV, Option.map_some, Option.getD_some, Option.isSome_some, if_true]
      refine St ?_
      refine K.new fun w4 b4 hb4 he4 hc4 => ?_
      refine ⟨he4, ?_⟩
      refine St ?_
      refine K.stAb (cs := #[.int .i64 o.parts, .int .i64 o.takes, .int .i64 o.makes, u]) hc4 rfl rfl (by rcases hd with ⟨f, rfl, _⟩ | ⟨c, f, p, rfl, _⟩ <;> simp [Value.oneCell']) fun w5 hw5 hc5 => ?_
      have he5 : Ext w3 w5 := hw5.ext he4 hb4
      clear hc4 hw5 he4
      have he35 := (he12.trans he3).trans he5
      have hd5 : OpV w3 o (.agg #[.int .i64 o.parts, .int .i64 o.takes, .int .i64 o.makes, u]) := ⟨u, rfl, hd⟩
      obtain ⟨p, rfl⟩ := Int.eq_ofNat_of_zero_le (show 0 ≤ n by omega)
      have hp : o.parts.toNat = p := by omega
      refine St ?_
      refine K.ldAb (c := [_, _, _, _]) hc5 (Ext.refl _) rfl ?_
      refine St ?_
      refine K.slcD (st.length - p) (by simp -dsimp only [LL,B9,Nat.reduceAdd,Nat.reduceEqDiff,reduceIte,reduceCtorEq,Bool.false_eq_true]; rw [Int.ofNat_sub (by omega)]) ⟨by omega, by omega⟩ ?_
      have ht := hi.tail (st.length - p) (by omega)
      rw [hp] at hfx
      refine St ?_
      refine K.qval _ (fun w' e => htwo o _ _ w' _ _ (he35.trans e) hop ⟨u, rfl, hd.ext (he5.trans e)⟩ (by omega) (by rw [hp]; exact ht.ext Flat.ext (he35.trans e)) fun w'' e2 => ⟨rfl, e2⟩) ?_
      refine St ?_
      intro w6 he6
      refine St ?_
      rw [hfx, hp]
      exact ⟨trivial, trivial, rfl, rfl, he35.trans he6⟩
  · clear hc1 he1 he2 he12
    rintro S w3 hS ⟨s0, s9, s10, s11, he3⟩
    simp -dsimp only [B9]
    (repeat' first
 | assumption
 | exact Ext.refl _
 | refine Ext.trans ?_ (by assumption)
 | refine K.wrap (by omega) ?_
 | refine K.ldb (by assumption) ?_ rfl ?_
 | refine K.ldb0 (by assumption) ?_ rfl ?_
 | refine K.ldE (by assumption) ?_ (by omega) rfl ?_
 | refine K.ldE0 (by assumption) ?_ (by omega) rfl ?_
 | refine K.ldAE (by assumption) ?_ (by omega) rfl ?_
 | refine K.iaC (by omega) ?_
 | refine K.condT (by first | assumption | omega) ?_
 | refine K.condF (by first | assumption | omega) ?_
 | refine K.condbT (by assumption) ?_
 | refine K.condbF (by assumption) ?_
 | simp -dsimp only [LL,B9,Nat.reduceAdd,Nat.reduceEqDiff,reduceIte,reduceCtorEq,Bool.false_eq_true,s0, s9, s10, s11])
    refine K.cond (fun g3 => ?_) (fun g3 => ?_)
    rotate_left
    · (repeat' first
 | assumption
 | exact Ext.refl _
 | refine Ext.trans ?_ (by assumption)
 | refine K.wrap (by omega) ?_
 | refine K.ldb (by assumption) ?_ rfl ?_
 | refine K.ldb0 (by assumption) ?_ rfl ?_
 | refine K.ldE (by assumption) ?_ (by omega) rfl ?_
 | refine K.ldE0 (by assumption) ?_ (by omega) rfl ?_
 | refine K.ldAE (by assumption) ?_ (by omega) rfl ?_
 | refine K.iaC (by omega) ?_
 | refine K.condT (by first | assumption | omega) ?_
 | refine K.condF (by first | assumption | omega) ?_
 | refine K.condbT (by assumption) ?_
 | refine K.condbF (by assumption) ?_
 | simp -dsimp only [LL,B9,Nat.reduceAdd,Nat.reduceEqDiff,reduceIte,reduceCtorEq,Bool.false_eq_true,s11])
      rw [if_pos g3]
      exact ⟨rfl, he3.mod, fun h => absurd h g3⟩
    obtain ⟨p, rfl⟩ := Int.eq_ofNat_of_zero_le (show 0 ≤ n by omega)
    have g3' : ¬ r.2 ≠ 0 := by simpa using g3
    rw [if_neg g3']
    have hml : (st.take (st.length - p) ++ [r.1]).length = st.length - p + 1 := by simp [List.length_take]
    have hm3 := hm.ext he3
    have ho3 : OwnI base w3 (.slice oa st.length cap) st := hown.ext he3
    (repeat' first
 | assumption
 | exact Ext.refl _
 | refine Ext.trans ?_ (by assumption)
 | refine K.wrap (by omega) ?_
 | refine K.ldb (by assumption) ?_ rfl ?_
 | refine K.ldb0 (by assumption) ?_ rfl ?_
 | refine K.ldE (by assumption) ?_ (by omega) rfl ?_
 | refine K.ldE0 (by assumption) ?_ (by omega) rfl ?_
 | refine K.ldAE (by assumption) ?_ (by omega) rfl ?_
 | refine K.iaC (by omega) ?_
 | refine K.condT (by first | assumption | omega) ?_
 | refine K.condF (by first | assumption | omega) ?_
 | refine K.condbT (by assumption) ?_
 | refine K.condbF (by assumption) ?_
 | simp -dsimp only [LL,Nat.reduceAdd,Nat.reduceEqDiff,reduceIte,reduceCtorEq,Bool.false_eq_true])
    simp -dsimp only [B9]
    (repeat' first
 | assumption
 | exact Ext.refl _
 | refine Ext.trans ?_ (by assumption)
 | refine K.wrap (by omega) ?_
 | refine K.ldb (by assumption) ?_ rfl ?_
 | refine K.ldb0 (by assumption) ?_ rfl ?_
 | refine K.ldE (by assumption) ?_ (by omega) rfl ?_
 | refine K.ldE0 (by assumption) ?_ (by omega) rfl ?_
 | refine K.ldAE (by assumption) ?_ (by omega) rfl ?_
 | refine K.iaC (by omega) ?_
 | refine K.condT (by first | assumption | omega) ?_
 | refine K.condF (by first | assumption | omega) ?_
 | refine K.condbT (by assumption) ?_
 | refine K.condbF (by assumption) ?_
 | simp -dsimp only [LL,B9,Nat.reduceAdd,Nat.reduceEqDiff,reduceIte,reduceCtorEq,Bool.false_eq_true,s0, s9, s10, s11])
    intro w4 he4
    have ho4 : OwnI base w4 (.slice oa st.length cap) st := ho3.ext he4
    (repeat' first
 | assumption
 | exact Ext.refl _
 | refine Ext.trans ?_ (by assumption)
 | refine K.wrap (by omega) ?_
 | refine K.ldb (by assumption) ?_ rfl ?_
 | refine K.ldb0 (by assumption) ?_ rfl ?_
 | refine K.ldE (by assumption) ?_ (by omega) rfl ?_
 | refine K.ldE0 (by assumption) ?_ (by omega) rfl ?_
 | refine K.ldAE (by assumption) ?_ (by omega) rfl ?_
 | refine K.iaC (by omega) ?_
 | refine K.condT (by first | assumption | omega) ?_
 | refine K.condF (by first | assumption | omega) ?_
 | refine K.condbT (by assumption) ?_
 | refine K.condbF (by assumption) ?_
 | simp -dsimp only [LL,B9,Nat.reduceAdd,Nat.reduceEqDiff,reduceIte,reduceCtorEq,Bool.false_eq_true,s0, s9, s10, s11])
    refine K.slcT (st.length - p) (by simp -dsimp only [LL,B9,Nat.reduceAdd,Nat.reduceEqDiff,reduceIte,reduceCtorEq,Bool.false_eq_true]; rw [Int.ofNat_sub (by omega)]) (by omega) ?_
    (repeat' first
 | assumption
 | exact Ext.refl _
 | refine Ext.trans ?_ (by assumption)
 | refine K.wrap (by omega) ?_
 | refine K.ldb (by assumption) ?_ rfl ?_
 | refine K.ldb0 (by assumption) ?_ rfl ?_
 | refine K.ldE (by assumption) ?_ (by omega) rfl ?_
 | refine K.ldE0 (by assumption) ?_ (by omega) rfl ?_
 | refine K.ldAE (by assumption) ?_ (by omega) rfl ?_
 | refine K.iaC (by omega) ?_
 | refine K.condT (by first | assumption | omega) ?_
 | refine K.condF (by first | assumption | omega) ?_
 | refine K.condbT (by assumption) ?_
 | refine K.condbF (by assumption) ?_
 | simp -dsimp only [LL,B9,Nat.reduceAdd,Nat.reduceEqDiff,reduceIte,reduceCtorEq,Bool.false_eq_true,s0, s9, s10, s11])
    refine K.bldSa (cs := [r.1].flatMap encI) (by simp [List.range, List.range.loop, fillC, lay, ev_tmp, upd_at, Value.cells, encI]) fun w5 b5 hb5 he5 hc5 => ?_
    refine ⟨he5, ?_⟩
    refine St ?_
    have ho5 : OwnI base w5 (.slice oa (st.length - p) cap) (st.take (st.length - p)) := OwR.head (enc := encI) (sz := 1) (xs := st) (fun _ => rfl) (OwR.ext he5 ho4) (st.length - p) (Nat.sub_le _ _)
    have hlt : (st.take (st.length - p)).length = st.length - p := by simp [List.length_take]
    have q8 : ((st.take (st.length - p)).length + [r.1].length) * 8 ≤ 140737488355328 := by rw [hlt]; simp only [List.length_cons, List.length_nil]; omega
    have q63 : (st.take (st.length - p)).length + [r.1].length ≤ maxLen := by rw [hlt]; simp only [List.length_cons, List.length_nil, maxLen]; omega
    have q1 : ∀ y, ∀ u ∈ encI y, u.oneCell' = true := fun y u h => by simp [encI] at h; subst h; rfl
    refine K.appO (xs := st.take (st.length - p)) (ys := [r.1]) ho5 (fun _ => rfl) (cellsAt_blk hc5) rfl q1 q8 q63 (by have := hm.le; have := he3.size; have := he4.size; have := he5.size; omega) fun v6 w6 ho6 hg6 => ?_
    have hb5' : w5.heap[b]? = some (.cells #[.slice oa st.length cap, m] T.expr_machine) := he5.obj (he4.obj (he3.obj hh))
    have hb6 : w6.heap[b]? = some (.cells #[.slice oa st.length cap, m] T.expr_machine) := by
      refine (hg6.block b (lt_of_heap hb5') fun e => ?_).trans hb5'
      have := (ho5.lt b e.symm).1
      have := hm.lt
      omega
    refine St ?_
    refine K.st1 hb6 (by simp) (by obtain ⟨oa, cap, e, _⟩ := ho6.form; rw [e]; rfl) fun w7 hw7 hc7 => ?_
    have hmod : Mod (fun k => k = b ∨ base ≤ k) w w7 :=
      (((he3.trans he4).trans he5).mod.trans (Mod.grown hg6 fun k hk => .inr (ho5.lt k hk).1)).trans (hw7.mod (.inl rfl))
    have hm7 : MachIs base b w7 m (st.take (st.length - p) ++ [r.1]) :=
      ⟨⟨v6, hc7, ho6.wr hw7 hm.lt⟩, hm.lt, Nat.le_trans hm.le hmod.size⟩
    obtain ⟨oa6, cap6, rfl, hc6, _⟩ := ho6.form
    rw [hml]
    have hl6 : ((st.take (st.length - p) ++ [r.1]).length : Int) = st.length - p + 1 := by rw [hml]; omega
    (repeat' first
 | assumption
 | exact Ext.refl _
 | refine Ext.trans ?_ (by assumption)
 | refine K.wrap (by omega) ?_
 | refine K.ldb (by assumption) ?_ rfl ?_
 | refine K.ldb0 (by assumption) ?_ rfl ?_
 | refine K.ldE (by assumption) ?_ (by omega) rfl ?_
 | refine K.ldE0 (by assumption) ?_ (by omega) rfl ?_
 | refine K.ldAE (by assumption) ?_ (by omega) rfl ?_
 | refine K.iaC (by omega) ?_
 | refine K.condT (by first | assumption | omega) ?_
 | refine K.condF (by first | assumption | omega) ?_
 | refine K.condbT (by assumption) ?_
 | refine K.condbF (by assumption) ?_
 | simp -dsimp only [LL,B9,Nat.reduceAdd,Nat.reduceEqDiff,reduceIte,reduceCtorEq,Bool.false_eq_true,s0, s9, s10, s11])
    refine K.cond (fun g4 => ?_) (fun g4 => ?_)
    · refine St ?_
      simp only [Int.toNat_natCast, hml]
      rw [if_pos (by omega)]
      exact ⟨rfl, hmod, fun h => by cases h⟩
    · refine St ?_
      simp only [Int.toNat_natCast, hml]
      rw [if_neg (by omega)]
      exact ⟨rfl, hmod, fun _ => hm7⟩
end Go.Proofs.YtpaahhleopalaaaGreatDoor
end
section
/- The machine: all steps; the kind of an expression. -/
set_option maxRecDepth 4000
set_option linter.unusedSimpArgs false
set_option maxHeartbeats 4000000
namespace Go.Proofs.YtpaahhleopalaaaGreatDoor
open Go Go.RowKit Lite

theorem run_r (f : Abs.Node → List Int → Int × Int) (two : Abs.OpD → List Int → Int × Int) (leaf : Abs.Node → List Int → Int × Int) (hf : stepRes f two leaf) (good : Int → Prop)
    (b : Nat) (w0 w : World) (hw0 : Ext w0 w) (hb0 : w0.heap.size ≤ b) (ve vl v2 : Value) (e : List Abs.Node) (he : Abs.Nodes w0 ve e) (hb : w.heap[b]? = some (.cells #[.slice none 0 0, .map none] T.expr_machine))
    (hgood : ∀ x st, x.ok → (∀ z ∈ st, good z) → 0 ≤ Abs.nparts x.op → Abs.nparts x.op ≤ st.length → (f x st).2 = 0 → good (f x st).1)
    (hleaf : ∀ x st base m w', x.ok → Mod (fun k => k = b) w w' → MachIs base b w' m st → (∀ z ∈ st, good z) → 0 ≤ Abs.nparts x.op → Abs.nparts x.op ≤ st.length → Abs.opOf x.op = none → ∀ w1 KK t, Ext w' w1 →
      (∀ w'', Ext w1 w'' → KK (.tuple #[.int .i64 (leaf x st).1, .int .i64 (leaf x st).2]) w'') → CallYh Tryz.prog vl [.agg x.enc.toArray] w1 KK t)
    (htwo : ∀ o ov lv l w' KK t, Mod (fun k => k = b) w w' → OpV w' o ov → (∃ x, Abs.opOf x = some o) → o.parts = l.length → Ints w' lv l →
      (∀ w'', Ext w' w'' → KK (.tuple #[.int .i64 (two o l).1, .int .i64 (two o l).2]) w'') → CallVh Tryz.prog v2 [ov, lv] w' KK t) :
    Ret Tryz.prog F.p_expr_machine_run #[.pointer (some ⟨b, 0, none⟩), ve, vl, v2] w fun v w' =>
      v = .tuple #[.int .i64 (Abs.runE f e).1, .int .i64 (Abs.runE f e).2] ∧ Mod (fun k => k = b) w w' := by
  obtain ⟨oa, cap, rfl, hlen⟩ := he.form
  refine K.start hmix E.p_expr_machine_run (args := [_, _, _, _]) (Nat.le_of_ble_eq_true rfl) ?_
  dsimp only [C.p_expr_machine_run]; refine Yy ?_
  refine St ?_
  refine K.cond (fun g1 => ?_) (fun g1 => ?_)
  · refine St ?_
    rw [Abs.runE, if_pos (by omega)]
    exact ⟨rfl, Mod.refl _ _⟩
  refine St ?_
  refine K.cond (fun g2 => ?_) (fun g2 => ?_)
  · refine St ?_
    rw [Abs.runE, if_neg (by omega), if_pos (by omega)]
    exact ⟨rfl, Mod.refl _ _⟩
  refine St ?_
  refine K.call (ops_r w) ?_
  rintro m w1 ⟨hops, he1⟩
  refine St ?_
  refine K.st1 (he1.obj hb) (by decide) (by obtain ⟨r, _, _, _, e, _⟩ := hops; rw [e]; rfl) fun w2 hw2 hc2 => ?_
  have hc2' : w2.heap[b]? = some (.cells #[.slice none 0 0, m] T.expr_machine) := hc2
  clear hc2
  have hops2 : OpsIs w2 m := hops.mod (A := fun k => k = b) (hw2.mod rfl) fun k o h1 h2 hk => by
    subst hk
    rw [he1.obj hb] at h1
    injection h1 with h1
    rcases h2 with ⟨es, c, h2⟩ | ⟨cs, h2⟩
    · rw [h2] at h1; cases h1
    · rw [h2] at h1
      injection h1 with _ h1
      cases h1
  have hm02 : Mod (fun k => k = b) w w2 := he1.mod.trans (hw2.mod rfl)
  have hlt : b < w2.heap.size := lt_of_heap hc2'
  refine St ?_
  refine K.for1 27 e.length (fun k S w' => Mod (fun k => k = b) w2 w' ∧ ∃ st, Abs.runL f (e.take k) [] = (0, st) ∧ MachIs w2.heap.size b w' m st ∧ (0 < k → 1 ≤ st.length) ∧ st.length ≤ 12 ∧ ∀ z ∈ st, good z)
    (by simp -dsimp only [LL,B9,Nat.reduceAdd,Nat.reduceEqDiff,reduceIte,reduceCtorEq,Bool.false_eq_true]) ⟨Mod.refl _ _, [], by simp [Abs.runL], ⟨⟨_, hc2', OwR.nil _ _ _ _ _⟩, hlt, Nat.le_refl _⟩, by simp, by simp, by simp⟩ ?_
  rintro k S w3 hS hk h27 ⟨hmod, st, hrun, hmach, h1st, h12, hgd⟩
  have h0 := hS 0 rfl; have h1 := hS 1 rfl; have h2 := hS 2 rfl; have h3 := hS 3 rfl; have h25 := hS 25 rfl; have h26 := hS 26 rfl; simp only [upd_at, Nat.reduceAdd, Nat.reduceEqDiff, reduceIte, fr0_cons, fr0_nil] at h0 h1 h2 h3 h25 h26; clear hS
  have hm03 : Mod (fun k => k = b) w w3 := hm02.trans hmod
  (repeat' first
 | assumption
 | exact Ext.refl _
 | refine Ext.trans ?_ (by assumption)
 | refine K.wrap (by omega) ?_
 | refine K.ldb (by assumption) ?_ rfl ?_
 | refine K.ldb0 (by assumption) ?_ rfl ?_
 | refine K.ldE (by assumption) ?_ (by omega) rfl ?_
 | refine K.ldE0 (by assumption) ?_ (by omega) rfl ?_
 | refine K.ldAE (by assumption) ?_ (by omega) rfl ?_
 | refine K.iaC (by omega) ?_
 | refine K.condT (by first | assumption | omega) ?_
 | refine K.condF (by first | assumption | omega) ?_
 | refine K.condbT (by assumption) ?_
 | refine K.condbF (by assumption) ?_
 | simp -dsimp only [LL,B9,Nat.reduceAdd,Nat.reduceEqDiff,reduceIte,reduceCtorEq,Bool.false_eq_true,h0, h1, h2, h3, h25, h26, h27])
  refine K.cond (fun g3 => ?_) (fun g3 => ?_)
  · have hk' : k < e.length := by omega
    have h03 : Ext w0 w3 := hm03.ext hw0 fun q hq e => by omega
    obtain ⟨a, rfl⟩ := he.addr (by omega)
    have hxk := (he.at k hk').ok
    have hrs := fun h0 => Abs.runE_err (f := f) (e := e) (by omega) hk' hrun h0
    have hrn := Abs.runL_step hk' hrun
    have hops3 : OpsIs w3 m := hops2.mod (A := fun k => k = b) hmod fun k o h1 h2 hk => by
      subst hk
      rw [hc2'] at h1
      injection h1 with h1
      rcases h2 with ⟨es, c, h2⟩ | ⟨cs, h2⟩
      · rw [h2] at h1; cases h1
      · rw [h2] at h1
        injection h1 with _ h1
        cases h1
    (repeat' first
 | assumption
 | exact Ext.refl _
 | refine Ext.trans ?_ (by assumption)
 | refine K.wrap (by omega) ?_
 | refine K.ldb (by assumption) ?_ rfl ?_
 | refine K.ldb0 (by assumption) ?_ rfl ?_
 | refine K.ldE (by assumption) ?_ (by omega) rfl ?_
 | refine K.ldE0 (by assumption) ?_ (by omega) rfl ?_
 | refine K.ldAE (by assumption) ?_ (by omega) rfl ?_
 | refine K.iaC (by omega) ?_
 | refine K.condT (by first | assumption | omega) ?_
 | refine K.condF (by first | assumption | omega) ?_
 | refine K.condbT (by assumption) ?_
 | refine K.condbF (by assumption) ?_
 | simp -dsimp only [LL,B9,Nat.reduceAdd,Nat.reduceEqDiff,reduceIte,reduceCtorEq,Bool.false_eq_true,h0, h1, h2, h3, h25, h26, h27])
    generalize hx : e[k] = x at *
    refine K.newst (vs := x.enc) (fun _ => by simp -dsimp only [LL,B9,Nat.reduceAdd,Nat.reduceEqDiff,reduceIte,reduceCtorEq,Bool.false_eq_true]) rfl rfl (by simp [Abs.Node.enc, Value.oneCell']) fun w4 b4 hb4 he4 hc4 => ?_
    (repeat' first
 | assumption
 | exact Ext.refl _
 | refine Ext.trans ?_ (by assumption)
 | refine K.wrap (by omega) ?_
 | refine K.ldb (by assumption) ?_ rfl ?_
 | refine K.ldb0 (by assumption) ?_ rfl ?_
 | refine K.ldE (by assumption) ?_ (by omega) rfl ?_
 | refine K.ldE0 (by assumption) ?_ (by omega) rfl ?_
 | refine K.ldAE (by assumption) ?_ (by omega) rfl ?_
 | refine K.iaC (by omega) ?_
 | refine K.condT (by first | assumption | omega) ?_
 | refine K.condF (by first | assumption | omega) ?_
 | refine K.condbT (by assumption) ?_
 | refine K.condbF (by assumption) ?_
 | simp -dsimp only [LL,B9,Nat.reduceAdd,Nat.reduceEqDiff,reduceIte,reduceCtorEq,Bool.false_eq_true,h0, h1, h2, h3, h25, h26, h27])
    refine K.ldAb (c := x.enc) hc4 (Ext.refl _) rfl ?_
    (repeat' first
 | assumption
 | exact Ext.refl _
 | refine Ext.trans ?_ (by assumption)
 | refine K.wrap (by omega) ?_
 | refine K.ldb (by assumption) ?_ rfl ?_
 | refine K.ldb0 (by assumption) ?_ rfl ?_
 | refine K.ldE (by assumption) ?_ (by omega) rfl ?_
 | refine K.ldE0 (by assumption) ?_ (by omega) rfl ?_
 | refine K.ldAE (by assumption) ?_ (by omega) rfl ?_
 | refine K.iaC (by omega) ?_
 | refine K.condT (by first | assumption | omega) ?_
 | refine K.condF (by first | assumption | omega) ?_
 | refine K.condbT (by assumption) ?_
 | refine K.condbF (by assumption) ?_
 | simp -dsimp only [LL,B9,Nat.reduceAdd,Nat.reduceEqDiff,reduceIte,reduceCtorEq,Bool.false_eq_true,h0, h1, h2, h3, h25, h26, h27])
    have hm04 : Mod (fun k => k = b) w w4 := hm03.trans he4.mod
    refine K.call (step_r f two leaf hf x w2.heap.size b w4 m vl v2 st (hmach.ext he4) (hops3.ext he4) (by omega)
      (fun q1 q2 q3 w' KK t hw' hk => hleaf x st _ m w4 hxk hm04 (hmach.ext he4) hgd q1 q2 q3 w' KK t hw' hk)
      (fun o ov lv w' KK t hw' q1 q2 q3 q4 hk => htwo o ov lv _ w' KK t (hm04.trans hw'.mod) q2 ⟨_, q1⟩ (by have := nparts_op q1; simp [List.length_drop]; omega) q4 hk)) ?_
    rintro _ w5 ⟨rfl, hm5, hst5⟩
    have hm05 : Mod (fun k => k = b) w w5 := hm04.then hm5 fun i hi h => by
      rcases h with h | h
      · exact h
      · have := hm02.size; omega
    (repeat' first
 | assumption
 | exact Ext.refl _
 | refine Ext.trans ?_ (by assumption)
 | refine K.wrap (by omega) ?_
 | refine K.ldb (by assumption) ?_ rfl ?_
 | refine K.ldb0 (by assumption) ?_ rfl ?_
 | refine K.ldE (by assumption) ?_ (by omega) rfl ?_
 | refine K.ldE0 (by assumption) ?_ (by omega) rfl ?_
 | refine K.ldAE (by assumption) ?_ (by omega) rfl ?_
 | refine K.iaC (by omega) ?_
 | refine K.condT (by first | assumption | omega) ?_
 | refine K.condF (by first | assumption | omega) ?_
 | refine K.condbT (by assumption) ?_
 | refine K.condbF (by assumption) ?_
 | simp -dsimp only [LL,B9,Nat.reduceAdd,Nat.reduceEqDiff,reduceIte,reduceCtorEq,Bool.false_eq_true,h0, h1, h2, h3, h25, h26, h27])
    refine K.cond (fun g4 => ?_) (fun g4 => ?_)
    rotate_left
    · (repeat' first
 | assumption
 | exact Ext.refl _
 | refine Ext.trans ?_ (by assumption)
 | refine K.wrap (by omega) ?_
 | refine K.ldb (by assumption) ?_ rfl ?_
 | refine K.ldb0 (by assumption) ?_ rfl ?_
 | refine K.ldE (by assumption) ?_ (by omega) rfl ?_
 | refine K.ldE0 (by assumption) ?_ (by omega) rfl ?_
 | refine K.ldAE (by assumption) ?_ (by omega) rfl ?_
 | refine K.iaC (by omega) ?_
 | refine K.condT (by first | assumption | omega) ?_
 | refine K.condF (by first | assumption | omega) ?_
 | refine K.condbT (by assumption) ?_
 | refine K.condbF (by assumption) ?_
 | simp -dsimp only [LL,B9,Nat.reduceAdd,Nat.reduceEqDiff,reduceIte,reduceCtorEq,Bool.false_eq_true,h0, h1, h2, h3, h25, h26, h27])
      rw [hrs g4]
      exact ⟨by first | trivial | rfl, hm05⟩
    have hlen5 := Abs.step_len g4
    have hgood5 : ∀ z ∈ (Abs.stepG f x st).2, good z := by
      have hg := hgood x st hxk hgd
      clear hrs hrn hlen5 hst5
      unfold Abs.stepG at g4 ⊢
      by_cases q1 : Abs.nparts x.op < 0
      · rw [if_pos q1] at g4; cases g4
      by_cases q2 : (st.length : Int) < Abs.nparts x.op
      · rw [if_neg q1, if_pos q2] at g4; cases g4
      by_cases q3 : (f x st).2 ≠ 0
      · rw [if_neg q1, if_neg q2, if_pos q3] at g4; exact absurd g4 q3
      by_cases q4 : (st.take (st.length - (Abs.nparts x.op).toNat) ++ [(f x st).1]).length > 12
      · rw [if_neg q1, if_neg q2, if_neg q3, if_pos q4] at g4; cases g4
      rw [if_neg q1, if_neg q2, if_neg q3, if_neg q4]
      intro z hz
      rcases List.mem_append.1 hz with hz | hz
      · exact hgd z (List.mem_of_mem_take hz)
      · simp at hz; subst hz; exact hg (by omega) (by omega) (by simpa using q3)
    (repeat' first
 | assumption
 | exact Ext.refl _
 | refine Ext.trans ?_ (by assumption)
 | refine K.wrap (by omega) ?_
 | refine K.ldb (by assumption) ?_ rfl ?_
 | refine K.ldb0 (by assumption) ?_ rfl ?_
 | refine K.ldE (by assumption) ?_ (by omega) rfl ?_
 | refine K.ldE0 (by assumption) ?_ (by omega) rfl ?_
 | refine K.ldAE (by assumption) ?_ (by omega) rfl ?_
 | refine K.iaC (by omega) ?_
 | refine K.condT (by first | assumption | omega) ?_
 | refine K.condF (by first | assumption | omega) ?_
 | refine K.condbT (by assumption) ?_
 | refine K.condbF (by assumption) ?_
 | simp -dsimp only [LL,B9,Nat.reduceAdd,Nat.reduceEqDiff,reduceIte,reduceCtorEq,Bool.false_eq_true,h0, h1, h2, h3, h25, h26, h27])
    refine ⟨hk', by first | trivial | rfl, ?_, (Abs.stepG f x st).2, ?_, hst5 g4, fun _ => hlen5.1, hlen5.2, hgood5⟩
    · refine (hmod.trans he4.mod).then hm5 fun i hi h => ?_
      rcases h with h | h
      · exact h
      · omega
    · rw [hrn]; exact Prod.ext g4 rfl
  · have hk' : k = e.length := by omega
    subst hk'
    rw [List.take_length] at hrun
    obtain ⟨sv, hh, hown⟩ := hmach.ex
    obtain ⟨oa', cap', rfl, hcp, hml⟩ := hown.form
    have hi : Ints w3 _ st := OwR.slr (enc := encI) (sz := 1) (fun _ => rfl) hown
    have h1 := h1st (by omega)
    obtain ⟨a, rfl⟩ := hi.addr h1
    have hE : Abs.runE f e = if st.length > 1 then (0, 5) else (st.headD 0, 0) := by
      rw [Abs.runE, if_neg (by omega), if_neg (by omega), hrun, if_neg (by simp)]
    rw [hE]
    clear hE
    (repeat' first
 | assumption
 | exact Ext.refl _
 | refine Ext.trans ?_ (by assumption)
 | refine K.wrap (by omega) ?_
 | refine K.ldb (by assumption) ?_ rfl ?_
 | refine K.ldb0 (by assumption) ?_ rfl ?_
 | refine K.ldE (by assumption) ?_ (by omega) rfl ?_
 | refine K.ldE0 (by assumption) ?_ (by omega) rfl ?_
 | refine K.ldAE (by assumption) ?_ (by omega) rfl ?_
 | refine K.iaC (by omega) ?_
 | refine K.condT (by first | assumption | omega) ?_
 | refine K.condF (by first | assumption | omega) ?_
 | refine K.condbT (by assumption) ?_
 | refine K.condbF (by assumption) ?_
 | simp -dsimp only [LL,B9,Nat.reduceAdd,Nat.reduceEqDiff,reduceIte,reduceCtorEq,Bool.false_eq_true,h0, h1, h2, h3, h25, h26, h27])
    refine K.cond (fun g4 => ?_) (fun g4 => ?_)
    · refine St ?_
      rw [if_pos (by omega)]
      exact ⟨rfl, hm03⟩
    · (repeat' first
 | assumption
 | exact Ext.refl _
 | refine Ext.trans ?_ (by assumption)
 | refine K.wrap (by omega) ?_
 | refine K.ldb (by assumption) ?_ rfl ?_
 | refine K.ldb0 (by assumption) ?_ rfl ?_
 | refine K.ldE (by assumption) ?_ (by omega) rfl ?_
 | refine K.ldE0 (by assumption) ?_ (by omega) rfl ?_
 | refine K.ldAE (by assumption) ?_ (by omega) rfl ?_
 | refine K.iaC (by omega) ?_
 | refine K.condT (by first | assumption | omega) ?_
 | refine K.condF (by first | assumption | omega) ?_
 | refine K.condbT (by assumption) ?_
 | refine K.condbF (by assumption) ?_
 | simp -dsimp only [LL,B9,Nat.reduceAdd,Nat.reduceEqDiff,reduceIte,reduceCtorEq,Bool.false_eq_true,h0, h1, h2, h3, h25, h26, h27])
      refine K.ian 0 rfl (by omega) ?_
      refine St ?_
      rw [if_neg (by omega)]
      have : st.headD 0 = st[0] := by
        cases st with
        | nil => simp at h1
        | cons z st => rfl
      rw [this]
      exact ⟨by first | trivial | rfl, hm03⟩
/-- The kinds that an operation is given. -/
theorem ktwo_r (o : Abs.OpD) (u lv : Value) (l : List Int) (w : World) (hl : Ints w lv l) :
    Ret Tryz.prog F.expr_Kind_2 #[.agg #[.int .i64 o.parts, .int .i64 o.takes, .int .i64 o.makes, u], lv] w fun v w' => v = .tuple #[.int .i64 (Abs.ktwo o l).1, .int .i64 (Abs.ktwo o l).2] ∧ Ext w w' := by
  obtain ⟨oa, cap, rfl, hlen⟩ := hl.form
  refine K.start hmix E.expr_Kind_2 (args := [_, _]) (Nat.le_of_ble_eq_true rfl) ?_
  dsimp only [C.expr_Kind_2]; refine Yy ?_
  refine St ?_
  refine K.new fun w1 b hb he1 hc1 => ?_
  refine St ?_
  refine K.for1 10 l.length (fun k S w' => w' = w1 ∧ (l.take k).all (fun k => (decide (o.takes = -1) || decide (k = o.takes)) && decide (k = l.headD 0)) = true) (by simp -dsimp only [LL,B9,Nat.reduceAdd,Nat.reduceEqDiff,reduceIte,reduceCtorEq,Bool.false_eq_true]) ⟨rfl, by simp⟩ ?_
  rintro k S w2 hS hk h10 ⟨rfl, hall⟩
  have h1 := hS 1 rfl; have h2 := hS 2 rfl; have h8 := hS 8 rfl; have h9 := hS 9 rfl; simp only [upd_at, Nat.reduceAdd, Nat.reduceEqDiff, reduceIte, fr0_cons, fr0_nil] at h1 h2 h8 h9; clear hS
  (repeat' first
 | assumption
 | exact Ext.refl _
 | refine Ext.trans ?_ (by assumption)
 | refine K.wrap (by omega) ?_
 | refine K.ldb (by assumption) ?_ rfl ?_
 | refine K.ldb0 (by assumption) ?_ rfl ?_
 | refine K.ldE (by assumption) ?_ (by omega) rfl ?_
 | refine K.ldE0 (by assumption) ?_ (by omega) rfl ?_
 | refine K.ldAE (by assumption) ?_ (by omega) rfl ?_
 | refine K.iaC (by omega) ?_
 | refine K.condT (by first | assumption | omega) ?_
 | refine K.condF (by first | assumption | omega) ?_
 | refine K.condbT (by assumption) ?_
 | refine K.condbF (by assumption) ?_
 | simp -dsimp only [LL,B9,Nat.reduceAdd,Nat.reduceEqDiff,reduceIte,reduceCtorEq,Bool.false_eq_true,h1, h2, h8, h9, h10])
  refine K.cond (fun g1 => ?_) (fun g1 => ?_)
  rotate_left
  · rw [List.take_of_length_le (by omega)] at hall
    (repeat' first
 | assumption
 | exact Ext.refl _
 | refine Ext.trans ?_ (by assumption)
 | refine K.wrap (by omega) ?_
 | refine K.ldb (by assumption) ?_ rfl ?_
 | refine K.ldb0 (by assumption) ?_ rfl ?_
 | refine K.ldE (by assumption) ?_ (by omega) rfl ?_
 | refine K.ldE0 (by assumption) ?_ (by omega) rfl ?_
 | refine K.ldAE (by assumption) ?_ (by omega) rfl ?_
 | refine K.iaC (by omega) ?_
 | refine K.condT (by first | assumption | omega) ?_
 | refine K.condF (by first | assumption | omega) ?_
 | refine K.condbT (by assumption) ?_
 | refine K.condbF (by assumption) ?_
 | simp -dsimp only [LL,B9,Nat.reduceAdd,Nat.reduceEqDiff,reduceIte,reduceCtorEq,Bool.false_eq_true,h1, h2, h8, h9, h10])
    rw [Abs.ktwo, if_pos hall]
    (refine ⟨?_, ?_⟩ <;> first | trivial | rfl | (repeat' first | assumption | exact Ext.refl _ | refine Ext.trans ?_ (by assumption)))
  have hk' : k < l.length := by omega
  obtain ⟨a, rfl⟩ := hl.addr (by omega)
  have hsp : l.take (k + 1) = l.take k ++ [l[k]] := List.take_succ_eq_append_getElem hk'
  have hall2 := List.all_append (xs := l.take (k + 1)) (ys := l.drop (k + 1)) (f := fun k => (decide (o.takes = -1) || decide (k = o.takes)) && decide (k = l.headD 0))
  rw [List.take_append_drop, hsp, List.all_append] at hall2
  have h0 : l.headD 0 = l[0] := by
    cases l with
    | nil => simp at hk'
    | cons z l => rfl
  have hbad : ((decide (o.takes = -1) || decide (l[k] = o.takes)) && decide (l[k] = l.headD 0)) = false → Abs.ktwo o l = (0, 9) := by
    intro h
    rw [Abs.ktwo, if_neg (by rw [hall2]; simp only [List.all_cons, List.all_nil, h]; simp)]
  have hgood : ((decide (o.takes = -1) || decide (l[k] = o.takes)) && decide (l[k] = l.headD 0)) = true → (l.take (k + 1)).all (fun k => (decide (o.takes = -1) || decide (k = o.takes)) && decide (k = l.headD 0)) = true := by
    intro h
    rw [hsp, List.all_append, hall]
    simp only [List.all_cons, List.all_nil, h]; rfl
  rw [h0] at hbad
  clear hall2
  have hp : 0 < l.length := by omega
  have hl1 : Ints w2 (.slice (some a) l.length cap) l := hl.ext he1
  have hg0 := hgood
  rw [h0] at hgood hall
  (repeat' first
 | (refine K.cond (fun _ => ?_) (fun _ => ?_) <;> try (exfalso; omega))
 | (refine K.condb (fun _ => ?_) (fun _ => ?_))
 | assumption
 | exact Ext.refl _
 | refine Ext.trans ?_ (by assumption)
 | refine K.wrap (by omega) ?_
 | refine K.ldb (by assumption) ?_ rfl ?_
 | refine K.ldb0 (by assumption) ?_ rfl ?_
 | refine K.ldE (by assumption) ?_ (by omega) rfl ?_
 | refine K.ldE0 (by assumption) ?_ (by omega) rfl ?_
 | refine K.ldAE (by assumption) ?_ (by omega) rfl ?_
 | refine K.iaC (by omega) ?_
 | refine K.condT (by first | assumption | omega) ?_
 | refine K.condF (by first | assumption | omega) ?_
 | refine K.condbT (by assumption) ?_
 | refine K.condbF (by assumption) ?_
 | simp -dsimp only [LL,B9,Nat.reduceAdd,Nat.reduceEqDiff,reduceIte,reduceCtorEq,Bool.false_eq_true,h1, h2, h8, h9, h10])
  all_goals first
    | (have hh := hbad (by simp; omega); rw [hh]; refine ⟨by first | trivial | rfl, he1⟩)
    | (refine ⟨by omega, by first | trivial | rfl, trivial, ?_⟩; rw [h0]; exact hgood (by simp; omega))
theorem kind1_r (x : Abs.Node) (cs : List Value) (s : Abs.Scope) (base b pm ps : Nat) (w : World) (m : Value) (st : List Int) (tm : TypeId) (hx : x.ok) (h : Abs.ScopeIs w cs s) (hm : MachIs base b w m st) (h3 : x.op = 3 → 0 < st.length)
    (hpm : w.heap[pm]? = some (.cells #[.pointer (some ⟨b, 0, none⟩)] tm)) (hps : w.heap[ps]? = some (.cells cs.toArray T.api_Scope)) :
    Ret Tryz.prog F.expr_Kind_1 #[.agg x.enc.toArray, .pointer (some ⟨pm, 0, none⟩), .pointer (some ⟨ps, 0, none⟩)] w fun v w' =>
      v = .tuple #[.int .i64 (Abs.kleaf x s (st.getLastD 0)).1, .int .i64 (Abs.kleaf x s (st.getLastD 0)).2] ∧ Ext w w' := by
  obtain ⟨v0, v1, v2, v3, v4, rfl, _⟩ := h.ex
  refine K.start hmix E.expr_Kind_1 (args := [_, _, _]) (Nat.le_of_ble_eq_true rfl) ?_
  dsimp only [C.expr_Kind_1]; refine Yy ?_
  refine St ?_
  refine K.new fun w1 b1 hb1 he1 hc1 => ?_
  have k1 : w1.heap[b1]? = some (.cells x.enc.toArray T.api_Node) := hc1
  refine St ?_
  refine K.ldAb (c := x.enc) k1 (Ext.refl _) rfl ?_
  refine St ?_
  refine K.ldAb hps he1 rfl ?_
  refine St ?_
  refine K.call (kleaf_r x _ s base b w1 m st hx (h.ext he1) (hm.ext he1) h3) ?_
  rintro _ w2 ⟨rfl, he2⟩
  refine St ?_
  (refine ⟨?_, ?_⟩ <;> first | trivial | rfl | (repeat' first | assumption | exact Ext.refl _ | refine Ext.trans ?_ (by assumption)))
theorem fKind_step (s : Abs.Scope) : stepRes (Abs.fKind s) Abs.ktwo fun x st => Abs.kleaf x s (st.getLastD 0) := fun _ _ => rfl
theorem kind_r (ve : Value) (e : List Abs.Node) (cs : List Value) (s : Abs.Scope) (w : World) (he : Abs.Nodes w ve e) (h : Abs.ScopeIs w cs s) :
    Ret Tryz.prog F.expr_Kind #[ve, .agg cs.toArray] w fun v w' => v = .tuple #[.int .i64 (Abs.kind e s).1, .int .i64 (Abs.kind e s).2] ∧ Ext w w' := by
  obtain ⟨v0, v1, v2, v3, v4, rfl, _⟩ := h.ex
  refine K.start hmix E.expr_Kind (args := [_, _]) (Nat.le_of_ble_eq_true rfl) ?_
  dsimp only [C.expr_Kind]; refine Yy ?_
  refine St ?_
  refine K.new fun w1 ps hps he1 hc1 => ?_
  refine St ?_
  refine K.bld (cs := [.slice none 0 0, .map none]) (by simp [fillC]) ?_
  refine St ?_
  refine K.new fun w2 b hb he2 hc2 => ?_
  refine St ?_
  refine K.new fun w3 pm hpm he3 hc3 => ?_
  refine St ?_
  refine K.st0 hc3 (by decide) rfl fun w4 hw4 hc4 => ?_
  have hc4' : w4.heap[pm]? = some (.cells #[.pointer (some ⟨b, 0, none⟩)] T.p_expr_machine) := hc4
  have he4 : Ext w2 w4 := hw4.ext he3 hpm
  have hq2 := lt_of_heap hc2
  have hq1 := lt_of_heap hc1
  have hew : Ext w w4 := (he1.trans he2).trans he4
  clear hc4 hw4 he3 hc3
  have hb4 := he4.obj hc2
  have hs4 := he4.obj (he2.obj hc1)
  have z1 := he1.size
  refine St ?_
  refine K.call (run_r (Abs.fKind s) Abs.ktwo (fun x st => Abs.kleaf x s (st.getLastD 0)) (fKind_step s) (fun _ => True) b w w4 hew (by omega) ve _ _ e he hb4 (fun _ _ _ _ _ _ _ => trivial) ?_ ?_) ?_
  · intro x st base m w' hx hm hmach _ q1 q2 q3 w1' KK t hw1 hk
    refine K.callV (first := []) (cap := [.pointer (some ⟨pm, 0, none⟩), .pointer (some ⟨ps, 0, none⟩)]) (by kernel_rfl)
      (kind1_r x _ s base b pm ps w1' m st _ hx (h.ext ((hm.ext hew (by intro k hk e; omega)).trans hw1)) (hmach.ext hw1) ?_ (hw1.obj (hm.obj (by omega) hc4')) (hw1.obj (hm.obj (by omega) hs4))) fun v w'' ⟨h1, h2⟩ => by subst h1; exact hk w'' h2
    intro h3
    have : Abs.nparts x.op = 1 := by rw [h3]; rfl
    omega
  · rintro o ov lv l w' KK t hm ⟨u, rfl, hd⟩ _ hl hi hk
    exact K.callV0 (first := []) (cap := []) (by kernel_rfl) (ktwo_r o u lv l w' hi) fun v w'' ⟨h1, h2⟩ => by subst h1; exact hk w'' h2
  rintro _ w5 ⟨rfl, hm5⟩
  have he5 : Ext w w5 := hm5.ext hew (by intro k hk e; omega)
  refine St ?_
  (refine ⟨?_, ?_⟩ <;> first | trivial | rfl | (repeat' first | assumption | exact Ext.refl _ | refine Ext.trans ?_ (by assumption)))
end Go.Proofs.YtpaahhleopalaaaGreatDoor
end
section
/- What the functions of lex (and of its reference) compute. -/
set_option maxRecDepth 4000
set_option linter.unusedSimpArgs false
namespace Go.Proofs.YtpaahhleopalaaaGreatDoor
open Go Go.RowKit Lite

theorem letter_r (n : Int) (w : World) : Ret Tryz.prog F.lex_letter #[.int .i32 n] w fun v w' => v = .bool (Abs.letter n) ∧ w' = w := by
  refine K.start hmix E.lex_letter (args := [_]) (Nat.le_of_ble_eq_true rfl) ?_
  dsimp only [C.lex_letter]; refine Yy ?_
  (repeat' first
    | (refine K.cond (fun _ => ?_) (fun _ => ?_) <;> try (exfalso; omega))
    | (refine K.condb (fun _ => ?_) (fun _ => ?_))
    | (refine K.wrap (by omega) ?_)
    | (refine K.ld (by assumption) ?_)
    | (refine K.ia (by omega) ?_)
    | simp -dsimp only [LL,B9,Nat.reduceAdd,Nat.reduceEqDiff,reduceIte,reduceCtorEq,Bool.false_eq_true])
  all_goals (refine ⟨?_, by first | rfl | trivial⟩; congr 1; rw [Bool.eq_iff_iff]; simp [Abs.letter]; omega)
theorem digit_r (n : Int) (w : World) : Ret Tryz.prog F.lex_digit #[.int .i32 n] w fun v w' => v = .bool (Abs.digit n) ∧ w' = w := by
  refine K.start hmix E.lex_digit (args := [_]) (Nat.le_of_ble_eq_true rfl) ?_
  dsimp only [C.lex_digit]; refine Yy ?_
  (repeat' first
    | (refine K.cond (fun _ => ?_) (fun _ => ?_) <;> try (exfalso; omega))
    | (refine K.condb (fun _ => ?_) (fun _ => ?_))
    | (refine K.wrap (by omega) ?_)
    | (refine K.ld (by assumption) ?_)
    | (refine K.ia (by omega) ?_)
    | simp -dsimp only [LL,B9,Nat.reduceAdd,Nat.reduceEqDiff,reduceIte,reduceCtorEq,Bool.false_eq_true])
  all_goals (refine ⟨?_, by first | rfl | trivial⟩; congr 1; rw [Bool.eq_iff_iff]; simp [Abs.digit]; omega)
theorem part_r (n : Int) (w : World) : Ret Tryz.prog F.lex_part #[.int .i32 n] w fun v w' => v = .bool (Abs.part n) ∧ w' = w := by
  refine K.start hmix E.lex_part (args := [_]) (Nat.le_of_ble_eq_true rfl) ?_
  dsimp only [C.lex_part]; refine Yy ?_
  refine Go1 ?_
  refine K.call (letter_r n w) ?_
  rintro _ _ ⟨rfl, rfl⟩
  refine Go1 ?_
  refine K.condb (fun h1 => ?_) (fun h1 => ?_)
  · refine Go1 ?_
    refine ⟨?_, by first | rfl | trivial⟩; congr 1; simp [Abs.part, h1]
  · refine Go1 ?_
    refine K.call (digit_r n _) ?_
    rintro _ _ ⟨rfl, rfl⟩
    refine Go1 ?_
    refine K.condb (fun h2 => ?_) (fun h2 => ?_)
    · refine Go1 ?_
      refine ⟨?_, by first | rfl | trivial⟩; congr 1; simp [Abs.part, h2]
    · refine Go1 ?_
      refine ⟨?_, by first | rfl | trivial⟩; congr 1; simp [Abs.part, h1, h2]
def iterLeft (w : World) (b : Nat) : Nat := match w.heap[b]? with | some (.stringIter s pos) => s.size - pos | _ => 0
theorem lrun_r (s : ByteArray) (p : Int → Bool) (hp : ∀ r, 128 ≤ r → p r = false) (f : FuncId) (hf : okF Tryz.prog f = true) (w : World)
    (hc : ∀ (r : Int) (w' : World), Ext w w' → Ret Tryz.prog f #[.int .i32 r] w' fun v w'' => v = .bool (p r) ∧ Ext w' w'') :
    Ret Tryz.prog F.lex_run #[.string s, .func (.func f) #[] #[]] w fun v w' => v = .int .i64 (Abs.run p s) ∧ Ext w w' := by
  refine K.start hmix E.lex_run (args := [_, _]) (Nat.le_of_ble_eq_true rfl) ?_
  dsimp only [C.lex_run]; refine Yy ?_
  refine Go1 ?_
  refine K.rngS fun w1 b hb he1 hit1 => ?_
  refine Go1 ?_
  refine K.loop (fun S w' => ∃ pos, pos ≤ s.size ∧ (∀ j (hj : j < s.size), j < pos → p s[j].toNat = true) ∧ w'.heap[b]? = some (.stringIter s pos) ∧ Ext w w')
    (fun _ w' => iterLeft w' b) ⟨0, Nat.zero_le _, fun _ _ h => absurd h (Nat.not_lt_zero _), hit1, he1⟩ ?_
  rintro S w' hS ⟨pos, hpos, hall, hit, he⟩
  have h0 := hS 0 rfl; have h1 := hS 1 rfl; have h8 := hS 8 rfl; simp only [upd_at, Nat.reduceAdd, Nat.reduceEqDiff, reduceIte, fr0_cons, fr0_nil] at h0 h1 h8; clear hS
  simp -dsimp only [LL,B9,Nat.reduceAdd,Nat.reduceEqDiff,reduceIte,reduceCtorEq,Bool.false_eq_true,h0, h1, h8]
  refine K.nxtS hit (fun hlt => ?_) (fun hge => ?_)
  · have hd := Abs.decode_part hp s pos hlt
    have hs : (setO w' b (.stringIter s (pos + (Utf8.decode s pos).2))).heap[b]? = some (.stringIter s (pos + (Utf8.decode s pos).2)) := setO_same (lt_of_heap hit)
    have he2 : Ext w (setO w' b (.stringIter s (pos + (Utf8.decode s pos).2))) := he.setO hb _
    generalize setO w' b (.stringIter s (pos + (Utf8.decode s pos).2)) = w2 at hs he2
    simp -dsimp only [LL,B9,Nat.reduceAdd,Nat.reduceEqDiff,reduceIte,reduceCtorEq,Bool.false_eq_true,h0, h1, h8]
    refine K.callV (first := []) (cap := []) hf (hc _ _ he2) ?_
    rintro _ w3 ⟨rfl, he3⟩
    simp -dsimp only [LL,B9,Nat.reduceAdd,Nat.reduceEqDiff,reduceIte,reduceCtorEq,Bool.false_eq_true,h0, h1, h8]
    refine K.condb (fun hb => ?_) (fun hb => ?_)
    · refine Go1 ?_
      rw [hd.1] at hb
      have hw := hd.2 hb
      rw [hw] at hs
      refine ⟨⟨pos + 1, by omega, fun j hj hjp => ?_, he3.obj hs, he2.trans he3⟩, ?_⟩
      · by_cases h : j < pos
        · exact hall j hj h
        · have : j = pos := by omega
          subst this; exact hb
      · simp only [iterLeft, he3.obj hs, hit]; omega
    · refine Go1 ?_
      rw [hd.1] at hb
      refine ⟨?_, he2.trans he3⟩
      rw [Abs.run_stop p s pos hlt (fun j hj => hall j (by omega) hj) hb]
  · simp -dsimp only [LL,B9,Nat.reduceAdd,Nat.reduceEqDiff,reduceIte,reduceCtorEq,Bool.false_eq_true,h0, h1, h8]
    refine ⟨?_, he⟩
    rw [Abs.run_all p s (fun j hj => hall j hj (by omega))]
/-- What lex.own holds. -/
def OwnIs (w : World) : Prop := CellsAt w ⟨G.lex_own, 0, none⟩ (Abs.ownL.map Value.string)
theorem OwnIs.ext {w w' : World} (he : Ext w w') (h : OwnIs w) : OwnIs w' := CellsAt.ext he h
theorem name_r (s : ByteArray) (w : World) (ho : OwnIs w) (hs : s.size ≤ 9223372036854775807) :
    Ret Tryz.prog F.lex_Name #[.string s] w fun v w' => v = .bool (Abs.isName s) ∧ Ext w w' := by
  refine K.start hmix E.lex_Name (args := [_]) (Nat.le_of_ble_eq_true rfl) ?_
  dsimp only [C.lex_Name]; refine Yy ?_
  refine Go1 ?_
  refine K.cond (fun h0 => ?_) (fun h0 => ?_)
  · refine Go1 ?_
    refine ⟨?_, Ext.refl w⟩; subst h0; rfl
  have hz : s.size ≠ 0 := fun h => h0 (by
    cases s with | mk d =>
    have : d = #[] := by simpa [ByteArray.size] using h
    rw [this])
  refine Go1 ?_
  refine K.cond (fun h1 => ?_) (fun h1 => ?_)
  · refine Go1 ?_
    refine ⟨?_, Ext.refl w⟩
    have : ¬ s.size ≤ 16 := by omega
    simp [Abs.isName, this]
  have h1' : s.size ≤ 16 := by omega
  refine Go1 ?_
  refine K.ixS (s.get! 0) (by decide) (Abs.get?_eq s 0 (by omega)) ?_
  refine Go1 ?_
  have hb : (s.get! 0).toNat < 256 := UInt8.toNat_lt _
  refine K.wrapk (IntWalk.i32_in _ (by omega)) ?_
  refine Go1 ?_
  refine K.call (letter_r _ w) ?_
  rintro _ _ ⟨rfl, rfl⟩
  refine Go1 ?_
  refine K.condb (fun h2 => ?_) (fun h2 => ?_)
  rotate_left
  · refine Go1 ?_
    refine ⟨?_, Ext.refl _⟩
    have h2' : Abs.letter (Abs.byteAt s 0 : Nat) = false := h2
    simp [Abs.isName, h2']
  refine Go1 ?_
  refine K.call (lrun_r s Abs.part Abs.part_high F.lex_part (by kernel_rfl) _ fun r w' _ => (part_r r w').mono fun v w'' ⟨h3, h4⟩ => ⟨h3, h4 ▸ Ext.refl _⟩) ?_
  rintro _ w2 ⟨rfl, he⟩
  refine Go1 ?_
  refine K.cond (fun h3 => ?_) (fun h3 => ?_)
  · refine Go1 ?_
    refine ⟨?_, he⟩
    have h3' : ¬ Abs.run Abs.part s = s.size := by omega
    simp [Abs.isName, h3']
  have h3' : Abs.run Abs.part s = s.size := by have := Abs.run_le Abs.part s; omega
  have h2' : Abs.letter (Abs.byteAt s 0 : Nat) = true := h2
  have hname : Abs.isName s = !decide (s ∈ Abs.ownL) := by simp [Abs.isName, h3', h2', h1', hz]
  refine Go1 ?_
  refine K.ldA (ho.ext he) rfl ?_
  refine Go1 ?_
  refine K.loop (fun S w' => ∃ i : Nat, i ≤ 4 ∧ S 27 = .int .i64 i ∧ (∀ j (hj : j < Abs.ownL.length), j < i → Abs.ownL[j] ≠ s) ∧ Ext w2 w')
    (fun S _ => (4 - intOf (S 27)).toNat) ⟨0, by omega, by refine Go1 ?_; rfl, fun _ _ h => absurd h (Nat.not_lt_zero _), Ext.refl _⟩ ?_
  rintro S w' hS ⟨i, hi, h27, hall, he2⟩
  have h0 := hS 0 rfl; have h26 := hS 26 rfl; simp only [upd_at, Nat.reduceAdd, Nat.reduceEqDiff, reduceIte, fr0_cons, fr0_nil] at h0 h26; clear hS
  simp -dsimp only [LL,B9,Nat.reduceAdd,Nat.reduceEqDiff,reduceIte,reduceCtorEq,Bool.false_eq_true,h0, h26, h27]
  refine K.cond (fun h4 => ?_) (fun h4 => ?_)
  · simp -dsimp only [LL,B9,Nat.reduceAdd,Nat.reduceEqDiff,reduceIte,reduceCtorEq,Bool.false_eq_true,h0, h26, h27]
    have hi4 : i < Abs.ownL.length := by simp [Abs.ownL]; omega
    refine K.ixA (.string Abs.ownL[i]) (by omega) (by simp [List.getElem?_map, hi4]) ?_
    simp -dsimp only [LL,B9,Nat.reduceAdd,Nat.reduceEqDiff,reduceIte,reduceCtorEq,Bool.false_eq_true,h0, h26, h27]
    refine K.cond (fun h5 => ?_) (fun h5 => ?_)
    · refine Go1 ?_
      refine ⟨?_, he.trans he2⟩
      rw [hname]
      have : s ∈ Abs.ownL := h5 ▸ List.getElem_mem _
      simp [this]
    · simp -dsimp only [LL,B9,Nat.reduceAdd,Nat.reduceEqDiff,reduceIte,reduceCtorEq,Bool.false_eq_true,h0, h26, h27]
      refine K.wrap (by omega) ?_
      simp -dsimp only [LL,B9,Nat.reduceAdd,Nat.reduceEqDiff,reduceIte,reduceCtorEq,Bool.false_eq_true,h0, h26, h27]
      refine ⟨⟨i + 1, by omega, rfl, fun j hj hji => ?_, he2⟩, by simp [intOf]; omega⟩
      by_cases h : j < i
      · exact hall j hj h
      · have : j = i := by omega
        subst this; exact h5
  · simp -dsimp only [LL,B9,Nat.reduceAdd,Nat.reduceEqDiff,reduceIte,reduceCtorEq,Bool.false_eq_true,h0, h26, h27]
    refine ⟨?_, he.trans he2⟩
    rw [hname]
    have : s ∉ Abs.ownL := fun hm => by
      obtain ⟨j, hj, he⟩ := List.mem_iff_getElem.1 hm
      exact hall j hj (by have : Abs.ownL.length = 4 := rfl; omega) he
    simp [this]
end Go.Proofs.YtpaahhleopalaaaGreatDoor
end
section
/- Commands: what each function of cmd computes. -/
set_option maxRecDepth 4000
set_option maxHeartbeats 1600000
namespace Abs
open Go Go.RowKit Lite
/-- What declared tells. -/
def DeclV (v : Value) : Option (Var × Int) → Prop
  | some q => v = .tuple #[.agg q.1.enc.toArray, .int .i64 q.2, .bool true]
  | none => ∃ (x : Var) (k : Int), v = .tuple #[.agg x.enc.toArray, .int .i64 k, .bool false]
end Abs
namespace Go.Proofs.YtpaahhleopalaaaGreatDoor
open Go Go.RowKit Lite

theorem cthing_r (a b : Int) (cs : List Value) (s : Abs.Scope) (w : World) (h : Abs.ScopeIs w cs s) :
    Ret Tryz.prog F.cmd_thing #[.int .i64 a, .int .i64 b, .agg cs.toArray] w fun v w' => v = .tuple #[.int .i64 (Abs.thing a b s).1, .bool (Abs.thing a b s).2] ∧ Ext w w' := by
  obtain ⟨a0, c0, a1, c1, a2, c2, a3, c3, a4, c4, rfl, h0, h1, h2, h3, h4, l0, l1, l2, l3, l4⟩ := h.form
  refine K.start hmix E.cmd_thing (args := [_, _, _]) (Nat.le_of_ble_eq_true rfl) ?_; dsimp only [C.cmd_thing]; refine Yy ?_
  refine Sg ?_
  intro w1 b hb he1 hc1
  refine Sg ?_
  (repeat' first
 | (refine K.cond (fun _ => ?_) (fun _ => ?_) <;> try (exfalso; omega))
 | (refine K.condb (fun _ => ?_) (fun _ => ?_))
 | assumption
 | exact Ext.refl _
 | refine Ext.trans ?_ (by assumption)
 | refine K.wrap (by omega) ?_
 | refine K.ldb (by assumption) ?_ rfl ?_
 | refine K.ldb0 (by assumption) ?_ rfl ?_
 | refine K.ldE (by assumption) ?_ (by omega) rfl ?_
 | refine K.ldE0 (by assumption) ?_ (by omega) rfl ?_
 | refine K.ldAE (by assumption) ?_ (by omega) rfl ?_
 | refine K.iaC (by omega) ?_
 | refine K.condT (by first | assumption | omega) ?_
 | refine K.condF (by first | assumption | omega) ?_
 | refine K.condbT (by assumption) ?_
 | refine K.condbF (by assumption) ?_
 | simp -dsimp only [LL,B9,Nat.reduceAdd,Nat.reduceEqDiff,reduceIte,reduceCtorEq,Bool.false_eq_true])
  all_goals
    refine ⟨?_, by (repeat' first | assumption | exact Ext.refl _ | refine Ext.trans ?_ (by assumption))⟩
    unfold Abs.thing
    (repeat' split) <;> first | rfl | (exfalso; omega)
theorem declared_r (v : Value) (l : List Abs.Var) (n : Int) (cs : List Value) (s : Abs.Scope) (w : World) (hl : Abs.Vars w v l) (h : Abs.ScopeIs w cs s) :
    Ret Tryz.prog F.cmd_declared #[v, .int .i64 n, .agg cs.toArray] w fun v w' => Abs.DeclV v (Abs.declared l n s) ∧ Ext w w' := by
  obtain ⟨v0, v1, v2, v3, v4, rfl, _⟩ := h.ex
  obtain ⟨oa, cap, rfl, hlen⟩ := hl.form
  refine K.start hmix E.cmd_declared (args := [_, _, _]) (Nat.le_of_ble_eq_true rfl) ?_; dsimp only [C.cmd_declared]; refine Yy ?_
  refine Sg ?_
  intro w1 b1 hb1 he1 hc1
  refine Sg ?_
  intro w2 b2 hb2 he2 hc2
  have he := he1.trans he2
  refine Sg ?_
  refine K.cond (fun g1 => ?_) (fun g1 => ?_)
  · refine Sg ?_
    intro w3 hw3 hc3
    refine Sg ?_
    rw [Abs.declared, Abs.nth_none (.inl g1)]
    exact ⟨⟨(⟨⟨#[]⟩, 0, 0, 0, 0, 0⟩ : Abs.Var), 0, rfl⟩, hw3.ext he (by have := he1.size; omega)⟩
  refine Sg ?_
  refine K.cond (fun g2 => ?_) (fun g2 => ?_)
  · refine Sg ?_
    intro w3 hw3 hc3
    refine Sg ?_
    rw [Abs.declared, Abs.nth_none (.inr (by omega))]
    exact ⟨⟨(⟨⟨#[]⟩, 0, 0, 0, 0, 0⟩ : Abs.Var), 0, rfl⟩, hw3.ext he (by have := he1.size; omega)⟩
  obtain ⟨i, rfl⟩ := Int.eq_ofNat_of_zero_le (show 0 ≤ n by omega)
  have hi : i < l.length := by omega
  rw [Abs.declared, Abs.nth_some (by omega) (by omega)]
  simp only [Int.toNat_natCast]
  obtain ⟨a, rfl⟩ := hl.addr (by omega)
  refine Sg ?_
  refine K.qfn _ (fun w' e => cthing_r _ _ _ s w' (h.ext (he.trans e))) ?_
  refine Sg ?_
  intro w3 he3
  have hc2 := he3.obj hc2
  refine Sg ?_
  intro w4 hw4 hc4
  refine Sg ?_
  refine ⟨?_, hw4.ext (he.trans he3) (by have := he1.size; omega)⟩
  by_cases hb : (Abs.thing l[i].scalar l[i].over s).2 = true
  · rw [if_pos hb, hb]; rfl
  · rw [if_neg hb, Bool.eq_false_iff.2 hb]; exact ⟨_, _, rfl⟩
theorem channel_r (n : Int) (cs : List Value) (s : Abs.Scope) (w : World) (h : Abs.ScopeIs w cs s) :
    Ret Tryz.prog F.cmd_channel #[.int .i64 n, .agg cs.toArray] w fun v w' => v = .tuple #[.int .i64 ((Abs.channel n s).getD 0), .bool (Abs.channel n s).isSome] ∧ Ext w w' := by
  obtain ⟨a0, c0, a1, c1, a2, c2, a3, c3, a4, c4, rfl, h0, h1, h2, h3, h4, l0, l1, l2, l3, l4⟩ := h.form
  refine K.start hmix E.cmd_channel (args := [_, _]) (Nat.le_of_ble_eq_true rfl) ?_; dsimp only [C.cmd_channel]; refine Yy ?_
  refine Sg ?_
  intro w1 b1 hb1 he1 hc1
  refine Sg ?_
  refine K.cond (fun g1 => ?_) (fun g1 => ?_)
  · refine Sg ?_
    rw [Abs.channel, Abs.nth_none (.inl g1)]
    (refine ⟨?_, ?_⟩ <;> first | trivial | rfl | (repeat' first | assumption | exact Ext.refl _ | refine Ext.trans ?_ (by assumption)))
  refine Sg ?_
  refine K.cond (fun g2 => ?_) (fun g2 => ?_)
  · refine Sg ?_
    rw [Abs.channel, Abs.nth_none (.inr (by omega))]
    (refine ⟨?_, ?_⟩ <;> first | trivial | rfl | (repeat' first | assumption | exact Ext.refl _ | refine Ext.trans ?_ (by assumption)))
  obtain ⟨i, rfl⟩ := Int.eq_ofNat_of_zero_le (show 0 ≤ n by omega)
  have hi : i < s.chans.length := by omega
  rw [Abs.channel, Abs.nth_some (by omega) (by omega)]
  simp only [Int.toNat_natCast]
  obtain ⟨a, rfl⟩ := h2.addr (by omega)
  refine Sg ?_
  refine K.qfn _ (fun w' e => cthing_r _ _ _ s w' (h.ext (he1.trans e))) ?_
  refine Sg ?_
  intro w2 he2
  refine Sg ?_
  refine ⟨?_, by (repeat' first | assumption | exact Ext.refl _ | refine Ext.trans ?_ (by assumption))⟩
  by_cases hb : (Abs.thing s.chans[i].scalar 0 s).2 = true
  · rw [if_pos hb, hb]; rfl
  · rw [if_neg hb, Bool.eq_false_iff.2 hb]
    rw [Abs.thing_false (Bool.eq_false_iff.2 hb)]; rfl
theorem asked_r (ve : Value) (e : List Abs.Node) (k : Int) (cs : List Value) (s : Abs.Scope) (w : World) (hn : Abs.Nodes w ve e) (h : Abs.ScopeIs w cs s) :
    Ret Tryz.prog F.cmd_asked #[ve, .int .i64 k, .agg cs.toArray] w fun v w' => v = .int .i64 (Abs.asked e k s) ∧ Ext w w' := by
  obtain ⟨v0, v1, v2, v3, v4, rfl, _⟩ := h.ex
  refine K.start hmix E.cmd_asked (args := [_, _, _]) (Nat.le_of_ble_eq_true rfl) ?_; dsimp only [C.cmd_asked]; refine Yy ?_
  refine Sg ?_
  intro w1 b1 hb1 he1 hc1
  refine Sg ?_
  refine K.call (kind_r ve e _ s w1 (hn.ext he1) (h.ext he1)) ?_
  rintro _ w2 ⟨rfl, he2⟩
  refine Sg ?_
  rw [Abs.asked]
  refine K.cond (fun g1 => ?_) (fun g1 => ?_)
  · rw [if_neg (by simpa using g1)]
    refine Sg ?_
    refine K.cond (fun g2 => ?_) (fun g2 => ?_)
    · refine Sg ?_
      rw [if_neg (by simpa using g2)]
      (refine ⟨?_, ?_⟩ <;> first | trivial | rfl | (repeat' first | assumption | exact Ext.refl _ | refine Ext.trans ?_ (by assumption)))
    refine Sg ?_
    rw [if_pos g2]
    (refine ⟨?_, ?_⟩ <;> first | trivial | rfl | (repeat' first | assumption | exact Ext.refl _ | refine Ext.trans ?_ (by assumption)))
  refine Sg ?_
  rw [if_pos g1]
  (refine ⟨?_, ?_⟩ <;> first | trivial | rfl | (repeat' first | assumption | exact Ext.refl _ | refine Ext.trans ?_ (by assumption)))
theorem talks_r (a : Abs.Act) (vi vv : Value) (w : World) : Ret Tryz.prog F.cmd_talks #[.agg (a.enc vi vv).toArray] w fun v w' => v = .bool (Abs.talks a) ∧ Ext w w' := by
  refine K.start hmix E.cmd_talks (args := [_]) (Nat.le_of_ble_eq_true rfl) ?_; dsimp only [C.cmd_talks]; refine Yy ?_
  refine Sg ?_
  intro w1 b1 hb1 he1 hc1
  refine Sg ?_
  rw [Abs.talks]
  refine K.cond (fun g1 => ?_) (fun g1 => ?_)
  · refine Sg ?_
    refine ⟨?_, by (repeat' first | assumption | exact Ext.refl _ | refine Ext.trans ?_ (by assumption))⟩
    congr 1; simp [g1]
  refine Sg ?_
  refine ⟨?_, by (repeat' first | assumption | exact Ext.refl _ | refine Ext.trans ?_ (by assumption))⟩
  congr 1; simp [g1]
theorem receives_r (a : Abs.Act) (vi vv : Value) (k : Int) (cs : List Value) (s : Abs.Scope) (w : World) (h : Abs.ScopeIs w cs s) :
    Ret Tryz.prog F.cmd_receives #[.agg (a.enc vi vv).toArray, .int .i64 k, .agg cs.toArray] w fun v w' => v = .int .i64 (Abs.receives a k s) ∧ Ext w w' := by
  obtain ⟨v0, v1, v2, v3, v4, rfl, h0, h1, h2, h3, h4, _⟩ := h.ex
  refine K.start hmix E.cmd_receives (args := [_, _, _]) (Nat.le_of_ble_eq_true rfl) ?_; dsimp only [C.cmd_receives]; refine Yy ?_
  refine Sg ?_
  intro w1 b1 hb1 he1 hc1
  refine Sg ?_
  intro w2 b2 hb2 he2 hc2
  have he := he1.trans he2
  refine Sg ?_
  refine K.call (declared_r v4 s.locals a.loc _ s w2 (h4.ext he) (h.ext he)) ?_
  rintro q w3 ⟨hq, he3⟩
  rw [Abs.receives]
  cases hd : Abs.declared s.locals a.loc s with
  | none =>
    rw [hd] at hq
    obtain ⟨x, k', rfl⟩ := hq
    refine Sg ?_
    intro w4 b4 hb4 he4 hc4
    refine Sg ?_
    (refine ⟨?_, ?_⟩ <;> first | trivial | rfl | (repeat' first | assumption | exact Ext.refl _ | refine Ext.trans ?_ (by assumption)))
  | some q =>
    obtain ⟨x, k'⟩ := q
    rw [hd] at hq
    subst hq
    refine Sg ?_
    intro w4 b4 hb4 he4 hc4
    refine Sg ?_
    refine K.cond (fun g1 => ?_) (fun g1 => ?_)
    · refine Sg ?_
      refine K.cond (fun g2 => ?_) (fun g2 => ?_)
      · refine Sg ?_
        simp only [g1, g2, ne_eq, not_true_eq_false, or_self, if_false]
        (refine ⟨?_, ?_⟩ <;> first | trivial | rfl | (repeat' first | assumption | exact Ext.refl _ | refine Ext.trans ?_ (by assumption)))
      refine Sg ?_
      simp only [g2, ne_eq, not_false_eq_true, or_true, if_true]
      (refine ⟨?_, ?_⟩ <;> first | trivial | rfl | (repeat' first | assumption | exact Ext.refl _ | refine Ext.trans ?_ (by assumption)))
    refine Sg ?_
    simp only [g1, ne_eq, not_false_eq_true, true_or, if_true]
    (refine ⟨?_, ?_⟩ <;> first | trivial | rfl | (repeat' first | assumption | exact Ext.refl _ | refine Ext.trans ?_ (by assumption)))
end Go.Proofs.YtpaahhleopalaaaGreatDoor
end
section
/- Commands: what an act, and a whole command, must be. -/
set_option maxRecDepth 4000
set_option maxHeartbeats 1600000
namespace Abs
open Go Go.RowKit Lite
theorem actsE_cons {s : Scope} {l : List Act} {k : Nat} {t : Bool} (h : k < l.length) :
    actsE s (l.drop k) k t = if talks l[k] && t then (2 + (k : Int), 7) else if actE l[k] s ≠ 0 then (2 + (k : Int), actE l[k] s) else actsE s (l.drop (k + 1)) (k + 1) (t || talks l[k]) := by
  rw [List.drop_eq_getElem_cons h]; rfl
end Abs
namespace Go.Proofs.YtpaahhleopalaaaGreatDoor
open Go Go.RowKit Lite

theorem act1_r (k : Int) (a : Abs.Act) (vi vv : Value) (cs : List Value) (s : Abs.Scope) (w : World) (b1 b2 : Nat) (hb1 : w.heap[b1]? = some (.cells (a.enc vi vv).toArray T.api_Act)) (hb2 : w.heap[b2]? = some (.cells cs.toArray T.api_Scope))
    (hv : Abs.Nodes w vv a.value) (h : Abs.ScopeIs w cs s) :
    Ret Tryz.prog F.cmd_act_1 #[.int .i64 k, .pointer (some ⟨b1, 0, none⟩), .pointer (some ⟨b2, 0, none⟩)] w fun v w' => v = .int .i64 (Abs.asked a.value k s) ∧ Ext w w' := by
  obtain ⟨v0, v1, v2, v3, v4, rfl, _⟩ := h.ex
  refine K.start hmix E.cmd_act_1 (args := [_, _, _]) (Nat.le_of_ble_eq_true rfl) ?_; dsimp only [C.cmd_act_1]; refine Yy ?_
  refine Sg ?_
  refine K.call (asked_r vv a.value k _ s w hv h) ?_
  rintro _ w2 ⟨rfl, he2⟩
  refine Sg ?_
  (refine ⟨?_, ?_⟩ <;> first | trivial | rfl | (repeat' first | assumption | exact Ext.refl _ | refine Ext.trans ?_ (by assumption)))
theorem act_r (a : Abs.Act) (vi vv : Value) (cs : List Value) (s : Abs.Scope) (w : World) (hi : Abs.Nodes w vi a.index) (hv : Abs.Nodes w vv a.value) (h : Abs.ScopeIs w cs s) :
    Ret Tryz.prog F.cmd_act #[.agg (a.enc vi vv).toArray, .agg cs.toArray] w fun v w' => v = .int .i64 (Abs.actE a s) ∧ Ext w w' := by
  obtain ⟨v0, v1, v2, v3, v4, rfl, h0, h1, h2, h3, h4, l0⟩ := h.ex
  refine K.start hmix E.cmd_act (args := [_, _]) (Nat.le_of_ble_eq_true rfl) ?_; dsimp only [C.cmd_act]; refine Yy ?_
  refine Sg ?_
  intro w1 b1 hb1 he1 hc1
  refine Sg ?_
  intro w2 b2 hb2 he2 hc2
  have he := he1.trans he2
  have hc1 := he2.obj hc1
  by_cases q : a.kind = 1 ∨ a.kind = 2 ∨ a.kind = 3
  · rw [Abs.actE, if_pos q]
    generalize hL : (if a.kind = 3 then s.locals else s.vars) = L
    have hcall : ∀ vl n, vl = (if a.kind = 3 then v4 else v1) → Ret Tryz.prog F.cmd_declared #[vl, .int .i64 n, .agg #[v0, v1, v2, v3, v4, .int .i64 s.self]] w2 fun v w' => Abs.DeclV v (Abs.declared L n s) ∧ Ext w2 w' := by
      rintro vl n rfl
      refine declared_r _ L n _ s w2 ?_ (h.ext he)
      rw [← hL]
      split
      · exact h4.ext he
      · exact h1.ext he
    by_cases q5 : a.kind = 2
    · refine Sg ?_
      refine K.call (hcall _ _ (by simp [q5])) ?_
      rintro u w3 ⟨hq, he3⟩
      have hc1 := he3.obj hc1
      have hc2 := he3.obj hc2
      have he03 := he.trans he3
      cases hd : Abs.declared L a.to s with
      | none =>
        rw [hd] at hq
        obtain ⟨x, k', rfl⟩ := hq
        refine Sg ?_
        intro w4 b4 hb4 he4 hc4
        refine Sg ?_
        (refine ⟨?_, ?_⟩ <;> first | trivial | rfl | (repeat' first | assumption | exact Ext.refl _ | refine Ext.trans ?_ (by assumption)))
      | some u =>
        obtain ⟨x, k'⟩ := u
        rw [hd] at hq
        subst hq
        have hov := Abs.declared_over hd
        simp only at hov
        refine Sg ?_
        intro w4 b4 hb4 he4 hc4
        have hc1 := he4.obj hc1
        have hc2 := he4.obj hc2
        have he04 := he03.trans he4
        refine Sg ?_
        refine K.neb (by kernel_rfl) ?_
        refine Sg ?_
        by_cases q2 : x.over = 0
        · refine K.condbT (by simp [q5, q2]) ?_
          refine Sg ?_
          exact ⟨by simp [q5, q2], by (repeat' first | assumption | exact Ext.refl _ | refine Ext.trans ?_ (by assumption))⟩
        refine K.condbF (by simp [q5, q2]) ?_
        refine Sg ?_
        refine K.call (asked_r vi a.index _ _ s w4 (hi.ext he04) (h.ext he04)) ?_
        rintro _ w5 ⟨rfl, he5⟩
        have hc1 := he5.obj hc1
        have hc2 := he5.obj hc2
        have he05 := he04.trans he5
        refine Sg ?_
        refine K.cond (fun q3 => ?_) (fun q3 => ?_)
        · refine Sg ?_
          refine K.callV (first := []) (cap := [_, _]) (by kernel_rfl) (act1_r k' a vi vv _ s w5 b1 b2 hc1 hc2 (hv.ext he05) (h.ext he05)) ?_
          rintro _ w6 ⟨rfl, he6⟩
          refine Sg ?_
          exact ⟨by simp [q5, q2, q3], by (repeat' first | assumption | exact Ext.refl _ | refine Ext.trans ?_ (by assumption))⟩
        · refine Sg ?_
          exact ⟨by simp [q5, q2, q3], by (repeat' first | assumption | exact Ext.refl _ | refine Ext.trans ?_ (by assumption))⟩
    have q6 : a.kind = 1 ∨ a.kind = 3 := by omega
    clear q
    rcases q6 with q | q
    all_goals
      refine Sg ?_
      refine K.call (hcall _ _ (by simp [q])) ?_
      rintro u w3 ⟨hq, he3⟩
      have hc1 := he3.obj hc1
      have hc2 := he3.obj hc2
      have he03 := he.trans he3
      cases hd : Abs.declared L a.to s with
      | none =>
        rw [hd] at hq
        obtain ⟨x, k', rfl⟩ := hq
        refine Sg ?_
        intro w4 b4 hb4 he4 hc4
        refine Sg ?_
        (refine ⟨?_, ?_⟩ <;> first | trivial | rfl | (repeat' first | assumption | exact Ext.refl _ | refine Ext.trans ?_ (by assumption)))
      | some u =>
        obtain ⟨x, k'⟩ := u
        rw [hd] at hq
        subst hq
        refine Sg ?_
        intro w4 b4 hb4 he4 hc4
        have hc1 := he4.obj hc1
        have hc2 := he4.obj hc2
        have he04 := he03.trans he4
        refine Sg ?_
        refine K.neb (by kernel_rfl) ?_
        refine Sg ?_
        by_cases q2 : x.over = 0
        · refine K.condbF (by simp [q, q2]) ?_
          refine Sg ?_
          refine K.callV (first := []) (cap := [_, _]) (by kernel_rfl) (act1_r k' a vi vv _ s w4 b1 b2 hc1 hc2 (hv.ext he04) (h.ext he04)) ?_
          rintro _ w6 ⟨rfl, he6⟩
          refine Sg ?_
          exact ⟨by simp [q, q2], by (repeat' first | assumption | exact Ext.refl _ | refine Ext.trans ?_ (by assumption))⟩
        · refine K.condbT (by simp [q, q2]) ?_
          refine Sg ?_
          exact ⟨by simp [q, q2], by (repeat' first | assumption | exact Ext.refl _ | refine Ext.trans ?_ (by assumption))⟩
  by_cases q4 : a.kind = 4 ∨ a.kind = 5
  · rw [Abs.actE, if_neg q, if_pos q4]
    have q7 : a.kind ≠ 3 := by omega
    have q8 : a.kind ≠ 1 := by omega
    have q9 : a.kind ≠ 2 := by omega
    have step : ∀ (w' : World), Ext w2 w' → Ret Tryz.prog F.cmd_channel #[.int .i64 a.to, .agg #[v0, v1, v2, v3, v4, .int .i64 s.self]] w' fun v w'' => v = .tuple #[.int .i64 ((Abs.channel a.to s).getD 0), .bool (Abs.channel a.to s).isSome] ∧ Ext w' w'' :=
      fun w' e => channel_r a.to _ s w' (h.ext (he.trans e))
    rcases q4 with q4 | q4
    · refine Sg ?_
      refine K.call (step w2 (Ext.refl _)) ?_
      rintro _ w3 ⟨rfl, he3⟩
      have hc1 := he3.obj hc1
      have hc2 := he3.obj hc2
      have he03 := he.trans he3
      cases hd : Abs.channel a.to s with
      | none =>
        simp only [Option.isSome_none, Option.getD_none]
        refine Sg ?_
        (refine ⟨?_, ?_⟩ <;> first | trivial | rfl | (repeat' first | assumption | exact Ext.refl _ | refine Ext.trans ?_ (by assumption)))
      | some k =>
        simp only [Option.isSome_some, Option.getD_some]
        refine Sg ?_
        refine K.callV (first := []) (cap := [_, _]) (by kernel_rfl) (act1_r k a vi vv _ s w3 b1 b2 hc1 hc2 (hv.ext he03) (h.ext he03)) ?_
        rintro _ w6 ⟨rfl, he6⟩
        refine Sg ?_
        exact ⟨by simp [q4], by (repeat' first | assumption | exact Ext.refl _ | refine Ext.trans ?_ (by assumption))⟩
    · refine Sg ?_
      refine K.call (step w2 (Ext.refl _)) ?_
      rintro _ w3 ⟨rfl, he3⟩
      have hc1 := he3.obj hc1
      have hc2 := he3.obj hc2
      have he03 := he.trans he3
      cases hd : Abs.channel a.to s with
      | none =>
        simp only [Option.isSome_none, Option.getD_none]
        refine Sg ?_
        (refine ⟨?_, ?_⟩ <;> first | trivial | rfl | (repeat' first | assumption | exact Ext.refl _ | refine Ext.trans ?_ (by assumption)))
      | some k =>
        simp only [Option.isSome_some, Option.getD_some]
        refine Sg ?_
        refine K.call (receives_r a vi vv k _ s w3 (h.ext he03)) ?_
        rintro _ w6 ⟨rfl, he6⟩
        refine Sg ?_
        exact ⟨by simp [q4], by (repeat' first | assumption | exact Ext.refl _ | refine Ext.trans ?_ (by assumption))⟩
  rw [Abs.actE, if_neg q, if_neg q4]
  have q7 : a.kind ≠ 3 := by omega
  have q8 : a.kind ≠ 1 := by omega
  have q9 : a.kind ≠ 2 := by omega
  have q10 : a.kind ≠ 4 := by omega
  have q11 : a.kind ≠ 5 := by omega
  refine Sg ?_
  (refine ⟨?_, ?_⟩ <;> first | trivial | rfl | (repeat' first | assumption | exact Ext.refl _ | refine Ext.trans ?_ (by assumption)))
end Go.Proofs.YtpaahhleopalaaaGreatDoor
end
section
/- Plain: what commands that are right have. No program in sight. -/
namespace Abs
open Go
theorem head_ok {c : Cmd} {n : Int} (h : head c n = 0) : isName c.name = true ∧ 0 ≤ c.from_ ∧ c.from_ < n ∧ 0 ≤ c.to ∧ c.to < n ∧ c.acts.length ≤ 6 := by
  unfold head at h
  by_cases h1 : isName c.name = false
  · rw [if_pos h1] at h; cases h
  rw [if_neg h1] at h
  by_cases h2 : c.from_ < 0 ∨ n ≤ c.from_ ∨ c.to < 0 ∨ n ≤ c.to
  · rw [if_pos h2] at h; cases h
  rw [if_neg h2] at h
  by_cases h3 : c.acts.length > 6
  · rw [if_pos h3] at h; cases h
  exact ⟨by simpa using h1, by omega, by omega, by omega, by omega, by omega⟩
end Abs
end
section
/- Commands: what a whole command must be; what it sends or receives by. -/
set_option maxRecDepth 4000
set_option maxHeartbeats 1600000
namespace Abs
open Go Go.RowKit Lite
end Abs
namespace Go.Proofs.YtpaahhleopalaaaGreatDoor
open Go Go.RowKit Lite
theorem head1_r (n : Int) (p : Abs.Proc) (pv pc : Value) (w : World) (b : Nat) (hb : w.heap[b]? = some (.cells (p.enc pv pc).toArray T.api_Proc)) :
    Ret Tryz.prog F.cmd_head_1 #[.int .i64 n, .pointer (some ⟨b, 0, none⟩)] w fun v w' => v = .bool (decide (n < 0 ∨ p.locs ≤ n)) ∧ w' = w := by
  refine K.start hmix E.cmd_head_1 (args := [_, _]) (Nat.le_of_ble_eq_true rfl) ?_; dsimp only [C.cmd_head_1]; refine Yy ?_
  refine Sg ?_
  refine K.cond (fun g1 => ?_) (fun g1 => ?_)
  · refine Sg ?_
    exact ⟨by simp [g1], by first | trivial | rfl⟩
  refine Sg ?_
  exact ⟨by simp [g1], by first | trivial | rfl⟩
theorem head_r (c : Abs.Cmd) (vg va : Value) (p : Abs.Proc) (pv pc : Value) (w : World) (ho : OwnIs w) (hn : Abs.strOk c.name) (ha : Abs.Acts w va c.acts) :
    Ret Tryz.prog F.cmd_head #[.agg (c.enc vg va).toArray, .agg (p.enc pv pc).toArray] w fun v w' => v = .int .i64 (Abs.head c p.locs) ∧ Ext w w' := by
  obtain ⟨oa, cap, rfl, hlen⟩ := ha.form
  refine K.start hmix E.cmd_head (args := [_, _]) (Nat.le_of_ble_eq_true rfl) ?_; dsimp only [C.cmd_head]; refine Yy ?_
  refine Sg ?_
  intro w1 b1 hb1 he1 hc1
  refine Sg ?_
  intro w2 b2 hb2 he2 hc2
  have he := he1.trans he2
  have hc1 := he2.obj hc1
  refine Sg ?_
  refine K.call (name_r c.name w2 (ho.ext he) hn) ?_
  rintro _ w3 ⟨rfl, he3⟩
  have hc1 := he3.obj hc1
  have hc2 := he3.obj hc2
  have he03 := he.trans he3
  rw [Abs.head]
  refine Sg ?_
  refine K.condb (fun g1 => ?_) (fun g1 => ?_)
  rotate_left
  · refine Sg ?_
    exact ⟨by simp [g1], by (repeat' first | assumption | exact Ext.refl _ | refine Ext.trans ?_ (by assumption))⟩
  refine Sg ?_
  refine K.callV (first := []) (cap := [_]) (by kernel_rfl) (head1_r c.from_ p pv pc w3 b2 hc2) ?_
  rintro _ _ ⟨rfl, rfl⟩
  refine Sg ?_
  refine K.cond (fun g2 => ?_) (fun g2 => ?_)
  · refine Sg ?_
    refine ⟨?_, by (repeat' first | assumption | exact Ext.refl _ | refine Ext.trans ?_ (by assumption))⟩
    rw [if_neg (by simp [g1]), if_pos (by omega)]
  refine Sg ?_
  refine K.callV (first := []) (cap := [_]) (by kernel_rfl) (head1_r c.to p pv pc _ b2 hc2) ?_
  rintro _ _ ⟨rfl, rfl⟩
  refine Sg ?_
  refine K.cond (fun g3 => ?_) (fun g3 => ?_)
  · refine Sg ?_
    refine ⟨?_, by (repeat' first | assumption | exact Ext.refl _ | refine Ext.trans ?_ (by assumption))⟩
    rw [if_neg (by simp [g1]), if_pos (by omega)]
  refine Sg ?_
  refine K.cond (fun g4 => ?_) (fun g4 => ?_)
  · refine Sg ?_
    refine ⟨?_, by (repeat' first | assumption | exact Ext.refl _ | refine Ext.trans ?_ (by assumption))⟩
    rw [if_neg (by simp [g1]), if_neg (by omega), if_pos (by omega)]
  · refine Sg ?_
    refine ⟨?_, by (repeat' first | assumption | exact Ext.refl _ | refine Ext.trans ?_ (by assumption))⟩
    rw [if_neg (by simp [g1]), if_neg (by omega), if_neg (by omega)]
theorem check_r (c : Abs.Cmd) (vg va : Value) (p : Abs.Proc) (pv pc : Value) (cs : List Value) (s : Abs.Scope) (w : World) (ho : OwnIs w) (hn : Abs.strOk c.name) (hg : Abs.Nodes w vg c.guard) (ha : Abs.Acts w va c.acts)
    (hv : Abs.Vars w pv p.vars) (hc : Abs.Cmds w pc p.cmds) (h : Abs.ScopeIs w cs s) :
    Ret Tryz.prog F.cmd_Check #[.agg (c.enc vg va).toArray, .agg (p.enc pv pc).toArray, .agg cs.toArray] w fun v w' =>
      v = .tuple #[.int .i64 (Abs.cmdCheck c p.locs s).1, .int .i64 (Abs.cmdCheck c p.locs s).2] ∧ Ext w w' := by
  obtain ⟨a0, c0, a1, c1, a2, c2, a3, c3, a4, c4, rfl, _⟩ := h.form
  obtain ⟨oa, cap, rfl, hlen⟩ := ha.form
  obtain ⟨og, capg, rfl, hleng⟩ := hg.form
  obtain ⟨_, _, rfl, _⟩ := hv.form
  obtain ⟨_, _, rfl, _⟩ := hc.form
  refine K.start hmix E.cmd_Check (args := [_, _, _]) (Nat.le_of_ble_eq_true rfl) ?_; dsimp only [C.cmd_Check]; refine Yy ?_
  refine Sg ?_
  intro w1 b1 hb1 he1 hc1
  refine Sg ?_
  intro w2 b2 hb2 he2 hc2
  refine Sg ?_
  intro w3 b3 hb3 he3 hc3
  have he := (he1.trans he2).trans he3
  have hc1 := (he2.trans he3).obj hc1
  have hc2 := he3.obj hc2
  refine Sg ?_
  refine K.call (head_r c _ _ p _ _ w3 (ho.ext he) hn (ha.ext he)) ?_
  rintro _ w4 ⟨rfl, he4⟩
  have hc1 := he4.obj hc1
  have hc3 := he4.obj hc3
  have he04 := he.trans he4
  rw [Abs.cmdCheck]
  refine Sg ?_
  refine K.cond (fun g1 => ?_) (fun g1 => ?_)
  rotate_left
  · refine Sg ?_
    exact ⟨by simp [g1], by (repeat' first | assumption | exact Ext.refl _ | refine Ext.trans ?_ (by assumption))⟩
  rw [if_neg (by simpa using g1)]
  have h6 := (Abs.head_ok g1).2.2.2.2.2
  refine Su ?_
  refine K.cutG [3, 4, 5] (fun _ => []) (fun (_ : Unit) w' => Ext w4 w' ∧ ¬ (c.guard.length > 0 ∧ Abs.asked c.guard 1 s ≠ 0)) ?_ ?_
  · refine Sg ?_
    refine K.cond (fun g2 => ?_) (fun g2 => ?_)
    · refine Sg ?_
      refine K.call (asked_r _ c.guard 1 _ s w4 (hg.ext he04) (h.ext he04)) ?_
      rintro _ w5 ⟨rfl, he5⟩
      refine Sg ?_
      refine K.cond (fun g3 => ?_) (fun g3 => ?_)
      · refine Sg ?_
        exact ⟨(), trivial, by (repeat' first | assumption | exact Ext.refl _ | refine Ext.trans ?_ (by assumption)), fun hh => hh.2 g3⟩
      · refine Sg ?_
        rw [if_pos ⟨by omega, g3⟩]
        (refine ⟨?_, ?_⟩ <;> first | trivial | rfl | (repeat' first | assumption | exact Ext.refl _ | refine Ext.trans ?_ (by assumption)))
    · refine Sg ?_
      exact ⟨(), trivial, by (repeat' first | assumption | exact Ext.refl _ | refine Ext.trans ?_ (by assumption)), fun hh => g2 (by omega)⟩
  rintro _ S w5 ⟨he5, hgd⟩
  have hc1 := he5.obj hc1
  have hc3 := he5.obj hc3
  have he05 := he04.trans he5
  rw [if_neg hgd]
  refine Sg ?_
  refine K.forG 34 c.acts.length [3, 4, 5, 32, 33] (fun b => [(10, .bool b)]) false (fun k b w' => Ext w5 w' ∧ Abs.actsE s c.acts 0 false = Abs.actsE s (c.acts.drop k) k b) hZq hZq ⟨Ext.refl _, by simp⟩ ?_
  rintro k b S w6 hk ⟨he6, hI⟩
  have he06 := he05.trans he6
  refine Sg ?_
  refine K.cond (fun g1 => ?_) (fun g1 => ?_)
  · have hk' : k < c.acts.length := by omega
    obtain ⟨a, rfl⟩ := ha.addr (by omega)
    obtain ⟨vi, vv, hcell, hvi, hvv⟩ := ha.at k hk'
    obtain ⟨_, _, rfl, _⟩ := hvi.form
    obtain ⟨_, _, rfl, _⟩ := hvv.form
    rw [Abs.actsE_cons hk'] at hI
    refine Sg ?_
    intro w7 b7 hb7 he7 hc7
    refine Su ?_
    intro w8 hw8 hc8
    have he68 := hw8.ext he7 hb7
    have he08 := he06.trans he68
    have hc3 := (he6.trans he68).obj hc3
    refine Su ?_
    refine K.cutG [3, 5, 10, 11, 12, 32, 33, 34] (fun _ => []) (fun (_ : Unit) w' => Ext w8 w' ∧ ¬ (Abs.talks c.acts[k] && b) = true) ?_ ?_
    · refine Sg ?_
      refine K.call (talks_r c.acts[k] _ _ w8) ?_
      rintro _ w9 ⟨rfl, he9⟩
      refine Sg ?_
      refine K.condb (fun g2 => ?_) (fun g2 => ?_)
      · refine Sg ?_
        refine K.condb (fun g3 => ?_) (fun g3 => ?_)
        · refine Sg ?_
          rw [hI, if_pos (by simp [g2, g3])]
          (refine ⟨?_, ?_⟩ <;> first | trivial | rfl | (repeat' first | assumption | exact Ext.refl _ | refine Ext.trans ?_ (by assumption)))
        · refine Sg ?_
          exact ⟨(), trivial, by (repeat' first | assumption | exact Ext.refl _ | refine Ext.trans ?_ (by assumption)), by simp [g3]⟩
      · refine Sg ?_
        exact ⟨(), trivial, by (repeat' first | assumption | exact Ext.refl _ | refine Ext.trans ?_ (by assumption)), by simp [g2]⟩
    rintro _ S w9 ⟨he9, g2⟩
    rw [if_neg g2] at hI
    have hc8 := he9.obj hc8
    have hc3 := he9.obj hc3
    refine Su ?_
    refine K.cutG [3, 5, 11, 12, 32, 33, 34] (fun u => [(10, .bool u)]) (fun u w' => Ext w9 w' ∧ u = (b || Abs.talks c.acts[k])) ?_ ?_
    · refine Sg ?_
      refine K.condb (fun g3 => ?_) (fun g3 => ?_)
      · refine Sg ?_
        exact ⟨true, hZq, by (repeat' first | assumption | exact Ext.refl _ | refine Ext.trans ?_ (by assumption)), by simp [g3]⟩
      · refine Sg ?_
        refine K.call (talks_r c.acts[k] _ _ w9) ?_
        rintro _ w10 ⟨rfl, he10⟩
        refine Sg ?_
        exact ⟨Abs.talks c.acts[k], hZq, by (repeat' first | assumption | exact Ext.refl _ | refine Ext.trans ?_ (by assumption)), by simp [g3]⟩
    rintro _ S w10 ⟨he10, rfl⟩
    have hc8 := he10.obj hc8
    have hc3 := he10.obj hc3
    have he010 := (he08.trans he9).trans he10
    have he510 := ((he6.trans he68).trans he9).trans he10
    refine Sg ?_
    refine K.call (act_r c.acts[k] _ _ _ s w10 (hvi.ext he010) (hvv.ext he010) (h.ext he010)) ?_
    rintro _ w11 ⟨rfl, he11⟩
    refine Sg ?_
    refine K.cond (fun g3 => ?_) (fun g3 => ?_)
    · refine Sg ?_
      rw [if_neg (by simpa using g3)] at hI
      exact ⟨hk', by first | trivial | rfl, _, hZq, by (repeat' first | assumption | exact Ext.refl _ | refine Ext.trans ?_ (by assumption)), hI⟩
    · refine Sg ?_
      rw [hI, if_pos g3]
      (refine ⟨?_, ?_⟩ <;> first | trivial | rfl | (repeat' first | assumption | exact Ext.refl _ | refine Ext.trans ?_ (by assumption)))
  · refine Sg ?_
    rw [hI, List.drop_eq_nil_of_le (by omega)]
    (refine ⟨?_, ?_⟩ <;> first | trivial | rfl | (repeat' first | assumption | exact Ext.refl _ | refine Ext.trans ?_ (by assumption)))
end Go.Proofs.YtpaahhleopalaaaGreatDoor
end
section
/- What the functions of decl compute. -/
set_option maxRecDepth 4000
set_option linter.unusedSimpArgs false
namespace Go.Proofs.YtpaahhleopalaaaGreatDoor
open Go Go.RowKit Lite

theorem narrow_r (lo hi : Int) (w : World) : Ret Tryz.prog F.decl_narrow #[.int .i64 lo, .int .i64 hi] w fun v w' => v = .bool (Abs.narrow lo hi) ∧ w' = w := by
  refine K.start hmix E.decl_narrow (args := [_, _]) (Nat.le_of_ble_eq_true rfl) ?_
  dsimp only [C.decl_narrow]; refine Yy ?_
  (repeat' first
    | (refine K.cond (fun _ => ?_) (fun _ => ?_) <;> try (exfalso; omega))
    | (refine K.condb (fun _ => ?_) (fun _ => ?_))
    | (refine K.wrap (by omega) ?_)
    | (refine K.ld (by assumption) ?_)
    | (refine K.ia (by omega) ?_)
    | simp -dsimp only [LL,B9,Nat.reduceAdd,Nat.reduceEqDiff,reduceIte,reduceCtorEq,Bool.false_eq_true])
  all_goals (refine ⟨?_, by first | rfl | trivial⟩; congr 1; rw [Bool.eq_iff_iff]; simp [Abs.narrow]; omega)
theorem size_at {k : Int} {l : List Abs.Scalar} (h1 : 1 ≤ k) (h2 : k ≤ l.length) : Abs.size k l = if 1 ≤ (l[k.toNat - 1]'(by omega)).size ∧ (l[k.toNat - 1]'(by omega)).size ≤ 4 then (l[k.toNat - 1]'(by omega)).size else 0 := by
  have e : (k - 1).toNat = k.toNat - 1 := by omega
  have hlt : k.toNat - 1 < l.length := by omega
  simp only [Abs.size, e, List.getElem?_eq_getElem hlt, h1, true_and]
theorem size_no {k : Int} {l : List Abs.Scalar} (h : k < 1 ∨ l.length < k) : Abs.size k l = 0 := by
  unfold Abs.size
  split
  · rename_i x hx
    rw [if_neg]
    rintro ⟨h1, _⟩
    have := (List.getElem?_eq_some_iff.1 hx).1
    omega
  · rfl
theorem size_r (k : Int) (v : Value) (l : List Abs.Scalar) (w : World) (hl : Abs.Scalars w v l) :
    Ret Tryz.prog F.decl_size #[.int .i64 k, v] w fun v w' => v = .tuple #[.int .i64 (Abs.size k l), .bool (decide (Abs.size k l ≠ 0))] ∧ w' = w := by
  obtain ⟨oa, cap, rfl, hlen⟩ := hl.form
  refine K.start hmix E.decl_size (args := [_, _]) (Nat.le_of_ble_eq_true rfl) ?_
  dsimp only [C.decl_size]; refine Yy ?_
  refine Go1 ?_
  refine K.cond (fun h1 => ?_) (fun h1 => ?_)
  · refine Go1 ?_
    rw [size_no (.inl h1)]; exact ⟨rfl, trivial⟩
  refine Go1 ?_
  refine K.cond (fun h2 => ?_) (fun h2 => ?_)
  · refine Go1 ?_
    rw [size_no (.inr h2)]; exact ⟨rfl, trivial⟩
  refine Go1 ?_
  refine K.wrap (by omega) ?_
  refine Go1 ?_
  obtain ⟨a, rfl⟩ := hl.addr (by omega)
  have hc := (hl.at (k.toNat - 1) (by omega)).cells 1 _ rfl
  refine K.ian (k.toNat - 1) (by omega) (by omega) ?_
  refine Go1 ?_
  refine K.ld hc ?_
  rw [size_at (by omega) (by omega)]
  generalize l[k.toNat - 1].size = z at hc
  refine Go1 ?_
  refine K.cond (fun h3 => ?_) (fun h3 => ?_)
  · refine Go1 ?_
    rw [if_neg (by omega)]; exact ⟨rfl, trivial⟩
  refine Go1 ?_
  refine K.wrap (by omega) ?_
  refine Go1 ?_
  refine K.ian (k.toNat - 1) (by omega) (by omega) ?_
  refine Go1 ?_
  refine K.ld hc ?_
  refine Go1 ?_
  refine K.cond (fun h4 => ?_) (fun h4 => ?_)
  · refine Go1 ?_
    rw [if_neg (by omega)]; exact ⟨rfl, trivial⟩
  refine Go1 ?_
  refine K.wrap (by omega) ?_
  refine Go1 ?_
  refine K.ian (k.toNat - 1) (by omega) (by omega) ?_
  refine Go1 ?_
  refine K.ld hc ?_
  refine Go1 ?_
  rw [if_pos (by omega)]
  refine ⟨?_, by trivial⟩
  have : z ≠ 0 := by omega
  simp [this]
theorem there_r (k : Int) (v : Value) (l : List Abs.Scalar) (w : World) (hl : Abs.Scalars w v l) :
    Ret Tryz.prog F.decl_there #[.int .i64 k, v] w fun v w' => v = .bool (Abs.there k l) ∧ w' = w := by
  refine K.start hmix E.decl_there (args := [_, _]) (Nat.le_of_ble_eq_true rfl) ?_
  dsimp only [C.decl_there]; refine Yy ?_
  refine Go1 ?_
  refine K.call (size_r k v l w hl) ?_
  rintro _ _ ⟨rfl, rfl⟩
  refine Go1 ?_
  refine K.cond (fun h1 => ?_) (fun h1 => ?_)
  · refine Go1 ?_
    refine ⟨?_, by trivial⟩; simp [Abs.there, h1]
  · refine Go1 ?_
    refine ⟨?_, by trivial⟩; simp [Abs.there, h1]

def seen (l : List ByteArray) : List (ByteArray × Value) := l.map fun x => (x, .bool true)
theorem seen_find (l : List ByteArray) (x : ByteArray) : ((seen l).find? (fun p => decide (x = p.1))).map (·.2) = if x ∈ l then some (.bool true) else none := by
  induction l with
  | nil => rfl
  | cons y l ih =>
    simp only [seen, List.map_cons, List.find?_cons, List.mem_cons]
    by_cases h : x = y
    · simp [h]
    · simp only [h, decide_false, false_or]
      exact ih
set_option maxHeartbeats 2000000 in
theorem named_r (n most : Int) (hn : 0 ≤ n ∧ n ≤ 9223372036854775807) (nm : Nat → ByteArray) (mo : Nat → Int) (f1 f2 : FuncId) (c1 c2 : List Value) (hf1 : okF Tryz.prog f1 = true) (hf2 : okF Tryz.prog f2 = true) (w : World) (ho : OwnIs w)
    (hnm : ∀ i : Nat, i < n → Abs.strOk (nm i))
    (k1 : ∀ (i : Nat) (w' : World), i < n → Ext w w' → Ret Tryz.prog f1 (.int .i64 i :: c1).toArray w' fun v w'' => v = .string (nm i) ∧ Ext w' w'')
    (k2 : ∀ (i : Nat) (w' : World), i < n → Ext w w' → Ret Tryz.prog f2 (.int .i64 i :: c2).toArray w' fun v w'' => v = .int .i64 (mo i) ∧ Ext w' w'') :
    Ret Tryz.prog F.decl_named #[.int .i64 n, .int .i64 most, .func (.func f1) #[] c1.toArray, .func (.func f2) #[] c2.toArray] w
      fun v w' => v = .tuple #[.int .i64 (Abs.first n.toNat (Abs.err most nm mo)).1, .int .i64 (Abs.first n.toNat (Abs.err most nm mo)).2] ∧ Ext w w' := by
  refine K.start hmix E.decl_named (args := [_, _, _, _]) (Nat.le_of_ble_eq_true rfl) ?_
  dsimp only [C.decl_named]; refine Yy ?_
  refine Go1 ?_
  refine K.newM fun w1 b hb he1 hm1 => ?_
  refine Go1 ?_
  refine K.loop (fun S w' => ∃ i : Nat, i ≤ n ∧ S 16 = .int .i64 i ∧ (∀ j, j < i → Abs.err most nm mo j = 0) ∧ Ext w w' ∧
      ∃ es c, w'.heap[b]? = some (.map es c) ∧ KV Value.string es.toList (seen ((List.range i).map nm)))
    (fun S _ => (n - intOf (S 16)).toNat) ⟨0, by omega, by refine Go1 ?_; rfl, fun _ h => absurd h (Nat.not_lt_zero _), he1, _, _, hm1, rfl⟩ ?_
  rintro S w2 hS ⟨i, hi, h16, hz, he, es, c, hm, hkv⟩
  have h0 := hS 0 rfl; have h1 := hS 1 rfl; have h2 := hS 2 rfl; have h3 := hS 3 rfl; have h10 := hS 10 rfl; have h15 := hS 15 rfl; simp only [upd_at, Nat.reduceAdd, Nat.reduceEqDiff, reduceIte, fr0_cons, fr0_nil] at h0 h1 h2 h3 h10 h15; clear hS
  simp -dsimp only [LL,B9,Nat.reduceAdd,Nat.reduceEqDiff,reduceIte,reduceCtorEq,Bool.false_eq_true,h0, h1, h2, h3, h10, h15, h16]
  refine K.cond (fun hlt => ?_) (fun hge => ?_)
  rotate_left
  · refine Go1 ?_
    refine ⟨?_, he⟩
    rw [Abs.first_none fun j hj => hz j (by omega)]
  have stop : ∀ e : Int, Abs.err most nm mo i = e → e ≠ 0 → Abs.first n.toNat (Abs.err most nm mo) = ((i : Int), e) := fun e h hne => by
    rw [Abs.first_stop (by omega) hz (by rw [h]; exact hne), h]
  simp -dsimp only [LL,B9,Nat.reduceAdd,Nat.reduceEqDiff,reduceIte,reduceCtorEq,Bool.false_eq_true,h0, h1, h2, h3, h10, h15, h16]
  refine K.callV (first := []) hf1 (k1 i w2 hlt he) ?_
  rintro _ w3 ⟨rfl, he3⟩
  simp -dsimp only [LL,B9,Nat.reduceAdd,Nat.reduceEqDiff,reduceIte,reduceCtorEq,Bool.false_eq_true,h0, h1, h2, h3, h10, h15, h16]
  refine K.cond (fun ha => ?_) (fun ha => ?_)
  · simp -dsimp only [LL,B9,Nat.reduceAdd,Nat.reduceEqDiff,reduceIte,reduceCtorEq,Bool.false_eq_true,h0, h1, h2, h3, h10, h15, h16]
    refine K.cond (fun h => absurd h (by decide)) (fun _ => ?_)
    refine Go1 ?_
    rw [stop 11 (by simp [Abs.err, ha]) (by decide)]
    exact ⟨rfl, he.trans he3⟩
  simp -dsimp only [LL,B9,Nat.reduceAdd,Nat.reduceEqDiff,reduceIte,reduceCtorEq,Bool.false_eq_true,h0, h1, h2, h3, h10, h15, h16]
  refine K.call (name_r (nm i) w3 (ho.ext (he.trans he3)) (hnm i hlt)) ?_
  rintro _ w4 ⟨rfl, he4⟩
  simp -dsimp only [LL,B9,Nat.reduceAdd,Nat.reduceEqDiff,reduceIte,reduceCtorEq,Bool.false_eq_true,h0, h1, h2, h3, h10, h15, h16]
  refine K.condb (fun hn1 => ?_) (fun hn1 => ?_)
  rotate_left
  · simp -dsimp only [LL,B9,Nat.reduceAdd,Nat.reduceEqDiff,reduceIte,reduceCtorEq,Bool.false_eq_true,h0, h1, h2, h3, h10, h15, h16]
    refine K.cond (fun h => absurd h (by decide)) (fun _ => ?_)
    refine Go1 ?_
    rw [stop 6 (by simp [Abs.err, ha, hn1]) (by decide)]
    exact ⟨rfl, (he.trans he3).trans he4⟩
  simp -dsimp only [LL,B9,Nat.reduceAdd,Nat.reduceEqDiff,reduceIte,reduceCtorEq,Bool.false_eq_true,h0, h1, h2, h3, h10, h15, h16]
  have hm4 : w4.heap[b]? = some (.map es c) := he4.obj (he3.obj hm)
  obtain ⟨r, hr1, hr2⟩ := findNow_kv same_str (nm i) es.toList _ 0 hkv
  rw [seen_find] at hr2
  refine K.lkp (.inr ⟨b, c, rfl, hm4⟩) hr1 ?_
  have hmem : nm i ∈ (List.range i).map nm ↔ ∃ j, j < i ∧ nm j = nm i := by simp
  by_cases hin : ∃ j, j < i ∧ nm j = nm i
  · rw [if_pos (hmem.2 hin)] at hr2
    have hv : lkpV (.bool false) false r = .bool true := by simp [lkpV, hr2]
    rw [hv]
    simp -dsimp only [LL,B9,Nat.reduceAdd,Nat.reduceEqDiff,reduceIte,reduceCtorEq,Bool.false_eq_true,h0, h1, h2, h3, h10, h15, h16]
    refine K.cond (fun h => absurd h (by decide)) (fun _ => ?_)
    refine Go1 ?_
    rw [stop 7 (by simp [Abs.err, ha, hn1, hin]) (by decide)]
    exact ⟨rfl, (he.trans he3).trans he4⟩
  rw [if_neg (fun h => hin (hmem.1 h))] at hr2
  have hr0 : r = none := by cases r <;> simp at hr2 ⊢
  subst hr0
  have hv : lkpV (.bool false) false none = .bool false := rfl
  rw [hv]
  simp -dsimp only [LL,B9,Nat.reduceAdd,Nat.reduceEqDiff,reduceIte,reduceCtorEq,Bool.false_eq_true,h0, h1, h2, h3, h10, h15, h16]
  refine K.callV (first := []) hf2 (k2 i w4 hlt ((he.trans he3).trans he4)) ?_
  rintro _ w5 ⟨rfl, he5⟩
  have herr : Abs.err most nm mo i = mo i := by simp [Abs.err, ha, hn1, hin]
  simp -dsimp only [LL,B9,Nat.reduceAdd,Nat.reduceEqDiff,reduceIte,reduceCtorEq,Bool.false_eq_true,h0, h1, h2, h3, h10, h15, h16]
  refine K.cond (fun h => ?_) (fun h => ?_)
  rotate_left
  · refine Go1 ?_
    rw [stop (mo i) herr h]
    exact ⟨rfl, ((he.trans he3).trans he4).trans he5⟩
  simp -dsimp only [LL,B9,Nat.reduceAdd,Nat.reduceEqDiff,reduceIte,reduceCtorEq,Bool.false_eq_true,h0, h1, h2, h3, h10, h15, h16]
  have hm5 := he5.obj hm4
  refine K.mup hm5 hr1 ?_
  have hs : (setO w5 b (mupO es c (.string (nm i)) (.bool true) none)).heap[b]? = some (mupO es c (.string (nm i)) (.bool true) none) := setO_same (lt_of_heap hm5)
  have he6 : Ext w (setO w5 b (mupO es c (.string (nm i)) (.bool true) none)) := (((he.trans he3).trans he4).trans he5).setO hb _
  generalize setO w5 b (mupO es c (.string (nm i)) (.bool true) none) = w6 at hs he6
  simp -dsimp only [LL,B9,Nat.reduceAdd,Nat.reduceEqDiff,reduceIte,reduceCtorEq,Bool.false_eq_true,h0, h1, h2, h3, h10, h15, h16]
  refine K.wrap (by omega) ?_
  simp -dsimp only [LL,B9,Nat.reduceAdd,Nat.reduceEqDiff,reduceIte,reduceCtorEq,Bool.false_eq_true,h0, h1, h2, h3, h10, h15, h16]
  refine ⟨⟨i + 1, by omega, rfl, fun j hj => ?_, he6, _, _, hs, ?_⟩, by simp [intOf]; omega⟩
  · by_cases h' : j < i
    · exact hz j h'
    · have : j = i := by omega
      subst this; rw [herr, h]
  · have := KV.push hkv (nm i) (.bool true) c
    simpa [seen, List.range_succ] using this
end Go.Proofs.YtpaahhleopalaaaGreatDoor
end
section
/- What the functions of decl compute: scalars, variables, channels. -/
set_option maxRecDepth 4000
set_option linter.unusedSimpArgs false
set_option maxHeartbeats 1000000
namespace Go.Proofs.YtpaahhleopalaaaGreatDoor
open Go Go.RowKit Lite

theorem nameAt_lt {α : Type} (f : α → ByteArray) (l : List α) (i : Nat) (h : i < l.length) : Abs.nameAt f l i = f l[i] := by simp [Abs.nameAt, h]
theorem scalars1_r (i : Nat) (b : Nat) (v : Value) (l : List Abs.Scalar) (w : World) (hl : Abs.Scalars w v l) (hb : w.cell? ⟨b, 0, none⟩ = some v) (hi : i < l.length) :
    Ret Tryz.prog F.decl_Scalars_1 #[.int .i64 i, .pointer (some ⟨b, 0, none⟩)] w fun v w' => v = .string (Abs.nameAt (·.name) l i) ∧ Ext w w' := by
  obtain ⟨oa, cap, rfl, hlen⟩ := hl.form
  refine K.start hmix E.decl_Scalars_1 (args := [_, _]) (Nat.le_of_ble_eq_true rfl) ?_
  dsimp only [C.decl_Scalars_1]; refine Yy ?_
  refine Go1 ?_
  refine K.ld hb ?_
  refine Go1 ?_
  obtain ⟨a, rfl⟩ := hl.addr (by omega)
  have hc := (hl.at i hi).cells 0 _ rfl
  refine K.ian i rfl hi ?_
  refine Go1 ?_
  refine K.ld hc ?_
  refine Go1 ?_
  rw [nameAt_lt _ _ _ hi]
  exact ⟨rfl, Ext.refl w⟩
theorem scalars2_r (i : Nat) (b : Nat) (v : Value) (l : List Abs.Scalar) (w : World) (hl : Abs.Scalars w v l) (hb : w.cell? ⟨b, 0, none⟩ = some v) (hi : i < l.length) :
    Ret Tryz.prog F.decl_Scalars_2 #[.int .i64 i, .pointer (some ⟨b, 0, none⟩)] w fun v w' => v = .int .i64 (Abs.scalarErr l i) ∧ Ext w w' := by
  obtain ⟨oa, cap, rfl, hlen⟩ := hl.form
  refine K.start hmix E.decl_Scalars_2 (args := [_, _]) (Nat.le_of_ble_eq_true rfl) ?_
  dsimp only [C.decl_Scalars_2]; refine Yy ?_
  refine Go1 ?_
  refine K.ld hb ?_
  refine Go1 ?_
  obtain ⟨a, rfl⟩ := hl.addr (by omega)
  have hc := (hl.at i hi).cells 1 _ rfl
  have hr : Abs.scalarErr l i = if 1 ≤ l[i].size ∧ l[i].size ≤ 4 then 0 else 10 := by simp [Abs.scalarErr, hi]
  rw [hr]
  generalize l[i].size = z at hc
  refine K.ian i rfl hi ?_
  refine Go1 ?_
  refine K.ld hc ?_
  refine Go1 ?_
  refine K.cond (fun h1 => ?_) (fun h1 => ?_)
  · refine Go1 ?_
    rw [if_neg (by omega)]; exact ⟨rfl, Ext.refl w⟩
  refine Go1 ?_
  refine K.ld hb ?_
  refine Go1 ?_
  refine K.ian i rfl hi ?_
  refine Go1 ?_
  refine K.ld hc ?_
  refine Go1 ?_
  refine K.cond (fun h1 => ?_) (fun h1 => ?_)
  · refine Go1 ?_
    rw [if_neg (by omega)]; exact ⟨rfl, Ext.refl w⟩
  · refine Go1 ?_
    rw [if_pos (by omega)]; exact ⟨rfl, Ext.refl w⟩
theorem scalars_r (v : Value) (l : List Abs.Scalar) (w : World) (ho : OwnIs w) (hl : Abs.Scalars w v l) :
    Ret Tryz.prog F.decl_Scalars #[v] w fun v w' => v = .tuple #[.int .i64 (Abs.scalars l).1, .int .i64 (Abs.scalars l).2] ∧ Ext w w' := by
  obtain ⟨oa, cap, rfl, hlen⟩ := hl.form
  refine K.start hmix E.decl_Scalars (args := [_]) (Nat.le_of_ble_eq_true rfl) ?_
  dsimp only [C.decl_Scalars]; refine Yy ?_
  refine Go1 ?_
  refine K.new fun w1 b hb he1 hc1 => ?_
  have hl1 := SlR.ext Abs.RScalar.ext he1 hl
  have hb1 : w1.cell? ⟨b, 0, none⟩ = some (.slice oa l.length cap) := cell_blk0 hc1 rfl
  refine Go1 ?_
  refine K.ld hb1 ?_
  refine Go1 ?_
  refine K.call (named_r l.length 2 (by omega) (Abs.nameAt (·.name) l) (Abs.scalarErr l) F.decl_Scalars_1 F.decl_Scalars_2 [_] [_] (by kernel_rfl) (by kernel_rfl) w1 (ho.ext he1)
    (fun i hi => by rw [nameAt_lt _ _ _ (by omega)]; obtain ⟨a, rfl⟩ := hl.addr (by omega); exact (hl.at i (by omega)).ok)
    (fun i w' hi he => scalars1_r i b _ l w' (SlR.ext Abs.RScalar.ext he hl1) (he.cell hb1) (by omega))
    (fun i w' hi he => scalars2_r i b _ l w' (SlR.ext Abs.RScalar.ext he hl1) (he.cell hb1) (by omega))) ?_
  rintro _ w2 ⟨rfl, he2⟩
  refine Go1 ?_
  exact ⟨rfl, he1.trans he2⟩

theorem bounds_r (x : Abs.Var) (v : Value) (l : List Abs.Scalar) (w : World) (hl : Abs.Scalars w v l) :
    Ret Tryz.prog F.decl_Bounds #[.agg x.enc.toArray, v] w fun v w' => v = .tuple #[.int .i64 (Abs.bounds x l).1, .int .i64 (Abs.bounds x l).2] ∧ Ext w w' := by
  obtain ⟨oa, cap, rfl, hlen⟩ := hl.form
  refine K.start hmix E.decl_Bounds (args := [_, _]) (Nat.le_of_ble_eq_true rfl) ?_
  dsimp only [C.decl_Bounds]; refine Yy ?_
  refine Go1 ?_
  refine K.new fun w1 b hb he1 hc1 => ?_
  have c1 : w1.cell? (Addr.add ⟨b, 0, none⟩ 1) = some (.int .i64 x.scalar) := cell_blk hc1 rfl
  have c3 : w1.cell? (Addr.add ⟨b, 0, none⟩ 3) = some (.int .i64 x.lo) := cell_blk hc1 rfl
  have c4 : w1.cell? (Addr.add ⟨b, 0, none⟩ 4) = some (.int .i64 x.hi) := cell_blk hc1 rfl
  refine Go1 ?_
  refine K.ld c1 ?_
  refine Go1 ?_
  refine K.cond (fun h1 => ?_) (fun h1 => ?_)
  · refine Go1 ?_
    refine K.ld c3 ?_
    refine Go1 ?_
    refine K.ld c4 ?_
    refine Go1 ?_
    intro w2 he2
    simp only [Abs.bounds, h1, if_true]
    exact ⟨trivial, he1.trans he2⟩
  · refine Go1 ?_
    refine K.ld c1 ?_
    refine Go1 ?_
    refine K.call (size_r x.scalar _ l w1 (SlR.ext Abs.RScalar.ext he1 hl)) ?_
    rintro _ _ ⟨rfl, rfl⟩
    refine Go1 ?_
    simp only [Abs.bounds, h1, if_false]
    exact ⟨trivial, he1⟩
theorem cells_r (x : Abs.Var) (v : Value) (l : List Abs.Scalar) (w : World) (hl : Abs.Scalars w v l) :
    Ret Tryz.prog F.decl_Cells #[.agg x.enc.toArray, v] w fun v w' => v = .int .i64 (Abs.cells x l) ∧ Ext w w' := by
  obtain ⟨oa, cap, rfl, hlen⟩ := hl.form
  refine K.start hmix E.decl_Cells (args := [_, _]) (Nat.le_of_ble_eq_true rfl) ?_
  dsimp only [C.decl_Cells]; refine Yy ?_
  refine Go1 ?_
  refine K.new fun w1 b hb he1 hc1 => ?_
  have c2 : w1.cell? (Addr.add ⟨b, 0, none⟩ 2) = some (.int .i64 x.over) := cell_blk hc1 rfl
  refine Go1 ?_
  refine K.ld c2 ?_
  refine Go1 ?_
  refine K.cond (fun h1 => ?_) (fun h1 => ?_)
  · refine Go1 ?_
    simp only [Abs.cells, h1, if_true]
    exact ⟨trivial, he1⟩
  · refine Go1 ?_
    refine K.ld c2 ?_
    refine Go1 ?_
    refine K.call (size_r x.over _ l w1 (SlR.ext Abs.RScalar.ext he1 hl)) ?_
    rintro _ _ ⟨rfl, rfl⟩
    refine Go1 ?_
    simp only [Abs.cells, h1, if_false]
    exact ⟨trivial, he1⟩
theorem vars1_r (i : Nat) (b : Nat) (v : Value) (l : List Abs.Var) (w : World) (hl : Abs.Vars w v l) (hb : w.cell? ⟨b, 0, none⟩ = some v) (hi : i < l.length) :
    Ret Tryz.prog F.decl_Vars_1 #[.int .i64 i, .pointer (some ⟨b, 0, none⟩)] w fun v w' => v = .string (Abs.nameAt (·.name) l i) ∧ Ext w w' := by
  obtain ⟨oa, cap, rfl, hlen⟩ := hl.form
  refine K.start hmix E.decl_Vars_1 (args := [_, _]) (Nat.le_of_ble_eq_true rfl) ?_
  dsimp only [C.decl_Vars_1]; refine Yy ?_
  refine Go1 ?_
  refine K.ld hb ?_
  refine Go1 ?_
  obtain ⟨a, rfl⟩ := hl.addr (by omega)
  have hc := (hl.at i hi).cells 0 _ rfl
  refine K.ian i rfl hi ?_
  refine Go1 ?_
  refine K.ld hc ?_
  refine Go1 ?_
  rw [nameAt_lt _ _ _ hi]
  exact ⟨rfl, Ext.refl w⟩
theorem vars2_r (i : Nat) (b b2 : Nat) (v v2 : Value) (l : List Abs.Var) (s : List Abs.Scalar) (w : World) (hl : Abs.Vars w v l) (hs : Abs.Scalars w v2 s) (hb : w.cell? ⟨b, 0, none⟩ = some v) (hb2 : w.cell? ⟨b2, 0, none⟩ = some v2)
    (hi : i < l.length) : Ret Tryz.prog F.decl_Vars_2 #[.int .i64 i, .pointer (some ⟨b, 0, none⟩), .pointer (some ⟨b2, 0, none⟩)] w fun v w' => v = .int .i64 (Abs.varErr l s i) ∧ Ext w w' := by
  obtain ⟨oa, cap, rfl, hlen⟩ := hl.form
  obtain ⟨ob, cap2, rfl, hlen2⟩ := hs.form
  refine K.start hmix E.decl_Vars_2 (args := [_, _, _]) (Nat.le_of_ble_eq_true rfl) ?_
  dsimp only [C.decl_Vars_2]; refine Yy ?_
  refine Go1 ?_
  refine K.ld hb ?_
  refine Go1 ?_
  obtain ⟨a, rfl⟩ := hl.addr (by omega)
  have hc := (hl.at i hi).cells
  have hr : Abs.varErr l s i = if Abs.there l[i].scalar s = false ∨ Abs.there l[i].over s = false then 8
    else if (l[i].scalar = 0 ∧ Abs.narrow l[i].lo l[i].hi = false) ∨ l[i].init < (Abs.bounds l[i] s).1 ∨ l[i].init > (Abs.bounds l[i] s).2 then 10 else 0 := by simp [Abs.varErr, hi]
  rw [hr]
  clear hr
  generalize l[i] = x at hc
  refine K.ian i rfl hi ?_
  refine Go1 ?_
  refine K.ldA hc rfl ?_
  refine Go1 ?_
  refine K.new fun w1 q hq he1 hc1 => ?_
  refine Go1 ?_
  refine K.stAb hc1 rfl rfl (by simp [Abs.Var.enc, Value.oneCell']) fun w2 hw hc2 => ?_
  have he2 : Ext w w2 := hw.ext he1 hq
  clear hw hc1 he1 w1
  have c1 : w2.cell? (Addr.add ⟨q, 0, none⟩ 1) = some (.int .i64 x.scalar) := cell_blk hc2 rfl
  have c2 : w2.cell? (Addr.add ⟨q, 0, none⟩ 2) = some (.int .i64 x.over) := cell_blk hc2 rfl
  have c5 : w2.cell? (Addr.add ⟨q, 0, none⟩ 5) = some (.int .i64 x.init) := cell_blk hc2 rfl
  have d2 := he2.cell hb2
  have hs2 := SlR.ext Abs.RScalar.ext he2 hs
  refine Go1 ?_
  refine K.ld c1 ?_
  refine Go1 ?_
  refine K.ld d2 ?_
  refine Go1 ?_
  refine K.call (there_r x.scalar _ s w2 hs2) ?_
  rintro _ _ ⟨rfl, rfl⟩
  refine Go1 ?_
  refine K.condb (fun h1 => ?_) (fun h1 => ?_)
  rotate_left
  · refine Go1 ?_
    simp only [h1, true_or, if_true]; exact ⟨trivial, he2⟩
  refine Go1 ?_
  refine K.ld c2 ?_
  refine Go1 ?_
  refine K.ld d2 ?_
  refine Go1 ?_
  refine K.call (there_r x.over _ s _ hs2) ?_
  rintro _ _ ⟨rfl, rfl⟩
  refine Go1 ?_
  refine K.condb (fun h2 => ?_) (fun h2 => ?_)
  rotate_left
  · refine Go1 ?_
    simp only [h2, or_true, if_true]; exact ⟨trivial, he2⟩
  refine Go1 ?_
  refine K.ldA (cellsAt_blk hc2) rfl ?_
  refine Go1 ?_
  refine K.ld d2 ?_
  refine Go1 ?_
  refine K.call (bounds_r x _ s _ hs2) ?_
  rintro _ w3 ⟨rfl, he3⟩
  rename_i w2'
  have e1 := he3.cell c1
  have e5 := he3.cell c5
  have he := he2.trans he3
  refine Go1 ?_
  refine K.ld e1 ?_
  have hA : ¬ (Abs.there x.scalar s = false ∨ Abs.there x.over s = false) := by simp [h1, h2]
  refine Go1 ?_
  refine K.cond (fun h3 => ?_) (fun h3 => ?_)
  · refine Go1 ?_
    have hbd : Abs.bounds x s = (x.lo, x.hi) := by simp [Abs.bounds, h3]
    rw [hbd]
    refine K.call (narrow_r x.lo x.hi w3) ?_
    rintro _ _ ⟨rfl, rfl⟩
    refine Go1 ?_
    refine K.condb (fun h4 => ?_) (fun h4 => ?_)
    rotate_left
    · refine Go1 ?_
      rw [if_neg hA, if_pos (.inl ⟨h3, h4⟩)]; exact ⟨rfl, he⟩
    refine Go1 ?_
    refine K.ld e5 ?_
    refine Go1 ?_
    refine K.cond (fun h5 => ?_) (fun h5 => ?_)
    · refine Go1 ?_
      rw [if_neg hA, if_pos (.inr (.inl h5))]; exact ⟨rfl, he⟩
    refine Go1 ?_
    refine K.ld e5 ?_
    refine Go1 ?_
    refine K.cond (fun h6 => ?_) (fun h6 => ?_)
    · refine Go1 ?_
      rw [if_neg hA, if_pos (.inr (.inr h6))]; exact ⟨rfl, he⟩
    · refine Go1 ?_
      rw [if_neg hA, if_neg (by rw [h4]; simp; omega)]; exact ⟨rfl, he⟩
  · refine Go1 ?_
    refine K.ld e5 ?_
    refine Go1 ?_
    refine K.cond (fun h5 => ?_) (fun h5 => ?_)
    · refine Go1 ?_
      rw [if_neg hA, if_pos (.inr (.inl h5))]; exact ⟨rfl, he⟩
    refine Go1 ?_
    refine K.ld e5 ?_
    refine Go1 ?_
    refine K.cond (fun h6 => ?_) (fun h6 => ?_)
    · refine Go1 ?_
      rw [if_neg hA, if_pos (.inr (.inr h6))]; exact ⟨rfl, he⟩
    · refine Go1 ?_
      rw [if_neg hA, if_neg (by simp [h3]; omega)]; exact ⟨rfl, he⟩
theorem vars_r (v v2 : Value) (l : List Abs.Var) (s : List Abs.Scalar) (most : Int) (w : World) (ho : OwnIs w) (hl : Abs.Vars w v l) (hs : Abs.Scalars w v2 s) :
    Ret Tryz.prog F.decl_Vars #[v, v2, .int .i64 most] w fun v w' => v = .tuple #[.int .i64 (Abs.vars l s most).1, .int .i64 (Abs.vars l s most).2] ∧ Ext w w' := by
  obtain ⟨oa, cap, rfl, hlen⟩ := hl.form
  obtain ⟨ob, cap2, rfl, hlen2⟩ := hs.form
  refine K.start hmix E.decl_Vars (args := [_, _, _]) (Nat.le_of_ble_eq_true rfl) ?_
  dsimp only [C.decl_Vars]; refine Yy ?_
  refine Go1 ?_
  refine K.new fun w1 b hb he1 hc1 => ?_
  refine Go1 ?_
  refine K.new fun w2 b2 hb2 he2 hc2 => ?_
  have he := he1.trans he2
  have hl1 := SlR.ext Abs.RVar.ext he hl
  have hs1 := SlR.ext Abs.RScalar.ext he hs
  have d1 : w2.cell? ⟨b, 0, none⟩ = some (.slice oa l.length cap) := cell_blk0 (he2.obj hc1) rfl
  have d2 : w2.cell? ⟨b2, 0, none⟩ = some (.slice ob s.length cap2) := cell_blk0 hc2 rfl
  refine Go1 ?_
  refine K.ld d1 ?_
  refine Go1 ?_
  refine K.call (named_r l.length (max most 0) (by omega) (Abs.nameAt (·.name) l) (Abs.varErr l s) F.decl_Vars_1 F.decl_Vars_2 [_] [_, _] (by kernel_rfl) (by kernel_rfl) w2 (ho.ext he)
    (fun i hi => by rw [nameAt_lt _ _ _ (by omega)]; obtain ⟨a, rfl⟩ := hl.addr (by omega); exact (hl.at i (by omega)).ok)
    (fun i w' hi he => vars1_r i b _ l w' (SlR.ext Abs.RVar.ext he hl1) (he.cell d1) (by omega))
    (fun i w' hi he => vars2_r i b b2 _ _ l s w' (SlR.ext Abs.RVar.ext he hl1) (SlR.ext Abs.RScalar.ext he hs1) (he.cell d1) (he.cell d2) (by omega))) ?_
  rintro _ w3 ⟨rfl, he3⟩
  refine Go1 ?_
  exact ⟨rfl, he.trans he3⟩
theorem chans1_r (i : Nat) (b : Nat) (v : Value) (l : List Abs.Chan) (w : World) (hl : Abs.Chans w v l) (hb : w.cell? ⟨b, 0, none⟩ = some v) (hi : i < l.length) :
    Ret Tryz.prog F.decl_Chans_1 #[.int .i64 i, .pointer (some ⟨b, 0, none⟩)] w fun v w' => v = .string (Abs.nameAt (·.name) l i) ∧ Ext w w' := by
  obtain ⟨oa, cap, rfl, hlen⟩ := hl.form
  refine K.start hmix E.decl_Chans_1 (args := [_, _]) (Nat.le_of_ble_eq_true rfl) ?_
  dsimp only [C.decl_Chans_1]; refine Yy ?_
  refine Go1 ?_
  refine K.ld hb ?_
  refine Go1 ?_
  obtain ⟨a, rfl⟩ := hl.addr (by omega)
  have hc := (hl.at i hi).cells 0 _ rfl
  refine K.ian i rfl hi ?_
  refine Go1 ?_
  refine K.ld hc ?_
  refine Go1 ?_
  rw [nameAt_lt _ _ _ hi]
  exact ⟨rfl, Ext.refl w⟩
theorem chans2_r (i : Nat) (b b2 : Nat) (v v2 : Value) (l : List Abs.Chan) (s : List Abs.Scalar) (w : World) (hl : Abs.Chans w v l) (hs : Abs.Scalars w v2 s) (hb : w.cell? ⟨b, 0, none⟩ = some v) (hb2 : w.cell? ⟨b2, 0, none⟩ = some v2)
    (hi : i < l.length) : Ret Tryz.prog F.decl_Chans_2 #[.int .i64 i, .pointer (some ⟨b, 0, none⟩), .pointer (some ⟨b2, 0, none⟩)] w fun v w' => v = .int .i64 (Abs.chanErr l s i) ∧ Ext w w' := by
  obtain ⟨oa, cap, rfl, hlen⟩ := hl.form
  obtain ⟨ob, cap2, rfl, hlen2⟩ := hs.form
  refine K.start hmix E.decl_Chans_2 (args := [_, _, _]) (Nat.le_of_ble_eq_true rfl) ?_
  dsimp only [C.decl_Chans_2]; refine Yy ?_
  refine Go1 ?_
  refine K.ld hb ?_
  refine Go1 ?_
  obtain ⟨a, rfl⟩ := hl.addr (by omega)
  have hc := (hl.at i hi).cells
  have hr : Abs.chanErr l s i = if Abs.there l[i].scalar s = false then 8
    else if l[i].cap < 1 ∨ l[i].cap > 4 ∨ (l[i].scalar = 0 ∧ Abs.narrow l[i].lo l[i].hi = false) then 10 else 0 := by simp [Abs.chanErr, hi]
  rw [hr]
  clear hr
  generalize l[i] = x at hc
  refine K.ian i rfl hi ?_
  refine Go1 ?_
  refine K.ldA hc rfl ?_
  refine Go1 ?_
  refine K.new fun w1 q hq he1 hc1 => ?_
  refine Go1 ?_
  refine K.stAb hc1 rfl rfl (by simp [Abs.Chan.enc, Value.oneCell']) fun w2 hw hc2 => ?_
  have he2 : Ext w w2 := hw.ext he1 hq
  clear hw hc1 he1 w1
  have c1 : w2.cell? (Addr.add ⟨q, 0, none⟩ 1) = some (.int .i64 x.scalar) := cell_blk hc2 rfl
  have c2 : w2.cell? (Addr.add ⟨q, 0, none⟩ 2) = some (.int .i64 x.cap) := cell_blk hc2 rfl
  have c3 : w2.cell? (Addr.add ⟨q, 0, none⟩ 3) = some (.int .i64 x.lo) := cell_blk hc2 rfl
  have c4 : w2.cell? (Addr.add ⟨q, 0, none⟩ 4) = some (.int .i64 x.hi) := cell_blk hc2 rfl
  have d2 := he2.cell hb2
  have hs2 := SlR.ext Abs.RScalar.ext he2 hs
  refine Go1 ?_
  refine K.ld c1 ?_
  refine Go1 ?_
  refine K.ld d2 ?_
  refine Go1 ?_
  refine K.call (there_r x.scalar _ s w2 hs2) ?_
  rintro _ _ ⟨rfl, rfl⟩
  refine Go1 ?_
  refine K.condb (fun h1 => ?_) (fun h1 => ?_)
  rotate_left
  · refine Go1 ?_
    simp only [h1, if_true]; exact ⟨trivial, he2⟩
  have hA : ¬ (Abs.there x.scalar s = false) := by simp [h1]
  refine Go1 ?_
  refine K.ld c2 ?_
  refine Go1 ?_
  refine K.cond (fun h2 => ?_) (fun h2 => ?_)
  · refine Go1 ?_
    rw [if_neg hA, if_pos (.inl h2)]; exact ⟨rfl, he2⟩
  refine Go1 ?_
  refine K.ld c2 ?_
  refine Go1 ?_
  refine K.cond (fun h3 => ?_) (fun h3 => ?_)
  · refine Go1 ?_
    rw [if_neg hA, if_pos (.inr (.inl h3))]; exact ⟨rfl, he2⟩
  refine Go1 ?_
  refine K.ld c1 ?_
  refine Go1 ?_
  refine K.cond (fun h4 => ?_) (fun h4 => ?_)
  · refine Go1 ?_
    refine K.ld c3 ?_
    refine Go1 ?_
    refine K.ld c4 ?_
    refine Go1 ?_
    refine K.call (narrow_r x.lo x.hi _) ?_
    rintro _ _ ⟨rfl, rfl⟩
    refine Go1 ?_
    refine K.condb (fun h5 => ?_) (fun h5 => ?_)
    · refine Go1 ?_
      rw [if_neg hA, if_neg (by rw [h5]; simp; omega)]; exact ⟨rfl, he2⟩
    · refine Go1 ?_
      rw [if_neg hA, if_pos (.inr (.inr ⟨h4, h5⟩))]; exact ⟨rfl, he2⟩
  · refine Go1 ?_
    rw [if_neg hA, if_neg (by simp [h4]; omega)]; exact ⟨rfl, he2⟩
theorem chans_r (v v2 : Value) (l : List Abs.Chan) (s : List Abs.Scalar) (w : World) (ho : OwnIs w) (hl : Abs.Chans w v l) (hs : Abs.Scalars w v2 s) :
    Ret Tryz.prog F.decl_Chans #[v, v2] w fun v w' => v = .tuple #[.int .i64 (Abs.chans l s).1, .int .i64 (Abs.chans l s).2] ∧ Ext w w' := by
  obtain ⟨oa, cap, rfl, hlen⟩ := hl.form
  obtain ⟨ob, cap2, rfl, hlen2⟩ := hs.form
  refine K.start hmix E.decl_Chans (args := [_, _]) (Nat.le_of_ble_eq_true rfl) ?_
  dsimp only [C.decl_Chans]; refine Yy ?_
  refine Go1 ?_
  refine K.new fun w1 b hb he1 hc1 => ?_
  refine Go1 ?_
  refine K.new fun w2 b2 hb2 he2 hc2 => ?_
  have he := he1.trans he2
  have hl1 := SlR.ext Abs.RChan.ext he hl
  have hs1 := SlR.ext Abs.RScalar.ext he hs
  have d1 : w2.cell? ⟨b, 0, none⟩ = some (.slice oa l.length cap) := cell_blk0 (he2.obj hc1) rfl
  have d2 : w2.cell? ⟨b2, 0, none⟩ = some (.slice ob s.length cap2) := cell_blk0 hc2 rfl
  refine Go1 ?_
  refine K.ld d1 ?_
  refine Go1 ?_
  refine K.call (named_r l.length 4 (by omega) (Abs.nameAt (·.name) l) (Abs.chanErr l s) F.decl_Chans_1 F.decl_Chans_2 [_] [_, _] (by kernel_rfl) (by kernel_rfl) w2 (ho.ext he)
    (fun i hi => by rw [nameAt_lt _ _ _ (by omega)]; obtain ⟨a, rfl⟩ := hl.addr (by omega); exact (hl.at i (by omega)).ok)
    (fun i w' hi he => chans1_r i b _ l w' (SlR.ext Abs.RChan.ext he hl1) (he.cell d1) (by omega))
    (fun i w' hi he => chans2_r i b b2 _ _ l s w' (SlR.ext Abs.RChan.ext he hl1) (SlR.ext Abs.RScalar.ext he hs1) (he.cell d1) (he.cell d2) (by omega))) ?_
  rintro _ w3 ⟨rfl, he3⟩
  refine Go1 ?_
  exact ⟨rfl, he.trans he3⟩
end Go.Proofs.YtpaahhleopalaaaGreatDoor
end
