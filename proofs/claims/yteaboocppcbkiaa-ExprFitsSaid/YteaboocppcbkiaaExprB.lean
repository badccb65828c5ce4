/- The table of operations. -/
import Derived.Test.YteaboocppcbkiaaExprA
set_option linter.all false
set_option maxRecDepth 4000
set_option linter.unusedSimpArgs false
set_option maxHeartbeats 4000000
namespace Go.Proofs.Yteaboocppcbkiaa
open Go Go.RowKit Lite

/-- What an operation does with two values: a plain function, or one that asks a test which lies in a cell. -/
def DoesR (w : World) (v : Value) (g : Int → Int → Int × Bool) : Prop :=
  (∃ f, v = .func (.func f) #[] #[] ∧ okF Try.prog f = true ∧ Fn2b f g) ∨
  (∃ c f p, v = .func (.func F.expr_says_1) #[] #[.pointer (some ⟨c, 0, none⟩)] ∧ w.heap[c]? = some (.cells #[.func (.func f) #[] #[]] T.func_int_int_bool) ∧ okF Try.prog f = true ∧ FnB f p ∧ g = fun a b => (Abs.bit (p a b), true))
theorem says1_r (c f : Nat) (p : Int → Int → Bool) (a b : Int) (w : World) (hc : w.heap[c]? = some (.cells #[.func (.func f) #[] #[]] T.func_int_int_bool)) (hf : okF Try.prog f = true) (hp : FnB f p) :
    Ret Try.prog F.expr_says_1 #[.int .i64 a, .int .i64 b, .pointer (some ⟨c, 0, none⟩)] w fun v w' => v = .tuple #[.int .i64 (Abs.bit (p a b)), .bool true] ∧ Ext w w' := by
  refine K.start hmix E.expr_says_1 (args := [_, _, _]) (Nat.le_of_ble_eq_true rfl) ?_
  dsimp only [C.expr_says_1,yt,yi,yb,yp,yr,ye,yc,yv,yg,ym,yw,ya,yl,yx,ys,yn]
  (repeat' first
 | assumption
 | exact Ext.refl _
 | refine Ext.trans ?_ (by assumption)
 | refine K.wrap (by omega) ?_
 | refine K.ldb (by assumption) ?_ rfl ?_
 | refine K.ldb0 (by assumption) ?_ rfl ?_
 | refine K.ldE (by assumption) ?_ (by omega) rfl ?_
 | refine K.ldE0 (by assumption) ?_ (by omega) rfl ?_
 | refine K.ldAE (by assumption) ?_ (by omega) rfl ?_
 | refine K.iaC (by omega) ?_
 | refine K.condT (by first | assumption | omega) ?_
 | refine K.condF (by first | assumption | omega) ?_
 | refine K.condbT (by assumption) ?_
 | refine K.condbF (by assumption) ?_
 | simp -dsimp only [LL,B9,Nat.reduceAdd,Nat.reduceEqDiff,reduceIte,reduceCtorEq,Bool.false_eq_true])
  refine K.callV (first := []) (cap := []) hf (hp a b w) ?_
  rintro _ _ ⟨rfl, rfl⟩
  simp -dsimp only [LL,B9,Nat.reduceAdd,Nat.reduceEqDiff,reduceIte,reduceCtorEq,Bool.false_eq_true]
  refine K.call (bit_r _ _) ?_
  rintro _ _ ⟨rfl, rfl⟩
  simp -dsimp only [LL,B9,Nat.reduceAdd,Nat.reduceEqDiff,reduceIte,reduceCtorEq,Bool.false_eq_true]
  (refine ⟨?_, ?_⟩ <;> first | trivial | rfl | (repeat' first | assumption | exact Ext.refl _ | refine Ext.trans ?_ (by assumption)))
theorem K.does {v : Value} {g : Int → Int → Int × Bool} {a b : Int} {w : World} {KK : Value → World → Prop} {t} (h : DoesR w v g) (hk : ∀ w', Ext w w' → KK (.tuple #[.int .i64 (g a b).1, .bool (g a b).2]) w') : CallVh Try.prog v [.int .i64 a, .int .i64 b] w KK t := by
  rcases h with ⟨f, rfl, hf, h⟩ | ⟨c, f, p, rfl, hc, hf, h, rfl⟩
  · exact K.callV0 (first := []) (cap := []) hf (h a b w) fun v w' ⟨h1, h2⟩ => by subst h1; exact hk w' h2
  · exact K.callV0 (first := []) (cap := [_]) (by kernel_rfl) (says1_r c f p a b w hc hf h) fun v w' ⟨h1, h2⟩ => by subst h1; exact hk w' h2
/-- The cells of an operation. -/
def OpV (w : World) (o : Abs.OpD) (v : Value) : Prop := ∃ u, v = .agg #[.int .i64 o.parts, .int .i64 o.takes, .int .i64 o.makes, u] ∧ DoesR w u o.does
/-- The table of operations. -/
def OpsIs (w : World) (m : Value) : Prop := ∃ r es c l, m = .map (some r) ∧ w.heap[r]? = some (.map es c) ∧ KV (Value.int .i64) es.toList l ∧
  ∀ x : Int, match Abs.opOf x with
    | some o => ∃ p, l.find? (fun p => decide (x = p.1)) = some p ∧ OpV w o p.2
    | none => l.find? (fun p => decide (x = p.1)) = none
theorem says_r (takes : Int) (f : Nat) (w : World) : Ret Try.prog F.expr_says #[.int .i64 takes, .func (.func f) #[] #[]] w
    fun v w' => (∃ c, v = .agg #[.int .i64 2, .int .i64 takes, .int .i64 1, .func (.func F.expr_says_1) #[] #[.pointer (some ⟨c, 0, none⟩)]] ∧ w'.heap[c]? = some (.cells #[.func (.func f) #[] #[]] T.func_int_int_bool)) ∧ Ext w w' := by
  refine K.start hmix E.expr_says (args := [_, _]) (Nat.le_of_ble_eq_true rfl) ?_
  dsimp only [C.expr_says,yt,yi,yb,yp,yr,ye,yc,yv,yg,ym,yw,ya,yl,yx,ys,yn]
  simp -dsimp only [LL,B9,Nat.reduceAdd,Nat.reduceEqDiff,reduceIte,reduceCtorEq,Bool.false_eq_true]
  refine K.new fun w1 c hc he1 hc1 => ?_
  simp -dsimp only [LL,B9,Nat.reduceAdd,Nat.reduceEqDiff,reduceIte,reduceCtorEq,Bool.false_eq_true]
  refine K.new fun w2 b hb he2 hc2 => ?_
  simp -dsimp only [LL,B9,Nat.reduceAdd,Nat.reduceEqDiff,reduceIte,reduceCtorEq,Bool.false_eq_true]
  refine K.bld (cs := [.int .i64 2, .int .i64 takes, .int .i64 1, .func (.func F.expr_says_1) #[] #[.pointer (some ⟨c, 0, none⟩)]]) (by simp [fillC, lay, ev_tmp, ev_const, upd_at, fr0_cons, Value.cells]) ?_
  simp -dsimp only [LL,B9,Nat.reduceAdd,Nat.reduceEqDiff,reduceIte,reduceCtorEq,Bool.false_eq_true]
  refine K.stAb hc2 rfl rfl (by simp [Value.oneCell']) fun w3 hw hc3 => ?_
  have h1 := lt_of_heap hc1
  have hne : c ≠ b := by omega
  simp -dsimp only [LL,B9,Nat.reduceAdd,Nat.reduceEqDiff,reduceIte,reduceCtorEq,Bool.false_eq_true]
  refine K.ldA (cellsAt_blk hc3) rfl ?_
  simp -dsimp only [LL,B9,Nat.reduceAdd,Nat.reduceEqDiff,reduceIte,reduceCtorEq,Bool.false_eq_true]
  exact ⟨⟨c, rfl, (hw.block c hne).trans (he2.obj hc1)⟩, hw.ext (he1.trans he2) (by have := he1.size; omega)⟩
theorem ops_r (w : World) : Ret Try.prog F.expr_ops #[] w fun v w' => OpsIs w' v ∧ Ext w w' := by
  refine K.start hmix E.expr_ops (args := []) (Nat.le_of_ble_eq_true rfl) ?_
  dsimp only [C.expr_ops,yt,yi,yb,yp,yr,ye,yc,yv,yg,ym,yw,ya,yl,yx,ys,yn]
  simp -dsimp only [LL,B9,Nat.reduceAdd,Nat.reduceEqDiff,reduceIte,reduceCtorEq,Bool.false_eq_true]
  refine K.newM fun w0 r hr he0 m0 => ?_
  simp -dsimp only [LL,B9,Nat.reduceAdd,Nat.reduceEqDiff,reduceIte,reduceCtorEq,Bool.false_eq_true]
  refine K.bld (cs := [.int .i64 1, .int .i64 1, .int .i64 1, .func (.func F.expr_ops_1) #[] #[]]) (by simp [fillC, lay, ev_tmp, ev_const, ev_func, upd_at, fr0_cons, Value.cells]) ?_
  simp -dsimp only [LL,B9,Nat.reduceAdd,Nat.reduceEqDiff,reduceIte,reduceCtorEq,Bool.false_eq_true]
  refine K.mupb m0 rfl fun w1 x1 m1 => ?_
  simp -dsimp only [LL,B9,Nat.reduceAdd,Nat.reduceEqDiff,reduceIte,reduceCtorEq,Bool.false_eq_true]
  refine K.bld (cs := [.int .i64 1, .int .i64 0, .int .i64 0, .func (.func F.expr_ops_2) #[] #[]]) (by simp [fillC, lay, ev_tmp, ev_const, ev_func, upd_at, fr0_cons, Value.cells]) ?_
  simp -dsimp only [LL,B9,Nat.reduceAdd,Nat.reduceEqDiff,reduceIte,reduceCtorEq,Bool.false_eq_true]
  refine K.mupb m1 rfl fun w2 x2 m2 => ?_
  simp -dsimp only [LL,B9,Nat.reduceAdd,Nat.reduceEqDiff,reduceIte,reduceCtorEq,Bool.false_eq_true]
  refine K.bld (cs := [.int .i64 2, .int .i64 0, .int .i64 0, .func (.func F.num_Add) #[] #[]]) (by simp [fillC, lay, ev_tmp, ev_const, ev_func, upd_at, fr0_cons, Value.cells]) ?_
  simp -dsimp only [LL,B9,Nat.reduceAdd,Nat.reduceEqDiff,reduceIte,reduceCtorEq,Bool.false_eq_true]
  refine K.mupb m2 rfl fun w3 x3 m3 => ?_
  simp -dsimp only [LL,B9,Nat.reduceAdd,Nat.reduceEqDiff,reduceIte,reduceCtorEq,Bool.false_eq_true]
  refine K.bld (cs := [.int .i64 2, .int .i64 0, .int .i64 0, .func (.func F.num_Sub) #[] #[]]) (by simp [fillC, lay, ev_tmp, ev_const, ev_func, upd_at, fr0_cons, Value.cells]) ?_
  simp -dsimp only [LL,B9,Nat.reduceAdd,Nat.reduceEqDiff,reduceIte,reduceCtorEq,Bool.false_eq_true]
  refine K.mupb m3 rfl fun w4 x4 m4 => ?_
  simp -dsimp only [LL,B9,Nat.reduceAdd,Nat.reduceEqDiff,reduceIte,reduceCtorEq,Bool.false_eq_true]
  refine K.bld (cs := [.int .i64 2, .int .i64 0, .int .i64 0, .func (.func F.num_Mul) #[] #[]]) (by simp [fillC, lay, ev_tmp, ev_const, ev_func, upd_at, fr0_cons, Value.cells]) ?_
  simp -dsimp only [LL,B9,Nat.reduceAdd,Nat.reduceEqDiff,reduceIte,reduceCtorEq,Bool.false_eq_true]
  refine K.mupb m4 rfl fun w5 x5 m5 => ?_
  have e5 : Ext w w5 := x5.ext (x4.ext (x3.ext (x2.ext (x1.ext he0 hr) hr) hr) hr) hr
  clear x1 x2 x3 x4 x5 m0 m1 m2 m3 m4
  simp -dsimp only [LL,B9,Nat.reduceAdd,Nat.reduceEqDiff,reduceIte,reduceCtorEq,Bool.false_eq_true]
  refine K.call (says_r (-1) F.expr_ops_3 _) ?_
  rintro _ v6 ⟨⟨c6, rfl, k6⟩, y6⟩
  simp -dsimp only [LL,B9,Nat.reduceAdd,Nat.reduceEqDiff,reduceIte,reduceCtorEq,Bool.false_eq_true]
  refine K.mupb (y6.obj m5) rfl fun w6 x6 m6 => ?_
  simp -dsimp only [LL,B9,Nat.reduceAdd,Nat.reduceEqDiff,reduceIte,reduceCtorEq,Bool.false_eq_true]
  refine K.call (says_r (-1) F.expr_ops_4 _) ?_
  rintro _ v7 ⟨⟨c7, rfl, k7⟩, y7⟩
  simp -dsimp only [LL,B9,Nat.reduceAdd,Nat.reduceEqDiff,reduceIte,reduceCtorEq,Bool.false_eq_true]
  refine K.mupb (y7.obj m6) rfl fun w7 x7 m7 => ?_
  simp -dsimp only [LL,B9,Nat.reduceAdd,Nat.reduceEqDiff,reduceIte,reduceCtorEq,Bool.false_eq_true]
  refine K.call (says_r 0 F.expr_ops_5 _) ?_
  rintro _ v8 ⟨⟨c8, rfl, k8⟩, y8⟩
  simp -dsimp only [LL,B9,Nat.reduceAdd,Nat.reduceEqDiff,reduceIte,reduceCtorEq,Bool.false_eq_true]
  refine K.mupb (y8.obj m7) rfl fun w8 x8 m8 => ?_
  simp -dsimp only [LL,B9,Nat.reduceAdd,Nat.reduceEqDiff,reduceIte,reduceCtorEq,Bool.false_eq_true]
  refine K.call (says_r 0 F.expr_ops_6 _) ?_
  rintro _ v9 ⟨⟨c9, rfl, k9⟩, y9⟩
  simp -dsimp only [LL,B9,Nat.reduceAdd,Nat.reduceEqDiff,reduceIte,reduceCtorEq,Bool.false_eq_true]
  refine K.mupb (y9.obj m8) rfl fun w9 x9 m9 => ?_
  simp -dsimp only [LL,B9,Nat.reduceAdd,Nat.reduceEqDiff,reduceIte,reduceCtorEq,Bool.false_eq_true]
  refine K.call (says_r 1 F.expr_ops_7 _) ?_
  rintro _ v10 ⟨⟨c10, rfl, k10⟩, y10⟩
  simp -dsimp only [LL,B9,Nat.reduceAdd,Nat.reduceEqDiff,reduceIte,reduceCtorEq,Bool.false_eq_true]
  refine K.mupb (y10.obj m9) rfl fun w10 x10 m10 => ?_
  simp -dsimp only [LL,B9,Nat.reduceAdd,Nat.reduceEqDiff,reduceIte,reduceCtorEq,Bool.false_eq_true]
  refine K.call (says_r 1 F.expr_ops_8 _) ?_
  rintro _ v11 ⟨⟨c11, rfl, k11⟩, y11⟩
  simp -dsimp only [LL,B9,Nat.reduceAdd,Nat.reduceEqDiff,reduceIte,reduceCtorEq,Bool.false_eq_true]
  refine K.mupb (y11.obj m10) rfl fun w11 x11 m11 => ?_
  simp -dsimp only [LL,B9,Nat.reduceAdd,Nat.reduceEqDiff,reduceIte,reduceCtorEq,Bool.false_eq_true]
  have ne : ∀ {w : World} {c : Nat} {es : Array MapEntry} {n : Nat} {cs : Array Value} {t : TypeId}, w.heap[r]? = some (.map es n) → w.heap[c]? = some (.cells cs t) → c ≠ r := by
    intro w c es n cs t h1 h2 e
    subst e
    rw [h1] at h2
    injection h2 with h2
    cases h2
  have a6 := (x6.block c6 (ne (y6.obj m5) k6)).trans k6
  have a7 := (x7.block c7 (ne (y7.obj m6) k7)).trans k7
  have a8 := (x8.block c8 (ne (y8.obj m7) k8)).trans k8
  have a9 := (x9.block c9 (ne (y9.obj m8) k9)).trans k9
  have a10 := (x10.block c10 (ne (y10.obj m9) k10)).trans k10
  have a11 := (x11.block c11 (ne (y11.obj m10) k11)).trans k11
  have t7 : ∀ {c : Nat} {o : Obj}, c ≠ r → w6.heap[c]? = some o → w7.heap[c]? = some o := fun hc h => (x7.block _ hc).trans (y7.obj h)
  have t8 : ∀ {c : Nat} {o : Obj}, c ≠ r → w7.heap[c]? = some o → w8.heap[c]? = some o := fun hc h => (x8.block _ hc).trans (y8.obj h)
  have t9 : ∀ {c : Nat} {o : Obj}, c ≠ r → w8.heap[c]? = some o → w9.heap[c]? = some o := fun hc h => (x9.block _ hc).trans (y9.obj h)
  have t10 : ∀ {c : Nat} {o : Obj}, c ≠ r → w9.heap[c]? = some o → w10.heap[c]? = some o := fun hc h => (x10.block _ hc).trans (y10.obj h)
  have t11 : ∀ {c : Nat} {o : Obj}, c ≠ r → w10.heap[c]? = some o → w11.heap[c]? = some o := fun hc h => (x11.block _ hc).trans (y11.obj h)
  have n6 := ne m6 a6
  have n7 := ne m7 a7
  have n8 := ne m8 a8
  have n9 := ne m9 a9
  have n10 := ne m10 a10
  replace a6 := t11 n6 (t10 n6 (t9 n6 (t8 n6 (t7 n6 a6))))
  replace a7 := t11 n7 (t10 n7 (t9 n7 (t8 n7 a7)))
  replace a8 := t11 n8 (t10 n8 (t9 n8 a8))
  replace a9 := t11 n9 (t10 n9 a9)
  replace a10 := t11 n10 a10
  have hx : Ext w w11 := x11.ext ((x10.ext ((x9.ext ((x8.ext ((x7.ext ((x6.ext (e5.trans y6) hr).trans y7) hr).trans y8) hr).trans y9) hr).trans y10) hr).trans y11) hr
  refine ⟨⟨r, _, _, [(9, _), (10, _), (11, _), (12, _), (13, _), (14, _), (15, _), (16, _), (17, _), (18, _), (19, _)], rfl, m11, rfl, fun x => ?_⟩, hx⟩
  have hd : ∀ {f : Nat} {g : Int → Int → Int × Bool}, okF Try.prog f = true → Fn2b f g → DoesR w11 (.func (.func f) #[] #[]) g := fun h1 h2 => .inl ⟨_, rfl, h1, h2⟩
  have hs : ∀ {c f : Nat} {p : Int → Int → Bool}, w11.heap[c]? = some (.cells #[.func (.func f) #[] #[]] T.func_int_int_bool) → okF Try.prog f = true → FnB f p → DoesR w11 (.func (.func F.expr_says_1) #[] #[.pointer (some ⟨c, 0, none⟩)]) fun a b => (Abs.bit (p a b), true) :=
    fun h1 h2 h3 => .inr ⟨_, _, _, rfl, h1, h2, h3, rfl⟩
  unfold Abs.opOf
  by_cases g9 : x = 9
  · subst g9; exact ⟨_, rfl, _, rfl, hd (by kernel_rfl) ops1_r⟩
  by_cases g10 : x = 10
  · subst g10; exact ⟨_, rfl, _, rfl, hd (by kernel_rfl) ops2_r⟩
  by_cases g11 : x = 11
  · subst g11; exact ⟨_, rfl, _, rfl, hd (by kernel_rfl) add_r⟩
  by_cases g12 : x = 12
  · subst g12; exact ⟨_, rfl, _, rfl, hd (by kernel_rfl) sub_r⟩
  by_cases g13 : x = 13
  · subst g13; exact ⟨_, rfl, _, rfl, hd (by kernel_rfl) mul_r⟩
  by_cases g14 : x = 14
  · subst g14; exact ⟨_, rfl, _, rfl, hs a6 (by kernel_rfl) ops3_r⟩
  by_cases g15 : x = 15
  · subst g15; exact ⟨_, rfl, _, rfl, hs a7 (by kernel_rfl) ops4_r⟩
  by_cases g16 : x = 16
  · subst g16; exact ⟨_, rfl, _, rfl, hs a8 (by kernel_rfl) ops5_r⟩
  by_cases g17 : x = 17
  · subst g17; exact ⟨_, rfl, _, rfl, hs a9 (by kernel_rfl) ops6_r⟩
  by_cases g18 : x = 18
  · subst g18; exact ⟨_, rfl, _, rfl, hs a10 (by kernel_rfl) ops7_r⟩
  by_cases g19 : x = 19
  · subst g19; exact ⟨_, rfl, _, rfl, hs a11 (by kernel_rfl) ops8_r⟩
  simp [g9, g10, g11, g12, g13, g14, g15, g16, g17, g18, g19]
/-- What a look-up gives. -/
theorem OpsIs.look {w : World} {m : Value} (h : OpsIs w m) (x : Int) : ∃ es r, MapOf w m es ∧ Instr.findNow (.int .i64) (.int .i64 x) es.toList 0 = some r ∧
    match Abs.opOf x with
    | some o => ∃ i v, r = some (i, v) ∧ OpV w o v
    | none => r = none := by
  obtain ⟨r, es, c, l, rfl, hh, hkv, hx⟩ := h
  obtain ⟨q, h1, h2⟩ := findNow_kv (same_int .i64 .i64) x es.toList l 0 hkv
  refine ⟨es, q, .inr ⟨r, c, rfl, hh⟩, h1, ?_⟩
  have := hx x
  cases ho : Abs.opOf x with
  | none =>
    simp only [ho] at this ⊢
    rw [this] at h2
    cases q with
    | none => rfl
    | some q => simp at h2
  | some o =>
    simp only [ho] at this ⊢
    obtain ⟨p, hp, hv⟩ := this
    rw [hp] at h2
    cases q with
    | none => simp at h2
    | some q => simp at h2; exact ⟨q.1, q.2, rfl, h2 ▸ hv⟩
theorem OpsIs.mod {A : Nat → Prop} {w w' : World} {m : Value} (h : OpsIs w m) (hm : Mod A w w') (hA : ∀ k o, w.heap[k]? = some o → (∃ es c, o = .map es c) ∨ (∃ cs, o = .cells cs T.func_int_int_bool) → ¬ A k) : OpsIs w' m := by
  obtain ⟨r, es, c, l, rfl, hh, hkv, hx⟩ := h
  refine ⟨r, es, c, l, rfl, hm.obj (hA r _ hh (.inl ⟨_, _, rfl⟩)) hh, hkv, fun x => ?_⟩
  have := hx x
  cases ho : Abs.opOf x with
  | none => simpa only [ho] using this
  | some o =>
    simp only [ho] at this ⊢
    obtain ⟨p, hp, u, hv, hd⟩ := this
    refine ⟨p, hp, u, hv, ?_⟩
    rcases hd with hd | ⟨c, f, p, h1, h2, h3⟩
    · exact .inl hd
    · exact .inr ⟨c, f, p, h1, hm.obj (hA c _ h2 (.inr ⟨_, rfl⟩)) h2, h3⟩
theorem OpsIs.ext {w w' : World} {m : Value} (h : OpsIs w m) (he : Ext w w') : OpsIs w' m := h.mod (A := fun _ => False) he.mod fun _ _ _ _ h => h
theorem parts_r (x : Int) (m : Value) (w : World) (h : OpsIs w m) : Ret Try.prog F.expr_parts #[.int .i64 x, m] w fun v w' => v = .int .i64 (Abs.nparts x) ∧ Ext w w' := by
  refine K.start hmix E.expr_parts (args := [_, _]) (Nat.le_of_ble_eq_true rfl) ?_
  dsimp only [C.expr_parts,yt,yi,yb,yp,yr,ye,yc,yv,yg,ym,yw,ya,yl,yx,ys,yn]
  obtain ⟨es, r, h2, h3, h4⟩ := h.look x
  simp -dsimp only [B9]
  simp -dsimp only [LL,Nat.reduceAdd,Nat.reduceEqDiff,reduceIte,reduceCtorEq,Bool.false_eq_true]
  refine K.cut (fun S' w' => S' 0 = .int .i64 x ∧ S' 1 = m ∧ w' = w ∧ x ≠ 3 ∧ ¬ (1 ≤ x ∧ x ≤ 8)) ?_ ?_
  · simp -dsimp only [LL,B9,Nat.reduceAdd,Nat.reduceEqDiff,reduceIte,reduceCtorEq,Bool.false_eq_true]
    refine K.cond (fun h1 => ?_) (fun h1 => ?_)
    · simp -dsimp only [LL,B9,Nat.reduceAdd,Nat.reduceEqDiff,reduceIte,reduceCtorEq,Bool.false_eq_true]
      exact ⟨by simp [Abs.nparts, h1], Ext.refl _⟩
    simp -dsimp only [LL,B9,Nat.reduceAdd,Nat.reduceEqDiff,reduceIte,reduceCtorEq,Bool.false_eq_true]
    refine K.cond (fun h5 => ?_) (fun h5 => ?_)
    · simp -dsimp only [LL,B9,Nat.reduceAdd,Nat.reduceEqDiff,reduceIte,reduceCtorEq,Bool.false_eq_true]
      refine K.cond (fun h6 => ?_) (fun h6 => ?_)
      · simp -dsimp only [LL,B9,Nat.reduceAdd,Nat.reduceEqDiff,reduceIte,reduceCtorEq,Bool.false_eq_true]
        exact ⟨by simp [Abs.nparts, h1, h5, h6], Ext.refl _⟩
      · simp -dsimp only [LL,B9,Nat.reduceAdd,Nat.reduceEqDiff,reduceIte,reduceCtorEq,Bool.false_eq_true]
        refine ⟨trivial, trivial, trivial, h1, by omega⟩
    · simp -dsimp only [LL,B9,Nat.reduceAdd,Nat.reduceEqDiff,reduceIte,reduceCtorEq,Bool.false_eq_true]
      refine ⟨trivial, trivial, trivial, h1, by omega⟩
  · rintro S w' hS ⟨s0, s1, rfl, x3, x8⟩
    simp -dsimp only [LL,B9,Nat.reduceAdd,Nat.reduceEqDiff,reduceIte,reduceCtorEq,Bool.false_eq_true,s0, s1]
    refine K.lkp h2 h3 ?_
    cases ho : Abs.opOf x with
    | none =>
      simp only [ho] at h4
      subst h4
      simp only [lkpV, Option.map_none, Option.getD_none, Option.isSome_none, if_true]
      have hp : Abs.nparts x = -1 := by
        unfold Abs.opOf at ho
        unfold Abs.nparts
        repeat' split
        all_goals first | rfl | (exfalso; omega) | skip
        all_goals
          exfalso
          (repeat' split at ho)
          all_goals first | (cases ho; done) | omega
      simp -dsimp only [LL,B9,Nat.reduceAdd,Nat.reduceEqDiff,reduceIte,reduceCtorEq,Bool.false_eq_true]
      refine K.newst (vs := [.int .i64 0, .int .i64 0, .int .i64 0, .nilFunc]) (fun _ => by simp -dsimp only [LL,B9,Nat.reduceAdd,Nat.reduceEqDiff,reduceIte,reduceCtorEq,Bool.false_eq_true]) rfl rfl (by simp [Value.oneCell']) fun w1 b hb he hc => ?_
      simp -dsimp only [LL,B9,Nat.reduceAdd,Nat.reduceEqDiff,reduceIte,reduceCtorEq,Bool.false_eq_true]
      rw [hp]
      (refine ⟨?_, ?_⟩ <;> first | trivial | rfl | (repeat' first | assumption | exact Ext.refl _ | refine Ext.trans ?_ (by assumption)))
    | some o =>
      simp only [ho] at h4
      obtain ⟨i, v, rfl, u, rfl, hd⟩ := h4
      simp only [lkpV, Option.map_some, Option.getD_some, Option.isSome_some, if_true]
      simp -dsimp only [LL,B9,Nat.reduceAdd,Nat.reduceEqDiff,reduceIte,reduceCtorEq,Bool.false_eq_true]
      refine K.newst (vs := [.int .i64 o.parts, .int .i64 o.takes, .int .i64 o.makes, u]) (fun _ => by simp -dsimp only [LL,B9,Nat.reduceAdd,Nat.reduceEqDiff,reduceIte,reduceCtorEq,Bool.false_eq_true]) rfl rfl (by rcases hd with ⟨f, rfl, _⟩ | ⟨c, f, p, rfl, _⟩ <;> simp [Value.oneCell']) fun w1 b hb he hc => ?_
      (repeat' first
 | assumption
 | exact Ext.refl _
 | refine Ext.trans ?_ (by assumption)
 | refine K.wrap (by omega) ?_
 | refine K.ldb (by assumption) ?_ rfl ?_
 | refine K.ldb0 (by assumption) ?_ rfl ?_
 | refine K.ldE (by assumption) ?_ (by omega) rfl ?_
 | refine K.ldE0 (by assumption) ?_ (by omega) rfl ?_
 | refine K.ldAE (by assumption) ?_ (by omega) rfl ?_
 | refine K.iaC (by omega) ?_
 | refine K.condT (by first | assumption | omega) ?_
 | refine K.condF (by first | assumption | omega) ?_
 | refine K.condbT (by assumption) ?_
 | refine K.condbF (by assumption) ?_
 | simp -dsimp only [LL,B9,Nat.reduceAdd,Nat.reduceEqDiff,reduceIte,reduceCtorEq,Bool.false_eq_true])
      rw [(Abs.opOf_parts ho).1]
      (refine ⟨?_, ?_⟩ <;> first | trivial | rfl | (repeat' first | assumption | exact Ext.refl _ | refine Ext.trans ?_ (by assumption)))
end Go.Proofs.Yteaboocppcbkiaa
