/- The environment of the law on fits: walked. -/
import Derived.Test.YteaboocppcbkiaaFitB
set_option linter.all false
set_option maxRecDepth 4000
set_option maxHeartbeats 6400000
namespace Go.Proofs.Yteaboocppcbkiaa
open Go Go.RowKit Lite
/-- What stands while the environment is filled: the three boxes, the four rows. -/
structure EnvSt (w w' : World) (b2 b4 b6 : Nat) (cs : List Value) (r0 r1 r2 r3 : Sl) : Prop where
  ext : Ext w w'
  h2 : w'.heap[b2]? = some (.cells cs.toArray T.api_Scope)
  h4 : w'.heap[b4]? = some (.cells #[.slice none 0 0, .slice none 0 0, .slice none 0 0, .slice none 0 0, .int .i64 0] T.api_Env)
  h6 : w'.heap[b6]? = some (.cells #[.slice r0.1 r0.2.1 r0.2.2, .slice r1.1 r1.2.1 r1.2.2, .slice r2.1 r2.2.1 r2.2.2, .slice r3.1 r3.2.1 r3.2.2, .int .i64 0] T.api_Env)
theorem EnvSt.then {w w' w'' : World} {b2 b4 b6 : Nat} {cs : List Value} {r0 r1 r2 r3 : Sl} (h : EnvSt w w' b2 b4 b6 cs r0 r1 r2 r3) (he : Ext w' w'') : EnvSt w w'' b2 b4 b6 cs r0 r1 r2 r3 :=
  ⟨h.ext.trans he, he.obj h.h2, he.obj h.h4, he.obj h.h6⟩
/-- A row of one's own has grown. -/
theorem EnvSt.grown {w w' w'' : World} {b2 b4 b6 : Nat} {cs : List Value} {r0 r1 r2 r3 : Sl} {α : Type} {enc : α → List Value} {base sz : Nat} {e : TypeId} {v : Value} {xs : List α} (h : EnvSt w w' b2 b4 b6 cs r0 r1 r2 r3) (hg : w'.grownBy w'' v.ownBlock) (ho : OwR enc e sz base w' v xs)
    (hb : w.heap.size ≤ base) (h1 : T.api_Scope ≠ e) (h2 : T.api_Env ≠ e) : EnvSt w w'' b2 b4 b6 cs r0 r1 r2 r3 :=
  ⟨Ext.grown h.ext hg fun k hk => Nat.le_trans hb (ho.lt k hk).1, grown_other hg ho h.h2 h1, grown_other hg ho h.h4 h2, grown_other hg ho h.h6 h2⟩
/-- A row is put into its place. -/
theorem EnvSt.put {w w' w'' : World} {b2 b4 b6 : Nat} {cs : List Value} {r0 r1 r2 r3 s0 s1 s2 s3 : Sl} (h : EnvSt w w' b2 b4 b6 cs r0 r1 r2 r3) (hw : Wr b6 w' w'')
    (hc : w''.heap[b6]? = some (.cells #[.slice s0.1 s0.2.1 s0.2.2, .slice s1.1 s1.2.1 s1.2.2, .slice s2.1 s2.2.1 s2.2.2, .slice s3.1 s3.2.1 s3.2.2, .int .i64 0] T.api_Env))
    (hb : w.heap.size ≤ b6) (h26 : b2 ≠ b6) (h46 : b4 ≠ b6) : EnvSt w w'' b2 b4 b6 cs s0 s1 s2 s3 :=
  ⟨hw.ext h.ext hb, hw.obj h.h2 h26, hw.obj h.h4 h46, hc⟩
/-- What stood ahead of the loop is as it was, whatever the loop's own row does. -/
theorem KeepRows.grown {α : Type} {enc : α → List Value} {sz : Nat} {e : TypeId} {ws w' w'' : World} {v : Value} {xs : List α} (h : KeepRows ws w') (hg : w'.grownBy w'' v.ownBlock) (ho : OwR enc e sz ws.heap.size w' v xs) : KeepRows ws w'' := fun k cur hk => by
  have h1 := h k cur hk
  have hlt : k < ws.heap.size := by rcases hk with hk | hk <;> exact lt_of_heap hk
  rw [← h1]
  refine hg.block k (by rcases hk with hk | hk <;> exact lt_of_heap (h1.trans hk)) fun e' => ?_
  have := (ho.lt k e'.symm).1
  omega
theorem KeepRows.refl (w : World) : KeepRows w w := fun _ _ _ => rfl
theorem rows_keep {w w' : World} {xs : List Sl} {ls : List (List Int)} (hk : KeepRows w w') (h : ∀ (i : Nat) (y : Sl) (l : List Int), xs[i]? = some y → ls[i]? = some l → RowI w (slv y) l) :
    ∀ (i : Nat) (y : Sl) (l : List Int), xs[i]? = some y → ls[i]? = some l → RowI w' (slv y) l := fun i y l a b => (h i y l a b).keep hk
theorem rowRows_of {w : World} {base : Nat} {sv : Sl} {xs : List Sl} {ls : List (List Int)} (ho : OwR encV T.sl_int 1 base w (slv sv) xs) (hl : xs.length = ls.length) (h : ∀ (i : Nat) (y : Sl) (l : List Int), xs[i]? = some y → ls[i]? = some l → RowI w (slv y) l) : RowRows w (slv sv) ls := by
  refine ⟨_, own_rowV ho, by rw [List.length_map]; exact hl, fun i y l a b => ?_⟩
  rw [List.getElem?_map] at a
  cases q : xs[i]? with
  | none => rw [q] at a; cases a
  | some z =>
    rw [q] at a
    injection a with a
    subst a
    exact h i z l q b
theorem own_wr {α : Type} {enc : α → List Value} {base sz b : Nat} {e t : TypeId} {w w' : World} {v : Value} {xs : List α} {c : Array Value} (ho : OwR enc e sz base w v xs) (hw : Wr b w w') (hb : w.heap[b]? = some (.cells c t)) (ht : t ≠ e) : OwR enc e sz base w' v xs :=
  World.ownsRow.kept (row := some b) ho ⟨hw.os, hw.tape, hw.output, by rw [hw.size]; exact Nat.le_refl _, fun k _ hk => hw.block k (fun e => hk (by rw [e]))⟩ (by
    rcases ho.2 with ⟨rfl, _⟩ | ⟨g, cap, c2, rfl, _, hgg, _⟩
    · exact .inl rfl
    · refine .inr fun e' => ?_
      simp only [Value.ownBlock, Option.some.injEq] at e'
      subst e'
      exact ht (block_type hb hgg))
theorem getElem?_snoc {α : Type} {l : List α} {a m : α} {i : Nat} (h : (l ++ [a])[i]? = some m) : (i < l.length ∧ l[i]? = some m) ∨ (i = l.length ∧ a = m) := by
  rw [List.getElem?_append] at h
  by_cases hi : i < l.length
  · rw [if_pos hi] at h; exact .inl ⟨hi, h⟩
  · rw [if_neg hi] at h
    right
    generalize q : i - l.length = j at h
    cases j with
    | zero => simp at h; exact ⟨by omega, h⟩
    | succ j => simp at h
theorem encV_one (y : Sl) : ∀ u ∈ encV y, u.oneCell' = true := by
  intro u hu
  simp only [encV, List.mem_cons, List.not_mem_nil, or_false] at hu
  subst hu; rfl
theorem encI_one (y : Int) : ∀ u ∈ encI y, u.oneCell' = true := by
  intro u hu
  simp only [encI, List.mem_cons, List.not_mem_nil, or_false] at hu
  subst hu; rfl
/-- A row just filled. -/
theorem rowI_new {w : World} {b n : Nat} {l : List Int} (h : w.heap[b]? = some (.cells (l.map (Value.int .i64)).toArray T.int)) (hl : l.length = n) (hn : n ≤ 50) (hg : ∀ z ∈ l, Abs.inI z) : RowI w (.slice (some ⟨b, 0, none⟩) n n) l := by
  refine ⟨.inr ⟨b, n, _, by rw [hl], by omega, Nat.le_trans hn (by decide), h, fun j z hj => ?_⟩, hg⟩
  simp [hj]
theorem cellsOf_ok {x : Abs.Var} {s : Abs.Scope} (hs : ∀ y ∈ s.scalars, 1 ≤ y.size ∧ y.size ≤ 50) (h : (Abs.cellsOf x s).2.2 = true) : 1 ≤ (Abs.cellsOf x s).1 ∧ (Abs.cellsOf x s).1 ≤ 50 ∧ 0 ≤ (Abs.cellsOf x s).2.1 ∧ (Abs.cellsOf x s).2.1 ≤ 50 := by
  unfold Abs.cellsOf at h ⊢
  by_cases q : x.scalar < 0 ∨ (s.scalars.length : Int) < x.scalar ∨ x.over < 0 ∨ (s.scalars.length : Int) < x.over
  · rw [if_pos q] at h; cases h
  · rw [if_neg q] at h ⊢
    simp only [decide_eq_true_eq] at h
    refine ⟨h.1, h.2, ?_⟩
    simp only
    by_cases q2 : 0 < x.scalar
    · rw [if_pos q2]
      have := Abs.ssize_pos hs (k := x.scalar) (by omega) (by omega)
      omega
    · rw [if_neg q2]; omega
/-- What the function tells. -/
def EnvTold (s : Abs.Scope) (v : Value) (w' : World) : Prop :=
  ∃ (x0 x1 x2 x3 : Sl) (z : Int) (ok : Bool), v = .tuple #[.agg #[.slice x0.1 x0.2.1 x0.2.2, .slice x1.1 x1.2.1 x1.2.2, .slice x2.1 x2.2.1 x2.2.2, .slice x3.1 x3.2.1 x3.2.2, .int .i64 z], .bool ok] ∧ (ok = true → ∃ x, Abs.EnvIs w' [.slice x0.1 x0.2.1 x0.2.2, .slice x1.1 x1.2.1 x1.2.2, .slice x2.1 x2.2.1 x2.2.2, .slice x3.1 x3.2.1 x3.2.2, .int .i64 z] x ∧ Abs.Filled s x)
theorem env_r (cs : List Value) (s : Abs.Scope) (vr : Value) (raw : List Int) (w : World) (h : Abs.ScopeIs w cs s) (hr : IntsB w vr raw) (h100 : s.vars.length + s.locals.length + s.chans.length + s.procs.length ≤ 100) :
    Ret Try.prog F.lariatlaw10_env #[.agg cs.toArray, vr] w fun v w' => EnvTold s v w' ∧ Ext w w' := by
  obtain ⟨a0, c0, a1, c1, a2, c2, a3, c3, a4, c4, rfl, h0, h1, h2, h3, h4, l0, l1, l2, l3, l4⟩ := h.form
  obtain ⟨oa, cap, rfl, hlen⟩ := hr.form
  refine K.start hmix E.lariatlaw10_env (args := [_, _]) (Nat.le_of_ble_eq_true rfl) ?_; dsimp only [C.lariatlaw10_env,yt,yi,yb,yp,yr,ye,yc,yv,yg,ym,yw,ya,yl,yx,ys,yn]
  refine Sg ?_
  intro w2 b2 hb2 he2 hc2
  refine Sg ?_
  intro w4 b4 hb4 he4 hc4
  refine Sg ?_
  intro w6 b6 hb6 he6 hc6
  have st6 : EnvSt w w6 b2 b4 b6 _ (none, 0, 0) (none, 0, 0) (none, 0, 0) (none, 0, 0) := ⟨(he2.trans he4).trans he6, (he4.trans he6).obj hc2, he6.obj hc4, hc6⟩
  have h24 : b2 < b4 := Nat.lt_of_lt_of_le (lt_of_heap hc2) hb4
  have h46 : b4 < b6 := Nat.lt_of_lt_of_le (lt_of_heap hc4) hb6
  have hwb6 : w.heap.size ≤ b6 := by omega
  have no : ∀ (w5 w9 : World) (x0 x1 x2 x3 : Sl), Ext w w5 → Wr b4 w5 w9 → EnvTold s (.tuple #[.agg #[.slice x0.1 x0.2.1 x0.2.2, .slice x1.1 x1.2.1 x1.2.2, .slice x2.1 x2.2.1 x2.2.2, .slice x3.1 x3.2.1 x3.2.2, .int .i64 0], .bool false]) w9 ∧ Ext w w9 := fun w5 w9 x0 x1 x2 x3 he hw =>
    ⟨⟨x0, x1, x2, x3, 0, false, rfl, by simp⟩, hw.ext he (by omega)⟩
  refine Sg ?_
  refine K.forG 25 s.scalars.length [1, 2, 4, 6, 23, 24] (fun _ => []) () (fun k _ w' => Ext w6 w' ∧ ∀ j (hj : j < s.scalars.length), j < k → 1 ≤ s.scalars[j].size ∧ s.scalars[j].size ≤ 50) (by first | trivial | rfl | exact ⟨rfl, trivial⟩ | (simp -dsimp only [LL,slots_nil,slots_cons,keepV_nil,keepV_cons,has_nil,has_cons,Nat.reduceAdd,Nat.reduceEqDiff,reduceIte,and_self]; done) | (simp -dsimp only [LL,slots_nil,slots_cons,keepV_nil,keepV_cons,has_nil,has_cons,Nat.reduceAdd,Nat.reduceEqDiff,reduceIte,and_self]; exact ⟨rfl, trivial⟩)) (by first | trivial | rfl | exact ⟨rfl, trivial⟩ | (simp -dsimp only [LL,slots_nil,slots_cons,keepV_nil,keepV_cons,has_nil,has_cons,Nat.reduceAdd,Nat.reduceEqDiff,reduceIte,and_self]; done) | (simp -dsimp only [LL,slots_nil,slots_cons,keepV_nil,keepV_cons,has_nil,has_cons,Nat.reduceAdd,Nat.reduceEqDiff,reduceIte,and_self]; exact ⟨rfl, trivial⟩)) ⟨Ext.refl _, fun j _ h => absurd h (Nat.not_lt_zero _)⟩ ?_
  rintro k _ S w7 hk ⟨he7, hg7⟩
  have st7 := st6.then he7
  have k2 := st7.h2
  have k4 := st7.h4
  have k6 := st7.h6
  have e7 := st7.ext
  refine Sg ?_
  refine K.cond (fun g1 => ?_) (fun g1 => ?_)
  · have hk' : k < s.scalars.length := by omega
    obtain ⟨a, rfl⟩ := h0.addr (by omega)
    refine Sg ?_
    intro w8 b8 hb8 he8 hc8
    have e8 := e7.trans he8
    have k4' := he8.obj k4
    have k6' := he8.obj k6
    refine Sg ?_
    refine K.cond (fun g2 => ?_) (fun g2 => ?_)
    · refine Sg ?_
      intro w9 hw9 hc9
      refine Sg ?_
      exact no w8 w9 (none, 0, 0) (none, 0, 0) (none, 0, 0) (none, 0, 0) e8 hw9
    refine Sg ?_
    refine K.cond (fun g3 => ?_) (fun g3 => ?_)
    · refine Sg ?_
      intro w9 hw9 hc9
      refine Sg ?_
      exact no w8 w9 (none, 0, 0) (none, 0, 0) (none, 0, 0) (none, 0, 0) e8 hw9
    refine Sg ?_
    refine ⟨hk', by first | trivial | rfl, (), trivial, he7.trans he8, fun j hj hjk => ?_⟩
    by_cases hjj : j = k
    · subst hjj; exact ⟨by omega, by omega⟩
    · exact hg7 j hj (by omega)
  have hsz : ∀ y ∈ s.scalars, 1 ≤ y.size ∧ y.size ≤ 50 := fun y hy => by
    obtain ⟨j, hj, rfl⟩ := List.mem_iff_getElem.1 hy
    exact hg7 j hj (by omega)
  clear hg7
  have big : (101 : Nat) ≤ maxLen := by decide
  have wsz : w.heap.size ≤ w7.heap.size := by have := e7.size; omega
  refine Sg ?_
  refine K.forG 42 s.vars.length [1, 2, 4, 6, 40, 41] (fun _ => []) () (fun k _ w' => ∃ (sv : Sl) (xs : List Sl) (ls : List (List Int)), EnvSt w w' b2 b4 b6 _ sv (none, 0, 0) (none, 0, 0) (none, 0, 0) ∧ w7.heap.size ≤ w'.heap.size ∧ OwR encV T.sl_int 1 w7.heap.size w' (slv sv) xs ∧ xs.length = ls.length ∧ ls.length = k ∧
      (∀ (i : Nat) (y : Sl) (l : List Int), xs[i]? = some y → ls[i]? = some l → RowI w' (slv y) l) ∧ (∀ (i : Nat) (x : Abs.Var) (l : List Int), s.vars[i]? = some x → ls[i]? = some l → (Abs.cellsOf x s).2.2 = true ∧ (l.length : Int) = (Abs.cellsOf x s).1 ∧ ∀ z ∈ l, Abs.good (Abs.cellsOf x s).2.1 z)) (by first | trivial | rfl | exact ⟨rfl, trivial⟩ | (simp -dsimp only [LL,slots_nil,slots_cons,keepV_nil,keepV_cons,has_nil,has_cons,Nat.reduceAdd,Nat.reduceEqDiff,reduceIte,and_self]; done) | (simp -dsimp only [LL,slots_nil,slots_cons,keepV_nil,keepV_cons,has_nil,has_cons,Nat.reduceAdd,Nat.reduceEqDiff,reduceIte,and_self]; exact ⟨rfl, trivial⟩)) (by first | trivial | rfl | exact ⟨rfl, trivial⟩ | (simp -dsimp only [LL,slots_nil,slots_cons,keepV_nil,keepV_cons,has_nil,has_cons,Nat.reduceAdd,Nat.reduceEqDiff,reduceIte,and_self]; done) | (simp -dsimp only [LL,slots_nil,slots_cons,keepV_nil,keepV_cons,has_nil,has_cons,Nat.reduceAdd,Nat.reduceEqDiff,reduceIte,and_self]; exact ⟨rfl, trivial⟩))
    ⟨(none, 0, 0), [], [], st7, Nat.le_refl _, OwR.nil _ _ _ _ _, rfl, rfl, fun i y l h => by simp at h, fun i x l _ h => by simp at h⟩ ?_
  rintro k _ S w8 hk ⟨sv, xs, ls, st8, hz8, ho8, hl8, hk8, hr8, hg8⟩
  have k2 := st8.h2
  have k4 := st8.h4
  have k6 := st8.h6
  have e8 := st8.ext
  refine Sg ?_
  refine K.cond (fun g1 => ?_) (fun g1 => ?_)
  · have hk' : k < s.vars.length := by omega
    obtain ⟨a, rfl⟩ := h1.addr (by omega)
    refine Sg ?_
    intro w9 b9 hb9 he9 hc9
    refine Sg ?_
    intro w10 hw10 hc10
    have he10 := hw10.ext he9 hb9
    have st10 := st8.then he10
    have k2 := st10.h2
    have e10 := st10.ext
    refine Sg ?_
    refine K.call (fcells_r s.vars[k] _ s w10 (h.ext e10)) ?_
    rintro _ w11 ⟨rfl, he11⟩
    have st11 := st10.then he11
    have k2 := st11.h2
    have k4 := st11.h4
    have k6 := st11.h6
    have e11 := st11.ext
    have he811 := he10.trans he11
    refine Sg ?_
    refine K.condb (fun g2 => ?_) (fun g2 => ?_)
    rotate_left
    · refine Sg ?_
      intro w12 hw12 hc12
      refine Sg ?_
      exact no w11 w12 sv (none, 0, 0) (none, 0, 0) (none, 0, 0) e11 hw12
    obtain ⟨q1, q2, q3, q4⟩ := cellsOf_ok hsz g2
    obtain ⟨n, hn⟩ := Int.eq_ofNat_of_zero_le (show 0 ≤ (Abs.cellsOf s.vars[k] s).1 by omega)
    rw [hn]
    refine Sg ?_
    intro w12 he12
    have st12 := st11.then he12
    have k6 := st12.h6
    have e12 := st12.ext
    refine Sg ?_
    refine K.call (fill_r n (Abs.cellsOf s.vars[k] s).2.1 k _ raw w12 (by omega) ⟨q3, q4⟩ (by omega) (hr.ext e12)) ?_
    rintro _ w13 ⟨⟨l, bf, rfl, hcf, hlf, hgf⟩, he13⟩
    refine ⟨he13, ?_⟩
    have st13 := st12.then he13
    have he813 := (he811.trans he12).trans he13
    have hyf : RowI w13 (.slice (some ⟨bf, 0, none⟩) n n) l := rowI_new hcf hlf (by omega) fun z hz => Abs.good_inI (hgf z hz) q4
    refine Sg ?_
    intro w14 b14 hb14 he14 hc14
    refine ⟨he13.trans he14, ?_⟩
    have st14 := st13.then he14
    have he814 := he813.trans he14
    have ho14 := ho8.ext he814
    have hz14 : w7.heap.size ≤ w14.heap.size := by have := he814.size; omega
    have hr14 := rows_keep (KeepRows.ext he814) hr8
    have hy14 := hyf.keep (KeepRows.ext he14)
    refine Sg ?_
    have q5 : (xs.length + 1) * 24 ≤ 140737488355328 := by omega
    have q6 : xs.length + 1 ≤ maxLen := by omega
    refine K.appO (b := 24) (ys := [((some ⟨bf, 0, none⟩, n, n) : Sl)]) ho14 (fun _ => rfl) (cellsAt_blk hc14) rfl encV_one q5 q6 hz14 fun v15 w15 ho15 hg15 => ?_
    have st15 := st14.grown hg15 ho14 wsz (by decide) (by decide)
    have hz15 : w7.heap.size ≤ w15.heap.size := by have := hg15.size; omega
    have k6 := st15.h6
    obtain ⟨oa15, cap15, rfl, _⟩ := ho15.form
    refine Sg ?_
    intro w16 hw16 hc16
    have st16 := st15.put (s0 := (oa15, (xs ++ [((some ⟨bf, 0, none⟩, n, n) : Sl)]).length, cap15)) (s1 := (none, 0, 0)) (s2 := (none, 0, 0)) (s3 := (none, 0, 0)) hw16 hc16 hwb6 (by omega) (by omega)
    have ho16 : OwR encV T.sl_int 1 w7.heap.size w16 (slv (oa15, (xs ++ [((some ⟨bf, 0, none⟩, n, n) : Sl)]).length, cap15)) (xs ++ [((some ⟨bf, 0, none⟩, n, n) : Sl)]) := own_wr ho15 hw16 k6 (by decide)
    refine Sg ?_
    refine ⟨hk', by first | trivial | rfl, (), trivial, (oa15, (xs ++ [((some ⟨bf, 0, none⟩, n, n) : Sl)]).length, cap15), xs ++ [((some ⟨bf, 0, none⟩, n, n) : Sl)], ls ++ [l], st16, by rw [hw16.size]; exact hz15, ho16, by simp [hl8], by simp [hk8], rows_keep (KeepRows.wr hw16 k6) (rows_grow hr14 hl8 hy14 hg15 ho14), fun i x m hx hm => ?_⟩
    rcases getElem?_snoc hm with ⟨hi, hm⟩ | ⟨hi, rfl⟩
    · exact hg8 i x m hx hm
    · rw [show i = k by omega, List.getElem?_eq_getElem hk'] at hx
      injection hx with hx
      subst hx
      exact ⟨g2, by omega, hgf⟩
  have hv8 := rowRows_of ho8 hl8 hr8
  have hlv : ls.length = s.vars.length := by omega
  clear hr8 ho8 hz8 hl8
  have wsz8 : w.heap.size ≤ w8.heap.size := by have := e8.size; omega
  refine Sg ?_
  refine K.forG 71 s.locals.length [1, 2, 4, 6, 69, 70] (fun _ => []) () (fun k _ w' => ∃ (sw : Sl) (ls : List Int), EnvSt w w' b2 b4 b6 _ sv (none, 0, 0) sw (none, 0, 0) ∧ w8.heap.size ≤ w'.heap.size ∧ KeepRows w8 w' ∧ OwR encI T.int 1 w8.heap.size w' (slv sw) ls ∧ ls.length = k ∧
      (∀ z ∈ ls, Abs.inI z) ∧ (∀ (i : Nat) (x : Abs.Var) (z : Int), s.locals[i]? = some x → ls[i]? = some z → (Abs.cellsOf x s).2.2 = true ∧ Abs.good (Abs.cellsOf x s).2.1 z)) (by first | trivial | rfl | exact ⟨rfl, trivial⟩ | (simp -dsimp only [LL,slots_nil,slots_cons,keepV_nil,keepV_cons,has_nil,has_cons,Nat.reduceAdd,Nat.reduceEqDiff,reduceIte,and_self]; done) | (simp -dsimp only [LL,slots_nil,slots_cons,keepV_nil,keepV_cons,has_nil,has_cons,Nat.reduceAdd,Nat.reduceEqDiff,reduceIte,and_self]; exact ⟨rfl, trivial⟩)) (by first | trivial | rfl | exact ⟨rfl, trivial⟩ | (simp -dsimp only [LL,slots_nil,slots_cons,keepV_nil,keepV_cons,has_nil,has_cons,Nat.reduceAdd,Nat.reduceEqDiff,reduceIte,and_self]; done) | (simp -dsimp only [LL,slots_nil,slots_cons,keepV_nil,keepV_cons,has_nil,has_cons,Nat.reduceAdd,Nat.reduceEqDiff,reduceIte,and_self]; exact ⟨rfl, trivial⟩))
    ⟨(none, 0, 0), [], st8, Nat.le_refl _, KeepRows.refl _, OwR.nil _ _ _ _ _, rfl, fun z hz => by simp at hz, fun i x l _ h => by simp at h⟩ ?_
  rintro k _ S w9 hk ⟨sw, zs, st9, hz9, hkr9, ho9, hk9, hi9, hg9⟩
  have k2 := st9.h2
  have k4 := st9.h4
  have k6 := st9.h6
  have e9 := st9.ext
  refine Sg ?_
  refine K.cond (fun g1 => ?_) (fun g1 => ?_)
  · have hk' : k < s.locals.length := by omega
    obtain ⟨a, rfl⟩ := h4.addr (by omega)
    refine Sg ?_
    intro w10 b10 hb10 he10 hc10
    refine Sg ?_
    intro w11 hw11 hc11
    have he11 := hw11.ext he10 hb10
    have st11 := st9.then he11
    have k2 := st11.h2
    have e11 := st11.ext
    refine Sg ?_
    refine K.call (fcells_r s.locals[k] _ s w11 (h.ext e11)) ?_
    rintro _ w12 ⟨rfl, he12⟩
    have st12 := st11.then he12
    have k2 := st12.h2
    have k4 := st12.h4
    have k6 := st12.h6
    have e12 := st12.ext
    have he912 := he11.trans he12
    refine Sg ?_
    refine K.condb (fun g2 => ?_) (fun g2 => ?_)
    rotate_left
    · refine Sg ?_
      intro w13 hw13 hc13
      refine Sg ?_
      exact no w12 w13 sv (none, 0, 0) sw (none, 0, 0) e12 hw13
    obtain ⟨q1, q2, q3, q4⟩ := cellsOf_ok hsz g2
    refine Sg ?_
    intro w13 he13
    have st13 := st12.then he13
    have k6 := st13.h6
    have e13 := st13.ext
    refine Sg ?_
    refine K.call (fill_r 1 (Abs.cellsOf s.locals[k] s).2.1 (3 * (k : Int)) _ raw w13 (by omega) ⟨q3, q4⟩ (by omega) (hr.ext e13)) ?_
    rintro _ w14 ⟨⟨l, bf, rfl, hcf, hlf, hgf⟩, he14⟩
    obtain ⟨z, rfl⟩ := List.length_eq_one_iff.1 hlf
    refine ⟨he14, ?_⟩
    have st14 := st13.then he14
    have he914 := (he912.trans he13).trans he14
    have hcf1 : w14.heap[bf]? = some (.cells #[.int .i64 z] T.int) := hcf
    refine Sg ?_
    refine K.ian 0 rfl (by decide) ?_
    rw [Nat.zero_mul, Lite.add_zero]
    refine Sg ?_
    refine ⟨he14, ?_⟩
    refine Sg ?_
    intro w15 b15 hb15 he15 hc15
    refine ⟨he14.trans he15, ?_⟩
    have st15 := st14.then he15
    have he915 := he914.trans he15
    have ho15 := ho9.ext he915
    have hz15 : w8.heap.size ≤ w15.heap.size := by have := he915.size; omega
    have hkr15 : KeepRows w8 w15 := hkr9.trans (KeepRows.ext he915)
    refine Sg ?_
    have q5 : (zs.length + 1) * 8 ≤ 140737488355328 := by omega
    have q6 : zs.length + 1 ≤ maxLen := by omega
    refine K.appO (b := 8) (ys := [z]) ho15 (fun _ => rfl) (cellsAt_blk hc15) rfl encI_one q5 q6 hz15 fun v16 w16 ho16 hg16 => ?_
    have st16 := st15.grown hg16 ho15 wsz8 (by decide) (by decide)
    have hz16 : w8.heap.size ≤ w16.heap.size := by have := hg16.size; omega
    have hkr16 := hkr15.grown hg16 ho15
    have k6 := st16.h6
    obtain ⟨oa16, cap16, rfl, _⟩ := ho16.form
    refine Sg ?_
    intro w17 hw17 hc17
    have st17 := st16.put (s0 := sv) (s1 := (none, 0, 0)) (s2 := (oa16, (zs ++ [z]).length, cap16)) (s3 := (none, 0, 0)) hw17 hc17 hwb6 (by omega) (by omega)
    have ho17 : OwR encI T.int 1 w8.heap.size w17 (slv (oa16, (zs ++ [z]).length, cap16)) (zs ++ [z]) := own_wr ho16 hw17 k6 (by decide)
    have hz : Abs.good (Abs.cellsOf s.locals[k] s).2.1 z := hgf z (by simp)
    refine Sg ?_
    refine ⟨hk', by first | trivial | rfl, (), trivial, (oa16, (zs ++ [z]).length, cap16), zs ++ [z], st17, by rw [hw17.size]; exact hz16, hkr16.trans (KeepRows.wr hw17 k6), ho17, by simp [hk9], fun u hu => ?_, fun i x m hx hm => ?_⟩
    · rcases List.mem_append.1 hu with hu | hu
      · exact hi9 u hu
      · simp at hu; subst hu; exact Abs.good_inI hz q4
    rcases getElem?_snoc hm with ⟨hi, hm⟩ | ⟨hi, rfl⟩
    · exact hg9 i x m hx hm
    · rw [show i = k by omega, List.getElem?_eq_getElem hk'] at hx
      injection hx with hx
      subst hx
      exact ⟨g2, hz⟩
  have hv9 := hv8.keep hkr9
  have hw9 := own_rowI ho9 hi9
  have hlw : zs.length = s.locals.length := by omega
  clear hv8 hkr9 ho9 hi9 hz9 hk9
  have wsz9 : w.heap.size ≤ w9.heap.size := by have := e9.size; omega
  refine Sg ?_
  refine K.forG 102 s.chans.length [1, 2, 4, 6, 100, 101] (fun _ => []) () (fun k _ w' => ∃ (sx : Sl) (ls : List Int), EnvSt w w' b2 b4 b6 _ sv sx sw (none, 0, 0) ∧ w9.heap.size ≤ w'.heap.size ∧ KeepRows w9 w' ∧ OwR encI T.int 1 w9.heap.size w' (slv sx) ls ∧ ls.length = k ∧ (∀ z ∈ ls, Abs.good 4 z)) (by first | trivial | rfl | exact ⟨rfl, trivial⟩ | (simp -dsimp only [LL,slots_nil,slots_cons,keepV_nil,keepV_cons,has_nil,has_cons,Nat.reduceAdd,Nat.reduceEqDiff,reduceIte,and_self]; done) | (simp -dsimp only [LL,slots_nil,slots_cons,keepV_nil,keepV_cons,has_nil,has_cons,Nat.reduceAdd,Nat.reduceEqDiff,reduceIte,and_self]; exact ⟨rfl, trivial⟩)) (by first | trivial | rfl | exact ⟨rfl, trivial⟩ | (simp -dsimp only [LL,slots_nil,slots_cons,keepV_nil,keepV_cons,has_nil,has_cons,Nat.reduceAdd,Nat.reduceEqDiff,reduceIte,and_self]; done) | (simp -dsimp only [LL,slots_nil,slots_cons,keepV_nil,keepV_cons,has_nil,has_cons,Nat.reduceAdd,Nat.reduceEqDiff,reduceIte,and_self]; exact ⟨rfl, trivial⟩))
    ⟨(none, 0, 0), [], st9, Nat.le_refl _, KeepRows.refl _, OwR.nil _ _ _ _ _, rfl, fun z hz => by simp at hz⟩ ?_
  rintro k _ S w10 hk ⟨sx, xs, st10, hz10, hkr10, ho10, hk10, hg10⟩
  have k2 := st10.h2
  have k4 := st10.h4
  have k6 := st10.h6
  have e10 := st10.ext
  refine Sg ?_
  refine K.cond (fun g1 => ?_) (fun g1 => ?_)
  · have hk' : k < s.chans.length := by omega
    obtain ⟨a, rfl⟩ := h2.addr (by omega)
    refine Sg ?_
    intro w13 he13
    have st13 := st10.then he13
    have k6 := st13.h6
    have e13 := st13.ext
    refine Sg ?_
    refine K.call (fill_r 1 4 (5 * (k : Int)) _ raw w13 (by omega) ⟨by omega, by omega⟩ (by omega) (hr.ext e13)) ?_
    rintro _ w14 ⟨⟨l, bf, rfl, hcf, hlf, hgf⟩, he14⟩
    obtain ⟨z, rfl⟩ := List.length_eq_one_iff.1 hlf
    refine ⟨he14, ?_⟩
    have st14 := st13.then he14
    have he914 := he13.trans he14
    have hcf1 : w14.heap[bf]? = some (.cells #[.int .i64 z] T.int) := hcf
    refine Sg ?_
    refine K.ian 0 rfl (by decide) ?_
    rw [Nat.zero_mul, Lite.add_zero]
    refine Sg ?_
    refine ⟨he14, ?_⟩
    refine Sg ?_
    intro w15 b15 hb15 he15 hc15
    refine ⟨he14.trans he15, ?_⟩
    have st15 := st14.then he15
    have he915 := he914.trans he15
    have ho15 := ho10.ext he915
    have hz15 : w9.heap.size ≤ w15.heap.size := by have := he915.size; omega
    have hkr15 : KeepRows w9 w15 := hkr10.trans (KeepRows.ext he915)
    refine Sg ?_
    have q5 : (xs.length + 1) * 8 ≤ 140737488355328 := by omega
    have q6 : xs.length + 1 ≤ maxLen := by omega
    refine K.appO (b := 8) (ys := [z]) ho15 (fun _ => rfl) (cellsAt_blk hc15) rfl encI_one q5 q6 hz15 fun v16 w16 ho16 hg16 => ?_
    have st16 := st15.grown hg16 ho15 wsz9 (by decide) (by decide)
    have hz16 : w9.heap.size ≤ w16.heap.size := by have := hg16.size; omega
    have hkr16 := hkr15.grown hg16 ho15
    have k6 := st16.h6
    obtain ⟨oa16, cap16, rfl, _⟩ := ho16.form
    refine Sg ?_
    intro w17 hw17 hc17
    have st17 := st16.put (s0 := sv) (s1 := (oa16, (xs ++ [z]).length, cap16)) (s2 := sw) (s3 := (none, 0, 0)) hw17 hc17 hwb6 (by omega) (by omega)
    have ho17 : OwR encI T.int 1 w9.heap.size w17 (slv (oa16, (xs ++ [z]).length, cap16)) (xs ++ [z]) := own_wr ho16 hw17 k6 (by decide)
    refine Sg ?_
    refine ⟨hk', by first | trivial | rfl, (), trivial, (oa16, (xs ++ [z]).length, cap16), xs ++ [z], st17, by rw [hw17.size]; exact hz16, hkr16.trans (KeepRows.wr hw17 k6), ho17, by simp [hk10], fun u hu => ?_⟩
    rcases List.mem_append.1 hu with hu | hu
    · exact hg10 u hu
    · simp at hu; subst hu; exact hgf _ (by simp)
  have hv10 := hv9.keep hkr10
  have hw10 := hw9.keep hkr10
  have hx10 := own_rowI ho10 fun z hz => Abs.good_inI (hg10 z hz) (by omega)
  have hlx : xs.length = s.chans.length := by omega
  clear hv9 hw9 hkr10 ho10 hz10 hk10
  have wsz10 : w.heap.size ≤ w10.heap.size := by have := e10.size; omega
  refine Sg ?_
  refine K.forG 120 s.procs.length [1, 2, 4, 6, 118, 119] (fun _ => []) () (fun k _ w' => ∃ (sy : Sl) (ys : List Sl) (ls : List (List Int)), EnvSt w w' b2 b4 b6 _ sv sx sw sy ∧ w10.heap.size ≤ w'.heap.size ∧ KeepRows w10 w' ∧ OwR encV T.sl_int 1 w10.heap.size w' (slv sy) ys ∧ ys.length = ls.length ∧ ls.length = k ∧
      (∀ (i : Nat) (y : Sl) (l : List Int), ys[i]? = some y → ls[i]? = some l → RowI w' (slv y) l) ∧ (∀ (i : Nat) (x : Abs.Proc) (l : List Int), s.procs[i]? = some x → ls[i]? = some l → (l.length : Int) = max x.locs 0 ∧ ∀ z ∈ l, Abs.good 6 z)) (by first | trivial | rfl | exact ⟨rfl, trivial⟩ | (simp -dsimp only [LL,slots_nil,slots_cons,keepV_nil,keepV_cons,has_nil,has_cons,Nat.reduceAdd,Nat.reduceEqDiff,reduceIte,and_self]; done) | (simp -dsimp only [LL,slots_nil,slots_cons,keepV_nil,keepV_cons,has_nil,has_cons,Nat.reduceAdd,Nat.reduceEqDiff,reduceIte,and_self]; exact ⟨rfl, trivial⟩)) (by first | trivial | rfl | exact ⟨rfl, trivial⟩ | (simp -dsimp only [LL,slots_nil,slots_cons,keepV_nil,keepV_cons,has_nil,has_cons,Nat.reduceAdd,Nat.reduceEqDiff,reduceIte,and_self]; done) | (simp -dsimp only [LL,slots_nil,slots_cons,keepV_nil,keepV_cons,has_nil,has_cons,Nat.reduceAdd,Nat.reduceEqDiff,reduceIte,and_self]; exact ⟨rfl, trivial⟩))
    ⟨(none, 0, 0), [], [], st10, Nat.le_refl _, KeepRows.refl _, OwR.nil _ _ _ _ _, rfl, rfl, fun i y l h => by simp at h, fun i x l _ h => by simp at h⟩ ?_
  rintro k _ S w11 hk ⟨sy, ys, ms, st11, hz11, hkr11, ho11, hl11, hk11, hr11, hg11⟩
  have k2 := st11.h2
  have k4 := st11.h4
  have k6 := st11.h6
  have e11 := st11.ext
  refine Sg ?_
  refine K.cond (fun g1 => ?_) (fun g1 => ?_)
  · have hk' : k < s.procs.length := by omega
    obtain ⟨a, rfl⟩ := h3.addr (by omega)
    obtain ⟨_, vv, vc, hp, hpv, hpc⟩ := Abs.RProc.ext _ _ _ _ e11 (h3.at k hk')
    obtain ⟨ov, cv, rfl, _⟩ := hpv.form
    obtain ⟨oc, cc, rfl, _⟩ := hpc.form
    refine Sg ?_
    refine K.ldA hp rfl ?_
    refine Sg ?_
    intro w12 b12 hb12 he12 hc12
    refine Sg ?_
    intro w13 hw13 hc13
    have he13 := hw13.ext he12 hb12
    have st13 := st11.then he13
    have k4 := st13.h4
    have k6 := st13.h6
    have e13 := st13.ext
    refine Sg ?_
    refine K.cond (fun g2 => ?_) (fun g2 => ?_)
    · refine Sg ?_
      intro w14 hw14 hc14
      refine Sg ?_
      exact no w13 w14 sv sx sw sy e13 hw14
    refine Sg ?_
    intro w14 he14
    have st14 := st13.then he14
    have k6 := st14.h6
    have e14 := st14.ext
    refine Sg ?_
    obtain ⟨n, hn⟩ := Int.eq_ofNat_of_zero_le (show 0 ≤ max s.procs[k].locs 0 by omega)
    rw [hn]
    refine K.call (fill_r n 6 (7 * (k : Int)) _ raw w14 (by omega) ⟨by omega, by omega⟩ (by omega) (hr.ext e14)) ?_
    rintro _ w15 ⟨⟨l, bf, rfl, hcf, hlf, hgf⟩, he15⟩
    refine ⟨he15, ?_⟩
    have st15 := st14.then he15
    have he1115 := (he13.trans he14).trans he15
    have hyf : RowI w15 (.slice (some ⟨bf, 0, none⟩) n n) l := rowI_new hcf hlf (by omega) fun z hz => Abs.good_inI (hgf z hz) (by omega)
    refine Sg ?_
    intro w16 b16 hb16 he16 hc16
    refine ⟨he15.trans he16, ?_⟩
    have st16 := st15.then he16
    have he1116 := he1115.trans he16
    have ho16 := ho11.ext he1116
    have hz16 : w10.heap.size ≤ w16.heap.size := by have := he1116.size; omega
    have hkr16 : KeepRows w10 w16 := hkr11.trans (KeepRows.ext he1116)
    have hr16 := rows_keep (KeepRows.ext he1116) hr11
    have hy16 := hyf.keep (KeepRows.ext he16)
    refine Sg ?_
    have q5 : (ys.length + 1) * 24 ≤ 140737488355328 := by omega
    have q6 : ys.length + 1 ≤ maxLen := by omega
    refine K.appO (b := 24) (ys := [((some ⟨bf, 0, none⟩, n, n) : Sl)]) ho16 (fun _ => rfl) (cellsAt_blk hc16) rfl encV_one q5 q6 hz16 fun v17 w17 ho17 hg17 => ?_
    have st17 := st16.grown hg17 ho16 wsz10 (by decide) (by decide)
    have hz17 : w10.heap.size ≤ w17.heap.size := by have := hg17.size; omega
    have hkr17 := hkr16.grown hg17 ho16
    have k6 := st17.h6
    obtain ⟨oa17, cap17, rfl, _⟩ := ho17.form
    refine Sg ?_
    intro w18 hw18 hc18
    have st18 := st17.put (s0 := sv) (s1 := sx) (s2 := sw) (s3 := (oa17, (ys ++ [((some ⟨bf, 0, none⟩, n, n) : Sl)]).length, cap17)) hw18 hc18 hwb6 (by omega) (by omega)
    have ho18 : OwR encV T.sl_int 1 w10.heap.size w18 (slv (oa17, (ys ++ [((some ⟨bf, 0, none⟩, n, n) : Sl)]).length, cap17)) (ys ++ [((some ⟨bf, 0, none⟩, n, n) : Sl)]) := own_wr ho17 hw18 k6 (by decide)
    refine Sg ?_
    refine ⟨hk', by first | trivial | rfl, (), trivial, (oa17, (ys ++ [((some ⟨bf, 0, none⟩, n, n) : Sl)]).length, cap17), ys ++ [((some ⟨bf, 0, none⟩, n, n) : Sl)], ms ++ [l], st18, by rw [hw18.size]; exact hz17, hkr17.trans (KeepRows.wr hw18 k6), ho18, by simp [hl11], by simp [hk11], rows_keep (KeepRows.wr hw18 k6) (rows_grow hr16 hl11 hy16 hg17 ho16), fun i x m hx hm => ?_⟩
    rcases getElem?_snoc hm with ⟨hi, hm⟩ | ⟨hi, rfl⟩
    · exact hg11 i x m hx hm
    · rw [show i = k by omega, List.getElem?_eq_getElem hk'] at hx
      injection hx with hx
      subst hx
      exact ⟨by omega, hgf⟩
  have hv11 := hv10.keep hkr11
  have hw11 := hw10.keep hkr11
  have hx11 := hx10.keep hkr11
  have hy11 := rowRows_of ho11 hl11 hr11
  have hly : ms.length = s.procs.length := by omega
  clear hv10 hw10 hx10 hkr11 ho11 hr11 hz11 hl11
  have fin : ∀ (z : Int) (w' w'' : World), (1 ≤ s.self → s.self ≤ s.scalars.length → 1 ≤ z ∧ z ≤ Abs.ssize s s.self) → Abs.inI z → Ext w w' → KeepRows w11 w' → (∃ c, w'.heap[b4]? = some (.cells c T.api_Env)) → Wr b4 w' w'' →
      EnvTold s (.tuple #[.agg #[.slice sv.1 sv.2.1 sv.2.2, .slice sx.1 sx.2.1 sx.2.2, .slice sw.1 sw.2.1 sw.2.2, .slice sy.1 sy.2.1 sy.2.2, .int .i64 z], .bool true]) w'' ∧ Ext w w'' := by
    intro z w' w'' hz hiz hew hkr ⟨c, hc⟩ hw
    have hk2 : KeepRows w11 w'' := hkr.trans (KeepRows.wr hw hc)
    exact ⟨⟨sv, sx, sw, sy, z, true, rfl, fun _ => ⟨⟨ls, xs, zs, ms, z⟩, ⟨⟨_, _, _, _, rfl, (hv11.keep hk2).rows, (hx11.keep hk2).ints, (hw11.keep hk2).ints, (hy11.keep hk2).rows, hiz⟩⟩, ⟨hsz, ⟨hlv, hg8⟩, ⟨hlw, hg9⟩, ⟨hlx, hg10⟩, ⟨hly, hg11⟩, hz⟩⟩⟩, hw.ext hew (by omega)⟩
  refine Sg ?_
  refine K.cond (fun g5 => ?_) (fun g5 => ?_)
  rotate_left
  · refine Sg ?_
    intro w12 hw12 hc12
    refine Sg ?_
    exact fin 0 w11 w12 (fun h _ => absurd h g5) ⟨by decide, by decide⟩ e11 (KeepRows.refl _) ⟨_, st11.h4⟩ hw12
  refine Sg ?_
  refine K.cond (fun g6 => ?_) (fun g6 => ?_)
  rotate_left
  · refine Sg ?_
    intro w12 hw12 hc12
    refine Sg ?_
    exact fin 0 w11 w12 (fun _ h => absurd h g6) ⟨by decide, by decide⟩ e11 (KeepRows.refl _) ⟨_, st11.h4⟩ hw12
  obtain ⟨j, hj⟩ := Int.eq_ofNat_of_zero_le (show 0 ≤ s.self - 1 by omega)
  have hj' : j < s.scalars.length := by omega
  obtain ⟨a, rfl⟩ := h0.addr (by omega)
  refine Sg ?_
  intro w12 he12
  have st12 := st11.then he12
  have k2 := st12.h2
  have k6 := st12.h6
  have e12 := st12.ext
  refine Sg ?_
  rw [hj]
  refine Sg ?_
  rw [hj]
  have hq := hsz _ (List.getElem_mem hj')
  refine Sg ?_
  refine K.call (fill_r 1 (s.scalars[j].size) 11 _ raw w12 (by omega) ⟨by omega, by omega⟩ (by omega) (hr.ext e12)) ?_
  rintro _ w13 ⟨⟨l, bf, rfl, hcf, hlf, hgf⟩, he13⟩
  obtain ⟨z, rfl⟩ := List.length_eq_one_iff.1 hlf
  refine ⟨he13, ?_⟩
  have st13 := st12.then he13
  have k6 := st13.h6
  have hcf1 : w13.heap[bf]? = some (.cells #[.int .i64 z] T.int) := hcf
  have hz := hgf z (by simp)
  unfold Abs.good at hz
  rw [if_pos (by omega)] at hz
  refine Sg ?_
  refine K.ian 0 rfl (by decide) ?_
  rw [Nat.zero_mul, Lite.add_zero]
  refine Sg ?_
  refine ⟨he13, ?_⟩
  refine Sg ?_
  have r1 : 0 ≤ z.tmod s.scalars[j].size := Int.tmod_nonneg _ hz.1
  have r2 : z.tmod s.scalars[j].size < s.scalars[j].size := Int.tmod_lt_of_pos _ (by omega)
  refine K.rem (by omega) ?_
  generalize z.tmod s.scalars[j].size = r at r1 r2
  refine Sg ?_
  intro w14 hw14 hc14
  have e14 := hw14.ext st13.ext hwb6
  have k4 := hw14.obj st13.h4 (by omega)
  have hkr14 : KeepRows w11 w14 := (KeepRows.ext (he12.trans he13)).trans (KeepRows.wr hw14 k6)
  refine Sg ?_
  intro w15 hw15 hc15
  refine Sg ?_
  refine fin _ w14 w15 (fun _ _ => ⟨by omega, ?_⟩) ⟨by omega, by omega⟩ e14 hkr14 ⟨_, k4⟩ hw15
  rw [Abs.ssize_get g5 g6]
  have : (s.self - 1).toNat = j := by omega
  simp only [this]
  omega
end Go.Proofs.Yteaboocppcbkiaa
