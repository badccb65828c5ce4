/- Texts joined: UseA SrtL UseB ExprP Lite17 ExprA ExprB ExprC ExprD ExprE ExprF Rep3. -/
import Derived.Test.YtfdohkdifdemeaaQc
import Derived.Test.YtfdohkdifdemeaaQd
import Derived.Shelf.SlGeneric
import Derived.Shelf.SlSortCmp.WholeK
import Derived.Shelf.SlSortCmp.NoneTotal
import Derived.Test.YtfdohkdifdemeaaChecked
set_option linter.all false
section
/- Uses: a row of nodes without those that are as the one ahead (slices.Compact). -/
set_option maxRecDepth 8000
set_option maxHeartbeats 6400000
namespace Abs
open Go
theorem comp_snoc : ∀ (l : List Node) (x y : Node), comp (l ++ [x, y]) = if x.op = y.op ∧ x.n = y.n then comp (l ++ [x]) else comp (l ++ [x]) ++ [y]
  | [], x, y => by
    by_cases h : x.op = y.op ∧ x.n = y.n
    · have : x = y := node_ext h.1 h.2
      subst this
      simp [comp]
    · simp [comp, h]
  | [a], x, y => by
    have ih := comp_snoc [] x y
    simp only [List.nil_append, List.cons_append] at ih ⊢
    unfold comp
    rw [ih]
    by_cases h : a.op = x.op ∧ a.n = x.n
    · simp only [if_pos h]
    · simp only [if_neg h]
      by_cases h2 : x.op = y.op ∧ x.n = y.n
      · simp [h2, comp]
      · simp [h2, comp]
  | a :: b :: l, x, y => by
    have ih := comp_snoc (b :: l) x y
    simp only [List.cons_append] at ih ⊢
    unfold comp
    rw [ih]
    by_cases h : a.op = b.op ∧ a.n = b.n
    · simp only [if_pos h]
    · simp only [if_neg h]
      by_cases h2 : x.op = y.op ∧ x.n = y.n
      · simp only [if_pos h2]
      · simp only [if_neg h2, List.cons_append]
theorem comp_take {l : List Node} {n : Nat} (h1 : 1 ≤ n) (h2 : n < l.length) : comp (l.take (n + 1)) = if l[n - 1].op = l[n].op ∧ l[n - 1].n = l[n].n then comp (l.take n) else comp (l.take n) ++ [l[n]] := by
  obtain ⟨k, rfl⟩ : ∃ k, n = k + 1 := ⟨n - 1, by omega⟩
  have e1 : l.take (k + 1) = l.take k ++ [l[k]] := List.take_succ_eq_append_getElem (by omega)
  have e2 : l.take (k + 1 + 1) = l.take k ++ [l[k], l[k + 1]] := by rw [List.take_succ_eq_append_getElem h2, e1, List.append_assoc]; rfl
  rw [e2, comp_snoc, e1]
  rfl
theorem comp_le : ∀ l : List Node, (comp l).length ≤ l.length
  | [] => Nat.le_refl _
  | [x] => Nat.le_refl _
  | x :: y :: r => by
    have := comp_le (y :: r)
    unfold comp
    split
    · simp only [List.length_cons] at this ⊢; omega
    · simp only [List.length_cons] at this ⊢; omega
theorem comp_one {l : List Node} (h : l.length < 2) : comp l = l := by
  match l, h with
  | [], _ => rfl
  | [x], _ => rfl
  | x :: y :: r, h => simp at h; omega
theorem comp_take1 {l : List Node} : comp (l.take 1) = l.take 1 := comp_one (by rw [List.length_take]; omega)
end Abs
namespace Lite
open Go Go.RowKit
theorem setAll_off : ∀ (cs : List Value) (w : World) (b o i : Nat) (cur : Array Value) (e : TypeId), w.heap[b]? = some (.cells cur e) → o + i + cs.length ≤ cur.size →
    ∃ cur', (setAll w ⟨b, o, none⟩ cs i).heap[b]? = some (.cells cur' e) ∧ cur'.size = cur.size ∧ (∀ j, j < o + i ∨ o + i + cs.length ≤ j → cur'[j]? = cur[j]?) ∧ ∀ j (h : j < cs.length), cur'[o + i + j]? = some cs[j]
  | [], w, b, o, i, cur, e, hb, _ => ⟨cur, hb, rfl, fun _ _ => rfl, fun j h => absurd h (Nat.not_lt_zero _)⟩
  | c :: cs, w, b, o, i, cur, e, hb, hl => by
    have hj : o + i < cur.size := by simp at hl; omega
    have h1 := setCell_blk hb hj c
    have ea : Addr.add ⟨b, 0, none⟩ (o + i) = Addr.add ⟨b, o, none⟩ i := by rw [add_eq, add_eq, Nat.zero_add]
    rw [ea] at h1
    obtain ⟨cur', k1, k2, k3, k4⟩ := setAll_off cs _ b o (i + 1) _ e h1 (by simp at hl ⊢; omega)
    refine ⟨cur', k1, by simpa using k2, fun j hj2 => ?_, fun j h => ?_⟩
    · rw [k3 j (by simp at hj2 ⊢; omega), Array.getElem?_set_ne _ (by simp at hj2; omega)]
    · cases j with
      | zero =>
        rw [Nat.add_zero, k3 (o + i) (by omega), Array.getElem?_set_self]
        rfl
      | succ j =>
        have := k4 j (by simpa using h)
        rw [show o + i + (j + 1) = o + (i + 1) + j from by omega, this]
        rfl
end Lite
namespace Go.Proofs.Ytfdohkdifdemeaa
open Go Go.RowKit Lite
theorem cell_blk1 {w : World} {b j : Nat} {c : Array Value} {t : TypeId} {v : Value} (h : w.heap[b]? = some (.cells c t)) (hj : c[j]? = some v) : w.cell? ⟨b, j, none⟩ = some v := by
  simp [World.cell?, h, hj]
/-- A row of nodes at a block's begin. -/
structure NRow (w : World) (b : Nat) (l : List Abs.Node) : Prop where
  ex : ∃ cur, w.heap[b]? = some (.cells cur T.api_Node) ∧ 2 * l.length ≤ cur.size ∧ ∀ i (h : i < l.length), cur[2 * i]? = some (.int .i64 l[i].op) ∧ cur[2 * i + 1]? = some (.int .i64 l[i].n)
theorem NRow.mod {w w' : World} {b : Nat} {l : List Abs.Node} {A : Nat → Prop} (h : NRow w b l) (hm : Mod A w w') (hA : ¬ A b) : NRow w' b l := by
  obtain ⟨cur, h1, h2, h3⟩ := h.ex
  exact ⟨cur, hm.obj hA h1, h2, h3⟩
theorem NRow.ext {w w' : World} {b : Nat} {l : List Abs.Node} (h : NRow w b l) (he : Ext w w') : NRow w' b l := by
  obtain ⟨cur, h1, h2, h3⟩ := h.ex
  exact ⟨cur, he.obj h1, h2, h3⟩
theorem NRow.at_ {w : World} {b : Nat} {l : List Abs.Node} (h : NRow w b l) {i : Nat} (hi : i < l.length) : CellsAt w ⟨b, 2 * i, none⟩ l[i].enc := by
  obtain ⟨cur, h1, h2, h3⟩ := h.ex
  have e : (⟨b, 2 * i, none⟩ : Addr) = Addr.add ⟨b, 0, none⟩ (2 * i) := by rw [add_eq, Nat.zero_add]
  intro j v hj
  obtain ⟨k1, k2⟩ := h3 i hi
  rw [e, add_eq, add_eq, Nat.zero_add]
  match j, hj with
  | 0, hj =>
    have : v = .int .i64 l[i].op := by simpa [Abs.Node.enc] using hj.symm
    subst this
    exact cell_blk1 h1 k1
  | 1, hj =>
    have : v = .int .i64 l[i].n := by simpa [Abs.Node.enc] using hj.symm
    subst this
    exact cell_blk1 h1 k2
  | n + 2, hj => simp [Abs.Node.enc] at hj
theorem NRow.take {w : World} {b : Nat} {l : List Abs.Node} (h : NRow w b l) (k : Nat) : NRow w b (l.take k) := by
  obtain ⟨cur, h1, h2, h3⟩ := h.ex
  refine ⟨cur, h1, by rw [List.length_take]; omega, fun i hi => ?_⟩
  rw [List.length_take] at hi
  have := h3 i (by omega)
  simpa using this
theorem NRow.slr {w : World} {b c : Nat} {l : List Abs.Node} (h : NRow w b l) (hc : l.length ≤ c) (hm : c ≤ maxLen) (ho : ∀ x ∈ l, x.ok) : Abs.Nodes w (.slice (some ⟨b, 0, none⟩) l.length c) l :=
  ⟨_, _, rfl, hc, hm, fun _ => rfl, fun a ha i hi => by
    injection ha with ha; subst ha
    have := h.at_ hi
    rw [show (⟨b, 2 * i, none⟩ : Addr) = Addr.add ⟨b, 0, none⟩ (i * 2) from by rw [add_eq, Nat.zero_add, Nat.mul_comm]] at this
    exact ⟨this, ho _ (List.getElem_mem hi)⟩⟩
theorem NRow.slrF {w : World} {b c : Nat} {l : List Abs.Node} (h : NRow w b l) (hc : l.length ≤ c) (hm : c ≤ maxLen) : SlR 2 (Flat Abs.Node.enc) w (.slice (some ⟨b, 0, none⟩) l.length c) l :=
  ⟨_, _, rfl, hc, hm, fun _ => rfl, fun a ha i hi => by
    injection ha with ha; subst ha
    have := h.at_ hi
    rw [show (⟨b, 2 * i, none⟩ : Addr) = Addr.add ⟨b, 0, none⟩ (i * 2) from by rw [add_eq, Nat.zero_add, Nat.mul_comm]] at this
    exact this⟩
theorem NRow.set {w : World} {b i : Nat} {l : List Abs.Node} (h : NRow w b l) (hi : i < l.length) (x : Abs.Node) : NRow (setAll w ⟨b, 2 * i, none⟩ x.enc 0) b (l.set i x) := by
  obtain ⟨cur, h1, h2, h3⟩ := h.ex
  obtain ⟨cur', k1, k2, k3, k4⟩ := setAll_off x.enc w b (2 * i) 0 cur _ h1 (by simp [Abs.Node.enc]; omega)
  refine ⟨cur', k1, by rw [List.length_set, k2]; exact h2, fun j hj => ?_⟩
  rw [List.length_set] at hj
  have a0 := k4 0 (by simp [Abs.Node.enc])
  have a1 := k4 1 (by simp [Abs.Node.enc])
  by_cases e : i = j
  · subst e
    rw [List.getElem_set_self]
    simp only [Nat.add_zero, Abs.Node.enc] at a0 a1
    exact ⟨a0, a1⟩
  · rw [List.getElem_set_ne e, k3 _ (by simp [Abs.Node.enc]; omega), k3 _ (by simp [Abs.Node.enc]; omega)]
    exact h3 j hj
theorem NRow.cut {w : World} {b k : Nat} {l : List Abs.Node} {zs : List Value} (h : NRow w b l) (hz : 2 * k + zs.length ≤ 2 * l.length) : NRow (setAll w ⟨b, 2 * k, none⟩ zs 0) b (l.take k) := by
  obtain ⟨cur, h1, h2, h3⟩ := h.ex
  obtain ⟨cur', k1, k2, k3, _⟩ := setAll_off zs w b (2 * k) 0 cur _ h1 (by omega)
  refine ⟨cur', k1, by rw [List.length_take, k2]; omega, fun j hj => ?_⟩
  rw [List.length_take] at hj
  rw [List.getElem_take, k3 _ (by omega), k3 _ (by omega)]
  exact h3 j (by omega)
theorem zero_run {P : Program} {ty : TypeId} {z : Value} (h : (P.info? ty).bind (·.zero) = some z) (w : World) : (zeroValue ty).run P w = .ok z w := by
  cases hi : P.info? ty with
  | none => rw [hi] at h; cases h
  | some i =>
    rw [hi] at h
    have h2 : i.zero = some z := h
    simp [zeroValue, run_info hi, h2]
theorem nd_one (x : Abs.Node) : ∀ c ∈ x.enc.toArray.toList, c.oneCell' = true := by simp [Abs.Node.enc, Value.oneCell']
theorem NRow.free {w : World} {b : Nat} {l : List Abs.Node} (h : NRow w b l) {j : Nat} (hj : j < 2 * l.length) : (∃ old, w.cell? ⟨b, j, none⟩ = some old) ∧ w.frozen? ⟨b, j, none⟩ = false := by
  obtain ⟨cur, h1, h2, _⟩ := h.ex
  exact ⟨⟨cur[j]'(by omega), cell_blk1 h1 (Array.getElem?_eq_getElem (by omega))⟩, by simp [World.frozen?, h1]⟩
theorem K.stNd {w : World} {b i : Nat} {l : List Abs.Node} {x : Abs.Node} {a : Addr} {KW : World → Prop} {t} (h : NRow w b l) (ha : a = ⟨b, 2 * i, none⟩) (hi : i < l.length) (hk : ∀ w1, Wr b w w1 → NRow w1 b (l.set i x) → KW w1) :
    StAVCh 2 (.pointer (some a)) (.agg x.enc.toArray) w KW t := by
  subst ha
  refine K.stA rfl (fun j hj => ?_) (nd_one x) (hk _ (Wr.setAll _ w ⟨b, 2 * i, none⟩ 0) (h.set hi x))
  rw [add_eq]
  exact h.free (by omega)
/-- What clear does to the end of a row. -/
theorem K.clrNd {S : Fr} {w : World} {b k n cap : Nat} {l : List Abs.Node} {x : Operand} {oa : Option Addr} {KK : Value → World → Prop} {ty : TypeId} {t} (h : NRow w b l) (hx : ev S x = .slice oa n cap) (hn : k + n = l.length) (ha : 0 < n → oa = some ⟨b, 2 * k, none⟩)
    (hk : ∀ v w1, Mod (fun i => i = b) w w1 → NRow w1 b (l.take k) → KK v w1) : RawVCh Try.prog (.call ⟨.builtin .clear, #[x], #[T.sl_api_Node]⟩) ty S w KK t := by
  have hz : ∀ w : World, (zeroValue T.api_Node).run Try.prog w = .ok (.agg #[.int .i64 0, .int .i64 0]) w := zero_run (by kernel_rfl)
  have hu : Try.prog.underlying T.sl_api_Node = some (.slice T.api_Node) := by kernel_rfl
  cases n with
  | zero =>
    refine K.raw (v := .tuple #[]) (w' := w) ?_ (hk _ _ (Mod.refl _ _) (h.take k))
    cases oa <;> simp [execOp, resolve, invoke, builtin, hx, Builtin.clear_, run_underlying hu]
  | succ n =>
    obtain rfl := ha (by omega)
    refine K.raw (v := .tuple #[]) (w' := setAll w ⟨b, 2 * k, none⟩ (Builtin.zeroCells #[.int .i64 0, .int .i64 0] (n + 1)).toList 0) ?_ (hk _ _ ((Wr.setAll _ w ⟨b, 2 * k, none⟩ 0).mod rfl) (h.cut ?_))
    · have hs := run_storeAll Try.prog ⟨b, 2 * k, none⟩ (Builtin.zeroCells #[.int .i64 0, .int .i64 0] (n + 1)).toList 0 w (fun j hj => ?_) ?_
      · simp [execOp, resolve, invoke, builtin, hx, Builtin.clear_, run_underlying hu, hz, Value.cells, hs]
      · rw [add_eq]
        exact h.free (by simp [Builtin.zeroCells] at hj; omega)
      · intro c hc
        simp only [Builtin.zeroCells, Array.toList_map, List.mem_map] at hc
        obtain ⟨i, _, rfl⟩ := hc
        show ((#[Value.int .i64 0, .int .i64 0] : Array Value)[i % 2]!).oneCell' = true
        rcases Nat.mod_two_eq_zero_or_one i with e | e <;> rw [e] <;> rfl
    · simp [Builtin.zeroCells]; omega
theorem conf2 (x y : Int) : conf [.i, .i] [.int .i64 x, .int .i64 y] := ⟨⟨_, rfl⟩, ⟨_, rfl⟩, trivial⟩
theorem enc_eq {x y : Abs.Node} : x.enc = y.enc ↔ x.op = y.op ∧ x.n = y.n := by simp [Abs.Node.enc]
theorem compact_r (b c : Nat) (l : List Abs.Node) (w : World) (h : NRow w b l) (hc : l.length ≤ c) (hm : c ≤ maxLen) :
    Ret Try.prog F.slices_Compact_sl_api_Node_api_Node #[.slice (some ⟨b, 0, none⟩) l.length c] w fun v w' => v = .slice (some ⟨b, 0, none⟩) (Abs.comp l).length c ∧ NRow w' b (Abs.comp l) ∧ Mod (fun i => i = b) w w' := by
  have hcl := Abs.comp_le l
  unfold maxLen at hm
  refine K.start hmix E.slices_Compact_sl_api_Node_api_Node (args := [_]) (Nat.le_of_ble_eq_true rfl) ?_; dsimp only [C.slices_Compact_sl_api_Node_api_Node]; refine Yy ?_
  refine Sr ?_
  refine K.cond (fun g1 => ?_) (fun g1 => ?_)
  · have e := Abs.comp_one (l := l) (by omega)
    refine Sr ?_
    exact ⟨by rw [e], by rw [e]; exact h, Mod.refl _ _⟩
  refine Sr ?_
  refine K.whG [0] (fun k : Nat => [(3, .int .i64 k)]) 1 (fun k W => 1 ≤ k ∧ k ≤ l.length ∧ Abs.comp (l.take k) = l.take k ∧ Ext w W) (fun k => l.length - k) hZq ⟨by omega, by omega, Abs.comp_take1, Ext.refl _⟩ ?_
  rintro k S w1 ⟨hk1, hk2, hkc, he1⟩
  have hr1 := h.ext he1
  have hF := hr1.slrF hc hm
  refine Sr ?_
  refine K.cond (fun g2 => ?_) (fun g2 => ?_)
  rotate_left
  · have hkn : k = l.length := by omega
    rw [hkn, List.take_length] at hkc
    refine Sr ?_
    exact ⟨by rw [hkc], by rw [hkc]; exact hr1, he1.mod⟩
  have hk3 : k < l.length := by omega
  refine Sr ?_
  refine K.ian (k - 1) (by omega) (by omega) ?_
  refine Sr ?_
  refine K.eqS (sig := [.i, .i]) (by kernel_rfl) (conf2 _ _) (conf2 _ _) fun r hr => ?_
  rw [enc_eq] at hr
  refine Sr ?_
  intro w2 he2
  have hr2 := hr1.ext he2
  have e2 := he1.trans he2
  cases r with
  | false =>
    have hne : ¬ (l[k - 1].op = l[k].op ∧ l[k - 1].n = l[k].n) := fun e => by have := hr.2 ⟨e.1.symm, e.2.symm⟩; cases this
    have hkc' : Abs.comp (l.take (k + 1)) = l.take (k + 1) := by rw [Abs.comp_take hk1 hk3, if_neg hne, hkc, List.take_succ_eq_append_getElem hk3]
    refine Sr ?_
    exact ⟨k + 1, ⟨by first | trivial | rfl, trivial⟩, ⟨by omega, by omega, hkc', e2⟩, by omega⟩
  | true =>
    obtain ⟨q1, q2⟩ := hr.1 rfl
    have hkd : Abs.comp (l.take (k + 1)) = l.take k := by rw [Abs.comp_take hk1 hk3, if_pos ⟨q1.symm, q2.symm⟩, hkc]
    have hck : ¬ c = k := by omega
    clear hF
    refine Sr ?_
    refine K.slc k l.length c (by simp [bnd, ev_tmp, upd_at]) (by simp [bnd]) (by simp [bnd]) ⟨by omega, hc, Nat.le_refl _⟩ (by simp) ?_
    rw [if_neg hck, Option.map_some]
    refine Sr ?_
    refine K.whG [0, 4] (fun x : Nat × Nat × List Abs.Node => [(3, .int .i64 x.1), (5, .int .i64 x.2.1)]) (k, 1, l) (fun x W => 1 ≤ x.2.1 ∧ k + x.2.1 ≤ l.length ∧ 1 ≤ x.1 ∧ x.1 + 1 ≤ k + x.2.1 ∧ x.2.2.length = l.length ∧ NRow W b x.2.2 ∧ Mod (fun i => i = b) w W ∧ x.2.2.take x.1 = Abs.comp (l.take (k + x.2.1)) ∧ ∀ j, x.1 ≤ j → x.2.2[j]? = l[j]?) (fun x => l.length - (k + x.2.1)) hZq ⟨Nat.le_refl _, by simp only; omega, hk1, Nat.le_refl _, rfl, hr2, e2.mod, hkd.symm, fun _ _ => rfl⟩ ?_
    rintro ⟨kk, k2, R⟩ S3 w3 ⟨j1, j2, j3, j4, j5, j6, j7, j8, j9⟩
    dsimp only at j1 j2 j3 j4 j5 j6 j7 j8 j9 ⊢
    refine Sr ?_
    refine K.cond (fun g3 => ?_) (fun g3 => ?_)
    · have hm2 : k + k2 < l.length := by omega
      have ad : ∀ i, (Addr.add ⟨b, 0, none⟩ (k * 2)).add (i * 2) = ⟨b, 2 * (k + i), none⟩ := fun i => by
        rw [add_eq, add_eq]
        congr 1
        omega
      have x1 : R[k + k2]'(by omega) = l[k + k2] := by
        have := j9 (k + k2) (by omega)
        rw [List.getElem?_eq_getElem (by omega), List.getElem?_eq_getElem (by omega)] at this
        injection this
      have x2 : R[k + k2 - 1]'(by omega) = l[k + k2 - 1] := by
        have := j9 (k + k2 - 1) (by omega)
        rw [List.getElem?_eq_getElem (by omega), List.getElem?_eq_getElem (by omega)] at this
        injection this
      have d1 : CellsAt w3 ((Addr.add ⟨b, 0, none⟩ (k * 2)).add (k2 * 2)) l[k + k2].enc := by
        rw [ad, ← x1]; exact j6.at_ _
      have d2 : CellsAt w3 ((Addr.add ⟨b, 0, none⟩ (k * 2)).add ((k2 - 1) * 2)) l[k + k2 - 1].enc := by
        rw [ad, ← x2, show k + (k2 - 1) = k + k2 - 1 from by omega]; exact j6.at_ _
      have hct := Abs.comp_take (l := l) (n := k + k2) (by omega) hm2
      refine Sr ?_
      refine K.ian (k2 - 1) (by omega) (by omega) ?_
      refine Sr ?_
      refine K.neS (sig := [.i, .i]) (by kernel_rfl) (conf2 _ _) (conf2 _ _) fun r hr => ?_
      rw [ne_eq, enc_eq] at hr
      refine Sr ?_
      intro w4 he4
      have j6' := j6.ext he4
      have d1' := d1.ext he4
      cases r with
      | false =>
        have heq : l[k + k2 - 1].op = l[k + k2].op ∧ l[k + k2 - 1].n = l[k + k2].n := Classical.byContradiction fun e => by have := hr.2 (fun e2 => e ⟨e2.1.symm, e2.2.symm⟩); cases this
        rw [if_pos heq] at hct
        refine Sr ?_
        refine ⟨(kk, k2 + 1, R), ⟨by first | trivial | rfl, by first | trivial | rfl, trivial⟩, ⟨by simp only; omega, by simp only; omega, j3, by simp only; omega, j5, j6', j7.trans he4.mod, ?_, j9⟩, by simp only; omega⟩
        simp only
        rw [← Nat.add_assoc, hct, j8]
      | true =>
        have hne : ¬ (l[k + k2 - 1].op = l[k + k2].op ∧ l[k + k2 - 1].n = l[k + k2].n) := fun e => (hr.1 rfl) ⟨e.1.symm, e.2.symm⟩
        rw [if_neg hne] at hct
        refine Sr ?_
        refine K.stNd (i := kk) j6' (by rw [add_eq, Nat.zero_add, Nat.mul_comm]) (by omega) fun w5 hw5 hn5 => ?_
        refine Sr ?_
        refine ⟨(kk + 1, k2 + 1, R.set kk l[k + k2]), ⟨by first | trivial | rfl, by first | trivial | rfl, trivial⟩, ⟨by simp only; omega, by simp only; omega, by simp only; omega, by simp only; omega, by rw [List.length_set]; exact j5, hn5, (j7.trans he4.mod).trans (hw5.mod rfl), ?_, fun j hj => ?_⟩, by simp only; omega⟩
        · simp only
          rw [← Nat.add_assoc, hct, ← j8, List.take_succ_eq_append_getElem (by rw [List.length_set]; omega), List.getElem_set_self, List.take_set_of_le (Nat.le_refl _)]
        · simp only at hj
          rw [List.getElem?_set_ne (by omega)]
          exact j9 j (by omega)
    · have hke : k + k2 = l.length := by omega
      rw [hke, List.take_length] at j8
      have hkl : (Abs.comp l).length = kk := by rw [← j8, List.length_take]; omega
      refine Sr ?_
      refine K.slc kk l.length c (by simp [bnd, ev_tmp, upd_at]) (by simp [bnd]) (by simp [bnd]) ⟨by omega, hc, Nat.le_refl _⟩ (by simp) ?_
      rw [if_neg (show ¬ c = kk by omega), Option.map_some]
      refine Sr ?_
      refine K.clrNd (k := kk) j6 (by simp only [ev_tmp, upd_at]; rfl) (by omega) (fun _ => by rw [add_eq, Nat.zero_add, Nat.mul_comm]) fun v w4 hm4 hn4 => ?_
      rw [j8] at hn4
      refine Sr ?_
      refine K.slc 0 kk c (by simp [bnd]) (by simp [bnd, ev_tmp, upd_at]) (by simp [bnd]) ⟨by omega, by omega, Nat.le_refl _⟩ (by simp) ?_
      rw [if_neg (show ¬ c = 0 by omega), Option.map_some]
      refine Sr ?_
      exact ⟨by rw [hkl, add_eq]; rfl, hn4, j7.trans hm4⟩
end Go.Proofs.Ytfdohkdifdemeaa
end
section
/- Numbers of the functions and types that sorting nodes reaches. -/
namespace Go.Proofs
open Go.Shelf
def Try.sortU_ren : Go.Shelf.Ren := ⟨fun | 6 => 10 | 15 => 22 | 14 => 21 | 28 => 38 | 29 => 39 | 20 => 30 | 21 => 31 | 22 => 32 | 23 => 33 | 24 => 34 | 25 => 35 | 26 => 36 | 27 => 37 | 46 => 56 | 47 => 57 | 48 => 58 | 49 => 59 | 50 => 60 | 57 => 65 | n => n, fun | 22 => 22 | 24 => 28 | 25 => 44 | 3 => 3 | 39 => 61 | 0 => 0 | 53 => 76 | 55 => 78 | 4 => 4 | 46 => 70 | 45 => 69 | 50 => 58 | 5 => 5 | 9 => 9 | 66 => 95 | 70 => 99 | 76 => 102 | 77 => 103 | n => n, fun | n => n⟩
theorem Try.sortU : Go.Proofs.SlLaysF0.n6 Try.prog Try.sortU_ren := {
  mixed := by kernel_rfl
  f6 := ⟨Try.f10.name, by decide, Try.func10.trans (congrArg some (by kernel_rfl))⟩
  f14 := ⟨Try.f21.name, by decide, Try.func21.trans (congrArg some (by kernel_rfl))⟩
  f15 := Try.func22.trans (congrArg some (by kernel_rfl))
  f20 := ⟨Try.f30.name, by decide, Try.func30.trans (congrArg some (by kernel_rfl))⟩
  f21 := ⟨Try.f31.name, by decide, Try.func31.trans (congrArg some (by kernel_rfl))⟩
  f22 := ⟨Try.f32.name, by decide, Try.func32.trans (congrArg some (by kernel_rfl))⟩
  f23 := ⟨Try.f33.name, by decide, Try.func33.trans (congrArg some (by kernel_rfl))⟩
  f24 := ⟨Try.f34.name, by decide, Try.func34.trans (congrArg some (by kernel_rfl))⟩
  f25 := ⟨Try.f35.name, by decide, Try.func35.trans (congrArg some (by kernel_rfl))⟩
  f26 := ⟨Try.f36.name, by decide, Try.func36.trans (congrArg some (by kernel_rfl))⟩
  f27 := ⟨Try.f37.name, by decide, Try.func37.trans (congrArg some (by kernel_rfl))⟩
  f28 := Try.func38.trans (congrArg some (by kernel_rfl))
  f29 := Try.func39.trans (congrArg some (by kernel_rfl))
  f46 := ⟨Try.f56.name, by decide, Try.func56.trans (congrArg some (by kernel_rfl))⟩
  f47 := Try.func57.trans (congrArg some (by kernel_rfl))
  f48 := Try.func58.trans (congrArg some (by kernel_rfl))
  f49 := ⟨Try.f59.name, by decide, Try.func59.trans (congrArg some (by kernel_rfl))⟩
  f50 := ⟨Try.f60.name, by decide, Try.func60.trans (congrArg some (by kernel_rfl))⟩
  f57 := ⟨Try.f65.name, by decide, Try.func65.trans (congrArg some (by kernel_rfl))⟩
  t0 := Try.underlying0
  a0 := Try.isAgg0
  z0 := Try.sizeOf0
  v0 := Try.zeroValue0
  t3 := Try.underlying3
  a3 := Try.isAgg3
  z3 := Try.sizeOf3
  v3 := Try.zeroValue3
  t4 := Try.underlying4
  a4 := Try.isAgg4
  z4 := Try.sizeOf4
  v4 := Try.zeroValue4
  t5 := Try.underlying5
  a5 := Try.isAgg5
  z5 := Try.sizeOf5
  v5 := Try.zeroValue5
  t9 := Try.underlying9
  a9 := Try.isAgg9
  z9 := Try.sizeOf9
  v9 := Try.zeroValue9
  t22 := Try.underlying22
  a22 := Try.isAgg22
  z22 := Try.sizeOf22
  v22 := Try.zeroValue22
  t25 := Try.underlying44
  a25 := Try.isAgg44
  z25 := Try.sizeOf44
  v25 := Try.zeroValue44
  t39 := Try.underlying61
  a39 := Try.isAgg61
  z39 := Try.sizeOf61
  v39 := Try.zeroValue61
  t45 := Try.underlying69
  a45 := Try.isAgg69
  z45 := Try.sizeOf69
  v45 := Try.zeroValue69
  t46 := Try.underlying70
  a46 := Try.isAgg70
  z46 := Try.sizeOf70
  v46 := Try.zeroValue70
  t50 := Try.underlying58
  a50 := Try.isAgg58
  z50 := Try.sizeOf58
  v50 := Try.zeroValue58
  t53 := Try.underlying76
  a53 := Try.isAgg76
  z53 := Try.sizeOf76
  v53 := Try.zeroValue76
  t55 := Try.underlying78
  a55 := Try.isAgg78
  z55 := Try.sizeOf78
  v55 := Try.zeroValue78
  t66 := Try.underlying95
  a66 := Try.isAgg95
  z66 := Try.sizeOf95
  v66 := Try.zeroValue95
  t70 := Try.underlying99
  a70 := Try.isAgg99
  z70 := Try.sizeOf99
  v70 := Try.zeroValue99
  t76 := Try.underlying102
  a76 := Try.isAgg102
  z76 := Try.sizeOf102
  v76 := Try.zeroValue102
  t77 := Try.underlying103
  a77 := Try.isAgg103
  z77 := Try.sizeOf103
  v77 := Try.zeroValue103 }
end Go.Proofs
end
section
/- Uses: nodes are sorted (slices.SortFunc): the kit's contract over this program. -/
set_option maxRecDepth 8000
set_option maxHeartbeats 6400000
namespace Go.Proofs.Ytfdohkdifdemeaa
open Go Go.RowKit Go.Sort Go.Shelf Go.Lib
theorem uses1_k (x y : Abs.Node) (W : World) : Calls Try.prog 11 #[.agg #[.int .i64 x.op, .int .i64 x.n], .agg #[.int .i64 y.op, .int .i64 y.n]] W fun e w' => e = .returned (.int .i64 (Abs.nodeCmp x y)) ∧ ∃ q os', w' = grow (W.drewN q) os' := by
  go_enter Try.func11, Try.ntmps11
  go_wp2
  all_goals go_ret
  all_goals refine ⟨?_, 0, _, by rw [alloc_eq_grow, alloc_eq_grow, grow_grow]; rfl⟩
  all_goals (congr 2; unfold Abs.nodeCmp; repeat' split)
  all_goals first | omega | rfl
theorem nodes_swo : SWO (ltOf Abs.nodeCmp) where
  irrefl x := by
    have := Abs.nodeLt_irr x
    rw [← Abs.nodeCmp_lt] at this
    simpa [ltOf] using this
  trans x y z h1 h2 := by
    simp only [ltOf, decide_eq_true_eq] at h1 h2 ⊢
    rw [Abs.nodeCmp_lt] at *
    exact Abs.nodeLt_tr x y z h1 h2
  ntrans x y z h1 h2 := by
    simp only [ltOf, decide_eq_false_iff_not] at h1 h2 ⊢
    rw [Abs.nodeCmp_lt] at *
    unfold Abs.nodeLt at *
    omega
instance : Inhabited Abs.Node := ⟨⟨0, 0⟩⟩
theorem putRow_heap {w : World} {b : Nat} {cur : Array Value} {e : TypeId} {d : Array Value} (h : w.heap[b]? = some (.cells cur e)) : (putRow id w b 0 d).heap[b]? = some (.cells (putCells id 0 d cur) e) := by
  unfold putRow mapBlock
  simp only [Array.getElem?_modify, if_true, h, Option.map_some, onCells]
theorem putRow_ne {w : World} {b k : Nat} {d : Array Value} (h : k ≠ b) : (putRow id w b 0 d).heap[k]? = w.heap[k]? := by
  unfold putRow mapBlock
  simp only [Array.getElem?_modify]
  rw [if_neg (fun e => h e.symm)]
theorem putRow_size {w : World} {b : Nat} {d : Array Value} : (putRow id w b 0 d).heap.size = w.heap.size := by
  unfold putRow mapBlock
  simp
theorem flatK_get {d : Array Abs.Node} {i : Nat} (h : i < d.size) : (flatK Abs.Node.enc 2 d)[2 * i]! = .int .i64 d[i].op ∧ (flatK Abs.Node.enc 2 d)[2 * i + 1]! = .int .i64 d[i].n := by
  constructor
  · rw [get_flatK _ _ _ _ (by omega), show 2 * i / 2 = i from by omega, show 2 * i % 2 = 0 from by omega, getElem!_pos _ i h]; rfl
  · rw [get_flatK _ _ _ _ (by omega), show (2 * i + 1) / 2 = i from by omega, show (2 * i + 1) % 2 = 1 from by omega, getElem!_pos _ i h]; rfl
theorem sortW_row {w : World} {b n : Nat} {l : List Abs.Node} {d : Array Abs.Node} {os : Array Obj} (h : NRow w b l) (hd : d.size = l.length) : NRow (sortWorldK Abs.Node.enc 2 w b 0 n d os) b d.toList ∧ Lite.Mod (fun i => i = b) w (sortWorldK Abs.Node.enc 2 w b 0 n d os) := by
  obtain ⟨cur, h1, h2, h3⟩ := h.ex
  have hlt := Lite.lt_of_heap h1
  have h1' : (Sort.ahead w n).heap[b]? = some (.cells cur T.api_Node) := h1
  have hg : ∀ k, k < w.heap.size → (sortWorldK Abs.Node.enc 2 w b 0 n d os).heap[k]? = (putRow id (Sort.ahead w n) b 0 (flatK Abs.Node.enc 2 d)).heap[k]? := fun k hk => by
    unfold sortWorldK grow putRowK
    exact Array.getElem?_append_left (by rw [putRow_size]; exact hk)
  constructor
  · refine ⟨_, (hg b hlt).trans (putRow_heap h1'), by simp [putCells]; omega, fun i hi => ?_⟩
    have hi' : i < d.size := by simpa using hi
    obtain ⟨f1, f2⟩ := flatK_get hi'
    simp only [putCells, Array.getElem?_mapIdx, size_flatK, Array.getElem_toList]
    constructor
    · rw [Array.getElem?_eq_getElem (show 2 * i < cur.size by omega), Option.map_some, if_pos (by omega), Nat.sub_zero, f1]
      rfl
    · rw [Array.getElem?_eq_getElem (show 2 * i + 1 < cur.size by omega), Option.map_some, if_pos (by omega), Nat.sub_zero, f2]
      rfl
  · refine ⟨rfl, rfl, rfl, ?_, fun k hk hn => (hg k hk).trans (putRow_ne hn)⟩
    unfold sortWorldK grow putRowK
    rw [Array.size_append, putRow_size]
    exact Nat.le_add_right _ _
theorem size_run {P : Program} {t : TypeId} {k : Nat} (h : (P.info? t).map (·.size) = some k) (w : World) : (Go.sizeOf t).run P w = .ok k w := by
  cases hi : P.info? t with
  | none => rw [hi] at h; cases h
  | some i =>
    rw [hi] at h
    have h2 : i.size = k := by simpa using h
    simp [Go.sizeOf, Lite.run_info hi, h2]
theorem sortU_r (b c : Nat) (l : List Abs.Node) (w : World) (h : NRow w b l) (hl : l.length ≤ 1000000) :
    Lite.Ret Try.prog F.slices_SortFunc_sl_api_Node_api_Node #[.slice (some ⟨b, 0, none⟩) l.length c, .func (.func F.expr_Uses_1) #[] #[]] w fun _ w' => ∃ r : List Abs.Node, r.Perm l ∧ r.Pairwise (fun x y => ¬ Abs.nodeLt y x) ∧ NRow w' b r ∧ Lite.Mod (fun i => i = b) w w' := by
  obtain ⟨cur, h1, h2, h3⟩ := h.ex
  have hcon := AnyQ.slices_SortFunc Try.sortU 2 (fun w => Lite.run_isAgg (t := T.api_Node) (b := true) (by kernel_rfl) w) (fun w => size_run (t := T.api_Node) (by kernel_rfl) w) Abs.Node.enc (fun _ => rfl) (fun x v hv => by simp [Abs.Node.enc] at hv; rcases hv with rfl | rfl <;> rfl) Abs.nodeCmp nodes_swo F.expr_Uses_1 #[] b 0 c l.toArray w
    (enters_of Try.func11 (by kernel_rfl) rfl) (fun _ _ _ _ x y => uses1_k x y _) ?_ (Lite.lt_of_heap h1) (by simp; omega)
  · change Calls Try.prog F.slices_SortFunc_sl_api_Node_api_Node _ _ _ at hcon
    simp only [List.size_toArray] at hcon
    refine Calls.mono hcon ?_
    rintro e w' ⟨rfl, d', n, os, hp, hs, rfl⟩
    have hsz : d'.size = l.length := by simpa using hp.1
    obtain ⟨k1, k2⟩ := sortW_row (n := n) (os := os) h hsz
    refine ⟨_, rfl, d'.toList, ?_, ?_, k1, k2⟩
    · have := hp.2.2
      rw [show d'.extract 0 l.length = d' from by rw [← hsz]; simp, show l.toArray.extract 0 l.length = l.toArray from by simp] at this
      simpa using this
    · rw [List.pairwise_iff_getElem]
      intro i j hi hj hij
      have hi' : i < d'.size := by simpa using hi
      have hj' : j < d'.size := by simpa using hj
      have := hs i j (Nat.zero_le _) hij (by omega)
      rw [getElem!_pos _ i hi', getElem!_pos _ j hj'] at this
      simp only [ltOf, decide_eq_false_iff_not] at this
      rw [Abs.nodeCmp_lt] at this
      simpa using this
  · unfold HoldsK Holds
    intro j hj
    rw [size_flatK] at hj
    have hj2 : j < 2 * l.length := by simp at hj; omega
    have hi : j / 2 < l.length := by omega
    obtain ⟨f1, f2⟩ := flatK_get (d := l.toArray) (i := j / 2) (by simpa using hi)
    obtain ⟨g1, g2⟩ := h3 (j / 2) hi
    have hfr : w.frozen? ⟨b, 0 + j, none⟩ = false := by simp [World.frozen?, h1]
    refine ⟨?_, hfr⟩
    rw [Nat.zero_add]
    rcases Nat.mod_two_eq_zero_or_one j with e | e
    · have ej : 2 * (j / 2) = j := by omega
      rw [ej] at f1 g1
      rw [f1]
      exact cell_blk1 h1 (by simpa using g1)
    · have ej : 2 * (j / 2) + 1 = j := by omega
      rw [ej] at f2 g2
      rw [f2]
      exact cell_blk1 h1 (by simpa using g2)
end Go.Proofs.Ytfdohkdifdemeaa
end
section
/- Plain: expressions: kinds, values. No program in sight. -/
namespace Abs
open Go
structure Scope where
  scalars : List Scalar
  vars : List Var
  chans : List Chan
  procs : List Proc
  locals : List Var
  self : Int
structure Env where
  vars : List (List Int)
  lens : List Int
  locals : List Int
  at_ : List (List Int)
  self : Int
/-- The n-th, if it is there. -/
def nth {α : Type} (l : List α) (n : Int) : Option α := if 0 ≤ n then l[n.toNat]? else none
theorem nth_some {α : Type} {l : List α} {n : Int} (h : 0 ≤ n) (h2 : n < l.length) : nth l n = some (l[n.toNat]'(by omega)) := by
  unfold nth; rw [if_pos h, List.getElem?_eq_getElem]
theorem nth_none {α : Type} {l : List α} {n : Int} (h : n < 0 ∨ (l.length : Int) ≤ n) : nth l n = none := by
  unfold nth
  split
  · rw [List.getElem?_eq_none (by omega)]
  · rfl
def within (n : Int) : Bool := decide (-1048576 ≤ n ∧ n ≤ 1048576)
/-- Two numbers within bounds, if what comes of them is, too. -/
def tell (f : Int → Int → Int) (a b : Int) : Int × Bool := if within a && within b && within (f a b) then (f a b, true) else (0, false)
def bit (b : Bool) : Int := if b then 1 else 0
/-- How many parts an operation takes; -1: it is none. -/
def nparts (op : Int) : Int := if op = 3 then 1 else if 1 ≤ op ∧ op ≤ 8 then 0 else if op = 9 ∨ op = 10 then 1 else if 11 ≤ op ∧ op ≤ 19 then 2 else -1
def isOp (op : Int) : Bool := decide (9 ≤ op ∧ op ≤ 19)
/-- An operation with parts. -/
structure OpD where
  parts : Int
  takes : Int
  makes : Int
  does : Int → Int → Int × Bool
def sayD (takes : Int) (p : Int → Int → Bool) : OpD := ⟨2, takes, 1, fun a b => (bit (p a b), true)⟩
def opOf (x : Int) : Option OpD :=
  if x = 9 then some ⟨1, 1, 1, fun a _ => (bit (decide (a = 0)), true)⟩
  else if x = 10 then some ⟨1, 0, 0, fun a _ => tell (· - ·) 0 a⟩
  else if x = 11 then some ⟨2, 0, 0, tell (· + ·)⟩
  else if x = 12 then some ⟨2, 0, 0, tell (· - ·)⟩
  else if x = 13 then some ⟨2, 0, 0, tell (· * ·)⟩
  else if x = 14 then some (sayD (-1) fun a b => decide (a = b))
  else if x = 15 then some (sayD (-1) fun a b => !decide (a = b))
  else if x = 16 then some (sayD 0 fun a b => decide (a < b))
  else if x = 17 then some (sayD 0 fun a b => decide (a ≤ b))
  else if x = 18 then some (sayD 1 fun a b => !decide (a = 0) && !decide (b = 0))
  else if x = 19 then some (sayD 1 fun a b => !decide (a = 0) || !decide (b = 0))
  else none
theorem opOf_parts {x : Int} {o : OpD} (h : opOf x = some o) : o.parts = nparts x ∧ isOp x = true := by
  unfold opOf at h
  repeat' split at h
  all_goals first | (cases h; subst_vars; decide) | cases h
/-- One node worked off. -/
def stepG (f : Node → List Int → Int × Int) (x : Node) (st : List Int) : Int × List Int :=
  if nparts x.op < 0 then (3, st) else if (st.length : Int) < nparts x.op then (4, st)
  else if (f x st).2 ≠ 0 then ((f x st).2, st)
  else if (st.take (st.length - (nparts x.op).toNat) ++ [(f x st).1]).length > 12 then (12, st) else (0, st.take (st.length - (nparts x.op).toNat) ++ [(f x st).1])
def runL (f : Node → List Int → Int × Int) : List Node → List Int → Int × List Int
  | [], st => (0, st)
  | x :: r, st => if (stepG f x st).1 ≠ 0 then stepG f x st else runL f r (stepG f x st).2
def runE (f : Node → List Int → Int × Int) (e : List Node) : Int × Int :=
  if e.length > 24 then (0, 5) else if e.length = 0 then (0, 4)
  else if (runL f e []).1 ≠ 0 then (0, (runL f e []).1) else if (runL f e []).2.length > 1 then (0, 5) else ((runL f e []).2.headD 0, 0)
theorem runL_app (f : Node → List Int → Int × Int) : ∀ (a b : List Node) (st : List Int), runL f (a ++ b) st = if (runL f a st).1 ≠ 0 then runL f a st else runL f b (runL f a st).2
  | [], b, st => by simp [runL]
  | x :: a, b, st => by
    simp only [List.cons_append, runL]
    by_cases h : (stepG f x st).1 = 0
    · simp only [h, ne_eq, not_true_eq_false, if_false]; exact runL_app f a b _
    · simp [h]
theorem runL_step {f : Node → List Int → Int × Int} {e : List Node} {k : Nat} {st : List Int} (hk : k < e.length) (h : runL f (e.take k) [] = (0, st)) : runL f (e.take (k + 1)) [] = stepG f e[k] st := by
  rw [List.take_succ_eq_append_getElem hk, runL_app, h]
  simp only [ne_eq, not_true_eq_false, if_false, runL]
  split
  · rfl
  · rename_i h2; simp at h2; exact Prod.ext h2.symm rfl
theorem runL_stop {f : Node → List Int → Int × Int} {e : List Node} {k : Nat} {q : Int × List Int} (h : runL f (e.take k) [] = q) (h0 : q.1 ≠ 0) : runL f e [] = q := by
  have := runL_app f (e.take k) (e.drop k) []
  rw [List.take_append_drop, h, if_pos h0] at this
  exact this
theorem runE_err {f : Node → List Int → Int × Int} {e : List Node} (h24 : e.length ≤ 24) {k : Nat} (hk : k < e.length) {st : List Int} (h : runL f (e.take k) [] = (0, st)) (h0 : (stepG f e[k] st).1 ≠ 0) : runE f e = (0, (stepG f e[k] st).1) := by
  have h2 := runL_step hk h
  have h3 := runL_stop h2 h0
  unfold runE
  rw [if_neg (by omega), if_neg (by omega), h3, if_pos h0]
theorem step_len {f : Node → List Int → Int × Int} {x : Node} {st : List Int} (h : (stepG f x st).1 = 0) : 1 ≤ (stepG f x st).2.length ∧ (stepG f x st).2.length ≤ 12 := by
  unfold stepG at h ⊢
  repeat' split
  all_goals simp_all
def kscalar (n : Int) (s : Scope) : Int × Bool := if n = 0 then (0, true) else if n < 0 ∨ (s.scalars.length : Int) < n then (0, false) else (1 + n, true)
def kvar (l : List Var) (n : Int) (s : Scope) : Int × Int × Bool :=
  match nth l n with
  | some v => ((kscalar v.scalar s).1, (kscalar v.over s).1, (kscalar v.scalar s).2 && (kscalar v.over s).2)
  | none => (0, 0, false)
def kLen (n : Int) (s : Scope) : Int × Int := match nth s.chans n with | some c => if (kscalar c.scalar s).2 then (0, 0) else (0, 8) | none => (0, 8)
def kAt (n : Int) (s : Scope) : Int × Int := if 0 ≤ n then (match nth s.procs (n.tdiv 16) with | some p => if n.tmod 16 < p.locs then (0, 0) else (0, 8) | none => (0, 8)) else (0, 8)
def knamed (x : Node) (s : Scope) : Int × Int :=
  if x.op = 5 then (if 1 ≤ s.self ∧ s.self ≤ s.scalars.length then (1 + s.self, 0) else (0, 8))
  else if x.op = 6 then kLen x.n s
  else if x.op = 7 then kAt x.n s
  else if x.op = 8 then (if 0 ≤ x.n ∧ x.n < s.scalars.length then (2 + x.n, 0) else (0, 8))
  else (0, 8)
/-- The kind of a leaf or an item, with what stands on top. -/
def kleaf (x : Node) (s : Scope) (top : Int) : Int × Int :=
  if x.op = 1 then (if within x.n then (0, 0) else (0, 10))
  else if x.op = 2 ∨ x.op = 3 ∨ x.op = 4 then
    (let q := kvar (if x.op = 4 then s.locals else s.vars) x.n s
     if q.2.2 = false then (0, 8) else if (x.op = 3 ∧ (q.2.1 = 0 ∨ top ≠ q.2.1)) ∨ (x.op ≠ 3 ∧ q.2.1 ≠ 0) then (0, 9) else (q.1, 0))
  else knamed x s
/-- The kind that an operation makes of kinds. -/
def ktwo (o : OpD) (l : List Int) : Int × Int := if l.all (fun k => (decide (o.takes = -1) || decide (k = o.takes)) && decide (k = l.headD 0)) then (o.makes, 0) else (0, 9)
def fKind (s : Scope) (x : Node) (st : List Int) : Int × Int :=
  match opOf x.op with
  | some o => ktwo o (st.drop (st.length - o.parts.toNat))
  | none => kleaf x s (st.getLastD 0)
def kind (e : List Node) (s : Scope) : Int × Int := runE (fKind s) e
/-! ### Values -/
def vat (l : List Int) (n : Int) : Int × Int := match nth l n with | some x => (x, 0) | none => (0, 8)
def vleaf (x : Node) (v : Env) (top : Int) : Int × Int :=
  if x.op = 1 then (if within x.n then (x.n, 0) else (0, 10))
  else if x.op = 2 then (match nth v.vars x.n with | some l => vat l 0 | none => (0, 8))
  else if x.op = 3 then (match nth v.vars x.n with | some l => (match nth l (top - 1) with | some y => (y, 0) | none => (0, 10)) | none => (0, 8))
  else if x.op = 4 then vat v.locals x.n
  else if x.op = 6 then vat v.lens x.n
  else if x.op = 5 then (v.self, 0)
  else if x.op = 7 then (if 0 ≤ x.n then (match nth v.at_ (x.n.tdiv 16) with | some l => vat l (x.n.tmod 16) | none => (0, 8)) else (0, 8))
  else (0, 0)
def vtwo (o : OpD) (l : List Int) : Int × Int := let r := o.does (l.headD 0) (l.getLastD 0); if r.2 then (r.1, 0) else (0, 10)
def fEval (v : Env) (x : Node) (st : List Int) : Int × Int :=
  match opOf x.op with
  | some o => vtwo o (st.drop (st.length - o.parts.toNat))
  | none => vleaf x v (st.getLastD 0)
def eval (e : List Node) (v : Env) : Int × Int := runE (fEval v) e
end Abs
end
section
/- Lite, part 17: one run of the rules by one name. -/
namespace Lite
/-- One run of the rules. -/
theorem Go1 {A B : Prop} (k : B) (h : Hold B → A := by
  intro q
  simp -dsimp only [LL,B9,Nat.reduceAdd,Nat.reduceEqDiff,reduceIte,reduceCtorEq,Bool.false_eq_true]
  exact q.out) : A := h ⟨k⟩
end Lite
end
section
/- What the functions of num and the operations of expr compute. -/
set_option maxRecDepth 4000
set_option linter.unusedSimpArgs false
set_option maxHeartbeats 2000000
namespace Go.Proofs.Ytfdohkdifdemeaa
open Go Go.RowKit Lite

abbrev RInt : World → Addr → Int → Prop := Flat fun n => [Value.int .i64 n]
abbrev Ints (w : World) (v : Value) (l : List Int) : Prop := SlR 1 RInt w v l
theorem Ints.ext {w w' : World} {v : Value} {l : List Int} (he : Ext w w') (h : Ints w v l) : Ints w' v l := SlR.ext Flat.ext he h
theorem Ints.blk {w : World} {b n : Nat} {e : TypeId} {f : Nat × Nat} {xs : List Int} (hb : w.heap[b]? = some (.cells (xs.flatMap fun n => [Value.int .i64 n]).toArray e f)) (hn : n = xs.length) (hm : xs.length ≤ maxLen) : Ints w (.slice (some ⟨b, 0, none⟩) n n) xs :=
  SlR.blk (enc := fun n => [Value.int .i64 n]) (fun _ => rfl) hb hn hm fun _ _ _ h => h
theorem within_r (v : Value) (l : List Int) (w : World) (hl : Ints w v l) : Ret Try.prog F.num_within #[v] w fun v w' => v = .bool (l.all Abs.within) ∧ w' = w := by
  obtain ⟨oa, cap, rfl, hlen⟩ := hl.form
  refine K.start hmix E.num_within (args := [_]) (Nat.le_of_ble_eq_true rfl) ?_
  dsimp only [C.num_within]; refine Yy ?_
  refine Go1 ?_
  refine K.for1 7 l.length (fun k S w' => w' = w ∧ (l.take k).all Abs.within = true) (by simp -dsimp only [LL,B9,Nat.reduceAdd,Nat.reduceEqDiff,reduceIte,reduceCtorEq,Bool.false_eq_true]) ⟨rfl, by simp⟩ ?_
  rintro k S w' hS hk h7 ⟨rfl, hall⟩
  have h0 := hS 0 rfl; have h5 := hS 5 rfl; have h6 := hS 6 rfl; simp only [upd_at, Nat.reduceAdd, Nat.reduceEqDiff, reduceIte, fr0_cons, fr0_nil] at h0 h5 h6; clear hS
  refine Gw (And.intro h0 (And.intro h5 (And.intro h6 h7))) ?_
  refine K.cond (fun h1 => ?_) (fun h1 => ?_)
  rotate_left
  · refine Gw (And.intro h0 (And.intro h5 (And.intro h6 h7))) ?_
    rw [List.take_of_length_le (by omega)] at hall
    rw [hall]; (refine ⟨?_, ?_⟩ <;> first | trivial | rfl | (repeat' first | assumption | exact Ext.refl _ | refine Ext.trans ?_ (by assumption)))
  have hk' : k < l.length := by omega
  obtain ⟨a, rfl⟩ := hl.addr (by omega)
  have hsp : l.take (k + 1) = l.take k ++ [l[k]] := List.take_succ_eq_append_getElem hk'
  have hl2 : l.all Abs.within = ((l.take (k + 1)).all Abs.within && (l.drop (k + 1)).all Abs.within) := by rw [← List.all_append, List.take_append_drop]
  rw [hsp, List.all_append] at hl2
  (repeat' first
 | assumption
 | exact Ext.refl _
 | refine Ext.trans ?_ (by assumption)
 | refine K.wrap (by omega) ?_
 | refine K.ldb (by assumption) ?_ rfl ?_
 | refine K.ldb0 (by assumption) ?_ rfl ?_
 | refine K.ldE (by assumption) ?_ (by omega) rfl ?_
 | refine K.ldE0 (by assumption) ?_ (by omega) rfl ?_
 | refine K.ldAE (by assumption) ?_ (by omega) rfl ?_
 | refine K.iaC (by omega) ?_
 | refine K.condT (by first | assumption | omega) ?_
 | refine K.condF (by first | assumption | omega) ?_
 | refine K.condbT (by assumption) ?_
 | refine K.condbF (by assumption) ?_
 | simp -dsimp only [LL,B9,Nat.reduceAdd,Nat.reduceEqDiff,reduceIte,reduceCtorEq,Bool.false_eq_true,h5, h7])
  generalize l[k] = z at *
  refine K.cond (fun h2 => ?_) (fun h2 => ?_)
  · refine Go1 ?_
    rw [hl2]
    refine ⟨?_, trivial⟩
    have : Abs.within z = false := by simp [Abs.within]; omega
    simp [this]
  refine Go1 ?_
  refine K.cond (fun h3 => ?_) (fun h3 => ?_)
  · refine Go1 ?_
    rw [hl2]
    refine ⟨?_, trivial⟩
    have : Abs.within z = false := by simp [Abs.within]; omega
    simp [this]
  refine Gw h7 ?_
  refine K.wrap (by omega) ?_
  refine Go1 ?_
  refine ⟨hk', trivial, trivial, ?_⟩
  rw [hsp]
  simp [hall, Abs.within]; omega
/-- A function of two numbers that gives a number, at any time. -/
def Fn2 (f : FuncId) (g : Int → Int → Int) : Prop := ∀ a b w, (Abs.within a && Abs.within b) = true → Ret Try.prog f #[.int .i64 a, .int .i64 b] w fun v w' => v = .int .i64 (g a b) ∧ w' = w
theorem add1_r : Fn2 F.num_Add_1 (· + ·) := by
  intro a b w h
  simp [Abs.within] at h
  refine K.start hmix E.num_Add_1 (args := [_, _]) (Nat.le_of_ble_eq_true rfl) ?_
  dsimp only [C.num_Add_1]; refine Yy ?_
  refine St ?_
  (refine ⟨?_, ?_⟩ <;> first | trivial | rfl | (repeat' first | assumption | exact Ext.refl _ | refine Ext.trans ?_ (by assumption)))
theorem sub1_r : Fn2 F.num_Sub_1 (· - ·) := by
  intro a b w h
  simp [Abs.within] at h
  refine K.start hmix E.num_Sub_1 (args := [_, _]) (Nat.le_of_ble_eq_true rfl) ?_
  dsimp only [C.num_Sub_1]; refine Yy ?_
  refine St ?_
  (refine ⟨?_, ?_⟩ <;> first | trivial | rfl | (repeat' first | assumption | exact Ext.refl _ | refine Ext.trans ?_ (by assumption)))
theorem mul_in {a b : Int} (ha : -1048576 ≤ a ∧ a ≤ 1048576) (hb : -1048576 ≤ b ∧ b ≤ 1048576) : -1099511627776 ≤ a * b ∧ a * b ≤ 1099511627776 := by
  have h : (a * b).natAbs ≤ 1048576 * 1048576 := by
    rw [Int.natAbs_mul]; exact Nat.mul_le_mul (by omega) (by omega)
  omega
theorem mul1_r : Fn2 F.num_Mul_1 (· * ·) := by
  intro a b w h
  simp [Abs.within] at h
  have hm := mul_in h.1 h.2
  refine K.start hmix E.num_Mul_1 (args := [_, _]) (Nat.le_of_ble_eq_true rfl) ?_
  dsimp only [C.num_Mul_1]; refine Yy ?_
  refine St ?_
  (refine ⟨?_, ?_⟩ <;> first | trivial | rfl | (repeat' first | assumption | exact Ext.refl _ | refine Ext.trans ?_ (by assumption)))
theorem tell_r (f : FuncId) (g : Int → Int → Int) (hf : okF Try.prog f = true) (hg : Fn2 f g) (a b : Int) (w : World) :
    Ret Try.prog F.num_op_tell #[.agg #[.func (.func f) #[] #[]], .int .i64 a, .int .i64 b] w fun v w' => v = .tuple #[.int .i64 (Abs.tell g a b).1, .bool (Abs.tell g a b).2] ∧ Ext w w' := by
  refine K.start hmix E.num_op_tell (args := [_, _, _]) (Nat.le_of_ble_eq_true rfl) ?_
  dsimp only [C.num_op_tell]; refine Yy ?_
  refine Go1 ?_
  refine K.new fun w1 p hp he1 hc1 => ?_
  refine Go1 ?_
  refine K.bldSa (cs := [a, b].flatMap fun n => [Value.int .i64 n]) (by simp [List.range, List.range.loop, fillC, lay, ev_tmp, upd_at, fr0_cons, Value.cells]) fun w2 q hq he2 hc2 => ?_
  refine Go1 ?_
  refine K.call (within_r _ [a, b] w2 (Ints.blk hc2 rfl (by simp [maxLen]))) ?_
  rintro _ _ ⟨rfl, rfl⟩
  refine Go1 ?_
  refine K.condb (fun h1 => ?_) (fun h1 => ?_)
  rotate_left
  · refine Go1 ?_
    have : (Abs.within a && Abs.within b) = false := by simpa using h1
    refine ⟨?_, by (repeat' first | assumption | exact Ext.refl _ | refine Ext.trans ?_ (by assumption))⟩
    simp [Abs.tell, this]
  have hab : (Abs.within a && Abs.within b) = true := by simpa using h1
  refine St ?_
  refine K.callV (first := []) (cap := []) hf (hg a b _ hab) ?_
  rintro _ _ ⟨rfl, rfl⟩
  refine Go1 ?_
  refine K.bldSa (cs := [g a b].flatMap fun n => [Value.int .i64 n]) (by simp [List.range, List.range.loop, fillC, lay, ev_tmp, upd_at, fr0_cons, Value.cells]) fun w3 q3 hq3 he3 hc3 => ?_
  refine Go1 ?_
  refine K.call (within_r _ [g a b] w3 (Ints.blk hc3 rfl (by simp [maxLen]))) ?_
  rintro _ _ ⟨rfl, rfl⟩
  refine Go1 ?_
  refine K.condb (fun h2 => ?_) (fun h2 => ?_)
  · refine Go1 ?_
    have : Abs.within (g a b) = true := by simpa using h2
    refine ⟨?_, by (repeat' first | assumption | exact Ext.refl _ | refine Ext.trans ?_ (by assumption))⟩
    simp [Abs.tell, hab, this]
  · refine Go1 ?_
    have : Abs.within (g a b) = false := by simpa using h2
    refine ⟨?_, by (repeat' first | assumption | exact Ext.refl _ | refine Ext.trans ?_ (by assumption))⟩
    simp [Abs.tell, this]
/-- A function of two numbers that gives a number, or none, at any time. -/
def Fn2b (f : FuncId) (g : Int → Int → Int × Bool) : Prop := ∀ a b w, Ret Try.prog f #[.int .i64 a, .int .i64 b] w fun v w' => v = .tuple #[.int .i64 (g a b).1, .bool (g a b).2] ∧ Ext w w'
theorem add_r : Fn2b F.num_Add (Abs.tell (· + ·)) := by
  intro a b w
  refine K.start hmix E.num_Add (args := [_, _]) (Nat.le_of_ble_eq_true rfl) ?_
  dsimp only [C.num_Add]; refine Yy ?_
  refine Go1 ?_
  refine K.bld (cs := [.func (.func F.num_Add_1) #[] #[]]) (by simp [fillC, lay, ev_func, Value.cells]) ?_
  refine Go1 ?_
  refine K.call (tell_r _ _ (by kernel_rfl) add1_r a b w) ?_
  rintro _ w1 ⟨rfl, he⟩
  refine Go1 ?_
  (refine ⟨?_, ?_⟩ <;> first | trivial | rfl | (repeat' first | assumption | exact Ext.refl _ | refine Ext.trans ?_ (by assumption)))
theorem sub_r : Fn2b F.num_Sub (Abs.tell (· - ·)) := by
  intro a b w
  refine K.start hmix E.num_Sub (args := [_, _]) (Nat.le_of_ble_eq_true rfl) ?_
  dsimp only [C.num_Sub]; refine Yy ?_
  refine Go1 ?_
  refine K.bld (cs := [.func (.func F.num_Sub_1) #[] #[]]) (by simp [fillC, lay, ev_func, Value.cells]) ?_
  refine Go1 ?_
  refine K.call (tell_r _ _ (by kernel_rfl) sub1_r a b w) ?_
  rintro _ w1 ⟨rfl, he⟩
  refine Go1 ?_
  (refine ⟨?_, ?_⟩ <;> first | trivial | rfl | (repeat' first | assumption | exact Ext.refl _ | refine Ext.trans ?_ (by assumption)))
theorem mul_r : Fn2b F.num_Mul (Abs.tell (· * ·)) := by
  intro a b w
  refine K.start hmix E.num_Mul (args := [_, _]) (Nat.le_of_ble_eq_true rfl) ?_
  dsimp only [C.num_Mul]; refine Yy ?_
  refine Go1 ?_
  refine K.bld (cs := [.func (.func F.num_Mul_1) #[] #[]]) (by simp [fillC, lay, ev_func, Value.cells]) ?_
  refine Go1 ?_
  refine K.call (tell_r _ _ (by kernel_rfl) mul1_r a b w) ?_
  rintro _ w1 ⟨rfl, he⟩
  refine Go1 ?_
  (refine ⟨?_, ?_⟩ <;> first | trivial | rfl | (repeat' first | assumption | exact Ext.refl _ | refine Ext.trans ?_ (by assumption)))
theorem bit_r (b : Bool) (w : World) : Ret Try.prog F.expr_bit #[.bool b] w fun v w' => v = .int .i64 (Abs.bit b) ∧ w' = w := by
  refine K.start hmix E.expr_bit (args := [_]) (Nat.le_of_ble_eq_true rfl) ?_
  dsimp only [C.expr_bit]; refine Yy ?_
  refine Go1 ?_
  refine K.condb (fun h => ?_) (fun h => ?_)
  all_goals
    subst h
    refine Go1 ?_
    (refine ⟨?_, ?_⟩ <;> first | trivial | rfl | (repeat' first | assumption | exact Ext.refl _ | refine Ext.trans ?_ (by assumption)))
theorem ops1_r : Fn2b F.expr_ops_1 fun a _ => (Abs.bit (decide (a = 0)), true) := by
  intro a b w
  refine K.start hmix E.expr_ops_1 (args := [_, _]) (Nat.le_of_ble_eq_true rfl) ?_
  dsimp only [C.expr_ops_1]; refine Yy ?_
  refine Go1 ?_
  refine K.call (bit_r _ w) ?_
  rintro _ _ ⟨rfl, rfl⟩
  refine Go1 ?_
  (refine ⟨?_, ?_⟩ <;> first | trivial | rfl | (repeat' first | assumption | exact Ext.refl _ | refine Ext.trans ?_ (by assumption)))
theorem ops2_r : Fn2b F.expr_ops_2 fun a _ => Abs.tell (· - ·) 0 a := by
  intro a b w
  refine K.start hmix E.expr_ops_2 (args := [_, _]) (Nat.le_of_ble_eq_true rfl) ?_
  dsimp only [C.expr_ops_2]; refine Yy ?_
  refine Go1 ?_
  refine K.call (sub_r 0 a w) ?_
  rintro _ w1 ⟨rfl, he⟩
  refine Go1 ?_
  (refine ⟨?_, ?_⟩ <;> first | trivial | rfl | (repeat' first | assumption | exact Ext.refl _ | refine Ext.trans ?_ (by assumption)))
/-- A test of two numbers, at any time. -/
def FnB (f : FuncId) (p : Int → Int → Bool) : Prop := ∀ a b w, Ret Try.prog f #[.int .i64 a, .int .i64 b] w fun v w' => v = .bool (p a b) ∧ w' = w
theorem ops3_r : FnB F.expr_ops_3 fun a b => decide (a = b) := by
  intro a b w
  refine K.start hmix E.expr_ops_3 (args := [_, _]) (Nat.le_of_ble_eq_true rfl) ?_
  dsimp only [C.expr_ops_3]; refine Yy ?_
  refine Go1 ?_
  (refine ⟨?_, ?_⟩ <;> first | trivial | rfl | (repeat' first | assumption | exact Ext.refl _ | refine Ext.trans ?_ (by assumption)))
theorem ops4_r : FnB F.expr_ops_4 fun a b => !decide (a = b) := by
  intro a b w
  refine K.start hmix E.expr_ops_4 (args := [_, _]) (Nat.le_of_ble_eq_true rfl) ?_
  dsimp only [C.expr_ops_4]; refine Yy ?_
  refine Go1 ?_
  (refine ⟨?_, ?_⟩ <;> first | trivial | rfl | (repeat' first | assumption | exact Ext.refl _ | refine Ext.trans ?_ (by assumption)))
theorem ops5_r : FnB F.expr_ops_5 fun a b => decide (a < b) := by
  intro a b w
  refine K.start hmix E.expr_ops_5 (args := [_, _]) (Nat.le_of_ble_eq_true rfl) ?_
  dsimp only [C.expr_ops_5]; refine Yy ?_
  refine Go1 ?_
  (refine ⟨?_, ?_⟩ <;> first | trivial | rfl | (repeat' first | assumption | exact Ext.refl _ | refine Ext.trans ?_ (by assumption)))
theorem ops6_r : FnB F.expr_ops_6 fun a b => decide (a ≤ b) := by
  intro a b w
  refine K.start hmix E.expr_ops_6 (args := [_, _]) (Nat.le_of_ble_eq_true rfl) ?_
  dsimp only [C.expr_ops_6]; refine Yy ?_
  refine Go1 ?_
  (refine ⟨?_, ?_⟩ <;> first | trivial | rfl | (repeat' first | assumption | exact Ext.refl _ | refine Ext.trans ?_ (by assumption)))
theorem ops7_r : FnB F.expr_ops_7 fun a b => !decide (a = 0) && !decide (b = 0) := by
  intro a b w
  refine K.start hmix E.expr_ops_7 (args := [_, _]) (Nat.le_of_ble_eq_true rfl) ?_
  dsimp only [C.expr_ops_7]; refine Yy ?_
  refine Go1 ?_
  refine K.cond (fun h => ?_) (fun h => ?_)
  all_goals
    refine Go1 ?_
    exact ⟨by simp [h], trivial⟩
theorem ops8_r : FnB F.expr_ops_8 fun a b => !decide (a = 0) || !decide (b = 0) := by
  intro a b w
  refine K.start hmix E.expr_ops_8 (args := [_, _]) (Nat.le_of_ble_eq_true rfl) ?_
  dsimp only [C.expr_ops_8]; refine Yy ?_
  refine Go1 ?_
  refine K.cond (fun h => ?_) (fun h => ?_)
  all_goals
    refine Go1 ?_
    exact ⟨by simp [h], trivial⟩
end Go.Proofs.Ytfdohkdifdemeaa
end
section
/- The table of operations. -/
set_option maxRecDepth 4000
set_option linter.unusedSimpArgs false
set_option maxHeartbeats 4000000
namespace Go.Proofs.Ytfdohkdifdemeaa
open Go Go.RowKit Lite

/-- What an operation does with two values: a plain function, or one that asks a test which lies in a cell. -/
def DoesR (w : World) (v : Value) (g : Int → Int → Int × Bool) : Prop :=
  (∃ f, v = .func (.func f) #[] #[] ∧ okF Try.prog f = true ∧ Fn2b f g) ∨
  (∃ c f p, v = .func (.func F.expr_says_1) #[] #[.pointer (some ⟨c, 0, none⟩)] ∧ w.heap[c]? = some (.cells #[.func (.func f) #[] #[]] T.func_int_int_bool) ∧ okF Try.prog f = true ∧ FnB f p ∧ g = fun a b => (Abs.bit (p a b), true))
theorem says1_r (c f : Nat) (p : Int → Int → Bool) (a b : Int) (w : World) (hc : w.heap[c]? = some (.cells #[.func (.func f) #[] #[]] T.func_int_int_bool)) (hf : okF Try.prog f = true) (hp : FnB f p) :
    Ret Try.prog F.expr_says_1 #[.int .i64 a, .int .i64 b, .pointer (some ⟨c, 0, none⟩)] w fun v w' => v = .tuple #[.int .i64 (Abs.bit (p a b)), .bool true] ∧ Ext w w' := by
  refine K.start hmix E.expr_says_1 (args := [_, _, _]) (Nat.le_of_ble_eq_true rfl) ?_
  dsimp only [C.expr_says_1]; refine Yy ?_
  refine St ?_
  refine K.callV (first := []) (cap := []) hf (hp a b w) ?_
  rintro _ _ ⟨rfl, rfl⟩
  refine Go1 ?_
  refine K.call (bit_r _ _) ?_
  rintro _ _ ⟨rfl, rfl⟩
  refine Go1 ?_
  (refine ⟨?_, ?_⟩ <;> first | trivial | rfl | (repeat' first | assumption | exact Ext.refl _ | refine Ext.trans ?_ (by assumption)))
theorem K.does {v : Value} {g : Int → Int → Int × Bool} {a b : Int} {w : World} {KK : Value → World → Prop} {t} (h : DoesR w v g) (hk : ∀ w', Ext w w' → KK (.tuple #[.int .i64 (g a b).1, .bool (g a b).2]) w') : CallVh Try.prog v [.int .i64 a, .int .i64 b] w KK t := by
  rcases h with ⟨f, rfl, hf, h⟩ | ⟨c, f, p, rfl, hc, hf, h, rfl⟩
  · exact K.callV0 (first := []) (cap := []) hf (h a b w) fun v w' ⟨h1, h2⟩ => by subst h1; exact hk w' h2
  · exact K.callV0 (first := []) (cap := [_]) (by kernel_rfl) (says1_r c f p a b w hc hf h) fun v w' ⟨h1, h2⟩ => by subst h1; exact hk w' h2
/-- The cells of an operation. -/
def OpV (w : World) (o : Abs.OpD) (v : Value) : Prop := ∃ u, v = .agg #[.int .i64 o.parts, .int .i64 o.takes, .int .i64 o.makes, u] ∧ DoesR w u o.does
/-- The table of operations. -/
def OpsIs (w : World) (m : Value) : Prop := ∃ r es c l, m = .map (some r) ∧ w.heap[r]? = some (.map es c) ∧ KV (Value.int .i64) es.toList l ∧
  ∀ x : Int, match Abs.opOf x with
    | some o => ∃ p, l.find? (fun p => decide (x = p.1)) = some p ∧ OpV w o p.2
    | none => l.find? (fun p => decide (x = p.1)) = none
theorem says_r (takes : Int) (f : Nat) (w : World) : Ret Try.prog F.expr_says #[.int .i64 takes, .func (.func f) #[] #[]] w
    fun v w' => (∃ c, v = .agg #[.int .i64 2, .int .i64 takes, .int .i64 1, .func (.func F.expr_says_1) #[] #[.pointer (some ⟨c, 0, none⟩)]] ∧ w'.heap[c]? = some (.cells #[.func (.func f) #[] #[]] T.func_int_int_bool)) ∧ Ext w w' := by
  refine K.start hmix E.expr_says (args := [_, _]) (Nat.le_of_ble_eq_true rfl) ?_
  dsimp only [C.expr_says]; refine Yy ?_
  refine Go1 ?_
  refine K.new fun w1 c hc he1 hc1 => ?_
  refine Go1 ?_
  refine K.new fun w2 b hb he2 hc2 => ?_
  refine Go1 ?_
  refine K.bld (cs := [.int .i64 2, .int .i64 takes, .int .i64 1, .func (.func F.expr_says_1) #[] #[.pointer (some ⟨c, 0, none⟩)]]) (by simp [fillC, lay, ev_tmp, ev_const, upd_at, fr0_cons, Value.cells]) ?_
  refine Go1 ?_
  refine K.stAb hc2 rfl rfl (by simp [Value.oneCell']) fun w3 hw hc3 => ?_
  have h1 := lt_of_heap hc1
  have hne : c ≠ b := by omega
  refine Go1 ?_
  refine K.ldA (cellsAt_blk hc3) rfl ?_
  refine Go1 ?_
  exact ⟨⟨c, rfl, (hw.block c hne).trans (he2.obj hc1)⟩, hw.ext (he1.trans he2) (by have := he1.size; omega)⟩
theorem ops_r (w : World) : Ret Try.prog F.expr_ops #[] w fun v w' => OpsIs w' v ∧ Ext w w' := by
  refine K.start hmix E.expr_ops (args := []) (Nat.le_of_ble_eq_true rfl) ?_
  dsimp only [C.expr_ops]; refine Yy ?_
  refine Go1 ?_
  refine K.newM fun w0 r hr he0 m0 => ?_
  refine Go1 ?_
  refine K.bld (cs := [.int .i64 1, .int .i64 1, .int .i64 1, .func (.func F.expr_ops_1) #[] #[]]) (by simp [fillC, lay, ev_tmp, ev_const, ev_func, upd_at, fr0_cons, Value.cells]) ?_
  refine Go1 ?_
  refine K.mupb m0 rfl fun w1 x1 m1 => ?_
  refine Go1 ?_
  refine K.bld (cs := [.int .i64 1, .int .i64 0, .int .i64 0, .func (.func F.expr_ops_2) #[] #[]]) (by simp [fillC, lay, ev_tmp, ev_const, ev_func, upd_at, fr0_cons, Value.cells]) ?_
  refine Go1 ?_
  refine K.mupb m1 rfl fun w2 x2 m2 => ?_
  refine Go1 ?_
  refine K.bld (cs := [.int .i64 2, .int .i64 0, .int .i64 0, .func (.func F.num_Add) #[] #[]]) (by simp [fillC, lay, ev_tmp, ev_const, ev_func, upd_at, fr0_cons, Value.cells]) ?_
  refine Go1 ?_
  refine K.mupb m2 rfl fun w3 x3 m3 => ?_
  refine Go1 ?_
  refine K.bld (cs := [.int .i64 2, .int .i64 0, .int .i64 0, .func (.func F.num_Sub) #[] #[]]) (by simp [fillC, lay, ev_tmp, ev_const, ev_func, upd_at, fr0_cons, Value.cells]) ?_
  refine Go1 ?_
  refine K.mupb m3 rfl fun w4 x4 m4 => ?_
  refine Go1 ?_
  refine K.bld (cs := [.int .i64 2, .int .i64 0, .int .i64 0, .func (.func F.num_Mul) #[] #[]]) (by simp [fillC, lay, ev_tmp, ev_const, ev_func, upd_at, fr0_cons, Value.cells]) ?_
  refine Go1 ?_
  refine K.mupb m4 rfl fun w5 x5 m5 => ?_
  have e5 : Ext w w5 := x5.ext (x4.ext (x3.ext (x2.ext (x1.ext he0 hr) hr) hr) hr) hr
  clear x1 x2 x3 x4 x5 m0 m1 m2 m3 m4
  refine Go1 ?_
  refine K.call (says_r (-1) F.expr_ops_3 _) ?_
  rintro _ v6 ⟨⟨c6, rfl, k6⟩, y6⟩
  refine Go1 ?_
  refine K.mupb (y6.obj m5) rfl fun w6 x6 m6 => ?_
  refine Go1 ?_
  refine K.call (says_r (-1) F.expr_ops_4 _) ?_
  rintro _ v7 ⟨⟨c7, rfl, k7⟩, y7⟩
  refine Go1 ?_
  refine K.mupb (y7.obj m6) rfl fun w7 x7 m7 => ?_
  refine Go1 ?_
  refine K.call (says_r 0 F.expr_ops_5 _) ?_
  rintro _ v8 ⟨⟨c8, rfl, k8⟩, y8⟩
  refine Go1 ?_
  refine K.mupb (y8.obj m7) rfl fun w8 x8 m8 => ?_
  refine Go1 ?_
  refine K.call (says_r 0 F.expr_ops_6 _) ?_
  rintro _ v9 ⟨⟨c9, rfl, k9⟩, y9⟩
  refine Go1 ?_
  refine K.mupb (y9.obj m8) rfl fun w9 x9 m9 => ?_
  refine Go1 ?_
  refine K.call (says_r 1 F.expr_ops_7 _) ?_
  rintro _ v10 ⟨⟨c10, rfl, k10⟩, y10⟩
  refine Go1 ?_
  refine K.mupb (y10.obj m9) rfl fun w10 x10 m10 => ?_
  refine Go1 ?_
  refine K.call (says_r 1 F.expr_ops_8 _) ?_
  rintro _ v11 ⟨⟨c11, rfl, k11⟩, y11⟩
  refine Go1 ?_
  refine K.mupb (y11.obj m10) rfl fun w11 x11 m11 => ?_
  refine Go1 ?_
  have ne : ∀ {w : World} {c : Nat} {es : Array MapEntry} {n : Nat} {cs : Array Value} {t : TypeId}, w.heap[r]? = some (.map es n) → w.heap[c]? = some (.cells cs t) → c ≠ r := by
    intro w c es n cs t h1 h2 e
    subst e
    rw [h1] at h2
    injection h2 with h2
    cases h2
  have a6 := (x6.block c6 (ne (y6.obj m5) k6)).trans k6
  have a7 := (x7.block c7 (ne (y7.obj m6) k7)).trans k7
  have a8 := (x8.block c8 (ne (y8.obj m7) k8)).trans k8
  have a9 := (x9.block c9 (ne (y9.obj m8) k9)).trans k9
  have a10 := (x10.block c10 (ne (y10.obj m9) k10)).trans k10
  have a11 := (x11.block c11 (ne (y11.obj m10) k11)).trans k11
  have t7 : ∀ {c : Nat} {o : Obj}, c ≠ r → w6.heap[c]? = some o → w7.heap[c]? = some o := fun hc h => (x7.block _ hc).trans (y7.obj h)
  have t8 : ∀ {c : Nat} {o : Obj}, c ≠ r → w7.heap[c]? = some o → w8.heap[c]? = some o := fun hc h => (x8.block _ hc).trans (y8.obj h)
  have t9 : ∀ {c : Nat} {o : Obj}, c ≠ r → w8.heap[c]? = some o → w9.heap[c]? = some o := fun hc h => (x9.block _ hc).trans (y9.obj h)
  have t10 : ∀ {c : Nat} {o : Obj}, c ≠ r → w9.heap[c]? = some o → w10.heap[c]? = some o := fun hc h => (x10.block _ hc).trans (y10.obj h)
  have t11 : ∀ {c : Nat} {o : Obj}, c ≠ r → w10.heap[c]? = some o → w11.heap[c]? = some o := fun hc h => (x11.block _ hc).trans (y11.obj h)
  have n6 := ne m6 a6
  have n7 := ne m7 a7
  have n8 := ne m8 a8
  have n9 := ne m9 a9
  have n10 := ne m10 a10
  replace a6 := t11 n6 (t10 n6 (t9 n6 (t8 n6 (t7 n6 a6))))
  replace a7 := t11 n7 (t10 n7 (t9 n7 (t8 n7 a7)))
  replace a8 := t11 n8 (t10 n8 (t9 n8 a8))
  replace a9 := t11 n9 (t10 n9 a9)
  replace a10 := t11 n10 a10
  have hx : Ext w w11 := x11.ext ((x10.ext ((x9.ext ((x8.ext ((x7.ext ((x6.ext (e5.trans y6) hr).trans y7) hr).trans y8) hr).trans y9) hr).trans y10) hr).trans y11) hr
  refine ⟨⟨r, _, _, [(9, _), (10, _), (11, _), (12, _), (13, _), (14, _), (15, _), (16, _), (17, _), (18, _), (19, _)], rfl, m11, rfl, fun x => ?_⟩, hx⟩
  have hd : ∀ {f : Nat} {g : Int → Int → Int × Bool}, okF Try.prog f = true → Fn2b f g → DoesR w11 (.func (.func f) #[] #[]) g := fun h1 h2 => .inl ⟨_, rfl, h1, h2⟩
  have hs : ∀ {c f : Nat} {p : Int → Int → Bool}, w11.heap[c]? = some (.cells #[.func (.func f) #[] #[]] T.func_int_int_bool) → okF Try.prog f = true → FnB f p → DoesR w11 (.func (.func F.expr_says_1) #[] #[.pointer (some ⟨c, 0, none⟩)]) fun a b => (Abs.bit (p a b), true) :=
    fun h1 h2 h3 => .inr ⟨_, _, _, rfl, h1, h2, h3, rfl⟩
  unfold Abs.opOf
  by_cases g9 : x = 9
  · subst g9; exact ⟨_, rfl, _, rfl, hd (by kernel_rfl) ops1_r⟩
  by_cases g10 : x = 10
  · subst g10; exact ⟨_, rfl, _, rfl, hd (by kernel_rfl) ops2_r⟩
  by_cases g11 : x = 11
  · subst g11; exact ⟨_, rfl, _, rfl, hd (by kernel_rfl) add_r⟩
  by_cases g12 : x = 12
  · subst g12; exact ⟨_, rfl, _, rfl, hd (by kernel_rfl) sub_r⟩
  by_cases g13 : x = 13
  · subst g13; exact ⟨_, rfl, _, rfl, hd (by kernel_rfl) mul_r⟩
  by_cases g14 : x = 14
  · subst g14; exact ⟨_, rfl, _, rfl, hs a6 (by kernel_rfl) ops3_r⟩
  by_cases g15 : x = 15
  · subst g15; exact ⟨_, rfl, _, rfl, hs a7 (by kernel_rfl) ops4_r⟩
  by_cases g16 : x = 16
  · subst g16; exact ⟨_, rfl, _, rfl, hs a8 (by kernel_rfl) ops5_r⟩
  by_cases g17 : x = 17
  · subst g17; exact ⟨_, rfl, _, rfl, hs a9 (by kernel_rfl) ops6_r⟩
  by_cases g18 : x = 18
  · subst g18; exact ⟨_, rfl, _, rfl, hs a10 (by kernel_rfl) ops7_r⟩
  by_cases g19 : x = 19
  · subst g19; exact ⟨_, rfl, _, rfl, hs a11 (by kernel_rfl) ops8_r⟩
  simp [g9, g10, g11, g12, g13, g14, g15, g16, g17, g18, g19]
/-- What a look-up gives. -/
theorem OpsIs.look {w : World} {m : Value} (h : OpsIs w m) (x : Int) : ∃ es r, MapOf w m es ∧ Instr.findNow (.int .i64) (.int .i64 x) es.toList 0 = some r ∧
    match Abs.opOf x with
    | some o => ∃ i v, r = some (i, v) ∧ OpV w o v
    | none => r = none := by
  obtain ⟨r, es, c, l, rfl, hh, hkv, hx⟩ := h
  obtain ⟨q, h1, h2⟩ := findNow_kv (same_int .i64 .i64) x es.toList l 0 hkv
  refine ⟨es, q, .inr ⟨r, c, rfl, hh⟩, h1, ?_⟩
  have := hx x
  cases ho : Abs.opOf x with
  | none =>
    simp only [ho] at this ⊢
    rw [this] at h2
    cases q with
    | none => rfl
    | some q => simp at h2
  | some o =>
    simp only [ho] at this ⊢
    obtain ⟨p, hp, hv⟩ := this
    rw [hp] at h2
    cases q with
    | none => simp at h2
    | some q => simp at h2; exact ⟨q.1, q.2, rfl, h2 ▸ hv⟩
theorem OpsIs.mod {A : Nat → Prop} {w w' : World} {m : Value} (h : OpsIs w m) (hm : Mod A w w') (hA : ∀ k o, w.heap[k]? = some o → (∃ es c, o = .map es c) ∨ (∃ cs, o = .cells cs T.func_int_int_bool) → ¬ A k) : OpsIs w' m := by
  obtain ⟨r, es, c, l, rfl, hh, hkv, hx⟩ := h
  refine ⟨r, es, c, l, rfl, hm.obj (hA r _ hh (.inl ⟨_, _, rfl⟩)) hh, hkv, fun x => ?_⟩
  have := hx x
  cases ho : Abs.opOf x with
  | none => simpa only [ho] using this
  | some o =>
    simp only [ho] at this ⊢
    obtain ⟨p, hp, u, hv, hd⟩ := this
    refine ⟨p, hp, u, hv, ?_⟩
    rcases hd with hd | ⟨c, f, p, h1, h2, h3⟩
    · exact .inl hd
    · exact .inr ⟨c, f, p, h1, hm.obj (hA c _ h2 (.inr ⟨_, rfl⟩)) h2, h3⟩
theorem OpsIs.ext {w w' : World} {m : Value} (h : OpsIs w m) (he : Ext w w') : OpsIs w' m := h.mod (A := fun _ => False) he.mod fun _ _ _ _ h => h
theorem parts_r (x : Int) (m : Value) (w : World) (h : OpsIs w m) : Ret Try.prog F.expr_parts #[.int .i64 x, m] w fun v w' => v = .int .i64 (Abs.nparts x) ∧ Ext w w' := by
  refine K.start hmix E.expr_parts (args := [_, _]) (Nat.le_of_ble_eq_true rfl) ?_
  dsimp only [C.expr_parts]; refine Yy ?_
  obtain ⟨es, r, h2, h3, h4⟩ := h.look x
  simp -dsimp only [B9]
  simp -dsimp only [LL,Nat.reduceAdd,Nat.reduceEqDiff,reduceIte,reduceCtorEq,Bool.false_eq_true]
  refine K.cut (fun S' w' => S' 0 = .int .i64 x ∧ S' 1 = m ∧ w' = w ∧ x ≠ 3 ∧ ¬ (1 ≤ x ∧ x ≤ 8)) ?_ ?_
  · refine Go1 ?_
    refine K.cond (fun h1 => ?_) (fun h1 => ?_)
    · refine Go1 ?_
      exact ⟨by simp [Abs.nparts, h1], Ext.refl _⟩
    refine Go1 ?_
    refine K.cond (fun h5 => ?_) (fun h5 => ?_)
    · refine Go1 ?_
      refine K.cond (fun h6 => ?_) (fun h6 => ?_)
      · refine Go1 ?_
        exact ⟨by simp [Abs.nparts, h1, h5, h6], Ext.refl _⟩
      · refine Go1 ?_
        refine ⟨trivial, trivial, trivial, h1, by omega⟩
    · refine Go1 ?_
      refine ⟨trivial, trivial, trivial, h1, by omega⟩
  · rintro S w' hS ⟨s0, s1, rfl, x3, x8⟩
    refine Gw (And.intro s0 s1) ?_
    refine K.lkp h2 h3 ?_
    cases ho : Abs.opOf x with
    | none =>
      simp only [ho] at h4
      subst h4
      simp only [lkpV, Option.map_none, Option.getD_none, Option.isSome_none, if_true]
      have hp : Abs.nparts x = -1 := by
        unfold Abs.opOf at ho
        unfold Abs.nparts
        repeat' split
        all_goals first | rfl | (exfalso; omega) | skip
        all_goals
          exfalso
          (repeat' split at ho)
          all_goals first | (cases ho; done) | omega
      refine Go1 ?_
      refine K.newst (vs := [.int .i64 0, .int .i64 0, .int .i64 0, .nilFunc]) (fun _ => by simp -dsimp only [LL,B9,Nat.reduceAdd,Nat.reduceEqDiff,reduceIte,reduceCtorEq,Bool.false_eq_true]) rfl rfl (by simp [Value.oneCell']) fun w1 b hb he hc => ?_
      refine Go1 ?_
      rw [hp]
      (refine ⟨?_, ?_⟩ <;> first | trivial | rfl | (repeat' first | assumption | exact Ext.refl _ | refine Ext.trans ?_ (by assumption)))
    | some o =>
      simp only [ho] at h4
      obtain ⟨i, v, rfl, u, rfl, hd⟩ := h4
      simp only [lkpV, Option.map_some, Option.getD_some, Option.isSome_some, if_true]
      refine Go1 ?_
      refine K.newst (vs := [.int .i64 o.parts, .int .i64 o.takes, .int .i64 o.makes, u]) (fun _ => by simp -dsimp only [LL,B9,Nat.reduceAdd,Nat.reduceEqDiff,reduceIte,reduceCtorEq,Bool.false_eq_true]) rfl rfl (by rcases hd with ⟨f, rfl, _⟩ | ⟨c, f, p, rfl, _⟩ <;> simp [Value.oneCell']) fun w1 b hb he hc => ?_
      refine St ?_
      rw [(Abs.opOf_parts ho).1]
      (refine ⟨?_, ?_⟩ <;> first | trivial | rfl | (repeat' first | assumption | exact Ext.refl _ | refine Ext.trans ?_ (by assumption)))
end Go.Proofs.Ytfdohkdifdemeaa
end
section
/- What the leaves of expressions are: kinds. -/
set_option maxRecDepth 4000
set_option linter.unusedSimpArgs false
set_option maxHeartbeats 4000000
namespace Abs
open Go Go.RowKit Lite
/-- The six cells of a scope. -/
structure ScopeIs (w : World) (cs : List Value) (s : Scope) : Prop where
  sm : s.vars.length ≤ 1152921504606846976 ∧ s.chans.length ≤ 1152921504606846976 ∧ s.procs.length ≤ 1152921504606846976 ∧ s.locals.length ≤ 1152921504606846976 ∧ inI s.self
  ex : ∃ v0 v1 v2 v3 v4, cs = [v0, v1, v2, v3, v4, .int .i64 s.self] ∧ Scalars w v0 s.scalars ∧ Vars w v1 s.vars ∧ Chans w v2 s.chans ∧ Procs w v3 s.procs ∧ Vars w v4 s.locals ∧ s.scalars.length ≤ 4611686018427387904
theorem ScopeIs.ext {w w' : World} {cs : List Value} {s : Scope} (he : Ext w w') (h : ScopeIs w cs s) : ScopeIs w' cs s :=
  let ⟨v0, v1, v2, v3, v4, e, h0, h1, h2, h3, h4, h5⟩ := h.ex
  ⟨h.sm, v0, v1, v2, v3, v4, e, h0.ext he, h1.ext he, h2.ext he, h3.ext he, h4.ext he, h5⟩
/-- The slots of a scope, written out. -/
theorem ScopeIs.form {w : World} {cs : List Value} {s : Scope} (h : ScopeIs w cs s) : ∃ a0 c0 a1 c1 a2 c2 a3 c3 a4 c4, cs = [.slice a0 s.scalars.length c0, .slice a1 s.vars.length c1, .slice a2 s.chans.length c2, .slice a3 s.procs.length c3, .slice a4 s.locals.length c4, .int .i64 s.self] ∧
    Scalars w (.slice a0 s.scalars.length c0) s.scalars ∧ Vars w (.slice a1 s.vars.length c1) s.vars ∧ Chans w (.slice a2 s.chans.length c2) s.chans ∧ Procs w (.slice a3 s.procs.length c3) s.procs ∧ Vars w (.slice a4 s.locals.length c4) s.locals ∧
    s.scalars.length ≤ 4611686018427387904 ∧ s.vars.length ≤ 9223372036854775807 ∧ s.chans.length ≤ 9223372036854775807 ∧ s.procs.length ≤ 9223372036854775807 ∧ s.locals.length ≤ 9223372036854775807 := by
  obtain ⟨v0, v1, v2, v3, v4, rfl, h0, h1, h2, h3, h4, h5⟩ := h.ex
  obtain ⟨a0, c0, rfl, _⟩ := h0.form
  obtain ⟨a1, c1, rfl, l1⟩ := h1.form
  obtain ⟨a2, c2, rfl, l2⟩ := h2.form
  obtain ⟨a3, c3, rfl, l3⟩ := h3.form
  obtain ⟨a4, c4, rfl, l4⟩ := h4.form
  exact ⟨a0, c0, a1, c1, a2, c2, a3, c3, a4, c4, rfl, h0, h1, h2, h3, h4, h5, l1, l2, l3, l4⟩
end Abs
namespace Go.Proofs.Ytfdohkdifdemeaa
open Go Go.RowKit Lite

theorem scalar_r (n : Int) (cs : List Value) (s : Abs.Scope) (w : World) (h : Abs.ScopeIs w cs s) :
    Ret Try.prog F.expr_scalar #[.int .i64 n, .agg cs.toArray] w fun v w' => v = .tuple #[.int .i64 (Abs.kscalar n s).1, .bool (Abs.kscalar n s).2] ∧ Ext w w' := by
  obtain ⟨a0, c0, a1, c1, a2, c2, a3, c3, a4, c4, rfl, h0, h1, h2, h3, h4, l0, l1, l2, l3, l4⟩ := h.form
  refine K.start hmix E.expr_scalar (args := [_, _]) (Nat.le_of_ble_eq_true rfl) ?_
  dsimp only [C.expr_scalar]; refine Yy ?_
  refine Go1 ?_
  refine K.new fun w1 b hb he1 hc1 => ?_
  (repeat' (refine St ?_; first | (refine K.cond (fun _ => ?_) (fun _ => ?_) <;> try (exfalso; omega)) | refine K.condb (fun _ => ?_) (fun _ => ?_))) <;> try refine St ?_
  all_goals
    refine ⟨?_, by (repeat' first | assumption | exact Ext.refl _ | refine Ext.trans ?_ (by assumption))⟩
    unfold Abs.kscalar
    (repeat' split) <;> first | rfl | (exfalso; omega)
theorem variable_r (v : Value) (l : List Abs.Var) (n : Int) (cs : List Value) (s : Abs.Scope) (w : World) (hl : Abs.Vars w v l) (h : Abs.ScopeIs w cs s) :
    Ret Try.prog F.expr_variable #[v, .int .i64 n, .agg cs.toArray] w fun v w' => v = .tuple #[.int .i64 (Abs.kvar l n s).1, .int .i64 (Abs.kvar l n s).2.1, .bool (Abs.kvar l n s).2.2] ∧ Ext w w' := by
  obtain ⟨a0, c0, a1, c1, a2, c2, a3, c3, a4, c4, rfl, _⟩ := h.form
  obtain ⟨oa, cap, rfl, hlen⟩ := hl.form
  refine K.start hmix E.expr_variable (args := [_, _, _]) (Nat.le_of_ble_eq_true rfl) ?_
  dsimp only [C.expr_variable]; refine Yy ?_
  refine Go1 ?_
  refine K.new fun w1 b hb he1 hc1 => ?_
  refine Go1 ?_
  refine K.cond (fun g1 => ?_) (fun g1 => ?_)
  · refine Go1 ?_
    rw [Abs.kvar, Abs.nth_none (.inl g1)]
    (refine ⟨?_, ?_⟩ <;> first | trivial | rfl | (repeat' first | assumption | exact Ext.refl _ | refine Ext.trans ?_ (by assumption)))
  refine Go1 ?_
  refine K.cond (fun g2 => ?_) (fun g2 => ?_)
  · refine Go1 ?_
    rw [Abs.kvar, Abs.nth_none (.inr (by omega))]
    (refine ⟨?_, ?_⟩ <;> first | trivial | rfl | (repeat' first | assumption | exact Ext.refl _ | refine Ext.trans ?_ (by assumption)))
  refine Go1 ?_
  obtain ⟨i, rfl⟩ := Int.eq_ofNat_of_zero_le (show 0 ≤ n by omega)
  have hi : i < l.length := by omega
  rw [Abs.kvar, Abs.nth_some (by omega) (by omega)]
  simp only [Int.toNat_natCast]
  obtain ⟨a, rfl⟩ := hl.addr (by omega)
  refine St ?_
  refine K.ldAb (c := [_, _, _, _, _, _]) hc1 (Ext.refl _) rfl ?_
  refine Go1 ?_
  refine K.qfn _ (fun w' e => scalar_r _ _ s w' (h.ext (he1.trans e))) ?_
  refine Go1 ?_
  intro w2 he2
  refine St ?_
  refine K.ldAb (c := [_, _, _, _, _, _]) hc1 he2 rfl ?_
  refine Go1 ?_
  refine K.qfn _ (fun w' e => scalar_r _ _ s w' (h.ext ((he1.trans he2).trans e))) ?_
  refine Go1 ?_
  intro w3 he3
  refine St ?_
  refine K.condb (fun g3 => ?_) (fun g3 => ?_)
  all_goals
    refine Go1 ?_
    refine ⟨?_, by (repeat' first | assumption | exact Ext.refl _ | refine Ext.trans ?_ (by assumption))⟩
    simp [g3]
theorem knamed_r (x : Abs.Node) (cs : List Value) (s : Abs.Scope) (w : World) (hx : x.ok) (h : Abs.ScopeIs w cs s) :
    Ret Try.prog F.expr_named #[.agg x.enc.toArray, .agg cs.toArray] w fun v w' => v = .tuple #[.int .i64 (Abs.knamed x s).1, .int .i64 (Abs.knamed x s).2] ∧ Ext w w' := by
  obtain ⟨a0, c0, a1, c1, a2, c2, a3, c3, a4, c4, rfl, h0, h1, h2, h3, h4, l0, l1, l2, l3, l4⟩ := h.form
  refine K.start hmix E.expr_named (args := [_, _]) (Nat.le_of_ble_eq_true rfl) ?_
  dsimp only [C.expr_named]; refine Yy ?_
  refine Go1 ?_
  refine K.new fun w1 b1 hb1 he1 hc1 => ?_
  refine Go1 ?_
  refine K.new fun w2 b2 hb2 he2 hc2 => ?_
  have k1 : w2.heap[b1]? = some (.cells #[.int .i64 x.op, .int .i64 x.n] T.api_Node) := he2.obj hc1
  clear hc1
  refine St ?_
  refine K.cond (fun g5 => ?_) (fun g5 => ?_)
  · (repeat' (refine St ?_; first | (refine K.cond (fun _ => ?_) (fun _ => ?_) <;> try (exfalso; omega)) | refine K.condb (fun _ => ?_) (fun _ => ?_))) <;> try refine St ?_
    all_goals
      refine ⟨?_, by (repeat' first | assumption | exact Ext.refl _ | refine Ext.trans ?_ (by assumption))⟩
      rw [Abs.knamed, if_pos g5]
      split <;> first | rfl | (exfalso; omega)
  refine St ?_
  refine K.cond (fun g6 => ?_) (fun g6 => ?_)
  · have hk : Abs.knamed x s = Abs.kLen x.n s := by rw [Abs.knamed, if_neg g5, if_pos g6]
    rw [hk, Abs.kLen]
    refine St ?_
    refine K.cond (fun g1 => ?_) (fun g1 => ?_)
    rotate_left
    · refine St ?_
      rw [Abs.nth_none (.inl (by omega))]
      (refine ⟨?_, ?_⟩ <;> first | trivial | rfl | (repeat' first | assumption | exact Ext.refl _ | refine Ext.trans ?_ (by assumption)))
    refine St ?_
    refine K.cond (fun g2 => ?_) (fun g2 => ?_)
    rotate_left
    · refine St ?_
      rw [Abs.nth_none (.inr (by omega))]
      (refine ⟨?_, ?_⟩ <;> first | trivial | rfl | (repeat' first | assumption | exact Ext.refl _ | refine Ext.trans ?_ (by assumption)))
    refine St ?_
    rw [Abs.nth_some (by omega) (by omega)]
    obtain ⟨a, rfl⟩ := h2.addr (by omega)
    have hi : x.n.toNat < s.chans.length := by omega
    refine K.ian x.n.toNat (by omega) hi ?_
    refine St ?_
    refine K.ldAb (c := [_, _, _, _, _, _]) hc2 (Ext.refl _) rfl ?_
    refine Go1 ?_
    refine K.qfn _ (fun w' e => scalar_r _ _ s w' (h.ext ((he1.trans he2).trans e))) ?_
    refine Go1 ?_
    intro w3 he3
    refine K.condb (fun g3 => ?_) (fun g3 => ?_)
    all_goals
      refine Go1 ?_
      refine ⟨?_, by (repeat' first | assumption | exact Ext.refl _ | refine Ext.trans ?_ (by assumption))⟩
      simp [g3]
  refine St ?_
  refine K.cond (fun g7 => ?_) (fun g7 => ?_)
  · have hk : Abs.knamed x s = Abs.kAt x.n s := by rw [Abs.knamed, if_neg g5, if_neg g6, if_pos g7]
    rw [hk, Abs.kAt]
    refine St ?_
    refine K.cond (fun g1 => ?_) (fun g1 => ?_)
    rotate_left
    · refine St ?_
      intro w3 he3
      refine St ?_
      rw [if_neg g1]
      (refine ⟨?_, ?_⟩ <;> first | trivial | rfl | (repeat' first | assumption | exact Ext.refl _ | refine Ext.trans ?_ (by assumption)))
    rw [if_pos g1]
    obtain ⟨i, hi⟩ := Int.eq_ofNat_of_zero_le g1
    obtain ⟨_, hx2⟩ := hx.n
    rw [hi] at hx2
    have hq : x.n.tdiv 16 = ((i / 16 : Nat) : Int) := by rw [hi]; rfl
    have hm : x.n.tmod 16 = ((i % 16 : Nat) : Int) := by rw [hi]; rfl
    refine St ?_
    refine K.quo (by omega) ?_
    rw [hq]
    refine St ?_
    refine K.cond (fun g2 => ?_) (fun g2 => ?_)
    rotate_left
    · refine St ?_
      intro w3 he3
      refine St ?_
      rw [Abs.nth_none (.inr (by omega))]
      (refine ⟨?_, ?_⟩ <;> first | trivial | rfl | (repeat' first | assumption | exact Ext.refl _ | refine Ext.trans ?_ (by assumption)))
    have hj : i / 16 < s.procs.length := by omega
    rw [Abs.nth_some (by omega) (by omega)]
    simp only [Int.toNat_natCast]
    refine St ?_
    refine K.rem (by omega) ?_
    refine St ?_
    refine K.quo (by omega) ?_
    rw [hq]
    obtain ⟨a, rfl⟩ := h3.addr (by omega)
    obtain ⟨_, vv, vc, hcp, _⟩ := h3.at (i / 16) hj
    have hcp2 : w.cell? ((a.add (i / 16 * 5)).add 2) = some (.int .i64 s.procs[i / 16].locs) := hcp 2 _ rfl
    refine St ?_
    refine K.ld ((he1.trans he2).cell hcp2) ?_
    refine St ?_
    rw [hm]
    intro w3 he3
    refine St ?_
    refine K.cond (fun g3 => ?_) (fun g3 => ?_)
    all_goals
      refine St ?_
      refine ⟨?_, by (repeat' first | assumption | exact Ext.refl _ | refine Ext.trans ?_ (by assumption))⟩
      first | rw [if_pos g3] | rw [if_neg g3]
  refine St ?_
  refine K.cond (fun g8 => ?_) (fun g8 => ?_)
  · (repeat' (refine St ?_; first | (refine K.cond (fun _ => ?_) (fun _ => ?_) <;> try (exfalso; omega)) | refine K.condb (fun _ => ?_) (fun _ => ?_))) <;> try refine St ?_
    all_goals
      refine ⟨?_, by (repeat' first | assumption | exact Ext.refl _ | refine Ext.trans ?_ (by assumption))⟩
      rw [Abs.knamed, if_neg g5, if_neg g6, if_neg g7, if_pos g8]
      split <;> first | rfl | (exfalso; omega)
  refine St ?_
  refine ⟨?_, by (repeat' first | assumption | exact Ext.refl _ | refine Ext.trans ?_ (by assumption))⟩
  rw [Abs.knamed, if_neg g5, if_neg g6, if_neg g7, if_neg g8]
end Go.Proofs.Ytfdohkdifdemeaa
end
section
/- The machine that works expressions off. -/
set_option maxRecDepth 4000
set_option linter.unusedSimpArgs false
set_option maxHeartbeats 4000000
namespace Go.Proofs.Ytfdohkdifdemeaa
open Go Go.RowKit Lite

abbrev encI : Int → List Value := fun n => [Value.int .i64 n]
abbrev OwnI (base : Nat) (w : World) (v : Value) (xs : List Int) : Prop := OwR encI T.int 1 base w v xs
structure MachIs (base b : Nat) (w : World) (m : Value) (st : List Int) : Prop where
  ex : ∃ sv, w.heap[b]? = some (.cells #[sv, m] T.expr_machine) ∧ OwnI base w sv st
  lt : b < base
  le : base ≤ w.heap.size
theorem MachIs.ext {base b : Nat} {w w' : World} {m : Value} {st : List Int} (h : MachIs base b w m st) (he : Ext w w') : MachIs base b w' m st :=
  let ⟨sv, h1, h2⟩ := h.ex
  ⟨⟨sv, he.obj h1, h2.ext he⟩, h.lt, Nat.le_trans h.le he.size⟩
theorem getLast_eq (st : List Int) (h : 0 < st.length) : st.getLastD 0 = st[st.length - 1] := by
  rw [List.getLastD_eq_getLast?, List.getLast?_eq_getElem?, List.getElem?_eq_getElem (by omega)]; rfl
theorem top_r (base b : Nat) (w : World) (m : Value) (st : List Int) (h : MachIs base b w m st) (h0 : 0 < st.length) :
    Ret Try.prog F.p_expr_machine_top #[.pointer (some ⟨b, 0, none⟩)] w fun v w' => v = .int .i64 (st.getLastD 0) ∧ Ext w w' := by
  obtain ⟨sv, hh, ho⟩ := h.ex
  obtain ⟨oa, cap, rfl, hc, hm⟩ := ho.form
  have hi : Ints w _ st := OwR.slr (enc := encI) (sz := 1) (fun _ => rfl) ho
  obtain ⟨a, rfl⟩ := hi.addr h0
  unfold maxLen at hm
  refine K.start hmix E.p_expr_machine_top (args := [_]) (Nat.le_of_ble_eq_true rfl) ?_
  dsimp only [C.p_expr_machine_top]; refine Yy ?_
  refine St ?_
  refine K.ian (st.length - 1) (by omega) (by omega) ?_
  refine St ?_
  intro w1 he
  refine St ?_
  rw [getLast_eq _ h0]
  (refine ⟨?_, ?_⟩ <;> first | trivial | rfl | (repeat' first | assumption | exact Ext.refl _ | refine Ext.trans ?_ (by assumption)))
/-- What a leaf asks. -/
theorem kleaf_r (x : Abs.Node) (cs : List Value) (s : Abs.Scope) (base b : Nat) (w : World) (m : Value) (st : List Int) (hx : x.ok) (h : Abs.ScopeIs w cs s) (hm : MachIs base b w m st) (h3 : x.op = 3 → 0 < st.length) :
    Ret Try.prog F.p_expr_machine_kind #[.pointer (some ⟨b, 0, none⟩), .agg x.enc.toArray, .agg cs.toArray] w fun v w' => v = .tuple #[.int .i64 (Abs.kleaf x s (st.getLastD 0)).1, .int .i64 (Abs.kleaf x s (st.getLastD 0)).2] ∧ Ext w w' := by
  obtain ⟨a0, c0, a1, c1, a2, c2, a3, c3, a4, c4, rfl, q0, q1, q2, q3, q4, l0, l1, l2, l3, l4⟩ := h.form
  refine K.start hmix E.p_expr_machine_kind (args := [_, _, _]) (Nat.le_of_ble_eq_true rfl) ?_
  dsimp only [C.p_expr_machine_kind]; refine Yy ?_
  simp -dsimp only [B9]
  refine Tt ?_
  refine K.new fun w1 b1 hb1 he1 hc1 => ?_
  refine Tt ?_
  refine K.new fun w2 b2 hb2 he2 hc2 => ?_
  have he := he1.trans he2
  have k1 : w2.heap[b1]? = some (.cells #[.int .i64 x.op, .int .i64 x.n] T.api_Node) := he2.obj hc1
  clear hc1
  refine Tt ?_
  simp -dsimp only [B9]
  refine Tt ?_
  refine K.cut (fun S' w' => S' 0 = .pointer (some ⟨b, 0, none⟩) ∧ S' 4 = .pointer (some ⟨b1, 0, none⟩) ∧ S' 5 = .pointer (some ⟨b2, 0, none⟩) ∧ w' = w2 ∧ (x.op = 2 ∨ x.op = 3 ∨ x.op = 4) ∧
    S' 8 = if x.op = 4 then .slice a4 s.locals.length c4 else .slice a1 s.vars.length c1) ?_ ?_
  · refine St ?_
    refine K.cond (fun g1 => ?_) (fun g1 => ?_)
    · refine St ?_
      refine K.call (add_r x.n 0 w2) ?_
      rintro _ w3 ⟨rfl, he3⟩
      have hk : Abs.kleaf x s (st.getLastD 0) = if Abs.within x.n then (0, 0) else (0, 10) := by rw [Abs.kleaf, if_pos g1]
      have ht : (Abs.tell (· + ·) x.n 0).2 = Abs.within x.n := by
        unfold Abs.tell
        have : Abs.within 0 = true := rfl
        simp only [Int.add_zero, this, Bool.and_true, Bool.and_self]
        split <;> simp_all
      rw [hk, ht]
      refine St ?_
      refine K.condb (fun g2 => ?_) (fun g2 => ?_)
      all_goals
        refine St ?_
        rw [g2]
        (refine ⟨?_, ?_⟩ <;> first | trivial | rfl | (repeat' first | assumption | exact Ext.refl _ | refine Ext.trans ?_ (by assumption)))
    refine St ?_
    refine K.cond (fun g4 => ?_) (fun g4 => ?_)
    · refine St ?_
      refine ⟨trivial, trivial, trivial, trivial, .inr (.inr g4), by rw [if_pos g4]⟩
    refine St ?_
    refine K.cond (fun g2 => ?_) (fun g2 => ?_)
    · refine St ?_
      refine ⟨trivial, trivial, trivial, trivial, .inl g2, by rw [if_neg g4]⟩
    refine St ?_
    refine K.cond (fun g3 => ?_) (fun g3 => ?_)
    · refine St ?_
      refine ⟨trivial, trivial, trivial, trivial, .inr (.inl g3), by rw [if_neg g4]⟩
    refine St ?_
    refine K.ldAb (c := [_, _]) k1 (Ext.refl _) rfl ?_
    refine St ?_
    refine K.ldAb (c := [_, _, _, _, _, _]) hc2 (Ext.refl _) rfl ?_
    refine St ?_
    refine K.call (knamed_r x _ s w2 hx (h.ext he)) ?_
    rintro _ w3 ⟨rfl, he3⟩
    refine St ?_
    have hk : Abs.kleaf x s (st.getLastD 0) = Abs.knamed x s := by rw [Abs.kleaf, if_neg g1, if_neg (by omega)]
    rw [hk]
    (refine ⟨?_, ?_⟩ <;> first | trivial | rfl | (repeat' first | assumption | exact Ext.refl _ | refine Ext.trans ?_ (by assumption)))
  · rintro S w' hS ⟨s0, s4, s5, rfl, hop, s8⟩
    have hk : Abs.kleaf x s (st.getLastD 0) = (let q := Abs.kvar (if x.op = 4 then s.locals else s.vars) x.n s; if q.2.2 = false then (0, 8) else if (x.op = 3 ∧ (q.2.1 = 0 ∨ st.getLastD 0 ≠ q.2.1)) ∨ (x.op ≠ 3 ∧ q.2.1 ≠ 0) then (0, 9) else (q.1, 0)) := by
      rw [Abs.kleaf, if_neg (by omega), if_pos hop]
    rw [hk]
    clear hk
    have hv : Abs.Vars w' (S 8) (if x.op = 4 then s.locals else s.vars) := by
      rw [s8]; split
      · exact q4.ext he
      · exact q1.ext he
    generalize (if x.op = 4 then s.locals else s.vars) = l at hv ⊢
    obtain ⟨v8, e8⟩ : ∃ v8, S 8 = v8 := ⟨_, rfl⟩
    rw [e8] at hv
    clear s8
    refine Sw (And.intro s0 (And.intro s4 (And.intro s5 e8))) ?_
    refine K.ldAb (c := [_, _, _, _, _, _]) hc2 (Ext.refl _) rfl ?_
    refine Sw (And.intro s0 (And.intro s4 s5)) ?_
    refine K.call (variable_r _ l x.n _ s w' hv (h.ext he)) ?_
    rintro _ w3 ⟨rfl, he3⟩
    generalize Abs.kvar l x.n s = q
    obtain ⟨qk, qo, qi⟩ := q
    refine Sw (And.intro s0 (And.intro s4 s5)) ?_
    refine K.condb (fun g1 => ?_) (fun g1 => ?_)
    rotate_left
    · refine St ?_
      simp only [g1, if_true]
      (refine ⟨?_, ?_⟩ <;> first | trivial | rfl | (repeat' first | assumption | exact Ext.refl _ | refine Ext.trans ?_ (by assumption)))
    have m3 := (hm.ext he).ext he3
    refine Sw (And.intro s0 (And.intro s4 s5)) ?_
    refine K.cond (fun g2 => ?_) (fun g2 => ?_)
    · refine Sw (And.intro s0 (And.intro s4 s5)) ?_
      refine K.cond (fun g3 => ?_) (fun g3 => ?_)
      · refine Sw (And.intro s0 (And.intro s4 s5)) ?_
        simp only [g1, Bool.true_eq_false, if_false]
        rw [if_pos (.inl ⟨g2, .inl g3⟩)]
        (refine ⟨?_, ?_⟩ <;> first | trivial | rfl | (repeat' first | assumption | exact Ext.refl _ | refine Ext.trans ?_ (by assumption)))
      refine Sw (And.intro s0 (And.intro s4 s5)) ?_
      refine K.call (top_r base b w3 m st m3 (h3 g2)) ?_
      rintro _ w4 ⟨rfl, he4⟩
      refine Sw (And.intro s0 (And.intro s4 s5)) ?_
      refine K.cond (fun g4 => ?_) (fun g4 => ?_)
      · refine Sw (And.intro s0 (And.intro s4 s5)) ?_
        simp only [g1, Bool.true_eq_false, if_false]
        rw [if_neg (by omega)]
        (refine ⟨?_, ?_⟩ <;> first | trivial | rfl | (repeat' first | assumption | exact Ext.refl _ | refine Ext.trans ?_ (by assumption)))
      · refine St ?_
        simp only [g1, Bool.true_eq_false, if_false]
        rw [if_pos (.inl ⟨g2, .inr g4⟩)]
        (refine ⟨?_, ?_⟩ <;> first | trivial | rfl | (repeat' first | assumption | exact Ext.refl _ | refine Ext.trans ?_ (by assumption)))
    · refine Sw (And.intro s0 (And.intro s4 s5)) ?_
      refine K.cond (fun g4 => ?_) (fun g4 => ?_)
      all_goals
        refine St ?_
        simp only [g1, Bool.true_eq_false, if_false]
      · rw [if_neg (by omega)]
        (refine ⟨?_, ?_⟩ <;> first | trivial | rfl | (repeat' first | assumption | exact Ext.refl _ | refine Ext.trans ?_ (by assumption)))
      · rw [if_pos (.inr ⟨g2, g4⟩)]
        (refine ⟨?_, ?_⟩ <;> first | trivial | rfl | (repeat' first | assumption | exact Ext.refl _ | refine Ext.trans ?_ (by assumption)))
end Go.Proofs.Ytfdohkdifdemeaa
end
section
/- The machine: one step. -/
set_option maxRecDepth 4000
set_option linter.unusedSimpArgs false
set_option maxHeartbeats 4000000
namespace Go.Proofs.Ytfdohkdifdemeaa
open Go Go.RowKit Lite

theorem K.qval {P : Program} {x : Value} {args : List Value} {w : World} {K3 : Value → Prop} {t} (v : Value) (h : ∀ w', Ext w w' → CallVh P x args w' (fun u w'' => u = v ∧ Ext w' w'') ⟨⟩) (hk : K3 v) : QValh P x args w K3 t := by
  unfold QValh
  refine ⟨v, fun w' he => ?_, hk⟩
  have := h w' he
  unfold CallVh at this
  obtain ⟨f, first, cap, e, hf, hr⟩ := this
  exact ⟨f, first, cap, e, hf, hr.mono fun _ _ ⟨h1, h2⟩ => ⟨h1, he.trans h2⟩⟩
theorem DoesR.ext {w w' : World} {v : Value} {g : Int → Int → Int × Bool} (he : Ext w w') (h : DoesR w v g) : DoesR w' v g := by
  rcases h with h | ⟨c, f, p, h1, h2, h3⟩
  · exact .inl h
  · exact .inr ⟨c, f, p, h1, he.obj h2, h3⟩
def stepRes (f : Abs.Node → List Int → Int × Int) (two : Abs.OpD → List Int → Int × Int) (leaf : Abs.Node → List Int → Int × Int) : Prop :=
  ∀ x st, f x st = match Abs.opOf x.op with | some o => two o (st.drop (st.length - o.parts.toNat)) | none => leaf x st
theorem nparts_op {x : Int} {o : Abs.OpD} (h : Abs.opOf x = some o) : 1 ≤ o.parts ∧ o.parts ≤ 2 := by
  unfold Abs.opOf at h
  repeat' split at h
  all_goals first | (cases h; exact ⟨by decide, by decide⟩) | cases h
theorem step_r (f : Abs.Node → List Int → Int × Int) (two : Abs.OpD → List Int → Int × Int) (leaf : Abs.Node → List Int → Int × Int) (hf : stepRes f two leaf)
    (x : Abs.Node) (base b : Nat) (w : World) (m vl v2 : Value) (st : List Int) (hm : MachIs base b w m st) (ho : OpsIs w m) (h24 : st.length ≤ 24)
    (hleaf : 0 ≤ Abs.nparts x.op → Abs.nparts x.op ≤ st.length → Abs.opOf x.op = none → ∀ w' KK t, Ext w w' → (∀ w'', Ext w' w'' → KK (.tuple #[.int .i64 (leaf x st).1, .int .i64 (leaf x st).2]) w'') → CallYh Try.prog vl [.agg x.enc.toArray] w' KK t)
    (htwo : ∀ o ov lv w' KK t, Ext w w' → Abs.opOf x.op = some o → OpV w' o ov → o.parts ≤ st.length → Ints w' lv (st.drop (st.length - o.parts.toNat)) →
      (∀ w'', Ext w' w'' → KK (.tuple #[.int .i64 (two o (st.drop (st.length - o.parts.toNat))).1, .int .i64 (two o (st.drop (st.length - o.parts.toNat))).2]) w'') → CallVh Try.prog v2 [ov, lv] w' KK t) :
    Ret Try.prog F.p_expr_machine_step #[.pointer (some ⟨b, 0, none⟩), .agg x.enc.toArray, vl, v2] w fun v w' =>
      v = .int .i64 (Abs.stepG f x st).1 ∧ Mod (fun k => k = b ∨ base ≤ k) w w' ∧ ((Abs.stepG f x st).1 = 0 → MachIs base b w' m (Abs.stepG f x st).2) := by
  obtain ⟨sv, hh, hown⟩ := hm.ex
  obtain ⟨oa, cap, rfl, hcp, hml⟩ := hown.form
  have hi : Ints w _ st := OwR.slr (enc := encI) (sz := 1) (fun _ => rfl) hown
  unfold maxLen at hml
  refine K.start hmix E.p_expr_machine_step (args := [_, _, _, _]) (Nat.le_of_ble_eq_true rfl) ?_
  dsimp only [C.p_expr_machine_step]; refine Yy ?_
  simp -dsimp only [B9]
  refine Tt ?_
  refine K.new fun w1 b1 hb1 he1 hc1 => ?_
  refine Tt ?_
  simp -dsimp only [B9]
  refine Tt ?_
  refine K.qfn _ (fun w' e => parts_r x.op m w' (ho.ext (he1.trans e))) ?_
  refine Tt ?_
  intro w2 he2
  have he12 := he1.trans he2
  refine Tt ?_
  simp -dsimp only [B9]
  generalize hn : Abs.nparts x.op = n
  have hn2 : -1 ≤ n ∧ n ≤ 2 := by rw [← hn]; unfold Abs.nparts; (repeat' split) <;> omega
  refine St ?_
  refine K.cond (fun g1 => ?_) (fun g1 => ?_)
  · refine St ?_
    have hs : Abs.stepG f x st = (3, st) := by unfold Abs.stepG; rw [hn, if_pos g1]
    rw [hs]
    exact ⟨rfl, he12.mod, fun h => by cases h⟩
  refine St ?_
  refine K.cond (fun g2 => ?_) (fun g2 => ?_)
  · refine St ?_
    have hs : Abs.stepG f x st = (4, st) := by unfold Abs.stepG; rw [hn, if_neg g1, if_pos g2]
    rw [hs]
    exact ⟨rfl, he12.mod, fun h => by cases h⟩
  refine Tt ?_
  simp -dsimp only [B9]
  refine Tt ?_
  simp -dsimp only [B9]
  refine Tt ?_
  have hsg : Abs.stepG f x st = if (f x st).2 ≠ 0 then ((f x st).2, st) else if (st.take (st.length - n.toNat) ++ [(f x st).1]).length > 12 then (12, st) else (0, st.take (st.length - n.toNat) ++ [(f x st).1]) := by
    unfold Abs.stepG; rw [hn, if_neg g1, if_neg g2]
  rw [hsg]
  clear hsg
  have hfx := hf x st
  generalize hr : f x st = r at hfx ⊢
  refine K.cut (fun S' w' => S' 0 = .pointer (some ⟨b, 0, none⟩) ∧ S' 9 = .int .i64 n ∧ S' 10 = .int .i64 r.1 ∧ S' 11 = .int .i64 r.2 ∧ Ext w w') ?_ ?_
  · refine St ?_
    intro w3 he3
    obtain ⟨es, q, j1, j2, j3⟩ := (ho.ext (he12.trans he3)).look x.op
    refine St ?_
    refine K.lkp j1 j2 ?_
    cases hop : Abs.opOf x.op with
    | none =>
      simp only [hop] at j3 hfx
      subst j3
      simp only [lkpV, Option.map_none, Option.getD_none, Option.isSome_none, if_true]
      refine St ?_
      refine K.new fun w4 b4 hb4 he4 hc4 => ?_
      refine ⟨he4, ?_⟩
      refine St ?_
      refine K.stAb (cs := #[.int .i64 0, .int .i64 0, .int .i64 0, .nilFunc]) hc4 rfl rfl (by simp [Value.oneCell']) fun w5 hw5 hc5 => ?_
      have he5 : Ext w3 w5 := hw5.ext he4 hb4
      clear hc4 hw5 he4
      refine St ?_
      refine K.ldAb (c := [_, _]) (he2.obj hc1) (by (repeat' first | assumption | exact Ext.refl _ | refine Ext.trans ?_ (by assumption))) rfl ?_
      refine St ?_
      refine hleaf (by omega) (by omega) hop _ _ _ ((he12.trans he3).trans he5) fun w6 he6 => ?_
      refine St ?_
      rw [hfx]
      exact ⟨trivial, trivial, rfl, rfl, ((he12.trans he3).trans he5).trans he6⟩
    | some o =>
      simp only [hop] at j3 hfx
      obtain ⟨i, ov, rfl, u, rfl, hd⟩ := j3
      obtain ⟨o1, o2⟩ := nparts_op hop
      have on := (Abs.opOf_parts hop).1
      simp only [lkpV, Option.map_some, Option.getD_some, Option.isSome_some, if_true]
      refine St ?_
      refine K.new fun w4 b4 hb4 he4 hc4 => ?_
      refine ⟨he4, ?_⟩
      refine St ?_
      refine K.stAb (cs := #[.int .i64 o.parts, .int .i64 o.takes, .int .i64 o.makes, u]) hc4 rfl rfl (by rcases hd with ⟨f, rfl, _⟩ | ⟨c, f, p, rfl, _⟩ <;> simp [Value.oneCell']) fun w5 hw5 hc5 => ?_
      have he5 : Ext w3 w5 := hw5.ext he4 hb4
      clear hc4 hw5 he4
      have he35 := (he12.trans he3).trans he5
      have hd5 : OpV w3 o (.agg #[.int .i64 o.parts, .int .i64 o.takes, .int .i64 o.makes, u]) := ⟨u, rfl, hd⟩
      obtain ⟨p, rfl⟩ := Int.eq_ofNat_of_zero_le (show 0 ≤ n by omega)
      have hp : o.parts.toNat = p := by omega
      refine St ?_
      refine K.ldAb (c := [_, _, _, _]) hc5 (Ext.refl _) rfl ?_
      refine St ?_
      refine K.slcD (st.length - p) (by simp -dsimp only [LL,B9,Nat.reduceAdd,Nat.reduceEqDiff,reduceIte,reduceCtorEq,Bool.false_eq_true]; rw [Int.ofNat_sub (by omega)]) ⟨by omega, by omega⟩ ?_
      have ht := hi.tail (st.length - p) (by omega)
      rw [hp] at hfx
      refine St ?_
      refine K.qval _ (fun w' e => htwo o _ _ w' _ _ (he35.trans e) hop ⟨u, rfl, hd.ext (he5.trans e)⟩ (by omega) (by rw [hp]; exact ht.ext Flat.ext (he35.trans e)) fun w'' e2 => ⟨rfl, e2⟩) ?_
      refine St ?_
      intro w6 he6
      refine St ?_
      rw [hfx, hp]
      exact ⟨trivial, trivial, rfl, rfl, he35.trans he6⟩
  · clear hc1 he1 he2 he12
    rintro S w3 hS ⟨s0, s9, s10, s11, he3⟩
    simp -dsimp only [B9]
    refine Sw (And.intro s0 (And.intro s9 (And.intro s10 s11))) ?_
    refine K.cond (fun g3 => ?_) (fun g3 => ?_)
    rotate_left
    · refine Sw s11 ?_
      rw [if_pos g3]
      exact ⟨rfl, he3.mod, fun h => absurd h g3⟩
    obtain ⟨p, rfl⟩ := Int.eq_ofNat_of_zero_le (show 0 ≤ n by omega)
    have g3' : ¬ r.2 ≠ 0 := by simpa using g3
    rw [if_neg g3']
    have hml : (st.take (st.length - p) ++ [r.1]).length = st.length - p + 1 := by simp [List.length_take]
    have hm3 := hm.ext he3
    have ho3 : OwnI base w3 (.slice oa st.length cap) st := hown.ext he3
    refine Tt ?_
    simp -dsimp only [B9]
    refine Sw (And.intro s0 (And.intro s9 (And.intro s10 s11))) ?_
    intro w4 he4
    have ho4 : OwnI base w4 (.slice oa st.length cap) st := ho3.ext he4
    refine Sw (And.intro s0 (And.intro s9 (And.intro s10 s11))) ?_
    refine K.slcT (st.length - p) (by simp -dsimp only [LL,B9,Nat.reduceAdd,Nat.reduceEqDiff,reduceIte,reduceCtorEq,Bool.false_eq_true]; rw [Int.ofNat_sub (by omega)]) (by omega) ?_
    refine Sw (And.intro s0 (And.intro s9 (And.intro s10 s11))) ?_
    refine K.bldSa (cs := [r.1].flatMap encI) (by simp [List.range, List.range.loop, fillC, lay, ev_tmp, upd_at, Value.cells, encI]) fun w5 b5 hb5 he5 hc5 => ?_
    refine ⟨he5, ?_⟩
    refine St ?_
    have ho5 : OwnI base w5 (.slice oa (st.length - p) cap) (st.take (st.length - p)) := OwR.head (enc := encI) (sz := 1) (xs := st) (fun _ => rfl) (OwR.ext he5 ho4) (st.length - p) (Nat.sub_le _ _)
    have hlt : (st.take (st.length - p)).length = st.length - p := by simp [List.length_take]
    have q8 : ((st.take (st.length - p)).length + [r.1].length) * 8 ≤ 140737488355328 := by rw [hlt]; simp only [List.length_cons, List.length_nil]; omega
    have q63 : (st.take (st.length - p)).length + [r.1].length ≤ maxLen := by rw [hlt]; simp only [List.length_cons, List.length_nil, maxLen]; omega
    have q1 : ∀ y, ∀ u ∈ encI y, u.oneCell' = true := fun y u h => by simp [encI] at h; subst h; rfl
    refine K.appO (xs := st.take (st.length - p)) (ys := [r.1]) ho5 (fun _ => rfl) (cellsAt_blk hc5) rfl q1 q8 q63 (by have := hm.le; have := he3.size; have := he4.size; have := he5.size; omega) fun v6 w6 ho6 hg6 => ?_
    have hb5' : w5.heap[b]? = some (.cells #[.slice oa st.length cap, m] T.expr_machine) := he5.obj (he4.obj (he3.obj hh))
    have hb6 : w6.heap[b]? = some (.cells #[.slice oa st.length cap, m] T.expr_machine) := by
      refine (hg6.block b (lt_of_heap hb5') fun e => ?_).trans hb5'
      have := (ho5.lt b e.symm).1
      have := hm.lt
      omega
    refine St ?_
    refine K.st1 hb6 (by simp) (by obtain ⟨oa, cap, e, _⟩ := ho6.form; rw [e]; rfl) fun w7 hw7 hc7 => ?_
    have hmod : Mod (fun k => k = b ∨ base ≤ k) w w7 :=
      (((he3.trans he4).trans he5).mod.trans (Mod.grown hg6 fun k hk => .inr (ho5.lt k hk).1)).trans (hw7.mod (.inl rfl))
    have hm7 : MachIs base b w7 m (st.take (st.length - p) ++ [r.1]) :=
      ⟨⟨v6, hc7, ho6.wr hw7 hm.lt⟩, hm.lt, Nat.le_trans hm.le hmod.size⟩
    obtain ⟨oa6, cap6, rfl, hc6, _⟩ := ho6.form
    rw [hml]
    have hl6 : ((st.take (st.length - p) ++ [r.1]).length : Int) = st.length - p + 1 := by rw [hml]; omega
    refine Sw (And.intro s0 (And.intro s9 (And.intro s10 s11))) ?_
    refine K.cond (fun g4 => ?_) (fun g4 => ?_)
    · refine St ?_
      simp only [Int.toNat_natCast, hml]
      rw [if_pos (by omega)]
      exact ⟨rfl, hmod, fun h => by cases h⟩
    · refine St ?_
      simp only [Int.toNat_natCast, hml]
      rw [if_neg (by omega)]
      exact ⟨rfl, hmod, fun _ => hm7⟩
end Go.Proofs.Ytfdohkdifdemeaa
end
section
/- The machine: all steps; the kind of an expression. -/
set_option maxRecDepth 4000
set_option linter.unusedSimpArgs false
set_option maxHeartbeats 4000000
namespace Go.Proofs.Ytfdohkdifdemeaa
open Go Go.RowKit Lite

theorem run_r (f : Abs.Node → List Int → Int × Int) (two : Abs.OpD → List Int → Int × Int) (leaf : Abs.Node → List Int → Int × Int) (hf : stepRes f two leaf) (good : Int → Prop)
    (b : Nat) (w0 w : World) (hw0 : Ext w0 w) (hb0 : w0.heap.size ≤ b) (ve vl v2 : Value) (e : List Abs.Node) (he : Abs.Nodes w0 ve e) (hb : w.heap[b]? = some (.cells #[.slice none 0 0, .map none] T.expr_machine))
    (hgood : ∀ x st, x.ok → (∀ z ∈ st, good z) → 0 ≤ Abs.nparts x.op → Abs.nparts x.op ≤ st.length → (f x st).2 = 0 → good (f x st).1)
    (hleaf : ∀ x st base m w', x.ok → Mod (fun k => k = b) w w' → MachIs base b w' m st → (∀ z ∈ st, good z) → 0 ≤ Abs.nparts x.op → Abs.nparts x.op ≤ st.length → Abs.opOf x.op = none → ∀ w1 KK t, Ext w' w1 →
      (∀ w'', Ext w1 w'' → KK (.tuple #[.int .i64 (leaf x st).1, .int .i64 (leaf x st).2]) w'') → CallYh Try.prog vl [.agg x.enc.toArray] w1 KK t)
    (htwo : ∀ o ov lv l w' KK t, Mod (fun k => k = b) w w' → OpV w' o ov → (∃ x, Abs.opOf x = some o) → o.parts = l.length → Ints w' lv l →
      (∀ w'', Ext w' w'' → KK (.tuple #[.int .i64 (two o l).1, .int .i64 (two o l).2]) w'') → CallVh Try.prog v2 [ov, lv] w' KK t) :
    Ret Try.prog F.p_expr_machine_run #[.pointer (some ⟨b, 0, none⟩), ve, vl, v2] w fun v w' =>
      v = .tuple #[.int .i64 (Abs.runE f e).1, .int .i64 (Abs.runE f e).2] ∧ Mod (fun k => k = b) w w' := by
  obtain ⟨oa, cap, rfl, hlen⟩ := he.form
  refine K.start hmix E.p_expr_machine_run (args := [_, _, _, _]) (Nat.le_of_ble_eq_true rfl) ?_
  dsimp only [C.p_expr_machine_run]; refine Yy ?_
  refine St ?_
  refine K.cond (fun g1 => ?_) (fun g1 => ?_)
  · refine St ?_
    rw [Abs.runE, if_pos (by omega)]
    exact ⟨rfl, Mod.refl _ _⟩
  refine St ?_
  refine K.cond (fun g2 => ?_) (fun g2 => ?_)
  · refine St ?_
    rw [Abs.runE, if_neg (by omega), if_pos (by omega)]
    exact ⟨rfl, Mod.refl _ _⟩
  refine St ?_
  refine K.call (ops_r w) ?_
  rintro m w1 ⟨hops, he1⟩
  refine St ?_
  refine K.st1 (he1.obj hb) (by decide) (by obtain ⟨r, _, _, _, e, _⟩ := hops; rw [e]; rfl) fun w2 hw2 hc2 => ?_
  have hc2' : w2.heap[b]? = some (.cells #[.slice none 0 0, m] T.expr_machine) := hc2
  clear hc2
  have hops2 : OpsIs w2 m := hops.mod (A := fun k => k = b) (hw2.mod rfl) fun k o h1 h2 hk => by
    subst hk
    rw [he1.obj hb] at h1
    injection h1 with h1
    rcases h2 with ⟨es, c, h2⟩ | ⟨cs, h2⟩
    · rw [h2] at h1; cases h1
    · rw [h2] at h1
      injection h1 with _ h1
      cases h1
  have hm02 : Mod (fun k => k = b) w w2 := he1.mod.trans (hw2.mod rfl)
  have hlt : b < w2.heap.size := lt_of_heap hc2'
  refine St ?_
  refine K.for1 27 e.length (fun k S w' => Mod (fun k => k = b) w2 w' ∧ ∃ st, Abs.runL f (e.take k) [] = (0, st) ∧ MachIs w2.heap.size b w' m st ∧ (0 < k → 1 ≤ st.length) ∧ st.length ≤ 12 ∧ ∀ z ∈ st, good z)
    (by simp -dsimp only [LL,B9,Nat.reduceAdd,Nat.reduceEqDiff,reduceIte,reduceCtorEq,Bool.false_eq_true]) ⟨Mod.refl _ _, [], by simp [Abs.runL], ⟨⟨_, hc2', OwR.nil _ _ _ _ _⟩, hlt, Nat.le_refl _⟩, by simp, by simp, by simp⟩ ?_
  rintro k S w3 hS hk h27 ⟨hmod, st, hrun, hmach, h1st, h12, hgd⟩
  have h0 := hS 0 rfl; have h1 := hS 1 rfl; have h2 := hS 2 rfl; have h3 := hS 3 rfl; have h25 := hS 25 rfl; have h26 := hS 26 rfl; simp only [upd_at, Nat.reduceAdd, Nat.reduceEqDiff, reduceIte, fr0_cons, fr0_nil] at h0 h1 h2 h3 h25 h26; clear hS
  have hm03 : Mod (fun k => k = b) w w3 := hm02.trans hmod
  refine Sw (And.intro h0 (And.intro h1 (And.intro h2 (And.intro h3 (And.intro h25 (And.intro h26 h27)))))) ?_
  refine K.cond (fun g3 => ?_) (fun g3 => ?_)
  · have hk' : k < e.length := by omega
    have h03 : Ext w0 w3 := hm03.ext hw0 fun q hq e => by omega
    obtain ⟨a, rfl⟩ := he.addr (by omega)
    have hxk := (he.at k hk').ok
    have hrs := fun h0 => Abs.runE_err (f := f) (e := e) (by omega) hk' hrun h0
    have hrn := Abs.runL_step hk' hrun
    have hops3 : OpsIs w3 m := hops2.mod (A := fun k => k = b) hmod fun k o h1 h2 hk => by
      subst hk
      rw [hc2'] at h1
      injection h1 with h1
      rcases h2 with ⟨es, c, h2⟩ | ⟨cs, h2⟩
      · rw [h2] at h1; cases h1
      · rw [h2] at h1
        injection h1 with _ h1
        cases h1
    refine Sw (And.intro h0 (And.intro h1 (And.intro h2 (And.intro h3 (And.intro h25 (And.intro h26 h27)))))) ?_
    generalize hx : e[k] = x at *
    refine K.newst (vs := x.enc) (fun _ => by simp -dsimp only [LL,B9,Nat.reduceAdd,Nat.reduceEqDiff,reduceIte,reduceCtorEq,Bool.false_eq_true]) rfl rfl (by simp [Abs.Node.enc, Value.oneCell']) fun w4 b4 hb4 he4 hc4 => ?_
    refine Sw (And.intro h0 (And.intro h1 (And.intro h2 (And.intro h3 (And.intro h25 (And.intro h26 h27)))))) ?_
    refine K.ldAb (c := x.enc) hc4 (Ext.refl _) rfl ?_
    refine Sw (And.intro h0 (And.intro h1 (And.intro h2 (And.intro h3 (And.intro h25 (And.intro h26 h27)))))) ?_
    have hm04 : Mod (fun k => k = b) w w4 := hm03.trans he4.mod
    refine K.call (step_r f two leaf hf x w2.heap.size b w4 m vl v2 st (hmach.ext he4) (hops3.ext he4) (by omega)
      (fun q1 q2 q3 w' KK t hw' hk => hleaf x st _ m w4 hxk hm04 (hmach.ext he4) hgd q1 q2 q3 w' KK t hw' hk)
      (fun o ov lv w' KK t hw' q1 q2 q3 q4 hk => htwo o ov lv _ w' KK t (hm04.trans hw'.mod) q2 ⟨_, q1⟩ (by have := nparts_op q1; simp [List.length_drop]; omega) q4 hk)) ?_
    rintro _ w5 ⟨rfl, hm5, hst5⟩
    have hm05 : Mod (fun k => k = b) w w5 := hm04.then hm5 fun i hi h => by
      rcases h with h | h
      · exact h
      · have := hm02.size; omega
    refine Sw (And.intro h0 (And.intro h1 (And.intro h2 (And.intro h3 (And.intro h25 (And.intro h26 h27)))))) ?_
    refine K.cond (fun g4 => ?_) (fun g4 => ?_)
    rotate_left
    · refine Sw (And.intro h0 (And.intro h1 (And.intro h2 (And.intro h3 (And.intro h25 (And.intro h26 h27)))))) ?_
      rw [hrs g4]
      exact ⟨by first | trivial | rfl, hm05⟩
    have hlen5 := Abs.step_len g4
    have hgood5 : ∀ z ∈ (Abs.stepG f x st).2, good z := by
      have hg := hgood x st hxk hgd
      clear hrs hrn hlen5 hst5
      unfold Abs.stepG at g4 ⊢
      by_cases q1 : Abs.nparts x.op < 0
      · rw [if_pos q1] at g4; cases g4
      by_cases q2 : (st.length : Int) < Abs.nparts x.op
      · rw [if_neg q1, if_pos q2] at g4; cases g4
      by_cases q3 : (f x st).2 ≠ 0
      · rw [if_neg q1, if_neg q2, if_pos q3] at g4; exact absurd g4 q3
      by_cases q4 : (st.take (st.length - (Abs.nparts x.op).toNat) ++ [(f x st).1]).length > 12
      · rw [if_neg q1, if_neg q2, if_neg q3, if_pos q4] at g4; cases g4
      rw [if_neg q1, if_neg q2, if_neg q3, if_neg q4]
      intro z hz
      rcases List.mem_append.1 hz with hz | hz
      · exact hgd z (List.mem_of_mem_take hz)
      · simp at hz; subst hz; exact hg (by omega) (by omega) (by simpa using q3)
    refine Sw (And.intro h0 (And.intro h1 (And.intro h2 (And.intro h3 (And.intro h25 (And.intro h26 h27)))))) ?_
    refine ⟨hk', by first | trivial | rfl, ?_, (Abs.stepG f x st).2, ?_, hst5 g4, fun _ => hlen5.1, hlen5.2, hgood5⟩
    · refine (hmod.trans he4.mod).then hm5 fun i hi h => ?_
      rcases h with h | h
      · exact h
      · omega
    · rw [hrn]; exact Prod.ext g4 rfl
  · have hk' : k = e.length := by omega
    subst hk'
    rw [List.take_length] at hrun
    obtain ⟨sv, hh, hown⟩ := hmach.ex
    obtain ⟨oa', cap', rfl, hcp, hml⟩ := hown.form
    have hi : Ints w3 _ st := OwR.slr (enc := encI) (sz := 1) (fun _ => rfl) hown
    have h1 := h1st (by omega)
    obtain ⟨a, rfl⟩ := hi.addr h1
    have hE : Abs.runE f e = if st.length > 1 then (0, 5) else (st.headD 0, 0) := by
      rw [Abs.runE, if_neg (by omega), if_neg (by omega), hrun, if_neg (by simp)]
    rw [hE]
    clear hE
    refine Sw (And.intro h0 (And.intro h1 (And.intro h2 (And.intro h3 (And.intro h25 (And.intro h26 h27)))))) ?_
    refine K.cond (fun g4 => ?_) (fun g4 => ?_)
    · refine St ?_
      rw [if_pos (by omega)]
      exact ⟨rfl, hm03⟩
    · refine Sw (And.intro h0 (And.intro h1 (And.intro h2 (And.intro h3 (And.intro h25 (And.intro h26 h27)))))) ?_
      refine K.ian 0 rfl (by omega) ?_
      refine St ?_
      rw [if_neg (by omega)]
      have : st.headD 0 = st[0] := by
        cases st with
        | nil => simp at h1
        | cons z st => rfl
      rw [this]
      exact ⟨by first | trivial | rfl, hm03⟩
/-- The kinds that an operation is given. -/
theorem ktwo_r (o : Abs.OpD) (u lv : Value) (l : List Int) (w : World) (hl : Ints w lv l) :
    Ret Try.prog F.expr_Kind_2 #[.agg #[.int .i64 o.parts, .int .i64 o.takes, .int .i64 o.makes, u], lv] w fun v w' => v = .tuple #[.int .i64 (Abs.ktwo o l).1, .int .i64 (Abs.ktwo o l).2] ∧ Ext w w' := by
  obtain ⟨oa, cap, rfl, hlen⟩ := hl.form
  refine K.start hmix E.expr_Kind_2 (args := [_, _]) (Nat.le_of_ble_eq_true rfl) ?_
  dsimp only [C.expr_Kind_2]; refine Yy ?_
  refine St ?_
  refine K.new fun w1 b hb he1 hc1 => ?_
  refine St ?_
  refine K.for1 10 l.length (fun k S w' => w' = w1 ∧ (l.take k).all (fun k => (decide (o.takes = -1) || decide (k = o.takes)) && decide (k = l.headD 0)) = true) (by simp -dsimp only [LL,B9,Nat.reduceAdd,Nat.reduceEqDiff,reduceIte,reduceCtorEq,Bool.false_eq_true]) ⟨rfl, by simp⟩ ?_
  rintro k S w2 hS hk h10 ⟨rfl, hall⟩
  have h1 := hS 1 rfl; have h2 := hS 2 rfl; have h8 := hS 8 rfl; have h9 := hS 9 rfl; simp only [upd_at, Nat.reduceAdd, Nat.reduceEqDiff, reduceIte, fr0_cons, fr0_nil] at h1 h2 h8 h9; clear hS
  refine Sw (And.intro h1 (And.intro h2 (And.intro h8 (And.intro h9 h10)))) ?_
  refine K.cond (fun g1 => ?_) (fun g1 => ?_)
  rotate_left
  · rw [List.take_of_length_le (by omega)] at hall
    refine Sw (And.intro h1 (And.intro h2 (And.intro h8 (And.intro h9 h10)))) ?_
    rw [Abs.ktwo, if_pos hall]
    (refine ⟨?_, ?_⟩ <;> first | trivial | rfl | (repeat' first | assumption | exact Ext.refl _ | refine Ext.trans ?_ (by assumption)))
  have hk' : k < l.length := by omega
  obtain ⟨a, rfl⟩ := hl.addr (by omega)
  have hsp : l.take (k + 1) = l.take k ++ [l[k]] := List.take_succ_eq_append_getElem hk'
  have hall2 := List.all_append (xs := l.take (k + 1)) (ys := l.drop (k + 1)) (f := fun k => (decide (o.takes = -1) || decide (k = o.takes)) && decide (k = l.headD 0))
  rw [List.take_append_drop, hsp, List.all_append] at hall2
  have h0 : l.headD 0 = l[0] := by
    cases l with
    | nil => simp at hk'
    | cons z l => rfl
  have hbad : ((decide (o.takes = -1) || decide (l[k] = o.takes)) && decide (l[k] = l.headD 0)) = false → Abs.ktwo o l = (0, 9) := by
    intro h
    rw [Abs.ktwo, if_neg (by rw [hall2]; simp only [List.all_cons, List.all_nil, h]; simp)]
  have hgood : ((decide (o.takes = -1) || decide (l[k] = o.takes)) && decide (l[k] = l.headD 0)) = true → (l.take (k + 1)).all (fun k => (decide (o.takes = -1) || decide (k = o.takes)) && decide (k = l.headD 0)) = true := by
    intro h
    rw [hsp, List.all_append, hall]
    simp only [List.all_cons, List.all_nil, h]; rfl
  rw [h0] at hbad
  clear hall2
  have hp : 0 < l.length := by omega
  have hl1 : Ints w2 (.slice (some a) l.length cap) l := hl.ext he1
  have hg0 := hgood
  rw [h0] at hgood hall
  (repeat' first
 | (refine K.cond (fun _ => ?_) (fun _ => ?_) <;> try (exfalso; omega))
 | (refine K.condb (fun _ => ?_) (fun _ => ?_))
 | assumption
 | exact Ext.refl _
 | refine Ext.trans ?_ (by assumption)
 | refine K.wrap (by omega) ?_
 | refine K.ldb (by assumption) ?_ rfl ?_
 | refine K.ldb0 (by assumption) ?_ rfl ?_
 | refine K.ldE (by assumption) ?_ (by omega) rfl ?_
 | refine K.ldE0 (by assumption) ?_ (by omega) rfl ?_
 | refine K.ldAE (by assumption) ?_ (by omega) rfl ?_
 | refine K.iaC (by omega) ?_
 | refine K.condT (by first | assumption | omega) ?_
 | refine K.condF (by first | assumption | omega) ?_
 | refine K.condbT (by assumption) ?_
 | refine K.condbF (by assumption) ?_
 | simp -dsimp only [LL,B9,Nat.reduceAdd,Nat.reduceEqDiff,reduceIte,reduceCtorEq,Bool.false_eq_true,h1, h2, h8, h9, h10])
  all_goals first
    | (have hh := hbad (by simp; omega); rw [hh]; refine ⟨by first | trivial | rfl, he1⟩)
    | (refine ⟨by omega, by first | trivial | rfl, trivial, ?_⟩; rw [h0]; exact hgood (by simp; omega))
theorem kind1_r (x : Abs.Node) (cs : List Value) (s : Abs.Scope) (base b pm ps : Nat) (w : World) (m : Value) (st : List Int) (tm : TypeId) (hx : x.ok) (h : Abs.ScopeIs w cs s) (hm : MachIs base b w m st) (h3 : x.op = 3 → 0 < st.length)
    (hpm : w.heap[pm]? = some (.cells #[.pointer (some ⟨b, 0, none⟩)] tm)) (hps : w.heap[ps]? = some (.cells cs.toArray T.api_Scope)) :
    Ret Try.prog F.expr_Kind_1 #[.agg x.enc.toArray, .pointer (some ⟨pm, 0, none⟩), .pointer (some ⟨ps, 0, none⟩)] w fun v w' =>
      v = .tuple #[.int .i64 (Abs.kleaf x s (st.getLastD 0)).1, .int .i64 (Abs.kleaf x s (st.getLastD 0)).2] ∧ Ext w w' := by
  obtain ⟨v0, v1, v2, v3, v4, rfl, _⟩ := h.ex
  refine K.start hmix E.expr_Kind_1 (args := [_, _, _]) (Nat.le_of_ble_eq_true rfl) ?_
  dsimp only [C.expr_Kind_1]; refine Yy ?_
  refine St ?_
  refine K.new fun w1 b1 hb1 he1 hc1 => ?_
  have k1 : w1.heap[b1]? = some (.cells x.enc.toArray T.api_Node) := hc1
  refine St ?_
  refine K.ldAb (c := x.enc) k1 (Ext.refl _) rfl ?_
  refine St ?_
  refine K.ldAb hps he1 rfl ?_
  refine St ?_
  refine K.call (kleaf_r x _ s base b w1 m st hx (h.ext he1) (hm.ext he1) h3) ?_
  rintro _ w2 ⟨rfl, he2⟩
  refine St ?_
  (refine ⟨?_, ?_⟩ <;> first | trivial | rfl | (repeat' first | assumption | exact Ext.refl _ | refine Ext.trans ?_ (by assumption)))
theorem fKind_step (s : Abs.Scope) : stepRes (Abs.fKind s) Abs.ktwo fun x st => Abs.kleaf x s (st.getLastD 0) := fun _ _ => rfl
theorem kind_r (ve : Value) (e : List Abs.Node) (cs : List Value) (s : Abs.Scope) (w : World) (he : Abs.Nodes w ve e) (h : Abs.ScopeIs w cs s) :
    Ret Try.prog F.expr_Kind #[ve, .agg cs.toArray] w fun v w' => v = .tuple #[.int .i64 (Abs.kind e s).1, .int .i64 (Abs.kind e s).2] ∧ Ext w w' := by
  obtain ⟨v0, v1, v2, v3, v4, rfl, _⟩ := h.ex
  refine K.start hmix E.expr_Kind (args := [_, _]) (Nat.le_of_ble_eq_true rfl) ?_
  dsimp only [C.expr_Kind]; refine Yy ?_
  refine St ?_
  refine K.new fun w1 ps hps he1 hc1 => ?_
  refine St ?_
  refine K.bld (cs := [.slice none 0 0, .map none]) (by simp [fillC]) ?_
  refine St ?_
  refine K.new fun w2 b hb he2 hc2 => ?_
  refine St ?_
  refine K.new fun w3 pm hpm he3 hc3 => ?_
  refine St ?_
  refine K.st0 hc3 (by decide) rfl fun w4 hw4 hc4 => ?_
  have hc4' : w4.heap[pm]? = some (.cells #[.pointer (some ⟨b, 0, none⟩)] T.p_expr_machine) := hc4
  have he4 : Ext w2 w4 := hw4.ext he3 hpm
  have hq2 := lt_of_heap hc2
  have hq1 := lt_of_heap hc1
  have hew : Ext w w4 := (he1.trans he2).trans he4
  clear hc4 hw4 he3 hc3
  have hb4 := he4.obj hc2
  have hs4 := he4.obj (he2.obj hc1)
  have z1 := he1.size
  refine St ?_
  refine K.call (run_r (Abs.fKind s) Abs.ktwo (fun x st => Abs.kleaf x s (st.getLastD 0)) (fKind_step s) (fun _ => True) b w w4 hew (by omega) ve _ _ e he hb4 (fun _ _ _ _ _ _ _ => trivial) ?_ ?_) ?_
  · intro x st base m w' hx hm hmach _ q1 q2 q3 w1' KK t hw1 hk
    refine K.callV (first := []) (cap := [.pointer (some ⟨pm, 0, none⟩), .pointer (some ⟨ps, 0, none⟩)]) (by kernel_rfl)
      (kind1_r x _ s base b pm ps w1' m st _ hx (h.ext ((hm.ext hew (by intro k hk e; omega)).trans hw1)) (hmach.ext hw1) ?_ (hw1.obj (hm.obj (by omega) hc4')) (hw1.obj (hm.obj (by omega) hs4))) fun v w'' ⟨h1, h2⟩ => by subst h1; exact hk w'' h2
    intro h3
    have : Abs.nparts x.op = 1 := by rw [h3]; rfl
    omega
  · rintro o ov lv l w' KK t hm ⟨u, rfl, hd⟩ _ hl hi hk
    exact K.callV0 (first := []) (cap := []) (by kernel_rfl) (ktwo_r o u lv l w' hi) fun v w'' ⟨h1, h2⟩ => by subst h1; exact hk w'' h2
  rintro _ w5 ⟨rfl, hm5⟩
  have he5 : Ext w w5 := hm5.ext hew (by intro k hk e; omega)
  refine St ?_
  (refine ⟨?_, ?_⟩ <;> first | trivial | rfl | (repeat' first | assumption | exact Ext.refl _ | refine Ext.trans ?_ (by assumption)))
end Go.Proofs.Ytfdohkdifdemeaa
end
section
/- How rows of numbers, and what expressions speak of, lie in memory. -/
set_option maxRecDepth 4000
namespace Lite
open Go Go.RowKit
/-- Numbers that a word holds. -/
structure RIntB (w : World) (a : Addr) (n : Int) : Prop where
  cells : CellsAt w a [Value.int .i64 n]
  ok : Abs.inI n
theorem RIntB.ext (w w' : World) (a : Addr) (n : Int) (he : Ext w w') (h : RIntB w a n) : RIntB w' a n := ⟨h.cells.ext he, h.ok⟩
instance instCelIntB : Cel RIntB (fun n => [Value.int .i64 n]) := ⟨fun _ _ _ h => h.cells⟩
abbrev IntsB (w : World) (v : Value) (l : List Int) : Prop := SlR 1 RIntB w v l
theorem IntsB.ext {w w' : World} {v : Value} {l : List Int} (he : Ext w w') (h : IntsB w v l) : IntsB w' v l := SlR.ext RIntB.ext he h
theorem IntsB.ok {w : World} {v : Value} {l : List Int} (h : IntsB w v l) : ∀ z ∈ l, Abs.inI z := by
  intro z hz
  obtain ⟨i, hi, rfl⟩ := List.mem_iff_getElem.1 hz
  obtain ⟨oa, cap, rfl, _⟩ := h.form
  obtain ⟨a, rfl⟩ := h.addr (by omega)
  exact (h.at i hi).ok
/-- A row of rows. -/
def RRow (w : World) (a : Addr) (l : List Int) : Prop := ∃ v, w.cell? a = some v ∧ IntsB w v l
theorem RRow.ext (w w' : World) (a : Addr) (l : List Int) (he : Ext w w') (h : RRow w a l) : RRow w' a l := let ⟨v, h1, h2⟩ := h; ⟨v, he.cell h1, h2.ext he⟩
abbrev Rowss (w : World) (v : Value) (l : List (List Int)) : Prop := SlR 1 RRow w v l
theorem Rowss.ext {w w' : World} {v : Value} {l : List (List Int)} (he : Ext w w') (h : Rowss w v l) : Rowss w' v l := SlR.ext RRow.ext he h
end Lite
namespace Abs
open Go Go.RowKit Lite
/-- The five cells of what an expression may speak of. -/
structure EnvIs (w : World) (cs : List Value) (v : Env) : Prop where
  ex : ∃ v0 v1 v2 v3, cs = [v0, v1, v2, v3, .int .i64 v.self] ∧ Rowss w v0 v.vars ∧ IntsB w v1 v.lens ∧ IntsB w v2 v.locals ∧ Rowss w v3 v.at_ ∧ inI v.self
theorem EnvIs.ext {w w' : World} {cs : List Value} {v : Env} (he : Ext w w') (h : EnvIs w cs v) : EnvIs w' cs v :=
  let ⟨v0, v1, v2, v3, e, h0, h1, h2, h3, h4⟩ := h.ex
  ⟨v0, v1, v2, v3, e, h0.ext he, h1.ext he, h2.ext he, h3.ext he, h4⟩
theorem EnvIs.form {w : World} {cs : List Value} {v : Env} (h : EnvIs w cs v) : ∃ a0 c0 a1 c1 a2 c2 a3 c3, cs = [.slice a0 v.vars.length c0, .slice a1 v.lens.length c1, .slice a2 v.locals.length c2, .slice a3 v.at_.length c3, .int .i64 v.self] ∧
    Rowss w (.slice a0 v.vars.length c0) v.vars ∧ IntsB w (.slice a1 v.lens.length c1) v.lens ∧ IntsB w (.slice a2 v.locals.length c2) v.locals ∧ Rowss w (.slice a3 v.at_.length c3) v.at_ ∧ inI v.self ∧
    v.vars.length ≤ 9223372036854775807 ∧ v.lens.length ≤ 9223372036854775807 ∧ v.locals.length ≤ 9223372036854775807 ∧ v.at_.length ≤ 9223372036854775807 := by
  obtain ⟨v0, v1, v2, v3, rfl, h0, h1, h2, h3, h4⟩ := h.ex
  obtain ⟨a0, c0, rfl, l0⟩ := h0.form
  obtain ⟨a1, c1, rfl, l1⟩ := h1.form
  obtain ⟨a2, c2, rfl, l2⟩ := h2.form
  obtain ⟨a3, c3, rfl, l3⟩ := h3.form
  exact ⟨a0, c0, a1, c1, a2, c2, a3, c3, rfl, h0, h1, h2, h3, h4, l0, l1, l2, l3⟩
end Abs
end
