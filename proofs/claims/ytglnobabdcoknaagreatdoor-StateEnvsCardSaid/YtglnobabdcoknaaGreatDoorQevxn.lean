/- Texts joined: StaW StaU LiteT LiteU StaV StaX StaY StbA StbB StbC StbD. -/
import Derived.Test.YtglnobabdcoknaaGreatDoorQevxm
import Derived.Laws.Bits64b
import Derived.Lib.AppendZerosOnto
set_option linter.all false
set_option maxRecDepth 8000
set_option maxHeartbeats 6400000
section
namespace Abs
open Go
def encH (x : Nat × Nat) : List Value := [.slice (some ⟨x.1, 0, none⟩) x.2 x.2]
def heads (m : Model) (bs : List Nat) : List (Nat × Nat) := bs.zip (m.procs.map fun p => p.locs.toNat)
theorem heads_len {m : Model} {bs : List Nat} (h : bs.length ≤ m.procs.length) : (heads m bs).length = bs.length := by simp [heads]; omega
theorem heads_get {m : Model} {bs : List Nat} {k : Nat} (h : k < bs.length) (hp : k < m.procs.length) : (heads m bs)[k]? = some (bs[k], m.procs[k].locs.toNat) := by
 simp [heads, List.getElem?_zip_eq_some, h, hp]
theorem heads_snoc {m : Model} {bs : List Nat} {b : Nat} (hp : bs.length < m.procs.length) : heads m (bs ++ [b]) = heads m bs ++ [(b, m.procs[bs.length].locs.toNat)] := by
 apply List.ext_getElem?
 intro i
 by_cases h1 : i < bs.length
 ·rw [heads_get (by simp; omega) (by omega), List.getElem?_append_left (by rw [heads_len (by omega)]; exact h1), heads_get h1 (by omega)]
  simp [List.getElem_append_left h1]
 ·by_cases h2 : i = bs.length
  ·subst h2
   rw [heads_get (by simp) hp, List.getElem?_append_right (by rw [heads_len (by omega)]; exact Nat.le_refl _), heads_len (by omega)]
   simp
  ·rw [List.getElem?_eq_none (by rw [heads_len (by simp; omega)]; simp; omega), List.getElem?_eq_none (by rw [List.length_append, heads_len (by omega)]; simp; omega)]
end Abs
namespace Go.Proofs.YtglnobabdcoknaaGreatDoor
open Go Go.RowKit Lite
theorem iclone_r (v : Value) (xs : List Int) (w : World) (h : Nums w v xs) (hb : Abs.big xs.length 8) :
  Ret Tryz.prog F.cc #[v] w fun v' w' => (∃ oa c, v' = .slice oa xs.length c) ∧ New w (fun w => Nums w v' xs) w' ∧ Ext w w' :=
 cloneF_r hmix E.cc (by kernel_rfl) (fun h => h) v xs w h (by unfold Abs.big at hb; omega)
structure AtRows (m : Abs.Model) (base : Nat) (bs : List Nat) (cnt : Nat → List Int) (v : Value) (W : World) : Prop where
 row : OwR Abs.encH T.b 1 base W v (Abs.heads m bs)
 low : ∀ b ∈ bs, base ≤ b
 nodup : bs.Nodup
 blk : ∀ p (h : p < bs.length), W.heap[bs[p]]? = some (.cells (intsC (cnt p)).toArray T.a)
theorem AtRows.ext {m : Abs.Model} {base : Nat} {bs : List Nat} {cnt : Nat → List Int} {v : Value} {w w' : World} (h : AtRows m base bs cnt v w) (he : Ext w w') : AtRows m base bs cnt v w' :=
 ⟨h.row.ext he, h.low, h.nodup, fun p hp => he.obj (h.blk p hp)⟩
theorem AtRows.mod {m : Abs.Model} {base : Nat} {bs : List Nat} {cnt : Nat → List Int} {v : Value} {w w' : World} {A : Nat → Prop} (h : AtRows m base bs cnt v w) (hm : Mod A w w') (hA : ∀ k, A k → k < base) : AtRows m base bs cnt v w' :=
 ⟨h.row.mod hm fun k hk a => by have := (h.row.lt k hk).1; have := hA k a; omega, h.low, h.nodup, fun p hp => hm.obj (fun a => by have := h.low _ (List.getElem_mem hp); have := hA _ a; omega) (h.blk p hp)⟩
theorem nodup_inj {l : List Nat} (h : l.Nodup) {i j : Nat} (hi : i < l.length) (hj : j < l.length) (e : l[i] = l[j]) : i = j := by
 rcases Nat.lt_trichotomy i j with h1 | h1 | h1
 ·exact absurd e (List.pairwise_iff_getElem.1 h i j hi hj h1)
 ·exact h1
 ·exact absurd e.symm (List.pairwise_iff_getElem.1 h j i hj hi h1)
theorem encH_one (x : Nat × Nat) : ∀ u ∈ Abs.encH x, u.oneCell' = true := by simp [Abs.encH, Value.oneCell']
theorem AtRows.step {m : Abs.Model} {base : Nat} {bs : List Nat} {cnt cnt' : Nat → List Int} {v : Value} {w w' : World} {q : Nat} (h : AtRows m base bs cnt v w) (hq : q < bs.length) (hw : Wr bs[q] w w') (hc : w'.heap[bs[q]]? = some (.cells (intsC (cnt' q)).toArray T.a))
  (hs : ∀ p, p < bs.length → p ≠ q → cnt' p = cnt p) : AtRows m base bs cnt' v w' := by
 refine ⟨h.row.mod (hw.mod (A := fun i => i = bs[q]) rfl) fun k hk e => ?_, h.low, h.nodup, fun p hp => ?_⟩
 ·obtain ⟨cur, h1⟩ := h.row.blk k hk
  have h2 := h.blk q hq
  rw [e, h2] at h1
  injection h1 with h1
  injection h1 with _ h1
  revert h1; decide
 ·by_cases e : p = q
  ·subst e; exact hc
  ·rw [hs p hp e]
   exact hw.obj (h.blk p hp) fun e2 => e (nodup_inj h.nodup hp hq e2)
theorem AtRows.snoc {m : Abs.Model} {base : Nat} {bs : List Nat} {cnt : Nat → List Int} {v v' : Value} {w w' : World} {b : Nat} (h : AtRows m base bs cnt v w) (hk : bs.length < m.procs.length) (hrow : OwR Abs.encH T.b 1 base w' v' (Abs.heads m bs ++ [(b, m.procs[bs.length].locs.toNat)]))
  (hg : w.grownBy w' v.ownBlock) (hb : base ≤ b) (hnew : ∀ p (hp : p < bs.length), bs[p] ≠ b) (hc : w.heap[b]? = some (.cells (intsC (cnt bs.length)).toArray T.a)) : AtRows m base (bs ++ [b]) cnt v' w' := by
 refine ⟨by rw [Abs.heads_snoc hk]; exact hrow, fun x hx => ?_, ?_, fun p hp => ?_⟩
 ·rcases List.mem_append.1 hx with hx | hx
  ·exact h.low x hx
  ·rw [List.mem_singleton] at hx; omega
 ·rw [List.nodup_append]
  refine ⟨h.nodup, by simp, fun a ha c hc e => ?_⟩
  rw [List.mem_singleton] at hc
  obtain ⟨p, hp, rfl⟩ := List.mem_iff_getElem.1 ha
  exact hnew p hp (by rw [e, hc])
 ·by_cases hp2 : p < bs.length
  ·rw [List.getElem_append_left hp2]
   exact h.row.box hg (h.blk p hp2) (by decide)
  ·have e : p = bs.length := by simp at hp; omega
   subst e
   rw [List.getElem_append_right (Nat.le_refl _)]
   simpa using h.row.box hg hc (by decide)
theorem AtRows.numss {m : Abs.Model} {base : Nat} {bs : List Nat} {cnt : Nat → List Int} {v : Value} {W : World} {L : List (List Int)} (h : AtRows m base bs cnt v W) (hb : bs.length = m.procs.length) (hL : L.length = m.procs.length)
  (hl : ∀ p (hp : p < m.procs.length), (cnt p).length = m.procs[p].locs.toNat ∧ m.procs[p].locs.toNat ≤ 12) (hc : ∀ p, p < m.procs.length → L[p]? = some (cnt p)) : Numss W v L := by
 obtain ⟨oa, cap, rfl, h1, h2, h3, h4⟩ := (OwR.slr (enc := Abs.encH) (sz := 1) (fun _ => rfl) h.row).ex
 have hh := Abs.heads_len (m := m) (bs := bs) (by omega)
 refine ⟨oa, cap, by rw [hh, hb, hL], by omega, h2, fun hn => h3 (by intro e; rw [e] at hh; simp at hh; exact hn (List.eq_nil_of_length_eq_zero (by omega))), fun a ha i hi => ?_⟩
 have hi' : i < m.procs.length := by omega
 have hg := Abs.heads_get (m := m) (bs := bs) (k := i) (by omega) hi'
 obtain ⟨hlt, hge⟩ := List.getElem?_eq_some_iff.1 hg
 have hcell := h4 a ha i hlt 0 _ (show (Abs.encH (Abs.heads m bs)[i])[0]? = some _ from rfl)
 rw [hge, add_zero] at hcell
 refine ⟨_, hcell, ?_⟩
 obtain ⟨_, hLe⟩ := List.getElem?_eq_some_iff.1 (hc i hi')
 rw [hLe]
 exact nums_blk (h.blk i (by omega)) (hl i hi').1.symm (by have := hl i hi'; unfold maxLen; omega)
theorem env_r (cs : List Value) (v : Value) (m : Abs.Model) (s : List Int) (inst : Int) (w : World) (h : Abs.MI w cs m) (hg : m.good) (ho : OwnIs w) (hs : Nums w v s) :
  Ret Tryz.prog F.d #[.agg cs.toArray, v, .int .i64 inst] w fun u w' => (∃ es, u = .agg es.toArray ∧ New w (fun w => EnvN w es (Abs.envOf m s inst)) w') ∧ Ext w w' := by
 have hMI := h
 have hsI := hs
 obtain ⟨o0, c0, o1, c1, o2, c2, o3, c3, o4, c4, rfl, h0, h1, h2, h3, h4, l0, l1, l2, l3, l4⟩ := h.form
 obtain ⟨ov, cv, rfl, lv⟩ := hs.form
 refine Ks E.d ?_; dsimp only [C.d]; refine Yy ?_
 refine Sr ?_
 intro w1 b3 hb3 he1 hc3
 refine Sr ?_
 intro w2 b6 hb6 he2 hc6
 have z3' := lH hc3
 replace hc3 := he2.obj hc3
 have z6 := lH hc6
 have z1 := he1.size
 have e2 := he1.trans he2
 refine Sr ?_
 refine K.call (read_r _ m w2 (hMI.ext e2) hg (ho.ext e2)) ?_
 rintro _ w3 ⟨hr, he3⟩
 replace hc3 := he3.obj hc3
 replace hc6 := he3.obj hc6
 have e3 := e2.trans he3
 have z2 := he3.size
 rcases hr with ⟨rfl, hk⟩ | ⟨b, rfl, hk, hr⟩
 ·have hn : Abs.envOf m s inst = Abs.Env.nought := by unfold Abs.envOf; rw [if_neg]; intro h; exact hk h.1.1
  refine Sr ?_
  refine K.ptrEq0 (by kernel_rfl) ?_
  refine Sr ?_
  intro w4 hw4 hc4
  refine Sr ?_
  exact ⟨⟨_, rfl, by rw [hn]; exact Stab.of fun _ => EnvN.zero _⟩, hw4.ext e3 (by omega)⟩
 have hM := Abs.maybe_of hk
 refine Sr ?_
 refine K.ptrEq1 (by kernel_rfl) ?_
 refine Sr ?_
 refine K.call (right_r b _ s m w3 hr hM (hs.ext Flat.ext e3)) ?_
 rintro _ w4 ⟨⟨t, rfl, ht⟩, he4⟩
 replace hc3 := he4.obj hc3
 replace hc6 := he4.obj hc6
 have e4 := e3.trans he4
 have z3 := he4.size
 cases t with
 | false =>
  have hn : Abs.envOf m s inst = Abs.Env.nought := by unfold Abs.envOf; rw [if_neg]; intro h; have := ht.2 h.1.2; cases this
  refine Sr ?_
  intro w5 hw5 hc5
  refine Sr ?_
  exact ⟨⟨_, rfl, by rw [hn]; exact Stab.of fun _ => EnvN.zero _⟩, hw5.ext e4 (by omega)⟩
 | true =>
 have hf := ht.1 rfl
 obtain ⟨x0, d0, x1, d1, x2, d2, x3, d3, x4, d4, p0, g0, p1, g1, p2, g2, p3, g3, p4, g4, oi, ci, hb, r0, r1, r2, r3, r4, k0, k1, k2, k3, hI⟩ := hr.form
 replace hb := he4.obj hb
 replace r0 := r0.ext Flat.ext he4
 replace r1 := r1.ext Flat.ext he4
 replace r2 := r2.ext Flat.ext he4
 replace hI := hI.ext Flat.ext he4
 refine Sr ?_
 apply K.cond <;> intro g1
 ·have hn : Abs.envOf m s inst = Abs.Env.nought := by unfold Abs.envOf; rw [if_neg]; intro h; omega
  refine Sr ?_
  intro w5 hw5 hc5
  refine Sr ?_
  exact ⟨⟨_, rfl, by rw [hn]; exact Stab.of fun _ => EnvN.zero _⟩, hw5.ext e4 (by omega)⟩
 refine Sr ?_
 apply K.cond <;> intro g2
 ·have hn : Abs.envOf m s inst = Abs.Env.nought := by unfold Abs.envOf; rw [if_neg]; intro h; omega
  refine Sr ?_
  intro w5 hw5 hc5
  refine Sr ?_
  exact ⟨⟨_, rfl, by rw [hn]; exact Stab.of fun _ => EnvN.zero _⟩, hw5.ext e4 (by omega)⟩
 have hn : Abs.envOf m s inst = Abs.spoken m s inst := by unfold Abs.envOf; rw [if_pos ⟨⟨hk, hf⟩, by omega, by omega⟩]
 refine Sr ?_
 intro w5 bE hbE he5 hcE
 have hx3 : ∀ {W}, Ext w4 W → W.heap[b3]? = _ := fun e => e.obj hc3
 have hxb : ∀ {W}, Ext w4 W → W.heap[b]? = _ := fun e => e.obj hb
 have zE := lH hcE
 have hE5 : ∀ {W}, Mod (fun i => i = bE) w5 W → Ext w4 W := fun h => h.ext he5 fun i hi e => by omega
 have hlen := hf.len
 have h64 : Abs.cellN m ≤ 64 := Abs.layCells_le64 hM
 have few := hM.few
 have hil : (Abs.insts m).length ≤ 30 := by have := Abs.insts_len m; have := hM.procs; omega
 clear hr ho r3 r4 k0 k1 k2 k3
 refine Sr ?_
 refine K.forG 46 m.vars.length [1, 2, 3, 6, 7, 8, 44, 45] (fun _ : SlP => []) (none, 0, 0) (fun k v W => (Mod (fun i => i = bE) w5 W ∧ W.heap[bE]? = some (.cells #[.slice v.1 v.2.1 v.2.2, .slice none 0 0, .slice none 0 0, .slice none 0 0, .int .i64 0] T.i)) ∧ RowC NumsIs T.b 1 w5.heap.size W (.slice v.1 v.2.1 v.2.2) (((Abs.spoken m s inst).vars).take k)) hZq hZq ⟨⟨Mod.refl _ _, hcE⟩, by simpa using RowC.nil _ _ _ _ _⟩ ?_
 clear hcE
 rintro k v S w6 hk ⟨⟨hm6, hcE⟩, ho6⟩
 have hc3 := hx3 (hE5 hm6)
 have hb := hxb (hE5 hm6)
 have E6 := e4.trans (hE5 hm6)
 refine Sr ?_
 apply K.cond <;> intro g1
 ·have hk2 : k < m.vars.length := by omega
  obtain ⟨a, rfl⟩ := h1.addr (by omega)
  have hcl := Abs.cells_le m.vars[k] m.scalars
  have hfit := Abs.vFit hk2
  have hcn := Abs.cellN_eq m
  obtain ⟨hvi, hve⟩ := Abs.vAt_get hk2
  have hcv := ((h1.at k hk2).cells).ext E6
  refine Sr ?_
  intro wn b10 hb10 hen hcn10
  refine Sr ?_
  intro w7 hw7 hc10
  have he7 : Ext w6 w7 := hw7.ext hen hb10
  replace hc10 : w7.heap[b10]? = some (.cells m.vars[k].enc.toArray T.e) := hc10
  replace hc3 := he7.obj hc3
  replace hb := he7.obj hb
  replace hcE := he7.obj hcE
  have ho7 := ho6.ext he7
  have E7 := E6.trans he7
  have hm7 : Mod (fun i => i = bE) w5 w7 := hm6.trans he7.mod
  clear hw7 hen hcn10 hcv ho6
  obtain ⟨a0, rfl⟩ := r0.addr (by omega)
  have r07 := r0.ext Flat.ext ((hE5 hm6).trans he7)
  refine Sr ?_
  intro w8 he8
  replace hcE := he8.obj hcE
  have ho8 := ho7.ext he8
  have E8 := E7.trans he8
  have hm8 : Mod (fun i => i = bE) w5 w8 := hm7.trans he8.mod
  have hs8 := hs.ext Flat.ext E8
  refine Sr ?_
  refine K.call (cells_r m.vars[k] _ m.scalars w8 (h0.ext E8)) ?_
  rintro _ w9 ⟨rfl, he9⟩
  refine ⟨he9, ?_⟩
  refine Sr ?_
  refine K.slcB (k := .i64) (k' := .i64) (Abs.vAt m k) (Abs.vAt m k + (Abs.cells m.vars[k] m.scalars).toNat) hs8 (by simp [ev_tmp, uA, hve]) (by simp [ev_tmp, uA, hve]; omega) (by omega) (by omega) fun o c hp => ?_
  rw [show Abs.vAt m k + (Abs.cells m.vars[k] m.scalars).toNat - Abs.vAt m k = (Abs.cells m.vars[k] m.scalars).toNat from by omega] at hp ⊢
  have hvk := Abs.spoken_var (s := s) (inst := inst) hk2
  refine Sr ?_
  refine K.call (iclone_r _ _ w9 (hp.ext Flat.ext he9) (by unfold Abs.big; simp; omega)) ?_
  rintro _ w10 ⟨⟨oa, ca, rfl⟩, hn10, he10⟩
  refine ⟨he9.trans he10, ?_⟩
  refine Sr ?_
  intro w11 b11 hb11 he11 hc11
  refine ⟨(he9.trans he10).trans he11, ?_⟩
  have z58 := hm8.size
  have z89 := he9.size
  have z910 := he10.size
  have z1011 := he11.size
  have e811 : Ext w8 w11 := (he9.trans he10).trans he11
  have ho11 := ho8.ext e811
  have hlt : (((Abs.spoken m s inst).vars).take k).length ≤ 12 := by rw [List.length_take, Abs.spoken_vars_len]; omega
  refine K.appC (x := (s.drop (Abs.vAt m k)).take (Abs.cells m.vars[k] m.scalars).toNat) (cs := [.slice oa ((s.drop (Abs.vAt m k)).take (Abs.cells m.vars[k] m.scalars).toNat).length ca]) ho11 (cB hc11)
   (((New.own hn10 (ho8.ext he9) (by omega)).imp fun w h => ⟨_, rfl, h⟩).ext he11 fun i hi hk => by have := (ho8.ext he9).under (by omega) i hk; omega) rfl (by simp [Value.oneCell']) (by omega) (by unfold maxLen; omega) (by omega) fun v' w12 hr hg12 => ?_
  have hcE12 := ho11.box hg12 (e811.obj hcE) (by decide)
  have hm12 := (hm8.trans e811.mod).own hg12 fun q hq => (ho11.lt q hq).1
  obtain ⟨oa', cap', rfl, _⟩ := hr.form
  clear hcE hn10 ho11 ho8 ho7 hc11 hp hc3 hb hc10
  refine Sr ?_
  intro w13 hw13 hc13
  refine Sr ?_
  refine ⟨hk2, Tr, (oa', _, cap'), trivial, ⟨hm12.trans (hw13.mod rfl), hc13⟩, ?_⟩
  rw [List.take_succ, hvk]
  exact hr.wr hw13 zE
 have hkv : m.vars.length = k := by omega
 rw [List.take_of_length_le (by rw [Abs.spoken_vars_len]; omega)] at ho6
 have hV := ho6.new (R := NumsRow)
 obtain ⟨va, na, ca⟩ := v
 have z6' := lH hcE
 have z56 := hm6.size
 have hE6 : ∀ {W}, Mod (fun i => i = bE) w6 W → Ext w4 W := fun h => hE5 (hm6.trans h)
 clear ho6
 refine Sr ?_
 clear hc3 hb
 refine K.forG 78 m.chans.length [1, 2, 3, 6, 7, 8, 76, 77] (fun _ : SlP => []) (none, 0, 0) (fun k v W => (Mod (fun i => i = bE) w6 W ∧ W.heap[bE]? = some (.cells #[.slice va na ca, .slice v.1 v.2.1 v.2.2, .slice none 0 0, .slice none 0 0, .int .i64 0] T.i)) ∧ OwR encN T.a 1 w6.heap.size W (.slice v.1 v.2.1 v.2.2) (((Abs.spoken m s inst).lens).take k)) hZq hZq ⟨⟨Mod.refl _ _, hcE⟩, by simpa using OwR.nil _ _ _ _ _⟩ ?_
 clear hcE
 rintro k v S w7 hk ⟨⟨hm7, hcE⟩, ho7⟩
 have hc3 := hx3 (hE6 hm7)
 have hb := hxb (hE6 hm7)
 have E7 := e4.trans (hE6 hm7)
 refine Sr ?_
 apply K.cond <;> intro g1
 ·have hk2 : k < m.chans.length := by omega
  have hfit := Abs.cFit hk2
  have hcn := Abs.cellN_eq m
  obtain ⟨hvi, hce⟩ := Abs.cAt_get hk2
  obtain ⟨a1, rfl⟩ := r1.addr (by omega)
  obtain ⟨as', rfl⟩ := hs.addr (by omega)
  have hs7 := hs.ext Flat.ext E7
  have r17 := r1.ext Flat.ext (hE6 hm7)
  refine Sr ?_
  intro w8 he8
  replace hcE := he8.obj hcE
  have ho8 := ho7.ext he8
  have hm8 : Mod (fun i => i = bE) w6 w8 := hm7.trans he8.mod
  have hs8 := hs7.ext Flat.ext he8
  have r18 := r17.ext Flat.ext he8
  replace hb := he8.obj hb
  clear hs7 ho7 hc3 r17
  refine Sr ?_
  refine K.ian (Abs.cAt m k) (by rw [hce]) (by omega) ?_
  refine Sr ?_
  intro w9 b9 hb9 he9 hc9
  refine ⟨he9, ?_⟩
  have hcs : Abs.cAt m k < s.length := by omega
  have hvk := Abs.spoken_len (inst := inst) hk2 hcs
  have hl12 : (((Abs.spoken m s inst).lens).take k).length ≤ 12 := by rw [List.length_take, Abs.spoken_lens_len]; omega
  have ho9 := ho8.ext he9
  have z68 := hm8.size
  have z89 := he9.size
  refine K.app1 (y := s[Abs.cAt m k]) ho9 hc9 rfl (fun _ => rfl) encN_one (by omega) (by unfold maxLen; omega) (by omega) fun oa n c w10 ho10 hg10 => ?_
  have hcE10 := ho9.box hg10 (he9.obj hcE) (by decide)
  have hm10 := (hm8.trans he9.mod).own hg10 fun q hq => (ho9.lt q hq).1
  clear hcE ho9 ho8 hc9
  refine Sr ?_
  intro w11 hw11 hc11
  refine Sr ?_
  refine ⟨hk2, Tr, (oa, n, c), trivial, ⟨hm10.trans (hw11.mod rfl), hc11⟩, ?_⟩
  rw [List.take_succ, hvk]
  exact ho10.mod (hw11.mod (A := fun i => i = bE) rfl) fun q hq e => by have := (ho10.lt q hq).1; omega
 have hkc : m.chans.length = k := by omega
 rw [List.take_of_length_le (by rw [Abs.spoken_lens_len]; omega)] at ho7
 have hN7 : New w6 (fun w => Nums w (.slice v.1 v.2.1 v.2.2) (Abs.spoken m s inst).lens) w7 := OwR.new (fun _ => rfl) ho7
 obtain ⟨vb, nb, cb⟩ := v
 have z7' := lH hcE
 have z67 := hm7.size
 have hE7 : ∀ {W}, Mod (fun i => i = bE) w7 W → Ext w4 W := fun h => hE6 (hm7.trans h)
 clear ho7
 refine Sr ?_
 clear hc3 hb
 refine K.forG 101 m.procs.length [1, 2, 3, 6, 7, 8, 99, 100] (fun _ : SlP => []) (none, 0, 0) (fun k v W => (Mod (fun i => i = bE) w7 W ∧ W.heap[bE]? = some (.cells #[.slice va na ca, .slice vb nb cb, .slice none 0 0, .slice v.1 v.2.1 v.2.2, .int .i64 0] T.i)) ∧ ∃ bs : List Nat, bs.length = k ∧ AtRows m w7.heap.size bs (fun p => Abs.atRow m s p (m.procs[p]?.map (·.locs) |>.getD 0) 0) (.slice v.1 v.2.1 v.2.2) W) hZq hZq ⟨⟨Mod.refl _ _, hcE⟩, [], rfl, ⟨OwR.nil _ _ _ _ _, (fun b h => nomatch h), List.nodup_nil, (fun p h => nomatch h)⟩⟩ ?_
 clear hcE
 rintro k v S w8 hk ⟨⟨hm8, hcE⟩, bs, hbs, hA8⟩
 have hc3 := hx3 (hE7 hm8)
 have hb := hxb (hE7 hm8)
 have E8 := e4.trans (hE7 hm8)
 refine Sr ?_
 apply K.cond <;> intro g1
 ·have hk2 : k < m.procs.length := by omega
  obtain ⟨a, rfl⟩ := h3.addr (by omega)
  obtain ⟨hsn, vv, vc, hpc, hpv, hpcm⟩ := h3.at k hk2
  obtain ⟨ov', cv', rfl, lv'⟩ := hpv.form
  obtain ⟨oc', cc', rfl, lc'⟩ := hpcm.form
  have hok := (hM.proc _ (List.getElem_mem hk2)).locs
  replace hpc := hpc.ext E8
  refine Sr ?_
  intro w9 b14 hb14 he9 hc14
  replace hcE := he9.obj hcE
  have hA9 := hA8.ext he9
  have hm9 : Mod (fun i => i = bE) w7 w9 := hm8.trans he9.mod
  clear hpc hA8
  refine Sr ?_
  intro w10 he10
  replace hcE := he10.obj hcE
  replace hc14 := he10.obj hc14
  have hA10 := hA9.ext he10
  have hm10 : Mod (fun i => i = bE) w7 w10 := hm9.trans he10.mod
  refine Sr ?_
  refine K.mkN m.procs[k].locs.toNat (by omega) (by omega) ?_
  intro w11 b11 hb11 he11 hc11
  refine ⟨he11, ?_⟩
  refine Sr ?_
  intro w12 b12 hb12 he12 hc12
  refine ⟨he11.trans he12, ?_⟩
  have e12 := he11.trans he12
  have hA12 := hA10.ext e12
  have hhl := Abs.heads_len (m := m) (bs := bs) (by omega)
  have hP6 := hM.procs
  have z710 := hm10.size
  have z1012 := e12.size
  refine K.app1 (y := (b11, m.procs[k].locs.toNat)) hA12.row hc12 rfl (fun _ => rfl) encH_one (by omega) (by unfold maxLen; omega) (by omega) fun oa n c w13 ho13 hg13 => ?_
  have hcE13 := hA12.row.box hg13 (e12.obj hcE) (by decide)
  have hm13 := (hm10.trans e12.mod).own hg13 fun q hq => (hA12.row.lt q hq).1
  have hA13 : AtRows m w7.heap.size (bs ++ [b11]) _ (.slice oa n c) w13 := hA12.snoc (by omega) (by subst hbs; exact ho13) hg13 (by omega) (fun p hp e => by have := lH (hA10.blk p hp); omega) (by
   subst hbs
   rw [Abs.atRow_zero]
   simp only [List.getElem?_eq_getElem hk2, Option.map_some, Option.getD_some]
   exact he12.obj hc11)
  clear hcE hA12 hA10 hA9 hc12
  refine Sr ?_
  intro w14 hw14 hc14
  refine Sr ?_
  exact ⟨hk2, Tr, (oa, n, c), trivial, ⟨hm13.trans (hw14.mod rfl), hc14⟩, bs ++ [b11], by simp [hbs], hA13.mod (hw14.mod (A := fun i => i = bE) rfl) fun i e => by omega⟩
 have hkp : m.procs.length = k := by omega
 subst hkp
 obtain ⟨vd, nd, cd⟩ := v
 have z8' := lH hcE
 have z78 := hm8.size
 have hE8 : ∀ {W}, Mod (fun i => i ∈ bs) w8 W → Ext w4 W := fun h => h.ext (hE7 hm8) fun i hi e => by have := hA8.low i e; have := (hE6 hm7).size; omega
 have hb3s := lH hc3
 have hbs' := lH hb
 have hEb : ¬ bE ∈ bs := fun h => by have := hA8.low _ h; omega
 have hkE : ∀ {W}, Mod (fun i => i ∈ bs) w8 W → W.heap[bE]? = _ := fun h => h.obj hEb hcE
 refine Sr ?_
 refine K.forG 119 (Abs.insts m).length [1, 2, 3, 6, 7, 8, 117, 118] (fun _ : Unit => []) () (fun k _ W => Mod (fun i => i ∈ bs) w8 W ∧ AtRows m w7.heap.size bs (fun p => Abs.atRow m s p (m.procs[p]?.map (·.locs) |>.getD 0) k) (.slice vd nd cd) W) hZq hZq ⟨Mod.refl _ _, hA8⟩ ?_
 clear hA8 hcE hc3 hb
 rintro k _ S w9 hk ⟨hm9, hA9⟩
 have hc3 := hx3 (hE8 hm9)
 have hb := hxb (hE8 hm9)
 have hcE := hkE hm9
 have E9 := e4.trans (hE8 hm9)
 refine Sr ?_
 apply K.cond <;> intro g1
 ·have hk2 : k < (Abs.insts m).length := by omega
  have hI9 := hI.ext Flat.ext (hE8 hm9)
  obtain ⟨ai, rfl⟩ := hI.addr (by omega)
  have hof := Abs.insts_of _ (List.getElem_mem hk2)
  obtain ⟨q, hq, hqe, hbe⟩ := Abs.instBds_at hof
  have hgt : (Abs.insts m)[k]?.map (·.proc) = some (q : Int) := by rw [List.getElem?_eq_getElem hk2, Option.map_some, hqe]
  obtain ⟨d, hsd, hdl⟩ := hf.loc hk2 hq hbe
  obtain ⟨hsl, hsd'⟩ := List.getElem?_eq_some_iff.1 hsd
  obtain ⟨hvi, hve⟩ := Abs.iAt_get hk2
  obtain ⟨av, rfl⟩ := hs.addr (by omega)
  obtain ⟨a2, rfl⟩ := r2.addr (by omega)
  have hok := (hM.proc _ (List.getElem_mem hq)).locs
  refine Sr ?_
  intro wn b16 hb16 hen hcn16
  refine Sr ?_
  intro w10 hw10 hc16
  have he10 : Ext w9 w10 := hw10.ext hen hb16
  replace hc16 : w10.heap[b16]? = some (.cells #[.int .i64 q, .int .i64 (Abs.insts m)[k].elem] T.m) := by rw [← hqe]; exact hc16
  replace hcE := he10.obj hcE
  replace hb := he10.obj hb
  have hA10 := hA9.ext he10
  have hm10 : Mod (fun i => i ∈ bs) w8 w10 := hm9.trans he10.mod
  have hs10 := hs.ext Flat.ext (E9.trans he10)
  have r210 := r2.ext Flat.ext ((hE8 hm9).trans he10)
  clear hw10 hen hcn16 hI9 hc3 hA9
  refine Sr ?_
  intro w11 he11
  replace hcE := he11.obj hcE
  replace hb := he11.obj hb
  replace hc16 := he11.obj hc16
  have hA11 := hA10.ext he11
  have hm11 : Mod (fun i => i ∈ bs) w8 w11 := hm10.trans he11.mod
  have hs11 := hs10.ext Flat.ext he11
  have r211 := r210.ext Flat.ext he11
  clear hs10 r210 hA10
  have hhl := Abs.heads_len (m := m) (bs := bs) (by omega)
  have hrow := OwR.slr (enc := Abs.encH) (sz := 1) (fun _ => rfl) hA11.row
  obtain ⟨ad, rfl⟩ : ∃ a, vd = some a := hrow.addr (by omega)
  have hnd := hrow.len.1
  obtain ⟨hhq, hhe⟩ := List.getElem?_eq_some_iff.1 (Abs.heads_get (m := m) (bs := bs) (k := q) (by omega) hq)
  have hdn : d < m.procs[q].locs.toNat := by omega
  have hH1 : (Abs.heads m bs)[q].1 = bs[q] := by rw [hhe]
  have hH2 : (Abs.heads m bs)[q].2 = m.procs[q].locs.toNat := by rw [hhe]
  have hblk := hA11.blk q (by omega)
  simp only [List.getElem?_eq_getElem hq, Option.map_some, Option.getD_some] at hblk
  rw [← hH1] at hblk
  have hrl := Abs.atRow_len m s q m.procs[q].locs k
  have hrg := Abs.atRow_get (m := m) (s := s) (p := q) (k := k) hdn
  have hcl := Abs.atCount_le m s q d k
  have hrowq : Nums w11 (.slice (some ⟨(Abs.heads m bs)[q].1, 0, none⟩) (Abs.heads m bs)[q].2 (Abs.heads m bs)[q].2) (Abs.atRow m s q m.procs[q].locs k) := nums_blk hblk (by rw [hH2, hrl]) (by rw [hrl]; unfold maxLen; omega)
  have hdr : d < (Abs.atRow m s q m.procs[q].locs k).length := by omega
  obtain ⟨_, hrg'⟩ := List.getElem?_eq_some_iff.1 hrg
  refine Sr ?_
  refine K.ian (Abs.iAt m k) (by rw [hve]) (by rw [hlen]; omega) ?_
  refine Sr ?_
  refine K.ian d hsd' (by rw [hH2]; exact hdn) ?_
  refine Sr ?_
  refine K.ian d hsd' (by rw [hH2]; exact hdn) ?_
  refine Sr ?_
  refine K.st1 hblk (by rw [List.size_toArray, intsC_len]; omega) rfl fun w12 hw12 hc12 => ?_
  rw [intsC_set (Nat.mul_one _), hrg', ← Abs.atRow_step hgt hsd hdn] at hc12
  rw [hH1] at hw12 hc12
  refine Sr ?_
  refine ⟨hk2, Tr, (), trivial, hm11.trans (hw12.mod (List.getElem_mem _)), hA11.step (q := q) (by omega) hw12 (by simp only [List.getElem?_eq_getElem hq, Option.map_some, Option.getD_some]; exact hc12) fun p hp hpq => ?_⟩
  have hp' : p < m.procs.length := by omega
  simp only [List.getElem?_eq_getElem hp', Option.map_some, Option.getD_some]
  exact Abs.atRow_skip (by rw [hgt]; intro e; have := Option.some.inj e; omega)
 have hki : (Abs.insts m).length = k := by omega
 subst hki
 have hm79 : Mod (fun i => i = bE) w7 w9 := hm8.comp hm9 (fun i _ e => e) fun i hi e => by have := hA9.low i e; omega
 have hm69 : Mod (fun i => i = bE) w6 w9 := hm7.trans hm79
 have hV9 : Stab (fun i => i < w5.heap.size) (fun w => Numss w (.slice va na ca) (Abs.spoken m s inst).vars) w9 := hV.move hm69 (fun i _ e => by omega) fun i _ e => e
 have hN9 : New w6 (fun w => Nums w (.slice vb nb cb) (Abs.spoken m s inst).lens) w9 := hN7.move hm79 (fun i _ e => by omega) fun i _ e => e
 have hA : ∀ {W}, Mod (fun i => i < w6.heap.size) w9 W → Numss W (.slice vd nd cd) (Abs.spoken m s inst).at_ := fun {W} hW => (hA9.mod hW fun i e => by omega).numss hbs (Abs.spoken_at_len m s inst) (fun p hp => by
   simp only [List.getElem?_eq_getElem hp, Option.map_some, Option.getD_some]
   exact ⟨Abs.atRow_len _ _ _ _ _, by have := (hM.proc _ (List.getElem_mem hp)).locs; omega⟩) fun p hp => by
   simp only [List.getElem?_eq_getElem hp, Option.map_some, Option.getD_some]
   exact Abs.spoken_at hp
 have z9 := hm69.size
 clear hV hN7
 refine Sr ?_
 apply K.cond <;> intro g2
 rotate_left
 ·obtain ⟨e0, e1⟩ := Abs.spoken_none (m := m) (s := s) (inst := inst) (by omega)
  have hc69 := (hE8 hm9).obj hc6
  refine Sr ?_
  intro w10 hw10 hc10
  refine Sr ?_
  have hm10 : Mod (fun i => i = b6) w9 w10 := hw10.mod rfl
  refine ⟨⟨_, rfl, fun W hW => ?_⟩, hw10.ext (e4.trans (hE8 hm9)) (by omega)⟩
  have hAll : Mod (fun i => i < w5.heap.size) w9 W := (hm10.weak fun i e => by omega).trans (hW.weak fun i e => by omega)
  rw [hn]
  refine ⟨_, _, _, _, by rw [e1], hV9 _ hAll, hN9 _ (hAll.weak fun i e => by omega), ?_, hA (hAll.weak fun i e => by omega)⟩
  rw [e0]; exact SlR.nil
 ·obtain ⟨q, rfl⟩ := Int.eq_ofNat_of_zero_le (show 0 ≤ inst by omega)
  have hq : q < (Abs.insts m).length := by omega
  have hfit := Abs.iFit hq
  obtain ⟨hvi, hve⟩ := Abs.iAt_get hq
  obtain ⟨a2, rfl⟩ := r2.addr (by omega)
  have r29 := r2.ext Flat.ext (hE8 hm9)
  obtain ⟨ai, rfl⟩ := hI.addr (by omega)
  have hI9 := hI.ext Flat.ext (hE8 hm9)
  have hof := Abs.insts_of _ (List.getElem_mem hq)
  obtain ⟨p, hp, hpe, hbe⟩ := Abs.instBds_at hof
  have hbl : (Abs.instBds m (Abs.insts m)[q]).length = 1 + m.procs[p].vars.length := by rw [hbe, Abs.procBds_len]
  obtain ⟨a, rfl⟩ := h3.addr (by omega)
  obtain ⟨hsn, vv, vc, hpc, hpv, hpcm⟩ := h3.at p hp
  obtain ⟨ov', cv', rfl, lv'⟩ := hpv.form
  obtain ⟨oc', cc', rfl, lc'⟩ := hpcm.form
  have hc69 := (hE8 hm9).obj hc6
  refine Sr ?_
  intro w10 he10
  replace hcE := he10.obj hcE
  replace hb := he10.obj hb
  replace hc3 := he10.obj hc3
  replace hc69 := he10.obj hc69
  have r210 := r29.ext Flat.ext he10
  have hI10 := hI9.ext Flat.ext he10
  clear r29 hI9
  refine Sr ?_
  intro w11 b17 hb17 he11 hc11
  refine ⟨he11, ?_⟩
  refine K.stAb hc11 rfl rfl (by simp [Value.oneCell', Abs.Inst.enc]) fun w12 hw12 hc12 => ?_
  have he12 : Ext w10 w12 := hw12.ext he11 hb17
  refine ⟨he12, ?_⟩
  replace hc12 : w12.heap[b17]? = some (.cells #[.int .i64 p, .int .i64 (Abs.insts m)[q].elem] T.m) := by rw [← hpe]; exact hc12
  replace hcE := he12.obj hcE
  replace hc3 := he12.obj hc3
  replace hc69 := he12.obj hc69
  have hm12 : Mod (fun i => i = bE) w9 w12 := he10.mod.trans he12.mod
  have z912 := hm12.size
  have E12 : Ext w4 w12 := (hE8 hm9).trans (he10.trans he12)
  clear hc11 hw12 hI10 r210 hb
  refine Sr ?_
  intro w13 hw13 hc13
  have E13 : Ext w4 w13 := hw13.ext E12 (by omega)
  have hm13 : Mod (fun i => i = bE) w9 w13 := hm12.trans (hw13.mod rfl)
  replace hc3 := hw13.obj hc3 (by omega)
  replace hc69 := hw13.obj hc69 (by omega)
  have n17 : b17 ≠ bE := by have := he10.size; omega
  replace hc12 := hw13.obj hc12 n17
  replace hpc := hpc.ext (e4.trans E13)
  unfold Abs.Proc.enc at hpc
  have hs13 := hs.ext Flat.ext (e4.trans E13)
  clear hcE
  refine Sr ?_
  refine K.slcB (k := .i64) (k' := .i64) (Abs.iAt m q + 1) (Abs.iAt m q + 1 + m.procs[p].vars.length) hs13 (by simp [ev_tmp, uA, hve]) (by simp [ev_tmp, uA, hve]) (by omega) (by omega) fun o c hpt => ?_
  rw [show Abs.iAt m q + 1 + m.procs[p].vars.length - (Abs.iAt m q + 1) = m.procs[p].vars.length from by omega] at hpt ⊢
  refine Sr ?_
  refine K.call (iclone_r _ _ w13 hpt (by unfold Abs.big; simp; omega)) ?_
  rintro _ w14 ⟨⟨oa, ca, rfl⟩, hn14, he14⟩
  replace hc13 := he14.obj hc13
  replace hc69 := he14.obj hc69
  have hm14 : Mod (fun i => i = bE) w9 w14 := hm13.trans he14.mod
  have z1314 := he14.size
  have z913 := hm13.size
  refine Sr ?_
  intro w15 hw15 hc15
  have hm15 : Mod (fun i => i = bE) w9 w15 := hm14.trans (hw15.mod rfl)
  replace hc69 := hw15.obj hc69 (by omega)
  refine Sr ?_
  intro w16 hw16 hc16
  refine Sr ?_
  have z15 := hw15.size
  have hm16 : Mod (fun i => i < w6.heap.size) w9 w16 := (hm15.weak fun i e => by omega).trans (hw16.mod (by omega))
  obtain ⟨e0, e1⟩ := Abs.spoken_some s hq (n := m.procs[p].vars.length) (by omega)
  refine ⟨⟨_, rfl, fun W hW => ?_⟩, hw16.ext (e4.trans (hm15.ext (hE8 hm9) fun i hi e => by omega)) (by omega)⟩
  have hAll : Mod (fun i => i < w5.heap.size) w9 W := (((hm15.weak (B := fun i => i = bE ∨ i = b6) fun i e => .inl e).trans (hw16.mod (.inr rfl))).weak fun i e => by omega).trans (hW.weak fun i e => by omega)
  rw [hn]
  refine ⟨_, _, _, _, by rw [e1]; rfl, hV9 _ hAll, hN9 _ (hAll.weak fun i e => by omega), ?_, hA (hAll.weak fun i e => by omega)⟩
  rw [e0]
  exact ((hn14.wr hw15 (by omega)).wr hw16 (by omega)) _ (hW.weak fun i e => by omega)
end Go.Proofs.YtglnobabdcoknaaGreatDoor
end
section
namespace Abs
open Go
theorem laidFrom_mem {s w : Int} : ∀ {l : List Bd} {k : Nat} {x : Cell}, x ∈ laidFrom s w l k → ∃ b ∈ l, x.lo = b.lo ∧ x.hi = b.hi
 | [], _, _, h => by cases h
 | b :: l, k, x, h => by
  rcases List.mem_cons.1 h with rfl | h
  ·exact ⟨b, by simp, rfl, rfl⟩
  ·obtain ⟨b', h1, h2⟩ := laidFrom_mem h
   exact ⟨b', by simp [h1], h2⟩
theorem cellsOf_mem {s : Int} : ∀ {ls : List (List Bd)} {i : Nat} {x : Cell}, x ∈ cellsOf s ls i → ∃ l ∈ ls, ∃ b ∈ l, x.lo = b.lo ∧ x.hi = b.hi
 | [], _, _, h => by cases h
 | l :: r, i, x, h => by
  rcases List.mem_append.1 h with h | h
  ·obtain ⟨b, h1, h2⟩ := laidFrom_mem h
   exact ⟨l, by simp, b, h1, h2⟩
  ·obtain ⟨l', h1, h2⟩ := cellsOf_mem h
   exact ⟨l', by simp [h1], h2⟩
def BdOk (lo hi : Int) : Prop := -1048576 ≤ lo ∧ lo ≤ hi ∧ hi ≤ 1048576
theorem bdOf_ok {sc lo hi : Int} {s : List Scalar} (h : sc = 0 → BdOk lo hi) : BdOk (bdOf sc lo hi s).lo (bdOf sc lo hi s).hi := by
 unfold bdOf
 by_cases h0 : sc = 0
 ·rw [if_pos h0]; exact h h0
 ·rw [if_neg h0]
  have := size_le sc s
  unfold BdOk
  simp only
  omega
theorem narrow_ok {lo hi : Int} (h : narrow lo hi = true) : BdOk lo hi := by have := narrow_le h; unfold BdOk; omega
theorem cell_bd {m : Model} (h : MayBe m) : ∀ x ∈ lC m, BdOk x.lo x.hi := fun x hx => by
 unfold lC at hx
 rcases List.mem_append.1 hx with hx | hx
 ·rcases List.mem_append.1 hx with hx | hx
  ·obtain ⟨l, hl, b, hb, e1, e2⟩ := cellsOf_mem hx
   obtain ⟨v, hv, rfl⟩ := List.mem_map.1 hl
   rw [(List.mem_replicate.1 hb).2] at e1 e2
   rw [e1, e2]
   exact bdOf_ok fun h0 => narrow_ok ((h.var v hv).nar h0)
  ·obtain ⟨l, hl, b, hb, e1, e2⟩ := cellsOf_mem hx
   obtain ⟨c, hc, rfl⟩ := List.mem_map.1 hl
   rw [e1, e2]
   have hok := h.chan c hc
   have hcap := hok.cap
   rcases List.mem_cons.1 hb with rfl | hb
   ·unfold BdOk; simp only; omega
   ·rw [(List.mem_replicate.1 hb).2]
    exact bdOf_ok fun h0 => by
     have := narrow_le (hok.nar h0)
     unfold BdOk
     omega
 ·obtain ⟨l, hl, b, hb, e1, e2⟩ := cellsOf_mem hx
  obtain ⟨x', hx', rfl⟩ := List.mem_map.1 hl
  rw [e1, e2]
  unfold instBds at hb
  split at hb
  ·rename_i p hp
   have hm : p ∈ m.procs := by
    unfold nth at hp
    split at hp
    ·exact List.mem_of_getElem? hp
    ·cases hp
   have hok := h.proc p hm
   rcases List.mem_cons.1 hb with rfl | hb
   ·have := hok.locs; unfold BdOk; simp only; omega
   ·obtain ⟨v, hv, rfl⟩ := List.mem_map.1 hb
    exact bdOf_ok fun h0 => narrow_ok ((hok.var v hv).nar h0)
  ·cases hb
def Cell.base (x : Cell) : Nat := (x.hi - x.lo + 1).toNat
theorem base_le {m : Model} (h : MayBe m) : ∀ x ∈ lC m, 1 ≤ x.base ∧ x.base ≤ 2097153 := fun x hx => by
 have := cell_bd h x hx
 unfold BdOk at this
 unfold Cell.base
 omega
def mulAdd : List Nat → Nat → Nat → List Nat
 | [], _, c => dig c
 | d :: r, b, c => (c + d * b) % 256 :: mulAdd r b ((c + d * b) / 256)
theorem mulAdd_dig {b : Nat} (hb : 1 ≤ b) (n : Nat) : ∀ c, mulAdd (dig n) b c = dig (n * b + c) := by
 induction n using Nat.strongRecOn with
 | _ n ih =>
  intro c
  by_cases h : n = 0
  ·subst h; rw [dig_zero, mulAdd]; simp
  ·have hpos : n * b + c ≠ 0 := by have := Nat.mul_pos (Nat.pos_of_ne_zero h) hb; omega
   rw [dig_pos h, mulAdd, ih (n / 256) (by omega), dig_pos hpos]
   have e : n * b = 256 * (n / 256 * b) + n % 256 * b := by
    have h1 : n = 256 * (n / 256) + n % 256 := by omega
    calc n * b = (256 * (n / 256) + n % 256) * b := by rw [← h1]
     _ = _ := by rw [Nat.add_mul, Nat.mul_assoc]
   congr 1
   ·rw [e]; omega
   ·congr 1; rw [e]; omega
def carryAt : List Nat → Nat → Nat → Nat → Nat
 | _, _, c, 0 => c
 | [], _, c, _ => c
 | d :: r, b, c, k + 1 => carryAt r b ((c + d * b) / 256) k
def doneAt : List Nat → Nat → Nat → Nat → List Nat
 | l, _, _, 0 => l
 | [], _, _, _ => []
 | d :: r, b, c, k + 1 => (c + d * b) % 256 :: doneAt r b ((c + d * b) / 256) k
theorem doneAt_zero (l : List Nat) (b c : Nat) : doneAt l b c 0 = l := by cases l <;> rfl
theorem carryAt_zero (l : List Nat) (b c : Nat) : carryAt l b c 0 = c := by cases l <;> rfl
theorem doneAt_len : ∀ (l : List Nat) (b c k : Nat), (doneAt l b c k).length = l.length
 | [], _, _, 0 => rfl
 | [], _, _, _ + 1 => rfl
 | _ :: _, _, _, 0 => rfl
 | d :: r, b, c, k + 1 => by simp [doneAt, doneAt_len r]
theorem carryAt_succ : ∀ (l : List Nat) (b c k : Nat) (h : k < l.length), carryAt l b c (k + 1) = (carryAt l b c k + l[k] * b) / 256
 | [], _, _, _, h => by simp at h
 | d :: r, b, c, 0, _ => by simp [carryAt, carryAt_zero]
 | d :: r, b, c, k + 1, h => by
  simp only [carryAt, List.getElem_cons_succ]
  rw [← carryAt_succ r b _ k (by simpa using h)]
theorem doneAt_succ : ∀ (l : List Nat) (b c k : Nat) (h : k < l.length), doneAt l b c (k + 1) = (doneAt l b c k).set k ((carryAt l b c k + l[k] * b) % 256)
 | [], _, _, _, h => by simp at h
 | d :: r, b, c, 0, _ => by simp [doneAt, doneAt_zero, carryAt]
 | d :: r, b, c, k + 1, h => by
  simp only [doneAt, carryAt, List.getElem_cons_succ, List.set_cons_succ]
  rw [doneAt_succ r b _ k (by simpa using h)]
theorem doneAt_get : ∀ (l : List Nat) (b c k j : Nat), k ≤ j → (doneAt l b c k)[j]? = l[j]?
 | [], _, _, 0, _, _ => rfl
 | [], _, _, _ + 1, _, _ => rfl
 | _ :: _, _, _, 0, _, _ => rfl
 | d :: r, b, c, k + 1, 0, h => by omega
 | d :: r, b, c, k + 1, j + 1, h => by
  simp only [doneAt, List.getElem?_cons_succ]
  exact doneAt_get r b _ k j (by omega)
theorem mulAdd_done : ∀ (l : List Nat) (b c : Nat), doneAt l b c l.length ++ dig (carryAt l b c l.length) = mulAdd l b c
 | [], b, c => by simp [doneAt, carryAt, mulAdd]
 | d :: r, b, c => by
  simp only [List.length_cons, doneAt, carryAt, mulAdd, List.cons_append]
  rw [mulAdd_done r]
theorem carryAt_le {B : Nat} (hB : 1 ≤ B) : ∀ (l : List Nat) (b c k : Nat), (∀ d ∈ l, d < 256) → b ≤ B → c < B → carryAt l b c k < B
 | _, _, _, 0, _, _, h => by rw [carryAt_zero]; exact h
 | [], _, _, _ + 1, _, _, h => h
 | d :: r, b, c, k + 1, hd, hb, h => by
  rw [carryAt]
  refine carryAt_le hB r b _ k (fun x hx => hd x (by simp [hx])) hb ?_
  have h1 := hd d (by simp)
  have h2 : d * b ≤ 255 * B := Nat.mul_le_mul (by omega) hb
  omega
def share : List Nat → Nat → Nat → List Nat × Nat
 | [], _, q => ([], q)
 | d :: r, b, q => ((q * 256 + d) / b :: (share r b ((q * 256 + d) % b)).1, (share r b ((q * 256 + d) % b)).2)
def valB (l : List Nat) : Nat := val l.reverse
theorem valB_cons (d : Nat) (r : List Nat) : valB (d :: r) = d * 256 ^ r.length + valB r := by
 unfold valB
 rw [List.reverse_cons, val_app, List.length_reverse]
 simp [val, Nat.mul_comm, Nat.add_comm]
theorem share_len : ∀ (l : List Nat) (b q : Nat), (share l b q).1.length = l.length
 | [], _, _ => rfl
 | d :: r, b, q => by simp [share, share_len r]
theorem share_ok {b : Nat} (hb : 1 ≤ b) : ∀ (l : List Nat) (q : Nat), (∀ d ∈ l, d < 256) → q < b → (share l b q).2 < b ∧ (∀ d ∈ (share l b q).1, d < 256) ∧ valB (share l b q).1 * b + (share l b q).2 = q * 256 ^ l.length + valB l
 | [], q, _, h => ⟨h, (fun _ h => nomatch h), by simp [share, valB, val]⟩
 | d :: r, q, hd, h => by
  have h1 := hd d (by simp)
  obtain ⟨i1, i2, i3⟩ := share_ok hb r ((q * 256 + d) % b) (fun x hx => hd x (by simp [hx])) (Nat.mod_lt _ hb)
  refine ⟨i1, fun x hx => ?_, ?_⟩
  ·rcases List.mem_cons.1 hx with rfl | hx
   ·exact (Nat.div_lt_iff_lt_mul hb).2 (by have : (q + 1) * 256 ≤ b * 256 := Nat.mul_le_mul_right _ h; rw [Nat.mul_comm 256 b]; omega)
   ·exact i2 x hx
  ·simp only [share]
   rw [valB_cons, share_len, valB_cons, Nat.add_mul, Nat.add_assoc, i3, List.length_cons]
   have e := Nat.div_add_mod (q * 256 + d) b
   have : (q * 256 + d) / b * 256 ^ r.length * b + (q * 256 + d) % b * 256 ^ r.length = (q * 256 + d) * 256 ^ r.length := by
    rw [Nat.mul_right_comm, ← Nat.add_mul, Nat.mul_comm ((q * 256 + d) / b) b, e]
   rw [Nat.pow_succ, show q * (256 ^ r.length * 256) = q * 256 * 256 ^ r.length from by rw [Nat.mul_comm (256 ^ r.length), Nat.mul_assoc]]
   rw [← Nat.add_assoc, ← Nat.add_assoc, this, Nat.add_mul]
theorem share_div {b : Nat} (hb : 1 ≤ b) {l : List Nat} (hd : ∀ d ∈ l, d < 256) : valB (share l b 0).1 = valB l / b ∧ (share l b 0).2 = valB l % b := by
 obtain ⟨h1, _, h3⟩ := share_ok hb l 0 hd hb
 rw [Nat.zero_mul, Nat.zero_add] at h3
 rw [← h3, Nat.mul_comm, Nat.mul_add_div hb, Nat.mul_add_mod, Nat.div_eq_of_lt h1, Nat.mod_eq_of_lt h1]
 simp
theorem valB_zero : ∀ {l : List Nat}, valB l = 0 ↔ ∀ d ∈ l, d = 0
 | [] => by simp [valB, val]
 | d :: r => by
  rw [valB_cons]
  have hp : 0 < 256 ^ r.length := Nat.pow_pos (by omega)
  simp only [Nat.add_eq_zero_iff, Nat.mul_eq_zero, List.mem_cons, forall_eq_or_imp, valB_zero (l := r)]
  constructor
  ·rintro ⟨h1 | h1, h2⟩
   ·exact ⟨h1, h2⟩
   ·omega
  ·rintro ⟨h1, h2⟩
   exact ⟨.inl h1, h2⟩
def restAt : List Nat → Nat → Nat → Nat → Nat
 | _, _, q, 0 => q
 | [], _, q, _ => q
 | d :: r, b, q, k + 1 => restAt r b ((q * 256 + d) % b) k
def shareAt : List Nat → Nat → Nat → Nat → List Nat
 | l, _, _, 0 => l
 | [], _, _, _ => []
 | d :: r, b, q, k + 1 => (q * 256 + d) / b :: shareAt r b ((q * 256 + d) % b) k
theorem shareAt_zero (l : List Nat) (b q : Nat) : shareAt l b q 0 = l := by cases l <;> rfl
theorem restAt_zero (l : List Nat) (b q : Nat) : restAt l b q 0 = q := by cases l <;> rfl
theorem shareAt_len : ∀ (l : List Nat) (b c k : Nat), (shareAt l b c k).length = l.length
 | [], _, _, 0 => rfl
 | [], _, _, _ + 1 => rfl
 | _ :: _, _, _, 0 => rfl
 | d :: r, b, c, k + 1 => by simp [shareAt, shareAt_len r]
theorem restAt_succ : ∀ (l : List Nat) (b q k : Nat) (h : k < l.length), restAt l b q (k + 1) = (restAt l b q k * 256 + l[k]) % b
 | [], _, _, _, h => by simp at h
 | d :: r, b, q, 0, _ => by simp [restAt, restAt_zero]
 | d :: r, b, q, k + 1, h => by
  simp only [restAt, List.getElem_cons_succ]
  rw [← restAt_succ r b _ k (by simpa using h)]
theorem shareAt_succ : ∀ (l : List Nat) (b q k : Nat) (h : k < l.length), shareAt l b q (k + 1) = (shareAt l b q k).set k ((restAt l b q k * 256 + l[k]) / b)
 | [], _, _, _, h => by simp at h
 | d :: r, b, q, 0, _ => by simp [shareAt, shareAt_zero, restAt]
 | d :: r, b, q, k + 1, h => by
  simp only [shareAt, restAt, List.getElem_cons_succ, List.set_cons_succ]
  rw [shareAt_succ r b _ k (by simpa using h)]
theorem shareAt_get : ∀ (l : List Nat) (b c k j : Nat), k ≤ j → (shareAt l b c k)[j]? = l[j]?
 | [], _, _, 0, _, _ => rfl
 | [], _, _, _ + 1, _, _ => rfl
 | _ :: _, _, _, 0, _, _ => rfl
 | d :: r, b, c, k + 1, 0, h => by omega
 | d :: r, b, c, k + 1, j + 1, h => by
  simp only [shareAt, List.getElem?_cons_succ]
  exact shareAt_get r b _ k j (by omega)
theorem share_all : ∀ (l : List Nat) (b q : Nat), share l b q = (shareAt l b q l.length, restAt l b q l.length)
 | [], b, q => rfl
 | d :: r, b, q => by
  simp only [List.length_cons, shareAt, restAt, share]
  rw [share_all r]
theorem restAt_lt {b : Nat} (hb : 1 ≤ b) : ∀ (l : List Nat) (q k : Nat), q < b → restAt l b q k < b
 | _, _, 0, h => by rw [restAt_zero]; exact h
 | [], _, _ + 1, h => h
 | d :: r, q, k + 1, _ => by rw [restAt]; exact restAt_lt hb r _ k (Nat.mod_lt _ hb)
def sharesAt : List Cell → List Nat → List Nat
 | [], l => l
 | x :: r, l => (share (sharesAt r l) x.base 0).1
theorem sharesAt_ok {l : List Nat} (hd : ∀ d ∈ l, d < 256) : ∀ {cs : List Cell}, (∀ x ∈ cs, 1 ≤ x.base) → (sharesAt cs l).length = l.length ∧ (∀ d ∈ sharesAt cs l, d < 256) ∧ valB (sharesAt cs l) = (backs cs (valB l)).2
 | [], _ => ⟨rfl, hd, rfl⟩
 | x :: r, h => by
  obtain ⟨h1, h2, h3⟩ := sharesAt_ok hd (cs := r) fun y hy => h y (by simp [hy])
  have hb := h x (by simp)
  refine ⟨by rw [sharesAt, share_len, h1], (share_ok hb _ 0 h2 hb).2.1, ?_⟩
  rw [sharesAt, (share_div hb h2).1, h3]
  rfl
theorem backs_cons {l : List Nat} (hd : ∀ d ∈ l, d < 256) {x : Cell} {r : List Cell} (h : ∀ y ∈ x :: r, 1 ≤ y.base) : (backs (x :: r) (valB l)).1 = (x.lo + ((share (sharesAt r l) x.base 0).2 : Nat)) :: (backs r (valB l)).1 := by
 obtain ⟨_, h2, h3⟩ := sharesAt_ok hd (cs := r) fun y hy => h y (by simp [hy])
 rw [(share_div (h x (by simp)) h2).2, h3]
 rfl
noncomputable def bytesRes (m : Model) (s : List Int) : List Nat × Int := open Classical in if (check m).why ≠ 0 then ([], 2) else if Fits m s then (bytes m s, 0) else ([], 3)
noncomputable def backRes (m : Model) (b : List Nat) : List Int × Int := open Classical in
 if (check m).why ≠ 0 then ([], 2) else if b.length < byteN m then ([], 4) else if byteN m < b.length then ([], 5)
 else if (backs (lC m) (valB b)).2 ≠ 0 then ([], 10) else if Fits m (backs (lC m) (valB b)).1 then ((backs (lC m) (valB b)).1, 0) else ([], 3)
theorem bytesRes_of {m : Model} {s : List Int} (h0 : (check m).why = 0) (h1 : Fits m s) : bytesRes m s = (bytes m s, 0) := by
 unfold bytesRes
 rw [if_neg (not_not_intro h0), if_pos h1]
end Abs
end
section
namespace Lite
open Go Go.RowKit
def encB (d : Nat) : List Value := [.int .u8 d]
theorem encB_one (d : Nat) : ∀ u ∈ encB d, u.oneCell' = true := by simp [encB, Value.oneCell']
def bytC (l : List Nat) : List Value := l.map fun (d : Nat) => Value.int .u8 (d : Int)
theorem bytC_len (l : List Nat) : (bytC l).length = l.length := by simp [bytC]
theorem bytC_flat : ∀ l : List Nat, bytC l = l.flatMap encB
 | [] => rfl
 | x :: r => by
  have := bytC_flat r
  simp only [bytC, List.map_cons, List.flatMap_cons] at this ⊢
  rw [this]; rfl
abbrev Byts (w : World) (v : Value) (l : List Nat) : Prop := SlR 1 (Flat encB) w v l
theorem byts_blk {w : World} {b n : Nat} {e : TypeId} {l : List Nat} (h : w.heap[b]? = some (.cells (bytC l).toArray e)) (hn : n = l.length) (hm : l.length ≤ maxLen) : Byts w (.slice (some ⟨b, 0, none⟩) n n) l :=
 SlR.blk (enc := encB) (fun _ => rfl) (by rw [h, bytC_flat]) hn hm fun _ _ _ h => h
section
variable {P : Program} {K3 : Value → Prop} {ty : TypeId} {cx cy : Operand}
theorem K.wu8 {n : Int} {t} (x : Nat) (hn : n = x) (hk : K3 (.int .u8 ((x % 256 : Nat) : Int))) : WrapVCh .u8 n K3 t := by
 subst hn
 refine K.wrapr ?_
 rw [show IntKind.u8.wrap (x : Int) = ((x % 256 : Nat) : Int) from by rw [IntKind.wrap_u8]; omega]
 exact hk
theorem K.wu64 {n : Int} {t} (x : Nat) (hn : n = x) (hx : x < 18446744073709551616) (hk : K3 (.int .u64 (x : Int))) : WrapVCh .u64 n K3 t := by
 subst hn
 exact K.wrapk (IntWalk.u64_in _ (by omega)) hk
theorem K.shr8 {x : Nat} {k : IntKind} {t} (hk : K3 (.int .u64 ((x / 256 : Nat) : Int))) : BinVCh P .shr ty cx cy (.int .u64 x) (.int k 8) K3 t := by
 refine K.bin (v := .int .u64 ((x / 256 : Nat) : Int)) (fun w => ?_) hk
 have : Int.fdiv (x : Int) (2 ^ 8) = ((x / 256 : Nat) : Int) := by rw [Int.fdiv_eq_ediv_of_nonneg _ (by decide)]; omega
 simp [eqGuard, binOp, Op.shift, IntKind.bits]
 exact this
theorem K.shl8 {x : Nat} {k : IntKind} {t} (hx : x < 72057594037927936) (hk : K3 (.int .u64 ((x * 256 : Nat) : Int))) : BinVCh P .shl ty cx cy (.int .u64 x) (.int k 8) K3 t := by
 refine K.bin (v := .int .u64 ((x * 256 : Nat) : Int)) (fun w => ?_) hk
 have : IntKind.u64.wrap ((x : Int) * 2 ^ 8) = ((x * 256 : Nat) : Int) := by
  rw [show (x : Int) * 2 ^ 8 = ((x * 256 : Nat) : Int) from by omega]
  exact IntWalk.u64_in _ (by omega)
 simp [eqGuard, binOp, Op.shift, IntKind.bits]
 exact this
theorem or_byte {x d : Nat} (hd : d < 256) : (x * 256) ||| d = x * 256 + d := by
 have := Nat.shiftLeft_add_eq_or_of_lt (i := 8) (b := d) (by omega) x
 rw [Nat.shiftLeft_eq] at this
 exact this.symm
theorem K.orB {x d : Nat} {t} (hx : x < 72057594037927936) (hd : d < 256) (hk : K3 (.int .u64 ((x * 256 + d : Nat) : Int))) : BinVCh P .or ty cx cy (.int .u64 ((x * 256 : Nat) : Int)) (.int .u64 (d : Int)) K3 t := by
 refine K.bin (v := .int .u64 ((x * 256 + d : Nat) : Int)) (fun w => ?_) hk
 have h := bits_or_u64_nat (x * 256) d (by omega) (by omega)
 rw [or_byte hd] at h
 rw [← h]
 simp [eqGuard, binOp, Op.intBits, bits]
theorem K.quoU {x b : Nat} {k : IntKind} {t} (hb : 1 ≤ b) (hx : k.wrap ((x / b : Nat) : Int) = ((x / b : Nat) : Int)) (hk : K3 (.int k ((x / b : Nat) : Int))) : BinVCh P .quo ty cx cy (.int k x) (.int k b) K3 t := by
 refine K.quo (by omega) (K.wrapr ?_)
 rw [Int.tdiv_eq_ediv_of_nonneg (by omega), ← Int.natCast_ediv, hx]
 exact hk
theorem K.remU {x b : Nat} {k : IntKind} {t} (hb : 1 ≤ b) (hk : K3 (.int k ((x % b : Nat) : Int))) : BinVCh P .rem ty cx cy (.int k x) (.int k b) K3 t := by
 refine K.rem (by omega) ?_
 rw [Int.tmod_eq_emod_of_nonneg (by omega), ← Int.natCast_emod]
 exact hk
end
def strOf (l : List Nat) : ByteArray := ⟨(l.map UInt8.ofNat).toArray⟩
theorem forIn_bytes {P : Program} {w : World} {g : Value → ByteArray → Sem (ForInStep ByteArray)} (hg : ∀ (x : Nat) s, g (.int .u8 (x : Int)) s = pure (.yield (s.push (UInt8.ofNat x)))) : ∀ (l : List Nat) (s : ByteArray), (forIn (bytC l) s g).run P w = .ok ⟨s.data ++ (l.map UInt8.ofNat).toArray⟩ w
 | [], s => by simp [bytC]
 | x :: r, s => by
  have ih := forIn_bytes (P := P) (w := w) hg r (s.push (UInt8.ofNat x))
  rw [show bytC (x :: r) = .int .u8 (x : Int) :: bytC r from rfl, List.forIn_cons, hg]
  simp only [pure_bind]
  rw [ih]
  simp [ByteArray.push]
theorem run_b2s {P : Program} {w : World} {v : Value} {l : List Nat} (h : Byts w v l) : (Conv.bytesToString v).run P w = .ok (.string (strOf l)) w := by
 obtain ⟨oa, cap, rfl, h1, h2, h3, h4⟩ := h.ex
 cases oa with
 | none =>
  have : l = [] := Classical.byContradiction fun hn => by have := h3 hn; cases this
  subst this
  rfl
 | some a =>
  have hc : CellsAt w a (l.flatMap encB) := SlR.flat (enc := encB) (sz := 1) (fun _ => rfl) (fun _ _ h => h) ⟨some a, cap, rfl, h1, h2, h3, h4⟩
  have hl := flat_len (enc := encB) (sz := 1) (fun _ => rfl) l
  have hrun : (loadCells a l.length).run P w = .ok (l.flatMap encB).toArray w := by
   have := run_loadCells_list (P := P) w a (l.flatMap encB) hc
   rwa [hl, Nat.mul_one] at this
  simp only [Conv.bytesToString, Sem.run_bind, hrun, Result.andThen]
  rw [← bytC_flat]
  simp only [List.forIn_toArray]
  rw [forIn_bytes]
  ·simp [strOf, ByteArray.empty, ByteArray.emptyWithCapacity]; try rfl
  ·intro x s; simp
theorem K.b2s {P : Program} {S : Fr} {w : World} {KK : Value → World → Prop} {s d ty e : TypeId} {x : Operand} {v : Value} {l : List Nat} {t} (h1 : P.underlying s = some (.slice e)) (h2 : P.underlying d = some .string) (h3 : P.underlying e = some (.int .u8)) (hx : ev S x = v) (h : Byts w v l)
  (hk : KK (.string (strOf l)) w) : RawVCh P (.convert s d x) ty S w KK t := by
 refine K.raw (v := .string (strOf l)) (w' := w) ?_ hk
 have hr := run_b2s (P := P) h
 obtain ⟨oa, cap, rfl, _⟩ := h.form
 simp [execOp, hx, convert, run_underlying h1, run_underlying h2, run_underlying h3, hr]
end Lite
end
section
namespace Lite
open Go Go.RowKit
theorem zc_byte (n : Nat) : Builtin.zeroCells (Value.int .u8 0).cells n = ((List.replicate n 0).flatMap encB).toArray := by
 rw [← bytC_flat]
 apply Array.ext_getElem?
 intro i
 by_cases h : i < n
 ·simp [Builtin.zeroCells, bytC, Value.cells, h, Nat.mod_one]
 ·simp [Builtin.zeroCells, bytC, Value.cells, h]
theorem flatB_len (l : List Nat) : (l.flatMap encB).length = l.length := by rw [← bytC_flat, bytC_len]
theorem flatB_one (l : List Nat) : ∀ u ∈ l.flatMap encB, u.oneCell' = true := fun u hu => by
 obtain ⟨y, _, hy⟩ := List.mem_flatMap.1 hu
 exact encB_one y u hy
section
variable {P : Program} {w : World} {t tn ty e : TypeId} {i : TypeInfo} {kq kn : IntKind}
theorem run_app_z (ht : P.underlying t = some (.slice e)) (htn : P.underlying tn = some (.int kn)) (hi : P.info? e = some i) (hz : i.zero = some (.int .u8 0)) (hs : i.size = 1) (hb : i.bytes = 1) (v : Value) (xs : List Nat) (base : Nat)
  (ho : OwR encB e 1 base w v xs) (m : Nat) (hm : xs.length + m ≤ 1000000) (hbase : base ≤ w.heap.size) :
  ∃ v' w', (Builtin.append_ #[t, tn] ty #[v, .int kq m]).run P w = .ok v' w' ∧ OwR encB e 1 base w' v' (xs ++ List.replicate m 0) ∧ w.grownBy w' v.ownBlock := by
 have hw : IntKind.i64.wrap (m : Int) = m := IntWalk.i64_in _ (by omega)
 have hneg : ¬ ((m : Int) < 0) := by omega
 have h48i : ¬ (281474976710656 < (m : Int) * (i.bytes : Int)) := by rw [hb]; omega
 by_cases h0 : m = 0
 ·subst h0
  rw [List.replicate_zero, List.append_nil]
  refine ⟨v, w, ?_, ho, ⟨rfl, rfl, rfl, Nat.le_refl _, fun _ _ _ => rfl⟩⟩
  rcases ho.2 with ⟨rfl, _⟩ | ⟨g, cap, cur, rfl, _, hg, hnc, _⟩
  ·simp [Builtin.append_, run_underlying ht, run_underlying htn, Go.sizeOf, typeInfo, hi, asInt, asIntOf, IntWalk.i64_in]
  ·simp [Builtin.append_, run_underlying ht, run_underlying htn, Go.sizeOf, typeInfo, hi, asInt, asIntOf, hnc, storeCells, IntWalk.i64_in]
 have grown : ∀ (old : Nat) (row : Option Nat),
   OwR encB e 1 base (w.drew.alloc (.cells ((xs.flatMap encB).toArray ++ Builtin.zeroCells (Value.int .u8 0).cells m ++ Builtin.zeroCells (Value.int .u8 0).cells (grownCap w (xs.length + m) old e - (xs.length + m))) e))
    (.slice (some ⟨w.heap.size, 0, none⟩) (xs.length + m) (grownCap w (xs.length + m) old e)) (xs ++ List.replicate m 0) ∧
   w.grownBy (w.drew.alloc (.cells ((xs.flatMap encB).toArray ++ Builtin.zeroCells (Value.int .u8 0).cells m ++ Builtin.zeroCells (Value.int .u8 0).cells (grownCap w (xs.length + m) old e - (xs.length + m))) e)) row := by
  intro old row
  have hge := grownCap_ge w (xs.length + m) old e
  have hcm : grownCap w (xs.length + m) old e ≤ maxLen := grownCap_le_maxLen w (xs.length + m) old e (by unfold maxLen; omega)
  have hl : (xs ++ List.replicate m 0).length = xs.length + m := by simp
  refine ⟨⟨by rw [flatB_len, Nat.mul_one], .inr ⟨w.heap.size, _, _, by rw [hl], hbase, Go.heap_alloc_new w.drew _, by rw [hl]; exact hge, hcm, ?_, ?_⟩⟩, ⟨rfl, rfl, rfl, by simp, fun k hk _ => Go.heap_alloc_old w.drew _ hk⟩⟩
  ·rw [zc_byte, zc_byte]
   simp only [Array.size_append, List.size_toArray, flatB_len, List.length_replicate]
   omega
  ·rw [zc_byte, zc_byte, hl, Nat.mul_one, List.flatMap_append]
   simp only [Array.toList_append]
   exact List.take_left' (by rw [List.length_append, flatB_len, flatB_len, List.length_replicate])
 rcases ho.2 with ⟨rfl, hx⟩ | ⟨g, cap, cur, rfl, hbg, hg, hnc, hcm, hcs, htake⟩
 ·have hx : xs = [] := List.eq_nil_of_length_eq_zero hx
  subst hx
  have hr := Lib.run_append_grow_zeros (P := P) w t tn ty e i (.int .u8 0) kq kn ht htn hi hz none 0 0 [] (by simp [Builtin.firstCells]) m (by omega) (by omega) (by omega) (by omega) (by rw [hb]; omega) (by rw [hb, Nat.zero_add]; exact growslice_fits (by omega) (by omega))
  have hgr := grown 0 (Value.ownBlock (.slice none 0 0))
  simp only [List.length_nil, Nat.zero_add, List.flatMap_nil] at hgr hr
  exact ⟨_, _, hr, by simpa using hgr.1, hgr.2⟩
 ·by_cases hroom : xs.length + m ≤ cap
  ·have hst := run_storeCells_at P g (xs.length * 1) e ((List.replicate m 0).flatMap encB) 0 cur w hg (by rw [flatB_len, List.length_replicate, hcs]; omega) (flatB_one _)
   have hns : ¬ (m * i.size = 0) := by rw [hs]; omega
   refine ⟨.slice (some ⟨g, 0, none⟩) (xs.length + m) cap, w.setRow g ((cur.toList.take (xs.length * 1) ++ (List.replicate m 0).flatMap encB ++ cur.toList.drop (xs.length * 1 + ((List.replicate m 0).flatMap encB).length)).toArray), ?_, ⟨by rw [flatB_len]; simp, .inr ⟨g, cap, _, by simp, hbg, setRow_heap w g cur _ e _ hg, by simpa using hroom, hcm, ?_, ?_⟩⟩, ⟨rfl, rfl, rfl, by simp, fun k _ hk => setRow_other w g k _ (fun e => hk (by simp [Value.ownBlock, e]))⟩⟩
   ·simp only [Nat.add_zero, Nat.mul_one] at hst
    simp [Builtin.append_, run_underlying ht, run_underlying htn, Go.sizeOf, typeInfo, zeroValue, hi, hz, asInt, asIntOf, hw, hneg, h48i, hns, h0, hroom, zc_byte, Addr.add_lit, hs, hst]
   ·simp only [List.size_toArray, List.length_append, List.length_take, List.length_drop, Array.length_toList, flatB_len, List.length_replicate]
    omega
   ·rw [htake, List.flatMap_append, List.length_append, List.length_replicate]
    exact List.take_left' (by rw [List.length_append, flatB_len, flatB_len, List.length_replicate]; omega)
  ·have hold : (Builtin.firstCells i.size xs.length (.slice (some ⟨g, 0, none⟩) xs.length cap)).run P w.drew = .ok (xs.flatMap encB).toArray w.drew :=
    run_firstCells_some (P := P) w.drew i.size xs.length ⟨g, 0, none⟩ xs.length cap _ (by rw [flatB_len, hs, Nat.mul_one]) (by simpa using World.ownsRow.cells ho (g := g) rfl)
   have hr := Lib.run_append_grow_zeros (P := P) w t tn ty e i (.int .u8 0) kq kn ht htn hi hz (some ⟨g, 0, none⟩) xs.length cap (xs.flatMap encB) hold m (by omega) (by omega) (by omega) (by omega) (by rw [hb]; omega) (by rw [hb]; exact growslice_fits (by omega) (by omega))
   have hgr := grown cap (Value.ownBlock (.slice (some ⟨g, 0, none⟩) xs.length cap))
   exact ⟨_, _, hr, hgr.1, hgr.2⟩
theorem K.appZ {S : Fr} {KK : Value → World → Prop} {x y : Operand} {s : Value} {xs : List Nat} {base : Nat} {tk} (m : Nat) (ht : P.underlying t = some (.slice e)) (htn : P.underlying tn = some (.int kn)) (hi : (P.info? e).map (fun i => (i.zero, i.size, i.bytes)) = some (some (.int .u8 0), 1, 1))
  (hx : ev S x = s) (hy : ev S y = .int kq (m : Int)) (ho : OwR encB e 1 base w s xs) (hm : xs.length + m ≤ 1000000) (hbase : base ≤ w.heap.size)
  (hk : ∀ v' w', OwR encB e 1 base w' v' (xs ++ List.replicate m 0) → w.grownBy w' s.ownBlock → KK v' w') : RawVCh P (.call ⟨.builtin .append, #[x, y], #[t, tn]⟩) ty S w KK tk := by
 obtain ⟨i, hi, h2⟩ := Option.map_eq_some_iff.1 hi
 simp only [Prod.mk.injEq] at h2
 obtain ⟨v', w', hr, h3, h4⟩ := run_app_z (P := P) (ty := ty) (kq := kq) ht htn hi h2.1 h2.2.1 h2.2.2 s xs base ho m hm hbase
 refine K.raw (v := v') (w' := w') ?_ (hk v' w' h3 h4)
 simp [execOp, resolve, invoke, builtin, hx, hy, hr]
end
end Lite
end
section
namespace Lite
open Go Go.RowKit
theorem flatB_set (l : List Nat) (k x : Nat) : (l.flatMap encB).set k (.int .u8 x) = (l.set k x).flatMap encB := by
 rw [← bytC_flat, ← bytC_flat]
 simp [bytC, List.map_set]
theorem K.stB {e : TypeId} {base : Nat} {w : World} {l : List Nat} {a : Addr} {n c k x : Nat} {KW : World → Prop} {t} (h : OwR encB e 1 base w (.slice (some a) n c) l) (hk : k < l.length)
  (hh : ∀ w1, Wr a.block w w1 → OwR encB e 1 base w1 (.slice (some a) n c) (l.set k x) → KW w1) : StVCh (.pointer (some (a.add (k * 1)))) (.int .u8 (x : Nat)) w KW t := by
 rcases h.2 with ⟨hn, h0⟩ | ⟨g, cap, cur, h1, h2, h3, h4, h5, h6, h7⟩
 ·cases hn
 ·injection h1 with e1 e2 e3
  injection e1 with e1
  subst e1 e3
  have hlt : k < cur.size := by omega
  have ea : Addr.add ⟨g, 0, none⟩ (k * 1) = ⟨g, k, none⟩ := by rw [add_eq, Nat.mul_one, Nat.zero_add]
  have hc : w.cell? (Addr.add ⟨g, 0, none⟩ (k * 1)) = some cur[k] := kB h3 (by rw [Nat.mul_one]; exact Array.getElem?_eq_getElem hlt)
  rw [ea] at hc ⊢
  have h' : w.ownsRow base e 1 (.slice (some ⟨g, 0, none⟩) l.length c) l.length (l.flatMap encB) := by unfold OwR at h; rw [e2] at h; exact h
  have hs := World.ownsRow.stored h' k (.int .u8 (x : Nat))
  rw [flatB_set] at hs
  refine K.st hc (by simp [World.frozen?, h3]) (by simp [Value.oneCell']) (hh _ (Wr.setCell w ⟨g, k, none⟩ _) ?_)
  unfold OwR
  rw [List.length_set, e2]
  exact hs.1
theorem OwR.dropB {e : TypeId} {base : Nat} {w : World} {l : List Nat} {a : Addr} {n c k : Nat} (h : OwR encB e 1 base w (.slice (some a) n c) l) (hk : k < l.length) : w.cell? (a.add (k * 1)) = some (.int .u8 (l[k] : Nat)) := by
 have := (OwR.slr (enc := encB) (sz := 1) (fun _ => rfl) h).at k hk 0 (.int .u8 (l[k] : Nat)) rfl
 rwa [add_zero] at this
theorem OwR.blkB {e : TypeId} {base : Nat} {w : World} {l : List Nat} {a : Addr} {n c : Nat} (h : OwR encB e 1 base w (.slice (some a) n c) l) : base ≤ a.block ∧ a.block < w.heap.size := OwR.lt h a.block rfl
end Lite
namespace Abs
open Go
theorem numFrom_take {cs : List Cell} {s : List Int} {k : Nat} (h1 : k < cs.length) (h2 : k < s.length) : numFrom (cs.take (k + 1)) (s.take (k + 1)) 0 = numFrom (cs.take k) (s.take k) 0 * cs[k].base + (s[k] - cs[k].lo).toNat := by
 rw [List.take_succ_eq_append_getElem h1, List.take_succ_eq_append_getElem h2, numFrom_app _ _ _ _ _ (by simp; omega)]
 rfl
theorem inR_get : ∀ {cs : List Cell} {s : List Int}, InR cs s → ∀ k (h1 : k < cs.length) (h2 : k < s.length), cs[k].lo ≤ s[k] ∧ s[k] ≤ cs[k].hi
 | _ :: _, _ :: _, h, 0, _, _ => h.1
 | _ :: _, _ :: _, h, k + 1, h1, h2 => inR_get h.2 k (by simpa using h1) (by simpa using h2)
 | [], _, _, k, h1, _ => by simp at h1
 | _ :: _, [], h, _, _, _ => h.elim
theorem mulAdd_at {m : Model} (hM : MayBe m) {s : List Int} {k : Nat} (h1 : k < (lC m).length) (h2 : k < s.length) : mulAdd (dig (numFrom ((lC m).take k) (s.take k) 0)) (lC m)[k].base (s[k] - (lC m)[k].lo).toNat = dig (numFrom ((lC m).take (k + 1)) (s.take (k + 1)) 0) := by
 rw [mulAdd_dig (base_le hM _ (List.getElem_mem h1)).1, ← numFrom_take h1 h2]
theorem numFrom_lt {cs : List Cell} (h : ∀ x ∈ cs, x.base ≤ 2097153) : ∀ {s : List Int} (_ : InR cs s) (n j : Nat), n < 2097153 ^ j → numFrom cs s n < 2097153 ^ (j + cs.length) := by
 induction cs with
 | nil => intro s hs n j hn; cases s with | nil => simpa [numFrom] using hn | cons _ _ => exact hs.elim
 | cons x r ih =>
  intro s hs n j hn
  cases s with
  | nil => exact hs.elim
  | cons v s =>
   have h1 := h x (by simp)
   have := ih (fun y hy => h y (by simp [hy])) hs.2 (n * (x.hi - x.lo + 1).toNat + (v - x.lo).toNat) (j + 1) (by
    have h2 := hs.1
    have h3 : (v - x.lo).toNat < (x.hi - x.lo + 1).toNat := by omega
    unfold Cell.base at h1
    have h4 : n * (x.hi - x.lo + 1).toNat + (v - x.lo).toNat < (n + 1) * (x.hi - x.lo + 1).toNat := by rw [Nat.add_mul]; omega
    have h5 : (n + 1) * (x.hi - x.lo + 1).toNat ≤ 2097153 ^ j * 2097153 := Nat.mul_le_mul hn h1
    rw [Nat.pow_succ]
    omega)
   rw [List.length_cons]
   simp only [numFrom]
   rw [show j + (r.length + 1) = j + 1 + r.length from by omega]
   exact this
theorem dig_few {m : Model} (hM : MayBe m) {s : List Int} (hs : InR (lC m) s) (k : Nat) : (dig (numFrom ((lC m).take k) (s.take k) 0)).length ≤ 192 := by
 have h64 : (lC m).length ≤ 64 := layCells_le64 hM
 have hin : InR ((lC m).take k) (s.take k) := by
  have key : ∀ (cs : List Cell) (s : List Int) (k : Nat), InR cs s → InR (cs.take k) (s.take k) := by
   intro cs
   induction cs with
   | nil => intro s k h; cases s with | nil => simpa using h | cons _ _ => exact h.elim
   | cons x r ih =>
    intro s k h
    cases s with
    | nil => exact h.elim
    | cons v s =>
     cases k with
     | zero => exact trivial
     | succ k => exact ⟨h.1, ih s k h.2⟩
  exact key _ _ _ hs
 have h1 := numFrom_lt (cs := (lC m).take k) (fun x hx => (base_le hM x (List.mem_of_mem_take hx)).2) hin 0 0 (by simp)
 refine dig_len_le (Nat.lt_of_lt_of_le h1 ?_)
 have h2 : 2097153 ^ (0 + ((lC m).take k).length) ≤ (256 ^ 3) ^ (0 + ((lC m).take k).length) := Nat.pow_le_pow_left (by decide) _
 rw [← Nat.pow_mul] at h2
 refine Nat.le_trans h2 (Nat.pow_le_pow_right (by decide) ?_)
 have : ((lC m).take k).length ≤ (lC m).length := by rw [List.length_take]; omega
 omega
theorem mulAdd_len {l : List Nat} {b c : Nat} {pre : List Nat} {d : Nat} (h : pre ++ dig d = mulAdd l b c) : pre.length ≤ (mulAdd l b c).length := by
 rw [← h, List.length_append]; omega
end Abs
namespace Go.Proofs.YtglnobabdcoknaaGreatDoor
open Go Go.RowKit Lite
theorem base_r (b i : Nat) (m : Abs.Model) (w : World) (hr : ReaderAt w b m) (hM : Abs.MayBe m) (hi : i < (Abs.lC m).length) :
  Ret Tryz.prog F.ay #[.pointer (some ⟨b, 0, none⟩), .int .i64 i] w fun u w' => u = .int .i64 ((Abs.lC m)[i].base : Nat) ∧ Ext w w' := by
 obtain ⟨o0, c0, o1, c1, o2, c2, o3, c3, o4, c4, p0, d0, p1, d1, p2, d2, p3, d3, p4, d4, oi, ci, hb, r0, r1, r2, r3, r4, h0, h1, h2, h3, hI⟩ := hr.form
 have f2 := Abs.layout_lo_len m
 have f3 := Abs.layout_hi_len m
 have l3 : (Abs.layout m).lo[i]'(by omega) = (Abs.lC m)[i].lo := Abs.layout_lo_get _ hi
 have l4 : (Abs.layout m).hi[i]'(by omega) = (Abs.lC m)[i].hi := Abs.layout_hi_get _ hi
 have hbd := Abs.cell_bd hM _ (List.getElem_mem hi)
 unfold Abs.BdOk at hbd
 obtain ⟨a3, rfl⟩ := r3.addr (by omega)
 obtain ⟨a4, rfl⟩ := r4.addr (by omega)
 clear h0 h1 h2 h3 hI r0 r1 r2
 refine Ks E.ay ?_; dsimp only [C.ay]; refine Yy ?_
 refine Sr ?_
 intro w1 he1
 refine ⟨?_, he1⟩
 rw [l3, l4]
 unfold Abs.Cell.base
 congr 1
 omega
theorem digits_r (b : Nat) (v : Value) (s : List Int) (m : Abs.Model) (w : World) (hr : ReaderAt w b m) (hM : Abs.MayBe m) (hs : Nums w v s) (hin : Abs.InR (Abs.lC m) s) :
  Ret Tryz.prog F.aw #[.pointer (some ⟨b, 0, none⟩), v] w fun u w' => OwR encB T.l 1 w.heap.size w' u (Abs.dig (Abs.num m s)) ∧ Ext w w' := by
 obtain ⟨o0, c0, o1, c1, o2, c2, o3, c3, o4, c4, p0, d0, p1, d1, p2, d2, p3, d3, p4, d4, oi, ci, hb, r0, r1, r2, r3, r4, h0, h1, h2, h3, hI⟩ := hr.form
 obtain ⟨ov, cv, rfl, lv⟩ := hs.form
 have hlen : (Abs.lC m).length = s.length := Abs.inR_len hin
 have f2 := Abs.layout_lo_len m
 have h64 : (Abs.lC m).length ≤ 64 := Abs.layCells_le64 hM
 clear h0 h1 h2 h3 hI r0 r1 r2 r4
 refine Ks E.aw ?_; dsimp only [C.aw]; refine Yy ?_
 refine Sr ?_
 refine K.forG 13 s.length [0, 1, 4, 11, 12] (fun v : SlP => [(5, .slice v.1 v.2.1 v.2.2)]) (none, 0, 0) (fun k v W => Ext w W ∧ OwR encB T.l 1 w.heap.size W (.slice v.1 v.2.1 v.2.2) (Abs.dig (Abs.numFrom ((Abs.lC m).take k) (s.take k) 0))) hZq hZq ⟨Ext.refl _, by simpa [Abs.numFrom, Abs.dig_zero] using OwR.nil encB T.l 1 w.heap.size w⟩ ?_
 rintro k ⟨oa, n, c⟩ S w1 hk ⟨he1, ho1⟩
 refine Sr ?_
 apply K.cond <;> intro g1
 rotate_left
 ·have hks : k = s.length := by omega
  rw [hks, List.take_of_length_le (by omega), List.take_of_length_le (Nat.le_refl _)] at ho1
  refine Sr ?_
  exact ⟨ho1, he1⟩
 have hk2 : k < s.length := by omega
 have hk3 : k < (Abs.lC m).length := by omega
 have l3 : (Abs.layout m).lo[k]'(by omega) = (Abs.lC m)[k].lo := Abs.layout_lo_get _ hk3
 have hbd := Abs.cell_bd hM _ (List.getElem_mem hk3)
 have hbase := Abs.base_le hM _ (List.getElem_mem hk3)
 have hget := Abs.inR_get hin k hk3 hk2
 unfold Abs.BdOk at hbd
 obtain ⟨av, rfl⟩ := hs.addr (by omega)
 obtain ⟨a3, rfl⟩ := r3.addr (by omega)
 obtain ⟨lo, hlo⟩ : ∃ lo, lo = (Abs.lC m)[k].lo := ⟨_, rfl⟩
 obtain ⟨x, hx⟩ : ∃ x, x = s[k] := ⟨_, rfl⟩
 rw [← hlo] at l3
 obtain ⟨cy, hcy⟩ : ∃ cy : Nat, cy = (x - lo).toNat := ⟨_, rfl⟩
 obtain ⟨B, hB⟩ : ∃ B : Nat, B = (Abs.lC m)[k].base := ⟨_, rfl⟩
 have hcB : cy < B := by unfold Abs.Cell.base at hB; omega
 have hmul := Abs.mulAdd_at hM hk3 hk2
 have hfew := Abs.dig_few hM hin k
 have hfew2 := Abs.dig_few hM hin (k + 1)
 rw [← hmul, ← hlo, ← hx, ← hcy, ← hB] at hfew2
 rw [← hlo, ← hx, ← hcy, ← hB] at hmul
 obtain ⟨l, hl⟩ : ∃ l, l = Abs.dig (Abs.numFrom ((Abs.lC m).take k) (s.take k) 0) := ⟨_, rfl⟩
 have hdl : ∀ d ∈ l, d < 256 := by rw [hl]; exact Abs.dig_lt _
 rw [← hl] at ho1 hmul hfew hfew2
 rw [← hlo, ← hx] at hget
 rw [← hB] at hbase
 refine Sr ?_
 refine K.wu64 cy (by omega) (by omega) ?_
 refine Sr ?_
 refine K.qfn (.int .i64 ((Abs.lC m)[k].base : Nat)) (fun w' e => base_r b k m w' (hr.ext (he1.trans e)) hM hk3) ?_
 rw [← hB]
 refine Sr ?_
 refine K.wu64 B rfl (by omega) ?_
 refine Sr ?_
 intro w2 he2
 have e2 := he1.trans he2
 have ho2 := ho1.ext he2
 have hn : n = l.length := by obtain ⟨_, _, e, _⟩ := ho1.form; injection e
 subst hn
 clear ho1 hs hr
 refine Sr ?_
 refine K.forG 35 l.length [0, 1, 4, 5, 9, 11, 12, 13, 33, 34] (fun x : Nat => [(8, .int .u64 (x : Int))]) cy (fun j x W => x = Abs.carryAt l B cy j ∧ Ext w W ∧ OwR encB T.l 1 w.heap.size W (.slice oa l.length c) (Abs.doneAt l B cy j)) hZq hZq ⟨(Abs.carryAt_zero _ _ _).symm, e2, by rw [Abs.doneAt_zero]; exact ho2⟩ ?_
 clear ho2
 rintro j x3 S w3 hj ⟨hx3, e3, ho3⟩
 have hx3B : x3 < B := by rw [hx3]; exact Abs.carryAt_le hbase.1 l B cy j hdl (Nat.le_refl _) hcB
 refine Sr ?_
 apply K.cond <;> intro g2
 ·have hj2 : j < l.length := by omega
  obtain ⟨oa', cap, e, hcap1, hcap2⟩ := ho3.form
  have hsl := ownsRow_form ho3
  obtain ⟨a, rfl⟩ : ∃ a, oa = some a := by
   obtain ⟨oa2, cap2, e2, _, _, h5, _⟩ := hsl
   injection e2 with e2 _ _
   subst e2
   exact Option.isSome_iff_exists.1 (h5 (by rw [Abs.doneAt_len]; omega))
  have hdj := OwR.dropB ho3 (k := j) (by rw [Abs.doneAt_len]; exact hj2)
  have hge : (Abs.doneAt l B cy j)[j]'(by rw [Abs.doneAt_len]; exact hj2) = l[j] := by
   have := Abs.doneAt_get l B cy j j (Nat.le_refl _)
   rw [List.getElem?_eq_getElem (by rw [Abs.doneAt_len]; exact hj2), List.getElem?_eq_getElem hj2] at this
   exact Option.some.inj this
  rw [hge] at hdj
  have hlj := hdl _ (List.getElem_mem hj2)
  have hm1 : l[j] * B ≤ 255 * 2097153 := Nat.mul_le_mul (by omega) hbase.2
  clear hsl
  refine Sr ?_
  refine K.ld hdj ?_
  refine Sr ?_
  refine K.wu64 l[j] rfl (by omega) ?_
  refine Sr ?_
  refine K.wu64 (l[j] * B) (by rw [Int.natCast_mul]) (by omega) ?_
  refine Sr ?_
  refine K.wu64 (x3 + l[j] * B) (by rw [Int.natCast_add]) (by omega) ?_
  refine Sr ?_
  refine K.wu8 (x3 + l[j] * B) rfl ?_
  refine Sr ?_
  refine K.stB ho3 (by rw [Abs.doneAt_len]; exact hj2) fun w4 hw4 ho4 => ?_
  refine Sr ?_
  refine K.shr8 ?_
  refine Sr ?_
  refine ⟨hj2, Tr, (x3 + l[j] * B) / 256, hZq, ?_, hw4.ext e3 (by have := ho3.blkB; omega), ?_⟩
  ·rw [Abs.carryAt_succ l B cy j hj2, ← hx3]
  ·rw [Abs.doneAt_succ l B cy j hj2, ← hx3]; exact ho4
 have hjl : j = l.length := by omega
 subst hjl
 have hpre : Abs.doneAt l B cy l.length ++ Abs.dig x3 = Abs.mulAdd l B cy := by rw [hx3]; exact Abs.mulAdd_done l B cy
 have hdl3 := Abs.doneAt_len l B cy l.length
 refine Sr ?_
 refine K.whG [0, 1, 4, 11, 12, 13] (fun y : SlP × Nat => [(5, .slice y.1.1 y.1.2.1 y.1.2.2), (8, .int .u64 (y.2 : Int))]) ((oa, l.length, c), x3) (fun y W => Ext w W ∧ y.2 < B ∧ ∃ pre, OwR encB T.l 1 w.heap.size W (.slice y.1.1 y.1.2.1 y.1.2.2) pre ∧ pre ++ Abs.dig y.2 = Abs.mulAdd l B cy) (fun y => y.2) hZq ⟨e3, hx3B, _, ho3, hpre⟩ ?_
 clear ho3 hpre
 rintro ⟨⟨oa4, n4, c4⟩, x4⟩ S w4 ⟨e4, hx4, pre, ho4, hpre⟩
 refine Sr ?_
 apply K.cond <;> intro g3
 ·have hx0 : x4 ≠ 0 := by intro e; subst e; exact absurd g3 (by decide)
  have hpl := Abs.mulAdd_len hpre
  refine Sr ?_
  refine K.wu8 x4 rfl ?_
  refine Sr ?_
  intro w5 b5 hb5 he5 hc5
  refine Sr ?_
  refine K.app1 (y := x4 % 256) (ho4.ext he5) hc5 rfl (fun _ => rfl) encB_one (by omega) (by unfold maxLen; omega) (Nat.le_trans e4.size he5.size) fun oa6 n6 c6 w6 ho6 hg6 => ?_
  refine Sr ?_
  refine K.shr8 ?_
  refine Sr ?_
  refine ⟨((oa6, n6, c6), x4 / 256), hZq, ⟨(e4.trans he5).grown hg6 fun q hq => (ho4.lt q hq).1, by simp only; omega, _, ho6, ?_⟩, by simp only; omega⟩
  rw [← hpre, Abs.dig_pos hx0, List.append_assoc]
  rfl
 ·have hx0 : x4 = 0 := by have : ¬ (0 : Int) < (x4 : Int) := g3; omega
  subst hx0
  rw [Abs.dig_zero, List.append_nil] at hpre
  rw [hpre, hmul] at ho4
  refine Sr ?_
  exact ⟨hk2, Tr, (oa4, n4, c4), hZq, e4, ho4⟩
end Go.Proofs.YtglnobabdcoknaaGreatDoor
end
section
namespace Lite
open Go Go.RowKit
theorem OwR.someB {e : TypeId} {base : Nat} {w : World} {l : List Nat} {oa : Option Addr} {n c : Nat} (h : OwR encB e 1 base w (.slice oa n c) l) (hl : 0 < l.length) : ∃ a, oa = some a := by
 obtain ⟨oa2, cap2, e2, _, _, h5, _⟩ := ownsRow_form h
 injection e2 with e2 _ _
 subst e2
 exact Option.isSome_iff_exists.1 (h5 (by omega))
theorem OwR.lenB {e : TypeId} {base : Nat} {w : World} {l : List Nat} {oa : Option Addr} {n c : Nat} (h : OwR encB e 1 base w (.slice oa n c) l) : n = l.length := by
 obtain ⟨_, _, e, _⟩ := h.form
 injection e
def revAt (l : List Nat) (i : Nat) : List Nat := (List.range l.length).map fun j => if j < i ∨ l.length - i ≤ j then l.reverse[j]! else l[j]!
theorem revAt_len (l : List Nat) (i : Nat) : (revAt l i).length = l.length := by simp [revAt]
theorem revAt_get {l : List Nat} {i j : Nat} (h : j < l.length) : (revAt l i)[j]? = some (if j < i ∨ l.length - i ≤ j then l[l.length - 1 - j]'(by omega) else l[j]) := by
 have hr : l.reverse[j]! = l[l.length - 1 - j]'(by omega) := by
  rw [getElem!_pos _ _ (by simpa using h), List.getElem_reverse]
 simp only [revAt, List.getElem?_map, List.getElem?_range h, Option.map_some, hr, getElem!_pos l j h]
theorem revAt_zero (l : List Nat) : revAt l 0 = l := by
 apply List.ext_getElem?
 intro j
 by_cases h : j < l.length
 ·rw [revAt_get h, if_neg (by omega), List.getElem?_eq_getElem h]
 ·rw [List.getElem?_eq_none (by rw [revAt_len]; omega), List.getElem?_eq_none (by omega)]
theorem revAt_end {l : List Nat} {i : Nat} (hi : l.length ≤ 2 * i + 1) : revAt l i = l.reverse := by
 apply List.ext_getElem?
 intro j
 by_cases h : j < l.length
 ·rw [revAt_get h, List.getElem?_reverse h]
  split
  ·rw [List.getElem?_eq_getElem]
  ·rw [List.getElem?_eq_getElem (by omega)]
   congr 2
   omega
 ·rw [List.getElem?_eq_none (by rw [revAt_len]; omega), List.getElem?_eq_none (by simp; omega)]
theorem revAt_succ {l : List Nat} {i : Nat} (hi : 2 * i + 1 < l.length) : ((revAt l i).set i (l[l.length - 1 - i]'(by omega))).set (l.length - 1 - i) (l[i]'(by omega)) = revAt l (i + 1) := by
 apply List.ext_getElem?
 intro j
 by_cases h : j < l.length
 ·rw [revAt_get h, List.getElem?_set, List.getElem?_set, List.length_set, revAt_len, revAt_get h]
  by_cases h1 : l.length - 1 - i = j
  ·rw [if_pos h1, if_pos (by omega), if_pos (by omega)]
   congr 2
   omega
  ·rw [if_neg h1]
   by_cases h2 : i = j
   ·subst h2
    rw [if_pos rfl, if_pos (by omega), if_pos (by omega)]
   ·rw [if_neg h2]
    by_cases h3 : j < i ∨ l.length - i ≤ j
    ·rw [if_pos h3, if_pos (by omega)]
    ·rw [if_neg h3, if_neg (by omega)]
 ·rw [List.getElem?_eq_none (by rw [List.length_set, List.length_set, revAt_len]; omega), List.getElem?_eq_none (by rw [revAt_len]; omega)]
end Lite
namespace Go.Proofs.YtglnobabdcoknaaGreatDoor
open Go Go.RowKit Lite
theorem reverse_r {e : TypeId} {base : Nat} (v : Value) (l : List Nat) (w : World) (h : OwR encB e 1 base w v l) :
  Ret Tryz.prog F.ce #[v] w fun _ w' => OwR encB e 1 base w' v l.reverse ∧ Mod (fun k => v.ownBlock = some k) w w' := by
 obtain ⟨oa, cap, rfl, hc, hcm⟩ := h.form
 unfold maxLen at hcm
 refine Ks E.ce ?_; dsimp only [C.ce]; refine Yy ?_
 refine Sr ?_
 refine K.whG [0] (fun y : Int × Int => [(2, .int .i64 y.1), (3, .int .i64 y.2)]) (0, (l.length : Int) - 1) (fun y W => ∃ i : Nat, y.1 = i ∧ y.2 = (l.length : Int) - 1 - i ∧ OwR encB e 1 base W (.slice oa l.length cap) (revAt l i) ∧ Mod (fun k => (Value.slice oa l.length cap).ownBlock = some k) w W) (fun y => (y.2 - y.1).toNat) hZq ⟨0, by simp, by simp, by rw [revAt_zero]; exact h, Mod.refl _ _⟩ ?_
 rintro ⟨i, j⟩ S w1 ⟨n, hi, hj, ho1, hm1⟩
 simp only at hi hj
 refine Sr ?_
 apply K.cond <;> intro g1
 ·have hn : 2 * n + 1 < l.length := by omega
  have hrl := revAt_len l n
  obtain ⟨a, rfl⟩ := ho1.someB (by omega)
  subst hi hj
  have hd1 := OwR.dropB ho1 (k := n) (by omega)
  have hd2 := OwR.dropB ho1 (k := l.length - 1 - n) (by omega)
  have g1' := revAt_get (l := l) (i := n) (j := n) (by omega)
  have g2' := revAt_get (l := l) (i := n) (j := l.length - 1 - n) (by omega)
  rw [if_neg (by omega)] at g1' g2'
  obtain ⟨_, g1'⟩ := List.getElem?_eq_some_iff.1 g1'
  obtain ⟨_, g2'⟩ := List.getElem?_eq_some_iff.1 g2'
  rw [g1'] at hd1
  rw [g2'] at hd2
  refine Sr ?_
  intro w2 he2
  refine K.ian (l.length - 1 - n) (by omega) (by omega) ?_
  refine Sr ?_
  refine K.ld (he2.cell hd2) ?_
  refine Sr ?_
  refine K.ld (he2.cell hd1) ?_
  refine Sr ?_
  refine K.stB (ho1.ext he2) (by omega) fun w3 hw3 ho3 => ?_
  refine Sr ?_
  refine K.ian (l.length - 1 - n) (by omega) (by omega) ?_
  refine Sr ?_
  refine K.stB ho3 (by rw [List.length_set]; omega) fun w4 hw4 ho4 => ?_
  rw [revAt_succ hn] at ho4
  refine Sr ?_
  exact ⟨((n : Int) + 1, (l.length : Int) - 1 - n - 1), hZq, ⟨n + 1, by simp, by simp; omega, ho4, ((hm1.trans he2.mod).trans (hw3.mod rfl)).trans (hw4.mod rfl)⟩, by simp only; omega⟩
 ·refine Sr ?_
  rw [revAt_end (by omega)] at ho1
  exact ⟨ho1, hm1⟩
end Go.Proofs.YtglnobabdcoknaaGreatDoor
namespace Abs
theorem inR_hi : ∀ {cs : List Cell}, (∀ x ∈ cs, x.lo ≤ x.hi) → InR cs (cs.map (·.hi))
 | [], _ => trivial
 | x :: r, h => ⟨⟨h x (by simp), Int.le_refl _⟩, inR_hi fun y hy => h y (by simp [hy])⟩
theorem bytes_few {m : Model} (hM : MayBe m) : byteN m ≤ 192 := by
 have := dig_few hM (inR_hi (layCells_le hM)) (lC m).length
 rw [List.take_of_length_le (Nat.le_refl _), List.take_of_length_le (by simp)] at this
 exact this
end Abs
namespace Go.Proofs.YtglnobabdcoknaaGreatDoor
open Go Go.RowKit Lite
theorem stsize_r (b : Nat) (m : Abs.Model) (w : World) (hr : ReaderAt w b m) (hM : Abs.MayBe m) :
  Ret Tryz.prog F.ax #[.pointer (some ⟨b, 0, none⟩)] w fun u w' => u = .int .i64 (Abs.byteN m : Nat) ∧ Ext w w' := by
 obtain ⟨o0, c0, o1, c1, o2, c2, o3, c3, o4, c4, p0, d0, p1, d1, p2, d2, p3, d3, p4, d4, oi, ci, hb, r0, r1, r2, r3, r4, h0, h1, h2, h3, hI⟩ := hr.form
 clear h0 h1 h2 h3 hI r0 r1 r2 r3
 refine Ks E.ax ?_; dsimp only [C.ax]; refine Yy ?_
 refine Sr ?_
 refine K.call (digits_r b _ (Abs.layout m).hi m w hr hM r4 (Abs.inR_hi (Abs.layCells_le hM))) ?_
 rintro _ w1 ⟨ho1, he1⟩
 obtain ⟨oa, cap, rfl, _⟩ := ho1.form
 refine Sr ?_
 exact ⟨Tr, he1⟩
theorem bytes_r (cs : List Value) (v : Value) (m : Abs.Model) (s : List Int) (w : World) (h : Abs.MI w cs m) (hg : m.good) (ho : OwnIs w) (hs : Nums w v s) :
  Ret Tryz.prog F.b7 #[.agg cs.toArray, v] w fun u w' => (∃ v', u = .tuple #[v', .int .i64 (Abs.bytesRes m s).2] ∧ Byts w' v' (Abs.bytesRes m s).1) ∧ Ext w w' := by
 have hMI := h
 obtain ⟨o0, c0, o1, c1, o2, c2, o3, c3, o4, c4, rfl, _⟩ := h.form
 obtain ⟨ov, cv, rfl, lv⟩ := hs.form
 refine Ks E.b7 ?_; dsimp only [C.b7]; refine Yy ?_
 refine Sr ?_
 intro w1 b1 hb1 he1 hc1
 refine Sr ?_
 refine K.call (read_r _ m w1 (hMI.ext he1) hg (ho.ext he1)) ?_
 rintro _ w2 ⟨hr, he2⟩
 have e2 := he1.trans he2
 rcases hr with ⟨rfl, hk⟩ | ⟨b, rfl, hk, hr⟩
 ·have hn : Abs.bytesRes m s = ([], 2) := by unfold Abs.bytesRes; rw [if_pos hk]
  refine Sr ?_
  refine K.ptrEq0 (by kernel_rfl) ?_
  refine Sr ?_
  rw [hn]
  exact ⟨⟨_, rfl, SlR.nil⟩, e2⟩
 have hM := Abs.maybe_of hk
 refine Sr ?_
 refine K.ptrEq1 (by kernel_rfl) ?_
 refine Sr ?_
 refine K.call (right_r b _ s m w2 hr hM (hs.ext Flat.ext e2)) ?_
 rintro _ w3 ⟨⟨t, rfl, ht⟩, he3⟩
 have e3 := e2.trans he3
 cases t with
 | false =>
  have hn : Abs.bytesRes m s = ([], 3) := by
   unfold Abs.bytesRes
   rw [if_neg (not_not_intro hk), if_neg]
   intro h; have := ht.2 h; cases this
  refine Sr ?_
  rw [hn]
  exact ⟨⟨_, rfl, SlR.nil⟩, e3⟩
 | true =>
  have hf := ht.1 rfl
  have hn := Abs.bytesRes_of hk hf
  have hfew := Abs.bytes_few hM
  have hle := Abs.num_le hM hf.inR
  refine Sr ?_
  refine K.call (digits_r b _ s m w3 (hr.ext he3) hM (hs.ext Flat.ext e3) hf.inR) ?_
  rintro _ w4 ⟨ho4, he4⟩
  obtain ⟨oa, cap, rfl, _⟩ := ho4.form
  have e4 := e3.trans he4
  refine Sr ?_
  refine K.call (stsize_r b m w4 ((hr.ext he3).ext he4) hM) ?_
  rintro _ w5 ⟨rfl, he5⟩
  have e5 := e4.trans he5
  have ho5 := ho4.ext he5
  refine Sr ?_
  refine K.appZ (kq := .i64) (kn := .i64) (Abs.byteN m - (Abs.dig (Abs.num m s)).length) (by kernel_rfl) (by kernel_rfl) (by kernel_rfl) (by simp only [ev_tmp, uA]; rfl) (by simp [ev_tmp, uA]; omega) ho5 (by omega) (by have := he4.size; have := he5.size; omega) fun v' w6 ho6 hg6 => ?_
  have e6 : Ext w w6 := e5.grown hg6 fun k q => by have := (ho5.lt k q).1; have := e3.size; omega
  rw [show Abs.dig (Abs.num m s) ++ List.replicate (Abs.byteN m - (Abs.dig (Abs.num m s)).length) 0 = Abs.fixed (Abs.byteN m) (Abs.num m s) from rfl] at ho6
  obtain ⟨oa6, cap6, rfl, _⟩ := ho6.form
  refine Sr ?_
  refine K.call (reverse_r _ _ w6 ho6) ?_
  rintro u w7 ⟨ho7, hm7⟩
  have e7 : Ext w w7 := hm7.ext e6 fun k hk a => by have := (ho6.lt k a).1; have := e3.size; omega
  refine Sr ?_
  rw [hn]
  exact ⟨⟨_, rfl, OwR.slr (fun _ => rfl) ho7⟩, e7⟩
end Go.Proofs.YtglnobabdcoknaaGreatDoor
end
section
namespace Lite
open Go Go.RowKit
def BytIs (_ : World) (cs : List Value) (x : Nat) : Prop := cs = encB x
instance instRelByt : Rel (Flat encB) BytIs 1 where
 out h := ⟨_, h, rfl⟩
 inn h k := by cases k; exact h
 len h := by cases h; rfl
 one h := by cases h; exact encB_one _
 ext _ h := h
theorem owc_bytes {e : TypeId} {base : Nat} {w : World} {v : Value} {css : List (Cs 1)} {l : List Nat} (hl : css.length = l.length) (hc : ∀ i (h1 : i < css.length) (h2 : i < l.length), BytIs w css[i].1 l[i]) (h : OwC e 1 base w v css) : OwR encB e 1 base w v l := by
 have e1 : css.map encC = l.map encB := by
  apply List.ext_getElem (by simpa using hl)
  intro i h1 h2
  simp only [List.getElem_map]
  exact hc i (by simpa using h1) (by simpa using h2)
 have e2 : css.flatMap encC = l.flatMap encB := by rw [List.flatMap_def, List.flatMap_def, e1]
 unfold OwC OwR at h
 unfold OwR
 rw [← hl, ← e2]
 exact h
end Lite
namespace Abs
open Go
def outAt (cs : List Cell) (b : List Nat) (k : Nat) : List Int := List.replicate (cs.length - k) 0 ++ (backs (cs.drop (cs.length - k)) (valB b)).1
theorem outAt_zero (cs : List Cell) (b : List Nat) : outAt cs b 0 = List.replicate cs.length 0 := by simp [outAt, backs]
theorem outAt_all (cs : List Cell) (b : List Nat) : outAt cs b cs.length = (backs cs (valB b)).1 := by simp [outAt]
theorem outAt_len {cs : List Cell} {b : List Nat} {k : Nat} (h : k ≤ cs.length) : (outAt cs b k).length = cs.length := by
 simp only [outAt, List.length_append, List.length_replicate, backs_len, List.length_drop]; omega
theorem outAt_succ {cs : List Cell} {b : List Nat} {k : Nat} (hd : ∀ d ∈ b, d < 256) (hb : ∀ x ∈ cs, 1 ≤ x.base) (h : k < cs.length) :
  (outAt cs b k).set (cs.length - 1 - k) (cs[cs.length - 1 - k].lo + ((share (sharesAt (cs.drop (cs.length - k)) b) cs[cs.length - 1 - k].base 0).2 : Nat)) = outAt cs b (k + 1) := by
 have hi : cs.length - 1 - k < cs.length := by omega
 have e1 : cs.drop (cs.length - (k + 1)) = cs[cs.length - 1 - k] :: cs.drop (cs.length - k) := by
  rw [show cs.length - (k + 1) = cs.length - 1 - k from by omega, List.drop_eq_getElem_cons hi]
  congr 2
  omega
 have e2 : List.replicate (cs.length - k) (0 : Int) = List.replicate (cs.length - (k + 1)) 0 ++ [0] := by
  rw [show cs.length - k = cs.length - (k + 1) + 1 from by omega, List.replicate_succ']
 unfold outAt
 rw [e1, backs_cons hd fun y hy => hb y (by
  rcases List.mem_cons.1 hy with rfl | hy
  ·exact List.getElem_mem hi
  ·exact List.mem_of_mem_drop hy)]
 rw [e2, List.append_assoc, List.set_append_right _ _ (by simp; omega)]
 rw [show cs.length - 1 - k - (List.replicate (cs.length - (k + 1)) (0 : Int)).length = 0 from by simp; omega]
 rfl
theorem sharesAt_succ {cs : List Cell} {b : List Nat} {k : Nat} (h : k < cs.length) : sharesAt (cs.drop (cs.length - (k + 1))) b = (share (sharesAt (cs.drop (cs.length - k)) b) cs[cs.length - 1 - k].base 0).1 := by
 have hi : cs.length - 1 - k < cs.length := by omega
 rw [show cs.length - (k + 1) = cs.length - 1 - k from by omega, List.drop_eq_getElem_cons hi, show cs.length - 1 - k + 1 = cs.length - k from by omega]
 rfl
end Abs
namespace Go.Proofs.YtglnobabdcoknaaGreatDoor
open Go Go.RowKit Lite
theorem bclone_r (v : Value) (l : List Nat) (w : World) (h : Byts w v l) (hb : l.length ≤ 100000) :
  Ret Tryz.prog F.cf #[v] w fun v' w' => OwR encB T.l 1 w.heap.size w' v' l ∧ Ext w w' :=
 (clone_r (R := Flat encB) hmix E.cf (by kernel_rfl) v l w h (by omega)).mono fun v' w' ⟨⟨css, hl, ho, hc⟩, he⟩ => ⟨owc_bytes hl hc ho, he⟩
theorem nonz_r (x : Nat) (w : World) : Ret Tryz.prog F.x #[.int .u8 (x : Int)] w fun v w' => v = .bool (decide (x ≠ 0)) ∧ Ext w w' := by
 refine Ks E.x ?_; dsimp only [C.x]; refine Yy ?_
 refine Sr ?_
 refine ⟨?_, Ext.refl _⟩
 congr 1
 simp
theorem bindex_r (v : Value) (l : List Nat) (w : World) (h : Byts w v l) :
  Ret Tryz.prog F.cw #[v, .func (.func F.x) #[] #[]] w fun v' w' => v' = .int .i64 (firstAt (fun x : Nat => decide (x ≠ 0)) l 0) ∧ Ext w w' := by
 obtain ⟨o1, c1, rfl, b1⟩ := h.form
 refine Ks E.cw ?_; dsimp only [C.cw]; refine Yy ?_
 refine Sr ?_
 refine K.forG 8 l.length [0, 1, 7] (fun _ : Unit => []) () (fun k _ w' => Ext w w' ∧ firstAt (fun x : Nat => decide (x ≠ 0)) l 0 = firstAt (fun x : Nat => decide (x ≠ 0)) (l.drop k) k) hZq hZq ⟨Ext.refl _, by simp⟩ ?_
 rintro k _ S w2 hk ⟨he2, hI⟩
 refine Sr ?_
 apply K.cond <;> intro g1
 ·have hk' : k < l.length := by omega
  obtain ⟨a, rfl⟩ := h.addr (by omega)
  rw [firstAt_drop hk'] at hI
  refine Sr ?_
  refine K.callV (first := []) (cap := []) (by kernel_rfl) (nonz_r l[k] w2) ?_
  rintro _ w3 ⟨rfl, he3⟩
  refine Sr ?_
  apply K.cond <;> intro g2
  ·refine Sr ?_
   exact ⟨by rw [hI, if_pos (by simpa using g2)], he2.trans he3⟩
  ·refine Sr ?_
   exact ⟨hk', Tr, (), trivial, he2.trans he3, by rw [hI, if_neg (by simpa using g2)]⟩
 ·refine Sr ?_
  exact ⟨by rw [hI, List.drop_eq_nil_of_le (by omega)]; rfl, he2⟩
theorem bcont_r (v : Value) (l : List Nat) (w : World) (h : Byts w v l) :
  Ret Tryz.prog F.cg #[v, .func (.func F.x) #[] #[]] w fun v' w' => (∃ t : Bool, v' = .bool t ∧ (t = true ↔ Abs.valB l ≠ 0)) ∧ Ext w w' := by
 refine Ks E.cg ?_; dsimp only [C.cg]; refine Yy ?_
 refine Sr ?_
 refine K.call (bindex_r v l w h) ?_
 rintro _ w2 ⟨rfl, he2⟩
 refine Sr ?_
 refine ⟨⟨_, rfl, ?_⟩, he2⟩
 rw [decide_eq_true_eq, firstAt_any]
 simp only [List.any_eq_true, decide_eq_true_eq, ne_eq, Abs.valB_zero]
 constructor
 ·rintro ⟨x, h1, h2⟩ h3; exact h2 (h3 x h1)
 ·intro h1
  apply Classical.byContradiction
  intro h2
  exact h1 fun d hd => Classical.byContradiction fun h3 => h2 ⟨d, hd, h3⟩
end Go.Proofs.YtglnobabdcoknaaGreatDoor
end
section
namespace Lite
open Go Go.RowKit
theorem OwR.neBlk {α : Type} {enc : α → List Value} {e t : TypeId} {sz base b : Nat} {w : World} {a : Addr} {n c : Nat} {l : List α} {cs : Array Value} (h : OwR enc e sz base w (.slice (some a) n c) l) (hb : w.heap[b]? = some (.cells cs t)) (ht : t ≠ e) : b ≠ a.block := fun he => by
 obtain ⟨cur, h1⟩ := h.blk a.block rfl
 rw [he, h1] at hb
 injection hb with hb
 injection hb with _ hb
 exact ht hb.symm
end Lite
namespace Abs
open Go
theorem outAt_at {cs : List Cell} {b : List Nat} {k i : Nat} (hd : ∀ d ∈ b, d < 256) (hb : ∀ x ∈ cs, 1 ≤ x.base) (h : k < cs.length) (hi : i = cs.length - 1 - k) (hil : i < cs.length) : (outAt cs b k).set i (cs[i].lo + ((share (sharesAt (cs.drop (cs.length - k)) b) cs[i].base 0).2 : Nat)) = outAt cs b (k + 1) := by
 subst hi; exact outAt_succ hd hb h
theorem sharesAt_at {cs : List Cell} {b : List Nat} {k i : Nat} (h : k < cs.length) (hi : i = cs.length - 1 - k) (hil : i < cs.length) : sharesAt (cs.drop (cs.length - (k + 1))) b = (share (sharesAt (cs.drop (cs.length - k)) b) cs[i].base 0).1 := by
 subst hi; exact sharesAt_succ h
theorem backRes_range {m : Model} {b : List Nat} (h0 : (check m).why = 0) (hl : b.length = byteN m) (h : (backs (lC m) (valB b)).2 ≠ 0) : backRes m b = ([], 10) := by
 unfold backRes
 rw [if_neg (not_not_intro h0), if_neg (by omega), if_neg (by omega), if_pos h]
theorem backRes_form {m : Model} {b : List Nat} (h0 : (check m).why = 0) (hl : b.length = byteN m) (h : (backs (lC m) (valB b)).2 = 0) (hf : ¬ Fits m (backs (lC m) (valB b)).1) : backRes m b = ([], 3) := by
 unfold backRes
 rw [if_neg (not_not_intro h0), if_neg (by omega), if_neg (by omega), if_neg (not_not_intro h), if_neg hf]
theorem backRes_ok {m : Model} {b : List Nat} (h0 : (check m).why = 0) (hl : b.length = byteN m) (h : (backs (lC m) (valB b)).2 = 0) (hf : Fits m (backs (lC m) (valB b)).1) : backRes m b = ((backs (lC m) (valB b)).1, 0) := by
 unfold backRes
 rw [if_neg (not_not_intro h0), if_neg (by omega), if_neg (by omega), if_neg (not_not_intro h), if_pos hf]
end Abs
namespace Go.Proofs.YtglnobabdcoknaaGreatDoor
open Go Go.RowKit Lite
theorem back_r (cs : List Value) (v : Value) (m : Abs.Model) (l : List Nat) (w : World) (h : Abs.MI w cs m) (hg : m.good) (ho : OwnIs w) (hb8 : Byts w v l) (hd : ∀ d ∈ l, d < 256) (hl200 : l.length ≤ 200) :
  Ret Tryz.prog F.v #[.agg cs.toArray, v] w fun u w' => (∃ v', u = .tuple #[v', .int .i64 (Abs.backRes m l).2] ∧ Nums w' v' (Abs.backRes m l).1) ∧ Ext w w' := by
 have hMI := h
 obtain ⟨o0, c0, o1, c1, o2, c2, o3, c3, o4, c4, rfl, _⟩ := h.form
 obtain ⟨ov, cv, rfl, lv⟩ := hb8.form
 refine Ks E.v ?_; dsimp only [C.v]; refine Yy ?_
 refine Sr ?_
 intro w1 b1 hb1 he1 hc1
 refine Sr ?_
 refine K.call (read_r _ m w1 (hMI.ext he1) hg (ho.ext he1)) ?_
 rintro _ w2 ⟨hr, he2⟩
 have e2 := he1.trans he2
 rcases hr with ⟨rfl, hk⟩ | ⟨b, rfl, hk, hr⟩
 ·have hn : Abs.backRes m l = ([], 2) := by unfold Abs.backRes; rw [if_pos hk]
  refine Sr ?_
  refine K.ptrEq0 (by kernel_rfl) ?_
  refine Sr ?_
  rw [hn]
  exact ⟨⟨_, rfl, SlR.nil⟩, e2⟩
 have hM := Abs.maybe_of hk
 have hfew := Abs.bytes_few hM
 refine Sr ?_
 refine K.ptrEq1 (by kernel_rfl) ?_
 refine Sr ?_
 refine K.call (stsize_r b m w2 hr hM) ?_
 rintro _ w3 ⟨rfl, he3⟩
 have e3 := e2.trans he3
 refine Sr ?_
 apply K.cond <;> intro g1
 ·have hn : Abs.backRes m l = ([], 4) := by unfold Abs.backRes; rw [if_neg (not_not_intro hk), if_pos (by omega)]
  refine Sr ?_
  rw [hn]
  exact ⟨⟨_, rfl, SlR.nil⟩, e3⟩
 refine Sr ?_
 apply K.cond <;> intro g2
 ·have hn : Abs.backRes m l = ([], 5) := by unfold Abs.backRes; rw [if_neg (not_not_intro hk), if_neg (by omega), if_pos (by omega)]
  refine Sr ?_
  rw [hn]
  exact ⟨⟨_, rfl, SlR.nil⟩, e3⟩
 have hlen : l.length = Abs.byteN m := by omega
 have hr3 := hr.ext he3
 obtain ⟨x0, d0, x1, d1, x2, d2, x3, d3, x4, d4, p0, g0, p1, g1', p2, g2', p3, g3, p4, g4, oi, ci, hb, r0, r1, r2, r3, r4, k0, k1, k2, k3, hI⟩ := hr3.form
 have h64 : (Abs.lC m).length ≤ 64 := Abs.layCells_le64 hM
 clear r0 r1 r2 r4 k0 k1 k2 k3 hI
 refine Su ?_
 refine K.cutG [1, 6] (fun x : SlP × Nat => [(8, .slice x.1.1 x.1.2.1 x.1.2.2), (9, .slice (some ⟨x.2, 0, none⟩) (Abs.lC m).length (Abs.lC m).length)]) (fun x W => Ext w3 W ∧ OwR encB T.l 1 w3.heap.size W (.slice x.1.1 x.1.2.1 x.1.2.2) l ∧ w3.heap.size ≤ x.2 ∧ W.heap[x.2]? = some (.cells (intsC (List.replicate (Abs.lC m).length 0)).toArray T.a)) ?_ ?_
 ·refine Sr ?_
  intro w4 he4
  have hb4 := he4.obj hb
  have hb84 := hb8.ext Flat.ext (e3.trans he4)
  refine Sr ?_
  refine ⟨?_, ?_⟩
  ·refine K.call (bclone_r _ l w4 hb84 (by omega)) ?_
   rintro _ w5 ⟨ho5, he5⟩
   obtain ⟨oa, cap, rfl, _⟩ := ho5.form
   refine ⟨he5, ?_⟩
   refine Sr ?_
   refine K.mkN (Abs.lC m).length rfl (by omega) ?_
   intro w6 b6 hb6 he6 hc6
   refine Sr ?_
   exact ⟨((oa, _, cap), b6), hZq, he4.trans (he5.trans he6), (ho5.ext he6).low he4.size, Nat.le_trans (Nat.le_trans he4.size he5.size) hb6, hc6⟩
  ·refine K.mkN (Abs.lC m).length rfl (by omega) ?_
   intro w5 b5 hb5 he5 hc5
   refine Sr ?_
   refine K.call (bclone_r _ l w5 (hb84.ext Flat.ext he5) (by omega)) ?_
   rintro _ w6 ⟨ho6, he6⟩
   obtain ⟨oa, cap, rfl, _⟩ := ho6.form
   refine Sr ?_
   exact ⟨he5.trans he6, ((oa, _, cap), b5), hZq, he4.trans (he5.trans he6), ho6.low (Nat.le_trans he4.size he5.size), Nat.le_trans he4.size hb5, he6.obj hc5⟩
 rintro ⟨⟨oa, n, c⟩, bS⟩ S w4 ⟨e4, ho4, hbS, hcS⟩
 have hn := ho4.lenB
 simp only at hn
 subst hn
 rw [← Abs.outAt_zero _ l] at hcS
 simp only at hbS hcS ho4
 obtain ⟨N, hN⟩ : ∃ N, N = (Abs.lC m).length := ⟨_, rfl⟩
 have fc : (Abs.layout m).cells = (N : Int) := by rw [hN]; rfl
 have hbase := Abs.base_le hM
 have hbase1 : ∀ x ∈ Abs.lC m, 1 ≤ x.base := fun x hx => (hbase x hx).1
 have f2 := Abs.layout_lo_len m
 have z4 := e4.size
 refine Sr ?_
 refine K.whG [1, 6, 8, 9] (fun y : Int => [(10, .int .i64 y)]) ((Abs.layout m).cells - 1) (fun y W => ∃ k : Nat, y = (N : Int) - 1 - k ∧ k ≤ N ∧ Ext w3 W ∧ OwR encB T.l 1 w3.heap.size W (.slice oa l.length c) (Abs.sharesAt ((Abs.lC m).drop (N - k)) l) ∧ W.heap[bS]? = some (.cells (intsC (Abs.outAt (Abs.lC m) l k)).toArray T.a)) (fun y => (y + 1).toNat) hZq ⟨0, by simp [fc], Nat.zero_le _, e4, by rw [hN]; simpa [Abs.sharesAt] using ho4, hcS⟩ ?_
 clear ho4 hcS
 rintro y S w5 ⟨k, hy, hk5, e5, ho5, hc5⟩
 have hb5 := e5.obj hb
 refine Sr ?_
 apply K.cond <;> intro g3
 ·obtain ⟨i, rfl⟩ := Int.eq_ofNat_of_zero_le g3
  have hik : i = N - 1 - k := by omega
  have hi : i < (Abs.lC m).length := by omega
  refine Sr ?_
  refine K.call (base_r b i m w5 (hr3.ext e5) hM hi) ?_
  rintro _ w6 ⟨rfl, he6⟩
  obtain ⟨B, hB⟩ : ∃ B : Nat, B = (Abs.lC m)[i].base := ⟨_, rfl⟩
  rw [← hB]
  have hBb := hbase _ (List.getElem_mem hi)
  rw [← hB] at hBb
  obtain ⟨L, hL⟩ : ∃ L, L = Abs.sharesAt ((Abs.lC m).drop (N - k)) l := ⟨_, rfl⟩
  obtain ⟨s1, s2, s3⟩ := Abs.sharesAt_ok hd (cs := (Abs.lC m).drop (N - k)) fun x hx => hbase1 x (List.mem_of_mem_drop hx)
  rw [← hL] at s1 s2 s3 ho5
  have ho6 := ho5.ext he6
  have hc6 := he6.obj hc5
  have e6 := e5.trans he6
  clear ho5 hc5 hb5
  refine Sr ?_
  refine K.wu64 B rfl (by omega) ?_
  refine Sr ?_
  refine K.forG 55 l.length [1, 6, 8, 9, 10, 12, 53, 54] (fun x : Nat => [(11, .int .u64 (x : Int))]) 0 (fun j x W => x = Abs.restAt L B 0 j ∧ Ext w3 W ∧ OwR encB T.l 1 w3.heap.size W (.slice oa l.length c) (Abs.shareAt L B 0 j) ∧ W.heap[bS]? = some (.cells (intsC (Abs.outAt (Abs.lC m) l k)).toArray T.a)) hZq hZq ⟨(Abs.restAt_zero _ _ _).symm, e6, by rw [Abs.shareAt_zero]; exact ho6, hc6⟩ ?_
  clear ho6 hc6
  rintro j x7 S w7 hj ⟨hx7, e7, ho7, hc7⟩
  have hx7B : x7 < B := by rw [hx7]; exact Abs.restAt_lt hBb.1 L 0 j (by omega)
  have hsl := Abs.shareAt_len L B 0 j
  refine Sr ?_
  apply K.cond <;> intro g4
  ·have hj2 : j < L.length := by omega
   obtain ⟨a, rfl⟩ := ho7.someB (by omega)
   have hdj := OwR.dropB ho7 (k := j) (by omega)
   have hge : (Abs.shareAt L B 0 j)[j]'(by omega) = L[j] := by
    have := Abs.shareAt_get L B 0 j j (Nat.le_refl _)
    rw [List.getElem?_eq_getElem (by omega), List.getElem?_eq_getElem hj2] at this
    exact Option.some.inj this
   rw [hge] at hdj
   have hlj := s2 _ (List.getElem_mem hj2)
   have hq : (x7 * 256 + L[j]) / B < 256 := (Nat.div_lt_iff_lt_mul (by omega)).2 (by have : (x7 + 1) * 256 ≤ B * 256 := Nat.mul_le_mul_right _ hx7B; rw [Nat.mul_comm 256 B]; omega)
   have hne := ho7.neBlk hc7 (by decide)
   refine Sr ?_
   refine K.ld hdj ?_
   refine Sr ?_
   refine K.shl8 (by omega) ?_
   refine Sr ?_
   refine K.wu64 L[j] rfl (by omega) ?_
   refine Sr ?_
   refine K.orB (by omega) hlj ?_
   refine Sr ?_
   refine K.quoU hBb.1 (IntWalk.u64_in _ (by generalize (x7 * 256 + L[j]) / B = z at hq; omega)) ?_
   refine Sr ?_
   refine K.wu8 _ rfl ?_
   refine Sr ?_
   refine K.stB ho7 (by omega) fun w8 hw8 ho8 => ?_
   rw [Nat.mod_eq_of_lt hq] at ho8
   have hc8 := hw8.obj hc7 hne
   refine Sr ?_
   refine K.remU hBb.1 ?_
   refine Sr ?_
   refine ⟨by omega, Tr, (x7 * 256 + L[j]) % B, hZq, ?_, hw8.ext e7 (by have := ho7.blkB; omega), ?_, hc8⟩
   ·rw [Abs.restAt_succ L B 0 j hj2, ← hx7]
   ·rw [Abs.shareAt_succ L B 0 j hj2, ← hx7]; exact ho8
  have hjl : j = L.length := by omega
  subst hjl
  have hsh := Abs.share_all L B 0
  have hlo : (Abs.layout m).lo[i]'(by omega) = (Abs.lC m)[i].lo := Abs.layout_lo_get _ hi
  have hbd := Abs.cell_bd hM _ (List.getElem_mem hi)
  unfold Abs.BdOk at hbd
  have hb7 := e7.obj hb
  have r37 := r3.ext Flat.ext e7
  obtain ⟨a3, rfl⟩ := r3.addr (by omega)
  have hout := Abs.outAt_at (cs := Abs.lC m) (b := l) (k := k) (i := i) hd hbase1 (by omega) (by omega) hi
  have hsa := Abs.sharesAt_at (cs := Abs.lC m) (b := l) (k := k) (i := i) (by omega) (by omega) hi
  rw [← hN, ← hL, ← hB] at hout hsa
  rw [hsh] at hout hsa
  rw [show (Abs.shareAt L B 0 L.length, Abs.restAt L B 0 L.length).2 = x7 from hx7.symm] at hout
  replace hsa : _ = Abs.shareAt L B 0 L.length := hsa
  have hol := Abs.outAt_len (cs := Abs.lC m) (b := l) (k := k) (by omega)
  refine Sr ?_
  refine K.st1 hc7 (by rw [List.size_toArray, intsC_len]; omega) rfl fun w8 hw8 hc8 => ?_
  rw [hlo, intsC_set (Nat.mul_one _), hout] at hc8
  have hne : ∀ q, (Value.slice oa l.length c).ownBlock = some q → q ≠ bS := fun q hq e => by
   subst e
   obtain ⟨cur, h1⟩ := ho7.blk q hq
   rw [hc7] at h1
   injection h1 with h1
   injection h1 with _ h1
   revert h1; decide
  refine Sr ?_
  refine ⟨(i : Int) - 1, hZq, ⟨k + 1, by omega, by omega, hw8.ext e7 (by omega), ?_, hc8⟩, by omega⟩
  rw [hsa]
  exact ho7.mod (hw8.mod (A := fun q => q = bS) rfl) hne
 ·have hkN : k = N := by omega
  subst hkN
  rw [Nat.sub_self, List.drop_zero] at ho5
  rw [hN, Abs.outAt_all] at hc5
  obtain ⟨s1, s2, s3⟩ := Abs.sharesAt_ok hd (cs := Abs.lC m) hbase1
  have hbl := Abs.backs_len (Abs.lC m) (Abs.valB l)
  have hNums : ∀ {W}, Ext w5 W → Nums W (.slice (some ⟨bS, 0, none⟩) (Abs.lC m).length (Abs.lC m).length) (Abs.backs (Abs.lC m) (Abs.valB l)).1 := fun e => nums_blk (e.obj hc5) (by omega) (by unfold maxLen; omega)
  refine Sr ?_
  refine K.call (bcont_r _ _ w5 (by have := OwR.slr (enc := encB) (sz := 1) (fun _ => rfl) ho5; exact this)) ?_
  rintro _ w6 ⟨⟨t, rfl, ht⟩, he6⟩
  have e6 := e5.trans he6
  rw [s3] at ht
  cases t with
  | true =>
   have hn := Abs.backRes_range hk hlen (ht.1 rfl)
   refine Sr ?_
   rw [hn]
   exact ⟨⟨_, rfl, SlR.nil⟩, e3.trans e6⟩
  | false =>
   have hz : (Abs.backs (Abs.lC m) (Abs.valB l)).2 = 0 := Classical.byContradiction fun h => by have := ht.2 h; cases this
   refine Sr ?_
   refine K.call (right_r b _ _ m w6 (hr3.ext e6) hM (hNums he6)) ?_
   rintro _ w7 ⟨⟨u, rfl, hu⟩, he7⟩
   cases u with
   | false =>
    have hn := Abs.backRes_form hk hlen hz (fun h => by have := hu.2 h; cases this)
    refine Sr ?_
    rw [hn]
    exact ⟨⟨_, rfl, SlR.nil⟩, e3.trans (e6.trans he7)⟩
   | true =>
    have hn := Abs.backRes_ok hk hlen hz (hu.1 rfl)
    refine Sr ?_
    rw [hn]
    exact ⟨⟨_, rfl, hNums (he6.trans he7)⟩, e3.trans (e6.trans he7)⟩
end Go.Proofs.YtglnobabdcoknaaGreatDoor
end
section
namespace Abs
open Go
theorem exTiny_fits2 : Fits exTiny [2, 0] := by
 refine ⟨by rw [exTiny_lay]; rfl, fun j h => absurd h (Nat.not_lt_zero _), fun j h h' => ?_⟩
 have e := congrArg (fun l => l[j]?) exTiny_cells
 simp only [List.getElem?_map, List.getElem?_eq_getElem h', Option.map_some] at e
 match j, h, h', e with
 | 0, _, _, e => simp at e; simp [e.1, e.2]
 | 1, _, _, e => simp at e; simp [e.1, e.2]
 | n + 2, h, _, _ => simp at h; omega
theorem exTiny_num : num exTiny [2, 0] = 2 := by decide +kernel
theorem exTiny_most : most exTiny = 3 := by decide +kernel
theorem dig_two : dig 2 = [2] := by rw [dig_pos (by decide)]; simp [dig_zero]
theorem dig_three : dig 3 = [3] := by rw [dig_pos (by decide)]; simp [dig_zero]
theorem exTiny_byteN : byteN exTiny = 1 := by unfold byteN; rw [exTiny_most, dig_three]; rfl
theorem exTiny_bytes : bytesRes exTiny [2, 0] = ([2], 0) := by
 rw [bytesRes_of exTiny_ok exTiny_fits2]
 unfold bytes fixed
 rw [exTiny_num, exTiny_byteN, dig_two]
 rfl
theorem exTiny_backs3 : backs (lC exTiny) (valB [3]) = ([3, 0], 0) := by decide +kernel
theorem exTiny_backs4 : (backs (lC exTiny) (valB [4])).2 = 1 := by decide +kernel
theorem exTiny_back3 : backRes exTiny [3] = ([3, 0], 0) := by
 have e := exTiny_backs3
 rw [backRes_ok exTiny_ok (by rw [exTiny_byteN]; rfl) (by rw [e]) (by rw [e]; exact exTiny_fits), e]
theorem exTiny_back4 : backRes exTiny [4] = ([], 10) := backRes_range exTiny_ok (by rw [exTiny_byteN]; rfl) (by rw [exTiny_backs4]; decide)
theorem exTiny_back0 : backRes exTiny [] = ([], 4) := by
 unfold backRes
 rw [if_neg (not_not_intro exTiny_ok), if_pos (by rw [exTiny_byteN]; decide)]
theorem exTiny_env : envOf exTiny [2, 0] 0 = spoken exTiny [2, 0] 0 := by
 unfold envOf
 rw [if_pos ⟨⟨exTiny_ok, exTiny_fits2⟩, by decide, by decide +kernel⟩]
theorem exTiny_vars : (spoken exTiny [2, 0] 0).vars = [[2]] := by decide +kernel
theorem exTiny_at : (spoken exTiny [2, 0] 0).at_ = [[1]] := by decide +kernel
end Abs
namespace Go.Proofs.YtglnobabdcoknaaGreatDoor
open Go Go.RowKit Lite
theorem nums2 {w : World} {b : Nat} {x y : Int} (h : w.heap[b]? = some (.cells #[.int .i64 x, .int .i64 y] T.a)) : Nums w (.slice (some ⟨b, 0, none⟩) 2 2) [x, y] := nums_blk (l := [x, y]) h rfl (by simp [maxLen])
theorem nums1 {w : World} {b : Nat} {x : Int} (h : w.heap[b]? = some (.cells #[.int .i64 x] T.a)) : Nums w (.slice (some ⟨b, 0, none⟩) 1 1) [x] := nums_blk (l := [x]) h rfl (by simp [maxLen])
theorem byts1 {w : World} {b : Nat} {x : Nat} (h : w.heap[b]? = some (.cells #[.int .u8 x] T.l)) : Byts w (.slice (some ⟨b, 0, none⟩) 1 1) [x] := byts_blk (l := [x]) h rfl (by simp [maxLen])
theorem numss1 {w : World} {b : Nat} {v : Value} {l : List Int} (h : w.heap[b]? = some (.cells #[v] T.b)) (k : Nums w v l) : Numss w (.slice (some ⟨b, 0, none⟩) 1 1) [l] :=
 ⟨_, _, rfl, Nat.le_refl _, by simp [maxLen], fun _ => rfl, fun a ha i hi => by
  injection ha with ha; subst ha
  have : i = 0 := by simp at hi; omega
  subst this
  exact ⟨v, kB (j := 0 * 1) h rfl, k⟩⟩
theorem ints18_e (u v : Value) (s : List Int) (w : World) (hs : Nums w u s) (ht : Nums w v s) : Ret Tryz.prog F.lw18_ints #[u, v] w fun x w' => x = .bool true ∧ Ext w w' :=
 (ints18_r u v s s w hs ht).mono fun x w' ⟨h, he⟩ => ⟨by rw [h, decide_eq_true rfl], he⟩
theorem lists18_e (u v : Value) (s : List (List Int)) (w : World) (hs : Numss w u s) (ht : Numss w v s) : Ret Tryz.prog F.lw18_lists #[u, v] w fun x w' => x = .bool true ∧ Ext w w' :=
 (lists18_r u v s s w hs ht).mono fun x w' ⟨h, he⟩ => ⟨by rw [h, decide_eq_true rfl], he⟩
theorem awake18_r (w : World) (ho : OwnIs w) : Ret Tryz.prog F.lw18_awake #[] w fun v w' => v = .bool true ∧ Ext w w' := by
 refine Ks E.lw18_awake ?_; dsimp only [C.lw18_awake]; refine Yy ?_
 refine Sr ?_
 refine K.call (tiny_r w) ?_
 rintro _ w1 ⟨⟨cs, rfl, hM⟩, he1⟩
 have hMI := hM
 obtain ⟨o0, c0, o1, c1, o2, c2, o3, c3, o4, c4, rfl, _⟩ := hM.form
 have hg := Abs.exTiny_good
 refine Sr ?_
 intro w2 b1 hb1 he2 hc1
 have e2 := he1.trans he2
 have hM2 := hMI.ext he2
 refine Sr ?_
 intro w3 b14 hb14 he3 hc14
 replace hc1 := he3.obj hc1
 have e3 := e2.trans he3
 refine Sr ?_
 refine K.call (bytes_r _ _ Abs.exTiny [2, 0] w3 (hM2.ext he3) hg (ho.ext e3) (nums2 hc14)) ?_
 rintro _ w4 ⟨⟨vb, rfl, hvb⟩, he4⟩
 rw [Abs.exTiny_bytes] at hvb ⊢
 obtain ⟨ob, cb, rfl, _⟩ := hvb.form
 replace hc1 := he4.obj hc1
 have e4 := e3.trans he4
 have hM4 := hM2.ext (he3.trans he4)
 refine Sr ?_
 intro w5 b20 hb20 he5 hc20
 replace hc1 := he5.obj hc1
 have e5 := e4.trans he5
 refine Sr ?_
 refine K.call (back_r _ _ Abs.exTiny [3] w5 (hM4.ext he5) hg (ho.ext e5) (byts1 (x := 3) hc20) (by simp) (by simp)) ?_
 rintro _ w6 ⟨⟨vs, rfl, hvs⟩, he6⟩
 rw [Abs.exTiny_back3] at hvs ⊢
 obtain ⟨os, cs', rfl, _⟩ := hvs.form
 replace hc1 := he6.obj hc1
 have e6 := e5.trans he6
 have hM6 := hM4.ext (he5.trans he6)
 replace hvb := hvb.ext Flat.ext (he5.trans he6)
 refine Sr ?_
 refine K.call (back_r _ _ Abs.exTiny [] w6 hM6 hg (ho.ext e6) SlR.nil (by simp) (by simp)) ?_
 rintro _ w7 ⟨⟨v7, rfl, hv7⟩, he7⟩
 rw [Abs.exTiny_back0] at hv7 ⊢
 obtain ⟨o7, c7, rfl, _⟩ := hv7.form
 replace hc1 := he7.obj hc1
 have e7 := e6.trans he7
 refine Sr ?_
 intro w8 b31 hb31 he8 hc31
 replace hc1 := he8.obj hc1
 have e8 := e7.trans he8
 have hM8 := hM6.ext (he7.trans he8)
 replace hvb := hvb.ext Flat.ext (he7.trans he8)
 replace hvs := hvs.ext Flat.ext (he7.trans he8)
 refine Sr ?_
 refine K.call (back_r _ _ Abs.exTiny [4] w8 hM8 hg (ho.ext e8) (byts1 (x := 4) hc31) (by simp) (by simp)) ?_
 rintro _ w9 ⟨⟨v9, rfl, hv9⟩, he9⟩
 rw [Abs.exTiny_back4] at hv9 ⊢
 obtain ⟨o9, c9, rfl, _⟩ := hv9.form
 replace hc1 := he9.obj hc1
 have e9 := e8.trans he9
 refine Sr ?_
 intro w10 b36 hb36 he10 hc36
 replace hc1 := he10.obj hc1
 have e10 := e9.trans he10
 have hM10 := hM8.ext (he9.trans he10)
 replace hvb := hvb.ext Flat.ext (he9.trans he10)
 replace hvs := hvs.ext Flat.ext (he9.trans he10)
 refine Sr ?_
 refine K.call (env_r _ _ Abs.exTiny [2, 0] 0 w10 hM10 hg (ho.ext e10) (nums2 hc36)) ?_
 rintro _ w11 ⟨⟨es, rfl, hE⟩, he11⟩
 rw [Abs.exTiny_env] at hE
 obtain ⟨u0, u1, u2, u3, rfl, q0, q1, q2, q3⟩ := hE.here.ex
 rw [Abs.exTiny_vars] at q0
 rw [Abs.exTiny_at] at q3
 obtain ⟨ou0, cu0, rfl, _⟩ := q0.form
 obtain ⟨_, _, rfl, _⟩ := q1.form
 obtain ⟨_, _, rfl, _⟩ := q2.form
 obtain ⟨ou3, cu3, rfl, _⟩ := q3.form
 replace hc1 := he11.obj hc1
 have e11 := e10.trans he11
 refine Sr ?_
 intro w12 b10 hb10 he12 hc10
 replace hc1 := he12.obj hc1
 have e12 := e11.trans he12
 have hM12 := hM10.ext (he11.trans he12)
 replace hvb := hvb.ext Flat.ext (he11.trans he12)
 replace hvs := hvs.ext Flat.ext (he11.trans he12)
 replace q0 := q0.ext NumsRow.ext he12
 replace q3 := q3.ext NumsRow.ext he12
 refine Sr ?_
 refine K.call (first_r _ Abs.exTiny w12 hM12 hg (ho.ext e12)) ?_
 rintro vf w13 ⟨⟨hF, _⟩, he13⟩
 replace hF := hF Abs.exTiny_ok
 rw [Abs.exTiny_first] at hF
 obtain ⟨of, cf, rfl, _⟩ := hF.form
 replace hc1 := he13.obj hc1
 replace hc10 := he13.obj hc10
 have e13 := e12.trans he13
 refine Sr ?_
 intro w14 b40 hb40 he14 hc40
 replace hc1 := he14.obj hc1
 replace hc10 := he14.obj hc10
 have e14 := e13.trans he14
 refine Sr ?_
 refine K.call (ints18_e _ _ [1, 0] w14 (hF.ext Flat.ext he14) (nums2 hc40)) ?_
 rintro _ w15 ⟨rfl, he15⟩
 replace hc1 := he15.obj hc1
 replace hc10 := he15.obj hc10
 have e15 := e14.trans he15
 refine Sr ?_
 intro w16 b44 hb44 he16 hc44
 replace hc1 := he16.obj hc1
 replace hc10 := he16.obj hc10
 have e16 := e15.trans he16
 have hM16 := hM12.ext (he13.trans (he14.trans (he15.trans he16)))
 refine Sr ?_
 refine K.call (stRight_r _ Abs.exTiny _ [3, 0] w16 hM16 hg (ho.ext e16) (nums2 hc44)) ?_
 rintro _ w17 ⟨⟨t, rfl, ht⟩, he17⟩
 obtain rfl := ht.2 ⟨Abs.exTiny_ok, Abs.exTiny_fits⟩
 replace hc1 := he17.obj hc1
 replace hc10 := he17.obj hc10
 have e17 := e16.trans he17
 refine Sr ?_
 intro w18 b49 hb49 he18 hc49
 replace hc10 := he18.obj hc10
 have e18 := e17.trans he18
 refine Sr ?_
 refine K.call (stRight_r _ Abs.exTiny _ [3, 1] w18 (hM16.ext (he17.trans he18)) hg (ho.ext e18) (nums2 hc49)) ?_
 rintro _ w19 ⟨⟨t, rfl, ht⟩, he19⟩
 obtain rfl : t = false := by cases t with | false => rfl | true => exact absurd (ht.1 rfl).2 Abs.exTiny_unfit
 replace hc10 := he19.obj hc10
 have e19 := e18.trans he19
 have e1219 : Ext w12 w19 := (he13.trans (he14.trans (he15.trans he16))).trans (he17.trans (he18.trans he19))
 refine Sr ?_
 refine K.b2s (e := T.l) (l := [2]) (by kernel_rfl) (by kernel_rfl) (by kernel_rfl) (by simp only [ev_tmp, uA]; rfl) (hvb.ext Flat.ext e1219) ?_
 refine Sr ?_
 refine K.condT rfl ?_
 refine Sr ?_
 intro w20 b68 hb68 he20 hc68
 replace hc10 := he20.obj hc10
 have e20 := e19.trans he20
 refine Sr ?_
 refine K.call (ints18_e _ _ [3, 0] w20 (hvs.ext Flat.ext (e1219.trans he20)) (nums2 hc68)) ?_
 rintro _ w21 ⟨rfl, he21⟩
 replace hc10 := he21.obj hc10
 have e21 := e20.trans he21
 refine Sr ?_
 intro w22 b82 hb82 he22 hc82
 refine Sr ?_
 intro w23 b83 hb83 he23 hc83
 replace hc10 := (he22.trans he23).obj hc10
 have e23 := e21.trans (he22.trans he23)
 have e1223 : Ext w12 w23 := (e1219.trans (he20.trans he21)).trans (he22.trans he23)
 refine Sr ?_
 refine K.call (lists18_e _ _ [[2]] w23 (q0.ext NumsRow.ext e1223) (numss1 hc83 (nums1 (he23.obj hc82)))) ?_
 rintro _ w24 ⟨rfl, he24⟩
 replace hc10 := he24.obj hc10
 refine Sr ?_
 intro w25 b89 hb89 he25 hc89
 refine Sr ?_
 intro w26 b90 hb90 he26 hc90
 have e2326 : Ext w23 w26 := he24.trans (he25.trans he26)
 refine Sr ?_
 refine K.call (lists18_e _ _ [[1]] w26 (q3.ext NumsRow.ext (e1223.trans e2326)) (numss1 hc90 (nums1 (he26.obj hc89)))) ?_
 rintro _ w27 ⟨rfl, he27⟩
 refine Sr ?_
 exact ⟨Tr, e23.trans (e2326.trans he27)⟩
end Go.Proofs.YtglnobabdcoknaaGreatDoor
end