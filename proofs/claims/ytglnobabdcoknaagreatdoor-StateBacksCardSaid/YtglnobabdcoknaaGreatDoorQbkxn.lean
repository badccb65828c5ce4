/- Texts joined: LiteU StaV StaX StaY StbA StbB StbC StbD ModL StbE StbF Open1 Open2 Open3 Open6. -/
import Derived.Test.YtglnobabdcoknaaGreatDoorQbkxc
import Derived.Test.YtglnobabdcoknaaGreatDoorQbkxd
import Derived.Test.YtglnobabdcoknaaGreatDoorQbkxf
import Derived.Test.YtglnobabdcoknaaGreatDoorQbkxg
import Derived.Test.YtglnobabdcoknaaGreatDoorQbkxm
import Derived.Lib.AppendZerosOnto
import Derived.SizedLaws
set_option linter.all false
set_option maxRecDepth 8000
set_option maxHeartbeats 32000000
section
namespace Lite
open Go Go.RowKit
theorem zc_byte (n : Nat) : Builtin.zeroCells (Value.int .u8 0).cells n = ((List.replicate n 0).flatMap encB).toArray := by
 rw [← bytC_flat]
 apply Array.ext_getElem?
 intro i
 by_cases h : i < n
 ·simp [Builtin.zeroCells, bytC, Value.cells, h, Nat.mod_one]
 ·simp [Builtin.zeroCells, bytC, Value.cells, h]
theorem flatB_len (l : List Nat) : (l.flatMap encB).length = l.length := by rw [← bytC_flat, bytC_len]
theorem flatB_one (l : List Nat) : ∀ u ∈ l.flatMap encB, u.oneCell' = true := fun u hu => by
 obtain ⟨y, _, hy⟩ := List.mem_flatMap.1 hu
 exact encB_one y u hy
section
variable {P : Program} {w : World} {t tn ty e : TypeId} {i : TypeInfo} {kq kn : IntKind}
theorem run_app_z (ht : P.underlying t = some (.slice e)) (htn : P.underlying tn = some (.int kn)) (hi : P.info? e = some i) (hz : i.zero = some (.int .u8 0)) (hs : i.size = 1) (hb : i.bytes = 1) (v : Value) (xs : List Nat) (base : Nat)
  (ho : OwR encB e 1 base w v xs) (m : Nat) (hm : xs.length + m ≤ 1000000) (hbase : base ≤ w.heap.size) :
  ∃ v' w', (Builtin.append_ #[t, tn] ty #[v, .int kq m]).run P w = .ok v' w' ∧ OwR encB e 1 base w' v' (xs ++ List.replicate m 0) ∧ w.grownBy w' v.ownBlock := by
 have hw : IntKind.i64.wrap (m : Int) = m := IntWalk.i64_in _ (by omega)
 have hneg : ¬ ((m : Int) < 0) := by omega
 have h48i : ¬ (281474976710656 < (m : Int) * (i.bytes : Int)) := by rw [hb]; omega
 by_cases h0 : m = 0
 ·subst h0
  rw [List.replicate_zero, List.append_nil]
  refine ⟨v, w, ?_, ho, ⟨rfl, rfl, rfl, Nat.le_refl _, fun _ _ _ => rfl⟩⟩
  rcases ho.2 with ⟨rfl, _⟩ | ⟨g, cap, cur, rfl, _, hg, hnc, _⟩
  ·simp [Builtin.append_, run_underlying ht, run_underlying htn, Go.sizeOf, typeInfo, hi, asInt, asIntOf, IntWalk.i64_in]
  ·simp [Builtin.append_, run_underlying ht, run_underlying htn, Go.sizeOf, typeInfo, hi, asInt, asIntOf, hnc, storeCells, IntWalk.i64_in]
 have grown : ∀ (old : Nat) (row : Option Nat),
   OwR encB e 1 base (w.drew.alloc (.cells ((xs.flatMap encB).toArray ++ Builtin.zeroCells (Value.int .u8 0).cells m ++ Builtin.zeroCells (Value.int .u8 0).cells (grownCap w (xs.length + m) old e - (xs.length + m))) e))
    (.slice (some ⟨w.heap.size, 0, none⟩) (xs.length + m) (grownCap w (xs.length + m) old e)) (xs ++ List.replicate m 0) ∧
   w.grownBy (w.drew.alloc (.cells ((xs.flatMap encB).toArray ++ Builtin.zeroCells (Value.int .u8 0).cells m ++ Builtin.zeroCells (Value.int .u8 0).cells (grownCap w (xs.length + m) old e - (xs.length + m))) e)) row := by
  intro old row
  have hge := grownCap_ge w (xs.length + m) old e
  have hcm : grownCap w (xs.length + m) old e ≤ maxLen := grownCap_le_maxLen w (xs.length + m) old e (by unfold maxLen; omega)
  have hl : (xs ++ List.replicate m 0).length = xs.length + m := by simp
  refine ⟨⟨by rw [flatB_len, Nat.mul_one], .inr ⟨w.heap.size, _, _, by rw [hl], hbase, Go.heap_alloc_new w.drew _, by rw [hl]; exact hge, hcm, ?_, ?_⟩⟩, ⟨rfl, rfl, rfl, by simp, fun k hk _ => Go.heap_alloc_old w.drew _ hk⟩⟩
  ·rw [zc_byte, zc_byte]
   simp only [Array.size_append, List.size_toArray, flatB_len, List.length_replicate]
   omega
  ·rw [zc_byte, zc_byte, hl, Nat.mul_one, List.flatMap_append]
   simp only [Array.toList_append]
   exact List.take_left' (by rw [List.length_append, flatB_len, flatB_len, List.length_replicate])
 rcases ho.2 with ⟨rfl, hx⟩ | ⟨g, cap, cur, rfl, hbg, hg, hnc, hcm, hcs, htake⟩
 ·have hx : xs = [] := List.eq_nil_of_length_eq_zero hx
  subst hx
  have hr := Lib.run_append_grow_zeros (P := P) w t tn ty e i (.int .u8 0) kq kn ht htn hi hz none 0 0 [] (by simp [Builtin.firstCells]) m (by omega) (by omega) (by omega) (by omega) (by rw [hb]; omega) (by rw [hb, Nat.zero_add]; exact growslice_fits (by omega) (by omega))
  have hgr := grown 0 (Value.ownBlock (.slice none 0 0))
  simp only [List.length_nil, Nat.zero_add, List.flatMap_nil] at hgr hr
  exact ⟨_, _, hr, by simpa using hgr.1, hgr.2⟩
 ·by_cases hroom : xs.length + m ≤ cap
  ·have hst := run_storeCells_at P g (xs.length * 1) e ((List.replicate m 0).flatMap encB) 0 cur w hg (by rw [flatB_len, List.length_replicate, hcs]; omega) (flatB_one _)
   have hns : ¬ (m * i.size = 0) := by rw [hs]; omega
   refine ⟨.slice (some ⟨g, 0, none⟩) (xs.length + m) cap, w.setRow g ((cur.toList.take (xs.length * 1) ++ (List.replicate m 0).flatMap encB ++ cur.toList.drop (xs.length * 1 + ((List.replicate m 0).flatMap encB).length)).toArray), ?_, ⟨by rw [flatB_len]; simp, .inr ⟨g, cap, _, by simp, hbg, setRow_heap w g cur _ e _ hg, by simpa using hroom, hcm, ?_, ?_⟩⟩, ⟨rfl, rfl, rfl, by simp, fun k _ hk => setRow_other w g k _ (fun e => hk (by simp [Value.ownBlock, e]))⟩⟩
   ·simp only [Nat.add_zero, Nat.mul_one] at hst
    simp [Builtin.append_, run_underlying ht, run_underlying htn, Go.sizeOf, typeInfo, zeroValue, hi, hz, asInt, asIntOf, hw, hneg, h48i, hns, h0, hroom, zc_byte, Addr.add_lit, hs, hst]
   ·simp only [List.size_toArray, List.length_append, List.length_take, List.length_drop, Array.length_toList, flatB_len, List.length_replicate]
    omega
   ·rw [htake, List.flatMap_append, List.length_append, List.length_replicate]
    exact List.take_left' (by rw [List.length_append, flatB_len, flatB_len, List.length_replicate]; omega)
  ·have hold : (Builtin.firstCells i.size xs.length (.slice (some ⟨g, 0, none⟩) xs.length cap)).run P w.drew = .ok (xs.flatMap encB).toArray w.drew :=
    run_firstCells_some (P := P) w.drew i.size xs.length ⟨g, 0, none⟩ xs.length cap _ (by rw [flatB_len, hs, Nat.mul_one]) (by simpa using World.ownsRow.cells ho (g := g) rfl)
   have hr := Lib.run_append_grow_zeros (P := P) w t tn ty e i (.int .u8 0) kq kn ht htn hi hz (some ⟨g, 0, none⟩) xs.length cap (xs.flatMap encB) hold m (by omega) (by omega) (by omega) (by omega) (by rw [hb]; omega) (by rw [hb]; exact growslice_fits (by omega) (by omega))
   have hgr := grown cap (Value.ownBlock (.slice (some ⟨g, 0, none⟩) xs.length cap))
   exact ⟨_, _, hr, hgr.1, hgr.2⟩
theorem K.appZ {S : Fr} {KK : Value → World → Prop} {x y : Operand} {s : Value} {xs : List Nat} {base : Nat} {tk} (m : Nat) (ht : P.underlying t = some (.slice e)) (htn : P.underlying tn = some (.int kn)) (hi : (P.info? e).map (fun i => (i.zero, i.size, i.bytes)) = some (some (.int .u8 0), 1, 1))
  (hx : ev S x = s) (hy : ev S y = .int kq (m : Int)) (ho : OwR encB e 1 base w s xs) (hm : xs.length + m ≤ 1000000) (hbase : base ≤ w.heap.size)
  (hk : ∀ v' w', OwR encB e 1 base w' v' (xs ++ List.replicate m 0) → w.grownBy w' s.ownBlock → KK v' w') : RawVCh P (.call ⟨.builtin .append, #[x, y], #[t, tn]⟩) ty S w KK tk := by
 obtain ⟨i, hi, h2⟩ := Option.map_eq_some_iff.1 hi
 simp only [Prod.mk.injEq] at h2
 obtain ⟨v', w', hr, h3, h4⟩ := run_app_z (P := P) (ty := ty) (kq := kq) ht htn hi h2.1 h2.2.1 h2.2.2 s xs base ho m hm hbase
 refine K.raw (v := v') (w' := w') ?_ (hk v' w' h3 h4)
 simp [execOp, resolve, invoke, builtin, hx, hy, hr]
end
end Lite
end
section
namespace Lite
open Go Go.RowKit
theorem flatB_set (l : List Nat) (k x : Nat) : (l.flatMap encB).set k (.int .u8 x) = (l.set k x).flatMap encB := by
 rw [← bytC_flat, ← bytC_flat]
 simp [bytC, List.map_set]
theorem K.stB {e : TypeId} {base : Nat} {w : World} {l : List Nat} {a : Addr} {n c k x : Nat} {KW : World → Prop} {t} (h : OwR encB e 1 base w (.slice (some a) n c) l) (hk : k < l.length)
  (hh : ∀ w1, Wr a.block w w1 → OwR encB e 1 base w1 (.slice (some a) n c) (l.set k x) → KW w1) : StVCh (.pointer (some (a.add (k * 1)))) (.int .u8 (x : Nat)) w KW t := by
 rcases h.2 with ⟨hn, h0⟩ | ⟨g, cap, cur, h1, h2, h3, h4, h5, h6, h7⟩
 ·cases hn
 ·injection h1 with e1 e2 e3
  injection e1 with e1
  subst e1 e3
  have hlt : k < cur.size := by omega
  have ea : Addr.add ⟨g, 0, none⟩ (k * 1) = ⟨g, k, none⟩ := by rw [add_eq, Nat.mul_one, Nat.zero_add]
  have hc : w.cell? (Addr.add ⟨g, 0, none⟩ (k * 1)) = some cur[k] := cell_blk h3 (by rw [Nat.mul_one]; exact Array.getElem?_eq_getElem hlt)
  rw [ea] at hc ⊢
  have h' : w.ownsRow base e 1 (.slice (some ⟨g, 0, none⟩) l.length c) l.length (l.flatMap encB) := by unfold OwR at h; rw [e2] at h; exact h
  have hs := World.ownsRow.stored h' k (.int .u8 (x : Nat))
  rw [flatB_set] at hs
  refine K.st hc (by simp [World.frozen?, h3]) (by simp [Value.oneCell']) (hh _ (Wr.setCell w ⟨g, k, none⟩ _) ?_)
  unfold OwR
  rw [List.length_set, e2]
  exact hs.1
theorem OwR.dropB {e : TypeId} {base : Nat} {w : World} {l : List Nat} {a : Addr} {n c k : Nat} (h : OwR encB e 1 base w (.slice (some a) n c) l) (hk : k < l.length) : w.cell? (a.add (k * 1)) = some (.int .u8 (l[k] : Nat)) := by
 have := (OwR.slr (enc := encB) (sz := 1) (fun _ => rfl) h).at k hk 0 (.int .u8 (l[k] : Nat)) rfl
 rwa [add_zero] at this
theorem OwR.blkB {e : TypeId} {base : Nat} {w : World} {l : List Nat} {a : Addr} {n c : Nat} (h : OwR encB e 1 base w (.slice (some a) n c) l) : base ≤ a.block ∧ a.block < w.heap.size := OwR.lt h a.block rfl
end Lite
namespace Abs
open Go
theorem numFrom_take {cs : List Cell} {s : List Int} {k : Nat} (h1 : k < cs.length) (h2 : k < s.length) : numFrom (cs.take (k + 1)) (s.take (k + 1)) 0 = numFrom (cs.take k) (s.take k) 0 * cs[k].base + (s[k] - cs[k].lo).toNat := by
 rw [List.take_succ_eq_append_getElem h1, List.take_succ_eq_append_getElem h2, numFrom_app _ _ _ _ _ (by simp; omega)]
 rfl
theorem inR_get : ∀ {cs : List Cell} {s : List Int}, InR cs s → ∀ k (h1 : k < cs.length) (h2 : k < s.length), cs[k].lo ≤ s[k] ∧ s[k] ≤ cs[k].hi
 | _ :: _, _ :: _, h, 0, _, _ => h.1
 | _ :: _, _ :: _, h, k + 1, h1, h2 => inR_get h.2 k (by simpa using h1) (by simpa using h2)
 | [], _, _, k, h1, _ => by simp at h1
 | _ :: _, [], h, _, _, _ => h.elim
theorem mulAdd_at {m : Model} (hM : MayBe m) {s : List Int} {k : Nat} (h1 : k < (layCells m).length) (h2 : k < s.length) : mulAdd (dig (numFrom ((layCells m).take k) (s.take k) 0)) (layCells m)[k].base (s[k] - (layCells m)[k].lo).toNat = dig (numFrom ((layCells m).take (k + 1)) (s.take (k + 1)) 0) := by
 rw [mulAdd_dig (base_le hM _ (List.getElem_mem h1)).1, ← numFrom_take h1 h2]
theorem numFrom_lt {cs : List Cell} (h : ∀ x ∈ cs, x.base ≤ 2097153) : ∀ {s : List Int} (_ : InR cs s) (n j : Nat), n < 2097153 ^ j → numFrom cs s n < 2097153 ^ (j + cs.length) := by
 induction cs with
 | nil => intro s hs n j hn; cases s with | nil => simpa [numFrom] using hn | cons _ _ => exact hs.elim
 | cons x r ih =>
  intro s hs n j hn
  cases s with
  | nil => exact hs.elim
  | cons v s =>
   have h1 := h x (by simp)
   have := ih (fun y hy => h y (by simp [hy])) hs.2 (n * (x.hi - x.lo + 1).toNat + (v - x.lo).toNat) (j + 1) (by
    have h2 := hs.1
    have h3 : (v - x.lo).toNat < (x.hi - x.lo + 1).toNat := by omega
    unfold Cell.base at h1
    have h4 : n * (x.hi - x.lo + 1).toNat + (v - x.lo).toNat < (n + 1) * (x.hi - x.lo + 1).toNat := by rw [Nat.add_mul]; omega
    have h5 : (n + 1) * (x.hi - x.lo + 1).toNat ≤ 2097153 ^ j * 2097153 := Nat.mul_le_mul hn h1
    rw [Nat.pow_succ]
    omega)
   rw [List.length_cons]
   simp only [numFrom]
   rw [show j + (r.length + 1) = j + 1 + r.length from by omega]
   exact this
theorem dig_few {m : Model} (hM : MayBe m) {s : List Int} (hs : InR (layCells m) s) (k : Nat) : (dig (numFrom ((layCells m).take k) (s.take k) 0)).length ≤ 192 := by
 have h64 : (layCells m).length ≤ 64 := layCells_le64 hM
 have hin : InR ((layCells m).take k) (s.take k) := by
  have key : ∀ (cs : List Cell) (s : List Int) (k : Nat), InR cs s → InR (cs.take k) (s.take k) := by
   intro cs
   induction cs with
   | nil => intro s k h; cases s with | nil => simpa using h | cons _ _ => exact h.elim
   | cons x r ih =>
    intro s k h
    cases s with
    | nil => exact h.elim
    | cons v s =>
     cases k with
     | zero => exact trivial
     | succ k => exact ⟨h.1, ih s k h.2⟩
  exact key _ _ _ hs
 have h1 := numFrom_lt (cs := (layCells m).take k) (fun x hx => (base_le hM x (List.mem_of_mem_take hx)).2) hin 0 0 (by simp)
 refine dig_len_le (Nat.lt_of_lt_of_le h1 ?_)
 have h2 : 2097153 ^ (0 + ((layCells m).take k).length) ≤ (256 ^ 3) ^ (0 + ((layCells m).take k).length) := Nat.pow_le_pow_left (by decide) _
 rw [← Nat.pow_mul] at h2
 refine Nat.le_trans h2 (Nat.pow_le_pow_right (by decide) ?_)
 have : ((layCells m).take k).length ≤ (layCells m).length := by rw [List.length_take]; omega
 omega
theorem mulAdd_len {l : List Nat} {b c : Nat} {pre : List Nat} {d : Nat} (h : pre ++ dig d = mulAdd l b c) : pre.length ≤ (mulAdd l b c).length := by
 rw [← h, List.length_append]; omega
end Abs
namespace Go.Proofs.YtglnobabdcoknaaGreatDoor
open Go Go.RowKit Lite
theorem base_r (b i : Nat) (m : Abs.Model) (w : World) (hr : ReaderAt w b m) (hM : Abs.MayBe m) (hi : i < (Abs.layCells m).length) :
  Ret Tryz.prog F.p_state_reader_base #[.pointer (some ⟨b, 0, none⟩), .int .i64 i] w fun u w' => u = .int .i64 ((Abs.layCells m)[i].base : Nat) ∧ Ext w w' := by
 obtain ⟨o0, c0, o1, c1, o2, c2, o3, c3, o4, c4, p0, d0, p1, d1, p2, d2, p3, d3, p4, d4, oi, ci, hb, r0, r1, r2, r3, r4, h0, h1, h2, h3, hI⟩ := hr.form
 have f2 := Abs.layout_lo_len m
 have f3 := Abs.layout_hi_len m
 have l3 : (Abs.layout m).lo[i]'(by omega) = (Abs.layCells m)[i].lo := Abs.layout_lo_get _ hi
 have l4 : (Abs.layout m).hi[i]'(by omega) = (Abs.layCells m)[i].hi := Abs.layout_hi_get _ hi
 have hbd := Abs.cell_bd hM _ (List.getElem_mem hi)
 unfold Abs.BdOk at hbd
 obtain ⟨a3, rfl⟩ := r3.addr (by omega)
 obtain ⟨a4, rfl⟩ := r4.addr (by omega)
 clear h0 h1 h2 h3 hI r0 r1 r2
 refine Ks E.p_state_reader_base ?_; dsimp only [C.p_state_reader_base]; refine Yy ?_
 refine Sr ?_
 intro w1 he1
 refine ⟨?_, he1⟩
 rw [l3, l4]
 unfold Abs.Cell.base
 congr 1
 omega
theorem digits_r (b : Nat) (v : Value) (s : List Int) (m : Abs.Model) (w : World) (hr : ReaderAt w b m) (hM : Abs.MayBe m) (hs : Nums w v s) (hin : Abs.InR (Abs.layCells m) s) :
  Ret Tryz.prog F.p_state_reader_digits #[.pointer (some ⟨b, 0, none⟩), v] w fun u w' => OwR encB T.uint8 1 w.heap.size w' u (Abs.dig (Abs.num m s)) ∧ Ext w w' := by
 obtain ⟨o0, c0, o1, c1, o2, c2, o3, c3, o4, c4, p0, d0, p1, d1, p2, d2, p3, d3, p4, d4, oi, ci, hb, r0, r1, r2, r3, r4, h0, h1, h2, h3, hI⟩ := hr.form
 obtain ⟨ov, cv, rfl, lv⟩ := hs.form
 have hlen : (Abs.layCells m).length = s.length := Abs.inR_len hin
 have f2 := Abs.layout_lo_len m
 have h64 : (Abs.layCells m).length ≤ 64 := Abs.layCells_le64 hM
 clear h0 h1 h2 h3 hI r0 r1 r2 r4
 refine Ks E.p_state_reader_digits ?_; dsimp only [C.p_state_reader_digits]; refine Yy ?_
 refine Sr ?_
 refine K.forG 13 s.length [0, 1, 4, 11, 12] (fun v : SlP => [(5, .slice v.1 v.2.1 v.2.2)]) (none, 0, 0) (fun k v W => Ext w W ∧ OwR encB T.uint8 1 w.heap.size W (.slice v.1 v.2.1 v.2.2) (Abs.dig (Abs.numFrom ((Abs.layCells m).take k) (s.take k) 0))) hZq hZq ⟨Ext.refl _, by simpa [Abs.numFrom, Abs.dig_zero] using OwR.nil encB T.uint8 1 w.heap.size w⟩ ?_
 rintro k ⟨oa, n, c⟩ S w1 hk ⟨he1, ho1⟩
 refine Sr ?_
 apply K.cond <;> intro g1
 rotate_left
 ·have hks : k = s.length := by omega
  rw [hks, List.take_of_length_le (by omega), List.take_of_length_le (Nat.le_refl _)] at ho1
  refine Sr ?_
  exact ⟨ho1, he1⟩
 have hk2 : k < s.length := by omega
 have hk3 : k < (Abs.layCells m).length := by omega
 have l3 : (Abs.layout m).lo[k]'(by omega) = (Abs.layCells m)[k].lo := Abs.layout_lo_get _ hk3
 have hbd := Abs.cell_bd hM _ (List.getElem_mem hk3)
 have hbase := Abs.base_le hM _ (List.getElem_mem hk3)
 have hget := Abs.inR_get hin k hk3 hk2
 unfold Abs.BdOk at hbd
 obtain ⟨av, rfl⟩ := hs.addr (by omega)
 obtain ⟨a3, rfl⟩ := r3.addr (by omega)
 obtain ⟨lo, hlo⟩ : ∃ lo, lo = (Abs.layCells m)[k].lo := ⟨_, rfl⟩
 obtain ⟨x, hx⟩ : ∃ x, x = s[k] := ⟨_, rfl⟩
 rw [← hlo] at l3
 obtain ⟨cy, hcy⟩ : ∃ cy : Nat, cy = (x - lo).toNat := ⟨_, rfl⟩
 obtain ⟨B, hB⟩ : ∃ B : Nat, B = (Abs.layCells m)[k].base := ⟨_, rfl⟩
 have hcB : cy < B := by unfold Abs.Cell.base at hB; omega
 have hmul := Abs.mulAdd_at hM hk3 hk2
 have hfew := Abs.dig_few hM hin k
 have hfew2 := Abs.dig_few hM hin (k + 1)
 rw [← hmul, ← hlo, ← hx, ← hcy, ← hB] at hfew2
 rw [← hlo, ← hx, ← hcy, ← hB] at hmul
 obtain ⟨l, hl⟩ : ∃ l, l = Abs.dig (Abs.numFrom ((Abs.layCells m).take k) (s.take k) 0) := ⟨_, rfl⟩
 have hdl : ∀ d ∈ l, d < 256 := by rw [hl]; exact Abs.dig_lt _
 rw [← hl] at ho1 hmul hfew hfew2
 rw [← hlo, ← hx] at hget
 rw [← hB] at hbase
 refine Sr ?_
 refine K.wu64 cy (by omega) (by omega) ?_
 refine Sr ?_
 refine K.qfn (.int .i64 ((Abs.layCells m)[k].base : Nat)) (fun w' e => base_r b k m w' (hr.ext (he1.trans e)) hM hk3) ?_
 rw [← hB]
 refine Sr ?_
 refine K.wu64 B rfl (by omega) ?_
 refine Sr ?_
 intro w2 he2
 have e2 := he1.trans he2
 have ho2 := ho1.ext he2
 have hn : n = l.length := by obtain ⟨_, _, e, _⟩ := ho1.form; injection e
 subst hn
 clear ho1 hs hr
 refine Sr ?_
 refine K.forG 35 l.length [0, 1, 4, 5, 9, 11, 12, 13, 33, 34] (fun x : Nat => [(8, .int .u64 (x : Int))]) cy (fun j x W => x = Abs.carryAt l B cy j ∧ Ext w W ∧ OwR encB T.uint8 1 w.heap.size W (.slice oa l.length c) (Abs.doneAt l B cy j)) hZq hZq ⟨(Abs.carryAt_zero _ _ _).symm, e2, by rw [Abs.doneAt_zero]; exact ho2⟩ ?_
 clear ho2
 rintro j x3 S w3 hj ⟨hx3, e3, ho3⟩
 have hx3B : x3 < B := by rw [hx3]; exact Abs.carryAt_le hbase.1 l B cy j hdl (Nat.le_refl _) hcB
 refine Sr ?_
 apply K.cond <;> intro g2
 ·have hj2 : j < l.length := by omega
  obtain ⟨oa', cap, e, hcap1, hcap2⟩ := ho3.form
  have hsl := ownsRow_form ho3
  obtain ⟨a, rfl⟩ : ∃ a, oa = some a := by
   obtain ⟨oa2, cap2, e2, _, _, h5, _⟩ := hsl
   injection e2 with e2 _ _
   subst e2
   exact Option.isSome_iff_exists.1 (h5 (by rw [Abs.doneAt_len]; omega))
  have hdj := OwR.dropB ho3 (k := j) (by rw [Abs.doneAt_len]; exact hj2)
  have hge : (Abs.doneAt l B cy j)[j]'(by rw [Abs.doneAt_len]; exact hj2) = l[j] := by
   have := Abs.doneAt_get l B cy j j (Nat.le_refl _)
   rw [List.getElem?_eq_getElem (by rw [Abs.doneAt_len]; exact hj2), List.getElem?_eq_getElem hj2] at this
   exact Option.some.inj this
  rw [hge] at hdj
  have hlj := hdl _ (List.getElem_mem hj2)
  have hm1 : l[j] * B ≤ 255 * 2097153 := Nat.mul_le_mul (by omega) hbase.2
  clear hsl
  refine Sr ?_
  refine K.ld hdj ?_
  refine Sr ?_
  refine K.wu64 l[j] rfl (by omega) ?_
  refine Sr ?_
  refine K.wu64 (l[j] * B) (by rw [Int.natCast_mul]) (by omega) ?_
  refine Sr ?_
  refine K.wu64 (x3 + l[j] * B) (by rw [Int.natCast_add]) (by omega) ?_
  refine Sr ?_
  refine K.wu8 (x3 + l[j] * B) rfl ?_
  refine Sr ?_
  refine K.stB ho3 (by rw [Abs.doneAt_len]; exact hj2) fun w4 hw4 ho4 => ?_
  refine Sr ?_
  refine K.shr8 ?_
  refine Sr ?_
  refine ⟨hj2, Tr, (x3 + l[j] * B) / 256, hZq, ?_, hw4.ext e3 (by have := ho3.blkB; omega), ?_⟩
  ·rw [Abs.carryAt_succ l B cy j hj2, ← hx3]
  ·rw [Abs.doneAt_succ l B cy j hj2, ← hx3]; exact ho4
 have hjl : j = l.length := by omega
 subst hjl
 have hpre : Abs.doneAt l B cy l.length ++ Abs.dig x3 = Abs.mulAdd l B cy := by rw [hx3]; exact Abs.mulAdd_done l B cy
 have hdl3 := Abs.doneAt_len l B cy l.length
 refine Sr ?_
 refine K.whG [0, 1, 4, 11, 12, 13] (fun y : SlP × Nat => [(5, .slice y.1.1 y.1.2.1 y.1.2.2), (8, .int .u64 (y.2 : Int))]) ((oa, l.length, c), x3) (fun y W => Ext w W ∧ y.2 < B ∧ ∃ pre, OwR encB T.uint8 1 w.heap.size W (.slice y.1.1 y.1.2.1 y.1.2.2) pre ∧ pre ++ Abs.dig y.2 = Abs.mulAdd l B cy) (fun y => y.2) hZq ⟨e3, hx3B, _, ho3, hpre⟩ ?_
 clear ho3 hpre
 rintro ⟨⟨oa4, n4, c4⟩, x4⟩ S w4 ⟨e4, hx4, pre, ho4, hpre⟩
 refine Sr ?_
 apply K.cond <;> intro g3
 ·have hx0 : x4 ≠ 0 := by intro e; subst e; exact absurd g3 (by decide)
  have hpl := Abs.mulAdd_len hpre
  refine Sr ?_
  refine K.wu8 x4 rfl ?_
  refine Sr ?_
  intro w5 b5 hb5 he5 hc5
  refine Sr ?_
  refine K.app1 (y := x4 % 256) (ho4.ext he5) hc5 rfl (fun _ => rfl) encB_one (by omega) (by unfold maxLen; omega) (Nat.le_trans e4.size he5.size) fun oa6 n6 c6 w6 ho6 hg6 => ?_
  refine Sr ?_
  refine K.shr8 ?_
  refine Sr ?_
  refine ⟨((oa6, n6, c6), x4 / 256), hZq, ⟨(e4.trans he5).grown hg6 fun q hq => (ho4.lt q hq).1, by simp only; omega, _, ho6, ?_⟩, by simp only; omega⟩
  rw [← hpre, Abs.dig_pos hx0, List.append_assoc]
  rfl
 ·have hx0 : x4 = 0 := by have : ¬ (0 : Int) < (x4 : Int) := g3; omega
  subst hx0
  rw [Abs.dig_zero, List.append_nil] at hpre
  rw [hpre, hmul] at ho4
  refine Sr ?_
  exact ⟨hk2, Tr, (oa4, n4, c4), hZq, e4, ho4⟩
end Go.Proofs.YtglnobabdcoknaaGreatDoor
end
section
namespace Lite
open Go Go.RowKit
theorem OwR.someB {e : TypeId} {base : Nat} {w : World} {l : List Nat} {oa : Option Addr} {n c : Nat} (h : OwR encB e 1 base w (.slice oa n c) l) (hl : 0 < l.length) : ∃ a, oa = some a := by
 obtain ⟨oa2, cap2, e2, _, _, h5, _⟩ := ownsRow_form h
 injection e2 with e2 _ _
 subst e2
 exact Option.isSome_iff_exists.1 (h5 (by omega))
theorem OwR.lenB {e : TypeId} {base : Nat} {w : World} {l : List Nat} {oa : Option Addr} {n c : Nat} (h : OwR encB e 1 base w (.slice oa n c) l) : n = l.length := by
 obtain ⟨_, _, e, _⟩ := h.form
 injection e
def revAt (l : List Nat) (i : Nat) : List Nat := (List.range l.length).map fun j => if j < i ∨ l.length - i ≤ j then l.reverse[j]! else l[j]!
theorem revAt_len (l : List Nat) (i : Nat) : (revAt l i).length = l.length := by simp [revAt]
theorem revAt_get {l : List Nat} {i j : Nat} (h : j < l.length) : (revAt l i)[j]? = some (if j < i ∨ l.length - i ≤ j then l[l.length - 1 - j]'(by omega) else l[j]) := by
 have hr : l.reverse[j]! = l[l.length - 1 - j]'(by omega) := by
  rw [getElem!_pos _ _ (by simpa using h), List.getElem_reverse]
 simp only [revAt, List.getElem?_map, List.getElem?_range h, Option.map_some, hr, getElem!_pos l j h]
theorem revAt_zero (l : List Nat) : revAt l 0 = l := by
 apply List.ext_getElem?
 intro j
 by_cases h : j < l.length
 ·rw [revAt_get h, if_neg (by omega), List.getElem?_eq_getElem h]
 ·rw [List.getElem?_eq_none (by rw [revAt_len]; omega), List.getElem?_eq_none (by omega)]
theorem revAt_end {l : List Nat} {i : Nat} (hi : l.length ≤ 2 * i + 1) : revAt l i = l.reverse := by
 apply List.ext_getElem?
 intro j
 by_cases h : j < l.length
 ·rw [revAt_get h, List.getElem?_reverse h]
  split
  ·rw [List.getElem?_eq_getElem]
  ·rw [List.getElem?_eq_getElem (by omega)]
   congr 2
   omega
 ·rw [List.getElem?_eq_none (by rw [revAt_len]; omega), List.getElem?_eq_none (by simp; omega)]
theorem revAt_succ {l : List Nat} {i : Nat} (hi : 2 * i + 1 < l.length) : ((revAt l i).set i (l[l.length - 1 - i]'(by omega))).set (l.length - 1 - i) (l[i]'(by omega)) = revAt l (i + 1) := by
 apply List.ext_getElem?
 intro j
 by_cases h : j < l.length
 ·rw [revAt_get h, List.getElem?_set, List.getElem?_set, List.length_set, revAt_len, revAt_get h]
  by_cases h1 : l.length - 1 - i = j
  ·rw [if_pos h1, if_pos (by omega), if_pos (by omega)]
   congr 2
   omega
  ·rw [if_neg h1]
   by_cases h2 : i = j
   ·subst h2
    rw [if_pos rfl, if_pos (by omega), if_pos (by omega)]
   ·rw [if_neg h2]
    by_cases h3 : j < i ∨ l.length - i ≤ j
    ·rw [if_pos h3, if_pos (by omega)]
    ·rw [if_neg h3, if_neg (by omega)]
 ·rw [List.getElem?_eq_none (by rw [List.length_set, List.length_set, revAt_len]; omega), List.getElem?_eq_none (by rw [revAt_len]; omega)]
end Lite
namespace Go.Proofs.YtglnobabdcoknaaGreatDoor
open Go Go.RowKit Lite
theorem reverse_r {e : TypeId} {base : Nat} (v : Value) (l : List Nat) (w : World) (h : OwR encB e 1 base w v l) :
  Ret Tryz.prog F.slices_Reverse_sl_byte_byte #[v] w fun _ w' => OwR encB e 1 base w' v l.reverse ∧ Mod (fun k => v.ownBlock = some k) w w' := by
 obtain ⟨oa, cap, rfl, hc, hcm⟩ := h.form
 unfold maxLen at hcm
 refine Ks E.slices_Reverse_sl_byte_byte ?_; dsimp only [C.slices_Reverse_sl_byte_byte]; refine Yy ?_
 refine Sr ?_
 refine K.whG [0] (fun y : Int × Int => [(2, .int .i64 y.1), (3, .int .i64 y.2)]) (0, (l.length : Int) - 1) (fun y W => ∃ i : Nat, y.1 = i ∧ y.2 = (l.length : Int) - 1 - i ∧ OwR encB e 1 base W (.slice oa l.length cap) (revAt l i) ∧ Mod (fun k => (Value.slice oa l.length cap).ownBlock = some k) w W) (fun y => (y.2 - y.1).toNat) hZq ⟨0, by simp, by simp, by rw [revAt_zero]; exact h, Mod.refl _ _⟩ ?_
 rintro ⟨i, j⟩ S w1 ⟨n, hi, hj, ho1, hm1⟩
 simp only at hi hj
 refine Sr ?_
 apply K.cond <;> intro g1
 ·have hn : 2 * n + 1 < l.length := by omega
  have hrl := revAt_len l n
  obtain ⟨a, rfl⟩ := ho1.someB (by omega)
  subst hi hj
  have hd1 := OwR.dropB ho1 (k := n) (by omega)
  have hd2 := OwR.dropB ho1 (k := l.length - 1 - n) (by omega)
  have g1' := revAt_get (l := l) (i := n) (j := n) (by omega)
  have g2' := revAt_get (l := l) (i := n) (j := l.length - 1 - n) (by omega)
  rw [if_neg (by omega)] at g1' g2'
  obtain ⟨_, g1'⟩ := List.getElem?_eq_some_iff.1 g1'
  obtain ⟨_, g2'⟩ := List.getElem?_eq_some_iff.1 g2'
  rw [g1'] at hd1
  rw [g2'] at hd2
  refine Sr ?_
  intro w2 he2
  refine K.ian (l.length - 1 - n) (by omega) (by omega) ?_
  refine Sr ?_
  refine K.ld (he2.cell hd2) ?_
  refine Sr ?_
  refine K.ld (he2.cell hd1) ?_
  refine Sr ?_
  refine K.stB (ho1.ext he2) (by omega) fun w3 hw3 ho3 => ?_
  refine Sr ?_
  refine K.ian (l.length - 1 - n) (by omega) (by omega) ?_
  refine Sr ?_
  refine K.stB ho3 (by rw [List.length_set]; omega) fun w4 hw4 ho4 => ?_
  rw [revAt_succ hn] at ho4
  refine Sr ?_
  exact ⟨((n : Int) + 1, (l.length : Int) - 1 - n - 1), hZq, ⟨n + 1, by simp, by simp; omega, ho4, ((hm1.trans he2.mod).trans (hw3.mod rfl)).trans (hw4.mod rfl)⟩, by simp only; omega⟩
 ·refine Sr ?_
  rw [revAt_end (by omega)] at ho1
  exact ⟨ho1, hm1⟩
end Go.Proofs.YtglnobabdcoknaaGreatDoor
namespace Abs
theorem inR_hi : ∀ {cs : List Cell}, (∀ x ∈ cs, x.lo ≤ x.hi) → InR cs (cs.map (·.hi))
 | [], _ => trivial
 | x :: r, h => ⟨⟨h x (by simp), Int.le_refl _⟩, inR_hi fun y hy => h y (by simp [hy])⟩
theorem bytes_few {m : Model} (hM : MayBe m) : byteN m ≤ 192 := by
 have := dig_few hM (inR_hi (layCells_le hM)) (layCells m).length
 rw [List.take_of_length_le (Nat.le_refl _), List.take_of_length_le (by simp)] at this
 exact this
end Abs
namespace Go.Proofs.YtglnobabdcoknaaGreatDoor
open Go Go.RowKit Lite
theorem stsize_r (b : Nat) (m : Abs.Model) (w : World) (hr : ReaderAt w b m) (hM : Abs.MayBe m) :
  Ret Tryz.prog F.p_state_reader_size #[.pointer (some ⟨b, 0, none⟩)] w fun u w' => u = .int .i64 (Abs.byteN m : Nat) ∧ Ext w w' := by
 obtain ⟨o0, c0, o1, c1, o2, c2, o3, c3, o4, c4, p0, d0, p1, d1, p2, d2, p3, d3, p4, d4, oi, ci, hb, r0, r1, r2, r3, r4, h0, h1, h2, h3, hI⟩ := hr.form
 clear h0 h1 h2 h3 hI r0 r1 r2 r3
 refine Ks E.p_state_reader_size ?_; dsimp only [C.p_state_reader_size]; refine Yy ?_
 refine Sr ?_
 refine K.call (digits_r b _ (Abs.layout m).hi m w hr hM r4 (Abs.inR_hi (Abs.layCells_le hM))) ?_
 rintro _ w1 ⟨ho1, he1⟩
 obtain ⟨oa, cap, rfl, _⟩ := ho1.form
 refine Sr ?_
 exact ⟨Tr, he1⟩
theorem bytes_r (cs : List Value) (v : Value) (m : Abs.Model) (s : List Int) (w : World) (h : Abs.ModelIs w cs m) (hg : m.good) (ho : OwnIs w) (hs : Nums w v s) :
  Ret Tryz.prog F.state_Bytes #[.agg cs.toArray, v] w fun u w' => (∃ v', u = .tuple #[v', .int .i64 (Abs.bytesRes m s).2] ∧ Byts w' v' (Abs.bytesRes m s).1) ∧ Ext w w' := by
 have hMI := h
 obtain ⟨o0, c0, o1, c1, o2, c2, o3, c3, o4, c4, rfl, _⟩ := h.form
 obtain ⟨ov, cv, rfl, lv⟩ := hs.form
 refine Ks E.state_Bytes ?_; dsimp only [C.state_Bytes]; refine Yy ?_
 refine Sr ?_
 intro w1 b1 hb1 he1 hc1
 refine Sr ?_
 refine K.call (read_r _ m w1 (hMI.ext he1) hg (ho.ext he1)) ?_
 rintro _ w2 ⟨hr, he2⟩
 have e2 := he1.trans he2
 rcases hr with ⟨rfl, hk⟩ | ⟨b, rfl, hk, hr⟩
 ·have hn : Abs.bytesRes m s = ([], 2) := by unfold Abs.bytesRes; rw [if_pos hk]
  refine Sr ?_
  refine K.ptrEq0 (by kernel_rfl) ?_
  refine Sr ?_
  rw [hn]
  exact ⟨⟨_, rfl, SlR.nil⟩, e2⟩
 have hM := Abs.maybe_of hk
 refine Sr ?_
 refine K.ptrEq1 (by kernel_rfl) ?_
 refine Sr ?_
 refine K.call (right_r b _ s m w2 hr hM (hs.ext Flat.ext e2)) ?_
 rintro _ w3 ⟨⟨t, rfl, ht⟩, he3⟩
 have e3 := e2.trans he3
 cases t with
 | false =>
  have hn : Abs.bytesRes m s = ([], 3) := by
   unfold Abs.bytesRes
   rw [if_neg (not_not_intro hk), if_neg]
   intro h; have := ht.2 h; cases this
  refine Sr ?_
  rw [hn]
  exact ⟨⟨_, rfl, SlR.nil⟩, e3⟩
 | true =>
  have hf := ht.1 rfl
  have hn := Abs.bytesRes_of hk hf
  have hfew := Abs.bytes_few hM
  have hle := Abs.num_le hM hf.inR
  refine Sr ?_
  refine K.call (digits_r b _ s m w3 (hr.ext he3) hM (hs.ext Flat.ext e3) hf.inR) ?_
  rintro _ w4 ⟨ho4, he4⟩
  obtain ⟨oa, cap, rfl, _⟩ := ho4.form
  have e4 := e3.trans he4
  refine Sr ?_
  refine K.call (stsize_r b m w4 ((hr.ext he3).ext he4) hM) ?_
  rintro _ w5 ⟨rfl, he5⟩
  have e5 := e4.trans he5
  have ho5 := ho4.ext he5
  refine Sr ?_
  refine K.appZ (kq := .i64) (kn := .i64) (Abs.byteN m - (Abs.dig (Abs.num m s)).length) (by kernel_rfl) (by kernel_rfl) (by kernel_rfl) (by simp only [ev_tmp, upd_at]; rfl) (by simp [ev_tmp, upd_at]; omega) ho5 (by omega) (by have := he4.size; have := he5.size; omega) fun v' w6 ho6 hg6 => ?_
  have e6 : Ext w w6 := e5.grown hg6 fun k q => by have := (ho5.lt k q).1; have := e3.size; omega
  rw [show Abs.dig (Abs.num m s) ++ List.replicate (Abs.byteN m - (Abs.dig (Abs.num m s)).length) 0 = Abs.fixed (Abs.byteN m) (Abs.num m s) from rfl] at ho6
  obtain ⟨oa6, cap6, rfl, _⟩ := ho6.form
  refine Sr ?_
  refine K.call (reverse_r _ _ w6 ho6) ?_
  rintro u w7 ⟨ho7, hm7⟩
  have e7 : Ext w w7 := hm7.ext e6 fun k hk a => by have := (ho6.lt k a).1; have := e3.size; omega
  refine Sr ?_
  rw [hn]
  exact ⟨⟨_, rfl, OwR.slr (fun _ => rfl) ho7⟩, e7⟩
end Go.Proofs.YtglnobabdcoknaaGreatDoor
end
section
namespace Lite
open Go Go.RowKit
theorem K.appM {α : Type} {P : Program} {KK : Value → World → Prop} {enc : α → List Value} {e : TypeId} {sz base : Nat} {w : World} {s x : Value} {xs ys : List α} {R : World → Addr → α → Prop} [Cel R enc] {ty : TypeId} {b : Nat} {t} (hs : OwR enc e sz base w s xs) (hx : SlR sz R w x ys) (hsz : ∀ x, (enc x).length = sz) (h1 : ∀ y, ∀ u ∈ enc y, u.oneCell' = true)
  (hb : (xs.length + ys.length) * b ≤ 140737488355328) (h63 : xs.length + ys.length ≤ maxLen) (hbase : base ≤ w.heap.size) (hk : ∀ v' w', OwR enc e sz base w' v' (xs ++ ys) → w.grownBy w' s.ownBlock → KK v' w') : AppVCh P ty e sz b s x w KK t := by
 obtain ⟨oa, cap, rfl, h1', h2, h3, h4⟩ := hx.ex
 cases oa with
 | some a => exact K.appE hs ⟨some a, cap, rfl, h1', h2, h3, h4⟩ hsz h1 hb h63 hbase hk
 | none =>
  have : ys = [] := Classical.byContradiction fun hn => by have := h3 hn; cases this
  subst this
  rw [List.append_nil] at hk
  refine K.app fun ⟨ht, i, z, hi, hz, hsize, hby, hzs, hsz'⟩ => ?_
  refine ⟨ty, s, w, ?_, hk s w hs ⟨rfl, rfl, rfl, Nat.le_refl _, fun _ _ _ => rfl⟩⟩
  rcases hs.2 with ⟨rfl, h0⟩ | ⟨g, cap, cur, rfl, _, _, hnc, _⟩
  ·simp [Builtin.append_, run_underlying ht, Go.sizeOf, typeInfo, hi, Builtin.lenOf, Builtin.firstCells]
  ·simp [Builtin.append_, run_underlying ht, Go.sizeOf, typeInfo, hi, Builtin.lenOf, Builtin.firstCells, hnc, storeCells]
theorem rev_set {L : List Nat} {k x : Nat} (h : k < L.length) : L.reverse.set (L.length - 1 - k) x = (L.set k x).reverse := by
 apply List.ext_getElem?
 intro j
 by_cases hj : j < L.length
 ·rw [List.getElem?_set, List.getElem?_reverse (l := L) hj, List.getElem?_reverse (l := L.set k x) (by simpa using hj), List.length_set, List.getElem?_set, List.length_reverse]
  by_cases e : L.length - 1 - k = j
  ·rw [if_pos e, if_pos (by omega), if_pos (by omega), if_pos (by omega)]
  ·rw [if_neg e, if_neg (by omega)]
 ·rw [List.getElem?_eq_none (by simp; omega), List.getElem?_eq_none (by simp; omega)]
end Lite
namespace Go.Proofs.YtglnobabdcoknaaGreatDoor
open Go Go.RowKit Lite
theorem scale_r (v : Value) (l : List Nat) (B c : Nat) (w : World) (hs : Byts w v l) (hd : ∀ d ∈ l, d < 256) (hB : 1 ≤ B ∧ B ≤ 2097153) (hc : c < B) (hl : l.length ≤ 200) (hm : (Abs.mulAdd l.reverse B c).length ≤ 200) :
  Ret Tryz.prog F.lr18_scale #[v, .int .i64 B, .int .i64 c] w fun u w' => OwR encB T.uint8 1 w.heap.size w' u (Abs.mulAdd l.reverse B c).reverse ∧ Ext w w' := by
 obtain ⟨ov, cv, rfl, lv⟩ := hs.form
 have hdr : ∀ d ∈ l.reverse, d < 256 := fun d h => hd d (List.mem_reverse.1 h)
 refine Ks E.lr18_scale ?_; dsimp only [C.lr18_scale]; refine Yy ?_
 refine Sr ?_
 intro w1 b1 hb1 he1 hc1
 refine Sr ?_
 refine K.appM (OwR.empty hb1 hc1) (hs.ext Flat.ext he1) (fun _ => rfl) encB_one (by simp; omega) (by simp; unfold maxLen; omega) he1.size fun v' w2 ho2 hg2 => ?_
 rw [List.nil_append] at ho2
 have e2 : Ext w w2 := he1.grown hg2 fun k q => by simp [Value.ownBlock] at q; omega
 obtain ⟨oa, cap, rfl, _⟩ := ho2.form
 refine Sr ?_
 refine K.whG [0, 1, 2, 6, 7] (fun y : Int × Nat => [(9, .int .i64 y.1), (8, .int .i64 (y.2 : Int))]) ((l.length : Int) - 1, c) (fun y W => ∃ k : Nat, y.1 = (l.length : Int) - 1 - k ∧ k ≤ l.length ∧ y.2 = Abs.carryAt l.reverse B c k ∧ Ext w W ∧ OwR encB T.uint8 1 w.heap.size W (.slice oa l.length cap) (Abs.doneAt l.reverse B c k).reverse) (fun y => (y.1 + 1).toNat) hZq ⟨0, by simp, Nat.zero_le _, (Abs.carryAt_zero _ _ _).symm, e2, by rw [Abs.doneAt_zero, List.reverse_reverse]; exact ho2⟩ ?_
 clear ho2
 rintro ⟨y, x3⟩ S w3 ⟨k, hy, hk, hx3, e3, ho3⟩
 simp only at hy hx3
 have hx3B : x3 < B := by rw [hx3]; exact Abs.carryAt_le hB.1 l.reverse B c k hdr (Nat.le_refl _) hc
 have hdl := Abs.doneAt_len l.reverse B c k
 rw [List.length_reverse] at hdl
 refine Sr ?_
 apply K.cond <;> intro g1
 ·obtain ⟨i, rfl⟩ := Int.eq_ofNat_of_zero_le g1
  have hk2 : k < l.length := by omega
  have hi : i = l.length - 1 - k := by omega
  obtain ⟨a, rfl⟩ := ho3.someB (by rw [List.length_reverse]; omega)
  have hdj := OwR.dropB ho3 (k := i) (by rw [List.length_reverse]; omega)
  have hkr : k < l.reverse.length := by rw [List.length_reverse]; exact hk2
  have hge : (Abs.doneAt l.reverse B c k).reverse[i]'(by rw [List.length_reverse]; omega) = l.reverse[k] := by
   have := Abs.doneAt_get l.reverse B c k k (Nat.le_refl _)
   rw [List.getElem?_eq_getElem (by omega), List.getElem?_eq_getElem hkr] at this
   rw [List.getElem_reverse]
   simp only [hdl, show l.length - 1 - i = k from by omega]
   exact Option.some.inj this
  rw [hge] at hdj
  have hlj := hdr _ (List.getElem_mem hkr)
  obtain ⟨dk, hdk⟩ : ∃ dk, dk = l.reverse[k] := ⟨_, rfl⟩
  rw [← hdk] at hdj hlj
  have hm1 : dk * B ≤ 255 * 2097153 := Nat.mul_le_mul (by omega) hB.2
  refine Sr ?_
  refine K.ld hdj ?_
  refine Sr ?_
  refine K.remN (dk * B + x3) 256 (by rw [Int.natCast_add, Int.natCast_mul]) rfl (by omega) ?_
  refine Sr ?_
  refine K.wu8 _ rfl ?_
  refine Sr ?_
  refine K.stB ho3 (by rw [List.length_reverse]; omega) fun w4 hw4 ho4 => ?_
  refine Sr ?_
  refine K.quoN (dk * B + x3) 256 (by rw [Int.natCast_add, Int.natCast_mul]) rfl (by omega) (by omega) ?_
  refine Sr ?_
  refine ⟨((i : Int) - 1, (dk * B + x3) / 256), hZq, ⟨k + 1, by simp only; omega, by omega, ?_, hw4.ext e3 (by have := ho3.blkB; omega), ?_⟩, by simp only; omega⟩
  ·rw [Abs.carryAt_succ _ _ _ _ hkr, ← hdk, ← hx3, Nat.add_comm x3]
  ·rw [Abs.doneAt_succ _ _ _ _ hkr, ← hdk, ← hx3, ← rev_set (by omega), hdl, ← hi, Nat.add_comm x3, ← Nat.mod_mod (dk * B + x3) 256]
   exact ho4
 have hkl : k = l.length := by omega
 subst hkl
 have hpre : Abs.doneAt l.reverse B c l.length ++ Abs.dig x3 = Abs.mulAdd l.reverse B c := by
  have := Abs.mulAdd_done l.reverse B c
  rw [List.length_reverse] at this
  rw [hx3]; exact this
 have hfin := (Abs.mulAdd l.reverse B c).length
 refine Sr ?_
 refine K.whG [0, 1, 2, 6] (fun y : SlP × Nat => [(7, .slice y.1.1 y.1.2.1 y.1.2.2), (8, .int .i64 (y.2 : Int))]) ((oa, l.length, cap), x3) (fun y W => Ext w W ∧ y.2 < B ∧ ∃ pre, OwR encB T.uint8 1 w.heap.size W (.slice y.1.1 y.1.2.1 y.1.2.2) pre.reverse ∧ pre ++ Abs.dig y.2 = Abs.mulAdd l.reverse B c) (fun y => y.2) hZq ⟨e3, hx3B, _, ho3, hpre⟩ ?_
 clear ho3 hpre
 rintro ⟨⟨oa4, n4, c4⟩, x4⟩ S w4 ⟨e4, hx4, pre, ho4, hpre⟩
 refine Sr ?_
 apply K.cond <;> intro g3
 ·have hx0 : x4 ≠ 0 := by intro e; subst e; exact absurd g3 (by decide)
  have hpl := Abs.mulAdd_len hpre
  refine Sr ?_
  refine K.remN x4 256 rfl rfl (by omega) ?_
  refine Sr ?_
  refine K.wu8 _ rfl ?_
  refine Sr ?_
  intro w5 b5 hb5 he5 hc5
  refine Sr ?_
  have ho5 : OwR encB T.uint8 1 w.heap.size w5 (.slice (some ⟨b5, 0, none⟩) 1 1) [x4 % 256 % 256] := OwR.blkN [x4 % 256 % 256] hc5 (Nat.le_trans e4.size hb5) rfl (fun _ => rfl) rfl (by simp [maxLen])
  refine K.appM ho5 (OwR.slr (fun _ => rfl) (ho4.ext he5)) (fun _ => rfl) encB_one (by rw [List.length_reverse, List.length_singleton]; omega) (by rw [List.length_reverse, List.length_singleton]; unfold maxLen; omega) (Nat.le_trans e4.size he5.size) fun v' w6 ho6 hg6 => ?_
  obtain ⟨oa6, cap6, rfl, _⟩ := ho6.form
  refine Sr ?_
  refine K.quoN x4 256 rfl rfl (by omega) (by omega) ?_
  refine Sr ?_
  refine ⟨((oa6, _, cap6), x4 / 256), hZq, ⟨(e4.trans he5).grown hg6 fun q hq => (ho5.lt q hq).1, by simp only; omega, pre ++ [x4 % 256], ?_, ?_⟩, by simp only; omega⟩
  ·rw [List.reverse_append, List.reverse_singleton, ← Nat.mod_mod x4 256]
   exact ho6
  ·rw [← hpre, Abs.dig_pos hx0, List.append_assoc]
   rfl
 ·have hx0 : x4 = 0 := by omega
  subst hx0
  rw [Abs.dig_zero, List.append_nil] at hpre
  rw [hpre] at ho4
  refine Sr ?_
  exact ⟨ho4, e4⟩
theorem share_r (v : Value) (l : List Nat) (B : Nat) (w : World) (hs : Byts w v l) (hd : ∀ d ∈ l, d < 256) (hB : 1 ≤ B ∧ B ≤ 2097153) (hl : l.length ≤ 200) :
  Ret Tryz.prog F.lr18_share #[v, .int .i64 B] w fun u w' => (∃ v', u = .tuple #[v', .int .i64 ((Abs.share l B 0).2 : Nat)] ∧ OwR encB T.uint8 1 w.heap.size w' v' (Abs.share l B 0).1) ∧ Ext w w' := by
 obtain ⟨ov, cv, rfl, lv⟩ := hs.form
 refine Ks E.lr18_share ?_; dsimp only [C.lr18_share]; refine Yy ?_
 refine Sr ?_
 intro w1 b1 hb1 he1 hc1
 refine Sr ?_
 refine K.appM (OwR.empty hb1 hc1) (hs.ext Flat.ext he1) (fun _ => rfl) encB_one (by simp; omega) (by simp; unfold maxLen; omega) he1.size fun v' w2 ho2 hg2 => ?_
 rw [List.nil_append] at ho2
 have e2 : Ext w w2 := he1.grown hg2 fun k q => by simp [Value.ownBlock] at q; omega
 obtain ⟨oa, cap, rfl, _⟩ := ho2.form
 refine Sr ?_
 refine K.forG 8 l.length [0, 1, 4, 5, 6] (fun x : Nat => [(7, .int .i64 (x : Int))]) 0 (fun j x W => x = Abs.restAt l B 0 j ∧ Ext w W ∧ OwR encB T.uint8 1 w.heap.size W (.slice oa l.length cap) (Abs.shareAt l B 0 j)) hZq hZq ⟨(Abs.restAt_zero _ _ _).symm, e2, by rw [Abs.shareAt_zero]; exact ho2⟩ ?_
 clear ho2
 rintro j x7 S w7 hj ⟨hx7, e7, ho7⟩
 have hx7B : x7 < B := by rw [hx7]; exact Abs.restAt_lt hB.1 l 0 j (by omega)
 have hsl := Abs.shareAt_len l B 0 j
 refine Sr ?_
 apply K.cond <;> intro g4
 ·have hj2 : j < l.length := by omega
  obtain ⟨a, rfl⟩ := ho7.someB (by omega)
  have hdj := OwR.dropB ho7 (k := j) (by omega)
  have hge : (Abs.shareAt l B 0 j)[j]'(by omega) = l[j] := by
   have := Abs.shareAt_get l B 0 j j (Nat.le_refl _)
   rw [List.getElem?_eq_getElem (by omega), List.getElem?_eq_getElem hj2] at this
   exact Option.some.inj this
  rw [hge] at hdj
  have hlj := hd _ (List.getElem_mem hj2)
  have hq : (x7 * 256 + l[j]) / B < 256 := (Nat.div_lt_iff_lt_mul (by omega)).2 (by have : (x7 + 1) * 256 ≤ B * 256 := Nat.mul_le_mul_right _ hx7B; rw [Nat.mul_comm 256 B]; omega)
  refine Sr ?_
  refine K.ld hdj ?_
  refine Sr ?_
  refine K.quoN (x7 * 256 + l[j]) B (by omega) rfl hB.1 (by omega) ?_
  refine Sr ?_
  refine K.wu8 _ rfl ?_
  refine Sr ?_
  refine K.stB ho7 (by omega) fun w8 hw8 ho8 => ?_
  rw [Nat.mod_eq_of_lt hq] at ho8
  refine Sr ?_
  refine K.remN (x7 * 256 + l[j]) B (by omega) rfl hB.1 ?_
  refine Sr ?_
  refine ⟨by omega, Tr, (x7 * 256 + l[j]) % B, hZq, ?_, hw8.ext e7 (by have := ho7.blkB; omega), ?_⟩
  ·rw [Abs.restAt_succ l B 0 j hj2, ← hx7]
  ·rw [Abs.shareAt_succ l B 0 j hj2, ← hx7]; exact ho8
 have hjl : j = l.length := by omega
 subst hjl
 refine Sr ?_
 rw [Abs.share_all, hx7]
 exact ⟨⟨_, rfl, ho7⟩, e7⟩
theorem number_r (ys : List Value) (v : Value) (m : Abs.Model) (s : List Int) (w : World) (hM : Abs.MayBe m) (hL : Abs.LayIs w ys (Abs.layout m)) (hs : Nums w v s) (hin : Abs.InR (Abs.layCells m) s) :
  Ret Tryz.prog F.lr18_number #[.agg ys.toArray, v] w fun u w' => Byts w' u (Abs.dig (Abs.num m s)).reverse ∧ Ext w w' := by
 obtain ⟨x0, d0, x1, d1, x2, d2, x3, d3, x4, d4, rfl, r0, r1, r2, r3, r4⟩ := hL.form
 obtain ⟨ov, cv, rfl, lv⟩ := hs.form
 have hlen : (Abs.layCells m).length = s.length := Abs.inR_len hin
 have f2 := Abs.layout_lo_len m
 have f3 := Abs.layout_hi_len m
 have fc : (Abs.layout m).cells = (s.length : Int) := by rw [← hlen]; rfl
 have h64 : (Abs.layCells m).length ≤ 64 := Abs.layCells_le64 hM
 clear r0 r1 r2
 refine Ks E.lr18_number ?_; dsimp only [C.lr18_number]; refine Yy ?_
 refine Sr ?_
 intro w1 b1 hb1 he1 hc1
 refine Sr ?_
 refine K.forG 6 s.length [1, 2, 4] (fun v : SlP => [(5, .slice v.1 v.2.1 v.2.2)]) (none, 0, 0) (fun k v W => Ext w1 W ∧ Byts W (.slice v.1 v.2.1 v.2.2) (Abs.dig (Abs.numFrom ((Abs.layCells m).take k) (s.take k) 0)).reverse) hZq hZq ⟨Ext.refl _, by simpa [Abs.numFrom, Abs.dig_zero] using SlR.nil⟩ ?_
 rintro k ⟨oa, n, c⟩ S w2 hk ⟨he2, hB2⟩
 have hc2 := he2.obj hc1
 refine Sr ?_
 apply K.cond <;> intro g1
 rotate_left
 ·have hks : k = s.length := by omega
  rw [hks, List.take_of_length_le (by omega), List.take_of_length_le (Nat.le_refl _)] at hB2
  refine Sr ?_
  exact ⟨hB2, he1.trans he2⟩
 have hk2 : k < s.length := by omega
 have hk3 : k < (Abs.layCells m).length := by omega
 have l3 : (Abs.layout m).lo[k]'(by omega) = (Abs.layCells m)[k].lo := Abs.layout_lo_get _ hk3
 have l4 : (Abs.layout m).hi[k]'(by omega) = (Abs.layCells m)[k].hi := Abs.layout_hi_get _ hk3
 have hbd := Abs.cell_bd hM _ (List.getElem_mem hk3)
 have hbase := Abs.base_le hM _ (List.getElem_mem hk3)
 have hget := Abs.inR_get hin k hk3 hk2
 unfold Abs.BdOk at hbd
 obtain ⟨av, rfl⟩ := hs.addr (by omega)
 obtain ⟨a3, rfl⟩ := r3.addr (by omega)
 obtain ⟨a4, rfl⟩ := r4.addr (by omega)
 have hmul := Abs.mulAdd_at hM hk3 hk2
 have hfew := Abs.dig_few hM hin k
 have hfew2 := Abs.dig_few hM hin (k + 1)
 obtain ⟨x, hx⟩ : ∃ x, x = (Abs.layCells m)[k] := ⟨_, rfl⟩
 obtain ⟨y, hy⟩ : ∃ y, y = s[k] := ⟨_, rfl⟩
 obtain ⟨l, hl⟩ : ∃ l, l = Abs.dig (Abs.numFrom ((Abs.layCells m).take k) (s.take k) 0) := ⟨_, rfl⟩
 have hdl : ∀ d ∈ l, d < 256 := by rw [hl]; exact Abs.dig_lt _
 rw [← hx] at l3 l4 hbd hbase hget hmul
 rw [← hy] at hget hmul
 rw [← hl] at hB2 hmul hfew
 rw [← hmul] at hfew2
 have hcy : (y - x.lo).toNat < x.base := by unfold Abs.Cell.base; omega
 refine Sr ?_
 intro w3 he3
 have hc3 := he3.obj hc2
 have e3 := he1.trans (he2.trans he3)
 have r33 := r3.ext Flat.ext e3
 have r43 := r4.ext Flat.ext e3
 have hs3 := hs.ext Flat.ext e3
 have hsc := scale_r (.slice oa n c) l.reverse x.base (y - x.lo).toNat w3 (hB2.ext Flat.ext he3) (fun d hd' => hdl d (List.mem_reverse.1 hd')) hbase hcy (by rw [List.length_reverse]; omega) (by rw [List.reverse_reverse]; omega)
 rw [List.reverse_reverse, hmul, show ((x.base : Nat) : Int) = (Abs.layout m).hi[k]'(by omega) - (Abs.layout m).lo[k]'(by omega) + 1 from by rw [l3, l4]; unfold Abs.Cell.base; omega, show (((y - x.lo).toNat : Nat) : Int) = s[k] - (Abs.layout m).lo[k]'(by omega) from by rw [l3, ← hy]; omega] at hsc
 rw [hy] at hget
 clear hc2 hB2
 refine Sr ?_
 refine K.call hsc ?_
 rintro _ w4 ⟨ho4, he4⟩
 obtain ⟨oa4, cap4, rfl, _⟩ := ho4.form
 refine Sr ?_
 exact ⟨hk2, Tr, (oa4, _, cap4), hZq, he2.trans (he3.trans he4), OwR.slr (fun _ => rfl) ho4⟩
end Go.Proofs.YtglnobabdcoknaaGreatDoor
end
section
namespace Lite
open Go Go.RowKit
def BytIs (_ : World) (cs : List Value) (x : Nat) : Prop := cs = encB x
instance instRelByt : Rel (Flat encB) BytIs 1 where
 out h := ⟨_, h, rfl⟩
 inn h k := by cases k; exact h
 len h := by cases h; rfl
 one h := by cases h; exact encB_one _
 ext _ h := h
theorem owc_bytes {e : TypeId} {base : Nat} {w : World} {v : Value} {css : List (Cs 1)} {l : List Nat} (hl : css.length = l.length) (hc : ∀ i (h1 : i < css.length) (h2 : i < l.length), BytIs w css[i].1 l[i]) (h : OwC e 1 base w v css) : OwR encB e 1 base w v l := by
 have e1 : css.map encC = l.map encB := by
  apply List.ext_getElem (by simpa using hl)
  intro i h1 h2
  simp only [List.getElem_map]
  exact hc i (by simpa using h1) (by simpa using h2)
 have e2 : css.flatMap encC = l.flatMap encB := by rw [List.flatMap_def, List.flatMap_def, e1]
 unfold OwC OwR at h
 unfold OwR
 rw [← hl, ← e2]
 exact h
end Lite
namespace Abs
open Go
def outAt (cs : List Cell) (b : List Nat) (k : Nat) : List Int := List.replicate (cs.length - k) 0 ++ (backs (cs.drop (cs.length - k)) (valB b)).1
theorem outAt_zero (cs : List Cell) (b : List Nat) : outAt cs b 0 = List.replicate cs.length 0 := by simp [outAt, backs]
theorem outAt_all (cs : List Cell) (b : List Nat) : outAt cs b cs.length = (backs cs (valB b)).1 := by simp [outAt]
theorem outAt_len {cs : List Cell} {b : List Nat} {k : Nat} (h : k ≤ cs.length) : (outAt cs b k).length = cs.length := by
 simp only [outAt, List.length_append, List.length_replicate, backs_len, List.length_drop]; omega
theorem outAt_succ {cs : List Cell} {b : List Nat} {k : Nat} (hd : ∀ d ∈ b, d < 256) (hb : ∀ x ∈ cs, 1 ≤ x.base) (h : k < cs.length) :
  (outAt cs b k).set (cs.length - 1 - k) (cs[cs.length - 1 - k].lo + ((share (sharesAt (cs.drop (cs.length - k)) b) cs[cs.length - 1 - k].base 0).2 : Nat)) = outAt cs b (k + 1) := by
 have hi : cs.length - 1 - k < cs.length := by omega
 have e1 : cs.drop (cs.length - (k + 1)) = cs[cs.length - 1 - k] :: cs.drop (cs.length - k) := by
  rw [show cs.length - (k + 1) = cs.length - 1 - k from by omega, List.drop_eq_getElem_cons hi]
  congr 2
  omega
 have e2 : List.replicate (cs.length - k) (0 : Int) = List.replicate (cs.length - (k + 1)) 0 ++ [0] := by
  rw [show cs.length - k = cs.length - (k + 1) + 1 from by omega, List.replicate_succ']
 unfold outAt
 rw [e1, backs_cons hd fun y hy => hb y (by
  rcases List.mem_cons.1 hy with rfl | hy
  ·exact List.getElem_mem hi
  ·exact List.mem_of_mem_drop hy)]
 rw [e2, List.append_assoc, List.set_append_right _ _ (by simp; omega)]
 rw [show cs.length - 1 - k - (List.replicate (cs.length - (k + 1)) (0 : Int)).length = 0 from by simp; omega]
 rfl
theorem sharesAt_succ {cs : List Cell} {b : List Nat} {k : Nat} (h : k < cs.length) : sharesAt (cs.drop (cs.length - (k + 1))) b = (share (sharesAt (cs.drop (cs.length - k)) b) cs[cs.length - 1 - k].base 0).1 := by
 have hi : cs.length - 1 - k < cs.length := by omega
 rw [show cs.length - (k + 1) = cs.length - 1 - k from by omega, List.drop_eq_getElem_cons hi, show cs.length - 1 - k + 1 = cs.length - k from by omega]
 rfl
end Abs
namespace Go.Proofs.YtglnobabdcoknaaGreatDoor
open Go Go.RowKit Lite
theorem bclone_r (v : Value) (l : List Nat) (w : World) (h : Byts w v l) (hb : l.length ≤ 100000) :
  Ret Tryz.prog F.slices_Clone_sl_byte_byte #[v] w fun v' w' => OwR encB T.uint8 1 w.heap.size w' v' l ∧ Ext w w' :=
 (clone_r (R := Flat encB) hmix E.slices_Clone_sl_byte_byte (by kernel_rfl) v l w h (by omega)).mono fun v' w' ⟨⟨css, hl, ho, hc⟩, he⟩ => ⟨owc_bytes hl hc ho, he⟩
theorem nonz_r (x : Nat) (w : World) : Ret Tryz.prog F.state_Back_1 #[.int .u8 (x : Int)] w fun v w' => v = .bool (decide (x ≠ 0)) ∧ Ext w w' := by
 refine Ks E.state_Back_1 ?_; dsimp only [C.state_Back_1]; refine Yy ?_
 refine Sr ?_
 refine ⟨?_, Ext.refl _⟩
 congr 1
 simp
theorem bindex_r (v : Value) (l : List Nat) (w : World) (h : Byts w v l) :
  Ret Tryz.prog F.slices_IndexFunc_sl_byte_byte #[v, .func (.func F.state_Back_1) #[] #[]] w fun v' w' => v' = .int .i64 (firstAt (fun x : Nat => decide (x ≠ 0)) l 0) ∧ Ext w w' := by
 obtain ⟨o1, c1, rfl, b1⟩ := h.form
 refine Ks E.slices_IndexFunc_sl_byte_byte ?_; dsimp only [C.slices_IndexFunc_sl_byte_byte]; refine Yy ?_
 refine Sr ?_
 refine K.forG 8 l.length [0, 1, 7] (fun _ : Unit => []) () (fun k _ w' => Ext w w' ∧ firstAt (fun x : Nat => decide (x ≠ 0)) l 0 = firstAt (fun x : Nat => decide (x ≠ 0)) (l.drop k) k) hZq hZq ⟨Ext.refl _, by simp⟩ ?_
 rintro k _ S w2 hk ⟨he2, hI⟩
 refine Sr ?_
 apply K.cond <;> intro g1
 ·have hk' : k < l.length := by omega
  obtain ⟨a, rfl⟩ := h.addr (by omega)
  rw [firstAt_drop hk'] at hI
  refine Sr ?_
  refine K.callV (first := []) (cap := []) (by kernel_rfl) (nonz_r l[k] w2) ?_
  rintro _ w3 ⟨rfl, he3⟩
  refine Sr ?_
  apply K.cond <;> intro g2
  ·refine Sr ?_
   exact ⟨by rw [hI, if_pos (by simpa using g2)], he2.trans he3⟩
  ·refine Sr ?_
   exact ⟨hk', Tr, (), trivial, he2.trans he3, by rw [hI, if_neg (by simpa using g2)]⟩
 ·refine Sr ?_
  exact ⟨by rw [hI, List.drop_eq_nil_of_le (by omega)]; rfl, he2⟩
theorem bcont_r (v : Value) (l : List Nat) (w : World) (h : Byts w v l) :
  Ret Tryz.prog F.slices_ContainsFunc_sl_byte_byte #[v, .func (.func F.state_Back_1) #[] #[]] w fun v' w' => (∃ t : Bool, v' = .bool t ∧ (t = true ↔ Abs.valB l ≠ 0)) ∧ Ext w w' := by
 refine Ks E.slices_ContainsFunc_sl_byte_byte ?_; dsimp only [C.slices_ContainsFunc_sl_byte_byte]; refine Yy ?_
 refine Sr ?_
 refine K.call (bindex_r v l w h) ?_
 rintro _ w2 ⟨rfl, he2⟩
 refine Sr ?_
 refine ⟨⟨_, rfl, ?_⟩, he2⟩
 rw [decide_eq_true_eq, firstAt_any]
 simp only [List.any_eq_true, decide_eq_true_eq, ne_eq, Abs.valB_zero]
 constructor
 ·rintro ⟨x, h1, h2⟩ h3; exact h2 (h3 x h1)
 ·intro h1
  apply Classical.byContradiction
  intro h2
  exact h1 fun d hd => Classical.byContradiction fun h3 => h2 ⟨d, hd, h3⟩
end Go.Proofs.YtglnobabdcoknaaGreatDoor
end
section
namespace Lite
open Go Go.RowKit
theorem OwR.neBlk {α : Type} {enc : α → List Value} {e t : TypeId} {sz base b : Nat} {w : World} {a : Addr} {n c : Nat} {l : List α} {cs : Array Value} (h : OwR enc e sz base w (.slice (some a) n c) l) (hb : w.heap[b]? = some (.cells cs t)) (ht : t ≠ e) : b ≠ a.block := fun he => by
 obtain ⟨cur, h1⟩ := h.blk a.block rfl
 rw [he, h1] at hb
 injection hb with hb
 injection hb with _ hb
 exact ht hb.symm
end Lite
namespace Abs
open Go
theorem outAt_at {cs : List Cell} {b : List Nat} {k i : Nat} (hd : ∀ d ∈ b, d < 256) (hb : ∀ x ∈ cs, 1 ≤ x.base) (h : k < cs.length) (hi : i = cs.length - 1 - k) (hil : i < cs.length) : (outAt cs b k).set i (cs[i].lo + ((share (sharesAt (cs.drop (cs.length - k)) b) cs[i].base 0).2 : Nat)) = outAt cs b (k + 1) := by
 subst hi; exact outAt_succ hd hb h
theorem sharesAt_at {cs : List Cell} {b : List Nat} {k i : Nat} (h : k < cs.length) (hi : i = cs.length - 1 - k) (hil : i < cs.length) : sharesAt (cs.drop (cs.length - (k + 1))) b = (share (sharesAt (cs.drop (cs.length - k)) b) cs[i].base 0).1 := by
 subst hi; exact sharesAt_succ h
theorem backRes_range {m : Model} {b : List Nat} (h0 : (check m).why = 0) (hl : b.length = byteN m) (h : (backs (layCells m) (valB b)).2 ≠ 0) : backRes m b = ([], 10) := by
 unfold backRes
 rw [if_neg (not_not_intro h0), if_neg (by omega), if_neg (by omega), if_pos h]
theorem backRes_form {m : Model} {b : List Nat} (h0 : (check m).why = 0) (hl : b.length = byteN m) (h : (backs (layCells m) (valB b)).2 = 0) (hf : ¬ Fits m (backs (layCells m) (valB b)).1) : backRes m b = ([], 3) := by
 unfold backRes
 rw [if_neg (not_not_intro h0), if_neg (by omega), if_neg (by omega), if_neg (not_not_intro h), if_neg hf]
theorem backRes_ok {m : Model} {b : List Nat} (h0 : (check m).why = 0) (hl : b.length = byteN m) (h : (backs (layCells m) (valB b)).2 = 0) (hf : Fits m (backs (layCells m) (valB b)).1) : backRes m b = ((backs (layCells m) (valB b)).1, 0) := by
 unfold backRes
 rw [if_neg (not_not_intro h0), if_neg (by omega), if_neg (by omega), if_neg (not_not_intro h), if_pos hf]
end Abs
namespace Go.Proofs.YtglnobabdcoknaaGreatDoor
open Go Go.RowKit Lite
theorem back_r (cs : List Value) (v : Value) (m : Abs.Model) (l : List Nat) (w : World) (h : Abs.ModelIs w cs m) (hg : m.good) (ho : OwnIs w) (hb8 : Byts w v l) (hd : ∀ d ∈ l, d < 256) (hl200 : l.length ≤ 200) :
  Ret Tryz.prog F.state_Back #[.agg cs.toArray, v] w fun u w' => (∃ v', u = .tuple #[v', .int .i64 (Abs.backRes m l).2] ∧ Nums w' v' (Abs.backRes m l).1) ∧ Ext w w' := by
 have hMI := h
 obtain ⟨o0, c0, o1, c1, o2, c2, o3, c3, o4, c4, rfl, _⟩ := h.form
 obtain ⟨ov, cv, rfl, lv⟩ := hb8.form
 refine Ks E.state_Back ?_; dsimp only [C.state_Back]; refine Yy ?_
 refine Sr ?_
 intro w1 b1 hb1 he1 hc1
 refine Sr ?_
 refine K.call (read_r _ m w1 (hMI.ext he1) hg (ho.ext he1)) ?_
 rintro _ w2 ⟨hr, he2⟩
 have e2 := he1.trans he2
 rcases hr with ⟨rfl, hk⟩ | ⟨b, rfl, hk, hr⟩
 ·have hn : Abs.backRes m l = ([], 2) := by unfold Abs.backRes; rw [if_pos hk]
  refine Sr ?_
  refine K.ptrEq0 (by kernel_rfl) ?_
  refine Sr ?_
  rw [hn]
  exact ⟨⟨_, rfl, SlR.nil⟩, e2⟩
 have hM := Abs.maybe_of hk
 have hfew := Abs.bytes_few hM
 refine Sr ?_
 refine K.ptrEq1 (by kernel_rfl) ?_
 refine Sr ?_
 refine K.call (stsize_r b m w2 hr hM) ?_
 rintro _ w3 ⟨rfl, he3⟩
 have e3 := e2.trans he3
 refine Sr ?_
 apply K.cond <;> intro g1
 ·have hn : Abs.backRes m l = ([], 4) := by unfold Abs.backRes; rw [if_neg (not_not_intro hk), if_pos (by omega)]
  refine Sr ?_
  rw [hn]
  exact ⟨⟨_, rfl, SlR.nil⟩, e3⟩
 refine Sr ?_
 apply K.cond <;> intro g2
 ·have hn : Abs.backRes m l = ([], 5) := by unfold Abs.backRes; rw [if_neg (not_not_intro hk), if_neg (by omega), if_pos (by omega)]
  refine Sr ?_
  rw [hn]
  exact ⟨⟨_, rfl, SlR.nil⟩, e3⟩
 have hlen : l.length = Abs.byteN m := by omega
 have hr3 := hr.ext he3
 obtain ⟨x0, d0, x1, d1, x2, d2, x3, d3, x4, d4, p0, g0, p1, g1', p2, g2', p3, g3, p4, g4, oi, ci, hb, r0, r1, r2, r3, r4, k0, k1, k2, k3, hI⟩ := hr3.form
 have h64 : (Abs.layCells m).length ≤ 64 := Abs.layCells_le64 hM
 clear r0 r1 r2 r4 k0 k1 k2 k3 hI
 refine Su ?_
 refine K.cutG [1, 6] (fun x : SlP × Nat => [(8, .slice x.1.1 x.1.2.1 x.1.2.2), (9, .slice (some ⟨x.2, 0, none⟩) (Abs.layCells m).length (Abs.layCells m).length)]) (fun x W => Ext w3 W ∧ OwR encB T.uint8 1 w3.heap.size W (.slice x.1.1 x.1.2.1 x.1.2.2) l ∧ w3.heap.size ≤ x.2 ∧ W.heap[x.2]? = some (.cells (intsC (List.replicate (Abs.layCells m).length 0)).toArray T.int)) ?_ ?_
 ·refine Sr ?_
  intro w4 he4
  have hb4 := he4.obj hb
  have hb84 := hb8.ext Flat.ext (e3.trans he4)
  refine Sr ?_
  refine ⟨?_, ?_⟩
  ·refine K.call (bclone_r _ l w4 hb84 (by omega)) ?_
   rintro _ w5 ⟨ho5, he5⟩
   obtain ⟨oa, cap, rfl, _⟩ := ho5.form
   refine ⟨he5, ?_⟩
   refine Sr ?_
   refine K.mkN (Abs.layCells m).length rfl (by omega) ?_
   intro w6 b6 hb6 he6 hc6
   refine Sr ?_
   exact ⟨((oa, _, cap), b6), hZq, he4.trans (he5.trans he6), (ho5.ext he6).low he4.size, Nat.le_trans (Nat.le_trans he4.size he5.size) hb6, hc6⟩
  ·refine K.mkN (Abs.layCells m).length rfl (by omega) ?_
   intro w5 b5 hb5 he5 hc5
   refine Sr ?_
   refine K.call (bclone_r _ l w5 (hb84.ext Flat.ext he5) (by omega)) ?_
   rintro _ w6 ⟨ho6, he6⟩
   obtain ⟨oa, cap, rfl, _⟩ := ho6.form
   refine Sr ?_
   exact ⟨he5.trans he6, ((oa, _, cap), b5), hZq, he4.trans (he5.trans he6), ho6.low (Nat.le_trans he4.size he5.size), Nat.le_trans he4.size hb5, he6.obj hc5⟩
 rintro ⟨⟨oa, n, c⟩, bS⟩ S w4 ⟨e4, ho4, hbS, hcS⟩
 have hn := ho4.lenB
 simp only at hn
 subst hn
 rw [← Abs.outAt_zero _ l] at hcS
 simp only at hbS hcS ho4
 obtain ⟨N, hN⟩ : ∃ N, N = (Abs.layCells m).length := ⟨_, rfl⟩
 have fc : (Abs.layout m).cells = (N : Int) := by rw [hN]; rfl
 have hbase := Abs.base_le hM
 have hbase1 : ∀ x ∈ Abs.layCells m, 1 ≤ x.base := fun x hx => (hbase x hx).1
 have f2 := Abs.layout_lo_len m
 have z4 := e4.size
 refine Sr ?_
 refine K.whG [1, 6, 8, 9] (fun y : Int => [(10, .int .i64 y)]) ((Abs.layout m).cells - 1) (fun y W => ∃ k : Nat, y = (N : Int) - 1 - k ∧ k ≤ N ∧ Ext w3 W ∧ OwR encB T.uint8 1 w3.heap.size W (.slice oa l.length c) (Abs.sharesAt ((Abs.layCells m).drop (N - k)) l) ∧ W.heap[bS]? = some (.cells (intsC (Abs.outAt (Abs.layCells m) l k)).toArray T.int)) (fun y => (y + 1).toNat) hZq ⟨0, by simp [fc], Nat.zero_le _, e4, by rw [hN]; simpa [Abs.sharesAt] using ho4, hcS⟩ ?_
 clear ho4 hcS
 rintro y S w5 ⟨k, hy, hk5, e5, ho5, hc5⟩
 have hb5 := e5.obj hb
 refine Sr ?_
 apply K.cond <;> intro g3
 ·obtain ⟨i, rfl⟩ := Int.eq_ofNat_of_zero_le g3
  have hik : i = N - 1 - k := by omega
  have hi : i < (Abs.layCells m).length := by omega
  refine Sr ?_
  refine K.call (base_r b i m w5 (hr3.ext e5) hM hi) ?_
  rintro _ w6 ⟨rfl, he6⟩
  obtain ⟨B, hB⟩ : ∃ B : Nat, B = (Abs.layCells m)[i].base := ⟨_, rfl⟩
  rw [← hB]
  have hBb := hbase _ (List.getElem_mem hi)
  rw [← hB] at hBb
  obtain ⟨L, hL⟩ : ∃ L, L = Abs.sharesAt ((Abs.layCells m).drop (N - k)) l := ⟨_, rfl⟩
  obtain ⟨s1, s2, s3⟩ := Abs.sharesAt_ok hd (cs := (Abs.layCells m).drop (N - k)) fun x hx => hbase1 x (List.mem_of_mem_drop hx)
  rw [← hL] at s1 s2 s3 ho5
  have ho6 := ho5.ext he6
  have hc6 := he6.obj hc5
  have e6 := e5.trans he6
  clear ho5 hc5 hb5
  refine Sr ?_
  refine K.wu64 B rfl (by omega) ?_
  refine Sr ?_
  refine K.forG 55 l.length [1, 6, 8, 9, 10, 12, 53, 54] (fun x : Nat => [(11, .int .u64 (x : Int))]) 0 (fun j x W => x = Abs.restAt L B 0 j ∧ Ext w3 W ∧ OwR encB T.uint8 1 w3.heap.size W (.slice oa l.length c) (Abs.shareAt L B 0 j) ∧ W.heap[bS]? = some (.cells (intsC (Abs.outAt (Abs.layCells m) l k)).toArray T.int)) hZq hZq ⟨(Abs.restAt_zero _ _ _).symm, e6, by rw [Abs.shareAt_zero]; exact ho6, hc6⟩ ?_
  clear ho6 hc6
  rintro j x7 S w7 hj ⟨hx7, e7, ho7, hc7⟩
  have hx7B : x7 < B := by rw [hx7]; exact Abs.restAt_lt hBb.1 L 0 j (by omega)
  have hsl := Abs.shareAt_len L B 0 j
  refine Sr ?_
  apply K.cond <;> intro g4
  ·have hj2 : j < L.length := by omega
   obtain ⟨a, rfl⟩ := ho7.someB (by omega)
   have hdj := OwR.dropB ho7 (k := j) (by omega)
   have hge : (Abs.shareAt L B 0 j)[j]'(by omega) = L[j] := by
    have := Abs.shareAt_get L B 0 j j (Nat.le_refl _)
    rw [List.getElem?_eq_getElem (by omega), List.getElem?_eq_getElem hj2] at this
    exact Option.some.inj this
   rw [hge] at hdj
   have hlj := s2 _ (List.getElem_mem hj2)
   have hq : (x7 * 256 + L[j]) / B < 256 := (Nat.div_lt_iff_lt_mul (by omega)).2 (by have : (x7 + 1) * 256 ≤ B * 256 := Nat.mul_le_mul_right _ hx7B; rw [Nat.mul_comm 256 B]; omega)
   have hne := ho7.neBlk hc7 (by decide)
   refine Sr ?_
   refine K.ld hdj ?_
   refine Sr ?_
   refine K.shl8 (by omega) ?_
   refine Sr ?_
   refine K.wu64 L[j] rfl (by omega) ?_
   refine Sr ?_
   refine K.orB (by omega) hlj ?_
   refine Sr ?_
   refine K.quoU hBb.1 (IntWalk.u64_in _ (by generalize (x7 * 256 + L[j]) / B = z at hq; omega)) ?_
   refine Sr ?_
   refine K.wu8 _ rfl ?_
   refine Sr ?_
   refine K.stB ho7 (by omega) fun w8 hw8 ho8 => ?_
   rw [Nat.mod_eq_of_lt hq] at ho8
   have hc8 := hw8.obj hc7 hne
   refine Sr ?_
   refine K.remU hBb.1 ?_
   refine Sr ?_
   refine ⟨by omega, Tr, (x7 * 256 + L[j]) % B, hZq, ?_, hw8.ext e7 (by have := ho7.blkB; omega), ?_, hc8⟩
   ·rw [Abs.restAt_succ L B 0 j hj2, ← hx7]
   ·rw [Abs.shareAt_succ L B 0 j hj2, ← hx7]; exact ho8
  have hjl : j = L.length := by omega
  subst hjl
  have hsh := Abs.share_all L B 0
  have hlo : (Abs.layout m).lo[i]'(by omega) = (Abs.layCells m)[i].lo := Abs.layout_lo_get _ hi
  have hbd := Abs.cell_bd hM _ (List.getElem_mem hi)
  unfold Abs.BdOk at hbd
  have hb7 := e7.obj hb
  have r37 := r3.ext Flat.ext e7
  obtain ⟨a3, rfl⟩ := r3.addr (by omega)
  have hout := Abs.outAt_at (cs := Abs.layCells m) (b := l) (k := k) (i := i) hd hbase1 (by omega) (by omega) hi
  have hsa := Abs.sharesAt_at (cs := Abs.layCells m) (b := l) (k := k) (i := i) (by omega) (by omega) hi
  rw [← hN, ← hL, ← hB] at hout hsa
  rw [hsh] at hout hsa
  rw [show (Abs.shareAt L B 0 L.length, Abs.restAt L B 0 L.length).2 = x7 from hx7.symm] at hout
  replace hsa : _ = Abs.shareAt L B 0 L.length := hsa
  have hol := Abs.outAt_len (cs := Abs.layCells m) (b := l) (k := k) (by omega)
  refine Sr ?_
  refine K.st1 hc7 (by rw [List.size_toArray, intsC_len]; omega) rfl fun w8 hw8 hc8 => ?_
  rw [hlo, intsC_set (Nat.mul_one _), hout] at hc8
  have hne : ∀ q, (Value.slice oa l.length c).ownBlock = some q → q ≠ bS := fun q hq e => by
   subst e
   obtain ⟨cur, h1⟩ := ho7.blk q hq
   rw [hc7] at h1
   injection h1 with h1
   injection h1 with _ h1
   revert h1; decide
  refine Sr ?_
  refine ⟨(i : Int) - 1, hZq, ⟨k + 1, by omega, by omega, hw8.ext e7 (by omega), ?_, hc8⟩, by omega⟩
  rw [hsa]
  exact ho7.mod (hw8.mod (A := fun q => q = bS) rfl) hne
 ·have hkN : k = N := by omega
  subst hkN
  rw [Nat.sub_self, List.drop_zero] at ho5
  rw [hN, Abs.outAt_all] at hc5
  obtain ⟨s1, s2, s3⟩ := Abs.sharesAt_ok hd (cs := Abs.layCells m) hbase1
  have hbl := Abs.backs_len (Abs.layCells m) (Abs.valB l)
  have hNums : ∀ {W}, Ext w5 W → Nums W (.slice (some ⟨bS, 0, none⟩) (Abs.layCells m).length (Abs.layCells m).length) (Abs.backs (Abs.layCells m) (Abs.valB l)).1 := fun e => nums_blk (e.obj hc5) (by omega) (by unfold maxLen; omega)
  refine Sr ?_
  refine K.call (bcont_r _ _ w5 (by have := OwR.slr (enc := encB) (sz := 1) (fun _ => rfl) ho5; exact this)) ?_
  rintro _ w6 ⟨⟨t, rfl, ht⟩, he6⟩
  have e6 := e5.trans he6
  rw [s3] at ht
  cases t with
  | true =>
   have hn := Abs.backRes_range hk hlen (ht.1 rfl)
   refine Sr ?_
   rw [hn]
   exact ⟨⟨_, rfl, SlR.nil⟩, e3.trans e6⟩
  | false =>
   have hz : (Abs.backs (Abs.layCells m) (Abs.valB l)).2 = 0 := Classical.byContradiction fun h => by have := ht.2 h; cases this
   refine Sr ?_
   refine K.call (right_r b _ _ m w6 (hr3.ext e6) hM (hNums he6)) ?_
   rintro _ w7 ⟨⟨u, rfl, hu⟩, he7⟩
   cases u with
   | false =>
    have hn := Abs.backRes_form hk hlen hz (fun h => by have := hu.2 h; cases this)
    refine Sr ?_
    rw [hn]
    exact ⟨⟨_, rfl, SlR.nil⟩, e3.trans (e6.trans he7)⟩
   | true =>
    have hn := Abs.backRes_ok hk hlen hz (hu.1 rfl)
    refine Sr ?_
    rw [hn]
    exact ⟨⟨_, rfl, hNums (he6.trans he7)⟩, e3.trans (e6.trans he7)⟩
theorem rBack18_r (cs : List Value) (v : Value) (m : Abs.Model) (l : List Nat) (w : World) (h : Abs.ModelIs w cs m) (hg : m.good) (hb8 : Byts w v l) (hd : ∀ d ∈ l, d < 256) (hl200 : l.length ≤ 200) :
  Ret Tryz.prog F.lr18_Back #[.agg cs.toArray, v] w fun u w' => (∃ v', u = .tuple #[v', .int .i64 (Abs.backRes m l).2] ∧ Nums w' v' (Abs.backRes m l).1) ∧ Ext w w' := by
 have hMI := h
 obtain ⟨o0, c0, o1, c1, o2, c2, o3, c3, o4, c4, rfl, _⟩ := h.form
 obtain ⟨ov, cv, rfl, lv⟩ := hb8.form
 refine Ks E.lr18_Back ?_; dsimp only [C.lr18_Back]; refine Yy ?_
 refine Sr ?_
 intro w1 b1 hb1 he1 hc1
 refine Sr ?_
 refine K.call (may15_r _ m w1 (hMI.ext he1) hg) ?_
 rintro _ w2 ⟨rfl, he2⟩
 replace hc1 := he2.obj hc1
 have e2 := he1.trans he2
 by_cases hk : (Abs.check m).why = 0
 rotate_left
 ·have hn : Abs.backRes m l = ([], 2) := by unfold Abs.backRes; rw [if_pos hk]
  rw [decide_eq_false hk]
  refine Sr ?_
  rw [hn]
  exact ⟨⟨_, rfl, SlR.nil⟩, e2⟩
 rw [decide_eq_true hk]
 have hM := Abs.maybe_of hk
 have hfew := Abs.bytes_few hM
 refine Sr ?_
 refine K.call (refLayOf_r _ m w2 (hMI.ext e2) hg) ?_
 rintro _ w3 ⟨⟨xs, rfl, hL⟩, he3⟩
 replace hL := hL.here
 rw [show Abs.lay m = Abs.layout m from by unfold Abs.lay; rw [if_pos hk]] at hL
 obtain ⟨x0, d0, x1, d1, x2, d2, x3, d3, x4, d4, rfl, _, _, _, r3, r4⟩ := hL.form
 replace hc1 := he3.obj hc1
 have e3 := e2.trans he3
 refine Sr ?_
 intro w4 b6 hb6 he4 hc6
 replace hc1 := he4.obj hc1
 have e4 := e3.trans he4
 have hL4 := hL.ext he4
 have r34 := r3.ext Flat.ext he4
 have r44 := r4.ext Flat.ext he4
 clear r3 r4
 refine Sr ?_
 refine K.call (number_r _ _ m (Abs.layout m).hi w4 hM hL4 r44 (Abs.inR_hi (Abs.layCells_le hM))) ?_
 rintro _ w5 ⟨hB5, he5⟩
 obtain ⟨oa5, ca5, rfl, _⟩ := hB5.form
 have e9 : (Abs.dig (Abs.num m (Abs.layout m).hi)).reverse.length = Abs.byteN m := by rw [List.length_reverse]; rfl
 rw [e9]
 replace hc1 := he5.obj hc1
 replace hc6 := he5.obj hc6
 have e5 := e4.trans he5
 clear hB5
 refine Sr ?_
 apply K.cond <;> intro g1
 ·have hn : Abs.backRes m l = ([], 4) := by unfold Abs.backRes; rw [if_neg (not_not_intro hk), if_pos (by omega)]
  refine Sr ?_
  rw [hn]
  exact ⟨⟨_, rfl, SlR.nil⟩, e5⟩
 refine Sr ?_
 apply K.cond <;> intro g2
 ·have hn : Abs.backRes m l = ([], 5) := by unfold Abs.backRes; rw [if_neg (not_not_intro hk), if_neg (by omega), if_pos (by omega)]
  refine Sr ?_
  rw [hn]
  exact ⟨⟨_, rfl, SlR.nil⟩, e5⟩
 have hlen : l.length = Abs.byteN m := by omega
 have h64 : (Abs.layCells m).length ≤ 64 := Abs.layCells_le64 hM
 obtain ⟨N, hN⟩ : ∃ N, N = (Abs.layCells m).length := ⟨_, rfl⟩
 have fc : (Abs.layout m).cells = (N : Int) := by rw [hN]; rfl
 have hbase := Abs.base_le hM
 have hbase1 : ∀ x ∈ Abs.layCells m, 1 ≤ x.base := fun x hx => (hbase x hx).1
 have f2 := Abs.layout_lo_len m
 have f3 := Abs.layout_hi_len m
 refine Sr ?_
 refine K.mkN N fc (by omega) ?_
 intro w6 bS hbS he6 hcS
 rw [hN, ← Abs.outAt_zero _ l] at hcS
 have e6 := e5.trans he6
 have z6 := lt_of_heap hcS
 have hx1 : ∀ {W}, Mod (fun i => i = bS) w6 W → Ext w5 W := fun h => h.ext he6 fun i hi e => by omega
 have hb6' := hb8.ext Flat.ext e6
 replace hc6 := he6.obj hc6
 refine Sr ?_
 have n6 : b6 ≠ bS := by have := lt_of_heap hc6; have := he6.size; intro e; subst e; rw [hc6] at hcS; injection hcS with q; injection q with _ q; revert q; decide
 have hx6 : ∀ {W}, Mod (fun i => i = bS) w6 W → W.heap[b6]? = _ := fun h => h.obj n6 hc6
 refine K.whG [1, 2, 4, 5, 6, 7, 8] (fun y : Int × SlP => [(10, .int .i64 y.1), (9, .slice y.2.1 y.2.2.1 y.2.2.2)]) ((Abs.layout m).cells - 1, (ov, l.length, cv)) (fun y W => ∃ k : Nat, y.1 = (N : Int) - 1 - k ∧ k ≤ N ∧ Mod (fun i => i = bS) w6 W ∧ Byts W (.slice y.2.1 y.2.2.1 y.2.2.2) (Abs.sharesAt ((Abs.layCells m).drop (N - k)) l) ∧ W.heap[bS]? = some (.cells (intsC (Abs.outAt (Abs.layCells m) l k)).toArray T.int)) (fun y => (y.1 + 1).toNat) hZq ⟨0, by simp [fc], Nat.zero_le _, Mod.refl _ _, by rw [hN]; simpa [Abs.sharesAt] using hb6', hcS⟩ ?_
 clear hcS hc6
 rintro ⟨y, oa, n, c⟩ S w7 ⟨k, hy, hk7, hm7, hB7, hc7⟩
 simp only at hy hB7
 have hc6 := hx6 hm7
 have E7 := hx1 hm7
 have r37 := r34.ext Flat.ext (he5.trans E7)
 have r47 := r44.ext Flat.ext (he5.trans E7)
 refine Sr ?_
 apply K.cond <;> intro g3
 ·obtain ⟨i, rfl⟩ := Int.eq_ofNat_of_zero_le g3
  have hik : i = N - 1 - k := by omega
  have hi : i < (Abs.layCells m).length := by omega
  obtain ⟨B, hB⟩ : ∃ B : Nat, B = (Abs.layCells m)[i].base := ⟨_, rfl⟩
  have hBb := hbase _ (List.getElem_mem hi)
  rw [← hB] at hBb
  obtain ⟨L, hLL⟩ : ∃ L, L = Abs.sharesAt ((Abs.layCells m).drop (N - k)) l := ⟨_, rfl⟩
  obtain ⟨s1, s2, s3⟩ := Abs.sharesAt_ok hd (cs := (Abs.layCells m).drop (N - k)) fun x hx => hbase1 x (List.mem_of_mem_drop hx)
  rw [← hLL] at s1 s2 s3 hB7
  have hlo : (Abs.layout m).lo[i]'(by omega) = (Abs.layCells m)[i].lo := Abs.layout_lo_get _ hi
  have hhi : (Abs.layout m).hi[i]'(by omega) = (Abs.layCells m)[i].hi := Abs.layout_hi_get _ hi
  have hbd := Abs.cell_bd hM _ (List.getElem_mem hi)
  unfold Abs.BdOk at hbd
  obtain ⟨a3, rfl⟩ := r34.addr (by omega)
  obtain ⟨a4, rfl⟩ := r44.addr (by omega)
  refine Sr ?_
  intro w8 he8
  have hc68 := he8.obj hc6
  have r38 := r37.ext Flat.ext he8
  have r48 := r47.ext Flat.ext he8
  have hsh := share_r _ L B w8 (hB7.ext Flat.ext he8) s2 hBb (by omega)
  rw [show ((B : Nat) : Int) = (Abs.layout m).hi[i]'(by omega) - (Abs.layout m).lo[i]'(by omega) + 1 from by rw [hlo, hhi, hB]; unfold Abs.Cell.base; omega] at hsh
  clear hc6 r37 r47
  refine Sr ?_
  refine K.call hsh ?_
  rintro _ w9 ⟨⟨v', rfl, ho9⟩, he9⟩
  obtain ⟨oa9, ca9, rfl, _⟩ := ho9.form
  have he79 := he8.trans he9
  have hc9 := he79.obj hc7
  have hc69 := he9.obj hc68
  have hm9 : Mod (fun i => i = bS) w6 w9 := hm7.trans he79.mod
  have r39 := r38.ext Flat.ext he9
  have hq9 : (Abs.share L B 0).2 < B := (Abs.share_ok hBb.1 L 0 s2 (by omega)).1
  have hout := Abs.outAt_at (cs := Abs.layCells m) (b := l) (k := k) (i := i) hd hbase1 (by omega) (by omega) hi
  have hsa := Abs.sharesAt_at (cs := Abs.layCells m) (b := l) (k := k) (i := i) (by omega) (by omega) hi
  rw [← hN, ← hLL, ← hB] at hout hsa
  have hol := Abs.outAt_len (cs := Abs.layCells m) (b := l) (k := k) (by omega)
  clear hc68 r38 r48 hB7 hc7 hsh
  refine Sr ?_
  refine K.st1 hc9 (by rw [List.size_toArray, intsC_len]; omega) rfl fun w10 hw10 hc10 => ?_
  rw [hlo, intsC_set (Nat.mul_one _), hout] at hc10
  have hne : ∀ q, (Value.slice oa9 (Abs.share L B 0).1.length ca9).ownBlock = some q → q ≠ bS := fun q hq e => by
   have h1 := (ho9.lt q hq).1
   have h2 := hm7.size
   have h3 := he8.size
   omega
  refine Sr ?_
  refine ⟨((i : Int) - 1, (oa9, _, ca9)), hZq, ⟨k + 1, by simp only; omega, by omega, hm9.trans (hw10.mod rfl), ?_, hc10⟩, by simp only; omega⟩
  rw [hsa]
  exact OwR.slr (fun _ => rfl) (ho9.mod (hw10.mod (A := fun q => q = bS) rfl) hne)
 ·have hkN : k = N := by omega
  subst hkN
  rw [Nat.sub_self, List.drop_zero] at hB7
  rw [hN, Abs.outAt_all] at hc7
  obtain ⟨s1, s2, s3⟩ := Abs.sharesAt_ok hd (cs := Abs.layCells m) hbase1
  have hbl := Abs.backs_len (Abs.layCells m) (Abs.valB l)
  have hNums : ∀ {W}, Ext w7 W → Nums W (.slice (some ⟨bS, 0, none⟩) k k) (Abs.backs (Abs.layCells m) (Abs.valB l)).1 := fun e => nums_blk (e.obj hc7) (by omega) (by unfold maxLen; omega)
  obtain ⟨L, hLL⟩ : ∃ L, L = Abs.sharesAt (Abs.layCells m) l := ⟨_, rfl⟩
  rw [← hLL] at hB7 s1 s2 s3
  have hn7 := hB7.len.1
  have E57 := e5.trans E7
  refine Sr ?_
  refine K.forG 13 L.length [2, 6, 8, 9] (fun _ : Unit => []) () (fun j _ W => W = w7 ∧ ∀ i (h : i < L.length), i < j → L[i] = 0) hZq hZq ⟨rfl, fun i _ h => absurd h (Nat.not_lt_zero _)⟩ ?_
  rintro j _ S w8 hj ⟨rfl, hall⟩
  refine Sr ?_
  apply K.cond <;> intro g4
  ·have hj2 : j < L.length := by omega
   obtain ⟨a, rfl⟩ := hB7.addr (by omega)
   refine Sr ?_
   apply K.cond <;> intro g5
   ·refine Sr ?_
    refine ⟨hj2, Tr, (), trivial, Tr, fun i h hi => ?_⟩
    by_cases hij : i = j
    ·subst hij; omega
    ·exact hall i h (by omega)
   ·have hn := Abs.backRes_range hk hlen (by
     rw [← s3]
     intro h
     exact g5 (by have := Abs.valB_zero.1 h _ (List.getElem_mem hj2); omega))
    refine Sr ?_
    rw [hn]
    exact ⟨⟨_, rfl, SlR.nil⟩, E57⟩
  have hz : (Abs.backs (Abs.layCells m) (Abs.valB l)).2 = 0 := by
   rw [← s3]
   refine Abs.valB_zero.2 fun d hd' => ?_
   obtain ⟨i, hi, rfl⟩ := List.mem_iff_getElem.1 hd'
   exact hall i hi (by omega)
  have hc17 := E7.obj hc1
  refine Sr ?_
  refine K.call (rFits_r _ _ m _ _ w8 (hMI.ext E57) (hL4.ext (he5.trans E7)) hM (hNums (Ext.refl _))) ?_
  rintro _ w9 ⟨⟨u, rfl, hu⟩, he9⟩
  cases u with
  | false =>
   have hn := Abs.backRes_form hk hlen hz (fun h => by have := hu.2 h; cases this)
   refine Sr ?_
   rw [hn]
   exact ⟨⟨_, rfl, SlR.nil⟩, E57.trans he9⟩
  | true =>
   have hn := Abs.backRes_ok hk hlen hz (hu.1 rfl)
   refine Sr ?_
   rw [hn]
   exact ⟨⟨_, rfl, hNums he9⟩, E57.trans he9⟩
end Go.Proofs.YtglnobabdcoknaaGreatDoor
end
section
namespace Abs
open Go
theorem exTiny_fits2 : Fits exTiny [2, 0] := by
 refine ⟨by rw [exTiny_lay]; rfl, fun j h => absurd h (Nat.not_lt_zero _), fun j h h' => ?_⟩
 have e := congrArg (fun l => l[j]?) exTiny_cells
 simp only [List.getElem?_map, List.getElem?_eq_getElem h', Option.map_some] at e
 match j, h, h', e with
 | 0, _, _, e => simp at e; simp [e.1, e.2]
 | 1, _, _, e => simp at e; simp [e.1, e.2]
 | n + 2, h, _, _ => simp at h; omega
theorem exTiny_num : num exTiny [2, 0] = 2 := by decide +kernel
theorem exTiny_most : most exTiny = 3 := by decide +kernel
theorem dig_two : dig 2 = [2] := by rw [dig_pos (by decide)]; simp [dig_zero]
theorem dig_three : dig 3 = [3] := by rw [dig_pos (by decide)]; simp [dig_zero]
theorem exTiny_byteN : byteN exTiny = 1 := by unfold byteN; rw [exTiny_most, dig_three]; rfl
theorem exTiny_bytes : bytesRes exTiny [2, 0] = ([2], 0) := by
 rw [bytesRes_of exTiny_ok exTiny_fits2]
 unfold bytes fixed
 rw [exTiny_num, exTiny_byteN, dig_two]
 rfl
theorem exTiny_backs3 : backs (layCells exTiny) (valB [3]) = ([3, 0], 0) := by decide +kernel
theorem exTiny_backs4 : (backs (layCells exTiny) (valB [4])).2 = 1 := by decide +kernel
theorem exTiny_back3 : backRes exTiny [3] = ([3, 0], 0) := by
 have e := exTiny_backs3
 rw [backRes_ok exTiny_ok (by rw [exTiny_byteN]; rfl) (by rw [e]) (by rw [e]; exact exTiny_fits), e]
theorem exTiny_back4 : backRes exTiny [4] = ([], 10) := backRes_range exTiny_ok (by rw [exTiny_byteN]; rfl) (by rw [exTiny_backs4]; decide)
theorem exTiny_back0 : backRes exTiny [] = ([], 4) := by
 unfold backRes
 rw [if_neg (not_not_intro exTiny_ok), if_pos (by rw [exTiny_byteN]; decide)]
theorem exTiny_env : envOf exTiny [2, 0] 0 = spoken exTiny [2, 0] 0 := by
 unfold envOf
 rw [if_pos ⟨⟨exTiny_ok, exTiny_fits2⟩, by decide, by decide +kernel⟩]
theorem exTiny_vars : (spoken exTiny [2, 0] 0).vars = [[2]] := by decide +kernel
theorem exTiny_at : (spoken exTiny [2, 0] 0).at_ = [[1]] := by decide +kernel
end Abs
namespace Go.Proofs.YtglnobabdcoknaaGreatDoor
open Go Go.RowKit Lite
theorem nums2 {w : World} {b : Nat} {x y : Int} (h : w.heap[b]? = some (.cells #[.int .i64 x, .int .i64 y] T.int)) : Nums w (.slice (some ⟨b, 0, none⟩) 2 2) [x, y] := nums_blk (l := [x, y]) h rfl (by simp [maxLen])
theorem nums1 {w : World} {b : Nat} {x : Int} (h : w.heap[b]? = some (.cells #[.int .i64 x] T.int)) : Nums w (.slice (some ⟨b, 0, none⟩) 1 1) [x] := nums_blk (l := [x]) h rfl (by simp [maxLen])
theorem byts1 {w : World} {b : Nat} {x : Nat} (h : w.heap[b]? = some (.cells #[.int .u8 x] T.uint8)) : Byts w (.slice (some ⟨b, 0, none⟩) 1 1) [x] := byts_blk (l := [x]) h rfl (by simp [maxLen])
theorem numss1 {w : World} {b : Nat} {v : Value} {l : List Int} (h : w.heap[b]? = some (.cells #[v] T.sl_int)) (k : Nums w v l) : Numss w (.slice (some ⟨b, 0, none⟩) 1 1) [l] :=
 ⟨_, _, rfl, Nat.le_refl _, by simp [maxLen], fun _ => rfl, fun a ha i hi => by
  injection ha with ha; subst ha
  have : i = 0 := by simp at hi; omega
  subst this
  exact ⟨v, cell_blk (j := 0 * 1) h rfl, k⟩⟩
theorem ints18_e (u v : Value) (s : List Int) (w : World) (hs : Nums w u s) (ht : Nums w v s) : Ret Tryz.prog F.lw18_ints #[u, v] w fun x w' => x = .bool true ∧ Ext w w' :=
 (ints18_r u v s s w hs ht).mono fun x w' ⟨h, he⟩ => ⟨by rw [h, decide_eq_true rfl], he⟩
theorem lists18_e (u v : Value) (s : List (List Int)) (w : World) (hs : Numss w u s) (ht : Numss w v s) : Ret Tryz.prog F.lw18_lists #[u, v] w fun x w' => x = .bool true ∧ Ext w w' :=
 (lists18_r u v s s w hs ht).mono fun x w' ⟨h, he⟩ => ⟨by rw [h, decide_eq_true rfl], he⟩
theorem awake18_r (w : World) (ho : OwnIs w) : Ret Tryz.prog F.lw18_awake #[] w fun v w' => v = .bool true ∧ Ext w w' := by
 refine Ks E.lw18_awake ?_; dsimp only [C.lw18_awake]; refine Yy ?_
 refine Sr ?_
 refine K.call (tiny_r w) ?_
 rintro _ w1 ⟨⟨cs, rfl, hM⟩, he1⟩
 have hMI := hM
 obtain ⟨o0, c0, o1, c1, o2, c2, o3, c3, o4, c4, rfl, _⟩ := hM.form
 have hg := Abs.exTiny_good
 refine Sr ?_
 intro w2 b1 hb1 he2 hc1
 have e2 := he1.trans he2
 have hM2 := hMI.ext he2
 refine Sr ?_
 intro w3 b14 hb14 he3 hc14
 replace hc1 := he3.obj hc1
 have e3 := e2.trans he3
 refine Sr ?_
 refine K.call (bytes_r _ _ Abs.exTiny [2, 0] w3 (hM2.ext he3) hg (ho.ext e3) (nums2 hc14)) ?_
 rintro _ w4 ⟨⟨vb, rfl, hvb⟩, he4⟩
 rw [Abs.exTiny_bytes] at hvb ⊢
 obtain ⟨ob, cb, rfl, _⟩ := hvb.form
 replace hc1 := he4.obj hc1
 have e4 := e3.trans he4
 have hM4 := hM2.ext (he3.trans he4)
 refine Sr ?_
 intro w5 b20 hb20 he5 hc20
 replace hc1 := he5.obj hc1
 have e5 := e4.trans he5
 refine Sr ?_
 refine K.call (back_r _ _ Abs.exTiny [3] w5 (hM4.ext he5) hg (ho.ext e5) (byts1 (x := 3) hc20) (by simp) (by simp)) ?_
 rintro _ w6 ⟨⟨vs, rfl, hvs⟩, he6⟩
 rw [Abs.exTiny_back3] at hvs ⊢
 obtain ⟨os, cs', rfl, _⟩ := hvs.form
 replace hc1 := he6.obj hc1
 have e6 := e5.trans he6
 have hM6 := hM4.ext (he5.trans he6)
 replace hvb := hvb.ext Flat.ext (he5.trans he6)
 refine Sr ?_
 refine K.call (back_r _ _ Abs.exTiny [] w6 hM6 hg (ho.ext e6) SlR.nil (by simp) (by simp)) ?_
 rintro _ w7 ⟨⟨v7, rfl, hv7⟩, he7⟩
 rw [Abs.exTiny_back0] at hv7 ⊢
 obtain ⟨o7, c7, rfl, _⟩ := hv7.form
 replace hc1 := he7.obj hc1
 have e7 := e6.trans he7
 refine Sr ?_
 intro w8 b31 hb31 he8 hc31
 replace hc1 := he8.obj hc1
 have e8 := e7.trans he8
 have hM8 := hM6.ext (he7.trans he8)
 replace hvb := hvb.ext Flat.ext (he7.trans he8)
 replace hvs := hvs.ext Flat.ext (he7.trans he8)
 refine Sr ?_
 refine K.call (back_r _ _ Abs.exTiny [4] w8 hM8 hg (ho.ext e8) (byts1 (x := 4) hc31) (by simp) (by simp)) ?_
 rintro _ w9 ⟨⟨v9, rfl, hv9⟩, he9⟩
 rw [Abs.exTiny_back4] at hv9 ⊢
 obtain ⟨o9, c9, rfl, _⟩ := hv9.form
 replace hc1 := he9.obj hc1
 have e9 := e8.trans he9
 refine Sr ?_
 intro w10 b36 hb36 he10 hc36
 replace hc1 := he10.obj hc1
 have e10 := e9.trans he10
 have hM10 := hM8.ext (he9.trans he10)
 replace hvb := hvb.ext Flat.ext (he9.trans he10)
 replace hvs := hvs.ext Flat.ext (he9.trans he10)
 refine Sr ?_
 refine K.call (env_r _ _ Abs.exTiny [2, 0] 0 w10 hM10 hg (ho.ext e10) (nums2 hc36)) ?_
 rintro _ w11 ⟨⟨es, rfl, hE⟩, he11⟩
 rw [Abs.exTiny_env] at hE
 obtain ⟨u0, u1, u2, u3, rfl, q0, q1, q2, q3⟩ := hE.here.ex
 rw [Abs.exTiny_vars] at q0
 rw [Abs.exTiny_at] at q3
 obtain ⟨ou0, cu0, rfl, _⟩ := q0.form
 obtain ⟨_, _, rfl, _⟩ := q1.form
 obtain ⟨_, _, rfl, _⟩ := q2.form
 obtain ⟨ou3, cu3, rfl, _⟩ := q3.form
 replace hc1 := he11.obj hc1
 have e11 := e10.trans he11
 refine Sr ?_
 intro w12 b10 hb10 he12 hc10
 replace hc1 := he12.obj hc1
 have e12 := e11.trans he12
 have hM12 := hM10.ext (he11.trans he12)
 replace hvb := hvb.ext Flat.ext (he11.trans he12)
 replace hvs := hvs.ext Flat.ext (he11.trans he12)
 replace q0 := q0.ext NumsRow.ext he12
 replace q3 := q3.ext NumsRow.ext he12
 refine Sr ?_
 refine K.call (first_r _ Abs.exTiny w12 hM12 hg (ho.ext e12)) ?_
 rintro vf w13 ⟨⟨hF, _⟩, he13⟩
 replace hF := hF Abs.exTiny_ok
 rw [Abs.exTiny_first] at hF
 obtain ⟨of, cf, rfl, _⟩ := hF.form
 replace hc1 := he13.obj hc1
 replace hc10 := he13.obj hc10
 have e13 := e12.trans he13
 refine Sr ?_
 intro w14 b40 hb40 he14 hc40
 replace hc1 := he14.obj hc1
 replace hc10 := he14.obj hc10
 have e14 := e13.trans he14
 refine Sr ?_
 refine K.call (ints18_e _ _ [1, 0] w14 (hF.ext Flat.ext he14) (nums2 hc40)) ?_
 rintro _ w15 ⟨rfl, he15⟩
 replace hc1 := he15.obj hc1
 replace hc10 := he15.obj hc10
 have e15 := e14.trans he15
 refine Sr ?_
 intro w16 b44 hb44 he16 hc44
 replace hc1 := he16.obj hc1
 replace hc10 := he16.obj hc10
 have e16 := e15.trans he16
 have hM16 := hM12.ext (he13.trans (he14.trans (he15.trans he16)))
 refine Sr ?_
 refine K.call (stRight_r _ Abs.exTiny _ [3, 0] w16 hM16 hg (ho.ext e16) (nums2 hc44)) ?_
 rintro _ w17 ⟨⟨t, rfl, ht⟩, he17⟩
 obtain rfl := ht.2 ⟨Abs.exTiny_ok, Abs.exTiny_fits⟩
 replace hc1 := he17.obj hc1
 replace hc10 := he17.obj hc10
 have e17 := e16.trans he17
 refine Sr ?_
 intro w18 b49 hb49 he18 hc49
 replace hc10 := he18.obj hc10
 have e18 := e17.trans he18
 refine Sr ?_
 refine K.call (stRight_r _ Abs.exTiny _ [3, 1] w18 (hM16.ext (he17.trans he18)) hg (ho.ext e18) (nums2 hc49)) ?_
 rintro _ w19 ⟨⟨t, rfl, ht⟩, he19⟩
 obtain rfl : t = false := by cases t with | false => rfl | true => exact absurd (ht.1 rfl).2 Abs.exTiny_unfit
 replace hc10 := he19.obj hc10
 have e19 := e18.trans he19
 have e1219 : Ext w12 w19 := (he13.trans (he14.trans (he15.trans he16))).trans (he17.trans (he18.trans he19))
 refine Sr ?_
 refine K.b2s (e := T.uint8) (l := [2]) (by kernel_rfl) (by kernel_rfl) (by kernel_rfl) (by simp only [ev_tmp, upd_at]; rfl) (hvb.ext Flat.ext e1219) ?_
 refine Sr ?_
 refine K.condT rfl ?_
 refine Sr ?_
 intro w20 b68 hb68 he20 hc68
 replace hc10 := he20.obj hc10
 have e20 := e19.trans he20
 refine Sr ?_
 refine K.call (ints18_e _ _ [3, 0] w20 (hvs.ext Flat.ext (e1219.trans he20)) (nums2 hc68)) ?_
 rintro _ w21 ⟨rfl, he21⟩
 replace hc10 := he21.obj hc10
 have e21 := e20.trans he21
 refine Sr ?_
 intro w22 b82 hb82 he22 hc82
 refine Sr ?_
 intro w23 b83 hb83 he23 hc83
 replace hc10 := (he22.trans he23).obj hc10
 have e23 := e21.trans (he22.trans he23)
 have e1223 : Ext w12 w23 := (e1219.trans (he20.trans he21)).trans (he22.trans he23)
 refine Sr ?_
 refine K.call (lists18_e _ _ [[2]] w23 (q0.ext NumsRow.ext e1223) (numss1 hc83 (nums1 (he23.obj hc82)))) ?_
 rintro _ w24 ⟨rfl, he24⟩
 replace hc10 := he24.obj hc10
 refine Sr ?_
 intro w25 b89 hb89 he25 hc89
 refine Sr ?_
 intro w26 b90 hb90 he26 hc90
 have e2326 : Ext w23 w26 := he24.trans (he25.trans he26)
 refine Sr ?_
 refine K.call (lists18_e _ _ [[1]] w26 (q3.ext NumsRow.ext (e1223.trans e2326)) (numss1 hc90 (nums1 (he26.obj hc89)))) ?_
 rintro _ w27 ⟨rfl, he27⟩
 refine Sr ?_
 exact ⟨Tr, e23.trans (e2326.trans he27)⟩
end Go.Proofs.YtglnobabdcoknaaGreatDoor
end
section
namespace Abs
structure LightM (m : Model) : Prop where
 s : m.scalars.length ≤ 8
 v : m.vars.length ≤ 20
 c : m.chans.length ≤ 8
 p : m.procs.length ≤ 10
 q : m.props.length ≤ 16
 i : ∀ (j : Nat) (h : j < m.procs.length), m.procs[j].vars.length ≤ 10 ∧ m.procs[j].cmds.length ≤ 16
end Abs
namespace Go.Proofs.YtglnobabdcoknaaGreatDoor
open Go Go.RowKit Lite
theorem lightC_r (cs : List Value) (c : Abs.Cmd) (w : World) (h : Abs.CmdIs w cs c) :
  Ret Tryz.prog F.lr15_light #[.agg cs.toArray] w fun v w' => (∃ b : Bool, v = .bool b) ∧ Ext w w' := by
 obtain ⟨h0, _, _, rfl, hg, ha⟩ := h
 obtain ⟨_, _, rfl, _⟩ := hg.form
 obtain ⟨oa, ca, rfl, la⟩ := ha.form
 unfold Abs.Cmd.enc
 refine Ks E.lr15_light ?_; dsimp only [C.lr15_light]; refine Yy ?_
 refine Sg ?_
 intro w1 b1 hb1 he1 hc1
 refine Sg ?_
 apply K.cond <;> intro g0
 ·refine Sg ?_
  exact ⟨⟨_, rfl⟩, he1⟩
 refine Sg ?_
 apply K.cond <;> intro g1
 ·refine Sg ?_
  exact ⟨⟨_, rfl⟩, he1⟩
 refine Sg ?_
 apply K.cond <;> intro g2
 ·refine Sg ?_
  exact ⟨⟨_, rfl⟩, he1⟩
 refine Sg ?_
 refine K.forG 3 c.acts.length [1] (fun _ => []) () (fun k _ w' => w' = w1) hZq hZq rfl ?_
 rintro k _ S w2 hk rfl
 refine Sg ?_
 apply K.cond <;> intro g5
 ·have hk' : k < c.acts.length := by omega
  obtain ⟨a, rfl⟩ := ha.addr (by omega)
  obtain ⟨vv, vc, hp, hpv, hpc⟩ := ha.at k hk'
  obtain ⟨ov, cv, rfl, lv⟩ := hpv.form
  obtain ⟨oc, cc, rfl, lc⟩ := hpc.form
  refine Sg ?_
  apply K.cond <;> intro g6
  ·refine Sg ?_
   exact ⟨⟨_, rfl⟩, he1⟩
  refine Sg ?_
  apply K.cond <;> intro g7
  ·refine Sg ?_
   exact ⟨⟨_, rfl⟩, he1⟩
  refine Sg ?_
  exact ⟨hk', Tr, (), trivial, Tr⟩
 refine Sg ?_
 exact ⟨⟨_, rfl⟩, he1⟩
theorem light15_r (cs : List Value) (m : Abs.Model) (w : World) (h : Abs.ModelIs w cs m) :
  Ret Tryz.prog F.lr15_Light #[.agg cs.toArray] w fun v w' => (∃ b, v = .bool b ∧ (b = true → Abs.LightM m)) ∧ Ext w w' := by
 obtain ⟨o0, c0, o1, c1, o2, c2, o3, c3, o4, c4, rfl, h0, h1, h2, h3, h4, l0, l1, l2, l3, l4⟩ := h.form
 refine Ks E.lr15_Light ?_; dsimp only [C.lr15_Light]; refine Yy ?_
 refine Sg ?_
 intro w1 b1 hb1 he1 hc1
 refine Sg ?_
 apply K.cond <;> intro g0
 ·refine Sg ?_
  exact ⟨⟨false, rfl, fun h => by cases h⟩, he1⟩
 refine Sg ?_
 apply K.cond <;> intro g1
 ·refine Sg ?_
  exact ⟨⟨false, rfl, fun h => by cases h⟩, he1⟩
 refine Sg ?_
 apply K.cond <;> intro g2
 ·refine Sg ?_
  exact ⟨⟨false, rfl, fun h => by cases h⟩, he1⟩
 refine Sg ?_
 apply K.cond <;> intro g3
 ·refine Sg ?_
  exact ⟨⟨false, rfl, fun h => by cases h⟩, he1⟩
 refine Sg ?_
 apply K.cond <;> intro g4
 ·refine Sg ?_
  exact ⟨⟨false, rfl, fun h => by cases h⟩, he1⟩
 have hc0 := hc1
 refine Sg ?_
 refine K.forG 3 m.procs.length [1] (fun _ => []) () (fun k _ w' => Ext w1 w' ∧ ∀ j (h : j < m.procs.length), j < k → m.procs[j].vars.length ≤ 10 ∧ m.procs[j].cmds.length ≤ 16) hZq hZq ⟨Ext.refl _, fun j _ h => absurd h (Nat.not_lt_zero _)⟩ ?_
 rintro k _ S w2 hk ⟨he2, hall⟩
 replace hc1 := he2.obj hc0
 have e2 := he1.trans he2
 refine Sg ?_
 apply K.cond <;> intro g5
 ·have hk' : k < m.procs.length := by omega
  obtain ⟨a, rfl⟩ := h3.addr (by omega)
  obtain ⟨_, vv, vc, hp, hpv, hpc⟩ := h3.at k hk'
  obtain ⟨ov, cv, rfl, lv⟩ := hpv.form
  obtain ⟨oc, cc, rfl, lc⟩ := hpc.form
  refine Sg ?_
  apply K.cond <;> intro g6
  ·refine Sg ?_
   exact ⟨⟨false, rfl, fun h => by cases h⟩, e2⟩
  refine Sg ?_
  apply K.cond <;> intro g7
  ·refine Sg ?_
   exact ⟨⟨false, rfl, fun h => by cases h⟩, e2⟩
  refine Sg ?_
  refine K.forG 4 m.procs[k].cmds.length [1, 3] (fun _ => []) () (fun i _ w' => Ext w1 w') hZq hZq he2 ?_
  clear hc1 e2 he2
  rintro i _ S w3 hi he2
  have hc1 := he2.obj hc0
  have e2 := he1.trans he2
  refine Sg ?_
  apply K.cond <;> intro g8
  ·have hi' : i < m.procs[k].cmds.length := by omega
   obtain ⟨ac, rfl⟩ := hpc.addr (by omega)
   obtain ⟨cc1, hcc, hC⟩ := Rel.out (hpc.at i hi')
   obtain ⟨_, _, _, rfl, _, _⟩ := id hC
   refine Sg ?_
   refine K.call (lightC_r _ m.procs[k].cmds[i] w3 (hC.ext e2)) ?_
   rintro _ w4 ⟨⟨b, rfl⟩, he4⟩
   cases b with
   | false =>
    refine Sg ?_
    exact ⟨⟨false, rfl, fun h => by cases h⟩, e2.trans he4⟩
   | true =>
    refine Sg ?_
    exact ⟨hi', Tr, (), trivial, he2.trans he4⟩
  ·refine Sg ?_
   refine ⟨hk', Tr, (), trivial, he2, fun j hj hjk => ?_⟩
   by_cases hjj : j = k
   ·subst hjj; exact ⟨by omega, by omega⟩
   ·exact hall j hj (by omega)
 refine Sg ?_
 refine K.forG 5 m.props.length [1] (fun _ => []) () (fun i _ w' => w' = w2) hZq hZq rfl ?_
 rintro i _ S w3 hi rfl
 refine Sg ?_
 apply K.cond <;> intro g8
 ·have hi' : i < m.props.length := by omega
  obtain ⟨ac, rfl⟩ := h4.addr (by omega)
  obtain ⟨_, ve, hcc, hve⟩ := h4.at i hi'
  obtain ⟨ov, cv, rfl, lv⟩ := hve.form
  refine Sg ?_
  apply K.cond <;> intro g9
  ·refine Sg ?_
   exact ⟨⟨false, rfl, fun h => by cases h⟩, e2⟩
  refine Sg ?_
  exact ⟨hi', Tr, (), trivial, Tr⟩
 refine Sg ?_
 exact ⟨⟨true, rfl, fun _ => ⟨by omega, by omega, by omega, by omega, by omega, fun j hj => hall j hj (by omega)⟩⟩, e2⟩
end Go.Proofs.YtglnobabdcoknaaGreatDoor
end
section
namespace Lite
open Go Go.RowKit
end Lite
namespace Go.Proofs.YtglnobabdcoknaaGreatDoor
open Go Go.RowKit Lite
theorem lawStateBacks_r (cs : List Value) (v : Value) (m : Abs.Model) (l : List Nat) (w : World) (h : Abs.ModelIs w cs m) (hg : m.good) (ho : OwnIs w) (hs : Byts w v l) (hd : ∀ d ∈ l, d < 256) :
  Ret Tryz.prog F.lw18_StateBacks #[.agg cs.toArray, v] w fun u w' => u = .bool true ∧ Ext w w' := by
 have hM := h
 obtain ⟨o0, c0, o1, c1, o2, c2, o3, c3, o4, c4, rfl, _⟩ := h.form
 obtain ⟨ov, cv, rfl, lv⟩ := hs.form
 refine Ks E.lw18_StateBacks ?_; dsimp only [C.lw18_StateBacks]; refine Yy ?_
 refine Sr ?_
 intro w1 b1 hb1 he1 hc1
 refine Sr ?_
 refine K.call (light15_r _ m w1 (hM.ext he1)) ?_
 rintro _ w2 ⟨⟨b, rfl, hb⟩, he2⟩
 replace hc1 := he2.obj hc1
 have e2 := he1.trans he2
 have aw : ∀ {W}, Ext w W → Ret Tryz.prog F.lw18_awake #[] W fun v w' => v = .bool true ∧ Ext W w' := fun e => awake18_r _ (ho.ext e)
 cases b with
 | false =>
  refine Sr ?_
  refine K.call (aw e2) ?_
  rintro _ w3 ⟨rfl, he3⟩
  refine Sr ?_
  exact ⟨Tr, e2.trans he3⟩
 | true =>
  refine Sr ?_
  apply K.cond <;> intro g1
  ·refine Sr ?_
   refine K.call (aw e2) ?_
   rintro _ w3 ⟨rfl, he3⟩
   refine Sr ?_
   exact ⟨Tr, e2.trans he3⟩
  refine Sr ?_
  refine K.call (back_r _ _ m l w2 (hM.ext e2) hg (ho.ext e2) (hs.ext Flat.ext e2) hd (by omega)) ?_
  rintro _ w3 ⟨⟨va, rfl, hva⟩, he3⟩
  obtain ⟨oa, ca, rfl, _⟩ := hva.form
  replace hc1 := he3.obj hc1
  have e3 := e2.trans he3
  refine Sr ?_
  refine K.call (rBack18_r _ _ m l w3 (hM.ext e3) hg (hs.ext Flat.ext e3) hd (by omega)) ?_
  rintro _ w4 ⟨⟨vb, rfl, hvb⟩, he4⟩
  obtain ⟨ob, cb, rfl, _⟩ := hvb.form
  have e4 := e3.trans he4
  refine Sr ?_
  refine K.call (ints18_e _ _ _ w4 (hva.ext Flat.ext he4) hvb) ?_
  rintro _ w5 ⟨rfl, he5⟩
  have e5 := e4.trans he5
  refine Sr ?_
  refine K.call (aw e5) ?_
  rintro _ w6 ⟨rfl, he6⟩
  refine Sr ?_
  exact ⟨Tr, e5.trans he6⟩
end Go.Proofs.YtglnobabdcoknaaGreatDoor
end
section
namespace Lite
open Go Go.RowKit
end Lite
namespace Abs
end Abs
namespace Go.Proofs.YtglnobabdcoknaaGreatDoor
open Go Go.RowKit Lite
end Go.Proofs.YtglnobabdcoknaaGreatDoor
end
section
namespace Lite
open Go Go.RowKit Go.ChangeShapes Go.WideShapes Go.Deep
section
variable {H : Type} {enc : TypeId × Value → H} {P : Program} {w : World} {base : Nat} {spare : Nat → Bool} {held : Bool}
theorem fields2 {t : TypeId} {fs : Array Field} {n : Nat} {cs : List Value} {y : DataW H × List MemPlace} (ht : P.underlying t = some (.struct fs)) (hone : oneCellFields P fs = true) (hC : P.cellsOf t = fs.size)
  (h : DataW.trod enc P w base spare held n t cs = some y) : cs.length = fs.size ∧ ∃ n' ds, y.1 = .agg ds ∧ ∀ (j : Nat) (f : Field), fs[j]? = some f → ∃ v z, cs[j]? = some v ∧ DataW.trod enc P w base spare held n' f.type [v] = some z ∧ ds[j]? = some z.1 := by
 obtain ⟨ys, n', hn', hy, hlen, hyl, hf⟩ := DataW.trod_struct ht h
 refine ⟨by omega, n', _, by rw [hy], fun j f hj => ?_⟩
 obtain ⟨ho, hk⟩ := hone_of hone j f hj
 have hjl : j < fs.size := (Array.getElem?_eq_some_iff.1 hj).1
 have hv : cs[j]? = some (cs[j]'(by omega)) := List.getElem?_eq_getElem (by omega)
 have h1 := hf j f hj
 rw [ho, hk] at h1
 have hone' : (cs.drop j).take 1 = [cs[j]'(by omega)] := by
  rw [List.drop_eq_getElem_cons (by omega)]
  rfl
 rw [hone', List.getElem?_eq_getElem (l := ys) (by omega)] at h1
 exact ⟨_, _, hv, h1, by rw [List.getElem?_map, List.getElem?_eq_getElem (by omega)]; rfl⟩
def Small (P : Program) (t : TypeId) (d : DataW H) : Prop := ∀ q ∈ d.weights P t, q ≤ reachBytes
theorem Small.field {t u : TypeId} {fs : Array Field} {ds : List (DataW H)} {j : Nat} {d : DataW H} {f : Field} (h : Small P t (.agg ds)) (ht : P.underlying t = some (.struct fs)) (hf : fs[j]? = some f) (hu : f.type = u) (hd : ds[j]? = some d) : Small P u d := by
 subst hu
 intro q hq
 refine h q ?_
 simp only [DataW.weights, ht]
 exact DataW.weights_mem_each (j := j) (by simp [hf]) hd q hq
theorem cell_sl {α : Type} {R : World → Addr → α → Prop} {t e : TypeId} {v : Value} {n : Nat} {z : DataW H × List MemPlace} (sz : Nat) (ht : P.underlying t = some (.slice e)) (hC : P.cellsOf e = sz) (hB : 0 < P.bytesOf e)
  (hR : ∀ (a : Addr) (cs : List Value) (n : Nat) (y : DataW H × List MemPlace), CellsAt w a cs → cs.length = sz → DataW.trod enc P w 0 (fun _ => true) true n e cs = some y → ∃ x, R w a x)
  (h : DataW.trod enc P w 0 (fun _ => true) true n t [v] = some z) : ∃ xs, SlR sz R w v xs ∧ (Small P t z.1 → xs.length ≤ 140737488355328) := by
 rcases open_slice ht h with ⟨hcs, _⟩ | ⟨a, len, cap, m, n, D, Pl, hcs, hb, hl, hm, hmm, hx, hi⟩
 ·simp at hcs
  subst hcs
  exact ⟨[], SlR.nil, fun _ => by simp⟩
 ·simp at hcs
  subst hcs
  simp only [if_true] at hmm
  subst hmm
  obtain ⟨xs, hxl, hxs⟩ := list_of len (fun i x => R w (a.add (i * sz)) x) fun i hi' => by
   obtain ⟨cs', hc, ht'⟩ := hi i (by omega)
   rw [hC] at hc
   obtain ⟨_, hcl, hat⟩ := World.cells?_some hc
   refine hR _ cs' n _ (fun j u hj => ?_) hcl ht'
   have hjl' : j < sz := hcl ▸ (List.getElem?_eq_some_iff.1 hj).1
   rw [← hj]
   exact hat j hjl'
  refine ⟨xs, ⟨some a, _, by rw [hxl], by omega, hm, fun _ => rfl, fun a' ha => by injection ha with ha; subst ha; exact hxs⟩, fun hs => ?_⟩
  have h1 := hs ((len + (m - len)) * P.bytesOf e) (by rw [hx]; simp [DataW.weights, ht])
  have h2 := reachBytes_lt
  have h3 : len ≤ (len + (m - len)) * P.bytesOf e := Nat.le_trans (Nat.le_add_right len _) (Nat.le_mul_of_pos_right _ hB)
  rw [hxl]
  omega
theorem arg_sl {r : Reach} {b0 : Nat} {t e : TypeId} {v : Value} {d : DataW H} {p : List MemPlace} (ht : P.underlying t = some (.slice e)) (hval : Value.okWide P w r b0 t v) (h : DataW.Trod enc P w 0 (fun _ => true) true t v d p) :
  ∃ n, DataW.trod enc P w 0 (fun _ => true) true n t [v] = some (d, p) := by
 obtain ⟨a0, len0, cap0, rfl⟩ := okWide_slice ht hval
 obtain ⟨n, hn⟩ := h
 exact ⟨n, hn⟩
end
end Lite
namespace Go.Proofs.YtglnobabdcoknaaGreatDoor
open Go Go.RowKit Lite Go.ChangeShapes
variable {H : Type} {enc : TypeId × Value → H} {w : World} {cs : List Value} {n : Nat} {y : DataW H × List MemPlace} {v : Value}
theorem wf_inI {z : Int} (h : (Lit.int .i64 z).wf = true) : Abs.inI z := by
 simp only [Lit.wf, Bool.and_eq_true, decide_eq_true_eq] at h
 exact ⟨h.1, h.2⟩
theorem node_el (h : DataW.trod enc Tryz.prog w 0 (fun _ => true) true n T.api_Node cs = some y) : ∃ x : Abs.Node, cs = x.enc ∧ x.ok := by
 obtain ⟨hl, n', ds, _, hf⟩ := fields2 (t := T.api_Node) rfl (by kernel_rfl) (by kernel_rfl) h
 match cs, hl with
 | [c0, c1], _ =>
  obtain ⟨_, _, e0, h0, _⟩ := hf 0 _ rfl
  obtain ⟨_, _, e1, h1, _⟩ := hf 1 _ rfl
  cases e0; cases e1
  obtain ⟨z0, e0, _, k0⟩ := DataW.trod_int (k := .i64) (by kernel_rfl) h0
  obtain ⟨z1, e1, _, k1⟩ := DataW.trod_int (k := .i64) (by kernel_rfl) h1
  cases e0; cases e1
  exact ⟨⟨z0, z1⟩, rfl, wf_inI k0, wf_inI k1⟩
end Go.Proofs.YtglnobabdcoknaaGreatDoor
end
section
namespace Lite
open Go Go.RowKit Go.ChangeShapes Go.WideShapes Go.Deep
end Lite
namespace Go.Proofs.YtglnobabdcoknaaGreatDoor
open Go Go.RowKit Lite Go.ChangeShapes
variable {H : Type} {enc : TypeId × Value → H} {w : World} {r : Reach} {b0 : Nat} {v : Value} {d : DataW H} {p : List MemPlace}
end Go.Proofs.YtglnobabdcoknaaGreatDoor
end
section
namespace Go.Proofs.YtglnobabdcoknaaGreatDoor
open Go Go.RowKit Lite Go.ChangeShapes
variable {H : Type} {enc : TypeId × Value → H} {w : World} {r : Reach} {b0 : Nat} {v : Value} {d : DataW H} {p : List MemPlace}
end Go.Proofs.YtglnobabdcoknaaGreatDoor
end
section
namespace Go.Proofs.YtglnobabdcoknaaGreatDoor
open Go Go.RowKit Lite Go.ChangeShapes
variable {H : Type} {enc : TypeId × Value → H} {w : World} {r : Reach} {b0 : Nat} {v : Value} {d : DataW H} {p : List MemPlace}
def RByt (w : World) (a : Addr) (x : Nat) : Prop := CellsAt w a (encB x) ∧ x < 256
theorem wf_u8 {z : Int} (h : (Lit.int .u8 z).wf = true) : 0 ≤ z ∧ z ≤ 255 := by
 simp only [Lit.wf, Bool.and_eq_true, decide_eq_true_eq] at h
 exact ⟨h.1, h.2⟩
theorem byts_c {n : Nat} {y : DataW H × List MemPlace} (h : DataW.trod enc Tryz.prog w 0 (fun _ => true) true n T.sl_uint8 [v] = some y) : ∃ l, SlR 1 RByt w v l ∧ (Small Tryz.prog T.sl_uint8 y.1 → l.length ≤ 140737488355328) :=
 cell_sl (e := T.uint8) 1 (by kernel_rfl) (by kernel_rfl) (by decide +kernel) (fun a cs n y hc hl ht => by
  obtain ⟨z, e, _, kz⟩ := DataW.trod_int (k := .u8) (by kernel_rfl) ht
  cases e
  have hz : 0 ≤ z ∧ z ≤ 255 := wf_u8 kz
  obtain ⟨x, rfl⟩ := Int.eq_ofNat_of_zero_le hz.1
  exact ⟨x, hc, by omega⟩) h
theorem open_byts (hval : Value.okWide Tryz.prog w r b0 T.sl_uint8 v) (h : DataW.Trod enc Tryz.prog w 0 (fun _ => true) true T.sl_uint8 v d p) : ∃ l, Byts w v l ∧ ∀ x ∈ l, x < 256 := by
 obtain ⟨n, hn⟩ := arg_sl (e := T.uint8) (by kernel_rfl) hval h
 obtain ⟨l, hl, _⟩ := byts_c hn
 obtain ⟨oa, cap, e, h1, h2, h3, h4⟩ := hl.ex
 refine ⟨l, ⟨oa, cap, e, h1, h2, h3, fun a ha i hi => (h4 a ha i hi).1⟩, fun x hx => ?_⟩
 obtain ⟨i, hi, rfl⟩ := List.mem_iff_getElem.1 hx
 obtain ⟨a, ha⟩ := Option.isSome_iff_exists.1 (h3 (by intro e; subst e; simp at hi))
 exact (h4 a ha i hi).2
end Go.Proofs.YtglnobabdcoknaaGreatDoor
end