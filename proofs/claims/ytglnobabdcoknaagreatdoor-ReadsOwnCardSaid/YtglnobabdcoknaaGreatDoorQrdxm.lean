/- Texts joined: LayI LayJ StaP StaQ StaA LayK LayL LayM LiteV ProcR ReaP StaR StaS ReaQ ReaA ReaB ReaC ReaS. -/
import Derived.Test.YtglnobabdcoknaaGreatDoorQrdxd
import Derived.Test.YtglnobabdcoknaaGreatDoorQrdxe
import Derived.Test.YtglnobabdcoknaaGreatDoorQrdxh
import Derived.Test.YtglnobabdcoknaaGreatDoorQrdxi
import Derived.Test.YtglnobabdcoknaaGreatDoorQrdxj
import Derived.Test.YtglnobabdcoknaaGreatDoorQrdxk
import Derived.Test.YtglnobabdcoknaaGreatDoorQrdxl
import Derived.Lib.SlKeysI
import Derived.Maps.OwnSet
set_option linter.all false
set_option maxRecDepth 8000
set_option maxHeartbeats 16000000
section
namespace Lite
open Go Go.RowKit
theorem K.appRws {P : Program} {KK : Value → World → Prop} {α : Type} {enc : α → List Value} {e : TypeId} {sz base n : Nat} {w : World} {vs : Nat → Option Addr × Nat × Nat} {xs : Nat → List α} {ty : TypeId} {b : Nat} {a : Addr} {c : Nat} {y : α} {t} (i : Nat) (hi : i < n) (h : Rws enc e sz base w n vs xs) (hsz : ∀ x, (enc x).length = sz) (hc : CellsAt w a (enc y)) (h1 : ∀ y, ∀ u ∈ enc y, u.oneCell' = true)
  (hb : ((xs i).length + 1) * b ≤ 140737488355328) (h63 : (xs i).length + 1 ≤ maxLen) (hbase : base ≤ w.heap.size)
  (hk : ∀ v' w', Rws enc e sz base w' n (putN vs i v') (putN xs i (xs i ++ [y])) → w.grownBy w' (slq (vs i)).ownBlock → KK (slq v') w') : AppVCh P ty e sz b (slq (vs i)) (.slice (some a) 1 c) w KK t := by
 unfold AppVCh
 exact Rws.app i hi h hsz hc h1 hb h63 hbase fun v' w' a b _ => hk v' w' a b
end Lite
namespace Abs
theorem firsts_take {s : Int} {l : List Cell} {k : Nat} (h : k < l.length) : firsts s (l.take (k + 1)) 0 = firsts s (l.take k) 0 ++ (if l[k].place = 0 ∧ l[k].sort = s then [(k : Int)] else []) := by
 rw [List.take_succ_eq_append_getElem h, firsts_app]
 simp only [firsts, List.append_nil, List.length_take, Nat.zero_add]
 rw [show min k l.length = k from by omega]
theorem firsts_len (s : Int) : ∀ (l : List Cell) (i : Nat), (firsts s l i).length ≤ l.length
 | [], _ => by simp [firsts]
 | x :: r, i => by
  have := firsts_len s r (i + 1)
  simp only [firsts, List.length_append, List.length_cons]
  split <;> simp <;> omega
def rowsK (l : List Cell) (k : Nat) : Nat → List Int := fun i => if i = 0 then firsts 1 (l.take k) 0 else if i = 1 then firsts 2 (l.take k) 0 else if i = 2 then firsts 3 (l.take k) 0 else if i = 3 then (l.take k).map (·.lo) else (l.take k).map (·.hi)
end Abs
namespace Go.Proofs.R
open Go Go.RowKit Lite
def rtys : List TypeId := [T.a, T.i]
def boxOf (vs : Nat → SlP) (n : Int) : Array Value := #[slq (vs 0), slq (vs 1), slq (vs 2), .int .i64 n, slq (vs 3), slq (vs 4)]
structure LRt (w1 : World) (b : Nat) (xs : Nat → List Int) (n : Int) (W : World) : Prop where
 mod : Mod (fun k => k = b) w1 W
 ex : ∃ vs : Nat → SlP, W.heap[b]? = some (.cells (boxOf vs n) T.i) ∧ Rws encN T.a 1 w1.heap.size W 5 vs xs
theorem LRt.congr {w1 : World} {b : Nat} {xs xs' : Nat → List Int} {n : Int} {W : World} (h : LRt w1 b xs n W) (hx : ∀ i, i < 5 → xs i = xs' i) : LRt w1 b xs' n W :=
 let ⟨vs, g1, g2⟩ := h.ex; ⟨h.mod, vs, g1, g2.congr (fun _ _ => rfl) hx⟩
theorem lrt_app {w1 : World} {b : Nat} {xs : Nat → List Int} {n y : Int} {W W5 W6 W7 : World} {vs : Nat → SlP} {v' : SlP} {i : Nat} (hi : i < 5) (hm : Mod (fun k => k = b) w1 W) (g1 : W.heap[b]? = some (.cells (boxOf vs n) T.i)) (g2 : Rws encN T.a 1 w1.heap.size W 5 vs xs)
  (he : Ext W W5) (hg : W5.grownBy W6 (slq (vs i)).ownBlock) (ho : Rws encN T.a 1 w1.heap.size W6 5 (putN vs i v') (putN xs i (xs i ++ [y]))) (hw : Wr b W6 W7) (hc : W7.heap[b]? = some (.cells (boxOf (putN vs i v') n) T.i)) :
  LRt w1 b (putN xs i (xs i ++ [y])) n W7 ∧ Kt rtys W W7 := by
 have mg : Mod (fun k => (slq (vs i)).ownBlock = some k) W5 W6 := Mod.grown hg fun k hk => hk
 have g5 := he.obj g1
 have g6 : W6.heap[b]? = some (.cells (boxOf vs n) T.i) := mg.obj ((g2.ext he).not g5 (by decide) i hi) g5
 refine ⟨⟨?_, _, hc, ho.mod (hw.mod (A := fun k => k = b) rfl) fun j k hj hk e => ?_⟩, ?_⟩
 ·have h1 : Mod (fun k => k = b) w1 W5 := hm.comp (A' := fun _ => False) he.mod (fun _ _ a => a) fun _ _ a => a.elim
  have h2 : Mod (fun k => k = b) w1 W6 := h1.comp mg (fun _ _ a => a) fun j hj a => by have := (g2.lt i j hi a).1; omega
  exact h2.trans (hw.mod rfl)
 ·subst e; exact ho.not g6 (by decide) j hj hk
 ·refine ((Kt.ext he).trans (Kt.mod mg fun k c t hc a => ?_)).trans (Kt.wr hw g6 (by decide))
  obtain ⟨cur, h⟩ := ((g2.ext he).own i hi).blk k a
  rw [hc] at h; injection h with h; injection h with _ h; rw [h]; decide
theorem refLay_r (cs : List Value) (m : Abs.Model) (w : World) (h : Abs.MI w cs m) (hg : m.good) (hM : Abs.MayBe m) :
  Ret Tryz.prog F.lr17_Lay #[.agg cs.toArray] w fun v w' => (∃ xs, v = .agg xs.toArray ∧ New w (fun w => Abs.LayIs w xs (Abs.layout m)) w') ∧ Ext w w' := by
 have hMI := h
 obtain ⟨o0, c0, o1, c1, o2, c2, o3, c3, o4, c4, rfl, _⟩ := h.form
 have h64 := Abs.layCells_le64 hM
 refine Ks E.lr17_Lay ?_; dsimp only [C.lr17_Lay]; refine Yy ?_
 refine Sg ?_
 intro wa b1 hb1 hea hc1
 have q1 := lH hc1
 refine Sg ?_
 intro wb b2 hb2 heb hc2
 have q2 := lH hc2
 replace hc1 := heb.obj hc1
 refine Sg ?_
 intro w1 b3 hb3 hec hc3
 replace hc1 := hec.obj hc1
 replace hc2 := hec.obj hc2
 have q3 := lH hc3
 have y1 := hea.size
 have y2 := heb.size
 have y3 := hec.size
 have n13 : b1 ≠ b3 := by omega
 have e1 := (hea.trans heb).trans hec
 refine Sg ?_
 refine K.call (refLayCells_r _ m w1 (hMI.ext e1) hg hM) ?_
 rintro vc wc ⟨hcl, hed⟩
 obtain ⟨ocl, ccl, rfl, _⟩ := hcl.form
 have s0 : LRt w1 b3 (Abs.rowsK (Abs.lC m) 0) 0 wc := ⟨hed.mod, fun _ => (none, 0, 0), hed.obj hc3, ⟨fun i hi => by
   have e : Abs.rowsK (Abs.lC m) 0 i = [] := by unfold Abs.rowsK; (repeat' split) <;> simp [Abs.firsts]
   rw [e]; exact OwR.nil _ _ _ _ _, fun i j k _ _ _ e => by cases e⟩⟩
 have hx1 : ∀ {xs n W}, LRt w1 b3 xs n W → W.heap[b1]? = w1.heap[b1]? := fun h => h.mod.block _ (by omega) n13
 have hx2 : ∀ {xs n W}, LRt w1 b3 xs n W → W.heap[b2]? = w1.heap[b2]? := fun h => h.mod.block _ (by omega) (by omega)
 have hE : ∀ {xs n W}, LRt w1 b3 xs n W → Ext w W := fun h => h.mod.ext e1 fun i hi e => by omega
 have hcx : ∀ {W : World}, Kt rtys wc W → SlR 6 (Flat Abs.Cell.enc) W (.slice ocl (Abs.lC m).length ccl) (Abs.lC m) := fun k => OwR.slF (enc := Abs.Cell.enc) (fun _ => rfl) (hcl.kt k (by decide))
 rw [hc2] at hx2
 clear hc1 hc2 hc3 hcl
 refine Sg ?_
 refine K.forG 5 (Abs.lC m).length [1, 2, 3, 4] (fun _ : Unit => []) () (fun k _ W => LRt w1 b3 (Abs.rowsK (Abs.lC m) k) 0 W ∧ Kt rtys wc W) hZq hZq ⟨s0, Kt.refl⟩ ?_
 clear s0
 rintro k _ S w2 hk ⟨hs, kt2⟩
 have hcl := hcx kt2
 obtain ⟨vs0, g1, g2⟩ := hs.ex
 refine Sg ?_
 apply K.cond <;> intro g0
 ·have hk' : k < (Abs.lC m).length := by omega
  obtain ⟨a, rfl⟩ := hcl.addr (by omega)
  clear g1 g2
  obtain ⟨x, hx⟩ : ∃ x, x = (Abs.lC m)[k] := ⟨_, rfl⟩
  have hrl : ∀ i, (Abs.rowsK (Abs.lC m) k i).length ≤ 100 := fun i => by
   unfold Abs.rowsK
   have q := fun s => Abs.firsts_len s ((Abs.lC m).take k) 0
   have q1 := q 1
   have q2 := q 2
   have q3 := q 3
   (repeat' split) <;> simp only [List.length_map, List.length_take] at * <;> omega
  refine Su ?_
  simp -dsimp only [B9]
  refine Su ?_
  refine K.cutG [1, 2, 3, 4, 5] (fun _ : Unit => []) (fun _ W => LRt w1 b3 (putN (Abs.rowsK (Abs.lC m) k) 0 ((Abs.rowsK (Abs.lC m) k) 0 ++ if x.place = 0 ∧ x.sort = 1 then [(k : Int)] else [])) 0 W ∧ Kt rtys wc W) ?_ ?_
  ·have hcl := hcx kt2
   obtain ⟨vs, g1, g2⟩ := hs.ex
   have g1' := g1
   unfold boxOf at g1
   dsimp only [slq] at g1
   have same : ¬ (x.place = 0 ∧ x.sort = 1) → LRt w1 b3 (putN (Abs.rowsK (Abs.lC m) k) 0 ((Abs.rowsK (Abs.lC m) k) 0 ++ if x.place = 0 ∧ x.sort = 1 then [(k : Int)] else [])) 0 w2 := fun e => hs.congr fun j hj => by
    unfold putN
    by_cases a : j = 0
    ·subst a; simp [e]
    ·simp [a]
   refine Sg ?_
   rw [← hx]
   apply K.cond <;> intro g3
   ·refine Sg ?_
    rw [← hx]
    apply K.cond <;> intro g4
    ·refine Sg ?_
     intro w5 b5 hb5 he5 hc5
     have z1 := hs.mod.size
     have z2 := he5.size
     have hlen : ((Abs.rowsK (Abs.lC m) k) 0).length ≤ 100 := hrl 0
     have g25 := g2.ext he5
     have g15 := he5.obj g1'
     refine K.appRws (y := (k : Int)) 0 (by decide) g25 (fun _ => rfl) (cB hc5) encN_one (by omega) (by unfold maxLen; omega) (by omega) fun v' w6 ho6 hg6 => ?_
     have hb6 : w6.heap[b3]? = some (.cells (boxOf vs 0) T.i) := (Mod.grown (A := fun k => (slq (vs 0)).ownBlock = some k) hg6 fun k hk => hk).obj (g25.not g15 (by decide) 0 (by decide)) g15
     have hb6' := hb6
     unfold boxOf at hb6
     refine Sg ?_
     intro w7 hw7 hc7
     obtain ⟨hs7, kt7⟩ := lrt_app (by decide) hs.mod g1' g2 he5 hg6 ho6 hw7 hc7
     refine Sg ?_
     refine ⟨(), trivial, hs7.congr fun j hj => ?_, kt2.trans kt7⟩
     have e : (if x.place = 0 ∧ x.sort = 1 then [(k : Int)] else []) = [(k : Int)] := if_pos ⟨g3, g4⟩
     rw [e]
    ·refine Sg ?_
     exact ⟨(), trivial, same fun e => g4 e.2, kt2⟩
   ·refine Sg ?_
    exact ⟨(), trivial, same fun e => g3 e.1, kt2⟩
  rintro _ S w10 ⟨hsw10, ktw10⟩
  refine Su ?_
  refine K.cutG [1, 2, 3, 4, 5] (fun _ : Unit => []) (fun _ W => LRt w1 b3 (putN (putN (Abs.rowsK (Abs.lC m) k) 0 ((Abs.rowsK (Abs.lC m) k) 0 ++ if x.place = 0 ∧ x.sort = 1 then [(k : Int)] else [])) 1 ((putN (Abs.rowsK (Abs.lC m) k) 0 ((Abs.rowsK (Abs.lC m) k) 0 ++ if x.place = 0 ∧ x.sort = 1 then [(k : Int)] else [])) 1 ++ if x.place = 0 ∧ x.sort = 2 then [(k : Int)] else [])) 0 W ∧ Kt rtys wc W) ?_ ?_
  ·have hcl := hcx ktw10
   obtain ⟨vs, g1, g2⟩ := hsw10.ex
   have g1' := g1
   unfold boxOf at g1
   dsimp only [slq] at g1
   have same : ¬ (x.place = 0 ∧ x.sort = 2) → LRt w1 b3 (putN (putN (Abs.rowsK (Abs.lC m) k) 0 ((Abs.rowsK (Abs.lC m) k) 0 ++ if x.place = 0 ∧ x.sort = 1 then [(k : Int)] else [])) 1 ((putN (Abs.rowsK (Abs.lC m) k) 0 ((Abs.rowsK (Abs.lC m) k) 0 ++ if x.place = 0 ∧ x.sort = 1 then [(k : Int)] else [])) 1 ++ if x.place = 0 ∧ x.sort = 2 then [(k : Int)] else [])) 0 w10 := fun e => hsw10.congr fun j hj => by
    unfold putN
    by_cases a : j = 1
    ·subst a; simp [e]
    ·simp [a]
   refine Sg ?_
   rw [← hx]
   apply K.cond <;> intro g3
   ·refine Sg ?_
    rw [← hx]
    apply K.cond <;> intro g4
    ·refine Sg ?_
     intro w5 b5 hb5 he5 hc5
     have z1 := hsw10.mod.size
     have z2 := he5.size
     have hlen : ((putN (Abs.rowsK (Abs.lC m) k) 0 ((Abs.rowsK (Abs.lC m) k) 0 ++ if x.place = 0 ∧ x.sort = 1 then [(k : Int)] else [])) 1).length ≤ 100 := hrl 1
     have g25 := g2.ext he5
     have g15 := he5.obj g1'
     refine K.appRws (y := (k : Int)) 1 (by decide) g25 (fun _ => rfl) (cB hc5) encN_one (by omega) (by unfold maxLen; omega) (by omega) fun v' w6 ho6 hg6 => ?_
     have hb6 : w6.heap[b3]? = some (.cells (boxOf vs 0) T.i) := (Mod.grown (A := fun k => (slq (vs 1)).ownBlock = some k) hg6 fun k hk => hk).obj (g25.not g15 (by decide) 1 (by decide)) g15
     have hb6' := hb6
     unfold boxOf at hb6
     refine Sg ?_
     intro w7 hw7 hc7
     obtain ⟨hs7, kt7⟩ := lrt_app (by decide) hsw10.mod g1' g2 he5 hg6 ho6 hw7 hc7
     refine Sg ?_
     refine ⟨(), trivial, hs7.congr fun j hj => ?_, ktw10.trans kt7⟩
     have e : (if x.place = 0 ∧ x.sort = 2 then [(k : Int)] else []) = [(k : Int)] := if_pos ⟨g3, g4⟩
     rw [e]
    ·refine Sg ?_
     exact ⟨(), trivial, same fun e => g4 e.2, ktw10⟩
   ·refine Sg ?_
    exact ⟨(), trivial, same fun e => g3 e.1, ktw10⟩
  rintro _ S w11 ⟨hsw11, ktw11⟩
  refine Su ?_
  refine K.cutG [1, 2, 3, 4, 5] (fun _ : Unit => []) (fun _ W => LRt w1 b3 (putN (putN (putN (Abs.rowsK (Abs.lC m) k) 0 ((Abs.rowsK (Abs.lC m) k) 0 ++ if x.place = 0 ∧ x.sort = 1 then [(k : Int)] else [])) 1 ((putN (Abs.rowsK (Abs.lC m) k) 0 ((Abs.rowsK (Abs.lC m) k) 0 ++ if x.place = 0 ∧ x.sort = 1 then [(k : Int)] else [])) 1 ++ if x.place = 0 ∧ x.sort = 2 then [(k : Int)] else [])) 2 ((putN (putN (Abs.rowsK (Abs.lC m) k) 0 ((Abs.rowsK (Abs.lC m) k) 0 ++ if x.place = 0 ∧ x.sort = 1 then [(k : Int)] else [])) 1 ((putN (Abs.rowsK (Abs.lC m) k) 0 ((Abs.rowsK (Abs.lC m) k) 0 ++ if x.place = 0 ∧ x.sort = 1 then [(k : Int)] else [])) 1 ++ if x.place = 0 ∧ x.sort = 2 then [(k : Int)] else [])) 2 ++ if x.place = 0 ∧ x.sort = 3 then [(k : Int)] else [])) 0 W ∧ Kt rtys wc W) ?_ ?_
  ·have hcl := hcx ktw11
   obtain ⟨vs, g1, g2⟩ := hsw11.ex
   have g1' := g1
   unfold boxOf at g1
   dsimp only [slq] at g1
   have same : ¬ (x.place = 0 ∧ x.sort = 3) → LRt w1 b3 (putN (putN (putN (Abs.rowsK (Abs.lC m) k) 0 ((Abs.rowsK (Abs.lC m) k) 0 ++ if x.place = 0 ∧ x.sort = 1 then [(k : Int)] else [])) 1 ((putN (Abs.rowsK (Abs.lC m) k) 0 ((Abs.rowsK (Abs.lC m) k) 0 ++ if x.place = 0 ∧ x.sort = 1 then [(k : Int)] else [])) 1 ++ if x.place = 0 ∧ x.sort = 2 then [(k : Int)] else [])) 2 ((putN (putN (Abs.rowsK (Abs.lC m) k) 0 ((Abs.rowsK (Abs.lC m) k) 0 ++ if x.place = 0 ∧ x.sort = 1 then [(k : Int)] else [])) 1 ((putN (Abs.rowsK (Abs.lC m) k) 0 ((Abs.rowsK (Abs.lC m) k) 0 ++ if x.place = 0 ∧ x.sort = 1 then [(k : Int)] else [])) 1 ++ if x.place = 0 ∧ x.sort = 2 then [(k : Int)] else [])) 2 ++ if x.place = 0 ∧ x.sort = 3 then [(k : Int)] else [])) 0 w11 := fun e => hsw11.congr fun j hj => by
    unfold putN
    by_cases a : j = 2
    ·subst a; simp [e]
    ·simp [a]
   refine Sg ?_
   rw [← hx]
   apply K.cond <;> intro g3
   ·refine Sg ?_
    rw [← hx]
    apply K.cond <;> intro g4
    ·refine Sg ?_
     intro w5 b5 hb5 he5 hc5
     have z1 := hsw11.mod.size
     have z2 := he5.size
     have hlen : ((putN (putN (Abs.rowsK (Abs.lC m) k) 0 ((Abs.rowsK (Abs.lC m) k) 0 ++ if x.place = 0 ∧ x.sort = 1 then [(k : Int)] else [])) 1 ((putN (Abs.rowsK (Abs.lC m) k) 0 ((Abs.rowsK (Abs.lC m) k) 0 ++ if x.place = 0 ∧ x.sort = 1 then [(k : Int)] else [])) 1 ++ if x.place = 0 ∧ x.sort = 2 then [(k : Int)] else [])) 2).length ≤ 100 := hrl 2
     have g25 := g2.ext he5
     have g15 := he5.obj g1'
     refine K.appRws (y := (k : Int)) 2 (by decide) g25 (fun _ => rfl) (cB hc5) encN_one (by omega) (by unfold maxLen; omega) (by omega) fun v' w6 ho6 hg6 => ?_
     have hb6 : w6.heap[b3]? = some (.cells (boxOf vs 0) T.i) := (Mod.grown (A := fun k => (slq (vs 2)).ownBlock = some k) hg6 fun k hk => hk).obj (g25.not g15 (by decide) 2 (by decide)) g15
     have hb6' := hb6
     unfold boxOf at hb6
     refine Sg ?_
     intro w7 hw7 hc7
     obtain ⟨hs7, kt7⟩ := lrt_app (by decide) hsw11.mod g1' g2 he5 hg6 ho6 hw7 hc7
     refine Sg ?_
     refine ⟨(), trivial, hs7.congr fun j hj => ?_, ktw11.trans kt7⟩
     have e : (if x.place = 0 ∧ x.sort = 3 then [(k : Int)] else []) = [(k : Int)] := if_pos ⟨g3, g4⟩
     rw [e]
    ·refine Sg ?_
     exact ⟨(), trivial, same fun e => g4 e.2, ktw11⟩
   ·refine Sg ?_
    exact ⟨(), trivial, same fun e => g3 e.1, ktw11⟩
  rintro _ S w12 ⟨hsw12, ktw12⟩
  have hcl := hcx ktw12
  obtain ⟨vs, g1, g2⟩ := hsw12.ex
  have g1' := g1
  unfold boxOf at g1
  dsimp only [slq] at g1
  refine Sg ?_
  intro w5 he5
  replace hcl := hcl.ext Flat.ext he5
  replace g1 := he5.obj g1
  refine Sg ?_
  intro w6 b6 hb6 he6 hc6
  refine ⟨he6, ?_⟩
  have he56 := he5.trans he6
  have z1 := hsw12.mod.size
  have z2 := he56.size
  have hlen : (Abs.rowsK (Abs.lC m) k 3).length ≤ 100 := hrl 3
  have g25 := g2.ext he56
  have g15 := he56.obj g1'
  refine K.appRws (y := (Abs.lC m)[k].lo) 3 (by decide) g25 (fun _ => rfl) (cB hc6) encN_one (by rw [show (putN _ 2 _ 3 : List Int) = Abs.rowsK (Abs.lC m) k 3 from rfl]; omega) (by rw [show (putN _ 2 _ 3 : List Int) = Abs.rowsK (Abs.lC m) k 3 from rfl]; unfold maxLen; omega) (by omega) fun v' w7 ho7 hg7 => ?_
  have hb7 : w7.heap[b3]? = some (.cells (boxOf vs 0) T.i) := (Mod.grown (A := fun k => (slq (vs 3)).ownBlock = some k) hg7 fun k hk => hk).obj (g25.not g15 (by decide) 3 (by decide)) g15
  have hb7' := hb7
  unfold boxOf at hb7
  refine Sg ?_
  intro w8a hw8 hc8
  obtain ⟨hs8a, kt8a⟩ := lrt_app (by decide) hsw12.mod g1' g2 he56 hg7 ho7 hw8 hc8
  clear g1 g2 g1' g25 g15 ho7 hb7 hb7' hc8 hc6 hcl
  have kt9a := ktw12.trans kt8a
  have hcl := hcx kt9a
  obtain ⟨vs, g1, g2⟩ := hs8a.ex
  have g1' := g1
  unfold boxOf at g1
  dsimp only [slq] at g1
  refine Sg ?_
  intro w5 he5
  replace hcl := hcl.ext Flat.ext he5
  replace g1 := he5.obj g1
  refine Sg ?_
  intro w6 b6 hb6 he6 hc6
  refine ⟨he6, ?_⟩
  have he56 := he5.trans he6
  have z1 := hs8a.mod.size
  have z2 := he56.size
  have hlen : (Abs.rowsK (Abs.lC m) k 4).length ≤ 100 := hrl 4
  have g25 := g2.ext he56
  have g15 := he56.obj g1'
  refine K.appRws (y := (Abs.lC m)[k].hi) 4 (by decide) g25 (fun _ => rfl) (cB hc6) encN_one (by rw [show (putN _ 3 _ 4 : List Int) = Abs.rowsK (Abs.lC m) k 4 from rfl]; omega) (by rw [show (putN _ 3 _ 4 : List Int) = Abs.rowsK (Abs.lC m) k 4 from rfl]; unfold maxLen; omega) (by omega) fun v' w7 ho7 hg7 => ?_
  have hb7 : w7.heap[b3]? = some (.cells (boxOf vs 0) T.i) := (Mod.grown (A := fun k => (slq (vs 4)).ownBlock = some k) hg7 fun k hk => hk).obj (g25.not g15 (by decide) 4 (by decide)) g15
  have hb7' := hb7
  unfold boxOf at hb7
  refine Sg ?_
  intro w8b hw8 hc8
  obtain ⟨hs8b, kt8b⟩ := lrt_app (by decide) hs8a.mod g1' g2 he56 hg7 ho7 hw8 hc8
  clear g1 g2 g1' g25 g15 ho7 hb7 hb7' hc8 hc6 hcl
  have kt9b := kt9a.trans kt8b
  refine Sg ?_
  refine ⟨hk', Tr, (), trivial, hs8b.congr fun j hj => ?_, kt9b⟩
  subst hx
  have a : j = 0 ∨ j = 1 ∨ j = 2 ∨ j = 3 ∨ j = 4 := by omega
  rcases a with rfl | rfl | rfl | rfl | rfl
  ·exact (Abs.firsts_take (s := 1) hk').symm
  ·exact (Abs.firsts_take (s := 2) hk').symm
  ·exact (Abs.firsts_take (s := 3) hk').symm
  ·show (_ : List Int) = ((Abs.lC m).take (k + 1)).map (·.lo)
   rw [List.take_succ_eq_append_getElem hk', List.map_append]; rfl
  ·show (_ : List Int) = ((Abs.lC m).take (k + 1)).map (·.hi)
   rw [List.take_succ_eq_append_getElem hk', List.map_append]; rfl
 have hkl : k = (Abs.lC m).length := by omega
 subst hkl
 have E2 := hE hs
 have hc2 := hx2 hs
 clear g1 g2
 obtain ⟨vs, g1, g2⟩ := hs.ex
 have g1' := g1
 unfold boxOf at g1
 dsimp only [slq] at g1
 refine Sg ?_
 intro w3 hw3 hc3
 have g23 := g2.mod (hw3.mod (A := fun k => k = b3) rfl) fun i k hi hk e => by subst e; exact g2.not g1' (by decide) i hi hk
 replace hc2 := hw3.obj hc2 (by omega)
 replace hc3 : w3.heap[b3]? = some (.cells #[slq (vs 0), slq (vs 1), slq (vs 2), .int .i64 (Abs.lC m).length, slq (vs 3), slq (vs 4)] T.i) := hc3
 dsimp only [slq] at hc3
 refine Sg ?_
 intro w4 hw4 hc4
 have g24 := g23.mod (hw4.mod (A := fun k => k = b2) rfl) fun i k hi hk e => by subst e; exact g23.not hc2 (by decide) i hi hk
 have hz : w.heap.size ≤ w1.heap.size := by omega
 have nr := fun (i : Nat) (hi : i < 5) => OwR.new (e := T.a) (enc := encN) (fun _ => rfl) (OwR.low hz (g24.own i hi))
 obtain ⟨f1, f2, f3⟩ := Abs.firsts_lay hM
 have r0 : Abs.rowsK (Abs.lC m) (Abs.lC m).length 0 = (Abs.layout m).vars := by show Abs.firsts 1 ((Abs.lC m).take _) 0 = _; rw [List.take_length, f1]; rfl
 have r1 : Abs.rowsK (Abs.lC m) (Abs.lC m).length 1 = (Abs.layout m).chans := by show Abs.firsts 2 ((Abs.lC m).take _) 0 = _; rw [List.take_length, f2]; rfl
 have r2 : Abs.rowsK (Abs.lC m) (Abs.lC m).length 2 = (Abs.layout m).insts := by show Abs.firsts 3 ((Abs.lC m).take _) 0 = _; rw [List.take_length, f3]; rfl
 have r3 : Abs.rowsK (Abs.lC m) (Abs.lC m).length 3 = (Abs.layout m).lo := by show ((Abs.lC m).take _).map _ = _; rw [List.take_length]; rfl
 have r4 : Abs.rowsK (Abs.lC m) (Abs.lC m).length 4 = (Abs.layout m).hi := by show ((Abs.lC m).take _).map _ = _; rw [List.take_length]; rfl
 refine Sg ?_
 refine ⟨⟨[_, _, _, _, _, _], rfl, fun W2 mm => ⟨⟨_, _, _, _, _, rfl, ?_, ?_, ?_, ?_, ?_⟩⟩⟩, hw4.ext (hw3.ext E2 (by omega)) (by omega)⟩
 ·rw [← r0]; exact nr 0 (by decide) W2 mm
 ·rw [← r1]; exact nr 1 (by decide) W2 mm
 ·rw [← r2]; exact nr 2 (by decide) W2 mm
 ·rw [← r3]; exact nr 3 (by decide) W2 mm
 ·rw [← r4]; exact nr 4 (by decide) W2 mm
theorem refLayOf_r (cs : List Value) (m : Abs.Model) (w : World) (h : Abs.MI w cs m) (hg : m.good) :
  Ret Tryz.prog F.lr17_Of #[.agg cs.toArray] w fun v w' => (∃ xs, v = .agg xs.toArray ∧ New w (fun w => Abs.LayIs w xs (Abs.lay m)) w') ∧ Ext w w' := by
 have hM := h
 obtain ⟨o0, c0, o1, c1, o2, c2, o3, c3, o4, c4, rfl, _⟩ := h.form
 refine Ks E.lr17_Of ?_; dsimp only [C.lr17_Of]; refine Yy ?_
 refine Sg ?_
 intro w1 b1 hb1 he1 hc1
 refine Sg ?_
 intro w2 b2 hb2 he2 hc2
 have z1 := lH hc1
 replace hc1 := he2.obj hc1
 have z2 := lH hc2
 have z3 := he1.size
 have e2 := he1.trans he2
 refine Sg ?_
 refine K.call (good_r _ m w2 (hM.ext e2) hg) ?_
 rintro _ w3 ⟨rfl, he3⟩
 replace hc1 := he3.obj hc1
 replace hc2 := he3.obj hc2
 have e3 := e2.trans he3
 by_cases hk : (Abs.check m).why = 0
 ·rw [decide_eq_true hk]
  refine Sg ?_
  refine K.call (refLay_r _ m w3 (hM.ext e3) hg (Abs.maybe_of hk)) ?_
  rintro _ w4 ⟨⟨xs, rfl, hL⟩, he4⟩
  obtain ⟨x0, d0, x1, d1, x2, d2, x3, d3, x4, d4, rfl, _⟩ := hL.here.form
  replace hc2 := he4.obj hc2
  have e4 := e3.trans he4
  have z4 := he3.size
  refine Sg ?_
  intro w6 hw6 hc6
  have hn := hL.wr hw6 (by omega)
  refine Sg ?_
  exact ⟨⟨_, rfl, by rw [Abs.lay_ok hk]; exact hn.low e3.size⟩, hw6.ext e4 (by omega)⟩
 ·rw [decide_eq_false hk]
  refine Sg ?_
  intro w4 hw4 hc4
  refine Sg ?_
  exact ⟨⟨[_, _, _, _, _, _], rfl, by rw [Abs.lay_no hk]; exact Stab.of fun _ => Abs.LayIs.zero _⟩, hw4.ext e3 (by omega)⟩
end Go.Proofs.R
end
section
namespace Abs
open Go
def vAt (m : Model) (i : Nat) : Nat := total ((vT m).take i)
def cAt (m : Model) (i : Nat) : Nat := total (vT m) + total ((cT m).take i)
def iAt (m : Model) (i : Nat) : Nat := total (vT m) + total (cT m) + total ((iT m).take i)
theorem starts_get (n : Nat) : ∀ (ls : List (List Bd)) (i : Nat) (h : i < (starts n ls).length), (starts n ls)[i] = ((n + total (ls.take i) : Nat) : Int)
 | [], i, h => by simp [starts] at h
 | l :: r, 0, h => by simp [starts, total]
 | l :: r, i + 1, h => by
  simp only [starts, List.getElem_cons_succ, List.take_succ_cons, total_cons]
  rw [starts_get (n + l.length) r i (by simpa [starts] using h)]
  congr 1
  omega
def cellN (m : Model) : Nat := (lC m).length
theorem cellN_eq (m : Model) : cellN m = total (vT m) + total (cT m) + total (iT m) := layCells_len m
theorem vAt_get {m : Model} {i : Nat} (h : i < m.vars.length) : ∃ h' : i < (layout m).vars.length, (layout m).vars[i] = (vAt m i : Int) := by
 have h' : i < (starts 0 (vT m)).length := by rw [starts_len]; simpa [vT] using h
 exact ⟨h', by have := starts_get 0 (vT m) i h'; rw [Nat.zero_add] at this; exact this⟩
theorem cAt_get {m : Model} {i : Nat} (h : i < m.chans.length) : ∃ h' : i < (layout m).chans.length, (layout m).chans[i] = (cAt m i : Int) := by
 have h' : i < (starts (total (vT m)) (cT m)).length := by rw [starts_len]; simpa [cT] using h
 exact ⟨h', starts_get _ _ i h'⟩
theorem iAt_get {m : Model} {i : Nat} (h : i < (insts m).length) : ∃ h' : i < (layout m).insts.length, (layout m).insts[i] = (iAt m i : Int) := by
 have h' : i < (starts (total (vT m) + total (cT m)) (iT m)).length := by rw [starts_len]; simpa [iT] using h
 exact ⟨h', starts_get _ _ i h'⟩
theorem vFit {m : Model} {i : Nat} (h : i < m.vars.length) : vAt m i + (cells m.vars[i] m.scalars).toNat ≤ total (vT m) := by
 have h' : i < (vT m).length := by simpa [vT] using h
 have := take_fit h'
 have e : (vT m)[i].length = (cells m.vars[i] m.scalars).toNat := by simp [vT, varBds_len]
 rw [e] at this
 exact this
theorem cFit {m : Model} {i : Nat} (h : i < m.chans.length) : cAt m i + (1 + m.chans[i].cap.toNat) ≤ total (vT m) + total (cT m) := by
 have h' : i < (cT m).length := by simpa [cT] using h
 have := take_fit h'
 have e : (cT m)[i].length = 1 + m.chans[i].cap.toNat := by simp [cT, chanBds_len]
 rw [e] at this
 unfold cAt
 omega
theorem iFit {m : Model} {i : Nat} (h : i < (insts m).length) : iAt m i + (instBds m (insts m)[i]).length ≤ cellN m := by
 have h' : i < (iT m).length := by simpa [iT] using h
 have := take_fit h'
 have e : (iT m)[i].length = (instBds m (insts m)[i]).length := by simp [iT]
 rw [e] at this
 rw [cellN_eq]
 unfold iAt
 omega
def QueueOk (s : List Scalar) (c : Chan) (l : List Int) : Prop :=
 ∃ n, l[0]? = some n ∧ 0 ≤ n ∧ n ≤ c.cap ∧ ∀ k : Nat, (k : Int) < c.cap → ∃ x, l[k + 1]? = some x ∧ ((k : Int) < n → (bdOf c.scalar c.lo c.hi s).lo ≤ x ∧ x ≤ (bdOf c.scalar c.lo c.hi s).hi) ∧ (n ≤ k → x = 0)
def chanPart (m : Model) (i : Nat) (c : Chan) (s : List Int) : List Int := (s.drop (cAt m i)).take (1 + c.cap.toNat)
structure Fits (m : Model) (s : List Int) : Prop where
 len : s.length = cellN m
 queue : ∀ i (h : i < m.chans.length), QueueOk m.scalars m.chans[i] (chanPart m i m.chans[i] s)
 cell : ∀ i (h : i < s.length) (h' : i < (lC m).length), (lC m)[i].lo ≤ s[i] ∧ s[i] ≤ (lC m)[i].hi
def val : List Nat → Nat
 | [] => 0
 | d :: r => d + 256 * val r
def dig (n : Nat) : List Nat := if h : n = 0 then [] else n % 256 :: dig (n / 256)
termination_by n
decreasing_by omega
def numFrom : List Cell → List Int → Nat → Nat
 | x :: r, v :: s, n => numFrom r s (n * (x.hi - x.lo + 1).toNat + (v - x.lo).toNat)
 | _, _, n => n
def num (m : Model) (s : List Int) : Nat := numFrom (lC m) s 0
def most (m : Model) : Nat := num m ((lC m).map (·.hi))
def byteN (m : Model) : Nat := (dig (most m)).length
def fixed (k n : Nat) : List Nat := dig n ++ List.replicate (k - (dig n).length) 0
def bytes (m : Model) (s : List Int) : List Nat := (fixed (byteN m) (num m s)).reverse
end Abs
end
section
namespace Go.Proofs.R
open Go Go.RowKit Lite
abbrev Nums (w : World) (v : Value) (l : List Int) : Prop := SlR 1 (Flat encN) w v l
structure ReaderAt (w : World) (b : Nat) (m : Abs.Model) : Prop where
 ex : ∃ xs cs vi, w.heap[b]? = some (.cells (xs ++ cs ++ [vi]).toArray T.ax) ∧ Abs.LayIs w xs (Abs.layout m) ∧ Abs.MI w cs m ∧ InstsAt w vi (Abs.insts m)
theorem leq_r (v1 v2 : Value) (l1 l2 : List Int) (w : World) (h1 : SlR 1 (Flat encN) w v1 l1) (h2 : SlR 1 (Flat encN) w v2 l2) :
  Ret Tryz.prog F.f #[v1, v2] w fun v w' => (∃ b : Bool, v = .bool b ∧ (b = true ↔ l1 = l2)) ∧ Ext w w' :=
 equal1_r hmix E.f _ _ l1 l2 w h1 h2
end Go.Proofs.R
end
section
namespace Abs
theorem layout_lens (m : Model) : (layout m).vars.length = m.vars.length ∧ (layout m).chans.length = m.chans.length ∧ (layout m).insts.length = (insts m).length := by
 refine ⟨?_, ?_, ?_⟩ <;> simp [layout, layOf, starts_len, vT, cT, iT]
end Abs
end
section
namespace Lite
open Go Go.RowKit
structure MapI (es : Array MapEntry) (c : Nat) (L : List Int) : Prop where
 kv : ∃ l : List (Int × Value), KV (Value.int .i64) es.toList l ∧ (l.map (·.1)).Nodup ∧ (∀ x, x ∈ l.map (·.1) ↔ x ∈ L) ∧ l.length ≤ L.length ∧ ∀ p ∈ l, ∃ z, p.2 = .int .i64 z
 born : ∀ e ∈ es.toList, e.born < c
 nodup : (es.toList.map (·.born)).Nodup
structure SetI (w : World) (b : Nat) (L : List Int) : Prop where
 ok : ∀ x ∈ L, -9223372036854775808 ≤ x ∧ x ≤ 9223372036854775807
 ex : ∃ es c, w.heap[b]? = some (.map es c) ∧ MapI es c L
theorem SetI.of {w w' : World} {b : Nat} {L : List Int} (h : SetI w b L) (e : w'.heap[b]? = w.heap[b]?) : SetI w' b L := let ⟨es, c, h1, h2⟩ := h.ex; ⟨h.ok, es, c, e.trans h1, h2⟩
theorem SetI.lt {w : World} {b : Nat} {L : List Int} (h : SetI w b L) : b < w.heap.size := let ⟨_, _, h1, _⟩ := h.ex; lH h1
theorem SetI.ext {w w' : World} {b : Nat} {L : List Int} (h : SetI w b L) (e : Ext w w') : SetI w' b L := h.of (e.heap h.lt)
theorem SetI.mod {A : Nat → Prop} {w w' : World} {b : Nat} {L : List Int} (h : SetI w b L) (e : Mod A w w') (hk : ¬ A b) : SetI w' b L := h.of (e.block b h.lt hk)
theorem MapI.empty : MapI #[] 0 [] := ⟨⟨[], rfl, by simp, fun _ => Iff.rfl, Nat.le_refl _, fun p h => by simp at h⟩, fun e he => by simp at he, by simp⟩
theorem SetI.empty {w : World} {b : Nat} (h : w.heap[b]? = some (.map #[] 0)) : SetI w b [] := ⟨fun _ h => by simp at h, _, _, h, MapI.empty⟩
theorem KV.len {κ : Type} {enc : κ → Value} {es : List MapEntry} {l : List (κ × Value)} (h : KV enc es l) : es.length = l.length := by
 have := congrArg List.length h
 simpa using this
theorem KV.at {κ : Type} {enc : κ → Value} {es : List MapEntry} {l : List (κ × Value)} (h : KV enc es l) (i : Nat) : es[i]?.map (fun e => (e.key, e.val)) = l[i]?.map (fun p => (enc p.1, p.2)) := by
 have := congrArg (fun q => q[i]?) h
 simpa using this
theorem SetI.look {w : World} {b : Nat} {L : List Int} (h : SetI w b L) (x : Int) : ∃ es r z, MapOf w (.map (some b)) es ∧ Instr.findNow (.int .i64) (.int .i64 x) es.toList 0 = some r ∧ lkpV (.int .i64 0) false r = .int .i64 z := by
 obtain ⟨es, c, h1, hm⟩ := h.ex
 obtain ⟨l, h2, h3, h4, h5, h6⟩ := hm.kv
 obtain ⟨r, hr1, hr2⟩ := findNow_kv (same_int .i64 .i64) x es.toList _ 0 h2
 cases r with
 | none => exact ⟨es, none, 0, .inr ⟨b, c, rfl, h1⟩, hr1, rfl⟩
 | some q =>
  cases hf : l.find? (fun p => decide (x = p.1)) with
  | none => rw [hf] at hr2; cases hr2
  | some p =>
   rw [hf] at hr2
   obtain ⟨z, hz⟩ := h6 p (List.mem_of_find?_eq_some hf)
   simp only [Option.map_some, Option.some.injEq] at hr2
   exact ⟨es, some q, z, .inr ⟨b, c, rfl, h1⟩, hr1, by simp [lkpV, hr2, hz]⟩
theorem kv_modify {x z : Int} {l : List (Int × Value)} {es : List MapEntry} {j : Nat} (h : KV (Value.int .i64) es l) (hk : ∀ p, l[j]? = some p → p.1 = x) : KV (Value.int .i64) (es.modify j fun e => { e with key := .int .i64 x, val := .int .i64 z }) (l.modify j fun p => (p.1, .int .i64 z)) := by
 unfold KV
 apply List.ext_getElem?
 intro i
 have hi := h.at i
 simp only [List.getElem?_map, List.getElem?_modify] at *
 by_cases e : j = i
 ·subst e
  simp only [if_true] at *
  cases he : es[j]? with
  | none => rw [he] at hi; cases hp : l[j]? with
   | none => simp
   | some p => rw [hp] at hi; cases hi
  | some q =>
   rw [he] at hi
   cases hp : l[j]? with
   | none => rw [hp] at hi; cases hi
   | some p => simp [hk p hp]
 ·simp only [if_neg e]
  cases he : es[i]? with
  | none => rw [he] at hi; cases hp : l[i]? with
   | none => simp
   | some p => rw [hp] at hi; cases hi
  | some q =>
   rw [he] at hi
   cases hp : l[i]? with
   | none => rw [hp] at hi; cases hi
   | some p => rw [hp] at hi; simpa using hi
theorem fst_modify {z : Value} (l : List (Int × Value)) (j : Nat) : (l.modify j fun p => (p.1, z)).map (·.1) = l.map (·.1) := by
 apply List.ext_getElem?
 intro i
 simp only [List.getElem?_map, List.getElem?_modify]
 by_cases e : j = i
 ·subst e; cases l[j]? <;> simp
 ·simp [e]
theorem born_modify {k v : Value} (es : List MapEntry) (j : Nat) : (es.modify j fun e => { e with key := k, val := v }).map (·.born) = es.map (·.born) := by
 apply List.ext_getElem?
 intro i
 simp only [List.getElem?_map, List.getElem?_modify]
 by_cases e : j = i
 ·subst e; cases es[j]? <;> simp
 ·simp [e]
theorem SetI.put {w : World} {b : Nat} {L : List Int} (h : SetI w b L) (x z : Int) (hx : -9223372036854775808 ≤ x ∧ x ≤ 9223372036854775807) : ∃ es c q, w.heap[b]? = some (.map es c) ∧ Instr.findNow (.int .i64) (.int .i64 x) es.toList 0 = some q ∧
  ∀ w' : World, w'.heap[b]? = some (mupO es c (.int .i64 x) (.int .i64 z) q) → SetI w' b (L ++ [x]) := by
 obtain ⟨es, c, h1, hm⟩ := h.ex
 obtain ⟨l, h2, h3, h4, h5, h6⟩ := hm.kv
 obtain ⟨r, hr1, hr2⟩ := findNow_kv (same_int .i64 .i64) x es.toList _ 0 h2
 have hok : ∀ y ∈ L ++ [x], -9223372036854775808 ≤ y ∧ y ≤ 9223372036854775807 := fun y hy => by
  rcases List.mem_append.1 hy with hy | hy
  ·exact h.ok y hy
  ·simp only [List.mem_singleton] at hy; subst hy; exact hx
 refine ⟨es, c, r, h1, hr1, fun w' hw => ?_⟩
 cases r with
 | none =>
  have hn : ∀ p ∈ l, p.1 ≠ x := by
   cases hf : l.find? (fun p => decide (x = p.1)) with
   | none =>
    intro p hp e
    have := List.find?_eq_none.1 hf p hp
    simp [e] at this
   | some p => rw [hf] at hr2; cases hr2
  refine ⟨hok, _, _, hw, ⟨⟨l ++ [(x, .int .i64 z)], KV.push h2 x (.int .i64 z) c, ?_, fun y => ?_, ?_, fun p hp => ?_⟩, ?_, ?_⟩⟩
  ·rw [List.map_append, List.map_cons, List.map_nil, List.nodup_append]
   refine ⟨h3, by simp, fun a ha b hb => ?_⟩
   obtain ⟨p, hp, rfl⟩ := List.mem_map.1 ha
   simp only [List.mem_singleton] at hb
   rw [hb]
   exact hn p hp
  ·rw [List.map_append, List.mem_append, List.mem_append, h4 y]; simp
  ·rw [List.length_append, List.length_append]; simp; exact h5
  ·rcases List.mem_append.1 hp with hp | hp
   ·exact h6 p hp
   ·simp only [List.mem_singleton] at hp; subst hp; exact ⟨z, rfl⟩
  ·intro e he
   simp only [Array.toList_push, List.mem_append, List.mem_singleton] at he
   rcases he with he | rfl
   ·have := hm.born e he; omega
   ·show c < c + 1; omega
  ·simp only [Array.toList_push, List.map_append, List.map_cons, List.map_nil]
   rw [List.nodup_append]
   refine ⟨hm.nodup, by simp, fun a ha b' hb' => ?_⟩
   obtain ⟨e, he, rfl⟩ := List.mem_map.1 ha
   simp only [List.mem_singleton] at hb'
   have := hm.born e he
   omega
 | some jv =>
  obtain ⟨j, v⟩ := jv
  obtain ⟨_, e, he, hs⟩ := findNow_ix hr1
  rw [Nat.sub_zero] at he
  have hkey : ∀ p, l[j]? = some p → p.1 = x := fun p hp => by
   have := h2.at j
   rw [he, hp] at this
   simp only [Option.map_some, Option.some.injEq, Prod.mk.injEq] at this
   rw [this.1, same_int] at hs
   have hs := Option.some.inj hs
   simp only [decide_eq_true_eq] at hs
   exact hs.symm
  have hxl : x ∈ L := by
   have hj := h2.at j
   rw [he] at hj
   cases hp : l[j]? with
   | none => rw [hp] at hj; cases hj
   | some p =>
    rw [← h4 x, ← hkey p hp]
    exact List.mem_map.2 ⟨p, List.mem_of_getElem? hp, rfl⟩
  have hw2 : w'.heap[b]? = some (.map (es.modify j fun e => { e with key := .int .i64 x, val := .int .i64 z }) c) := hw
  refine ⟨hok, _, _, hw2, ⟨⟨l.modify j fun p => (p.1, .int .i64 z), ?_, by rw [fst_modify]; exact h3, fun y => ?_, ?_, fun p hp => ?_⟩, ?_, ?_⟩⟩
  ·rw [Array.toList_modify]
   exact kv_modify h2 hkey
  ·rw [fst_modify, h4 y, List.mem_append, List.mem_singleton]
   exact ⟨.inl, fun q => q.elim id fun q => q ▸ hxl⟩
  ·rw [List.length_modify, List.length_append]; omega
  ·obtain ⟨i, hi, rfl⟩ := List.mem_iff_getElem.1 hp
   rw [List.getElem_modify]
   split
   ·exact ⟨z, rfl⟩
   ·exact h6 _ (List.getElem_mem _)
  ·rw [Array.toList_modify]
   intro e' he'
   have : e'.born ∈ es.toList.map (·.born) := by rw [← born_modify (k := .int .i64 x) (v := .int .i64 z) es.toList j]; exact List.mem_map.2 ⟨e', he', rfl⟩
   obtain ⟨e0, h0, h00⟩ := List.mem_map.1 this
   have := hm.born e0 h0
   omega
  ·rw [Array.toList_modify, born_modify]; exact hm.nodup
section
variable {P : Program} {KW : World → Prop} {K3 : Value → Prop} {w : World}
theorem K.lkpI {b : Nat} {L : List Int} {x : Int} {t} (h : SetI w b L) (hk : ∀ z, K3 (.int .i64 z)) : LkpVCh (.int .i64) (.int .i64 0) false (.map (some b)) (.int .i64 x) w K3 t := by
 obtain ⟨es, r, z, h1, h2, h3⟩ := h.look x
 exact K.lkp h1 h2 (by rw [h3]; exact hk z)
theorem K.mupI {b : Nat} {L : List Int} {x z : Int} {t} (h : SetI w b L) (hx : -9223372036854775808 ≤ x ∧ x ≤ 9223372036854775807) (hk : ∀ w1, Wr b w w1 → SetI w1 b (L ++ [x]) → KW w1) : MupVCh (.int .i64) (.map (some b)) (.int .i64 x) (.int .i64 z) w KW t := by
 obtain ⟨es, c, q, h1, h2, h3⟩ := h.put x z hx
 exact K.mup h1 h2 (hk _ (Wr.setO w b _) (h3 _ (setO_same (lH h1))))
end
theorem wf_i64 {x : Int} (h : -9223372036854775808 ≤ x ∧ x ≤ 9223372036854775807) : (Lit.int .i64 x).wf = true := by
 have h1 : IntKind.i64.min = -9223372036854775808 := by decide
 have h2 : IntKind.i64.max = 9223372036854775807 := by decide
 simp only [Lit.wf, h1, h2, Bool.and_eq_true, decide_eq_true_eq]
 exact h
theorem SetI.own {P : Program} {k : TypeId} {w : World} {b : Nat} {L : List Int} (hk : P.underlying k = some (.int .i64)) (h : SetI w b L) (hL : L.length ≤ maxLen) :
  ∃ D0 : DataW Unit, w.ownsMap P k (fun _ => some (.lit (.bool true), [])) b L.length D0 ∧ Maps.size D0 ≤ L.length ∧ ∀ ss : List Int, ss.Perm (intKeys D0) → ss.Nodup ∧ ∀ x, x ∈ ss ↔ x ∈ L := by
 obtain ⟨es, c, h1, hm⟩ := h.ex
 obtain ⟨l, h2, h3, h4, h5, h6⟩ := hm.kv
 have hlen : es.toList.length = l.length := h2.len
 have hrd : ∀ e ∈ es.toList, ∃ x, e.key = .int .i64 x ∧ WideElems.rd P k (fun _ => some ((.lit (.bool true) : DataW Unit), [])) e = some (.int .i64 x, .lit (.bool true)) := fun e he => by
  obtain ⟨i, hi, rfl⟩ := List.mem_iff_getElem.1 he
  have hat := h2.at i
  rw [List.getElem?_eq_getElem hi, List.getElem?_eq_getElem (by omega)] at hat
  simp only [Option.map_some, Option.some.injEq, Prod.mk.injEq] at hat
  refine ⟨_, hat.1, ?_⟩
  have hw := wf_i64 (h.ok l[i].1 ((h4 _).1 (List.mem_map.2 ⟨l[i], List.getElem_mem _, rfl⟩)))
  unfold WideElems.rd
  rw [hat.1, Maps.keyOf_int_mk hk hw]
  rfl
 have hF : WideElems.Fit P k (fun _ => some ((.lit (.bool true) : DataW Unit), [])) es c := ⟨by simp at hlen; omega, ⟨hm.born, hm.nodup, by
  have : es.toList.map (·.key) = (l.map (·.1)).map (Value.int .i64) := by
   apply List.ext_getElem?
   intro i
   rw [List.getElem?_map, List.getElem?_map, List.getElem?_map]
   have := h2.at i
   cases he : es.toList[i]? with
   | none => rw [he] at this; cases hp : l[i]? with
    | none => rfl
    | some p => rw [hp] at this; cases this
   | some q =>
    rw [he] at this
    cases hp : l[i]? with
    | none => rw [hp] at this; cases this
    | some p =>
     rw [hp] at this
     simp only [Option.map_some, Option.some.injEq, Prod.mk.injEq] at this
     simp only [Option.map_some, this.1]
  rw [this]
  exact List.pairwise_map.2 (h3.imp fun {a b} hne e => hne (by injection e))⟩, fun x hx => let ⟨y, _, hy⟩ := hrd x hx; ⟨_, hy⟩⟩
 refine ⟨_, World.ownsMap.mono (World.ownsMap_of_fit h1 hF (fun _ _ _ q => q)) (by simp at hlen; omega), ?_, fun ss hp => ?_⟩
 ·rw [Maps.size_eq, length_sorted]; simp at hlen ⊢; omega
 ·have hkeys : (intKeys (.map ((es.toList.map (WideElems.rg P k (fun _ => some ((.lit (.bool true) : DataW Unit), [])))).foldr DataW.insert []))).Perm (l.map (·.1)) := by
   refine ((WideShapes.sorted_perm _).map _).trans ?_
   rw [List.map_map]
   have : es.toList.map ((fun p : Lit × DataW Unit => intOf p.1) ∘ WideElems.rg P k (fun _ => some ((.lit (.bool true) : DataW Unit), []))) = l.map (·.1) := by
    apply List.ext_getElem?
    intro i
    rw [List.getElem?_map, List.getElem?_map]
    cases he : es.toList[i]? with
    | none =>
     have := h2.at i
     rw [he] at this
     cases hp : l[i]? with
     | none => rfl
     | some p => rw [hp] at this; cases this
    | some e =>
     obtain ⟨x, hx, hy⟩ := hrd e (List.mem_of_getElem? he)
     have := h2.at i
     rw [he] at this
     cases hp : l[i]? with
     | none => rw [hp] at this; cases this
     | some p =>
      rw [hp] at this
      simp only [Option.map_some, Option.some.injEq, Prod.mk.injEq] at this
      rw [hx] at this
      have e1 : x = p.1 := by have := this.1; injection this
      simp only [Option.map_some, Function.comp, WideElems.rg_of hy, e1]; rfl
   rw [this]
  have hp2 := hp.trans hkeys
  exact ⟨hp2.nodup_iff.2 h3, fun x => by rw [hp2.mem_iff]; exact h4 x⟩
theorem sort_rises {ss : List Int} (h : ss.Nodup) : (ss.mergeSort fun x y => decide (x ≤ y)).Pairwise (· < ·) := by
 have tr : ∀ a b c : Int, decide (a ≤ b) = true → decide (b ≤ c) = true → decide (a ≤ c) = true := fun a b c h1 h2 => by simp only [decide_eq_true_eq] at *; omega
 have to : ∀ a b : Int, (decide (a ≤ b) || decide (b ≤ a)) = true := fun a b => by simp only [Bool.or_eq_true, decide_eq_true_eq]; omega
 have h1 := List.pairwise_mergeSort tr to ss
 have h2 : (ss.mergeSort fun x y => decide (x ≤ y)).Nodup := (List.mergeSort_perm ss _).nodup_iff.2 h
 refine (h1.and h2).imp fun {a b} q => ?_
 simp only [decide_eq_true_eq] at q
 omega
end Lite
end
section
namespace Abs
open Go
theorem procCheck_ok {p : Proc} {s : Scope} (h : (procCheck p s).2.2 = 0) : whole p s = 0 ∧ (plocals p s).2 = 0 ∧ (cmdsE (inner p s) p.locs p.cmds p.cmds 0).2.2 = 0 := by
 unfold procCheck at h
 by_cases h1 : whole p s ≠ 0
 ·rw [if_pos h1] at h; exact absurd h h1
 rw [if_neg h1] at h
 by_cases h2 : (plocals p s).2 ≠ 0
 ·rw [if_pos h2] at h; exact absurd h h2
 rw [if_neg h2] at h
 exact ⟨by simpa using h1, by simpa using h2, h⟩
theorem cmdsE_each {own : Scope} {locs : Int} {all : List Cmd} : ∀ (l : List Cmd) (i : Nat), (cmdsE own locs all l i).2.2 = 0 → ∀ k (h : k < l.length), (cmdCheck l[k] locs own).2 = 0 ∧ (all.take (i + k)).any (fun x => decide (x.name = l[k].name)) = false
 | [], _, _, k, h => by simp at h
 | c :: r, i, hE, k, h => by
  simp only [cmdsE] at hE
  by_cases h1 : (cmdCheck c locs own).2 ≠ 0
  ·rw [if_pos h1] at hE; exact absurd hE h1
  rw [if_neg h1] at hE
  by_cases h2 : (all.take i).any (fun x => decide (x.name = c.name)) = true
  ·rw [if_pos h2] at hE; cases hE
  rw [if_neg h2] at hE
  cases k with
  | zero => exact ⟨by simpa using h1, by simpa using h2⟩
  | succ k =>
   have := cmdsE_each r (i + 1) hE k (by simpa using h)
   simpa [Nat.add_assoc, Nat.add_comm 1 k] using this
theorem nth_got {α : Type} {l : List α} {n : Int} {x : α} (h : nth l n = some x) : 0 ≤ n ∧ l[n.toNat]? = some x ∧ n.toNat < l.length := by
 unfold nth at h
 by_cases h0 : 0 ≤ n
 ·rw [if_pos h0] at h
  exact ⟨h0, h, (List.getElem?_eq_some_iff.1 h).1⟩
 ·rw [if_neg h0] at h; cases h
theorem kscalar_got {n : Int} {s : Scope} (h : (kscalar n s).2 = true) : 0 ≤ n ∧ n ≤ s.scalars.length ∧ (kscalar n s).1 = if n = 0 then 0 else 1 + n := by
 unfold kscalar at h ⊢
 by_cases h1 : n = 0
 ·subst h1; simp
 ·rw [if_neg h1] at h ⊢
  by_cases h2 : n < 0 ∨ (s.scalars.length : Int) < n
  ·rw [if_pos h2] at h; cases h
  ·rw [if_neg h2, if_neg h1]
   exact ⟨by omega, by omega, rfl⟩
theorem kvar_got {l : List Var} {n : Int} {s : Scope} (h : (kvar l n s).2.2 = true) : ∃ v, nth l n = some v ∧ l[n.toNat]? = some v ∧ 0 ≤ n ∧ kvar l n s = ((kscalar v.scalar s).1, (kscalar v.over s).1, true) ∧ (kscalar v.scalar s).2 = true ∧ (kscalar v.over s).2 = true := by
 unfold kvar at h ⊢
 cases hn : nth l n with
 | none => rw [hn] at h; cases h
 | some v =>
  rw [hn] at h
  simp only [Bool.and_eq_true] at h
  obtain ⟨h0, h1, _⟩ := nth_got hn
  exact ⟨v, rfl, h1, h0, by simp only [h.1, h.2, Bool.and_self], h.1, h.2⟩
theorem rising_eq : ∀ (a b : List Int), a.Pairwise (· < ·) → b.Pairwise (· < ·) → (∀ x, x ∈ a ↔ x ∈ b) → a = b
 | [], [], _, _, _ => rfl
 | [], y :: b, _, _, h => by have := (h y).2 (List.mem_cons_self ..); cases this
 | x :: a, [], _, _, h => by have := (h x).1 (List.mem_cons_self ..); cases this
 | x :: a, y :: b, ha, hb, h => by
  rw [List.pairwise_cons] at ha hb
  have e : x = y := by
   rcases List.mem_cons.1 ((h x).1 (List.mem_cons_self ..)) with e | e
   ·exact e
   ·rcases List.mem_cons.1 ((h y).2 (List.mem_cons_self ..)) with e2 | e2
    ·exact e2.symm
    ·have := hb.1 x e; have := ha.1 y e2; omega
  subst e
  congr 1
  refine rising_eq a b ha.2 hb.2 fun z => ⟨fun hz => ?_, fun hz => ?_⟩
  ·rcases List.mem_cons.1 ((h z).1 (List.mem_cons_of_mem _ hz)) with e | e
   ·subst e; have := ha.1 z hz; omega
   ·exact e
  ·rcases List.mem_cons.1 ((h z).2 (List.mem_cons_of_mem _ hz)) with e | e
   ·subst e; have := hb.1 z hz; omega
   ·exact e
theorem rising_len : ∀ (l : List Int) (a b : Int), l.Pairwise (· < ·) → (∀ x ∈ l, a ≤ x ∧ x < b) → (l.length : Int) ≤ max (b - a) 0
 | [], a, b, _, _ => by simp; omega
 | x :: l, a, b, h, hb => by
  rw [List.pairwise_cons] at h
  have h1 := hb x (List.mem_cons_self ..)
  have := rising_len l (x + 1) b h.2 fun y hy => ⟨by have := h.1 y hy; omega, (hb y (List.mem_cons_of_mem _ hy)).2⟩
  simp only [List.length_cons]
  omega
def rowI (a n : Nat) : List Int := (List.range n).map fun (k : Nat) => ((a + k : Nat) : Int)
theorem rowI_len (a n : Nat) : (rowI a n).length = n := by simp [rowI]
theorem rowI_zero (a : Nat) : rowI a 0 = [] := rfl
theorem rowI_one (a : Nat) : rowI a 1 = [(a : Int)] := by simp [rowI]
theorem rowI_succ (a n : Nat) : rowI a (n + 1) = rowI a n ++ [((a + n : Nat) : Int)] := by simp [rowI, List.range_succ]
theorem rowI_mem {a n : Nat} {x : Int} : x ∈ rowI a n ↔ (a : Int) ≤ x ∧ x < ((a + n : Nat) : Int) := by
 constructor
 ·intro h
  obtain ⟨k, hk, rfl⟩ := List.mem_map.1 h
  have := List.mem_range.1 hk
  omega
 ·intro h
  refine List.mem_map.2 ⟨(x - a).toNat, List.mem_range.2 (by omega), by omega⟩
theorem rowI_pw (a n : Nat) : (rowI a n).Pairwise (· < ·) := by
 induction n with
 | zero => exact List.Pairwise.nil
 | succ n ih =>
  rw [rowI_succ, List.pairwise_append]
  refine ⟨ih, by simp, fun x hx y hy => ?_⟩
  have := (rowI_mem.1 hx).2
  simp only [List.mem_singleton] at hy
  omega
def MinOf (l : List Int) (last next : Int) : Prop := (next = -1 ∧ ∀ x ∈ l, x ≤ last) ∨ (next ∈ l ∧ last < next ∧ 0 ≤ next ∧ ∀ x ∈ l, last < x → next ≤ x)
theorem MinOf.nil (last : Int) : MinOf [] last (-1) := .inl ⟨rfl, fun x h => by cases h⟩
theorem MinOf.skip {l : List Int} {last next x : Int} (h : MinOf l last next) (hx : ¬ (last < x ∧ (next < 0 ∨ x < next))) : MinOf (l ++ [x]) last next := by
 rcases h with ⟨rfl, h⟩ | ⟨h1, h2, h3, h4⟩
 ·refine .inl ⟨rfl, fun y hy => ?_⟩
  rcases List.mem_append.1 hy with hy | hy
  ·exact h y hy
  ·simp only [List.mem_singleton] at hy; subst hy; omega
 ·refine .inr ⟨List.mem_append_left _ h1, h2, h3, fun y hy hl => ?_⟩
  rcases List.mem_append.1 hy with hy | hy
  ·exact h4 y hy hl
  ·simp only [List.mem_singleton] at hy; subst hy; omega
theorem MinOf.take {l : List Int} {last next x : Int} (h : MinOf l last next) (h0 : 0 ≤ x) (hx : last < x ∧ (next < 0 ∨ x < next)) : MinOf (l ++ [x]) last x := by
 refine .inr ⟨by simp, hx.1, h0, fun y hy hl => ?_⟩
 rcases List.mem_append.1 hy with hy | hy
 ·rcases h with ⟨rfl, h⟩ | ⟨h1, h2, h3, h4⟩
  ·have := h y hy; omega
  ·have := h4 y hy hl; omega
 ·simp only [List.mem_singleton] at hy; omega
structure Upto (l : List Int) (last : Int) (out : List Int) : Prop where
 pw : out.Pairwise (· < ·)
 mem : ∀ x, x ∈ out ↔ x ∈ l ∧ x ≤ last
 last : -1 ≤ last
theorem Upto.start {l : List Int} (h : ∀ x ∈ l, 0 ≤ x) : Upto l (-1) [] := ⟨List.Pairwise.nil, fun x => ⟨fun h => (by cases h), fun ⟨h1, h2⟩ => by have := h x h1; omega⟩, Int.le_refl _⟩
theorem Upto.step {l out : List Int} {last next : Int} (h : Upto l last out) (hm : MinOf l last next) (h0 : 0 ≤ next) : Upto l next (out ++ [next]) ∧ last < next ∧ next ∈ l := by
 rcases hm with ⟨rfl, _⟩ | ⟨h1, h2, h3, h4⟩
 ·omega
 ·refine ⟨⟨?_, fun x => ?_, by omega⟩, h2, h1⟩
  ·rw [List.pairwise_append]
   refine ⟨h.pw, by simp, fun x hx y hy => ?_⟩
   have := ((h.mem x).1 hx).2
   simp only [List.mem_singleton] at hy
   omega
  ·rw [List.mem_append, h.mem x, List.mem_singleton]
   constructor
   ·rintro (⟨a, b⟩ | rfl)
    ·exact ⟨a, by omega⟩
    ·exact ⟨h1, Int.le_refl _⟩
   ·rintro ⟨a, b⟩
    by_cases hx : x ≤ last
    ·exact .inl ⟨a, hx⟩
    ·exact .inr (by have := h4 x a (by omega); omega)
structure Rising (l r : List Int) : Prop where
 pw : r.Pairwise (· < ·)
 mem : ∀ x, x ∈ r ↔ x ∈ l
theorem Upto.done {l out : List Int} {last next : Int} (h : Upto l last out) (hm : MinOf l last next) (h0 : next < 0) : Rising l out := by
 rcases hm with ⟨rfl, h1⟩ | ⟨h1, h2, h3, h4⟩
 ·exact ⟨h.pw, fun x => by rw [h.mem x]; exact ⟨fun a => a.1, fun a => ⟨a, h1 x a⟩⟩⟩
 ·omega
theorem Rising.eq {l l' r r' : List Int} (h : Rising l r) (k : Rising l' r') (e : ∀ x, x ∈ l ↔ x ∈ l') : r = r' :=
 rising_eq r r' h.pw k.pw fun x => by rw [h.mem, k.mem, e]
theorem Rising.of_row (a n : Nat) : Rising (rowI a n) (rowI a n) := ⟨rowI_pw a n, fun _ => Iff.rfl⟩
def longN (m : Model) (v : Nat) : Nat := match m.vars[v]? with | some x => (cells x m.scalars).toNat | none => 0
def elemN (m : Model) (q : Nat) : Nat := match (insts m)[q]? with | some x => x.elem.toNat | none => 0
def capN (m : Model) (c : Nat) : Nat := match m.chans[c]? with | some x => x.cap.toNat | none => 0
def itemC (m : Model) (q v : Nat) (own : Bool) : List Int := if own then rowI (vAt m v + elemN m q - 1) 1 else rowI (vAt m v) (longN m v)
def atC (m : Model) (p : Int) (n : Nat) : List Int := (List.range n).flatMap fun j => if (insts m)[j]?.map (·.proc) = some p then rowI (iAt m j) 1 else []
def nodeC (m : Model) (q : Nat) (own : Bool) (x : Node) : List Int :=
 if x.op = 2 then rowI (vAt m x.n.toNat) 1
 else if x.op = 3 then itemC m q x.n.toNat own
 else if x.op = 4 then rowI (iAt m q + 1 + x.n.toNat) 1
 else if x.op = 6 then rowI (cAt m x.n.toNat) 1
 else if x.op = 7 then atC m (x.n.tdiv 16) (insts m).length
 else []
def ownAt (e : List Node) : Nat → Bool
 | 0 => false
 | k + 1 => match e[k]? with | some x => decide (x.op = 5) | none => false
def exprC (m : Model) (q : Nat) (e : List Node) (n : Nat) : List Int := (List.range n).flatMap fun k => match e[k]? with | some x => nodeC m q (ownAt e k) x | none => []
def chanC (m : Model) (c : Nat) : List Int := rowI (cAt m c) (1 + capN m c)
def selfIx (a : Act) : Bool := match a.index with | [x] => decide (x.op = 5) | _ => false
def actR (m : Model) (q : Nat) (a : Act) : List Int :=
 if a.kind = 5 then chanC m a.to.toNat
 else (if a.kind = 2 then exprC m q a.index a.index.length else if a.kind = 4 then rowI (cAt m a.to.toNat) 1 else []) ++ exprC m q a.value a.value.length
def actW (m : Model) (q : Nat) (a : Act) : List Int :=
 if a.kind = 1 then rowI (vAt m a.to.toNat) 1
 else if a.kind = 2 then itemC m q a.to.toNat (selfIx a)
 else if a.kind = 3 then rowI (iAt m q + 1 + a.to.toNat) 1
 else if a.kind = 4 then chanC m a.to.toNat
 else if a.kind = 5 then chanC m a.to.toNat ++ rowI (iAt m q + 1 + a.loc.toNat) 1
 else []
def actR' (m : Model) (q : Nat) (a : Act) : List Int :=
 (if a.kind = 5 then [] else exprC m q a.value a.value.length) ++
 (if a.kind = 2 then exprC m q a.index a.index.length else if a.kind = 4 then rowI (cAt m a.to.toNat) 1 else if a.kind = 5 then chanC m a.to.toNat else [])
theorem actR_mem (m : Model) (q : Nat) (a : Act) (x : Int) : x ∈ actR m q a ↔ x ∈ actR' m q a := by
 unfold actR actR'
 by_cases h : a.kind = 5
 ·rw [if_pos h, if_pos h, if_neg (by omega), if_neg (by omega), if_pos h, List.nil_append]
 ·rw [if_neg h, if_neg h, if_neg h, List.mem_append, List.mem_append]
  exact Or.comm
def guardC (m : Model) (q : Nat) (c : Cmd) : List Int := rowI (iAt m q) 1 ++ exprC m q c.guard c.guard.length
def readC (m : Model) (q : Nat) (c : Cmd) (n : Nat) : List Int := guardC m q c ++ (c.acts.take n).flatMap (actR m q)
def readC' (m : Model) (q : Nat) (c : Cmd) (n : Nat) : List Int := guardC m q c ++ (c.acts.take n).flatMap (actR' m q)
def writeC (m : Model) (q : Nat) (c : Cmd) (n : Nat) : List Int := rowI (iAt m q) 1 ++ (c.acts.take n).flatMap (actW m q)
theorem readC_mem (m : Model) (q : Nat) (c : Cmd) (n : Nat) (x : Int) : x ∈ readC m q c n ↔ x ∈ readC' m q c n := by
 unfold readC readC'
 simp only [List.mem_append, List.mem_flatMap, actR_mem]
theorem readC_succ {m : Model} {q : Nat} {c : Cmd} {n : Nat} (h : n < c.acts.length) : readC m q c (n + 1) = readC m q c n ++ actR m q c.acts[n] := by
 unfold readC
 rw [List.take_succ_eq_append_getElem h, List.flatMap_append, List.flatMap_singleton, List.append_assoc]
theorem readC'_succ {m : Model} {q : Nat} {c : Cmd} {n : Nat} (h : n < c.acts.length) : readC' m q c (n + 1) = readC' m q c n ++ actR' m q c.acts[n] := by
 unfold readC'
 rw [List.take_succ_eq_append_getElem h, List.flatMap_append, List.flatMap_singleton, List.append_assoc]
theorem writeC_succ {m : Model} {q : Nat} {c : Cmd} {n : Nat} (h : n < c.acts.length) : writeC m q c (n + 1) = writeC m q c n ++ actW m q c.acts[n] := by
 unfold writeC
 rw [List.take_succ_eq_append_getElem h, List.flatMap_append, List.flatMap_singleton, List.append_assoc]
theorem exprC_succ {m : Model} {q : Nat} {e : List Node} {n : Nat} (h : n < e.length) : exprC m q e (n + 1) = exprC m q e n ++ nodeC m q (ownAt e n) e[n] := by
 unfold exprC
 rw [List.range_succ, List.flatMap_append, List.flatMap_singleton, List.getElem?_eq_getElem h]
theorem ownAt_succ {e : List Node} {n : Nat} (h : n < e.length) : ownAt e (n + 1) = decide (e[n].op = 5) := by
 simp only [ownAt, List.getElem?_eq_getElem h]
theorem atC_succ {m : Model} {p : Int} {n : Nat} (h : n < (insts m).length) : atC m p (n + 1) = atC m p n ++ if (insts m)[n].proc = p then rowI (iAt m n) 1 else [] := by
 unfold atC
 rw [List.range_succ, List.flatMap_append, List.flatMap_singleton, List.getElem?_eq_getElem h]
 simp only [Option.map_some, Option.some.injEq]
structure NodeIn (s : Scope) (x : Node) : Prop where
 var : x.op = 2 → 0 ≤ x.n ∧ ∃ v, s.vars[x.n.toNat]? = some v ∧ v.over = 0
 item : x.op = 3 → 0 ≤ x.n ∧ x.n.toNat < s.vars.length
 loc : x.op = 4 → 0 ≤ x.n ∧ x.n.toNat < s.locals.length
 self : x.op = 5 → 1 ≤ s.self ∧ s.self ≤ s.scalars.length
 len : x.op = 6 → 0 ≤ x.n ∧ x.n.toNat < s.chans.length
 at_ : x.op = 7 → 0 ≤ x.n ∧ (x.n.tdiv 16).toNat < s.procs.length
structure ExprIn (s : Scope) (e : List Node) : Prop where
 node : ∀ k (h : k < e.length), NodeIn s e[k] ∧ (e[k].op = 3 → 0 < k)
 len : e.length ≤ 24
theorem leaf_in {s : Scope} {x : Node} {top : Int} (h : (kleaf x s top).2 = 0) : NodeIn s x := by
 unfold kleaf at h
 by_cases h1 : x.op = 1
 ·exact ⟨by omega, by omega, by omega, by omega, by omega, by omega⟩
 rw [if_neg h1] at h
 by_cases h2 : x.op = 2 ∨ x.op = 3 ∨ x.op = 4
 ·rw [if_pos h2] at h
  simp only at h
  by_cases hq : (kvar (if x.op = 4 then s.locals else s.vars) x.n s).2.2 = false
  ·rw [if_pos hq] at h; cases h
  rw [if_neg hq] at h
  obtain ⟨v, k1, k2, k3, k4, k5, k6⟩ := kvar_got (by simpa using hq)
  obtain ⟨o1, o2, o3⟩ := kscalar_got k6
  rw [k4] at h
  simp only at h
  have hlt := (List.getElem?_eq_some_iff.1 k2).1
  by_cases h3 : (x.op = 3 ∧ ((kscalar v.over s).1 = 0 ∨ top ≠ (kscalar v.over s).1)) ∨ (x.op ≠ 3 ∧ (kscalar v.over s).1 ≠ 0)
  ·rw [if_pos h3] at h; cases h
  ·refine ⟨fun e => ⟨k3, v, ?_, ?_⟩, fun e => ⟨k3, ?_⟩, fun e => ⟨k3, ?_⟩, by omega, by omega, by omega⟩
   ·rw [if_neg (by omega)] at k2; exact k2
   ·have : (kscalar v.over s).1 = 0 := Classical.byContradiction fun hn => h3 (.inr ⟨by omega, hn⟩)
    rw [o3] at this
    split at this
    ·assumption
    ·omega
   ·rw [if_neg (by omega)] at hlt; exact hlt
   ·rw [if_pos e] at hlt; exact hlt
 ·rw [if_neg h2] at h
  unfold knamed at h
  refine ⟨by omega, by omega, by omega, fun e => ?_, fun e => ?_, fun e => ?_⟩
  ·rw [if_pos e] at h
   by_cases q : 1 ≤ s.self ∧ s.self ≤ s.scalars.length
   ·exact q
   ·rw [if_neg q] at h; cases h
  ·rw [if_neg (by omega), if_pos e] at h
   unfold kLen at h
   cases hn : nth s.chans x.n with
   | none => rw [hn] at h; cases h
   | some c => exact ⟨(nth_got hn).1, (nth_got hn).2.2⟩
  ·rw [if_neg (by omega), if_neg (by omega), if_pos e] at h
   unfold kAt at h
   by_cases q : 0 ≤ x.n
   ·rw [if_pos q] at h
    cases hn : nth s.procs (x.n.tdiv 16) with
    | none => rw [hn] at h; cases h
    | some c => exact ⟨q, (nth_got hn).2.2⟩
   ·rw [if_neg q] at h; cases h
theorem kind_in {e : List Node} {s : Scope} (h : (kind e s).2 = 0) : ExprIn s e := by
 unfold kind runE at h
 by_cases h1 : e.length > 24
 ·rw [if_pos h1] at h; cases h
 rw [if_neg h1] at h
 by_cases h2 : e.length = 0
 ·exact ⟨fun k hk => by omega, by omega⟩
 rw [if_neg h2] at h
 by_cases h3 : (runL (fKind s) e []).1 ≠ 0
 ·rw [if_pos h3] at h; exact absurd h h3
 have h3 : (runL (fKind s) e []).1 = 0 := by simpa using h3
 refine ⟨fun k hk => ?_, by omega⟩
 have hpre : ∀ j, (runL (fKind s) (e.take j) []).1 = 0 := fun j => Classical.byContradiction fun hn => by
  have := runL_stop (f := fKind s) (e := e) (k := j) rfl hn
  rw [this] at h3
  exact hn h3
 have hst : runL (fKind s) (e.take k) [] = (0, (runL (fKind s) (e.take k) []).2) := Prod.ext (hpre k) rfl
 have h4 := runL_step hk hst
 have h5 := hpre (k + 1)
 rw [h4] at h5
 unfold stepG at h5
 by_cases q1 : nparts e[k].op < 0
 ·rw [if_pos q1] at h5; cases h5
 rw [if_neg q1] at h5
 by_cases q2 : ((runL (fKind s) (e.take k) []).2.length : Int) < nparts e[k].op
 ·rw [if_pos q2] at h5; cases h5
 rw [if_neg q2] at h5
 by_cases q3 : (fKind s e[k] (runL (fKind s) (e.take k) []).2).2 ≠ 0
 ·rw [if_pos q3] at h5; exact absurd h5 q3
 have q3 : (fKind s e[k] (runL (fKind s) (e.take k) []).2).2 = 0 := by simpa using q3
 constructor
 ·by_cases ho : isOp e[k].op = false
  ·unfold fKind at q3
   rw [opOf_none ho] at q3
   exact leaf_in q3
  ·have : 9 ≤ e[k].op := by
    simp only [isOp, decide_eq_false_iff_not] at ho
    omega
   exact ⟨by omega, by omega, by omega, by omega, by omega, by omega⟩
 ·intro e3
  apply Classical.byContradiction
  intro hn
  have hk0 : k = 0 := by omega
  subst hk0
  rw [e3] at q2
  simp [runL, nparts] at q2
theorem asked_in {e : List Node} {k : Int} {s : Scope} (h : asked e k s = 0) : ExprIn s e := by
 unfold asked at h
 by_cases h1 : (kind e s).2 ≠ 0
 ·rw [if_pos h1] at h; exact absurd h h1
 ·exact kind_in (by simpa using h1)
structure ActIn (s : Scope) (a : Act) : Prop where
 set : a.kind = 1 → 0 ≤ a.to ∧ ∃ v, s.vars[a.to.toNat]? = some v ∧ v.over = 0
 item : a.kind = 2 → 0 ≤ a.to ∧ a.to.toNat < s.vars.length ∧ ExprIn s a.index
 loc : a.kind = 3 → 0 ≤ a.to ∧ a.to.toNat < s.locals.length
 chan : a.kind = 4 ∨ a.kind = 5 → 0 ≤ a.to ∧ a.to.toNat < s.chans.length
 recv : a.kind = 5 → 0 ≤ a.loc ∧ a.loc.toNat < s.locals.length
 val : a.kind ≠ 5 → ExprIn s a.value
 kind : 1 ≤ a.kind ∧ a.kind ≤ 5
theorem declared_in {l : List Var} {n : Int} {s : Scope} {q : Var × Int} (h : declared l n s = some q) : 0 ≤ n ∧ l[n.toNat]? = some q.1 ∧ n.toNat < l.length := by
 unfold declared at h
 cases hn : nth l n with
 | none => rw [hn] at h; cases h
 | some v =>
  rw [hn] at h
  simp only at h
  split at h
  ·injection h with h
   subst h
   exact nth_got hn
  ·cases h
theorem act_in {a : Act} {s : Scope} (h : actE a s = 0) : ActIn s a := by
 unfold actE at h
 by_cases h1 : a.kind = 1 ∨ a.kind = 2 ∨ a.kind = 3
 ·rw [if_pos h1] at h
  cases hd : declared (if a.kind = 3 then s.locals else s.vars) a.to s with
  | none => rw [hd] at h; cases h
  | some q =>
   rw [hd] at h
   obtain ⟨v, k⟩ := q
   obtain ⟨d1, d2, d3⟩ := declared_in hd
   simp only at h
   by_cases h2 : (v.over ≠ 0) ≠ (a.kind = 2)
   ·rw [if_pos h2] at h; cases h
   rw [if_neg h2] at h
   have h2 : (v.over ≠ 0) = (a.kind = 2) := Classical.byContradiction fun q => h2 q
   by_cases h3 : a.kind = 2 ∧ asked a.index (1 + v.over) s ≠ 0
   ·rw [if_pos h3] at h; exact absurd h h3.2
   rw [if_neg h3] at h
   refine ⟨fun e => ⟨d1, v, ?_, ?_⟩, fun e => ⟨d1, ?_, ?_⟩, fun e => ⟨d1, ?_⟩, by omega, by omega, fun _ => asked_in h, by omega⟩
   ·rw [if_neg (by omega)] at d2; exact d2
   ·apply Classical.byContradiction
    intro hn
    have : a.kind = 2 := h2 ▸ hn
    omega
   ·rw [if_neg (by omega)] at d3; exact d3
   ·exact asked_in (Classical.byContradiction fun hn => h3 ⟨e, hn⟩)
   ·rw [if_pos e] at d3; exact d3
 ·rw [if_neg h1] at h
  by_cases h2 : a.kind = 4 ∨ a.kind = 5
  ·rw [if_pos h2] at h
   cases hc : channel a.to s with
   | none => rw [hc] at h; cases h
   | some k =>
    rw [hc] at h
    simp only at h
    have hch : 0 ≤ a.to ∧ a.to.toNat < s.chans.length := by
     unfold channel at hc
     cases hn : nth s.chans a.to with
     | none => rw [hn] at hc; cases hc
     | some c => exact ⟨(nth_got hn).1, (nth_got hn).2.2⟩
    refine ⟨by omega, by omega, by omega, fun _ => hch, fun e => ?_, fun e => ?_, by omega⟩
    ·rw [if_pos e] at h
     unfold receives at h
     cases hd : declared s.locals a.loc s with
     | none => rw [hd] at h; cases h
     | some q =>
      obtain ⟨d1, d2, d3⟩ := declared_in hd
      exact ⟨d1, d3⟩
    ·rw [if_neg e] at h
     exact asked_in h
  ·rw [if_neg h2] at h; cases h
structure CmdIn (s : Scope) (c : Cmd) : Prop where
 guard : ExprIn s c.guard
 act : ∀ k (h : k < c.acts.length), ActIn s c.acts[k]
 few : c.acts.length ≤ 6
theorem actsE_got {s : Scope} : ∀ (l : List Act) (i : Nat) (t : Bool), (actsE s l i t).2 = 0 → ∀ k (h : k < l.length), ActIn s l[k]
 | [], _, _, _, k, h => by simp at h
 | a :: r, i, t, h, k, hk => by
  unfold actsE at h
  by_cases h1 : (talks a && t) = true
  ·rw [if_pos h1] at h; cases h
  rw [if_neg h1] at h
  by_cases h2 : actE a s ≠ 0
  ·rw [if_pos h2] at h; exact absurd h h2
  rw [if_neg h2] at h
  cases k with
  | zero => exact act_in (by simpa using h2)
  | succ k => exact actsE_got r _ _ h k (by simpa using hk)
theorem cmdCheck_got {c : Cmd} {locs : Int} {s : Scope} (h : (cmdCheck c locs s).2 = 0) : CmdIn s c := by
 unfold cmdCheck at h
 by_cases h1 : head c locs ≠ 0
 ·rw [if_pos h1] at h; exact absurd h h1
 rw [if_neg h1] at h
 by_cases h2 : c.guard.length > 0 ∧ asked c.guard 1 s ≠ 0
 ·rw [if_pos h2] at h; exact absurd h h2.2
 rw [if_neg h2] at h
 refine ⟨?_, actsE_got _ _ _ h, ?_⟩
 ·by_cases hg : c.guard.length > 0
  ·exact asked_in (Classical.byContradiction fun hn => h2 ⟨hg, hn⟩)
  ·exact ⟨fun k hk => by omega, by omega⟩
 ·apply Classical.byContradiction
  intro hn
  apply h1
  unfold head
  by_cases q1 : isName c.name = false
  ·rw [if_pos q1]; decide
  rw [if_neg q1]
  by_cases q2 : c.from_ < 0 ∨ locs ≤ c.from_ ∨ c.to < 0 ∨ locs ≤ c.to
  ·rw [if_pos q2]; decide
  rw [if_neg q2, if_pos (by omega)]
  decide
theorem check_procs {m : Model} (h : (check m).why = 0) : (procsF m).why = 0 := by
 unfold check at h
 by_cases hd : (data m).why ≠ 0
 ·rw [if_pos hd] at h; exact absurd h hd
 rw [if_neg hd] at h
 apply Classical.byContradiction
 intro hp
 rw [if_pos hp] at h
 exact hp h
theorem cmd_in {m : Model} (h : (check m).why = 0) {p k : Nat} (hp : p < m.procs.length) (hk : k < m.procs[p].cmds.length) : CmdIn (inner m.procs[p] (mscope m)) m.procs[p].cmds[k] := by
 obtain ⟨p1, _, _⟩ := procs_ok (check_procs h)
 obtain ⟨_, k1, _, _⟩ := eproc_ok hp (p1 p hp)
 obtain ⟨_, _, k4⟩ := procCheck_ok k1
 have e : pscope m (p : Int) = inner m.procs[p] (mscope m) := by
  unfold pscope
  rw [nth_some (by omega) (by omega)]
  rfl
 have h5 := (cmdsE_each _ _ k4 k hk).1
 rw [e] at h5
 exact cmdCheck_got h5
theorem flat_len {L : List (List Int)} {B : List (List Bd)} (h : L.map List.length = B.map List.length) : L.flatten.length = total B := by
 rw [List.length_flatten, h]; rfl
def pre (Xs : List Int) (d : Nat) : List Int := Xs.take d ++ List.replicate (Xs.length - d) 0
theorem take_snoc {Xs : List Int} {d : Nat} {x : Int} (h : Xs[d]? = some x) : Xs.take (d + 1) = Xs.take d ++ [x] := by
 obtain ⟨hd, rfl⟩ := List.getElem?_eq_some_iff.1 h
 exact List.take_succ_eq_append_getElem hd
theorem instsFrom_elem {m : Model} : ∀ (l : List Proc) (i : Nat), l = m.procs.drop i → ∀ x ∈ instsFrom m l i, ∃ (p : Nat) (h : p < m.procs.length), x.proc = p ∧ (m.procs[p].over ≠ 0 → 1 ≤ x.elem)
 | [], _, _, x, hx => by simp [instsFrom] at hx
 | p :: r, i, h, x, hx => by
  have hi : i < m.procs.length := by
   apply Classical.byContradiction
   intro hn
   rw [List.drop_eq_nil_of_le (by omega)] at h
   cases h
  rw [List.drop_eq_getElem_cons hi] at h
  injection h with h1 h2
  simp only [instsFrom, List.mem_append] at hx
  rcases hx with (hx | hx) | hx
  ·unfold ownI at hx
   split at hx
   ·rename_i h0
    rw [List.mem_singleton] at hx
    subst hx
    exact ⟨i, hi, rfl, fun hn => absurd (h1 ▸ h0) hn⟩
   ·cases hx
  ·unfold overs at hx
   obtain ⟨k, _, rfl⟩ := List.mem_map.1 hx
   exact ⟨i, hi, rfl, fun _ => by simp only; omega⟩
  ·exact instsFrom_elem r (i + 1) h2 x hx
structure InstAt (m : Model) (q p : Nat) : Prop where
 hq : q < (insts m).length
 hp : p < m.procs.length
 eq : (insts m)[q].proc = p
 elem : m.procs[p].over ≠ 0 → 1 ≤ (insts m)[q].elem
 most : 0 ≤ (insts m)[q].elem ∧ (insts m)[q].elem ≤ 4
theorem inst_at {m : Model} {q : Nat} (h : q < (insts m).length) : ∃ p, InstAt m q p := by
 obtain ⟨p, hp, e, h1⟩ := instsFrom_elem m.procs 0 (by simp) _ (List.getElem_mem h)
 exact ⟨p, h, hp, e, h1, (insts_of _ (List.getElem_mem h)).elem⟩
theorem InstAt.nth {m : Model} {q p : Nat} (h : InstAt m q p) : Abs.nth m.procs ((insts m)[q]'(h.hq)).proc = some (m.procs[p]'(h.hp)) := by
 rw [h.eq, nth_some (by omega) (by have := h.hp; omega)]; rfl
theorem InstAt.bds {m : Model} {q p : Nat} (h : InstAt m q p) : instBds m ((insts m)[q]'(h.hq)) = procBds m.scalars (m.procs[p]'(h.hp)) := by
 unfold instBds
 rw [h.nth]
theorem InstAt.room {m : Model} {q p : Nat} (h : InstAt m q p) : iAt m q + (1 + (m.procs[p]'(h.hp)).vars.length) ≤ cellN m := by
 have := iFit h.hq
 rw [h.bds, procBds_len] at this
 exact this
theorem elemN_eq {m : Model} {q : Nat} (h : q < (insts m).length) : elemN m q = ((insts m)[q]'h).elem.toNat := by
 unfold elemN; rw [List.getElem?_eq_getElem h]
theorem longN_eq {m : Model} {v : Nat} (h : v < m.vars.length) : longN m v = (cells m.vars[v] m.scalars).toNat := by
 unfold longN; rw [List.getElem?_eq_getElem h]
theorem capN_eq {m : Model} {c : Nat} (h : c < m.chans.length) : capN m c = m.chans[c].cap.toNat := by
 unfold capN; rw [List.getElem?_eq_getElem h]
theorem vRoom {m : Model} (hM : MayBe m) {v : Nat} (h : v < m.vars.length) : vAt m v + longN m v ≤ 64 := by
 have := vFit h
 rw [longN_eq h]
 have := cellN_eq m
 have : cellN m ≤ 64 := layCells_le64 hM
 omega
theorem cRoom {m : Model} (hM : MayBe m) {c : Nat} (h : c < m.chans.length) : cAt m c + (1 + capN m c) ≤ 64 := by
 have := cFit h
 rw [capN_eq h]
 have := cellN_eq m
 have : cellN m ≤ 64 := layCells_le64 hM
 omega
theorem iRoom {m : Model} (hM : MayBe m) {q : Nat} (h : q < (insts m).length) : iAt m q + 1 ≤ 64 := by
 obtain ⟨p, hp⟩ := inst_at h
 have := hp.room
 have : cellN m ≤ 64 := layCells_le64 hM
 omega
theorem InstAt.room64 {m : Model} (hM : MayBe m) {q p : Nat} (h : InstAt m q p) : iAt m q + (1 + (m.procs[p]'(h.hp)).vars.length) ≤ 64 := by
 have := h.room
 have : cellN m ≤ 64 := layCells_le64 hM
 omega
structure Sml (n : Nat) (l : List Int) : Prop where
 lo : ∀ x ∈ l, 0 ≤ x ∧ x < 80
 len : l.length ≤ n
theorem Sml.row {a n k : Nat} (h : a + n ≤ 80) (hn : n ≤ k) : Sml k (rowI a n) := ⟨fun x hx => by have := rowI_mem.1 hx; omega, by rw [rowI_len]; exact hn⟩
theorem Sml.nil (n : Nat) : Sml n [] := ⟨fun x hx => (by cases hx), Nat.zero_le _⟩
theorem Sml.app {a b n : Nat} {l r : List Int} (h : Sml a l) (k : Sml b r) (hn : a + b ≤ n) : Sml n (l ++ r) := ⟨fun x hx => by
 rcases List.mem_append.1 hx with hx | hx
 ·exact h.lo x hx
 ·exact k.lo x hx, by rw [List.length_append]; have := h.len; have := k.len; omega⟩
theorem Sml.mono {a n : Nat} {l : List Int} (h : Sml a l) (hn : a ≤ n) : Sml n l := ⟨h.lo, Nat.le_trans h.len hn⟩
theorem item_sml {m : Model} (hM : MayBe m) {q v : Nat} (hq : q < (insts m).length) (hv : v < m.vars.length) (own : Bool) : Sml 64 (itemC m q v own) := by
 have := vRoom hM hv
 have h4 := (insts_of _ (List.getElem_mem hq)).elem
 have := elemN_eq hq
 unfold itemC
 cases own
 ·exact Sml.row (by omega) (by omega)
 ·exact Sml.row (by omega) (by omega)
theorem atC_sml {m : Model} (hM : MayBe m) (p : Int) : ∀ n, n ≤ (insts m).length → Sml n (atC m p n)
 | 0, _ => Sml.nil _
 | n + 1, h => by
  rw [atC_succ (by omega)]
  have := iRoom hM (q := n) (by omega)
  refine Sml.app (atC_sml hM p n (by omega)) (b := 1) ?_ (Nat.le_refl _)
  split
  ·exact Sml.row (by omega) (Nat.le_refl _)
  ·exact Sml.nil _
theorem insts_few {m : Model} (hM : MayBe m) : (insts m).length ≤ 30 := by have := insts_len m; have := hM.procs; omega
theorem node_sml {m : Model} (hM : MayBe m) {q p : Nat} (h : InstAt m q p) {x : Node} (hx : NodeIn (inner (m.procs[p]'(h.hp)) (mscope m)) x) (own : Bool) : Sml 64 (nodeC m q own x) := by
 unfold nodeC
 by_cases h2 : x.op = 2
 ·rw [if_pos h2]
  obtain ⟨_, v, hv, _⟩ := hx.var h2
  have hv' : x.n.toNat < m.vars.length := (List.getElem?_eq_some_iff.1 hv).1
  have := vFit hv'
  have := cellN_eq m
  have : cellN m ≤ 64 := layCells_le64 hM
  exact Sml.row (by omega) (by omega)
 rw [if_neg h2]
 by_cases h3 : x.op = 3
 ·rw [if_pos h3]
  exact item_sml hM h.hq (hx.item h3).2 own
 rw [if_neg h3]
 by_cases h4 : x.op = 4
 ·rw [if_pos h4]
  have h5 : x.n.toNat < (m.procs[p]'(h.hp)).vars.length := (hx.loc h4).2
  have := h.room64 hM
  exact Sml.row (by omega) (by omega)
 rw [if_neg h4]
 by_cases h6 : x.op = 6
 ·rw [if_pos h6]
  have := cRoom hM (hx.len h6).2
  exact Sml.row (by omega) (by omega)
 rw [if_neg h6]
 by_cases h7 : x.op = 7
 ·rw [if_pos h7]
  exact (atC_sml hM _ _ (Nat.le_refl _)).mono (by have := insts_few hM; omega)
 ·rw [if_neg h7]; exact Sml.nil _
theorem expr_sml {m : Model} (hM : MayBe m) {q p : Nat} (h : InstAt m q p) {e : List Node} (he : ExprIn (inner (m.procs[p]'(h.hp)) (mscope m)) e) : ∀ n, n ≤ e.length → Sml (64 * n) (exprC m q e n)
 | 0, _ => Sml.nil _
 | n + 1, hn => by
  rw [exprC_succ (by omega)]
  exact Sml.app (expr_sml hM h he n (by omega)) (node_sml hM h (he.node n (by omega)).1 _) (by omega)
theorem expr_sml2 {m : Model} (hM : MayBe m) {q p : Nat} (h : InstAt m q p) {e : List Node} (he : ExprIn (inner (m.procs[p]'(h.hp)) (mscope m)) e) {n : Nat} (hn : n ≤ e.length) : Sml 1536 (exprC m q e n) :=
 (expr_sml hM h he n hn).mono (by have := he.len; omega)
theorem chan_sml {m : Model} (hM : MayBe m) {c : Nat} (h : c < m.chans.length) : Sml 64 (chanC m c) := by
 have := cRoom hM h
 exact Sml.row (by omega) (by omega)
theorem actR_sml {m : Model} (hM : MayBe m) {q p : Nat} (h : InstAt m q p) {a : Act} (ha : ActIn (inner (m.procs[p]'(h.hp)) (mscope m)) a) : Sml 3072 (actR m q a) := by
 unfold actR
 by_cases h5 : a.kind = 5
 ·rw [if_pos h5]; exact (chan_sml hM (ha.chan (.inr h5)).2).mono (by omega)
 ·rw [if_neg h5]
  refine Sml.app (a := 1536) ?_ (expr_sml2 hM h (ha.val h5) (Nat.le_refl _)) (by omega)
  by_cases h2 : a.kind = 2
  ·rw [if_pos h2]; exact expr_sml2 hM h (ha.item h2).2.2 (Nat.le_refl _)
  rw [if_neg h2]
  by_cases h4 : a.kind = 4
  ·rw [if_pos h4]
   have := cRoom hM (ha.chan (.inl h4)).2
   exact Sml.row (by omega) (by omega)
  ·rw [if_neg h4]; exact Sml.nil _
theorem actW_sml {m : Model} (hM : MayBe m) {q p : Nat} (h : InstAt m q p) {a : Act} (ha : ActIn (inner (m.procs[p]'(h.hp)) (mscope m)) a) : Sml 80 (actW m q a) := by
 have h64 := h.room64 hM
 unfold actW
 by_cases h1 : a.kind = 1
 ·rw [if_pos h1]
  obtain ⟨_, v, hv, _⟩ := ha.set h1
  have hv' : a.to.toNat < m.vars.length := (List.getElem?_eq_some_iff.1 hv).1
  have := vRoom hM hv'
  exact Sml.row (by omega) (by omega)
 rw [if_neg h1]
 by_cases h2 : a.kind = 2
 ·rw [if_pos h2]; exact (item_sml hM h.hq (ha.item h2).2.1 _).mono (by omega)
 rw [if_neg h2]
 by_cases h3 : a.kind = 3
 ·rw [if_pos h3]
  have h5 : a.to.toNat < (m.procs[p]'(h.hp)).vars.length := (ha.loc h3).2
  exact Sml.row (by omega) (by omega)
 rw [if_neg h3]
 by_cases h4 : a.kind = 4
 ·rw [if_pos h4]; exact (chan_sml hM (ha.chan (.inl h4)).2).mono (by omega)
 rw [if_neg h4]
 by_cases h5 : a.kind = 5
 ·rw [if_pos h5]
  have h6 : a.loc.toNat < (m.procs[p]'(h.hp)).vars.length := (ha.recv h5).2
  exact Sml.app (chan_sml hM (ha.chan (.inr h5)).2) (Sml.row (k := 1) (by omega) (by omega)) (by omega)
 ·rw [if_neg h5]; exact Sml.nil _
theorem guard_sml {m : Model} (hM : MayBe m) {q p : Nat} (h : InstAt m q p) {c : Cmd} (hc : CmdIn (inner (m.procs[p]'(h.hp)) (mscope m)) c) : Sml 1537 (guardC m q c) := by
 have := iRoom hM h.hq
 exact Sml.app (Sml.row (k := 1) (by omega) (by omega)) (expr_sml2 hM h hc.guard (Nat.le_refl _)) (by omega)
theorem read_sml {m : Model} (hM : MayBe m) {q p : Nat} (h : InstAt m q p) {c : Cmd} (hc : CmdIn (inner (m.procs[p]'(h.hp)) (mscope m)) c) : ∀ n, n ≤ c.acts.length → Sml (1537 + 3072 * n) (readC m q c n)
 | 0, _ => by
  unfold readC
  simpa using guard_sml hM h hc
 | n + 1, hn => by
  rw [readC_succ (by omega)]
  exact Sml.app (read_sml hM h hc n (by omega)) (actR_sml hM h (hc.act n (by omega))) (by omega)
theorem write_sml {m : Model} (hM : MayBe m) {q p : Nat} (h : InstAt m q p) {c : Cmd} (hc : CmdIn (inner (m.procs[p]'(h.hp)) (mscope m)) c) : ∀ n, n ≤ c.acts.length → Sml (1 + 80 * n) (writeC m q c n)
 | 0, _ => by
  have := iRoom hM h.hq
  unfold writeC
  simpa using Sml.row (a := iAt m q) (n := 1) (k := 1) (by omega) (by omega)
 | n + 1, hn => by
  rw [writeC_succ (by omega)]
  exact Sml.app (write_sml hM h hc n (by omega)) (actW_sml hM h (hc.act n (by omega))) (by omega)
theorem selfIx_one {a : Act} (h : a.index.length = 1) : selfIx a = decide ((a.index[0]'(by omega)).op = 5) := by
 obtain ⟨x, hx⟩ := List.length_eq_one_iff.1 h
 unfold selfIx
 simp [hx]
theorem selfIx_not {a : Act} (h : ¬ a.index.length = 1) : selfIx a = false := by
 unfold selfIx
 split
 ·rename_i x hx
  rw [hx] at h
  exact absurd rfl h
 ·rfl
theorem put_all (L : List Int) (a n : Nat) : L ++ rowI a (n + 1) = L ++ rowI a n ++ [((a + n : Nat) : Int)] := by rw [rowI_succ, List.append_assoc]
end Abs
namespace Go.Proofs.R
open Go Go.RowKit Lite
structure ViewAt (w : World) (b : Nat) (m : Abs.Model) (q : Nat) : Prop where
 ex : ∃ cs ys vi, w.heap[b]? = some (.cells (cs ++ ys ++ [vi, .int .i64 q]).toArray T.ap) ∧ Abs.MI w cs m ∧ Abs.LayIs w ys (Abs.layout m) ∧ InstsAt w vi (Abs.insts m)
theorem ViewAt.ext {w w' : World} {b q : Nat} {m : Abs.Model} (he : Ext w w') (h : ViewAt w b m q) : ViewAt w' b m q :=
 let ⟨xs, cs, vi, h0, h1, h2, h3⟩ := h.ex; ⟨xs, cs, vi, he.obj h0, h1.ext he, h2.ext he, h3.ext Flat.ext he⟩
theorem ViewAt.form {w : World} {b q : Nat} {m : Abs.Model} (h : ViewAt w b m q) : ∃ o0 c0 o1 c1 o2 c2 o3 c3 o4 c4 p0 d0 p1 d1 p2 d2 p3 d3 p4 d4 oi ci,
  w.heap[b]? = some (.cells #[.slice p0 m.scalars.length d0, .slice p1 m.vars.length d1, .slice p2 m.chans.length d2, .slice p3 m.procs.length d3, .slice p4 m.props.length d4,
   .slice o0 (Abs.layout m).vars.length c0, .slice o1 (Abs.layout m).chans.length c1, .slice o2 (Abs.layout m).insts.length c2, .int .i64 (Abs.layout m).cells, .slice o3 (Abs.layout m).lo.length c3, .slice o4 (Abs.layout m).hi.length c4, .slice oi (Abs.insts m).length ci, .int .i64 q] T.ap) ∧
  SlR 1 (Flat encN) w (.slice o0 (Abs.layout m).vars.length c0) (Abs.layout m).vars ∧ SlR 1 (Flat encN) w (.slice o1 (Abs.layout m).chans.length c1) (Abs.layout m).chans ∧ SlR 1 (Flat encN) w (.slice o2 (Abs.layout m).insts.length c2) (Abs.layout m).insts ∧
  Abs.Scalars w (.slice p0 m.scalars.length d0) m.scalars ∧ Abs.Vars w (.slice p1 m.vars.length d1) m.vars ∧ Abs.Chans w (.slice p2 m.chans.length d2) m.chans ∧ Abs.Procs w (.slice p3 m.procs.length d3) m.procs ∧
  InstsAt w (.slice oi (Abs.insts m).length ci) (Abs.insts m) := by
 obtain ⟨cs, xs, vi, hb, hM, hL, hI⟩ := h.ex
 obtain ⟨o0, c0, o1, c1, o2, c2, o3, c3, o4, c4, rfl, r0, r1, r2, r3, r4⟩ := hL.form
 obtain ⟨p0, d0, p1, d1, p2, d2, p3, d3, p4, d4, rfl, h0, h1, h2, h3, h4, _⟩ := hM.form
 obtain ⟨oi, ci, rfl, _⟩ := hI.form
 exact ⟨o0, c0, o1, c1, o2, c2, o3, c3, o4, c4, p0, d0, p1, d1, p2, d2, p3, d3, p4, d4, oi, ci, hb, r0, r1, r2, h0, h1, h2, h3, hI⟩
theorem put_r (b : Nat) (L : List Int) (a n : Nat) (x y : Int) (w : World) (h : SetI w b L) (hx : x = a) (hy : y = n) (hm : a + n ≤ 1000000000) :
  Ret Tryz.prog F.a #[.map (some b), .int .i64 x, .int .i64 y] w fun _ w' => SetI w' b (L ++ Abs.rowI a n) ∧ Mod (fun i => i = b) w w' := by
 subst hx hy
 refine Ks E.a ?_; dsimp only [C.a]; refine Yy ?_
 refine Sr ?_
 refine K.forG 8 n [0, 1, 7] (fun _ : Unit => []) () (fun k _ W => Mod (fun i => i = b) w W ∧ SetI W b (L ++ Abs.rowI a k)) hZq hZq ⟨Mod.refl _ _, by simpa [Abs.rowI_zero] using h⟩ ?_
 rintro k _ S w1 hk ⟨hm1, hs1⟩
 refine Sr ?_
 apply K.cond <;> intro g1
 ·refine Sr ?_
  refine K.lkpI hs1 fun z => ?_
  refine Sr ?_
  refine K.wrapr ?_
  refine Sr ?_
  refine K.mupI hs1 (by omega) fun w2 hw2 hs2 => ?_
  refine Sr ?_
  refine ⟨by omega, Tr, (), trivial, hm1.trans (hw2.mod rfl), ?_⟩
  rw [Abs.put_all]
  exact hs2
 ·have hkn : k = n := by omega
  subst hkn
  refine Sr ?_
  exact ⟨hs1, hm1⟩
theorem here_r (b q : Nat) (m : Abs.Model) (w : World) (h : ViewAt w b m q) (hq : q < (Abs.insts m).length) :
  Ret Tryz.prog F.i #[.pointer (some ⟨b, 0, none⟩)] w fun v w' => v = .int .i64 (Abs.iAt m q) ∧ Ext w w' := by
 obtain ⟨o0, c0, o1, c1, o2, c2, o3, c3, o4, c4, p0, d0, p1, d1, p2, d2, p3, d3, p4, d4, oi, ci, hb, r0, r1, r2, h0, h1, h2, h3, hI⟩ := h.form
 obtain ⟨hi, he⟩ := Abs.iAt_get hq
 obtain ⟨a2, rfl⟩ := r2.addr (by omega)
 refine Ks E.i ?_; dsimp only [C.i]; refine Yy ?_
 refine Sr ?_
 intro w1 he1
 refine Sr ?_
 exact ⟨by rw [he], he1⟩
theorem vchan_r (b bm q i : Nat) (L : List Int) (m : Abs.Model) (w0 w : World) (h : ViewAt w0 b m q) (he : Ext w0 w) (hbm : w0.heap.size ≤ bm) (hs : SetI w bm L) (hM : Abs.MayBe m) (hi : i < m.chans.length) :
  Ret Tryz.prog F.ak #[.pointer (some ⟨b, 0, none⟩), .map (some bm), .int .i64 i] w fun _ w' => SetI w' bm (L ++ Abs.chanC m i) ∧ Mod (fun k => k = bm) w w' := by
 obtain ⟨o0, c0, o1, c1, o2, c2, o3, c3, o4, c4, p0, d0, p1, d1, p2, d2, p3, d3, p4, d4, oi, ci, hb, r0, r1, r2, h0, h1, h2, h3, hI⟩ := (h.ext he).form
 obtain ⟨hci, hce⟩ := Abs.cAt_get hi
 have hroom := Abs.cRoom hM hi
 have hcn := Abs.capN_eq hi
 have hcap := (hM.chan _ (List.getElem_mem hi)).cap
 have few := hM.few
 obtain ⟨a1, rfl⟩ := r1.addr (by omega)
 obtain ⟨a2, rfl⟩ := h2.addr (by omega)
 have hcv := (h2.at i hi).cells
 refine Ks E.ak ?_; dsimp only [C.ak]; refine Yy ?_
 refine Sr ?_
 intro w1 he1
 refine Sr ?_
 refine K.call (put_r bm L (Abs.cAt m i) (1 + Abs.capN m i) _ _ w1 (hs.ext he1) (by rw [hce]) (by omega) (by omega)) ?_
 rintro _ w2 ⟨hs2, hm2⟩
 refine Sr ?_
 exact ⟨hs2, he1.mod.trans hm2⟩
theorem vvar_r (b bm q i : Nat) (item own : Bool) (L : List Int) (m : Abs.Model) (w0 w : World) (h : ViewAt w0 b m q) (he : Ext w0 w) (hbm : w0.heap.size ≤ bm) (hs : SetI w bm L) (hM : Abs.MayBe m) (hq : q < (Abs.insts m).length) (hi : i < m.vars.length)
  (ho : item = true → own = true → 1 ≤ (Abs.insts m)[q].elem) :
  Ret Tryz.prog F.k #[.pointer (some ⟨b, 0, none⟩), .map (some bm), .int .i64 i, .bool item, .bool own] w fun _ w' => SetI w' bm (L ++ Abs.itemC m q i (item && own)) ∧ Mod (fun k => k = bm) w w' := by
 obtain ⟨o0, c0, o1, c1, o2, c2, o3, c3, o4, c4, p0, d0, p1, d1, p2, d2, p3, d3, p4, d4, oi, ci, hb, r0, r1, r2, h0, h1, h2, h3, hI⟩ := (h.ext he).form
 obtain ⟨hvi, hve⟩ := Abs.vAt_get hi
 have hroom := Abs.vRoom hM hi
 have hln := Abs.longN_eq hi
 have hel := (Abs.insts_of _ (List.getElem_mem hq)).elem
 have hen := Abs.elemN_eq hq
 have hcl := Abs.cells_le m.vars[i] m.scalars
 obtain ⟨a0, rfl⟩ := r0.addr (by omega)
 obtain ⟨a1, rfl⟩ := h1.addr (by omega)
 obtain ⟨ai, rfl⟩ := hI.addr (by omega)
 have hcv := (h1.at i hi).cells
 cases item <;> cases own
 rotate_left 3
 ·have ho' := ho rfl rfl
  refine Ks E.k ?_; dsimp only [C.k]; refine Yy ?_
  refine Sr ?_
  intro w1 he1
  refine Sr ?_
  refine K.call (put_r bm L (Abs.vAt m i + Abs.elemN m q - 1) 1 _ _ w1 (hs.ext he1) (by rw [hve]; omega) rfl (by omega)) ?_
  rintro _ w2 ⟨hs2, hm2⟩
  refine Sr ?_
  exact ⟨hs2, he1.mod.trans hm2⟩
 all_goals
  clear ho
  refine Ks E.k ?_; dsimp only [C.k]; refine Yy ?_
  refine Sr ?_
  intro w1 he1
  refine Sr ?_
  refine K.call (cells_r m.vars[i] _ m.scalars w1 (h0.ext he1)) ?_
  rintro _ w2 ⟨rfl, he2⟩
  refine Sr ?_
  refine K.call (put_r bm L (Abs.vAt m i) (Abs.longN m i) _ _ w2 ((hs.ext he1).ext he2) (by rw [hve]) (by omega) (by omega)) ?_
  rintro _ w3 ⟨hs3, hm3⟩
  refine Sr ?_
  exact ⟨hs3, (he1.mod.trans he2.mod).trans hm3⟩
end Go.Proofs.R
end
section
namespace Abs
open Go
theorem nodeC_var {m : Model} {q : Nat} {own : Bool} {x : Node} (h : x.op = 2) {v : Var} (hv : m.vars[x.n.toNat]? = some v) (h0 : v.over = 0) : itemC m q x.n.toNat false = nodeC m q own x := by
 obtain ⟨h1, h2⟩ := List.getElem?_eq_some_iff.1 hv
 unfold nodeC itemC
 rw [if_pos h, if_neg (by simp), longN_eq h1, h2]
 have : cells v m.scalars = 1 := by unfold cells; rw [if_pos h0]
 rw [this]; rfl
end Abs
namespace Go.Proofs.R
open Go Go.RowKit Lite
structure BoxesAt (w : World) (bx bz b bm : Nat) : Prop where
 x : w.heap[bx]? = some (.cells #[.pointer (some ⟨b, 0, none⟩)] T.av)
 z : w.heap[bz]? = some (.cells #[.map (some bm)] T.t)
theorem BoxesAt.mod {w w' : World} {bx bz b bm : Nat} {L : List Int} (h : BoxesAt w bx bz b bm) (hs : SetI w bm L) (hm : Mod (fun k => k = bm) w w') : BoxesAt w' bx bz b bm := by
 obtain ⟨es, c, hc, _⟩ := hs.ex
 have hn : ∀ {k : Nat} {cs t}, w.heap[k]? = some (.cells cs t) → ¬ k = bm := fun hk e => by subst e; rw [hk] at hc; cases hc
 exact ⟨hm.obj (hn h.x) h.x, hm.obj (hn h.z) h.z⟩
theorem BoxesAt.ext {w w' : World} {bx bz b bm : Nat} (h : BoxesAt w bx bz b bm) (he : Ext w w') : BoxesAt w' bx bz b bm := ⟨he.obj h.x, he.obj h.z⟩
theorem expr1_r (x : Abs.Node) (own : Bool) (b bm bx bz q p : Nat) (L : List Int) (m : Abs.Model) (w0 w : World) (h : ViewAt w0 b m q) (he : Ext w0 w) (hbm : w0.heap.size ≤ bm) (hs : SetI w bm L) (hB : BoxesAt w bx bz b bm) (hM : Abs.MayBe m) (hI : Abs.InstAt m q p)
  (hx : Abs.NodeIn (Abs.inner (m.procs[p]'(hI.hp)) (Abs.mscope m)) x) (hok : x.ok) (ho : own = true → 1 ≤ ((Abs.insts m)[q]'(hI.hq)).elem) :
  Ret Tryz.prog F.ba #[.agg x.enc.toArray, .bool own, .pointer (some ⟨bx, 0, none⟩), .pointer (some ⟨bz, 0, none⟩)] w fun _ w' => SetI w' bm (L ++ Abs.nodeC m q own x) ∧ Mod (fun k => k = bm) w w' := by
 have hq := hI.hq
 have h64 := hI.room64 hM
 have hxo := hok.op
 have hxn := hok.n
 unfold Abs.inI at hxo hxn
 have hbx := hB.x
 have hbz := hB.z
 obtain ⟨o0, c0, o1, c1, o2, c2, o3, c3, o4, c4, p0, d0, p1, d1, p2, d2, p3, d3, p4, d4, oi, ci, hb0, r0, r1, r2, _, _, _, _, hI0⟩ := h.form
 refine Ks E.ba ?_; dsimp only [C.ba]; refine Yy ?_
 refine Sr ?_
 intro w1 b4 hb4 he1 hc4
 replace hbx := he1.obj hbx
 replace hbz := he1.obj hbz
 have hs1 := hs.ext he1
 have E1 := he.trans he1
 obtain ⟨es, ce, hce, _⟩ := hs1.ex
 have n4 : ¬ b4 = bm := fun e => by subst e; rw [hc4] at hce; cases hce
 have nx : ¬ bx = bm := fun e => by subst e; rw [hbx] at hce; cases hce
 have nz : ¬ bz = bm := fun e => by subst e; rw [hbz] at hce; cases hce
 clear hce
 unfold Abs.Node.enc at hc4
 refine Sr ?_
 apply K.cond <;> intro g2
 ·obtain ⟨k0, v, hv, hv0⟩ := hx.var g2
  have hv' : x.n.toNat < m.vars.length := (List.getElem?_eq_some_iff.1 hv).1
  have en : x.n = (x.n.toNat : Nat) := by omega
  refine Sr ?_
  rw [en]
  refine K.call (vvar_r b bm q x.n.toNat false false L m w0 w1 h E1 hbm hs1 hM hq hv' (fun a => by cases a)) ?_
  rintro _ w2 ⟨hs2, hm2⟩
  rw [Bool.false_and, Abs.nodeC_var g2 hv hv0 (own := own)] at hs2
  refine Sr ?_
  exact ⟨hs2, he1.mod.trans hm2⟩
 refine Sr ?_
 apply K.cond <;> intro g3
 ·obtain ⟨k0, hv'⟩ := hx.item g3
  have en : x.n = (x.n.toNat : Nat) := by omega
  refine Sr ?_
  rw [en]
  refine K.call (vvar_r b bm q x.n.toNat true own L m w0 w1 h E1 hbm hs1 hM hq hv' (fun _ a => ho a)) ?_
  rintro _ w2 ⟨hs2, hm2⟩
  have e3 : Abs.nodeC m q own x = Abs.itemC m q x.n.toNat (true && own) := by unfold Abs.nodeC; rw [if_neg g2, if_pos g3, Bool.true_and]
  rw [← e3] at hs2
  refine Sr ?_
  exact ⟨hs2, he1.mod.trans hm2⟩
 refine Sr ?_
 apply K.cond <;> intro g4
 ·obtain ⟨k0, hv'⟩ := hx.loc g4
  have hv2 : x.n.toNat < (m.procs[p]'(hI.hp)).vars.length := hv'
  have e4 : Abs.nodeC m q own x = Abs.rowI (Abs.iAt m q + 1 + x.n.toNat) 1 := by unfold Abs.nodeC; rw [if_neg g2, if_neg g3, if_pos g4]
  rw [e4]
  refine Sr ?_
  intro w2 he2
  refine Sr ?_
  refine K.call (here_r b q m w2 (h.ext (E1.trans he2)) hq) ?_
  rintro _ w3 ⟨rfl, he3⟩
  refine ⟨he3, ?_⟩
  refine Sr ?_
  refine K.call (put_r bm L (Abs.iAt m q + 1 + x.n.toNat) 1 _ _ w3 ((hs1.ext he2).ext he3) (by omega) rfl (by omega)) ?_
  rintro _ w4 ⟨hs4, hm4⟩
  refine Sr ?_
  exact ⟨hs4, ((he1.mod.trans he2.mod).trans he3.mod).trans hm4⟩
 refine Sr ?_
 apply K.cond <;> intro g6
 ·obtain ⟨k0, hv'⟩ := hx.len g6
  have hv2 : x.n.toNat < m.chans.length := hv'
  have hcr := Abs.cRoom hM hv2
  have en : x.n = (x.n.toNat : Nat) := by omega
  have e6 : Abs.nodeC m q own x = Abs.rowI (Abs.cAt m x.n.toNat) 1 := by unfold Abs.nodeC; rw [if_neg g2, if_neg g3, if_neg g4, if_pos g6]
  rw [e6]
  obtain ⟨hci, hce⟩ := Abs.cAt_get hv2
  obtain ⟨a1, rfl⟩ := r1.addr (by omega)
  have hb := E1.obj hb0
  have r11 := r1.ext Flat.ext E1
  rw [en] at hc4
  refine Sr ?_
  intro w2 he2
  refine Sr ?_
  refine K.call (put_r bm L (Abs.cAt m x.n.toNat) 1 _ _ w2 (hs1.ext he2) (by rw [hce]) rfl (by omega)) ?_
  rintro _ w4 ⟨hs4, hm4⟩
  refine Sr ?_
  exact ⟨hs4, (he1.mod.trans he2.mod).trans hm4⟩
 refine Sr ?_
 apply K.cond <;> intro g7
 rotate_left
 ·have e8 : Abs.nodeC m q own x = [] := by unfold Abs.nodeC; rw [if_neg g2, if_neg g3, if_neg g4, if_neg g6, if_neg g7]
  rw [e8, List.append_nil]
  refine Sr ?_
  exact ⟨hs1, he1.mod⟩
 have e7 : Abs.nodeC m q own x = Abs.atC m (x.n.tdiv 16) (Abs.insts m).length := by unfold Abs.nodeC; rw [if_neg g2, if_neg g3, if_neg g4, if_neg g6, if_pos g7]
 rw [e7]
 obtain ⟨f6, f7, f8⟩ := Abs.layout_lens m
 obtain ⟨k0, hp7⟩ := hx.at_ g7
 have hp7' : (x.n.tdiv 16).toNat < m.procs.length := hp7
 have hqn := Int.tdiv_nonneg k0 (show (0 : Int) ≤ 16 by omega)
 have hpf := hM.procs
 have hqd : -9223372036854775808 ≤ x.n.tdiv 16 ∧ x.n.tdiv 16 ≤ 9223372036854775807 := by omega
 have hEx : ∀ {W}, Mod (fun k => k = bm) w1 W → Ext w0 W := fun hm => hm.ext E1 fun k hk e => by omega
 have few := Abs.insts_few hM
 have hb1 := E1.obj hb0
 clear r0 r1
 refine Sr ?_
 refine K.forG 55 (Abs.insts m).length [2, 3, 4, 53, 54] (fun _ : Unit => []) () (fun k _ W => Mod (fun i => i = bm) w1 W ∧ SetI W bm (L ++ Abs.atC m (x.n.tdiv 16) k)) hZq hZq ⟨Mod.refl _ _, by simpa [Abs.atC] using hs1⟩ ?_
 have hcz := hbz
 have hcx := hbx
 have hcc := hc4
 clear hbx hbz hc4 hb1
 rintro k _ S w2 hk ⟨hm2, hs2⟩
 have hbx := hm2.obj nx hcx
 have hbz := hm2.obj nz hcz
 have hc4 := hm2.obj n4 hcc
 have hb := (hEx hm2).obj hb0
 have hI2 := hI0.ext Flat.ext (hEx hm2)
 refine Sr ?_
 apply K.cond <;> intro g1
 ·have hk2 : k < (Abs.insts m).length := by omega
  obtain ⟨ai, rfl⟩ := hI0.addr (by omega)
  obtain ⟨hii, hie⟩ := Abs.iAt_get hk2
  have hir := Abs.iRoom hM hk2
  obtain ⟨a2, rfl⟩ := r2.addr (by omega)
  have r22 := r2.ext Flat.ext (hEx hm2)
  refine Sr ?_
  intro wn b7 hb7 hen hcn
  refine Sr ?_
  intro w3 hw3 hc7
  have he3 : Ext w2 w3 := hw3.ext hen hb7
  replace hbx := he3.obj hbx
  replace hbz := he3.obj hbz
  replace hc4 := he3.obj hc4
  replace hb := he3.obj hb
  replace r22 := r22.ext Flat.ext he3
  have hs3 := hs2.ext he3
  have hm3 := hm2.trans he3.mod
  clear hs2 hI2
  refine Sr ?_
  refine K.quo (by omega) ?_
  refine Sr ?_
  apply K.cond <;> intro g2
  ·refine Sr ?_
   intro w4 he4
   refine Sr ?_
   refine K.call (put_r bm _ (Abs.iAt m k) 1 _ _ w4 (hs3.ext he4) (by rw [hie]) rfl (by omega)) ?_
   rintro _ w5 ⟨hs5, hm5⟩
   refine Sr ?_
   refine ⟨hk2, Tr, (), trivial, (hm3.trans he4.mod).trans hm5, ?_⟩
   rw [Abs.atC_succ hk2, if_pos g2, ← List.append_assoc]
   exact hs5
  ·refine Sr ?_
   refine ⟨hk2, Tr, (), trivial, hm3, ?_⟩
   rw [Abs.atC_succ hk2, if_neg g2, List.append_nil]
   exact hs3
 ·have hkn : (Abs.insts m).length = k := by omega
  rw [hkn]
  refine Sr ?_
  exact ⟨hs2, he1.mod.trans hm2⟩
theorem each_r (e : List Abs.Node) (v : Value) (b bm bx bz q p : Nat) (L : List Int) (m : Abs.Model) (w0 w : World) (h : ViewAt w0 b m q) (he : Ext w0 w) (hbm : w0.heap.size ≤ bm) (hs : SetI w bm L) (hB : BoxesAt w bx bz b bm) (hM : Abs.MayBe m) (hI : Abs.InstAt m q p)
  (hn : Abs.Nodes w0 v e) (hx : Abs.ExprIn (Abs.inner (m.procs[p]'(hI.hp)) (Abs.mscope m)) e) :
  Ret Tryz.prog F.c1 #[v, .func (.func F.ba) #[] #[.pointer (some ⟨bx, 0, none⟩), .pointer (some ⟨bz, 0, none⟩)]] w fun _ w' => SetI w' bm (L ++ Abs.exprC m q e e.length) ∧ Mod (fun k => k = bm) w w' := by
 obtain ⟨oa, ca, rfl, hl⟩ := hn.form
 have hEx : ∀ {W}, Mod (fun k => k = bm) w W → Ext w0 W := fun hm => hm.ext he fun k hk e => by omega
 have hle := hx.len
 refine Ks E.c1 ?_; dsimp only [C.c1]; refine Yy ?_
 refine Sr ?_
 refine K.forG 9 e.length [1, 7, 8] (fun o : Bool => [(4, .bool o)]) false (fun k o W => o = Abs.ownAt e k ∧ Mod (fun i => i = bm) w W ∧ SetI W bm (L ++ Abs.exprC m q e k)) hZq hZq ⟨rfl, Mod.refl _ _, by simpa [Abs.exprC] using hs⟩ ?_
 rintro k o S w1 hk ⟨rfl, hm1, hs1⟩
 have hn1 := hn.ext (hEx hm1)
 have hB1 := hB.mod hs hm1
 refine Sr ?_
 apply K.cond <;> intro g1
 ·have hk2 : k < e.length := by omega
  obtain ⟨a, rfl⟩ := hn.addr (by omega)
  have hno := (hn.at k hk2).ok
  have hxk := hx.node k hk2
  refine Sr ?_
  intro w2 b6 hb6 he2 hc6
  have hs2 := hs1.ext he2
  have hm2 := hm1.trans he2.mod
  have hB2 := hB1.ext he2
  have n6 : ¬ b6 = bm := fun e => by subst e; obtain ⟨_, _, hce, _⟩ := hs2.ex; rw [hc6] at hce; cases hce
  clear hn1 hs1 hB1
  refine Sr ?_
  refine K.callV (first := []) (cap := [.pointer (some ⟨bx, 0, none⟩), .pointer (some ⟨bz, 0, none⟩)]) (by kernel_rfl) (expr1_r e[k] (Abs.ownAt e k) b bm bx bz q p _ m w0 w2 h (hEx hm2) hbm hs2 hB2 hM hI hxk.1 hno ?_) ?_
  ·intro hown
   cases k with
   | zero => cases hown
   | succ j =>
    rw [Abs.ownAt_succ (by omega)] at hown
    have h5 := (hx.node j (by omega)).1.self (by simpa using hown)
    exact hI.elem (by have : (Abs.inner (m.procs[p]'(hI.hp)) (Abs.mscope m)).self = (m.procs[p]'(hI.hp)).over := rfl; omega)
  rintro _ w3 ⟨hs3, hm3⟩
  have hc6' := hm3.obj n6 hc6
  clear hc6
  refine Sr ?_
  refine ⟨hk2, Tr, _, ⟨rfl, trivial⟩, ?_, hm2.trans hm3, ?_⟩
  ·rw [Abs.ownAt_succ hk2]
  ·rw [Abs.exprC_succ hk2, ← List.append_assoc]
   exact hs3
 ·have hkn : e.length = k := by omega
  rw [hkn]
  refine Sr ?_
  exact ⟨hs1, hm1⟩
theorem expression_r (e : List Abs.Node) (v : Value) (b bm q p : Nat) (L : List Int) (m : Abs.Model) (w0 w : World) (h : ViewAt w0 b m q) (he : Ext w0 w) (hbm : w0.heap.size ≤ bm) (hs : SetI w bm L) (hM : Abs.MayBe m) (hI : Abs.InstAt m q p)
  (hn : Abs.Nodes w0 v e) (hx : Abs.ExprIn (Abs.inner (m.procs[p]'(hI.hp)) (Abs.mscope m)) e) :
  Ret Tryz.prog F.w #[.pointer (some ⟨b, 0, none⟩), .map (some bm), v] w fun _ w' => SetI w' bm (L ++ Abs.exprC m q e e.length) ∧ Mod (fun k => k = bm) w w' := by
 refine Ks E.w ?_; dsimp only [C.w]; refine Yy ?_
 refine Sr ?_
 intro w1 bx hbx he1 hcx
 refine Sr ?_
 intro w2 bz hbz he2 hcz
 refine Sr ?_
 refine K.call (each_r e v b bm bx bz q p L m w0 w2 h ((he.trans he1).trans he2) hbm ((hs.ext he1).ext he2) ⟨he2.obj hcx, hcz⟩ hM hI hn hx) ?_
 rintro _ w3 ⟨hs3, hm3⟩
 refine Sr ?_
 exact ⟨hs3, (he1.mod.trans he2.mod).trans hm3⟩
theorem readA_r (a : Abs.Act) (vi vv : Value) (b bm q p : Nat) (L : List Int) (m : Abs.Model) (w0 w : World) (h : ViewAt w0 b m q) (he : Ext w0 w) (hbm : w0.heap.size ≤ bm) (hs : SetI w bm L) (hM : Abs.MayBe m) (hI : Abs.InstAt m q p)
  (hi : Abs.Nodes w0 vi a.index) (hv : Abs.Nodes w0 vv a.value) (ha : Abs.ActIn (Abs.inner (m.procs[p]'(hI.hp)) (Abs.mscope m)) a) :
  Ret Tryz.prog F.co #[.pointer (some ⟨b, 0, none⟩), .map (some bm), .agg (a.enc vi vv).toArray] w fun _ w' => SetI w' bm (L ++ Abs.actR m q a) ∧ Mod (fun k => k = bm) w w' := by
 obtain ⟨o0, c0, o1, c1, o2, c2, o3, c3, o4, c4, p0, d0, p1, d1, p2, d2, p3, d3, p4, d4, oi, ci, hb0, r0, r1, r2, _, _, _, _, hI0⟩ := h.form
 have hkd := ha.kind
 refine Ks E.co ?_; dsimp only [C.co]; refine Yy ?_
 refine Sr ?_
 intro w1 b5 hb5 he1 hc5
 have hs1 := hs.ext he1
 have E1 := he.trans he1
 have hb := E1.obj hb0
 obtain ⟨es, ce, hce, _⟩ := hs1.ex
 have n5 : ¬ b5 = bm := fun e => by subst e; rw [hc5] at hce; cases hce
 clear hce
 unfold Abs.Act.enc at hc5
 refine Sr ?_
 apply K.cond <;> intro g2
 ·refine Sr ?_
  refine K.call (expression_r a.index vi b bm q p L m w0 w1 h E1 hbm hs1 hM hI hi (ha.item g2).2.2) ?_
  rintro _ w2 ⟨hs2, hm2⟩
  have hc5' := hm2.obj n5 hc5
  clear hc5 hb
  refine Sr ?_
  refine K.call (expression_r a.value vv b bm q p _ m w0 w2 h (hm2.ext E1 fun k hk e => by omega) hbm hs2 hM hI hv (ha.val (by omega))) ?_
  rintro _ w3 ⟨hs3, hm3⟩
  refine Sr ?_
  refine ⟨?_, (he1.mod.trans hm2).trans hm3⟩
  unfold Abs.actR
  rw [if_neg (by omega), if_pos g2, ← List.append_assoc]
  exact hs3
 refine Sr ?_
 apply K.cond <;> intro g4
 ·obtain ⟨k0, hv'⟩ := ha.chan (.inl g4)
  have hv2 : a.to.toNat < m.chans.length := hv'
  have hcr := Abs.cRoom hM hv2
  have en : a.to = (a.to.toNat : Nat) := by omega
  obtain ⟨hci, hce⟩ := Abs.cAt_get hv2
  obtain ⟨a1, rfl⟩ := r1.addr (by omega)
  have r11 := r1.ext Flat.ext E1
  rw [en] at hc5
  refine Sr ?_
  intro w2 he2
  have hc5' := he2.obj hc5
  refine Sr ?_
  refine K.call (put_r bm L (Abs.cAt m a.to.toNat) 1 _ _ w2 (hs1.ext he2) (by rw [hce]) rfl (by omega)) ?_
  rintro _ w3 ⟨hs3, hm3⟩
  have hc53 := hm3.obj n5 hc5'
  clear hc5 hc5' hb
  refine Sr ?_
  refine K.call (expression_r a.value vv b bm q p _ m w0 w3 h (hm3.ext (E1.trans he2) fun k hk e => by omega) hbm hs3 hM hI hv (ha.val (by omega))) ?_
  rintro _ w4 ⟨hs4, hm4⟩
  refine Sr ?_
  refine ⟨?_, ((he1.mod.trans he2.mod).trans hm3).trans hm4⟩
  unfold Abs.actR
  rw [if_neg (by omega), if_neg g2, if_pos g4, ← List.append_assoc]
  exact hs4
 refine Sr ?_
 apply K.cond <;> intro g5
 ·obtain ⟨k0, hv'⟩ := ha.chan (.inr g5)
  have hv2 : a.to.toNat < m.chans.length := hv'
  have en : a.to = (a.to.toNat : Nat) := by omega
  rw [en] at hc5
  refine Sr ?_
  refine K.call (vchan_r b bm q a.to.toNat L m w0 w1 h E1 hbm hs1 hM hv2) ?_
  rintro _ w2 ⟨hs2, hm2⟩
  refine Sr ?_
  refine ⟨?_, he1.mod.trans hm2⟩
  unfold Abs.actR
  rw [if_pos g5]
  exact hs2
 ·refine Sr ?_
  refine K.call (expression_r a.value vv b bm q p _ m w0 w1 h E1 hbm hs1 hM hI hv (ha.val g5)) ?_
  rintro _ w2 ⟨hs2, hm2⟩
  refine Sr ?_
  refine ⟨?_, he1.mod.trans hm2⟩
  unfold Abs.actR
  rw [if_neg g5, if_neg g2, if_neg g4, List.nil_append]
  exact hs2
theorem writeA_r (a : Abs.Act) (vi vv : Value) (b bm q p : Nat) (L : List Int) (m : Abs.Model) (w0 w : World) (h : ViewAt w0 b m q) (he : Ext w0 w) (hbm : w0.heap.size ≤ bm) (hs : SetI w bm L) (hM : Abs.MayBe m) (hI : Abs.InstAt m q p)
  (hi : Abs.Nodes w0 vi a.index) (ha : Abs.ActIn (Abs.inner (m.procs[p]'(hI.hp)) (Abs.mscope m)) a) :
  Ret Tryz.prog F.cp #[.pointer (some ⟨b, 0, none⟩), .map (some bm), .agg (a.enc vi vv).toArray] w fun _ w' => SetI w' bm (L ++ Abs.actW m q a) ∧ Mod (fun k => k = bm) w w' := by
 have hkd := ha.kind
 have hq := hI.hq
 have h64 := hI.room64 hM
 refine Ks E.cp ?_; dsimp only [C.cp]; refine Yy ?_
 refine Sr ?_
 intro w1 b5 hb5 he1 hc5
 have hs1 := hs.ext he1
 have E1 := he.trans he1
 obtain ⟨es, ce, hce, _⟩ := hs1.ex
 have n5 : ¬ b5 = bm := fun e => by subst e; rw [hc5] at hce; cases hce
 clear hce
 obtain ⟨oi, ci, rfl, lvi⟩ := hi.form
 unfold Abs.Act.enc at hc5
 refine Sr ?_
 apply K.cond <;> intro g1
 ·obtain ⟨k0, v, hv, hv0⟩ := ha.set g1
  have hv' : a.to.toNat < m.vars.length := (List.getElem?_eq_some_iff.1 hv).1
  have en : a.to = (a.to.toNat : Nat) := by omega
  rw [en] at hc5
  refine Sr ?_
  refine K.call (vvar_r b bm q a.to.toNat false false L m w0 w1 h E1 hbm hs1 hM hq hv' (fun a => by cases a)) ?_
  rintro _ w2 ⟨hs2, hm2⟩
  refine Sr ?_
  refine ⟨?_, he1.mod.trans hm2⟩
  unfold Abs.actW
  rw [if_pos g1]
  have e := Abs.nodeC_var (m := m) (q := q) (own := false) (x := ⟨2, a.to⟩) rfl hv hv0
  unfold Abs.nodeC at e
  rw [if_pos rfl] at e
  rw [Bool.false_and, e] at hs2
  exact hs2
 refine Sr ?_
 apply K.cond <;> intro g2
 ·obtain ⟨k0, hv', hix⟩ := ha.item g2
  have hv2 : a.to.toNat < m.vars.length := hv'
  have en : a.to = (a.to.toNat : Nat) := by omega
  rw [en] at hc5
  have eW : Abs.actW m q a = Abs.itemC m q a.to.toNat (Abs.selfIx a) := by unfold Abs.actW; rw [if_neg g1, if_pos g2]
  rw [eW]
  have hi1 := hi.ext E1
  refine Sr ?_
  intro w2 he2
  replace hc5 := he2.obj hc5
  replace hi1 := hi1.ext he2
  refine Sr ?_
  apply K.cond <;> intro g3
  ·obtain ⟨ai, rfl⟩ := hi.addr (by omega)
   have hxk := (hix.node 0 (by omega)).1
   have hse := Abs.selfIx_one (a := a) (by omega)
   refine Sr ?_
   refine K.ian 0 rfl (by omega) ?_
   refine Sr ?_
   refine K.call (vvar_r b bm q a.to.toNat true (decide ((a.index[0]'(by omega)).op = 5)) L m w0 w2 h (E1.trans he2) hbm (hs1.ext he2) hM hq hv2 (fun _ h5 => ?_)) ?_
   ·have h5 := hxk.self (by simpa using h5)
    exact hI.elem (by have : (Abs.inner (m.procs[p]'(hI.hp)) (Abs.mscope m)).self = (m.procs[p]'(hI.hp)).over := rfl; omega)
   rintro _ w3 ⟨hs3, hm3⟩
   rw [Bool.true_and, ← hse] at hs3
   refine Sr ?_
   exact ⟨hs3, (he1.mod.trans he2.mod).trans hm3⟩
  ·have hse := Abs.selfIx_not (a := a) (by omega)
   refine Sr ?_
   refine K.call (vvar_r b bm q a.to.toNat true false L m w0 w2 h (E1.trans he2) hbm (hs1.ext he2) hM hq hv2 (fun _ h5 => by cases h5)) ?_
   rintro _ w3 ⟨hs3, hm3⟩
   rw [Bool.and_false, ← hse] at hs3
   refine Sr ?_
   exact ⟨hs3, (he1.mod.trans he2.mod).trans hm3⟩
 refine Sr ?_
 apply K.cond <;> intro g3
 ·obtain ⟨k0, hv'⟩ := ha.loc g3
  have hv2 : a.to.toNat < (m.procs[p]'(hI.hp)).vars.length := hv'
  have eW : Abs.actW m q a = Abs.rowI (Abs.iAt m q + 1 + a.to.toNat) 1 := by unfold Abs.actW; rw [if_neg g1, if_neg g2, if_pos g3]
  rw [eW]
  refine Sr ?_
  intro w2 he2
  refine Sr ?_
  refine K.call (here_r b q m w2 (h.ext (E1.trans he2)) hq) ?_
  rintro _ w3 ⟨rfl, he3⟩
  refine ⟨he3, ?_⟩
  refine Sr ?_
  refine K.call (put_r bm L (Abs.iAt m q + 1 + a.to.toNat) 1 _ _ w3 ((hs1.ext he2).ext he3) (by omega) rfl (by omega)) ?_
  rintro _ w4 ⟨hs4, hm4⟩
  refine Sr ?_
  exact ⟨hs4, ((he1.mod.trans he2.mod).trans he3.mod).trans hm4⟩
 refine Sr ?_
 apply K.cond <;> intro g4
 ·obtain ⟨k0, hv'⟩ := ha.chan (.inl g4)
  have hv2 : a.to.toNat < m.chans.length := hv'
  have en : a.to = (a.to.toNat : Nat) := by omega
  rw [en] at hc5
  refine Sr ?_
  refine K.call (vchan_r b bm q a.to.toNat L m w0 w1 h E1 hbm hs1 hM hv2) ?_
  rintro _ w2 ⟨hs2, hm2⟩
  refine Sr ?_
  refine ⟨?_, he1.mod.trans hm2⟩
  unfold Abs.actW
  rw [if_neg g1, if_neg g2, if_neg g3, if_pos g4]
  exact hs2
 have g5 : a.kind = 5 := by omega
 ·obtain ⟨k0, hv'⟩ := ha.chan (.inr g5)
  obtain ⟨k1, hl'⟩ := ha.recv g5
  have hl2 : a.loc.toNat < (m.procs[p]'(hI.hp)).vars.length := hl'
  have hv2 : a.to.toNat < m.chans.length := hv'
  have en : a.to = (a.to.toNat : Nat) := by omega
  rw [en] at hc5
  refine Sr ?_
  refine K.call (vchan_r b bm q a.to.toNat L m w0 w1 h E1 hbm hs1 hM hv2) ?_
  rintro _ w2 ⟨hs2, hm2⟩
  have hc52 := hm2.obj n5 hc5
  have E2 := hm2.ext E1 fun k hk e => by omega
  clear hc5
  refine Sr ?_
  intro w3 he3
  refine Sr ?_
  refine K.call (here_r b q m w3 (h.ext (E2.trans he3)) hq) ?_
  rintro _ w4 ⟨rfl, he4⟩
  refine ⟨he4, ?_⟩
  refine Sr ?_
  refine K.call (put_r bm _ (Abs.iAt m q + 1 + a.loc.toNat) 1 _ _ w4 ((hs2.ext he3).ext he4) (by omega) rfl (by omega)) ?_
  rintro _ w5 ⟨hs5, hm5⟩
  refine Sr ?_
  refine ⟨?_, (((he1.mod.trans hm2).trans he3.mod).trans he4.mod).trans hm5⟩
  unfold Abs.actW
  rw [if_neg g1, if_neg g2, if_neg g3, if_neg g4, if_pos g5, ← List.append_assoc]
  exact hs5
end Go.Proofs.R
end
section
namespace Abs
open Go
structure CmdAt (m : Model) (ref : Int) (q p k : Nat) : Prop where
 ok : (check m).why = 0
 lo : 0 ≤ ref
 hi : ref.toNat < (refs m).length
 at_ : RefAt m ((refs m)[ref.toNat]) q p k
def Told (m : Model) (ref : Int) : Prop := (check m).why = 0 ∧ 0 ≤ ref ∧ ref < (refs m).length
theorem cmd_at {m : Model} {ref : Int} (h : Told m ref) : ∃ q p k, CmdAt m ref q p k := by
 obtain ⟨h1, h2, h3⟩ := h
 obtain ⟨q, p, k, h4⟩ := refs_at (List.getElem_mem (show ref.toNat < (refs m).length by omega))
 exact ⟨q, p, k, h1, h2, by omega, h4⟩
theorem CmdAt.told {m : Model} {ref : Int} {q p k : Nat} (h : CmdAt m ref q p k) : Told m ref := ⟨h.ok, h.lo, by have := h.hi; have := h.lo; omega⟩
theorem CmdAt.inst {m : Model} {ref : Int} {q p k : Nat} (h : CmdAt m ref q p k) : InstAt m q p := by
 obtain ⟨p', hp⟩ := inst_at h.at_.hi
 have e : p' = p := by
  have h1 := hp.eq
  rw [h.at_.ip] at h1
  omega
 subst e
 exact hp
theorem CmdAt.one {m : Model} {ref : Int} {q p k q' p' k' : Nat} (h : CmdAt m ref q p k) (h' : CmdAt m ref q' p' k') : q = q' ∧ p = p' ∧ k = k' := by
 have e1 : q = q' := by have a := h.at_.ri; have b := h'.at_.ri; omega
 subst e1
 have a := h.at_.ip
 have b := h'.at_.ip
 have c := h.at_.rk
 have d := h'.at_.rk
 exact ⟨rfl, by omega, by omega⟩
def cmdN (m : Model) (p k : Nat) : Cmd := ((m.procs[p]?.map (·.cmds[k]?)).join).getD ⟨⟨#[]⟩, 0, 0, [], [], false⟩
theorem cmdN_eq {m : Model} {p k : Nat} (hp : p < m.procs.length) (hk : k < m.procs[p].cmds.length) : cmdN m p k = m.procs[p].cmds[k] := by
 unfold cmdN
 rw [List.getElem?_eq_getElem hp]
 simp [hk]
theorem CmdAt.cin {m : Model} {ref : Int} {q p k : Nat} (h : CmdAt m ref q p k) : CmdIn (inner (m.procs[p]'(h.at_.hp)) (mscope m)) (cmdN m p k) := by
 rw [cmdN_eq h.at_.hp h.at_.hk]
 exact cmd_in h.ok h.at_.hp h.at_.hk
structure ReadsIs (m : Model) (ref : Int) (a b : List Int) : Prop where
 there : ∀ q p k, CmdAt m ref q p k → Rising (readC m q (cmdN m p k) (cmdN m p k).acts.length) a ∧ Rising (writeC m q (cmdN m p k) (cmdN m p k).acts.length) b
 none : ¬ Told m ref → a = [] ∧ b = []
theorem ReadsIs.eq {m : Model} {ref : Int} {a b a' b' : List Int} (h : ReadsIs m ref a b) (h' : ReadsIs m ref a' b') : a = a' ∧ b = b' := by
 by_cases ht : Told m ref
 ·obtain ⟨q, p, k, hc⟩ := cmd_at ht
  obtain ⟨h1, h2⟩ := h.there q p k hc
  obtain ⟨h3, h4⟩ := h'.there q p k hc
  exact ⟨h1.eq h3 fun _ => Iff.rfl, h2.eq h4 fun _ => Iff.rfl⟩
 ·obtain ⟨rfl, rfl⟩ := h.none ht
  obtain ⟨rfl, rfl⟩ := h'.none ht
  exact ⟨rfl, rfl⟩
theorem ReadsIs.of {m : Model} {ref : Int} {q p k : Nat} {a b : List Int} (hc : CmdAt m ref q p k) (h1 : Rising (readC m q (cmdN m p k) (cmdN m p k).acts.length) a) (h2 : Rising (writeC m q (cmdN m p k) (cmdN m p k).acts.length) b) : ReadsIs m ref a b :=
 ⟨fun q' p' k' h => by obtain ⟨rfl, rfl, rfl⟩ := hc.one h; exact ⟨h1, h2⟩, fun hn => absurd hc.told hn⟩
theorem ReadsIs.nil {m : Model} {ref : Int} (h : ¬ Told m ref) : ReadsIs m ref [] [] := ⟨fun _ _ _ hc => absurd hc.told h, fun _ => ⟨rfl, rfl⟩⟩
structure GuardIs (m : Model) (ref : Int) (a : List Int) : Prop where
 there : ∀ q p k, CmdAt m ref q p k → Rising (guardC m q (cmdN m p k)) a
 none : ¬ Told m ref → a = []
theorem GuardIs.eq {m : Model} {ref : Int} {a a' : List Int} (h : GuardIs m ref a) (h' : GuardIs m ref a') : a = a' := by
 by_cases ht : Told m ref
 ·obtain ⟨q, p, k, hc⟩ := cmd_at ht
  exact (h.there q p k hc).eq (h'.there q p k hc) fun _ => Iff.rfl
 ·rw [h.none ht, h'.none ht]
theorem GuardIs.of {m : Model} {ref : Int} {q p k : Nat} {a : List Int} (hc : CmdAt m ref q p k) (h1 : Rising (guardC m q (cmdN m p k)) a) : GuardIs m ref a :=
 ⟨fun q' p' k' h => by obtain ⟨rfl, rfl, rfl⟩ := hc.one h; exact h1, fun hn => absurd hc.told hn⟩
theorem GuardIs.nil {m : Model} {ref : Int} (h : ¬ Told m ref) : GuardIs m ref [] := ⟨fun _ _ _ hc => absurd hc.told h, fun _ => rfl⟩
def ownC (m : Model) (inst : Int) : List Int := if (check m).why = 0 then (match nth (insts m) inst with | some x => rowI (iAt m inst.toNat) (instBds m x).length | none => []) else []
theorem ownC_at {m : Model} {q p : Nat} (h : InstAt m q p) (hk : (check m).why = 0) : ownC m q = rowI (iAt m q) (1 + (m.procs[p]'(h.hp)).vars.length) := by
 unfold ownC
 have := h.hq
 rw [if_pos hk, nth_some (by omega) (by omega)]
 simp only [Int.toNat_natCast]
 rw [h.bds, procBds_len]
theorem ownC_none {m : Model} {inst : Int} (h : (check m).why = 0 → inst < 0 ∨ (insts m).length ≤ inst) : ownC m inst = [] := by
 unfold ownC
 by_cases hk : (check m).why = 0
 ·rw [if_pos hk, nth_none (h hk)]
 ·rw [if_neg hk]
theorem here_in {m : Model} {q : Nat} {c : Cmd} : ((iAt m q : Nat) : Int) ∈ guardC m q c := List.mem_append_left _ (by rw [rowI_one]; exact List.mem_singleton.2 rfl)
theorem guard_in {m : Model} {q n : Nat} {c : Cmd} {x : Int} (h : x ∈ guardC m q c) : x ∈ readC m q c n := List.mem_append_left _ h
theorem here_written {m : Model} {q n : Nat} {c : Cmd} : ((iAt m q : Nat) : Int) ∈ writeC m q c n := List.mem_append_left _ (by rw [rowI_one]; exact List.mem_singleton.2 rfl)
theorem Rising.sorted {l r : List Int} (h : Rising l r) : ∀ i (hi : i + 1 < r.length), r[i] ≤ r[i + 1] := fun i hi => by
 have := List.pairwise_iff_getElem.1 h.pw i (i + 1) (by omega) hi (by omega)
 omega
theorem MayBe.lim {m : Model} (h : MayBe m) : Lim m := ⟨by have := h.procs; omega, fun p hp => by have := (h.proc p hp).few; omega⟩
end Abs
namespace Lite
open Go
def cmdZ : List Value := [.string ⟨#[]⟩, .int .i64 0, .int .i64 0, .slice none 0 0, .slice none 0 0, .bool false]
end Lite
end