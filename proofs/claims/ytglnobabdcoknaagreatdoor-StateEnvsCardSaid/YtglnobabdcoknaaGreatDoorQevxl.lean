/- Texts joined: LayD LayE LayF LayG LayH LayI LayJ StaP StaQ StaA StaB LayK LayL LayM. -/
import Derived.Test.YtglnobabdcoknaaGreatDoorQevxd
import Derived.Test.YtglnobabdcoknaaGreatDoorQevxe
import Derived.Test.YtglnobabdcoknaaGreatDoorQevxh
import Derived.Test.YtglnobabdcoknaaGreatDoorQevxj
import Derived.Test.YtglnobabdcoknaaGreatDoorQevxk
set_option linter.all false
set_option maxRecDepth 8000
set_option maxHeartbeats 16000000
section
namespace Go.Proofs.YtglnobabdcoknaaGreatDoor
open Go Go.RowKit Lite
section
variable {w1 : World} {bx bs : Nat} {s : Abs.LS} {W W' : World}
theorem slot_app {vs : Nat → SlP} {u : SlP} {W5 W6 W7 : World} {y : Abs.Cell} {v' : Value} (hne : bx ≠ bs) (hm : Mod (fun k => k = bx ∨ k = bs) w1 W) (g1 : W.heap[bx]? = some (.cells #[slq (vs 0), slq (vs 1), slq (vs 2), .int .i64 s.n, slq (vs 3), slq (vs 4)] T.j)) (g2 : Rws encN T.a 1 w1.heap.size W 5 vs s.rows)
  (g3 : W.heap[bs]? = some (.cells #[slq u] T.x)) (g4 : OwR Abs.Cell.slot T.s 4 w1.heap.size W (slq u) s.Z) (he : Ext W W5) (hg : W5.grownBy W6 (slq u).ownBlock) (ho : OwR Abs.Cell.slot T.s 4 w1.heap.size W6 v' (s.Z ++ [y]))
  (hw : Wr bs W6 W7) (hc : W7.heap[bs]? = some (.cells #[v'] T.x)) : LSt w1 bx bs ⟨s.V, s.C, s.I, s.n, s.L, s.H, s.Z ++ [y]⟩ W7 ∧ Kt ltys W W7 ∧ Hd bx W W7 := by
 obtain ⟨oa, cap, rfl, _⟩ := ho.form
 have mg : Mod (fun k => (slq u).ownBlock = some k) W5 W6 := Mod.grown hg fun k hk => hk
 have nb : ∀ {k : Nat} {c : Array Value} {t : TypeId}, W.heap[k]? = some (.cells c t) → t ≠ T.s → ¬ (slq u).ownBlock = some k := fun {k c t} hk ht e => by
  obtain ⟨cur, h⟩ := g4.blk k e
  rw [hk] at h; injection h with h; injection h with _ h; exact ht h
 have m6 : ∀ {k : Nat} {c : Array Value} {t : TypeId}, W.heap[k]? = some (.cells c t) → t ≠ T.s → W6.heap[k]? = some (.cells c t) := fun hk ht => mg.obj (nb hk ht) (he.obj hk)
 have mw : Mod (fun k => k = bs) W6 W7 := hw.mod rfl
 refine ⟨⟨?_, vs, (oa, _, cap), mw.obj hne (m6 g1 (by decide)), ?_, hc, ho.mod mw fun k hk e => ?_⟩, ?_, Hd.of g1 (mw.obj hne (m6 g1 (by decide)))⟩
 ·have h1 : Mod (fun k => k = bx ∨ k = bs) w1 W5 := hm.comp (A' := fun _ => False) he.mod (fun _ _ a => a) fun _ _ a => a.elim
  have h2 : Mod (fun k => k = bx ∨ k = bs) w1 W6 := h1.comp mg (fun _ _ a => a) fun i hi a => by have := (g4.lt i a).1; omega
  exact h2.trans (hw.mod (.inr rfl))
 ·refine ((g2.ext he).mod mg fun i k hi hk e => ?_).mod mw fun i k hi hk e => ?_
  ·obtain ⟨cur, h⟩ := (g2.own i hi).blk k hk
   exact nb h (by decide) e
  ·subst e
   obtain ⟨cur, h⟩ := (g2.own i hi).blk k hk
   rw [g3] at h; injection h with h; injection h with _ h; exact absurd h (by decide)
 ·subst e
  obtain ⟨cur, h⟩ := ho.blk k hk
  rw [m6 g3 (by decide)] at h; injection h with h; injection h with _ h; exact absurd h (by decide)
 ·refine ((Kt.ext he).trans (Kt.mod mg fun k c t hc a => ?_)).trans (Kt.wr hw (m6 g3 (by decide)) (by decide))
  obtain ⟨cur, h⟩ := (g4.ext he).blk k a
  rw [hc] at h; injection h with h; injection h with _ h; rw [h]; decide
theorem cnt_st {vs : Nat → SlP} {u : SlP} {n : Int} (hne : bx ≠ bs) (hm : Mod (fun k => k = bx ∨ k = bs) w1 W) (g1 : W.heap[bx]? = some (.cells #[slq (vs 0), slq (vs 1), slq (vs 2), .int .i64 s.n, slq (vs 3), slq (vs 4)] T.j)) (g2 : Rws encN T.a 1 w1.heap.size W 5 vs s.rows)
  (g3 : W.heap[bs]? = some (.cells #[slq u] T.x)) (g4 : OwR Abs.Cell.slot T.s 4 w1.heap.size W (slq u) s.Z) (hw : Wr bx W W') (hn : n = ((s.n + 1 : Nat) : Int))
  (hc : W'.heap[bx]? = some (.cells #[slq (vs 0), slq (vs 1), slq (vs 2), .int .i64 n, slq (vs 3), slq (vs 4)] T.j)) : LSt w1 bx bs ⟨s.V, s.C, s.I, s.n + 1, s.L, s.H, s.Z⟩ W' ∧ Kt ltys W W' ∧ Hd bx W W' := by
 subst hn
 have mw : Mod (fun k => k = bx) W W' := hw.mod rfl
 refine ⟨⟨hm.trans (hw.mod (.inl rfl)), vs, u, hc, g2.mod mw fun i k hi hk e => ?_, mw.obj (Ne.symm hne) g3, g4.mod mw fun k hk e => ?_⟩, Kt.wr hw g1 (by decide), Hd.of g1 hc⟩
 ·subst e; exact g2.not g1 (by decide) i hi hk
 ·subst e
  obtain ⟨cur, h⟩ := g4.blk k hk
  rw [g1] at h; injection h with h; injection h with _ h; exact absurd h (by decide)
end
theorem ladd_r (so wh : Int) (v : Value) (l : List Abs.Bd) (Vs Ch Is : List Int) (cs : List Abs.Cell) (base : Nat) (w1 : World) (bx bs : Nat) (w : World) (hne : bx ≠ bs) (hlo : bx < w1.heap.size ∧ bs < w1.heap.size) (hs : LSt w1 bx bs (Abs.LS.of Vs Ch Is cs) w) (hv : OwR Abs.Bd.enc T.k 3 base w v l)
  (hm : cs.length + l.length ≤ 100000) :
  Ret Tryz.prog F.ad #[.int .i64 so, .int .i64 wh, v, .pointer (some ⟨bx, 0, none⟩), .pointer (some ⟨bs, 0, none⟩)] w fun v w' => v = .int .i64 cs.length ∧ LSt w1 bx bs (Abs.LS.of Vs Ch Is (cs ++ Abs.laidFrom so wh l 0)) w' ∧ Kt ltys w w' ∧ Hd bx w w' := by
 obtain ⟨oa, cap, rfl, _⟩ := hv.form
 obtain ⟨vs0, u0, g1, g2, g3, g4⟩ := hs.ex
 refine Ks E.ad ?_; dsimp only [C.ad]; refine Yy ?_
 refine Sg ?_
 refine K.forG 16 l.length [0, 1, 2, 3, 4, 9, 14, 15] (fun _ : Unit => []) () (fun k _ w' => LSt w1 bx bs (Abs.LS.of Vs Ch Is (cs ++ Abs.laidFrom so wh (l.take k) 0)) w' ∧ Kt ltys w w' ∧ Hd bx w w') hZq hZq ⟨by simpa [Abs.laidFrom] using hs, Kt.refl, Hd.refl⟩ ?_
 clear g1 g2 g3 g4 hs
 rintro k _ S w2 hk ⟨hs, kt2, hd2⟩
 have hsl : SlR 3 (Flat Abs.Bd.enc) w2 (.slice oa l.length cap) l := OwR.slF (enc := Abs.Bd.enc) (fun _ => rfl) (hv.kt kt2 (by decide))
 refine Sg ?_
 apply K.cond <;> intro g1
 ·have hk' : k < l.length := by omega
  obtain ⟨a, rfl⟩ := hsl.addr (by omega)
  have hZ : (Abs.laidFrom so wh (l.take k) 0).length = k := by rw [Abs.laidFrom_len, List.length_take]; omega
  have hone := Abs.bd_one l[k]
  refine Su ?_
  simp -dsimp only [B9]
  refine Su ?_
  simp -dsimp only [B9]
  refine Su ?_
  intro wn b3 hb3 hen hcn
  refine Su ?_
  intro w3 hw3 hc3
  have he3 := hw3.ext hen hb3
  have hs3 := hs.ext he3
  clear hw3 hen hcn
  refine Su ?_
  refine K.cutG [0, 1, 2, 3, 4, 9, 10, 11, 14, 15, 16] (fun _ : Unit => []) (fun _ w' => LSt w1 bx bs ⟨Vs, Ch, Is, (cs ++ Abs.laidFrom so wh (l.take k) 0).length, (cs ++ Abs.laidFrom so wh (l.take k) 0).map (·.lo) ++ [l[k].lo], (cs ++ Abs.laidFrom so wh (l.take k) 0).map (·.hi) ++ [l[k].hi], cs ++ Abs.laidFrom so wh (l.take k) 0⟩ w' ∧ Kt ltys w3 w' ∧ Hd bx w3 w') ?_ ?_
  ·refine Sg ?_
   intro w4 he4
   refine K.wide (add_reg hne hlo (hs3.ext he4) (by simp [uA]) (by simp [uA]) (he4.obj hc3) (by simp [Abs.LS.of, hZ]; omega) (by simp [Abs.LS.of, hZ]; omega) fun S' w' h k hd => ?_)
   refine Sg ?_
   exact ⟨(), trivial, h, (Kt.ext he4).trans k, (Hd.ext he4 (by have := hs3.mod.size; omega)).trans hd⟩
  have hd3 : Hd bx w2 w3 := Hd.ext he3 (by have := hs.mod.size; omega)
  clear hs3
  rintro _ S w4 ⟨hs4, kt4, hd4⟩
  obtain ⟨vs, ⟨u0, u1, u2⟩, g1, g2, g3, g4⟩ := hs4.ex
  have hc4 := kt4.blk _ _ _ hc3 (by decide)
  refine Sg ?_
  intro w5 b5 hb5 he5 hc5
  replace hc5 : w5.heap[b5]? = some (.cells (Abs.Cell.slot ⟨so, wh, k, l[k].lo, l[k].hi, l[k].kind⟩).toArray T.s) := hc5
  have ho5 := g4.ext he5
  have z1 := hs4.mod.size
  have z2 := he5.size
  have hl : (cs ++ Abs.laidFrom so wh (l.take k) 0).length = cs.length + k := by rw [List.length_append, hZ]
  refine K.app1 (y := ⟨so, wh, k, l[k].lo, l[k].hi, l[k].kind⟩) ho5 hc5 rfl (fun _ => rfl) Abs.slot_one (by simp only [hl]; omega) (by unfold maxLen; simp only [hl]; omega) (by omega) fun oa n c w6 ho6 hg6 => ?_
  have hb6 := ho5.box hg6 (he5.obj g3) (by decide)
  refine Sg ?_
  intro w7 hw7 hc7
  obtain ⟨hs7, kt7, hd7⟩ := slot_app hne hs4.mod g1 g2 g3 g4 he5 hg6 ho6 hw7 hc7
  dsimp only at hs7
  obtain ⟨vs', u', q1, q2, q3, q4⟩ := hs7.ex
  clear g1 g2 g3 g4 hs4 ho5 ho6 hg6 hb6 hc7 hc5
  have q1' := q1
  dsimp only [slq] at q1
  refine Sg ?_
  intro w8 hw8 hc8
  obtain ⟨hs8, kt8, hd8⟩ := cnt_st hne hs7.mod q1' q2 q3 q4 hw8 (by dsimp only; omega) hc8
  refine Sg ?_
  refine ⟨hk', Tr, (), trivial, ?_, ((((kt2.trans (Kt.ext he3)).trans kt4).trans kt7).trans kt8), ((((hd2.trans hd3).trans hd4).trans hd7).trans hd8)⟩
  rw [Abs.laidFrom_take hk', ← List.append_assoc]
  have e : Abs.LS.of Vs Ch Is ((cs ++ Abs.laidFrom so wh (l.take k) 0) ++ [⟨so, wh, k, l[k].lo, l[k].hi, l[k].kind⟩]) = ⟨Vs, Ch, Is, (cs ++ Abs.laidFrom so wh (l.take k) 0).length + 1, (cs ++ Abs.laidFrom so wh (l.take k) 0).map (·.lo) ++ [l[k].lo], (cs ++ Abs.laidFrom so wh (l.take k) 0).map (·.hi) ++ [l[k].hi], cs ++ Abs.laidFrom so wh (l.take k) 0 ++ [⟨so, wh, k, l[k].lo, l[k].hi, l[k].kind⟩]⟩ := by
   simp [Abs.LS.of, List.map_append, Nat.add_assoc]
  rw [e]
  exact hs8
 ·refine Sg ?_
  rw [List.take_of_length_le (by omega)] at hs
  exact ⟨Tr, hs, kt2, hd2⟩
end Go.Proofs.YtglnobabdcoknaaGreatDoor
end
section
namespace Lite
open Go Go.RowKit
section
variable {P : Program} {C : World → Prop} {S : Fr} {w : World} {K : Fr → World → Prop}
theorem svcC.mv {d m : Nat} {r : Sch} {v : Value} (hx : S m = v) (h : svcC P C r (upd S d v) w K) : svcC P C (.take ⟨some d, none, .p (.mv (.tmp m))⟩ r) S w K := by subst hx; exact h
theorem altC.c {i : CIns} {d : Nat} {k : Fr → World → Prop} (h : CVC P i S w fun v w' => C w' ∧ k (put S (some d) v) w') : altC P C ⟨some d, none, .c i⟩ S w k := h
end
end Lite
namespace Abs
def LS.add (s : LS) (off : Nat) (y : Int) : LS := if off = 0 then { s with V := s.V ++ [y] } else if off = 1 then { s with C := s.C ++ [y] } else { s with I := s.I ++ [y] }
end Abs
namespace Go.Proofs.YtglnobabdcoknaaGreatDoor
open Go Go.RowKit Lite
def callT (n x y off : Nat) (so : Int) : Sch :=
 (.take (ya n off 4) (.take (yl (n + 1) n) (.take (ym (n + 2) 6) (.take (ym (n + 3) x) (.take (ym (n + 4) y)
 (.alt (yc (n + 5) (.val (yt (n + 2)) [(yi so), (yt (n + 3)), (yt (n + 4))]))
 (.alt (ye (n + 6) (.bldS T.a 1 1 [(.int .i64 0)] [(0, (yt (n + 5)))]))
 (.fre (ye (n + 7) (.app T.b T.a 1 8 (yt (n + 1)) (yt (n + 6))))
 (.take (ya (n + 8) off 4) (.fre (ys (n + 8) (n + 7)) .done .nil)) .nil) .nil) .nil))))))
theorem call_reg {w1 w : World} {bx bs n x y off base : Nat} {so wh : Int} {vl : Value} {l : List Abs.Bd} {Vs Ch Is : List Int} {cs : List Abs.Cell} {S : Fr} {KK : Fr → World → Prop} (hoff : off < 3) (hn : 20 ≤ n) (hx : x < 20) (hy : y < 20)
  (hne : bx ≠ bs) (hlo : bx < w1.heap.size ∧ bs < w1.heap.size) (h4 : S 4 = .pointer (some ⟨bx, 0, none⟩)) (h6 : S 6 = .func (.func F.ad) #[] #[.pointer (some ⟨bx, 0, none⟩), .pointer (some ⟨bs, 0, none⟩)]) (hx' : S x = .int .i64 wh) (hy' : S y = vl)
  (hs : LSt w1 bx bs (Abs.LS.of Vs Ch Is cs) w) (hv : OwR Abs.Bd.enc T.k 3 base w vl l) (hm : cs.length + l.length ≤ 100000) (hr : Vs.length ≤ 100000 ∧ Ch.length ≤ 100000 ∧ Is.length ≤ 100000)
  (hk : ∀ S' w', (∀ t, t < n ∨ n + 8 < t → S' t = S t) → LSt w1 bx bs ((Abs.LS.of Vs Ch Is (cs ++ Abs.laidFrom so wh l 0)).add off cs.length) w' → Kt ltys w w' → KK S' w') : ∃ C : World → Prop, C w ∧ svcC Tryz.prog C (callT n x y off so) S w KK := by
 obtain ⟨vs, u, g1, g2, g3, g4⟩ := hs.ex
 have c0 : w.cell? (Addr.add ⟨bx, 0, none⟩ off) = some (slq (vs off)) := by
  have : off = 0 ∨ off = 1 ∨ off = 2 := by omega
  rcases this with rfl | rfl | rfl <;> exact kB g1 rfl
 refine ⟨fun w' => w'.cell? (Addr.add ⟨bx, 0, none⟩ off) = some (slq (vs off)), c0, ?_⟩
 unfold callT
 refine svcC.fa h4 ?_
 refine svcC.ld (v := slq (vs off)) (by simp [uA]) (fun w' m => m) ?_
 refine svcC.mv (slot_of (slot_of h6 (by omega)) (by omega)) ?_
 refine svcC.mv (slot_of (slot_of (slot_of hx' (by omega)) (by omega)) (by omega)) ?_
 refine svcC.mv (slot_of (slot_of (slot_of (slot_of hy' (by omega)) (by omega)) (by omega)) (by omega)) ?_
 generalize hS5 : upd _ (n + 4) _ = S5
 have fS : ∀ t, t < n ∨ n + 8 < t → S5 t = S t := by
  subst hS5
  intro t ht
  simp only [uA]
  rw [if_neg (by omega), if_neg (by omega), if_neg (by omega), if_neg (by omega), if_neg (by omega)]
 have e4 : S5 4 = .pointer (some ⟨bx, 0, none⟩) := by subst hS5; exact slot_of (slot_of (slot_of (slot_of (slot_of h4 (by omega)) (by omega)) (by omega)) (by omega)) (by omega)
 have f1 : S5 (n + 1) = slq (vs off) := by subst hS5; simp [uA]
 have f2 : S5 (n + 2) = .func (.func F.ad) #[] #[.pointer (some ⟨bx, 0, none⟩), .pointer (some ⟨bs, 0, none⟩)] := by subst hS5; simp [uA]
 have f3 : S5 (n + 3) = .int .i64 wh := by subst hS5; simp [uA]
 have f4 : S5 (n + 4) = vl := by subst hS5; simp [uA]
 refine svcC.alt1 (altC.c ?_)
 show CallV _ (S5 (n + 2)) [.int .i64 so, S5 (n + 3), S5 (n + 4)] w _
 rw [f2, f3, f4]
 refine callV_ok (first := []) (cap := [.pointer (some ⟨bx, 0, none⟩), .pointer (some ⟨bs, 0, none⟩)]) (by kernel_rfl) (ladd_r so wh vl l Vs Ch Is cs base w1 bx bs w hne hlo hs hv hm) ?_
 rintro _ w2 ⟨rfl, hs2, kt2, hd2⟩
 refine ⟨(hd2 off hoff).trans c0, ?_⟩
 refine svcC.alt1 (altC.e ?_)
 have he : Ext w2 (w2.alloc (.cells #[.int .i64 cs.length] T.a)) := (Ext.refl w2).alloc _
 rw [e_bldS]
 refine bldS_ok (cs := [.int .i64 cs.length]) (fill1 (by simp [pS, uA])) ?_
 refine ⟨he.cell ((hd2 off hoff).trans c0), ?_⟩
 have hc3 := heap_alloc_new w2 (.cells #[.int .i64 cs.length] T.a)
 have c3 := he.cell ((hd2 off hoff).trans c0)
 have hs3 := hs2.ext he
 have kt3 : Kt ltys w (w2.alloc (.cells #[.int .i64 cs.length] T.a)) := kt2.trans (Kt.ext he)
 show svcC _ _ _ _ (w2.alloc (.cells #[.int .i64 cs.length] T.a)) _
 generalize w2.alloc (.cells #[.int .i64 cs.length] T.a) = w3 at hc3 c3 hs3 kt3
 clear he g1 g2 g3 g4
 obtain ⟨vs', u', g1, g2, g3, g4⟩ := hs3.ex
 have ev' : slq (vs off) = slq (vs' off) := by
  have : off = 0 ∨ off = 1 ∨ off = 2 := by omega
  rcases this with rfl | rfl | rfl
  ·rw [kB g1 (v := slq (vs' 0)) rfl] at c3; exact (Option.some.inj c3).symm
  ·rw [kB g1 (v := slq (vs' 1)) rfl] at c3; exact (Option.some.inj c3).symm
  ·rw [kB g1 (v := slq (vs' 2)) rfl] at c3; exact (Option.some.inj c3).symm
 refine svcC.fre1 (freS.e ?_)
 rw [e_app]
 unfold yt
 rw [ev_tmp, ev_tmp]
 rw [show ∀ a b, put (put S5 (some (n + 5)) a) (some (n + 6)) b (n + 1) = slq (vs' off) from fun a b => by rw [pS, pS, ← ev']; exact slot_of (slot_of f1 (by omega)) (by omega),
  show ∀ a b, put (put S5 (some (n + 5)) a) (some (n + 6)) b (n + 6) = b from fun a b => by rw [pS, pS, uA, if_pos rfl]]
 have z1 := hs3.mod.size
 have hlen : ((Abs.LS.of Vs Ch Is (cs ++ Abs.laidFrom so wh l 0)).rows off).length ≤ 100000 := by
  have : off = 0 ∨ off = 1 ∨ off = 2 := by omega
  rcases this with rfl | rfl | rfl
  ·exact hr.1
  ·exact hr.2.1
  ·exact hr.2.2
 refine Rws.app (y := (cs.length : Int)) off (by omega) g2 (fun _ => rfl) (cB hc3) encN_one (by omega) (by unfold maxLen; omega) (by omega) fun v' w4 ho4 hg4 _ => ?_
 have m4 : Mod (fun k => (slq (vs' off)).ownBlock = some k) w3 w4 := Mod.grown hg4 fun k hk => hk
 have nb : ∀ {k : Nat} {c : Array Value} {t : TypeId}, w3.heap[k]? = some (.cells c t) → t ≠ T.a → w4.heap[k]? = some (.cells c t) := fun hk ht => m4.obj (g2.not hk ht off (by omega)) hk
 refine svcC.fa (a := ⟨bx, 0, none⟩) (by rw [pS, pS, pS]; exact slot_of (slot_of (slot_of e4 (by omega)) (by omega)) (by omega)) ?_
 refine svcC.fre1 ?_
 show StVC (upd _ (n + 8) _ (n + 8)) (upd (put _ (some (n + 7)) _) (n + 8) _ (n + 7)) w4 _
 rw [show ∀ (S : Fr) v, upd S (n + 8) v (n + 8) = v from fun S v => by rw [uA, if_pos rfl], show ∀ (S : Fr) a b, upd (put S (some (n + 7)) a) (n + 8) b (n + 7) = a from fun S a b => by rw [pS, uA, if_neg (by omega), uA, if_pos rfl]]
 have b4 := nb g1 (by decide)
 refine stVC_of fun tk => K.st1 b4 (by simp; omega) rfl fun w5 hw5 hc5 => ?_
 have mw : Mod (fun k => k = bx) w4 w5 := hw5.mod rfl
 refine hk _ _ (fun t ht => ?_) ⟨?_, putN vs' off v', u', ?_, (ho4.mod mw fun i k hi hq e => ?_).congr (fun _ _ => rfl) (fun i hi => ?_), ?_, ?_⟩ ?_
 ·simp only [pS, put_none, uA]
  rw [if_neg (by omega), if_neg (by omega), if_neg (by omega), if_neg (by omega)]
  exact fS t ht
 ·refine (hs3.mod.comp m4 (B := fun k => k = bx ∨ k = bs) (fun _ _ a => a) fun i hi a => ?_).trans (hw5.mod (A := fun k => k = bx ∨ k = bs) (.inl rfl))
  have := (g2.lt off i (by omega) a).1; omega
 ·rw [hc5]
  have : off = 0 ∨ off = 1 ∨ off = 2 := by omega
  rcases this with rfl | rfl | rfl <;> rfl
 ·subst e; exact ho4.not b4 (by decide) i hi hq
 ·have a : off = 0 ∨ off = 1 ∨ off = 2 := by omega
  have b : i = 0 ∨ i = 1 ∨ i = 2 ∨ i = 3 ∨ i = 4 := by omega
  rcases a with rfl | rfl | rfl <;> rcases b with rfl | rfl | rfl | rfl | rfl <;> rfl
 ·exact hw5.obj (nb g3 (by decide)) (Ne.symm hne)
 ·have ez : ((Abs.LS.of Vs Ch Is (cs ++ Abs.laidFrom so wh l 0)).add off cs.length).Z = (Abs.LS.of Vs Ch Is (cs ++ Abs.laidFrom so wh l 0)).Z := by unfold Abs.LS.add; (repeat' split) <;> rfl
  rw [ez]
  refine (g4.mod m4 fun k hk h => ?_).mod mw fun k hk e => ?_
  ·obtain ⟨cur, hcur⟩ := g4.blk k hk
   exact g2.not hcur (by decide) off (by omega) h
  ·obtain ⟨cur, hcur⟩ := g4.blk k hk
   subst e
   rw [g1] at hcur; injection hcur with hcur; injection hcur with _ e; exact absurd e (by decide)
 ·refine (kt3.trans (Kt.mod m4 fun k c t' hc a => ?_)).trans (Kt.wr hw5 b4 (by decide))
  obtain ⟨cur, hcur⟩ := (g2.own off (by omega)).blk k a
  rw [hc] at hcur; injection hcur with hcur; injection hcur with _ e; rw [e]; decide
end Go.Proofs.YtglnobabdcoknaaGreatDoor
end
section
namespace Lite
open Go Go.RowKit
theorem OwR.blkN {α : Type} {enc : α → List Value} {e : TypeId} {sz base b n : Nat} {w : World} {cs : List Value} (xs : List α) (h : w.heap[b]? = some (.cells cs.toArray e)) (hb : base ≤ b) (hcs : cs = xs.flatMap enc) (hsz : ∀ x, (enc x).length = sz) (hn : n = xs.length) (hm : xs.length ≤ maxLen) : OwR enc e sz base w (.slice (some ⟨b, 0, none⟩) n n) xs := by
 subst hn
 have hl : cs.length = xs.length * sz := by rw [hcs, flat_len hsz]
 exact ⟨by rw [flat_len hsz], .inr ⟨b, xs.length, cs.toArray, rfl, hb, h, Nat.le_refl _, hm, by simpa using hl, by simp only; rw [← hl, List.take_length, hcs]⟩⟩
theorem K.app1h {P : Program} {KK : Value → World → Prop} {α : Type} {enc : α → List Value} {e : TypeId} {sz base : Nat} {w : World} {v : Value} {xs : List α} {ty : TypeId} {bb b : Nat} {y : α} {cs : List Value} {t} (hs : OwR enc e sz base w v xs) (hc : w.heap[b]? = some (.cells cs.toArray e)) (hcs : cs = enc y) (hsz : ∀ x, (enc x).length = sz) (h1 : ∀ y, ∀ u ∈ enc y, u.oneCell' = true)
  (hb : (xs.length + 1) * bb ≤ 140737488355328) (h63 : xs.length + 1 ≤ maxLen) (hbase : base ≤ w.heap.size)
  (hk : ∀ oa n c w', OwR enc e sz base w' (.slice oa n c) (xs ++ [y]) → w.grownBy w' v.ownBlock → ((Value.slice oa n c).ownBlock = v.ownBlock ∨ (Value.slice oa n c).ownBlock = some w.heap.size) → KK (.slice oa n c) w') : AppVCh P ty e sz bb v (.slice (some ⟨b, 0, none⟩) 1 1) w KK t := by
 refine K.appAt (ys := [y]) hs hsz (by subst hcs; simpa using cB hc) rfl h1 hb h63 hbase fun v' w' ho hg hat => ?_
 obtain ⟨oa, cap, rfl, _⟩ := ho.form
 exact hk _ _ _ _ ho hg hat
end Lite
namespace Abs
open Go Go.RowKit Lite
structure LayIs (w : World) (cs : List Value) (x : Layout) : Prop where
 ex : ∃ v0 v1 v2 v3 v4, cs = [v0, v1, v2, .int .i64 x.cells, v3, v4] ∧ SlR 1 (Flat encN) w v0 x.vars ∧ SlR 1 (Flat encN) w v1 x.chans ∧ SlR 1 (Flat encN) w v2 x.insts ∧ SlR 1 (Flat encN) w v3 x.lo ∧ SlR 1 (Flat encN) w v4 x.hi
theorem LayIs.ext {w w' : World} {cs : List Value} {x : Layout} (he : Ext w w') (h : LayIs w cs x) : LayIs w' cs x :=
 let ⟨v0, v1, v2, v3, v4, e, h0, h1, h2, h3, h4⟩ := h.ex
 ⟨v0, v1, v2, v3, v4, e, h0.ext Flat.ext he, h1.ext Flat.ext he, h2.ext Flat.ext he, h3.ext Flat.ext he, h4.ext Flat.ext he⟩
theorem LayIs.form {w : World} {cs : List Value} {x : Layout} (h : LayIs w cs x) : ∃ o0 c0 o1 c1 o2 c2 o3 c3 o4 c4, cs = [.slice o0 x.vars.length c0, .slice o1 x.chans.length c1, .slice o2 x.insts.length c2, .int .i64 x.cells, .slice o3 x.lo.length c3, .slice o4 x.hi.length c4] ∧
  SlR 1 (Flat encN) w (.slice o0 x.vars.length c0) x.vars ∧ SlR 1 (Flat encN) w (.slice o1 x.chans.length c1) x.chans ∧ SlR 1 (Flat encN) w (.slice o2 x.insts.length c2) x.insts ∧ SlR 1 (Flat encN) w (.slice o3 x.lo.length c3) x.lo ∧ SlR 1 (Flat encN) w (.slice o4 x.hi.length c4) x.hi := by
 obtain ⟨v0, v1, v2, v3, v4, rfl, h0, h1, h2, h3, h4⟩ := h.ex
 obtain ⟨o0, c0, rfl, _⟩ := h0.form
 obtain ⟨o1, c1, rfl, _⟩ := h1.form
 obtain ⟨o2, c2, rfl, _⟩ := h2.form
 obtain ⟨o3, c3, rfl, _⟩ := h3.form
 obtain ⟨o4, c4, rfl, _⟩ := h4.form
 exact ⟨o0, c0, o1, c1, o2, c2, o3, c3, o4, c4, rfl, h0, h1, h2, h3, h4⟩
theorem var_scalar {v : Var} {s : List Scalar} (h : VarOk v s) (hs : s.length ≤ 2) : 0 ≤ v.scalar ∧ v.scalar ≤ 2 := by
 rcases h.sc with e | e
 ·omega
 ·unfold size at e
  split at e
  ·rename_i x hx
   have := (List.getElem?_eq_some_iff.1 hx).1
   split at e <;> omega
  ·exact absurd rfl e
theorem chan_scalar {v : Chan} {s : List Scalar} (h : ChanOk v s) (hs : s.length ≤ 2) : 0 ≤ v.scalar ∧ v.scalar ≤ 2 := by
 rcases h.sc with e | e
 ·omega
 ·unfold size at e
  split at e
  ·rename_i x hx
   have := (List.getElem?_eq_some_iff.1 hx).1
   split at e <;> omega
  ·exact absurd rfl e
theorem total_vars_le (m : Model) (h : MayBe m) (k : Nat) : total ((vT m).take k) ≤ 64 := by
 have h1 := layCells_pieces h
 have h2 := h.cells
 have h3 := layCells_len m
 have e : total (vT m) = total ((vT m).take k) + total ((vT m).drop k) := by rw [← total_app, List.take_append_drop]
 omega
theorem total_chans_le (m : Model) (h : MayBe m) (k : Nat) : total (vT m) + total ((cT m).take k) ≤ 64 := by
 have h1 := layCells_pieces h
 have h2 := h.cells
 have h3 := layCells_len m
 have e : total (cT m) = total ((cT m).take k) + total ((cT m).drop k) := by rw [← total_app, List.take_append_drop]
 omega
theorem total_insts_le (m : Model) (h : MayBe m) (k : Nat) : total (vT m) + total (cT m) + total ((iT m).take k) ≤ 64 := by
 have h1 := layCells_pieces h
 have h2 := h.cells
 have h3 := layCells_len m
 have e : total (iT m) = total ((iT m).take k) + total ((iT m).drop k) := by rw [← total_app, List.take_append_drop]
 omega
end Abs
namespace Go.Proofs.YtglnobabdcoknaaGreatDoor
open Go Go.RowKit Lite
theorem layout_all_r (cs : List Value) (m : Abs.Model) (w : World) (h : Abs.MI w cs m) (hg : m.good) (hM : Abs.MayBe m) :
  Ret Tryz.prog F.c1 #[.agg cs.toArray] w fun v w' => (∃ xs u, v = .tuple #[.agg xs.toArray, u] ∧ New w (fun w => Abs.LayIs w xs (Abs.layout m)) w' ∧ New w (fun w => SlR 4 (Flat Abs.Cell.slot) w u (Abs.lC m)) w') ∧ Ext w w' := by
 obtain ⟨o0, c0, o1, c1, o2, c2, o3, c3, o4, c4, rfl, h0, h1, h2, h3, h4, l0, l1, l2, l3, l4⟩ := h.form
 have few := hM.few
 refine Ks E.c1 ?_; dsimp only [C.c1]; refine Yy ?_
 refine Sg ?_
 intro wa b1 hb1 hea hc1
 have q1 := lH hc1
 refine Sg ?_
 intro wb b2 hb2 heb hc2
 have q2 := lH hc2
 replace hc1 := heb.obj hc1
 refine Sg ?_
 intro wc bx hbx hec hcx
 have qx := lH hcx
 replace hc1 := hec.obj hc1
 replace hc2 := hec.obj hc2
 refine Sg ?_
 intro w1 bs hbs hed hcs
 have qs := lH hcs
 replace hc1 := hed.obj hc1
 replace hc2 := hed.obj hc2
 replace hcx := hed.obj hcx
 have y1 := hea.size
 have y2 := heb.size
 have y3 := hec.size
 have y4 := hed.size
 have e1 := ((hea.trans heb).trans hec).trans hed
 clear hea heb hec hed
 have hne : bx ≠ bs := by omega
 have hlo : bx < w1.heap.size ∧ bs < w1.heap.size := ⟨by omega, by omega⟩
 have s0 : LSt w1 bx bs (Abs.LS.of [] [] [] []) w1 := ⟨Mod.refl _ _, fun _ => (none, 0, 0), (none, 0, 0), hcx, ⟨fun i hi => by
   have e : (Abs.LS.of [] [] [] []).rows i = [] := by unfold Abs.LS.rows; (repeat' split) <;> rfl
   rw [e]; exact OwR.nil _ _ _ _ _, fun i j k _ _ _ e => by cases e⟩, hcs, OwR.nil _ _ _ _ _⟩
 have hx1 : ∀ {s W}, LSt w1 bx bs s W → W.heap[b1]? = w1.heap[b1]? := fun h => h.mod.block _ (by omega) (by omega)
 have hx2 : ∀ {s W}, LSt w1 bx bs s W → W.heap[b2]? = w1.heap[b2]? := fun h => h.mod.block _ (by omega) (by omega)
 have hE : ∀ {s W}, LSt w1 bx bs s W → Ext w W := fun h => h.mod.ext e1 fun i hi e => by omega
 rw [hc1] at hx1
 rw [hc2] at hx2
 refine Sg ?_
 refine K.forG 24 m.vars.length [1, 2, 4, 5, 6, 22, 23] (fun _ : Unit => []) () (fun k _ W => LSt w1 bx bs (Abs.LS.of (Abs.starts 0 ((Abs.vT m).take k)) [] [] (Abs.cellsOf 1 ((Abs.vT m).take k) 0)) W) hZq hZq (by simpa [Abs.starts, Abs.cellsOf] using s0) ?_
 clear s0 hcx hcs hc1 hc2
 rintro k _ S w2 hk hs
 have hc1 := hx1 hs
 have E2 := hE hs
 refine Sg ?_
 apply K.cond <;> intro g1
 ·have hk' : k < m.vars.length := by omega
  obtain ⟨a, rfl⟩ := h1.addr (by omega)
  have hcv := ((h1.at k hk').cells).ext E2
  have hok := hM.var _ (List.getElem_mem hk')
  have hsc := Abs.var_scalar hok few.1
  refine Sg ?_
  intro wn b8 hb8 hen hcn
  refine Sg ?_
  intro w3 hw3 hc3
  have he3 : Ext w2 w3 := hw3.ext hen hb8
  replace hc3 : w3.heap[b8]? = some (.cells m.vars[k].enc.toArray T.e) := hc3
  replace hc1 := he3.obj hc1
  clear hw3 hen hcn hcv
  have E3 := E2.trans he3
  refine Sg ?_
  refine K.call (cells_r m.vars[k] _ m.scalars w3 (h0.ext E3)) ?_
  rintro _ w4 ⟨rfl, he4⟩
  have hcl := Abs.cells_le m.vars[k] m.scalars
  have E4 := E3.trans he4
  have hc1' := he4.obj hc1
  have hc3' := he4.obj hc3
  refine Sg ?_
  refine K.forG 33 (Abs.cells m.vars[k] m.scalars).toNat [1, 2, 4, 5, 6, 7, 8, 22, 23, 24, 32] (fun v : SlP => [(9, .slice v.1 v.2.1 v.2.2)]) (none, 0, 0) (fun j v W => Ext w4 W ∧ OwR Abs.Bd.enc T.k 3 w4.heap.size W (.slice v.1 v.2.1 v.2.2) (List.replicate j (Abs.bdOf m.vars[k].scalar m.vars[k].lo m.vars[k].hi m.scalars))) hZq hZq ⟨Ext.refl _, OwR.nil _ _ _ _ _⟩ ?_
  clear hc1 hc3
  rintro j v S w5 hj ⟨he5, ho5⟩
  have hc1 := he5.obj hc1'
  have hc3 := he5.obj hc3'
  refine Sg ?_
  apply K.cond <;> intro g2
  ·have hj' : j < (Abs.cells m.vars[k] m.scalars).toNat := by omega
   refine Sg ?_
   refine K.call (lof_r m.vars[k] _ m.scalars w5 (h0.ext (E4.trans he5)) (by unfold Abs.inI; omega)) ?_
   rintro _ w6 ⟨rfl, he6⟩
   have hone := Abs.bd_one (Abs.bdOf m.vars[k].scalar m.vars[k].lo m.vars[k].hi m.scalars)
   refine Sg ?_
   intro w7 b40 hb40 he7 hc7
   replace hc7 : w7.heap[b40]? = some (.cells (Abs.bdOf m.vars[k].scalar m.vars[k].lo m.vars[k].hi m.scalars).enc.toArray T.k) := hc7
   have ho7 := ho5.ext (he6.trans he7)
   have he07 := (he5.trans he6).trans he7
   have hl : (List.replicate j (Abs.bdOf m.vars[k].scalar m.vars[k].lo m.vars[k].hi m.scalars)).length = j := List.length_replicate
   refine K.app1 (y := Abs.bdOf m.vars[k].scalar m.vars[k].lo m.vars[k].hi m.scalars) ho7 hc7 rfl (fun _ => rfl) Abs.bd_one (by rw [hl]; omega) (by rw [hl]; unfold maxLen; omega) he07.size fun oa n c w8 ho8 hg8 => ?_
   refine Sg ?_
   exact ⟨hj', Tr, (oa, n, c), hZq, ho7.extG he07 hg8 (Nat.le_refl _), by rw [List.replicate_succ']; exact ho8⟩
  ·have hjj : j = (Abs.cells m.vars[k] m.scalars).toNat := by omega
   have hs5 := hs.ext ((he3.trans he4).trans he5)
   replace ho5 : OwR Abs.Bd.enc T.k 3 w4.heap.size w5 (.slice v.1 v.2.1 v.2.2) (Abs.varBds m.scalars m.vars[k]) := by rw [hjj] at ho5; exact ho5
   have hcn := Abs.cellsOf_len 1 ((Abs.vT m).take k) 0
   have htk := Abs.total_vars_le m hM k
   refine Sg ?_
   intro w6 he6
   refine K.wide (call_reg (n := 43) (x := 7) (y := 9) (off := 0) (so := 1) (by decide) (by decide) (by decide) (by decide) hne hlo (by simp [uA]) (by simp [uA]) (by simp [uA]; rfl) (by simp [uA]) (hs5.ext he6) (ho5.ext he6) (by rw [hcn, Abs.varBds_len]; omega) ⟨by rw [Abs.starts_len, List.length_take]; omega, by simp, by simp⟩ fun S' w7 hf h7 k7 => ?_)
   have h24 : S' 24 = .int .i64 k := by rw [hf 24 (by decide)]; simp [uA]
   refine Sg ?_
   rw [h24]
   refine Sg ?_
   refine ⟨hk', Tr, (), trivial, ?_⟩
   have hv : k < (Abs.vT m).length := by simpa [Abs.vT] using hk'
   have e : (Abs.vT m)[k] = Abs.varBds m.scalars m.vars[k] := by simp [Abs.vT]
   rw [List.take_succ_eq_append_getElem hv, e, Abs.starts_snoc, Abs.cellsOf_snoc]
   have e2 : (0 + ((Abs.vT m).take k).length : Nat) = k := by rw [List.length_take]; omega
   rw [e2, Nat.zero_add, ← hcn]
   exact h7
 have hkv : m.vars.length ≤ k := by omega
 rw [List.take_of_length_le (by simpa [Abs.vT] using hkv)] at hs
 have tv := Abs.total_vars_le m hM m.vars.length
 rw [List.take_of_length_le (by simp [Abs.vT])] at tv
 refine Sg ?_
 refine K.forG 56 m.chans.length [1, 2, 4, 5, 6, 54, 55] (fun _ : Unit => []) () (fun k _ W => LSt w1 bx bs (Abs.LS.of (Abs.starts 0 (Abs.vT m)) (Abs.starts (Abs.total (Abs.vT m)) ((Abs.cT m).take k)) [] (Abs.cellsOf 1 (Abs.vT m) 0 ++ Abs.cellsOf 2 ((Abs.cT m).take k) 0)) W) hZq hZq (by simpa [Abs.starts, Abs.cellsOf] using hs) ?_
 clear hs hc1 E2
 rintro k _ S w2 hk hs
 have hc1 := hx1 hs
 have E2 := hE hs
 refine Sg ?_
 apply K.cond <;> intro g2
 ·have hk' : k < m.chans.length := by omega
  obtain ⟨a, rfl⟩ := h2.addr (by omega)
  have hcv := ((h2.at k hk').cells).ext E2
  have hok := hM.chan _ (List.getElem_mem hk')
  have hsc := Abs.chan_scalar hok few.1
  have hcap := hok.cap
  refine Sg ?_
  intro wn b11 hb11 hen hcn
  refine Sg ?_
  intro w3 hw3 hc3
  have he3 : Ext w2 w3 := hw3.ext hen hb11
  replace hc3 : w3.heap[b11]? = some (.cells m.chans[k].enc.toArray T.o) := hc3
  replace hc1 := he3.obj hc1
  clear hw3 hen hcn hcv
  have hc1'' := hc1
  have hc3'' := hc3
  have E3 := E2.trans he3
  refine Sg ?_
  intro w4 b64 hb64 he4 hc64
  replace hc64 : w4.heap[b64]? = some (.cells ([(⟨0, m.chans[k].cap, 0⟩ : Abs.Bd)].flatMap Abs.Bd.enc).toArray T.k) := hc64
  have ho4 : OwR Abs.Bd.enc T.k 3 w3.heap.size w4 (.slice (some ⟨b64, 0, none⟩) 1 1) [(⟨0, m.chans[k].cap, 0⟩ : Abs.Bd)] := OwR.blkN _ hc64 hb64 rfl (fun _ => rfl) rfl (by simp [maxLen])
  replace hc1 := he4.obj hc1
  replace hc3 := he4.obj hc3
  have E4 := E3.trans he4
  have hc64l := hc64
  clear hc64
  refine Sg ?_
  refine K.call (lof_r ⟨⟨#[]⟩, m.chans[k].scalar, 0, min m.chans[k].lo 0, max m.chans[k].hi 0, 0⟩ _ m.scalars w4 (h0.ext E4) (by unfold Abs.inI; simp only; omega)) ?_
  rintro _ w5 ⟨rfl, he5⟩
  have hone := Abs.bd_one (Abs.bdOf m.chans[k].scalar (min m.chans[k].lo 0) (max m.chans[k].hi 0) m.scalars)
  refine Sg ?_
  intro w6 b13 hb13 he6 hc13
  replace hc13 : w6.heap[b13]? = some (.cells (Abs.chanBd m.scalars m.chans[k]).enc.toArray T.k) := hc13
  replace hc1 := (he5.trans he6).obj hc1
  replace hc3 := (he5.trans he6).obj hc3
  have ho6 := ho4.ext (he5.trans he6)
  have he36 := (he4.trans he5).trans he6
  clear ho4
  refine Sg ?_
  have hb1364 : b64 < b13 := by have := lH hc64l; have := he5.size; omega
  refine K.forG 79 m.chans[k].cap.toNat [1, 2, 4, 5, 6, 10, 11, 13, 54, 55, 56, 78] (fun v : SlP => [(12, .slice v.1 v.2.1 v.2.2)]) (some ⟨b64, 0, none⟩, 1, 1) (fun j v W => Ext w3 W ∧ W.heap[b13]? = w6.heap[b13]? ∧ OwR Abs.Bd.enc T.k 3 w3.heap.size W (.slice v.1 v.2.1 v.2.2) (⟨0, m.chans[k].cap, 0⟩ :: List.replicate j (Abs.chanBd m.scalars m.chans[k])) ∧ (Value.slice v.1 v.2.1 v.2.2).ownBlock ≠ some b13) hZq hZq ⟨he36, rfl, ho6, by simp [Value.ownBlock]; omega⟩ ?_
  rw [hc13]
  have z13 := lH hc13
  clear hc1 hc3 hc13 ho6 hc64l
  rintro j v S w7 hj ⟨he37, hc13, ho7, hno⟩
  have hc1 := he37.obj hc1''
  have hc3 := he37.obj hc3''
  refine Sg ?_
  apply K.cond <;> intro g3
  ·have hj' : j < m.chans[k].cap.toNat := by omega
   have hone := Abs.bd_one (Abs.chanBd m.scalars m.chans[k])
   refine Sg ?_
   intro w8 b83 hb83 he8 hc83
   replace hc83 : w8.heap[b83]? = some (.cells (Abs.chanBd m.scalars m.chans[k]).enc.toArray T.k) := hc83
   have ho8 := ho7.ext he8
   have hl : ((⟨0, m.chans[k].cap, 0⟩ : Abs.Bd) :: List.replicate j (Abs.chanBd m.scalars m.chans[k])).length = j + 1 := by simp
   have he38 := he37.trans he8
   have z138 := lH (he8.obj hc13)
   refine K.app1h (y := Abs.chanBd m.scalars m.chans[k]) ho8 hc83 rfl (fun _ => rfl) Abs.bd_one (by rw [hl]; omega) (by rw [hl]; unfold maxLen; omega) he38.size fun oa n c w9 ho9 hg9 hat => ?_
   have hm9 : w9.heap[b13]? = _ := (Mod.grown (A := fun i => (Value.slice v.1 v.2.1 v.2.2).ownBlock = some i) hg9 fun k hk => hk).obj hno (he8.obj hc13)
   refine Sg ?_
   refine ⟨hj', Tr, (oa, n, c), hZq, ho8.extG he38 hg9 (Nat.le_refl _), hm9, by rw [List.replicate_succ']; exact ho9, fun e => ?_⟩
   rcases hat with a | a
   ·exact hno (a.symm.trans e)
   ·rw [a] at e; injection e with e; omega
  ·have hjj : j = m.chans[k].cap.toNat := by omega
   have hs7 := hs.ext (he3.trans he37)
   replace ho7 : OwR Abs.Bd.enc T.k 3 w3.heap.size w7 (.slice v.1 v.2.1 v.2.2) (Abs.chanBds m.scalars m.chans[k]) := by rw [hjj] at ho7; exact ho7
   have hcn := Abs.cellsOf_len 1 (Abs.vT m) 0
   have hcn2 := Abs.cellsOf_len 2 ((Abs.cT m).take k) 0
   have hlen : (Abs.cellsOf 1 (Abs.vT m) 0 ++ Abs.cellsOf 2 ((Abs.cT m).take k) 0).length = Abs.total (Abs.vT m) + Abs.total ((Abs.cT m).take k) := by rw [List.length_append, hcn, hcn2]
   have htk := Abs.total_chans_le m hM k
   refine Sg ?_
   intro w8 he8
   refine K.wide (call_reg (n := 86) (x := 10) (y := 12) (off := 1) (so := 2) (by decide) (by decide) (by decide) (by decide) hne hlo (by simp [uA]) (by simp [uA]) (by simp [uA]; rfl) (by simp [uA]) (hs7.ext he8) (ho7.ext he8) (by rw [hlen, Abs.chanBds_len]; omega) ⟨by rw [Abs.starts_len]; simp [Abs.vT]; omega, by rw [Abs.starts_len, List.length_take]; omega, by simp⟩ fun S' w7 hf h7 k7 => ?_)
   have h24 : S' 56 = .int .i64 k := by rw [hf 56 (by decide)]; simp [uA]
   refine Sg ?_
   rw [h24]
   refine Sg ?_
   refine ⟨hk', Tr, (), trivial, ?_⟩
   have hv : k < (Abs.cT m).length := by simpa [Abs.cT] using hk'
   have e : (Abs.cT m)[k] = Abs.chanBds m.scalars m.chans[k] := by simp [Abs.cT]
   rw [List.take_succ_eq_append_getElem hv, e, Abs.starts_snoc, Abs.cellsOf_snoc]
   have e2 : (0 + ((Abs.cT m).take k).length : Nat) = k := by rw [List.length_take]; omega
   rw [e2, ← List.append_assoc, ← hlen]
   exact h7
 have hkc : m.chans.length ≤ k := by omega
 rw [List.take_of_length_le (by simpa [Abs.cT] using hkc)] at hs
 have tc := Abs.total_chans_le m hM m.chans.length
 rw [List.take_of_length_le (by simp [Abs.cT])] at tc
 refine Sg ?_
 refine K.call (insts_r _ m w2 (h.ext E2) hg) ?_
 rintro vi wi ⟨hvi, hei⟩
 obtain ⟨oi, ci, rfl, _⟩ := hvi.form
 have hsi := hs.ext hei
 have hil : (Abs.insts m).length ≤ 30 := by have := Abs.insts_len m; have := hM.procs; omega
 refine Sg ?_
 refine K.forG 99 (Abs.insts m).length [1, 2, 4, 5, 6, 97, 98] (fun _ : Unit => []) () (fun k _ W => LSt w1 bx bs (Abs.LS.of (Abs.starts 0 (Abs.vT m)) (Abs.starts (Abs.total (Abs.vT m)) (Abs.cT m)) (Abs.starts (Abs.total (Abs.vT m) + Abs.total (Abs.cT m)) ((Abs.iT m).take k)) (Abs.cellsOf 1 (Abs.vT m) 0 ++ Abs.cellsOf 2 (Abs.cT m) 0 ++ Abs.cellsOf 3 ((Abs.iT m).take k) 0)) W ∧ Kt ltys wi W) hZq hZq ⟨by simpa [Abs.starts, Abs.cellsOf] using hsi, Kt.refl⟩ ?_
 clear hs hsi hc1 E2
 rintro k _ S w2 hk ⟨hs, kt2⟩
 have hc1 := hx1 hs
 have E2 := hE hs
 have hin : InstsAt w2 (.slice oi (Abs.insts m).length ci) (Abs.insts m) := OwR.slF (enc := Abs.Inst.enc) (fun _ => rfl) (hvi.kt kt2 (by decide))
 refine Sg ?_
 apply K.cond <;> intro g3
 ·have hk' : k < (Abs.insts m).length := by omega
  obtain ⟨ai, rfl⟩ := hin.addr (by omega)
  have hof := Abs.insts_of _ (List.getElem_mem hk')
  obtain ⟨p, hp, hpe, hbe⟩ := Abs.instBds_at hof
  have hok := hM.proc _ (List.getElem_mem hp)
  have hlocs := hok.locs
  have hfew := hok.few.1
  refine Sg ?_
  intro wn b15 hb15 hen hcn
  refine Sg ?_
  intro w3 hw3 hc3
  have he3 : Ext w2 w3 := hw3.ext hen hb15
  replace hc3 : w3.heap[b15]? = some (.cells #[.int .i64 p, .int .i64 (Abs.insts m)[k].elem] T.m) := by rw [← hpe]; exact hc3
  replace hc1 := he3.obj hc1
  clear hw3 hen hcn hin
  have E3 := E2.trans he3
  obtain ⟨a, rfl⟩ := h3.addr (by omega)
  obtain ⟨hsn, vv, vc, hpc, hpv, hpcm⟩ := h3.at p hp
  obtain ⟨ov, cv, rfl, lv⟩ := hpv.form
  obtain ⟨oc, cc, rfl, lc⟩ := hpcm.form
  replace hpc := hpc.ext E3
  refine Sg ?_
  intro w4 b16 hb16 he4 hc16
  replace hc16 : w4.heap[b16]? = some (.cells (m.procs[p].enc (.slice ov m.procs[p].vars.length cv) (.slice oc m.procs[p].cmds.length cc)).toArray T.h) := hc16
  unfold Abs.Proc.enc at hc16
  have E4 := E3.trans he4
  replace hc1 := he4.obj hc1
  clear hpc
  refine Sg ?_
  intro w5 b114 hb114 he5 hc114
  replace hc114 : w5.heap[b114]? = some (.cells ([(⟨0, m.procs[p].locs - 1, 0⟩ : Abs.Bd)].flatMap Abs.Bd.enc).toArray T.k) := hc114
  have ho5 : OwR Abs.Bd.enc T.k 3 w4.heap.size w5 (.slice (some ⟨b114, 0, none⟩) 1 1) [(⟨0, m.procs[p].locs - 1, 0⟩ : Abs.Bd)] := OwR.blkN _ hc114 hb114 rfl (fun _ => rfl) rfl (by simp [maxLen])
  have hc1'' := hc1
  have hc16'' := hc16
  replace hc16 := he5.obj hc16
  clear hc114 hc1
  refine Sg ?_
  refine K.forG 118 m.procs[p].vars.length [1, 2, 4, 5, 6, 14, 16, 97, 98, 99, 116, 117] (fun v : SlP => [(17, .slice v.1 v.2.1 v.2.2)]) (some ⟨b114, 0, none⟩, 1, 1) (fun j v W => Ext w4 W ∧ OwR Abs.Bd.enc T.k 3 w4.heap.size W (.slice v.1 v.2.1 v.2.2) (⟨0, m.procs[p].locs - 1, 0⟩ :: (m.procs[p].vars.take j).map fun v => Abs.bdOf v.scalar v.lo v.hi m.scalars)) hZq hZq ⟨he5, by simpa using ho5⟩ ?_
  clear hc16 ho5
  rintro j v S w6 hj ⟨he46, ho6⟩
  have hc1 := he46.obj hc1''
  have hc16 := he46.obj hc16''
  have E6 := E4.trans he46
  refine Sg ?_
  apply K.cond <;> intro g4
  ·have hj' : j < m.procs[p].vars.length := by omega
   obtain ⟨aj, rfl⟩ := hpv.addr (by omega)
   have hcv := ((hpv.at j hj').cells).ext E6
   have hvok := hok.var _ (List.getElem_mem hj')
   have hsc := Abs.var_scalar hvok few.1
   refine Sg ?_
   intro w7 b19 hb19 he7 hc19
   replace hc19 : w7.heap[b19]? = some (.cells m.procs[p].vars[j].enc.toArray T.e) := hc19
   replace hc1 := he7.obj hc1
   have E7 := E6.trans he7
   clear hcv
   refine Sg ?_
   refine K.call (lof_r m.procs[p].vars[j] _ m.scalars w7 (h0.ext E7) (by unfold Abs.inI; omega)) ?_
   rintro _ w8 ⟨rfl, he8⟩
   have hone := Abs.bd_one (Abs.bdOf m.procs[p].vars[j].scalar m.procs[p].vars[j].lo m.procs[p].vars[j].hi m.scalars)
   refine Sg ?_
   intro w9 b127 hb127 he9 hc127
   replace hc127 : w9.heap[b127]? = some (.cells (Abs.bdOf m.procs[p].vars[j].scalar m.procs[p].vars[j].lo m.procs[p].vars[j].hi m.scalars).enc.toArray T.k) := hc127
   have ho9 := ho6.ext ((he7.trans he8).trans he9)
   have he49 := ((he46.trans he7).trans he8).trans he9
   have hl : ((⟨0, m.procs[p].locs - 1, 0⟩ : Abs.Bd) :: (m.procs[p].vars.take j).map fun v => Abs.bdOf v.scalar v.lo v.hi m.scalars).length = j + 1 := by simp; omega
   refine K.app1 (y := Abs.bdOf m.procs[p].vars[j].scalar m.procs[p].vars[j].lo m.procs[p].vars[j].hi m.scalars) ho9 hc127 rfl (fun _ => rfl) Abs.bd_one (by rw [hl]; omega) (by rw [hl]; unfold maxLen; omega) he49.size fun oa n c w10 ho10 hg10 => ?_
   refine Sg ?_
   exact ⟨hj', Tr, (oa, n, c), hZq, ho9.extG he49 hg10 (Nat.le_refl _), by rw [List.take_succ_eq_append_getElem hj', List.map_append]; exact ho10⟩
  ·have hs6 := hs.ext ((he3.trans he4).trans he46)
   have kt6 : Kt ltys w2 w6 := Kt.ext ((he3.trans he4).trans he46)
   replace ho6 : OwR Abs.Bd.enc T.k 3 w4.heap.size w6 (.slice v.1 v.2.1 v.2.2) (Abs.instBds m (Abs.insts m)[k]) := by rw [List.take_of_length_le (by omega)] at ho6; rw [hbe]; exact ho6
   have hcn := Abs.cellsOf_len 1 (Abs.vT m) 0
   have hcn2 := Abs.cellsOf_len 2 (Abs.cT m) 0
   have hcn3 := Abs.cellsOf_len 3 ((Abs.iT m).take k) 0
   have hlen : (Abs.cellsOf 1 (Abs.vT m) 0 ++ Abs.cellsOf 2 (Abs.cT m) 0 ++ Abs.cellsOf 3 ((Abs.iT m).take k) 0).length = Abs.total (Abs.vT m) + Abs.total (Abs.cT m) + Abs.total ((Abs.iT m).take k) := by rw [List.length_append, List.length_append, hcn, hcn2, hcn3]
   have htk := Abs.total_insts_le m hM k
   have hbl : (Abs.instBds m (Abs.insts m)[k]).length ≤ 10 := by rw [hbe, Abs.procBds_len]; omega
   refine Sg ?_
   intro w8 he8
   refine K.wide (call_reg (n := 130) (x := 14) (y := 17) (off := 2) (so := 3) (by decide) (by decide) (by decide) (by decide) hne hlo (by simp [uA]) (by simp [uA]) (by simp [uA]; rfl) (by simp [uA]) (hs6.ext he8) (ho6.ext he8) (by rw [hlen]; omega) ⟨by rw [Abs.starts_len]; simp [Abs.vT]; omega, by rw [Abs.starts_len]; simp [Abs.cT]; omega, by rw [Abs.starts_len, List.length_take]; omega⟩ fun S' w7 hf h7 k7 => ?_)
   have h24 : S' 99 = .int .i64 k := by rw [hf 99 (by decide)]; simp [uA]
   refine Sg ?_
   rw [h24]
   refine Sg ?_
   refine ⟨hk', Tr, (), trivial, ?_, ((kt2.trans kt6).trans (Kt.ext he8)).trans k7⟩
   have hv : k < (Abs.iT m).length := by simpa [Abs.iT] using hk'
   have e : (Abs.iT m)[k] = Abs.instBds m (Abs.insts m)[k] := by simp [Abs.iT]
   rw [List.take_succ_eq_append_getElem hv, e, Abs.starts_snoc, Abs.cellsOf_snoc]
   have e2 : (0 + ((Abs.iT m).take k).length : Nat) = k := by rw [List.length_take]; omega
   rw [e2, ← List.append_assoc, ← hlen]
   exact h7
 have hki : (Abs.insts m).length ≤ k := by omega
 rw [List.take_of_length_le (by simpa [Abs.iT] using hki)] at hs
 have hc2 := hx2 hs
 obtain ⟨vs, u, g1, g2, g3, g4⟩ := hs.ex
 have fin : ∀ {w3 W}, Ext w2 w3 → Wr b2 w3 W → (∃ xs u', Value.tuple #[.agg #[slq (vs 0), slq (vs 1), slq (vs 2), .int .i64 (Abs.lC m).length, slq (vs 3), slq (vs 4)], slq u] = .tuple #[.agg xs.toArray, u'] ∧ New w (fun w => Abs.LayIs w xs (Abs.layout m)) W ∧ New w (fun w => SlR 4 (Flat Abs.Cell.slot) w u' (Abs.lC m)) W) ∧ Ext w W := by
  intro w3 W he hw
  have hb2 := he.obj hc2
  have g2' := (g2.ext he).mod (hw.mod (A := fun i => i = b2) rfl) fun i k hi hk e => by subst e; exact (g2.ext he).not hb2 (by decide) i hi hk
  have g4' := (g4.ext he).mod (hw.mod (A := fun i => i = b2) rfl) fun k hk e => by
   subst e
   obtain ⟨cur, hcur⟩ := (g4.ext he).blk k hk
   rw [hb2] at hcur; injection hcur with hcur; injection hcur with _ e; exact absurd e (by decide)
  have hz : w.heap.size ≤ w1.heap.size := by omega
  have nr := fun (i : Nat) (hi : i < 5) => OwR.new (e := T.a) (enc := encN) (fun _ => rfl) (OwR.low hz (g2'.own i hi))
  refine ⟨⟨[_, _, _, _, _, _], _, rfl, fun W2 mm => ⟨⟨_, _, _, _, _, rfl, nr 0 (by decide) W2 mm, nr 1 (by decide) W2 mm, nr 2 (by decide) W2 mm, nr 3 (by decide) W2 mm, nr 4 (by decide) W2 mm⟩⟩, OwR.new (e := T.s) (enc := Abs.Cell.slot) (fun _ => rfl) (OwR.low hz g4')⟩, hw.ext (E2.trans he) (by omega)⟩
 replace g1 : w2.heap[bx]? = some (.cells #[slq (vs 0), slq (vs 1), slq (vs 2), .int .i64 (Abs.lC m).length, slq (vs 3), slq (vs 4)] T.j) := g1
 refine Sg ?_
 intro w3 he3
 replace g1 := he3.obj g1
 replace g3 := he3.obj g3
 replace hc2 := he3.obj hc2
 dsimp only [slq] at g1 g3
 refine Sg ?_
 refine ⟨?_, ?_⟩
 ·refine Sg ?_
  refine ⟨?_, ?_⟩
  ·refine Sg ?_
   intro w4 hw4 hc4
   refine Sg ?_
   exact fin he3 hw4
  ·refine Sg ?_
   intro w4 hw4 hc4
   replace g3 := hw4.obj g3 (by omega)
   refine Sg ?_
   exact fin he3 hw4
 ·refine Sg ?_
  intro w4 hw4 hc4
  refine Sg ?_
  exact fin he3 hw4
end Go.Proofs.YtglnobabdcoknaaGreatDoor
end
section
namespace Abs
theorem lay_ok {m : Model} (h : (check m).why = 0) : lay m = layout m := by unfold lay; rw [if_pos h]
theorem lay_no {m : Model} (h : ¬ (check m).why = 0) : lay m = noLayout := by unfold lay; rw [if_neg h]
theorem layCells_le64 {m : Model} (h : MayBe m) : (lC m).length ≤ 64 := by
 have := layCells_pieces h
 have := h.cells
 omega
open Go Go.RowKit Lite in
theorem LayIs.zero (w : World) : LayIs w [.slice none 0 0, .slice none 0 0, .slice none 0 0, .int .i64 0, .slice none 0 0, .slice none 0 0] noLayout := ⟨_, _, _, _, _, rfl, SlR.nil, SlR.nil, SlR.nil, SlR.nil, SlR.nil⟩
end Abs
namespace Go.Proofs.YtglnobabdcoknaaGreatDoor
open Go Go.RowKit Lite
theorem layOf_r (cs : List Value) (m : Abs.Model) (w : World) (h : Abs.MI w cs m) (hg : m.good) (ho : OwnIs w) :
  Ret Tryz.prog F.ci #[.agg cs.toArray] w fun v w' => (∃ xs, v = .agg xs.toArray ∧ New w (fun w => Abs.LayIs w xs (Abs.lay m)) w') ∧ Ext w w' := by
 have hM := h
 obtain ⟨o0, c0, o1, c1, o2, c2, o3, c3, o4, c4, rfl, _⟩ := h.form
 refine Ks E.ci ?_; dsimp only [C.ci]; refine Yy ?_
 refine Sg ?_
 intro w1 b1 hb1 he1 hc1
 refine Sg ?_
 intro w2 b2 hb2 he2 hc2
 have z1 := lH hc1
 replace hc1 := he2.obj hc1
 have z2 := lH hc2
 have z3 := he1.size
 have e2 := he1.trans he2
 refine Sg ?_
 refine K.call (may_r _ m w2 (hM.ext e2) hg (ho.ext e2)) ?_
 rintro _ w3 ⟨rfl, he3⟩
 replace hc1 := he3.obj hc1
 replace hc2 := he3.obj hc2
 have e3 := e2.trans he3
 by_cases hk : (Abs.check m).why = 0
 ·rw [decide_eq_true hk]
  refine Sg ?_
  refine K.call (layout_all_r _ m w3 (hM.ext e3) hg (Abs.maybe_of hk)) ?_
  rintro _ w4 ⟨⟨xs, u, rfl, hL, hs⟩, he4⟩
  obtain ⟨x0, d0, x1, d1, x2, d2, x3, d3, x4, d4, rfl, _⟩ := hL.here.form
  obtain ⟨ou, cu, rfl, _⟩ := hs.here.form
  replace hc2 := he4.obj hc2
  have e4 := e3.trans he4
  have z4 := he3.size
  refine Sg ?_
  intro w5 b3 hb3 he5 hc3
  replace hc2 := he5.obj hc2
  refine Sg ?_
  intro w6 hw6 hc6
  have hn := (hL.ext he5 he4.size).wr hw6 (by omega)
  refine Sg ?_
  exact ⟨⟨_, rfl, by rw [Abs.lay_ok hk]; exact hn.low e3.size⟩, hw6.ext (e4.trans he5) (by omega)⟩
 ·rw [decide_eq_false hk]
  refine Sg ?_
  intro w4 hw4 hc4
  refine Sg ?_
  exact ⟨⟨[_, _, _, _, _, _], rfl, by rw [Abs.lay_no hk]; exact Stab.of fun _ => Abs.LayIs.zero _⟩, hw4.ext e3 (by omega)⟩
end Go.Proofs.YtglnobabdcoknaaGreatDoor
end
section
namespace Abs
theorem chan_size {c : Chan} {s : List Scalar} (h : ChanOk c s) (h0 : c.scalar ≠ 0) : ∃ i, ∃ hi : i < s.length, c.scalar = (i : Int) + 1 ∧ s[i].size = size c.scalar s := by
 have e := h.sc.resolve_left h0
 unfold size at e ⊢
 split at e
 ·rename_i x hx
  obtain ⟨hlt, hx'⟩ := List.getElem?_eq_some_iff.1 hx
  split at e
  ·rename_i h1
   refine ⟨(c.scalar - 1).toNat, hlt, by omega, ?_⟩
   rw [hx', if_pos h1]
  ·exact absurd rfl e
 ·exact absurd rfl e
theorem laid_snoc (so wh : Int) (l : List Bd) (b : Bd) : laidFrom so wh (l ++ [b]) 0 = laidFrom so wh l 0 ++ [⟨so, wh, (l.length : Nat), b.lo, b.hi, b.kind⟩] := by
 rw [laidFrom_snoc, Nat.zero_add]
end Abs
namespace Go.Proofs.YtglnobabdcoknaaGreatDoor
open Go Go.RowKit Lite
theorem ktG {α : Type} {enc : α → List Value} {e : TypeId} {sz base : Nat} {w w' : World} {v : Value} {xs : List α} (ho : OwR enc e sz base w v xs) (hg : w.grownBy w' v.ownBlock) : Kt [e] w w' := Kt.mod (A := fun k => v.ownBlock = some k) (Mod.grown hg fun k hk => hk) fun k c t hc a => by
 obtain ⟨cur, h⟩ := ho.blk k a
 rw [hc] at h; injection h with h; injection h with _ h; rw [h]; simp
theorem refLayCells_r (cs : List Value) (m : Abs.Model) (w : World) (h : Abs.MI w cs m) (hg : m.good) (hM : Abs.MayBe m) :
  Ret Tryz.prog F.lr17_Cells #[.agg cs.toArray] w fun v w' => OwR Abs.Cell.enc T.lr17_Cell 6 w.heap.size w' v (Abs.lC m) ∧ Ext w w' := by
 obtain ⟨o0, c0, o1, c1, o2, c2, o3, c3, o4, c4, rfl, h0, h1, h2, h3, h4, l0, l1, l2, l3, l4⟩ := h.form
 have few := hM.few
 refine Ks E.lr17_Cells ?_; dsimp only [C.lr17_Cells]; refine Yy ?_
 refine Sg ?_
 intro w1 b1 hb1 he1 hc1
 refine Sg ?_
 refine K.forG 4 m.vars.length [1] (fun v : SlP => [(3, .slice v.1 v.2.1 v.2.2)]) (none, 0, 0) (fun k v W => Ext w1 W ∧ OwR Abs.Cell.enc T.lr17_Cell 6 w1.heap.size W (.slice v.1 v.2.1 v.2.2) (Abs.cellsOf 1 ((Abs.vT m).take k) 0)) hZq hZq ⟨Ext.refl _, OwR.nil _ _ _ _ _⟩ ?_
 have hc1' := hc1
 clear hc1
 rintro k v S w2 hk ⟨he2, ho2⟩
 have hc1 := he2.obj hc1'
 have e2 := he1.trans he2
 refine Sg ?_
 apply K.cond <;> intro g1
 ·have hk' : k < m.vars.length := by omega
  obtain ⟨a, rfl⟩ := h1.addr (by omega)
  have hcv := ((h1.at k hk').cells).ext e2
  have hok := hM.var _ (List.getElem_mem hk')
  have hsc := Abs.var_scalar hok few.1
  have hv : k < (Abs.vT m).length := by simpa [Abs.vT] using hk'
  have htk := Abs.total_vars_le m hM (k + 1)
  rw [Abs.total_take hv] at htk
  have evk : (Abs.vT m)[k] = Abs.varBds m.scalars m.vars[k] := by simp [Abs.vT]
  rw [evk, Abs.varBds_len] at htk
  have hcl := Abs.cells_le m.vars[k] m.scalars
  refine Sg ?_
  refine K.qfn (.tuple #[.int .i64 (Abs.bounds m.vars[k] m.scalars).1, .int .i64 (Abs.bounds m.vars[k] m.scalars).2]) (fun w' e => refBounds_r m.vars[k] _ m.scalars w' (h0.ext (e2.trans e))) ?_
  refine Sg ?_
  intro w3 he3
  have ho3 := ho2.ext he3
  have hc3 := he3.obj hc1
  have he13 := he2.trans he3
  clear hc1 hcv
  refine Sg ?_
  refine K.forG 7 (Abs.cells m.vars[k] m.scalars).toNat [1, 4, 5, 6] (fun v : SlP => [(3, .slice v.1 v.2.1 v.2.2)]) v (fun j v W => Ext w1 W ∧ OwR Abs.Cell.enc T.lr17_Cell 6 w1.heap.size W (.slice v.1 v.2.1 v.2.2) (Abs.cellsOf 1 ((Abs.vT m).take k) 0 ++ Abs.laidFrom 1 k (List.replicate j (Abs.bdOf m.vars[k].scalar m.vars[k].lo m.vars[k].hi m.scalars)) 0)) hZq hZq ⟨he13, by simpa [Abs.laidFrom] using ho3⟩ ?_
  clear hc3 ho3 ho2 he2 he3 he13
  rintro j v S w4 hj ⟨he4, ho4⟩
  have hc1 := he4.obj hc1'
  have e4 := he1.trans he4
  have hcv := ((h1.at k hk').cells).ext e4
  refine Sg ?_
  refine K.qfn _ (fun w' e => refCells_r m.vars[k] _ m.scalars w' (h0.ext (e4.trans e))) ?_
  refine Sg ?_
  intro w5 he5
  replace hc1 := he5.obj hc1
  replace hcv := hcv.ext he5
  have ho5 := ho4.ext he5
  have he15 := he4.trans he5
  refine Sg ?_
  apply K.cond <;> intro g2
  ·have hj' : j < (Abs.cells m.vars[k] m.scalars).toNat := by omega
   refine Sg ?_
   refine K.call (refKindS_r m.vars[k].scalar w5 (by unfold Abs.inI; omega)) ?_
   rintro _ wA ⟨rfl, rfl⟩
   refine Sg ?_
   intro w6 b6 hb6 he6 hc6
   have ho6 := ho5.ext he6
   have he16 := he15.trans he6
   have hl : (Abs.cellsOf 1 ((Abs.vT m).take k) 0 ++ Abs.laidFrom 1 k (List.replicate j (Abs.bdOf m.vars[k].scalar m.vars[k].lo m.vars[k].hi m.scalars)) 0).length = Abs.total ((Abs.vT m).take k) + j := by
    rw [List.length_append, Abs.cellsOf_len, Abs.laidFrom_len, List.length_replicate]
   refine K.app1 (y := ⟨1, k, j, (Abs.bounds m.vars[k] m.scalars).1, (Abs.bounds m.vars[k] m.scalars).2, Abs.kindOf m.vars[k].scalar⟩) ho6 hc6 rfl (fun _ => rfl) Abs.cell_one (by rw [hl]; omega) (by rw [hl]; unfold maxLen; omega) he16.size fun oa n c w7 ho7 hg7 => ?_
   refine Sg ?_
   refine ⟨hj', Tr, (oa, n, c), hZq, ho6.extG he16 hg7 (Nat.le_refl _), ?_⟩
   rw [List.replicate_succ', Abs.laid_snoc, ← List.append_assoc, List.length_replicate, Abs.bdOf_eq]
   rw [Abs.bdOf_eq] at ho7
   exact ho7
  ·have hjj : j = (Abs.cells m.vars[k] m.scalars).toNat := by omega
   refine Sg ?_
   refine ⟨hk', Tr, v, hZq, he15, ?_⟩
   have e2 : (0 + ((Abs.vT m).take k).length : Nat) = k := by rw [List.length_take]; omega
   rw [List.take_succ_eq_append_getElem hv, evk, Abs.cellsOf_snoc, e2]
   rw [hjj] at ho5
   exact ho5
 have hkv : m.vars.length ≤ k := by omega
 rw [List.take_of_length_le (by simpa [Abs.vT] using hkv)] at ho2
 have tv := Abs.total_vars_le m hM m.vars.length
 rw [List.take_of_length_le (by simp [Abs.vT])] at tv
 refine Sg ?_
 refine K.forG 8 m.chans.length [1] (fun v : SlP => [(3, .slice v.1 v.2.1 v.2.2)]) v (fun k v W => Ext w1 W ∧ OwR Abs.Cell.enc T.lr17_Cell 6 w1.heap.size W (.slice v.1 v.2.1 v.2.2) (Abs.cellsOf 1 (Abs.vT m) 0 ++ Abs.cellsOf 2 ((Abs.cT m).take k) 0)) hZq hZq ⟨he2, by simpa [Abs.cellsOf] using ho2⟩ ?_
 clear hc1 ho2 he2 e2
 rintro k v S w2 hk ⟨he2, ho2⟩
 have hc1 := he2.obj hc1'
 have e2 := he1.trans he2
 refine Sg ?_
 apply K.cond <;> intro g2
 ·have hk' : k < m.chans.length := by omega
  obtain ⟨a, rfl⟩ := h2.addr (by omega)
  have hcv := ((h2.at k hk').cells).ext e2
  have hok := hM.chan _ (List.getElem_mem hk')
  have hsc := Abs.chan_scalar hok few.1
  have hcap := hok.cap
  have hv : k < (Abs.cT m).length := by simpa [Abs.cT] using hk'
  have htk := Abs.total_chans_le m hM (k + 1)
  rw [Abs.total_take hv] at htk
  have evk : (Abs.cT m)[k] = Abs.chanBds m.scalars m.chans[k] := by simp [Abs.cT]
  rw [evk, Abs.chanBds_len] at htk
  have hcnl : (Abs.cellsOf 1 (Abs.vT m) 0 ++ Abs.cellsOf 2 ((Abs.cT m).take k) 0).length = Abs.total (Abs.vT m) + Abs.total ((Abs.cT m).take k) := by rw [List.length_append, Abs.cellsOf_len, Abs.cellsOf_len]
  refine Sg ?_
  intro w3 b9 hb9 he3 hc9
  replace hc9 : w3.heap[b9]? = some (.cells m.chans[k].enc.toArray T.o) := hc9
  replace hc1 := he3.obj hc1
  have ho3 := ho2.ext he3
  clear hcv
  have he13 := he2.trans he3
  refine Sg ?_
  intro w4 b4 hb4 he4 hc4
  have ho4 := ho3.ext he4
  have he14 := he13.trans he4
  refine K.app1 (y := ⟨2, k, 0, 0, m.chans[k].cap, 0⟩) ho4 hc4 rfl (fun _ => rfl) Abs.cell_one (by rw [hcnl]; omega) (by rw [hcnl]; unfold maxLen; omega) he14.size fun oa n c w5 ho5 hg5 => ?_
  have hc1 := ho4.box hg5 (he4.obj hc1) (by decide)
  have hc9 := ho4.box hg5 (he4.obj hc9) (by decide)
  have he15 := ho4.extG he14 hg5 (Nat.le_refl _)
  have e5 := he1.trans he15
  have z95 := lH hc9
  clear ho2 ho3 hc4 hb4 he4 he3 hb9
  refine Su ?_
  simp -dsimp only [B9]
  refine Su ?_
  intro w6 he6
  replace hc1 := he6.obj hc1
  replace hc9 := he6.obj hc9
  have ho6 := ho5.ext he6
  have e6 := e5.trans he6
  have he16 := he15.trans he6
  refine K.cutG [1, 3, 8, 9] (fun _ : Unit => [(10, .int .i64 (Abs.chanBd m.scalars m.chans[k]).lo), (11, .int .i64 (Abs.chanBd m.scalars m.chans[k]).hi)]) (fun _ W => Ext w6 W) ?_ ?_
  ·refine Sg ?_
   apply K.cond <;> intro g3
   ·obtain ⟨i, hi, hsi, hss⟩ := Abs.chan_size hok (by omega)
    obtain ⟨a0, rfl⟩ := h0.addr (by omega)
    have hcs := ((h0.at i hi).cells).ext e6
    refine Sg ?_
    refine K.ian i (by omega) hi ?_
    refine Sg ?_
    intro w7 he7
    refine Sg ?_
    have e : Abs.chanBd m.scalars m.chans[k] = ⟨0, m.scalars[i].size, m.chans[k].scalar + 1⟩ := by unfold Abs.chanBd Abs.bdOf; rw [if_neg (by omega), hss]
    rw [e]
    exact ⟨(), hZq, he7⟩
   ·have h00 : m.chans[k].scalar = 0 := by omega
    refine Sg ?_
    have e : Abs.chanBd m.scalars m.chans[k] = ⟨min 0 m.chans[k].lo, max 0 m.chans[k].hi, 0⟩ := by unfold Abs.chanBd Abs.bdOf; rw [if_pos h00, Int.min_comm, Int.max_comm]
    rw [e]
    exact ⟨(), hZq, Ext.refl _⟩
  rintro _ S w7 he7
  replace hc1 := he7.obj hc1
  replace hc9 := he7.obj hc9
  have ho7 := ho6.ext he7
  have he17 := he16.trans he7
  have hkd : Abs.chanBd m.scalars m.chans[k] = ⟨(Abs.chanBd m.scalars m.chans[k]).lo, (Abs.chanBd m.scalars m.chans[k]).hi, Abs.kindOf m.chans[k].scalar⟩ := by
   unfold Abs.chanBd Abs.bdOf Abs.kindOf
   split <;> rfl
  have hx9 : ∀ {W : World}, W.heap[b9]? = w7.heap[b9]? → _ := fun e => e.trans hc9
  refine Sg ?_
  refine K.whG [1, 8, 9, 10, 11] (fun x : SlP × Nat => [(3, .slice x.1.1 x.1.2.1 x.1.2.2), (12, .int .i64 ((x.2 : Int) + 1))]) ((oa, n, c), 0) (fun x W => (Ext w1 W ∧ W.heap[b9]? = w7.heap[b9]? ∧ (x.2 : Int) ≤ m.chans[k].cap) ∧ OwR Abs.Cell.enc T.lr17_Cell 6 w1.heap.size W (.slice x.1.1 x.1.2.1 x.1.2.2) (Abs.cellsOf 1 (Abs.vT m) 0 ++ Abs.cellsOf 2 ((Abs.cT m).take k) 0 ++ Abs.laidFrom 2 k (⟨0, m.chans[k].cap, 0⟩ :: List.replicate x.2 (Abs.chanBd m.scalars m.chans[k])) 0)) (fun x => (m.chans[k].cap - x.2).toNat) hZq ⟨⟨he17, rfl, by simp only; omega⟩, by simpa [Abs.laidFrom] using ho7⟩ ?_
  clear hc1 hc9 ho7 ho6 ho5
  rintro ⟨v, j⟩ S w8 ⟨⟨he18, hb9, hj⟩, ho8⟩
  have hc1 := he18.obj hc1'
  have hc9 := hx9 hb9
  simp only at hj
  refine Sg ?_
  apply K.cond <;> intro g4
  ·refine Sg ?_
   refine K.call (refKindS_r m.chans[k].scalar w8 (by unfold Abs.inI; omega)) ?_
   rintro _ wA ⟨rfl, rfl⟩
   refine Sg ?_
   intro w9 b10 hb10 he9 hc10
   have ho9 := ho8.ext he9
   have he19 := he18.trans he9
   have hl : (Abs.cellsOf 1 (Abs.vT m) 0 ++ Abs.cellsOf 2 ((Abs.cT m).take k) 0 ++ Abs.laidFrom 2 k (⟨0, m.chans[k].cap, 0⟩ :: List.replicate j (Abs.chanBd m.scalars m.chans[k])) 0).length = Abs.total (Abs.vT m) + Abs.total ((Abs.cT m).take k) + (j + 1) := by
    rw [List.length_append, hcnl, Abs.laidFrom_len, List.length_cons, List.length_replicate]
   refine K.app1 (y := ⟨2, k, (j : Int) + 1, (Abs.chanBd m.scalars m.chans[k]).lo, (Abs.chanBd m.scalars m.chans[k]).hi, Abs.kindOf m.chans[k].scalar⟩) ho9 hc10 rfl (fun _ => rfl) Abs.cell_one (by rw [hl]; omega) (by rw [hl]; unfold maxLen; omega) he19.size fun oa n c w10 ho10 hg10 => ?_
   have hc9' := ho9.box hg10 (he9.obj hc9) (by decide)
   refine Sg ?_
   refine ⟨((oa, n, c), j + 1), hZq, ⟨⟨ho9.extG he19 hg10 (Nat.le_refl _), hc9'.trans (hx9 rfl).symm, by simp only; omega⟩, ?_⟩, by simp only; omega⟩
   rw [List.replicate_succ', ← List.cons_append, Abs.laid_snoc, ← List.append_assoc, List.length_cons, List.length_replicate]
   rw [hkd] at ho10 ⊢
   exact ho10
  ·refine Sg ?_
   refine ⟨hk', Tr, v, hZq, he18, ?_⟩
   have e2 : (0 + ((Abs.cT m).take k).length : Nat) = k := by rw [List.length_take]; omega
   have ej : j = m.chans[k].cap.toNat := by omega
   rw [List.take_succ_eq_append_getElem hv, evk, Abs.cellsOf_snoc, e2, ← List.append_assoc]
   rw [ej] at ho8
   exact ho8
 have hkc : m.chans.length ≤ k := by omega
 rw [List.take_of_length_le (by simpa [Abs.cT] using hkc)] at ho2
 refine Sg ?_
 refine K.call (refInsts_r _ m w2 (h.ext e2) hg) ?_
 rintro vi wi ⟨hvi, hei⟩
 obtain ⟨oi, ci, rfl, _⟩ := hvi.form
 have hinx : ∀ {W : World}, Kt [T.lr17_Cell] wi W → InstsAt W (.slice oi (Abs.insts m).length ci) (Abs.insts m) := fun k => OwR.slF (enc := Abs.Inst.enc) (fun _ => rfl) (hvi.kt k (by decide))
 have hil : (Abs.insts m).length ≤ 30 := by have := Abs.insts_len m; have := hM.procs; omega
 have hoi := ho2.ext hei
 have he1i := he2.trans hei
 have z2i := hei.size
 refine Sg ?_
 refine K.forG 14 (Abs.insts m).length [1, 13] (fun v : SlP => [(3, .slice v.1 v.2.1 v.2.2)]) v (fun k v W => (Ext w1 W ∧ Kt [T.lr17_Cell] wi W) ∧ OwR Abs.Cell.enc T.lr17_Cell 6 w1.heap.size W (.slice v.1 v.2.1 v.2.2) (Abs.cellsOf 1 (Abs.vT m) 0 ++ Abs.cellsOf 2 (Abs.cT m) 0 ++ Abs.cellsOf 3 ((Abs.iT m).take k) 0)) hZq hZq ⟨⟨he1i, Kt.refl⟩, by simpa [Abs.cellsOf] using hoi⟩ ?_
 clear hc1 ho2 he2 e2 hoi hei he1i
 rintro k v S w2 hk ⟨⟨he2, kt2⟩, ho2⟩
 have hin := hinx kt2
 have hc1 := he2.obj hc1'
 have e2 := he1.trans he2
 refine Sg ?_
 apply K.cond <;> intro g3
 ·have hk' : k < (Abs.insts m).length := by omega
  obtain ⟨ai, rfl⟩ := hin.addr (by omega)
  have hof := Abs.insts_of _ (List.getElem_mem hk')
  obtain ⟨p, hp, hpe, hbe⟩ := Abs.instBds_at hof
  have hok := hM.proc _ (List.getElem_mem hp)
  have hlocs := hok.locs
  have hfew := hok.few.1
  obtain ⟨a, rfl⟩ := h3.addr (by omega)
  obtain ⟨hsn, vv, vc, hpc, hpv, hpcm⟩ := h3.at p hp
  obtain ⟨ov, cv, rfl, lv⟩ := hpv.form
  obtain ⟨oc, cc, rfl, lc⟩ := hpcm.form
  replace hpc := hpc.ext e2
  have hv : k < (Abs.iT m).length := by simpa [Abs.iT] using hk'
  have htk := Abs.total_insts_le m hM (k + 1)
  rw [Abs.total_take hv] at htk
  have evk : (Abs.iT m)[k] = Abs.procBds m.scalars m.procs[p] := by simp [Abs.iT, hbe]
  rw [evk, Abs.procBds_len] at htk
  have hcnl : (Abs.cellsOf 1 (Abs.vT m) 0 ++ Abs.cellsOf 2 (Abs.cT m) 0 ++ Abs.cellsOf 3 ((Abs.iT m).take k) 0).length = Abs.total (Abs.vT m) + Abs.total (Abs.cT m) + Abs.total ((Abs.iT m).take k) := by rw [List.length_append, List.length_append, Abs.cellsOf_len, Abs.cellsOf_len, Abs.cellsOf_len]
  refine Sg ?_
  intro w3 he3
  replace hpc := hpc.ext he3
  replace hc1 := he3.obj hc1
  replace hin := hin.ext Flat.ext he3
  have ho3 := ho2.ext he3
  have he13 := he2.trans he3
  refine Sg ?_
  refine K.ian p hpe hp ?_
  refine Sg ?_
  intro wn b15 hb15 hen hcn
  refine ⟨hen, ?_⟩
  refine Sg ?_
  intro w4 hw4 hc4
  have he34 : Ext w3 w4 := hw4.ext hen hb15
  replace hc4 : w4.heap[b15]? = some (.cells (m.procs[p].enc (.slice ov m.procs[p].vars.length cv) (.slice oc m.procs[p].cmds.length cc)).toArray T.h) := hc4
  unfold Abs.Proc.enc at hc4
  replace hc1 := he34.obj hc1
  have ho4 := ho3.ext he34
  have he14 := he13.trans he34
  clear hw4 hen hcn hpc ho3 ho2 hin
  refine Sg ?_
  intro w5 b5 hb5 he5 hc5
  have ho5 := ho4.ext he5
  have he15 := he14.trans he5
  refine K.app1 (y := ⟨3, k, 0, 0, m.procs[p].locs - 1, 0⟩) ho5 hc5 rfl (fun _ => rfl) Abs.cell_one (by rw [hcnl]; omega) (by rw [hcnl]; unfold maxLen; omega) he15.size fun oa n c w6 ho6 hg6 => ?_
  have hc1 := ho5.box hg6 (he5.obj hc1) (by decide)
  have hc15 := ho5.box hg6 (he5.obj hc4) (by decide)
  have he16 := ho5.extG he15 hg6 (Nat.le_refl _)
  have kt6 : Kt [T.lr17_Cell] wi w6 := ((kt2.trans (Kt.ext (he3.trans he34))).trans (Kt.ext he5)).trans (ktG ho5 hg6)
  clear hc4 ho4
  have hx15 : ∀ {W : World}, W.heap[b15]? = w6.heap[b15]? → _ := fun e => e.trans hc15
  refine Sg ?_
  refine K.forG 16 m.procs[p].vars.length [1, 13, 14, 15] (fun v : SlP => [(3, .slice v.1 v.2.1 v.2.2)]) (oa, n, c) (fun j v W => ((Ext w1 W ∧ Kt [T.lr17_Cell] wi W) ∧ W.heap[b15]? = w6.heap[b15]?) ∧ OwR Abs.Cell.enc T.lr17_Cell 6 w1.heap.size W (.slice v.1 v.2.1 v.2.2) (Abs.cellsOf 1 (Abs.vT m) 0 ++ Abs.cellsOf 2 (Abs.cT m) 0 ++ Abs.cellsOf 3 ((Abs.iT m).take k) 0 ++ Abs.laidFrom 3 k (⟨0, m.procs[p].locs - 1, 0⟩ :: (m.procs[p].vars.take j).map fun v => Abs.bdOf v.scalar v.lo v.hi m.scalars) 0)) hZq hZq ⟨⟨⟨he16, kt6⟩, rfl⟩, by simpa [Abs.laidFrom] using ho6⟩ ?_
  clear hc1 hc15 ho6
  rintro j v S w7 hj ⟨⟨⟨he17, kt7⟩, hb15⟩, ho7⟩
  have hc1 := he17.obj hc1'
  have hc15 := hx15 hb15
  have e7 := he1.trans he17
  refine Sg ?_
  apply K.cond <;> intro g4
  ·have hj' : j < m.procs[p].vars.length := by omega
   obtain ⟨aj, rfl⟩ := hpv.addr (by omega)
   have hcv := ((hpv.at j hj').cells).ext e7
   have hvok := hok.var _ (List.getElem_mem hj')
   have hsc := Abs.var_scalar hvok few.1
   refine Sg ?_
   refine K.qfn (.tuple #[.int .i64 (Abs.bounds m.procs[p].vars[j] m.scalars).1, .int .i64 (Abs.bounds m.procs[p].vars[j] m.scalars).2]) (fun w' e => refBounds_r m.procs[p].vars[j] _ m.scalars w' (h0.ext (e7.trans e))) ?_
   refine Sg ?_
   intro w8 he8
   replace hc1 := he8.obj hc1
   replace hc15 := he8.obj hc15
   replace hcv := hcv.ext he8
   have ho8 := ho7.ext he8
   have he18 := he17.trans he8
   refine Sg ?_
   refine K.call (refKindS_r m.procs[p].vars[j].scalar w8 (by unfold Abs.inI; omega)) ?_
   rintro _ wA ⟨rfl, rfl⟩
   refine Sg ?_
   intro w9 b9 hb9 he9 hc9
   have ho9 := ho8.ext he9
   have he19 := he18.trans he9
   have hl : (Abs.cellsOf 1 (Abs.vT m) 0 ++ Abs.cellsOf 2 (Abs.cT m) 0 ++ Abs.cellsOf 3 ((Abs.iT m).take k) 0 ++ Abs.laidFrom 3 k (⟨0, m.procs[p].locs - 1, 0⟩ :: (m.procs[p].vars.take j).map fun v => Abs.bdOf v.scalar v.lo v.hi m.scalars) 0).length = Abs.total (Abs.vT m) + Abs.total (Abs.cT m) + Abs.total ((Abs.iT m).take k) + (j + 1) := by
    rw [List.length_append, hcnl, Abs.laidFrom_len, List.length_cons, List.length_map, List.length_take]
    omega
   have hlt : ((m.procs[p].vars.take j).map fun v => Abs.bdOf v.scalar v.lo v.hi m.scalars).length = j := by simp; omega
   refine K.app1 (y := ⟨3, k, 1 + (j : Int), (Abs.bounds m.procs[p].vars[j] m.scalars).1, (Abs.bounds m.procs[p].vars[j] m.scalars).2, Abs.kindOf m.procs[p].vars[j].scalar⟩) ho9 hc9 rfl (fun _ => rfl) Abs.cell_one (by rw [hl]; omega) (by rw [hl]; unfold maxLen; omega) he19.size fun oa n c w10 ho10 hg10 => ?_
   have hc15' := ho9.box hg10 (he9.obj hc15) (by decide)
   refine Sg ?_
   refine ⟨hj', Tr, (oa, n, c), hZq, ⟨⟨ho9.extG he19 hg10 (Nat.le_refl _), (kt7.trans (Kt.ext (he8.trans he9))).trans (ktG ho9 hg10)⟩, hc15'.trans (hx15 rfl).symm⟩, ?_⟩
   rw [List.take_succ_eq_append_getElem hj', List.map_append, ← List.cons_append, List.map_cons, List.map_nil, Abs.laid_snoc, ← List.append_assoc, List.length_cons, hlt, Abs.bdOf_eq m.procs[p].vars[j], show ((j + 1 : Nat) : Int) = 1 + (j : Int) from by omega]
   exact ho10
  ·refine Sg ?_
   refine ⟨hk', Tr, v, hZq, ⟨he17, kt7⟩, ?_⟩
   have e2 : (0 + ((Abs.iT m).take k).length : Nat) = k := by rw [List.length_take]; omega
   rw [List.take_of_length_le (l := m.procs[p].vars) (by omega)] at ho7
   rw [List.take_succ_eq_append_getElem hv, evk, Abs.cellsOf_snoc, e2, ← List.append_assoc]
   exact ho7
 ·rw [List.take_of_length_le (by simp [Abs.iT]; omega)] at ho2
  refine Sg ?_
  exact ⟨OwR.low he1.size ho2, e2⟩
end Go.Proofs.YtglnobabdcoknaaGreatDoor
end
section
namespace Lite
open Go Go.RowKit
theorem K.appRws {P : Program} {KK : Value → World → Prop} {α : Type} {enc : α → List Value} {e : TypeId} {sz base n : Nat} {w : World} {vs : Nat → Option Addr × Nat × Nat} {xs : Nat → List α} {ty : TypeId} {b : Nat} {a : Addr} {c : Nat} {y : α} {t} (i : Nat) (hi : i < n) (h : Rws enc e sz base w n vs xs) (hsz : ∀ x, (enc x).length = sz) (hc : CellsAt w a (enc y)) (h1 : ∀ y, ∀ u ∈ enc y, u.oneCell' = true)
  (hb : ((xs i).length + 1) * b ≤ 140737488355328) (h63 : (xs i).length + 1 ≤ maxLen) (hbase : base ≤ w.heap.size)
  (hk : ∀ v' w', Rws enc e sz base w' n (putN vs i v') (putN xs i (xs i ++ [y])) → w.grownBy w' (slq (vs i)).ownBlock → KK (slq v') w') : AppVCh P ty e sz b (slq (vs i)) (.slice (some a) 1 c) w KK t := by
 unfold AppVCh
 exact Rws.app i hi h hsz hc h1 hb h63 hbase fun v' w' a b _ => hk v' w' a b
end Lite
namespace Abs
theorem firsts_take {s : Int} {l : List Cell} {k : Nat} (h : k < l.length) : firsts s (l.take (k + 1)) 0 = firsts s (l.take k) 0 ++ (if l[k].place = 0 ∧ l[k].sort = s then [(k : Int)] else []) := by
 rw [List.take_succ_eq_append_getElem h, firsts_app]
 simp only [firsts, List.append_nil, List.length_take, Nat.zero_add]
 rw [show min k l.length = k from by omega]
theorem firsts_len (s : Int) : ∀ (l : List Cell) (i : Nat), (firsts s l i).length ≤ l.length
 | [], _ => by simp [firsts]
 | x :: r, i => by
  have := firsts_len s r (i + 1)
  simp only [firsts, List.length_append, List.length_cons]
  split <;> simp <;> omega
def rowsK (l : List Cell) (k : Nat) : Nat → List Int := fun i => if i = 0 then firsts 1 (l.take k) 0 else if i = 1 then firsts 2 (l.take k) 0 else if i = 2 then firsts 3 (l.take k) 0 else if i = 3 then (l.take k).map (·.lo) else (l.take k).map (·.hi)
end Abs
namespace Go.Proofs.YtglnobabdcoknaaGreatDoor
open Go Go.RowKit Lite
def rtys : List TypeId := [T.a, T.j]
def boxOf (vs : Nat → SlP) (n : Int) : Array Value := #[slq (vs 0), slq (vs 1), slq (vs 2), .int .i64 n, slq (vs 3), slq (vs 4)]
structure LRt (w1 : World) (b : Nat) (xs : Nat → List Int) (n : Int) (W : World) : Prop where
 mod : Mod (fun k => k = b) w1 W
 ex : ∃ vs : Nat → SlP, W.heap[b]? = some (.cells (boxOf vs n) T.j) ∧ Rws encN T.a 1 w1.heap.size W 5 vs xs
theorem LRt.congr {w1 : World} {b : Nat} {xs xs' : Nat → List Int} {n : Int} {W : World} (h : LRt w1 b xs n W) (hx : ∀ i, i < 5 → xs i = xs' i) : LRt w1 b xs' n W :=
 let ⟨vs, g1, g2⟩ := h.ex; ⟨h.mod, vs, g1, g2.congr (fun _ _ => rfl) hx⟩
theorem lrt_app {w1 : World} {b : Nat} {xs : Nat → List Int} {n y : Int} {W W5 W6 W7 : World} {vs : Nat → SlP} {v' : SlP} {i : Nat} (hi : i < 5) (hm : Mod (fun k => k = b) w1 W) (g1 : W.heap[b]? = some (.cells (boxOf vs n) T.j)) (g2 : Rws encN T.a 1 w1.heap.size W 5 vs xs)
  (he : Ext W W5) (hg : W5.grownBy W6 (slq (vs i)).ownBlock) (ho : Rws encN T.a 1 w1.heap.size W6 5 (putN vs i v') (putN xs i (xs i ++ [y]))) (hw : Wr b W6 W7) (hc : W7.heap[b]? = some (.cells (boxOf (putN vs i v') n) T.j)) :
  LRt w1 b (putN xs i (xs i ++ [y])) n W7 ∧ Kt rtys W W7 := by
 have mg : Mod (fun k => (slq (vs i)).ownBlock = some k) W5 W6 := Mod.grown hg fun k hk => hk
 have g5 := he.obj g1
 have g6 : W6.heap[b]? = some (.cells (boxOf vs n) T.j) := mg.obj ((g2.ext he).not g5 (by decide) i hi) g5
 refine ⟨⟨?_, _, hc, ho.mod (hw.mod (A := fun k => k = b) rfl) fun j k hj hk e => ?_⟩, ?_⟩
 ·have h1 : Mod (fun k => k = b) w1 W5 := hm.comp (A' := fun _ => False) he.mod (fun _ _ a => a) fun _ _ a => a.elim
  have h2 : Mod (fun k => k = b) w1 W6 := h1.comp mg (fun _ _ a => a) fun j hj a => by have := (g2.lt i j hi a).1; omega
  exact h2.trans (hw.mod rfl)
 ·subst e; exact ho.not g6 (by decide) j hj hk
 ·refine ((Kt.ext he).trans (Kt.mod mg fun k c t hc a => ?_)).trans (Kt.wr hw g6 (by decide))
  obtain ⟨cur, h⟩ := ((g2.ext he).own i hi).blk k a
  rw [hc] at h; injection h with h; injection h with _ h; rw [h]; decide
theorem refLay_r (cs : List Value) (m : Abs.Model) (w : World) (h : Abs.MI w cs m) (hg : m.good) (hM : Abs.MayBe m) :
  Ret Tryz.prog F.lr17_Lay #[.agg cs.toArray] w fun v w' => (∃ xs, v = .agg xs.toArray ∧ New w (fun w => Abs.LayIs w xs (Abs.layout m)) w') ∧ Ext w w' := by
 have hMI := h
 obtain ⟨o0, c0, o1, c1, o2, c2, o3, c3, o4, c4, rfl, _⟩ := h.form
 have h64 := Abs.layCells_le64 hM
 refine Ks E.lr17_Lay ?_; dsimp only [C.lr17_Lay]; refine Yy ?_
 refine Sg ?_
 intro wa b1 hb1 hea hc1
 have q1 := lH hc1
 refine Sg ?_
 intro wb b2 hb2 heb hc2
 have q2 := lH hc2
 replace hc1 := heb.obj hc1
 refine Sg ?_
 intro w1 b3 hb3 hec hc3
 replace hc1 := hec.obj hc1
 replace hc2 := hec.obj hc2
 have q3 := lH hc3
 have y1 := hea.size
 have y2 := heb.size
 have y3 := hec.size
 have n13 : b1 ≠ b3 := by omega
 have e1 := (hea.trans heb).trans hec
 refine Sg ?_
 refine K.call (refLayCells_r _ m w1 (hMI.ext e1) hg hM) ?_
 rintro vc wc ⟨hcl, hed⟩
 obtain ⟨ocl, ccl, rfl, _⟩ := hcl.form
 have s0 : LRt w1 b3 (Abs.rowsK (Abs.lC m) 0) 0 wc := ⟨hed.mod, fun _ => (none, 0, 0), hed.obj hc3, ⟨fun i hi => by
   have e : Abs.rowsK (Abs.lC m) 0 i = [] := by unfold Abs.rowsK; (repeat' split) <;> simp [Abs.firsts]
   rw [e]; exact OwR.nil _ _ _ _ _, fun i j k _ _ _ e => by cases e⟩⟩
 have hx1 : ∀ {xs n W}, LRt w1 b3 xs n W → W.heap[b1]? = w1.heap[b1]? := fun h => h.mod.block _ (by omega) n13
 have hx2 : ∀ {xs n W}, LRt w1 b3 xs n W → W.heap[b2]? = w1.heap[b2]? := fun h => h.mod.block _ (by omega) (by omega)
 have hE : ∀ {xs n W}, LRt w1 b3 xs n W → Ext w W := fun h => h.mod.ext e1 fun i hi e => by omega
 have hcx : ∀ {W : World}, Kt rtys wc W → SlR 6 (Flat Abs.Cell.enc) W (.slice ocl (Abs.lC m).length ccl) (Abs.lC m) := fun k => OwR.slF (enc := Abs.Cell.enc) (fun _ => rfl) (hcl.kt k (by decide))
 rw [hc2] at hx2
 clear hc1 hc2 hc3 hcl
 refine Sg ?_
 refine K.forG 5 (Abs.lC m).length [1, 2, 3, 4] (fun _ : Unit => []) () (fun k _ W => LRt w1 b3 (Abs.rowsK (Abs.lC m) k) 0 W ∧ Kt rtys wc W) hZq hZq ⟨s0, Kt.refl⟩ ?_
 clear s0
 rintro k _ S w2 hk ⟨hs, kt2⟩
 have hcl := hcx kt2
 obtain ⟨vs0, g1, g2⟩ := hs.ex
 refine Sg ?_
 apply K.cond <;> intro g0
 ·have hk' : k < (Abs.lC m).length := by omega
  obtain ⟨a, rfl⟩ := hcl.addr (by omega)
  clear g1 g2
  obtain ⟨x, hx⟩ : ∃ x, x = (Abs.lC m)[k] := ⟨_, rfl⟩
  have hrl : ∀ i, (Abs.rowsK (Abs.lC m) k i).length ≤ 100 := fun i => by
   unfold Abs.rowsK
   have q := fun s => Abs.firsts_len s ((Abs.lC m).take k) 0
   have q1 := q 1
   have q2 := q 2
   have q3 := q 3
   (repeat' split) <;> simp only [List.length_map, List.length_take] at * <;> omega
  refine Su ?_
  simp -dsimp only [B9]
  refine Su ?_
  refine K.cutG [1, 2, 3, 4, 5] (fun _ : Unit => []) (fun _ W => LRt w1 b3 (putN (Abs.rowsK (Abs.lC m) k) 0 ((Abs.rowsK (Abs.lC m) k) 0 ++ if x.place = 0 ∧ x.sort = 1 then [(k : Int)] else [])) 0 W ∧ Kt rtys wc W) ?_ ?_
  ·have hcl := hcx kt2
   obtain ⟨vs, g1, g2⟩ := hs.ex
   have g1' := g1
   unfold boxOf at g1
   dsimp only [slq] at g1
   have same : ¬ (x.place = 0 ∧ x.sort = 1) → LRt w1 b3 (putN (Abs.rowsK (Abs.lC m) k) 0 ((Abs.rowsK (Abs.lC m) k) 0 ++ if x.place = 0 ∧ x.sort = 1 then [(k : Int)] else [])) 0 w2 := fun e => hs.congr fun j hj => by
    unfold putN
    by_cases a : j = 0
    ·subst a; simp [e]
    ·simp [a]
   refine Sg ?_
   rw [← hx]
   apply K.cond <;> intro g3
   ·refine Sg ?_
    rw [← hx]
    apply K.cond <;> intro g4
    ·refine Sg ?_
     intro w5 b5 hb5 he5 hc5
     have z1 := hs.mod.size
     have z2 := he5.size
     have hlen : ((Abs.rowsK (Abs.lC m) k) 0).length ≤ 100 := hrl 0
     have g25 := g2.ext he5
     have g15 := he5.obj g1'
     refine K.appRws (y := (k : Int)) 0 (by decide) g25 (fun _ => rfl) (cB hc5) encN_one (by omega) (by unfold maxLen; omega) (by omega) fun v' w6 ho6 hg6 => ?_
     have hb6 : w6.heap[b3]? = some (.cells (boxOf vs 0) T.j) := (Mod.grown (A := fun k => (slq (vs 0)).ownBlock = some k) hg6 fun k hk => hk).obj (g25.not g15 (by decide) 0 (by decide)) g15
     have hb6' := hb6
     unfold boxOf at hb6
     refine Sg ?_
     intro w7 hw7 hc7
     obtain ⟨hs7, kt7⟩ := lrt_app (by decide) hs.mod g1' g2 he5 hg6 ho6 hw7 hc7
     refine Sg ?_
     refine ⟨(), trivial, hs7.congr fun j hj => ?_, kt2.trans kt7⟩
     have e : (if x.place = 0 ∧ x.sort = 1 then [(k : Int)] else []) = [(k : Int)] := if_pos ⟨g3, g4⟩
     rw [e]
    ·refine Sg ?_
     exact ⟨(), trivial, same fun e => g4 e.2, kt2⟩
   ·refine Sg ?_
    exact ⟨(), trivial, same fun e => g3 e.1, kt2⟩
  rintro _ S w10 ⟨hsw10, ktw10⟩
  refine Su ?_
  refine K.cutG [1, 2, 3, 4, 5] (fun _ : Unit => []) (fun _ W => LRt w1 b3 (putN (putN (Abs.rowsK (Abs.lC m) k) 0 ((Abs.rowsK (Abs.lC m) k) 0 ++ if x.place = 0 ∧ x.sort = 1 then [(k : Int)] else [])) 1 ((putN (Abs.rowsK (Abs.lC m) k) 0 ((Abs.rowsK (Abs.lC m) k) 0 ++ if x.place = 0 ∧ x.sort = 1 then [(k : Int)] else [])) 1 ++ if x.place = 0 ∧ x.sort = 2 then [(k : Int)] else [])) 0 W ∧ Kt rtys wc W) ?_ ?_
  ·have hcl := hcx ktw10
   obtain ⟨vs, g1, g2⟩ := hsw10.ex
   have g1' := g1
   unfold boxOf at g1
   dsimp only [slq] at g1
   have same : ¬ (x.place = 0 ∧ x.sort = 2) → LRt w1 b3 (putN (putN (Abs.rowsK (Abs.lC m) k) 0 ((Abs.rowsK (Abs.lC m) k) 0 ++ if x.place = 0 ∧ x.sort = 1 then [(k : Int)] else [])) 1 ((putN (Abs.rowsK (Abs.lC m) k) 0 ((Abs.rowsK (Abs.lC m) k) 0 ++ if x.place = 0 ∧ x.sort = 1 then [(k : Int)] else [])) 1 ++ if x.place = 0 ∧ x.sort = 2 then [(k : Int)] else [])) 0 w10 := fun e => hsw10.congr fun j hj => by
    unfold putN
    by_cases a : j = 1
    ·subst a; simp [e]
    ·simp [a]
   refine Sg ?_
   rw [← hx]
   apply K.cond <;> intro g3
   ·refine Sg ?_
    rw [← hx]
    apply K.cond <;> intro g4
    ·refine Sg ?_
     intro w5 b5 hb5 he5 hc5
     have z1 := hsw10.mod.size
     have z2 := he5.size
     have hlen : ((putN (Abs.rowsK (Abs.lC m) k) 0 ((Abs.rowsK (Abs.lC m) k) 0 ++ if x.place = 0 ∧ x.sort = 1 then [(k : Int)] else [])) 1).length ≤ 100 := hrl 1
     have g25 := g2.ext he5
     have g15 := he5.obj g1'
     refine K.appRws (y := (k : Int)) 1 (by decide) g25 (fun _ => rfl) (cB hc5) encN_one (by omega) (by unfold maxLen; omega) (by omega) fun v' w6 ho6 hg6 => ?_
     have hb6 : w6.heap[b3]? = some (.cells (boxOf vs 0) T.j) := (Mod.grown (A := fun k => (slq (vs 1)).ownBlock = some k) hg6 fun k hk => hk).obj (g25.not g15 (by decide) 1 (by decide)) g15
     have hb6' := hb6
     unfold boxOf at hb6
     refine Sg ?_
     intro w7 hw7 hc7
     obtain ⟨hs7, kt7⟩ := lrt_app (by decide) hsw10.mod g1' g2 he5 hg6 ho6 hw7 hc7
     refine Sg ?_
     refine ⟨(), trivial, hs7.congr fun j hj => ?_, ktw10.trans kt7⟩
     have e : (if x.place = 0 ∧ x.sort = 2 then [(k : Int)] else []) = [(k : Int)] := if_pos ⟨g3, g4⟩
     rw [e]
    ·refine Sg ?_
     exact ⟨(), trivial, same fun e => g4 e.2, ktw10⟩
   ·refine Sg ?_
    exact ⟨(), trivial, same fun e => g3 e.1, ktw10⟩
  rintro _ S w11 ⟨hsw11, ktw11⟩
  refine Su ?_
  refine K.cutG [1, 2, 3, 4, 5] (fun _ : Unit => []) (fun _ W => LRt w1 b3 (putN (putN (putN (Abs.rowsK (Abs.lC m) k) 0 ((Abs.rowsK (Abs.lC m) k) 0 ++ if x.place = 0 ∧ x.sort = 1 then [(k : Int)] else [])) 1 ((putN (Abs.rowsK (Abs.lC m) k) 0 ((Abs.rowsK (Abs.lC m) k) 0 ++ if x.place = 0 ∧ x.sort = 1 then [(k : Int)] else [])) 1 ++ if x.place = 0 ∧ x.sort = 2 then [(k : Int)] else [])) 2 ((putN (putN (Abs.rowsK (Abs.lC m) k) 0 ((Abs.rowsK (Abs.lC m) k) 0 ++ if x.place = 0 ∧ x.sort = 1 then [(k : Int)] else [])) 1 ((putN (Abs.rowsK (Abs.lC m) k) 0 ((Abs.rowsK (Abs.lC m) k) 0 ++ if x.place = 0 ∧ x.sort = 1 then [(k : Int)] else [])) 1 ++ if x.place = 0 ∧ x.sort = 2 then [(k : Int)] else [])) 2 ++ if x.place = 0 ∧ x.sort = 3 then [(k : Int)] else [])) 0 W ∧ Kt rtys wc W) ?_ ?_
  ·have hcl := hcx ktw11
   obtain ⟨vs, g1, g2⟩ := hsw11.ex
   have g1' := g1
   unfold boxOf at g1
   dsimp only [slq] at g1
   have same : ¬ (x.place = 0 ∧ x.sort = 3) → LRt w1 b3 (putN (putN (putN (Abs.rowsK (Abs.lC m) k) 0 ((Abs.rowsK (Abs.lC m) k) 0 ++ if x.place = 0 ∧ x.sort = 1 then [(k : Int)] else [])) 1 ((putN (Abs.rowsK (Abs.lC m) k) 0 ((Abs.rowsK (Abs.lC m) k) 0 ++ if x.place = 0 ∧ x.sort = 1 then [(k : Int)] else [])) 1 ++ if x.place = 0 ∧ x.sort = 2 then [(k : Int)] else [])) 2 ((putN (putN (Abs.rowsK (Abs.lC m) k) 0 ((Abs.rowsK (Abs.lC m) k) 0 ++ if x.place = 0 ∧ x.sort = 1 then [(k : Int)] else [])) 1 ((putN (Abs.rowsK (Abs.lC m) k) 0 ((Abs.rowsK (Abs.lC m) k) 0 ++ if x.place = 0 ∧ x.sort = 1 then [(k : Int)] else [])) 1 ++ if x.place = 0 ∧ x.sort = 2 then [(k : Int)] else [])) 2 ++ if x.place = 0 ∧ x.sort = 3 then [(k : Int)] else [])) 0 w11 := fun e => hsw11.congr fun j hj => by
    unfold putN
    by_cases a : j = 2
    ·subst a; simp [e]
    ·simp [a]
   refine Sg ?_
   rw [← hx]
   apply K.cond <;> intro g3
   ·refine Sg ?_
    rw [← hx]
    apply K.cond <;> intro g4
    ·refine Sg ?_
     intro w5 b5 hb5 he5 hc5
     have z1 := hsw11.mod.size
     have z2 := he5.size
     have hlen : ((putN (putN (Abs.rowsK (Abs.lC m) k) 0 ((Abs.rowsK (Abs.lC m) k) 0 ++ if x.place = 0 ∧ x.sort = 1 then [(k : Int)] else [])) 1 ((putN (Abs.rowsK (Abs.lC m) k) 0 ((Abs.rowsK (Abs.lC m) k) 0 ++ if x.place = 0 ∧ x.sort = 1 then [(k : Int)] else [])) 1 ++ if x.place = 0 ∧ x.sort = 2 then [(k : Int)] else [])) 2).length ≤ 100 := hrl 2
     have g25 := g2.ext he5
     have g15 := he5.obj g1'
     refine K.appRws (y := (k : Int)) 2 (by decide) g25 (fun _ => rfl) (cB hc5) encN_one (by omega) (by unfold maxLen; omega) (by omega) fun v' w6 ho6 hg6 => ?_
     have hb6 : w6.heap[b3]? = some (.cells (boxOf vs 0) T.j) := (Mod.grown (A := fun k => (slq (vs 2)).ownBlock = some k) hg6 fun k hk => hk).obj (g25.not g15 (by decide) 2 (by decide)) g15
     have hb6' := hb6
     unfold boxOf at hb6
     refine Sg ?_
     intro w7 hw7 hc7
     obtain ⟨hs7, kt7⟩ := lrt_app (by decide) hsw11.mod g1' g2 he5 hg6 ho6 hw7 hc7
     refine Sg ?_
     refine ⟨(), trivial, hs7.congr fun j hj => ?_, ktw11.trans kt7⟩
     have e : (if x.place = 0 ∧ x.sort = 3 then [(k : Int)] else []) = [(k : Int)] := if_pos ⟨g3, g4⟩
     rw [e]
    ·refine Sg ?_
     exact ⟨(), trivial, same fun e => g4 e.2, ktw11⟩
   ·refine Sg ?_
    exact ⟨(), trivial, same fun e => g3 e.1, ktw11⟩
  rintro _ S w12 ⟨hsw12, ktw12⟩
  have hcl := hcx ktw12
  obtain ⟨vs, g1, g2⟩ := hsw12.ex
  have g1' := g1
  unfold boxOf at g1
  dsimp only [slq] at g1
  refine Sg ?_
  intro w5 he5
  replace hcl := hcl.ext Flat.ext he5
  replace g1 := he5.obj g1
  refine Sg ?_
  intro w6 b6 hb6 he6 hc6
  refine ⟨he6, ?_⟩
  have he56 := he5.trans he6
  have z1 := hsw12.mod.size
  have z2 := he56.size
  have hlen : (Abs.rowsK (Abs.lC m) k 3).length ≤ 100 := hrl 3
  have g25 := g2.ext he56
  have g15 := he56.obj g1'
  refine K.appRws (y := (Abs.lC m)[k].lo) 3 (by decide) g25 (fun _ => rfl) (cB hc6) encN_one (by rw [show (putN _ 2 _ 3 : List Int) = Abs.rowsK (Abs.lC m) k 3 from rfl]; omega) (by rw [show (putN _ 2 _ 3 : List Int) = Abs.rowsK (Abs.lC m) k 3 from rfl]; unfold maxLen; omega) (by omega) fun v' w7 ho7 hg7 => ?_
  have hb7 : w7.heap[b3]? = some (.cells (boxOf vs 0) T.j) := (Mod.grown (A := fun k => (slq (vs 3)).ownBlock = some k) hg7 fun k hk => hk).obj (g25.not g15 (by decide) 3 (by decide)) g15
  have hb7' := hb7
  unfold boxOf at hb7
  refine Sg ?_
  intro w8a hw8 hc8
  obtain ⟨hs8a, kt8a⟩ := lrt_app (by decide) hsw12.mod g1' g2 he56 hg7 ho7 hw8 hc8
  clear g1 g2 g1' g25 g15 ho7 hb7 hb7' hc8 hc6 hcl
  have kt9a := ktw12.trans kt8a
  have hcl := hcx kt9a
  obtain ⟨vs, g1, g2⟩ := hs8a.ex
  have g1' := g1
  unfold boxOf at g1
  dsimp only [slq] at g1
  refine Sg ?_
  intro w5 he5
  replace hcl := hcl.ext Flat.ext he5
  replace g1 := he5.obj g1
  refine Sg ?_
  intro w6 b6 hb6 he6 hc6
  refine ⟨he6, ?_⟩
  have he56 := he5.trans he6
  have z1 := hs8a.mod.size
  have z2 := he56.size
  have hlen : (Abs.rowsK (Abs.lC m) k 4).length ≤ 100 := hrl 4
  have g25 := g2.ext he56
  have g15 := he56.obj g1'
  refine K.appRws (y := (Abs.lC m)[k].hi) 4 (by decide) g25 (fun _ => rfl) (cB hc6) encN_one (by rw [show (putN _ 3 _ 4 : List Int) = Abs.rowsK (Abs.lC m) k 4 from rfl]; omega) (by rw [show (putN _ 3 _ 4 : List Int) = Abs.rowsK (Abs.lC m) k 4 from rfl]; unfold maxLen; omega) (by omega) fun v' w7 ho7 hg7 => ?_
  have hb7 : w7.heap[b3]? = some (.cells (boxOf vs 0) T.j) := (Mod.grown (A := fun k => (slq (vs 4)).ownBlock = some k) hg7 fun k hk => hk).obj (g25.not g15 (by decide) 4 (by decide)) g15
  have hb7' := hb7
  unfold boxOf at hb7
  refine Sg ?_
  intro w8b hw8 hc8
  obtain ⟨hs8b, kt8b⟩ := lrt_app (by decide) hs8a.mod g1' g2 he56 hg7 ho7 hw8 hc8
  clear g1 g2 g1' g25 g15 ho7 hb7 hb7' hc8 hc6 hcl
  have kt9b := kt9a.trans kt8b
  refine Sg ?_
  refine ⟨hk', Tr, (), trivial, hs8b.congr fun j hj => ?_, kt9b⟩
  subst hx
  have a : j = 0 ∨ j = 1 ∨ j = 2 ∨ j = 3 ∨ j = 4 := by omega
  rcases a with rfl | rfl | rfl | rfl | rfl
  ·exact (Abs.firsts_take (s := 1) hk').symm
  ·exact (Abs.firsts_take (s := 2) hk').symm
  ·exact (Abs.firsts_take (s := 3) hk').symm
  ·show (_ : List Int) = ((Abs.lC m).take (k + 1)).map (·.lo)
   rw [List.take_succ_eq_append_getElem hk', List.map_append]; rfl
  ·show (_ : List Int) = ((Abs.lC m).take (k + 1)).map (·.hi)
   rw [List.take_succ_eq_append_getElem hk', List.map_append]; rfl
 have hkl : k = (Abs.lC m).length := by omega
 subst hkl
 have E2 := hE hs
 have hc2 := hx2 hs
 clear g1 g2
 obtain ⟨vs, g1, g2⟩ := hs.ex
 have g1' := g1
 unfold boxOf at g1
 dsimp only [slq] at g1
 refine Sg ?_
 intro w3 hw3 hc3
 have g23 := g2.mod (hw3.mod (A := fun k => k = b3) rfl) fun i k hi hk e => by subst e; exact g2.not g1' (by decide) i hi hk
 replace hc2 := hw3.obj hc2 (by omega)
 replace hc3 : w3.heap[b3]? = some (.cells #[slq (vs 0), slq (vs 1), slq (vs 2), .int .i64 (Abs.lC m).length, slq (vs 3), slq (vs 4)] T.j) := hc3
 dsimp only [slq] at hc3
 refine Sg ?_
 intro w4 hw4 hc4
 have g24 := g23.mod (hw4.mod (A := fun k => k = b2) rfl) fun i k hi hk e => by subst e; exact g23.not hc2 (by decide) i hi hk
 have hz : w.heap.size ≤ w1.heap.size := by omega
 have nr := fun (i : Nat) (hi : i < 5) => OwR.new (e := T.a) (enc := encN) (fun _ => rfl) (OwR.low hz (g24.own i hi))
 obtain ⟨f1, f2, f3⟩ := Abs.firsts_lay hM
 have r0 : Abs.rowsK (Abs.lC m) (Abs.lC m).length 0 = (Abs.layout m).vars := by show Abs.firsts 1 ((Abs.lC m).take _) 0 = _; rw [List.take_length, f1]; rfl
 have r1 : Abs.rowsK (Abs.lC m) (Abs.lC m).length 1 = (Abs.layout m).chans := by show Abs.firsts 2 ((Abs.lC m).take _) 0 = _; rw [List.take_length, f2]; rfl
 have r2 : Abs.rowsK (Abs.lC m) (Abs.lC m).length 2 = (Abs.layout m).insts := by show Abs.firsts 3 ((Abs.lC m).take _) 0 = _; rw [List.take_length, f3]; rfl
 have r3 : Abs.rowsK (Abs.lC m) (Abs.lC m).length 3 = (Abs.layout m).lo := by show ((Abs.lC m).take _).map _ = _; rw [List.take_length]; rfl
 have r4 : Abs.rowsK (Abs.lC m) (Abs.lC m).length 4 = (Abs.layout m).hi := by show ((Abs.lC m).take _).map _ = _; rw [List.take_length]; rfl
 refine Sg ?_
 refine ⟨⟨[_, _, _, _, _, _], rfl, fun W2 mm => ⟨⟨_, _, _, _, _, rfl, ?_, ?_, ?_, ?_, ?_⟩⟩⟩, hw4.ext (hw3.ext E2 (by omega)) (by omega)⟩
 ·rw [← r0]; exact nr 0 (by decide) W2 mm
 ·rw [← r1]; exact nr 1 (by decide) W2 mm
 ·rw [← r2]; exact nr 2 (by decide) W2 mm
 ·rw [← r3]; exact nr 3 (by decide) W2 mm
 ·rw [← r4]; exact nr 4 (by decide) W2 mm
theorem refLayOf_r (cs : List Value) (m : Abs.Model) (w : World) (h : Abs.MI w cs m) (hg : m.good) :
  Ret Tryz.prog F.lr17_Of #[.agg cs.toArray] w fun v w' => (∃ xs, v = .agg xs.toArray ∧ New w (fun w => Abs.LayIs w xs (Abs.lay m)) w') ∧ Ext w w' := by
 have hM := h
 obtain ⟨o0, c0, o1, c1, o2, c2, o3, c3, o4, c4, rfl, _⟩ := h.form
 refine Ks E.lr17_Of ?_; dsimp only [C.lr17_Of]; refine Yy ?_
 refine Sg ?_
 intro w1 b1 hb1 he1 hc1
 refine Sg ?_
 intro w2 b2 hb2 he2 hc2
 have z1 := lH hc1
 replace hc1 := he2.obj hc1
 have z2 := lH hc2
 have z3 := he1.size
 have e2 := he1.trans he2
 refine Sg ?_
 refine K.call (good_r _ m w2 (hM.ext e2) hg) ?_
 rintro _ w3 ⟨rfl, he3⟩
 replace hc1 := he3.obj hc1
 replace hc2 := he3.obj hc2
 have e3 := e2.trans he3
 by_cases hk : (Abs.check m).why = 0
 ·rw [decide_eq_true hk]
  refine Sg ?_
  refine K.call (refLay_r _ m w3 (hM.ext e3) hg (Abs.maybe_of hk)) ?_
  rintro _ w4 ⟨⟨xs, rfl, hL⟩, he4⟩
  obtain ⟨x0, d0, x1, d1, x2, d2, x3, d3, x4, d4, rfl, _⟩ := hL.here.form
  replace hc2 := he4.obj hc2
  have e4 := e3.trans he4
  have z4 := he3.size
  refine Sg ?_
  intro w6 hw6 hc6
  have hn := hL.wr hw6 (by omega)
  refine Sg ?_
  exact ⟨⟨_, rfl, by rw [Abs.lay_ok hk]; exact hn.low e3.size⟩, hw6.ext e4 (by omega)⟩
 ·rw [decide_eq_false hk]
  refine Sg ?_
  intro w4 hw4 hc4
  refine Sg ?_
  exact ⟨⟨[_, _, _, _, _, _], rfl, by rw [Abs.lay_no hk]; exact Stab.of fun _ => Abs.LayIs.zero _⟩, hw4.ext e3 (by omega)⟩
end Go.Proofs.YtglnobabdcoknaaGreatDoor
end
section
namespace Abs
open Go
def vAt (m : Model) (i : Nat) : Nat := total ((vT m).take i)
def cAt (m : Model) (i : Nat) : Nat := total (vT m) + total ((cT m).take i)
def iAt (m : Model) (i : Nat) : Nat := total (vT m) + total (cT m) + total ((iT m).take i)
theorem starts_get (n : Nat) : ∀ (ls : List (List Bd)) (i : Nat) (h : i < (starts n ls).length), (starts n ls)[i] = ((n + total (ls.take i) : Nat) : Int)
 | [], i, h => by simp [starts] at h
 | l :: r, 0, h => by simp [starts, total]
 | l :: r, i + 1, h => by
  simp only [starts, List.getElem_cons_succ, List.take_succ_cons, total_cons]
  rw [starts_get (n + l.length) r i (by simpa [starts] using h)]
  congr 1
  omega
def cellN (m : Model) : Nat := (lC m).length
theorem cellN_eq (m : Model) : cellN m = total (vT m) + total (cT m) + total (iT m) := layCells_len m
theorem vAt_get {m : Model} {i : Nat} (h : i < m.vars.length) : ∃ h' : i < (layout m).vars.length, (layout m).vars[i] = (vAt m i : Int) := by
 have h' : i < (starts 0 (vT m)).length := by rw [starts_len]; simpa [vT] using h
 exact ⟨h', by have := starts_get 0 (vT m) i h'; rw [Nat.zero_add] at this; exact this⟩
theorem cAt_get {m : Model} {i : Nat} (h : i < m.chans.length) : ∃ h' : i < (layout m).chans.length, (layout m).chans[i] = (cAt m i : Int) := by
 have h' : i < (starts (total (vT m)) (cT m)).length := by rw [starts_len]; simpa [cT] using h
 exact ⟨h', starts_get _ _ i h'⟩
theorem iAt_get {m : Model} {i : Nat} (h : i < (insts m).length) : ∃ h' : i < (layout m).insts.length, (layout m).insts[i] = (iAt m i : Int) := by
 have h' : i < (starts (total (vT m) + total (cT m)) (iT m)).length := by rw [starts_len]; simpa [iT] using h
 exact ⟨h', starts_get _ _ i h'⟩
theorem vFit {m : Model} {i : Nat} (h : i < m.vars.length) : vAt m i + (cells m.vars[i] m.scalars).toNat ≤ total (vT m) := by
 have h' : i < (vT m).length := by simpa [vT] using h
 have := take_fit h'
 have e : (vT m)[i].length = (cells m.vars[i] m.scalars).toNat := by simp [vT, varBds_len]
 rw [e] at this
 exact this
theorem cFit {m : Model} {i : Nat} (h : i < m.chans.length) : cAt m i + (1 + m.chans[i].cap.toNat) ≤ total (vT m) + total (cT m) := by
 have h' : i < (cT m).length := by simpa [cT] using h
 have := take_fit h'
 have e : (cT m)[i].length = 1 + m.chans[i].cap.toNat := by simp [cT, chanBds_len]
 rw [e] at this
 unfold cAt
 omega
theorem iFit {m : Model} {i : Nat} (h : i < (insts m).length) : iAt m i + (instBds m (insts m)[i]).length ≤ cellN m := by
 have h' : i < (iT m).length := by simpa [iT] using h
 have := take_fit h'
 have e : (iT m)[i].length = (instBds m (insts m)[i]).length := by simp [iT]
 rw [e] at this
 rw [cellN_eq]
 unfold iAt
 omega
def instInit (m : Model) (x : Inst) : List Int := match nth m.procs x.proc with | some p => 0 :: p.vars.map (·.init) | none => []
def varInit (m : Model) (v : Var) : List Int := List.replicate (cells v m.scalars).toNat v.init
def chanInit (c : Chan) : List Int := List.replicate (1 + c.cap.toNat) 0
def firstState (m : Model) : List Int := m.vars.flatMap (varInit m) ++ m.chans.flatMap chanInit ++ (insts m).flatMap (instInit m)
def QueueOk (s : List Scalar) (c : Chan) (l : List Int) : Prop :=
 ∃ n, l[0]? = some n ∧ 0 ≤ n ∧ n ≤ c.cap ∧ ∀ k : Nat, (k : Int) < c.cap → ∃ x, l[k + 1]? = some x ∧ ((k : Int) < n → (bdOf c.scalar c.lo c.hi s).lo ≤ x ∧ x ≤ (bdOf c.scalar c.lo c.hi s).hi) ∧ (n ≤ k → x = 0)
def chanPart (m : Model) (i : Nat) (c : Chan) (s : List Int) : List Int := (s.drop (cAt m i)).take (1 + c.cap.toNat)
structure Fits (m : Model) (s : List Int) : Prop where
 len : s.length = cellN m
 queue : ∀ i (h : i < m.chans.length), QueueOk m.scalars m.chans[i] (chanPart m i m.chans[i] s)
 cell : ∀ i (h : i < s.length) (h' : i < (lC m).length), (lC m)[i].lo ≤ s[i] ∧ s[i] ≤ (lC m)[i].hi
def Right (m : Model) (s : List Int) : Prop := (check m).why = 0 ∧ Fits m s
def atCount (m : Model) (s : List Int) (p : Int) (l : Int) (k : Nat) : Nat := ((List.range k).filter fun i => decide (((insts m)[i]?.map (·.proc)) = some p ∧ s[iAt m i]? = some l)).length
def atRow (m : Model) (s : List Int) (p : Nat) (n : Int) (k : Nat) : List Int := (List.range n.toNat).map fun (l : Nat) => ((atCount m s (p : Int) (l : Int) k : Nat) : Int)
def spokenLocals (m : Model) (s : List Int) (inst : Int) : List Int × Int :=
 match nth (insts m) inst with
 | some x => ((s.drop (iAt m inst.toNat + 1)).take ((instBds m x).length - 1), x.elem)
 | none => ([], 0)
def spoken (m : Model) (s : List Int) (inst : Int) : Env :=
 ⟨(List.range m.vars.length).map fun i => (s.drop (vAt m i)).take (vT m)[i]!.length,
  (List.range m.chans.length).map fun i => s[cAt m i]!,
  (spokenLocals m s inst).1,
  (List.range m.procs.length).map fun i => atRow m s i (m.procs[i]?.map (·.locs) |>.getD 0) (insts m).length,
  (spokenLocals m s inst).2⟩
def val : List Nat → Nat
 | [] => 0
 | d :: r => d + 256 * val r
def dig (n : Nat) : List Nat := if h : n = 0 then [] else n % 256 :: dig (n / 256)
termination_by n
decreasing_by omega
theorem dig_zero : dig 0 = [] := by rw [dig]; simp
theorem dig_pos {n : Nat} (h : n ≠ 0) : dig n = n % 256 :: dig (n / 256) := by rw [dig]; simp [h]
theorem dig_lt (n : Nat) : ∀ d ∈ dig n, d < 256 := by
 induction n using Nat.strongRecOn with
 | _ n ih =>
  intro d hd
  by_cases h : n = 0
  ·subst h; rw [dig_zero] at hd; cases hd
  ·rw [dig_pos h] at hd
   rcases List.mem_cons.1 hd with rfl | hd
   ·omega
   ·exact ih (n / 256) (by omega) d hd
theorem dig_mono {a b : Nat} (h : a ≤ b) : (dig a).length ≤ (dig b).length := by
 induction b using Nat.strongRecOn generalizing a with
 | _ b ih =>
  by_cases ha : a = 0
  ·subst ha; rw [dig_zero]; simp
  ·rw [dig_pos ha, dig_pos (show b ≠ 0 by omega), List.length_cons, List.length_cons]
   have := ih (b / 256) (by omega) (a := a / 256) (by omega)
   omega
theorem val_app : ∀ (a b : List Nat), val (a ++ b) = val a + 256 ^ a.length * val b
 | [], b => by simp [val]
 | x :: r, b => by
  simp only [List.cons_append, val, val_app r b, List.length_cons, Nat.pow_succ]
  rw [Nat.mul_add, Nat.mul_comm (256 ^ r.length) 256, Nat.mul_assoc]
  omega
theorem dig_len_le {n k : Nat} (h : n < 256 ^ k) : (dig n).length ≤ k := by
 induction k generalizing n with
 | zero =>
  have : n = 0 := by simpa using h
  subst this
  rw [dig_zero]; simp
 | succ k ih =>
  by_cases h0 : n = 0
  ·subst h0; rw [dig_zero]; simp
  ·rw [dig_pos h0, List.length_cons]
   have := ih (n := n / 256) (by rw [Nat.pow_succ] at h; omega)
   omega
def numFrom : List Cell → List Int → Nat → Nat
 | x :: r, v :: s, n => numFrom r s (n * (x.hi - x.lo + 1).toNat + (v - x.lo).toNat)
 | _, _, n => n
def num (m : Model) (s : List Int) : Nat := numFrom (lC m) s 0
def most (m : Model) : Nat := num m ((lC m).map (·.hi))
def byteN (m : Model) : Nat := (dig (most m)).length
def fixed (k n : Nat) : List Nat := dig n ++ List.replicate (k - (dig n).length) 0
def bytes (m : Model) (s : List Int) : List Nat := (fixed (byteN m) (num m s)).reverse
def InR : List Cell → List Int → Prop
 | x :: r, v :: s => (x.lo ≤ v ∧ v ≤ x.hi) ∧ InR r s
 | [], [] => True
 | _, _ => False
theorem numFrom_mono : ∀ {cs : List Cell} {s t : List Int} {a b : Nat}, InR cs s → (∀ x ∈ cs, x.lo ≤ x.hi) → t = cs.map (·.hi) → a ≤ b → numFrom cs s a ≤ numFrom cs t b
 | [], [], _, a, b, _, _, ht, h => by subst ht; simpa [numFrom] using h
 | x :: r, v :: s, _, a, b, hi, hle, ht, h => by
  subst ht
  simp only [List.map_cons, numFrom]
  refine numFrom_mono hi.2 (fun y hy => hle y (by simp [hy])) rfl ?_
  have h1 := hi.1
  have h2 := Nat.mul_le_mul_right (x.hi - x.lo + 1).toNat h
  omega
 | [], _ :: _, _, _, _, h, _, _, _ => h.elim
 | _ :: _, [], _, _, _, h, _, _, _ => h.elim
theorem numFrom_app : ∀ (cs : List Cell) (s : List Int) (x : Cell) (v : Int) (n : Nat), cs.length = s.length → numFrom (cs ++ [x]) (s ++ [v]) n = numFrom cs s n * (x.hi - x.lo + 1).toNat + (v - x.lo).toNat
 | [], [], x, v, n, _ => by simp [numFrom]
 | y :: r, u :: s, x, v, n, h => by
  simp only [List.cons_append, numFrom]
  exact numFrom_app r s x v _ (by simpa using h)
 | [], _ :: _, _, _, _, h => by simp at h
 | _ :: _, [], _, _, _, h => by simp at h
end Abs
namespace Abs
def backs : List Cell → Nat → List Int × Nat
 | [], v => ([], v)
 | x :: r, v => ((x.lo + ((backs r v).2 % (x.hi - x.lo + 1).toNat : Nat)) :: (backs r v).1, (backs r v).2 / (x.hi - x.lo + 1).toNat)
theorem backs_len : ∀ (cs : List Cell) (v : Nat), (backs cs v).1.length = cs.length
 | [], _ => rfl
 | x :: r, v => by simp [backs, backs_len r v]
theorem inR_len : ∀ {cs : List Cell} {s : List Int}, InR cs s → cs.length = s.length
 | [], [], _ => rfl
 | _ :: _, _ :: _, h => by simp [inR_len h.2]
 | [], _ :: _, h => h.elim
 | _ :: _, [], h => h.elim
theorem inR_of : ∀ {cs : List Cell} {s : List Int}, s.length = cs.length → (∀ i (h : i < s.length) (h' : i < cs.length), cs[i].lo ≤ s[i] ∧ s[i] ≤ cs[i].hi) → InR cs s
 | [], [], _, _ => trivial
 | x :: r, v :: s, hl, h => ⟨h 0 (by simp) (by simp), inR_of (by simpa using hl) fun i h1 h2 => h (i + 1) (by simpa using h1) (by simpa using h2)⟩
 | [], _ :: _, hl, _ => by simp at hl
 | _ :: _, [], hl, _ => by simp at hl
theorem Fits.inR {m : Model} {s : List Int} (h : Fits m s) : InR (lC m) s := inR_of h.len h.cell
theorem layCells_le {m : Model} (h : MayBe m) : ∀ x ∈ lC m, x.lo ≤ x.hi := fun x hx => by
 obtain ⟨i, hi, rfl⟩ := List.mem_iff_getElem.1 hx
 exact (cell_ok h hi).le
theorem num_le {m : Model} (h : MayBe m) {s : List Int} (hs : InR (lC m) s) : (dig (num m s)).length ≤ byteN m :=
 dig_mono (numFrom_mono hs (layCells_le h) rfl (Nat.le_refl _))
end Abs
end
section
namespace Go.Proofs.YtglnobabdcoknaaGreatDoor
open Go Go.RowKit Lite
abbrev Nums (w : World) (v : Value) (l : List Int) : Prop := SlR 1 (Flat encN) w v l
structure ReaderAt (w : World) (b : Nat) (m : Abs.Model) : Prop where
 ex : ∃ xs cs vi, w.heap[b]? = some (.cells (xs ++ cs ++ [vi]).toArray T.ar) ∧ Abs.LayIs w xs (Abs.layout m) ∧ Abs.MI w cs m ∧ InstsAt w vi (Abs.insts m)
theorem ReaderAt.ext {w w' : World} {b : Nat} {m : Abs.Model} (he : Ext w w') (h : ReaderAt w b m) : ReaderAt w' b m :=
 let ⟨xs, cs, vi, h0, h1, h2, h3⟩ := h.ex; ⟨xs, cs, vi, he.obj h0, h1.ext he, h2.ext he, h3.ext Flat.ext he⟩
theorem read_r (cs : List Value) (m : Abs.Model) (w : World) (h : Abs.MI w cs m) (hg : m.good) (ho : OwnIs w) :
  Ret Tryz.prog F.j #[.agg cs.toArray] w fun v w' => ((v = .pointer none ∧ ¬ (Abs.check m).why = 0) ∨ (∃ b, v = .pointer (some ⟨b, 0, none⟩) ∧ (Abs.check m).why = 0 ∧ ReaderAt w' b m)) ∧ Ext w w' := by
 have hM := h
 obtain ⟨o0, c0, o1, c1, o2, c2, o3, c3, o4, c4, rfl, _⟩ := h.form
 refine Ks E.j ?_; dsimp only [C.j]; refine Yy ?_
 refine Sg ?_
 intro w1 b1 hb1 he1 hc1
 refine Sg ?_
 refine K.call (mcheck_r _ m w1 (hM.ext he1) hg (ho.ext he1)) ?_
 rintro _ w2 ⟨rfl, he2⟩
 replace hc1 := he2.obj hc1
 have e2 := he1.trans he2
 refine Sg ?_
 refine K.fld (v := .int .i64 (Abs.check m).why) rfl ?_
 refine Sg ?_
 refine K.cond (fun hk => ?_) (fun hk => ?_)
 rotate_left
 ·refine Sg ?_
  exact ⟨.inl ⟨Tr, hk⟩, e2⟩
 refine Sg ?_
 intro w3 he3
 replace hc1 := he3.obj hc1
 have e3 := e2.trans he3
 refine Sg ?_
 refine K.call (layOf_r _ m w3 (hM.ext e3) hg (ho.ext e3)) ?_
 rintro _ w4 ⟨⟨xs, rfl, hL⟩, he4⟩
 replace hL := hL.here
 rw [Abs.lay_ok hk] at hL
 obtain ⟨x0, d0, x1, d1, x2, d2, x3, d3, x4, d4, rfl, _⟩ := hL.form
 have e4 := e3.trans he4
 refine ⟨he4, ?_⟩
 refine Sg ?_
 refine K.call (insts_r _ m w4 (hM.ext e4) hg) ?_
 rintro vi w5 ⟨hvi, he5⟩
 obtain ⟨oi, ci, rfl, _⟩ := hvi.form
 have e5 := e4.trans he5
 refine ⟨he4.trans he5, ?_⟩
 refine Sg ?_
 intro w6 b6 hb6 he6 hc6
 refine Sg ?_
 exact ⟨.inr ⟨b6, rfl, hk, ⟨_, _, _, hc6, hL.ext (he5.trans he6), hM.ext (e5.trans he6), OwR.slF (enc := Abs.Inst.enc) (fun _ => rfl) (hvi.ext he6)⟩⟩, e5.trans he6⟩
end Go.Proofs.YtglnobabdcoknaaGreatDoor
end
section
namespace Abs
theorem queue_iff {s : List Scalar} {c : Chan} {l : List Int} (hl : l.length = 1 + c.cap.toNat) (h0 : 1 ≤ c.cap) : QueueOk s c l ↔ (0 ≤ l[0]'(by omega) ∧ l[0]'(by omega) ≤ c.cap ∧ ∀ k (h : k + 1 < l.length), ((k : Int) < l[0]'(by omega) → (bdOf c.scalar c.lo c.hi s).lo ≤ l[k + 1] ∧ l[k + 1] ≤ (bdOf c.scalar c.lo c.hi s).hi) ∧ (l[0]'(by omega) ≤ k → l[k + 1] = 0)) := by
 unfold QueueOk
 constructor
 ·rintro ⟨n, h1, h2, h3, h4⟩
  obtain ⟨_, rfl⟩ := List.getElem?_eq_some_iff.1 h1
  refine ⟨h2, h3, fun k h => ?_⟩
  obtain ⟨x, h5, h6⟩ := h4 k (by omega)
  obtain ⟨_, rfl⟩ := List.getElem?_eq_some_iff.1 h5
  exact h6
 ·rintro ⟨h2, h3, h4⟩
  exact ⟨l[0]'(by omega), List.getElem?_eq_getElem _, h2, h3, fun k h => ⟨l[k + 1]'(by omega), List.getElem?_eq_getElem _, h4 k (by omega)⟩⟩
end Abs
namespace Go.Proofs.YtglnobabdcoknaaGreatDoor
open Go Go.RowKit Lite
theorem ReaderAt.form {w : World} {b : Nat} {m : Abs.Model} (h : ReaderAt w b m) : ∃ o0 c0 o1 c1 o2 c2 o3 c3 o4 c4 p0 d0 p1 d1 p2 d2 p3 d3 p4 d4 oi ci,
  w.heap[b]? = some (.cells #[.slice o0 (Abs.layout m).vars.length c0, .slice o1 (Abs.layout m).chans.length c1, .slice o2 (Abs.layout m).insts.length c2, .int .i64 (Abs.layout m).cells, .slice o3 (Abs.layout m).lo.length c3, .slice o4 (Abs.layout m).hi.length c4,
   .slice p0 m.scalars.length d0, .slice p1 m.vars.length d1, .slice p2 m.chans.length d2, .slice p3 m.procs.length d3, .slice p4 m.props.length d4, .slice oi (Abs.insts m).length ci] T.ar) ∧
  SlR 1 (Flat encN) w (.slice o0 (Abs.layout m).vars.length c0) (Abs.layout m).vars ∧ SlR 1 (Flat encN) w (.slice o1 (Abs.layout m).chans.length c1) (Abs.layout m).chans ∧ SlR 1 (Flat encN) w (.slice o2 (Abs.layout m).insts.length c2) (Abs.layout m).insts ∧
  SlR 1 (Flat encN) w (.slice o3 (Abs.layout m).lo.length c3) (Abs.layout m).lo ∧ SlR 1 (Flat encN) w (.slice o4 (Abs.layout m).hi.length c4) (Abs.layout m).hi ∧
  Abs.Scalars w (.slice p0 m.scalars.length d0) m.scalars ∧ Abs.Vars w (.slice p1 m.vars.length d1) m.vars ∧ Abs.Chans w (.slice p2 m.chans.length d2) m.chans ∧ Abs.Procs w (.slice p3 m.procs.length d3) m.procs ∧
  InstsAt w (.slice oi (Abs.insts m).length ci) (Abs.insts m) := by
 obtain ⟨xs, cs, vi, hb, hL, hM, hI⟩ := h.ex
 obtain ⟨o0, c0, o1, c1, o2, c2, o3, c3, o4, c4, rfl, r0, r1, r2, r3, r4⟩ := hL.form
 obtain ⟨p0, d0, p1, d1, p2, d2, p3, d3, p4, d4, rfl, h0, h1, h2, h3, h4, _⟩ := hM.form
 obtain ⟨oi, ci, rfl, _⟩ := hI.form
 exact ⟨o0, c0, o1, c1, o2, c2, o3, c3, o4, c4, p0, d0, p1, d1, p2, d2, p3, d3, p4, d4, oi, ci, hb, r0, r1, r2, r3, r4, h0, h1, h2, h3, hI⟩
theorem queue_r (b i : Nat) (v : Value) (s : List Int) (m : Abs.Model) (w : World) (hr : ReaderAt w b m) (hM : Abs.MayBe m) (hi : i < m.chans.length) (hs : Nums w v s) (hl : s.length = Abs.cellN m) :
  Ret Tryz.prog F.cs #[.pointer (some ⟨b, 0, none⟩), .int .i64 i, v] w fun u w' => (∃ t : Bool, u = .bool t ∧ (t = true ↔ Abs.QueueOk m.scalars m.chans[i] (Abs.chanPart m i m.chans[i] s))) ∧ Ext w w' := by
 obtain ⟨o0, c0, o1, c1, o2, c2, o3, c3, o4, c4, p0, d0, p1, d1, p2, d2, p3, d3, p4, d4, oi, ci, hb, r0, r1, r2, r3, r4, h0, h1, h2, h3, hI⟩ := hr.form
 obtain ⟨ov, cv, rfl, lv⟩ := hs.form
 have hok := hM.chan _ (List.getElem_mem hi)
 have hcap := hok.cap
 have few := hM.few
 obtain ⟨hci, hce⟩ := Abs.cAt_get hi
 have hfit := Abs.cFit hi
 have hcn := Abs.cellN_eq m
 have h64 : Abs.cellN m ≤ 64 := Abs.layCells_le64 hM
 obtain ⟨ac, rfl⟩ := h2.addr (by omega)
 obtain ⟨a1, rfl⟩ := r1.addr (by omega)
 have hcv := (h2.at i hi).cells
 refine Ks E.cs ?_; dsimp only [C.cs]; refine Yy ?_
 refine Sr ?_
 intro w1 b7 hb7 he1 hc7
 replace hb := he1.obj hb
 replace h0 := h0.ext he1
 replace r1 := r1.ext Flat.ext he1
 replace hs := hs.ext Flat.ext he1
 clear hcv h1 h2 h3 hI r0 r2 r3 r4 hr
 refine Sr ?_
 refine K.qfn (.tuple #[.int .i64 (Abs.bdOf m.chans[i].scalar m.chans[i].lo m.chans[i].hi m.scalars).lo, .int .i64 (Abs.bdOf m.chans[i].scalar m.chans[i].lo m.chans[i].hi m.scalars).hi]) (fun w' e => by
  rw [show Abs.bdOf m.chans[i].scalar m.chans[i].lo m.chans[i].hi m.scalars = _ from Abs.bdOf_eq ⟨⟨#[]⟩, m.chans[i].scalar, 0, m.chans[i].lo, m.chans[i].hi, 0⟩ m.scalars]
  exact bounds_r ⟨⟨#[]⟩, m.chans[i].scalar, 0, m.chans[i].lo, m.chans[i].hi, 0⟩ _ m.scalars w' (h0.ext e)) ?_
 refine Sr ?_
 intro w2 he2
 replace hb := he2.obj hb
 replace r1 := r1.ext Flat.ext he2
 replace hs := hs.ext Flat.ext he2
 replace hc7 := he2.obj hc7
 have e2 := he1.trans he2
 obtain ⟨lo, hlo⟩ : ∃ lo, lo = (Abs.bdOf m.chans[i].scalar m.chans[i].lo m.chans[i].hi m.scalars).lo := ⟨_, rfl⟩
 obtain ⟨hi', hhi⟩ : ∃ hi, hi = (Abs.bdOf m.chans[i].scalar m.chans[i].lo m.chans[i].hi m.scalars).hi := ⟨_, rfl⟩
 rw [← hlo, ← hhi]
 refine Sr ?_
 refine K.slcB (k := .i64) (k' := .i64) (Abs.cAt m i) (Abs.cAt m i + (1 + m.chans[i].cap.toNat)) hs (by simp [ev_tmp, uA, hce]) (by simp [ev_tmp, uA, hce]; omega) (by omega) (by omega) fun o c hp => ?_
 rw [show Abs.cAt m i + (1 + m.chans[i].cap.toNat) - Abs.cAt m i = 1 + m.chans[i].cap.toNat from by omega] at hp ⊢
 obtain ⟨l, hL⟩ : ∃ l, l = Abs.chanPart m i m.chans[i] s := ⟨_, rfl⟩
 have hp : SlR 1 (Flat encN) w2 (.slice o (1 + m.chans[i].cap.toNat) c) l := by rw [hL]; exact hp
 have hll : l.length = 1 + m.chans[i].cap.toNat := hp.len.1.symm
 rw [← hL]
 obtain ⟨ap, rfl⟩ := hp.addr (by omega)
 refine Sr ?_
 intro w3 he3
 replace hp := hp.ext Flat.ext he3
 replace hc7 := he3.obj hc7
 have e3 := e2.trans he3
 have hq := Abs.queue_iff (s := m.scalars) (c := m.chans[i]) (l := l) hll hcap.1
 rw [← hlo, ← hhi] at hq
 refine Sr ?_
 refine K.ian 0 rfl (by omega) ?_
 refine Sr ?_
 apply K.cond <;> intro g1
 ·refine Sr ?_
  intro w4 he4
  exact ⟨⟨false, rfl, by simp only [Bool.false_eq_true, false_iff]; intro h; exact absurd (hq.1 h).1 (by omega)⟩, e3.trans he4⟩
 refine Sr ?_
 refine K.ian 0 rfl (by omega) ?_
 refine Sr ?_
 intro w4 he4
 replace hp := hp.ext Flat.ext he4
 replace hc7 := he4.obj hc7
 replace e3 := e3.trans he4
 apply K.cond <;> intro g2
 ·refine Sr ?_
  exact ⟨⟨false, rfl, by simp only [Bool.false_eq_true, false_iff]; intro h; exact absurd (hq.1 h).2.1 (by omega)⟩, e3⟩
 have ht := hp.tail 1 (by omega)
 refine Sr ?_
 refine K.slcD (k := .i64) 1 (by simp [ev_const]) ⟨by omega, hp.len.2.1⟩ ?_
 obtain ⟨ot, het⟩ : ∃ ot, ot = (if c = 1 then some ap else (some ap).map (·.add (1 * 1))) := ⟨_, rfl⟩
 rw [← het] at ht ⊢
 have htl : (l.drop 1).length = m.chans[i].cap.toNat := by rw [List.length_drop]; omega
 rw [show 1 + m.chans[i].cap.toNat - 1 = m.chans[i].cap.toNat from by omega] at ht ⊢
 refine Sr ?_
 refine K.forG 74 m.chans[i].cap.toNat [7, 8, 9, 10, 72, 73] (fun _ : Unit => []) () (fun k _ W => Ext w4 W ∧ ∀ j (h : j + 1 < l.length), j < k → ((j : Int) < l[0] → lo ≤ l[j + 1] ∧ l[j + 1] ≤ hi') ∧ (l[0] ≤ j → l[j + 1] = 0)) hZq hZq ⟨Ext.refl _, fun j _ h => absurd h (Nat.not_lt_zero _)⟩ ?_
 have hc7' := hc7
 clear hc7
 rintro k _ S w5 hk ⟨he5, hall⟩
 have hc7 := he5.obj hc7'
 have e4 := e3.trans he5
 refine Sr ?_
 apply K.cond <;> intro g3
 ·have hk' : k < (l.drop 1).length := by omega
  have hk2 : k + 1 < l.length := by omega
  obtain ⟨at_, rfl⟩ := ht.addr (by omega)
  have hv : (l.drop 1)[k] = l[k + 1] := by simp [Nat.add_comm]
  have bad : ¬ (((k : Int) < l[0] → lo ≤ l[k + 1] ∧ l[k + 1] ≤ hi') ∧ (l[0] ≤ k → l[k + 1] = 0)) → (false = true ↔ Abs.QueueOk m.scalars m.chans[i] l) := fun h => by
   simp only [Bool.false_eq_true, false_iff]
   exact fun hh => h ((hq.1 hh).2.2 k hk2)
  refine Sr ?_
  refine K.ian 0 rfl (by omega) ?_
  refine Sr ?_
  apply K.cond <;> intro g4
  ·refine Sr ?_
   apply K.cond <;> intro g5
   ·refine Sr ?_
    exact ⟨⟨false, rfl, bad fun h => by have := h.1 g4; omega⟩, e4⟩
   refine Sr ?_
   apply K.cond <;> intro g6
   ·refine Sr ?_
    exact ⟨⟨false, rfl, bad fun h => by have := h.1 g4; omega⟩, e4⟩
   refine Sr ?_
   refine K.ian 0 rfl (by omega) ?_
   refine Sr ?_
   refine ⟨by omega, Tr, (), trivial, he5, fun j h hj => ?_⟩
   by_cases hjk : j = k
   ·subst hjk
    exact ⟨fun _ => by omega, fun _ => by omega⟩
   ·exact hall j h (by omega)
  ·refine Sr ?_
   refine K.ian 0 rfl (by omega) ?_
   refine Sr ?_
   apply K.cond <;> intro g5
   ·refine Sr ?_
    refine ⟨by omega, Tr, (), trivial, he5, fun j h hj => ?_⟩
    by_cases hjk : j = k
    ·subst hjk
     exact ⟨fun _ => by omega, fun _ => by omega⟩
    ·exact hall j h (by omega)
   ·refine Sr ?_
    exact ⟨⟨false, rfl, bad fun h => by have := h.2 (by omega); omega⟩, e4⟩
 ·refine Sr ?_
  exact ⟨⟨true, rfl, by simp only [true_iff]; exact hq.2 ⟨by omega, by omega, fun j h => hall j h (by omega)⟩⟩, e4⟩
end Go.Proofs.YtglnobabdcoknaaGreatDoor
end
section
namespace Abs
theorem layout_lo_len (m : Model) : (layout m).lo.length = (lC m).length := by simp [layout, layOf]
theorem layout_hi_len (m : Model) : (layout m).hi.length = (lC m).length := by simp [layout, layOf]
theorem layout_lo_get {m : Model} {c : Nat} (h : c < (layout m).lo.length) (h' : c < (lC m).length) : (layout m).lo[c] = (lC m)[c].lo := by simp [layout, layOf]
theorem layout_hi_get {m : Model} {c : Nat} (h : c < (layout m).hi.length) (h' : c < (lC m).length) : (layout m).hi[c] = (lC m)[c].hi := by simp [layout, layOf]
theorem layout_lens (m : Model) : (layout m).vars.length = m.vars.length ∧ (layout m).chans.length = m.chans.length ∧ (layout m).insts.length = (insts m).length := by
 refine ⟨?_, ?_, ?_⟩ <;> simp [layout, layOf, starts_len, vT, cT, iT]
end Abs
end