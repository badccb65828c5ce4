/- Texts joined: ModB ModE ModF LiteD CodeD ModG ModK Open2 CmdD ModN ModL NamA NamB NamC NamD ModH ModQ LiteJ. -/
import Derived.Test.YtbbaokmelkiemaaGreatDoorQd
import Derived.Test.YtbbaokmelkiemaaGreatDoorQe
import Derived.Test.YtbbaokmelkiemaaGreatDoorQf
import Derived.Test.YtbbaokmelkiemaaGreatDoorQg
import Derived.Test.YtbbaokmelkiemaaGreatDoorQh
import Derived.Test.YtbbaokmelkiemaaGreatDoorQi
import Derived.Defers
import Derived.Recover
set_option linter.all false
section
/- Whole models: how many pieces. -/
set_option maxRecDepth 4000
set_option maxHeartbeats 6400000
namespace Abs
structure Few (m : Model) : Prop where
  v : m.vars.length ≤ 1000000
  c : m.chans.length ≤ 1000000
  p : m.procs.length ≤ 1000000
  i : ∀ p ∈ m.procs, p.vars.length ≤ 1000000 ∧ p.cmds.length ≤ 1000000
def c1 (m : Model) (k : Nat) : Int := sumI ((m.vars.take k).map fun v => cells v m.scalars)
def c2 (m : Model) (k : Nat) : Int := sumI ((m.chans.take k).map ccap)
def i1 (m : Model) (k : Nat) : Int := sumI ((m.procs.take k).map (pinsts m))
def i2 (m : Model) (k : Nat) : Int := sumI ((m.procs.take k).map fun p => pinsts m p * p.cmds.length)
def i3 (m : Model) (k : Nat) : Int := sumI ((m.procs.take k).map fun p => pinsts m p * (1 + p.vars.length))
theorem mem_of_take {α : Type} {l : List α} {k : Nat} {x : α} (h : x ∈ l.take k) : x ∈ l := List.mem_of_mem_take h
theorem c1_le {m : Model} (h : Few m) (k : Nat) : 0 ≤ c1 m k ∧ c1 m k ≤ 4000000 := by
  have := sumI_le (fun v => cells v m.scalars) 4 (by decide) (m.vars.take k) fun v _ => cells_le v _
  have h1 := h.v
  have h2 : (m.vars.take k).length ≤ m.vars.length := by simp; omega
  unfold c1
  omega
theorem c2_le {m : Model} (h : Few m) (k : Nat) : 0 ≤ c2 m k ∧ c2 m k ≤ 5000000 := by
  have := sumI_le ccap 5 (by decide) (m.chans.take k) fun c _ => by have := ccap_le c; omega
  have h1 := h.c
  have h2 : (m.chans.take k).length ≤ m.chans.length := by simp; omega
  unfold c2
  omega
theorem i1_le {m : Model} (h : Few m) (k : Nat) : 0 ≤ i1 m k ∧ i1 m k ≤ 4000000 := by
  have := sumI_le (pinsts m) 4 (by decide) (m.procs.take k) fun p _ => pinsts_le m p
  have h1 := h.p
  have h2 : (m.procs.take k).length ≤ m.procs.length := by simp; omega
  unfold i1
  omega
theorem mul_le {a b : Int} (ha : 0 ≤ a ∧ a ≤ 4) (hb : 0 ≤ b ∧ b ≤ 1000001) : 0 ≤ a * b ∧ a * b ≤ 4000004 := by
  have : a = 0 ∨ a = 1 ∨ a = 2 ∨ a = 3 ∨ a = 4 := by omega
  rcases this with rfl | rfl | rfl | rfl | rfl <;> omega
theorem i2_le {m : Model} (h : Few m) (k : Nat) : 0 ≤ i2 m k ∧ i2 m k ≤ 4000004000000 := by
  have := sumI_le (fun p => pinsts m p * p.cmds.length) 4000004 (by decide) (m.procs.take k) fun p hp => mul_le (pinsts_le m p) (by have := (h.i p (mem_of_take hp)).2; omega)
  have h1 := h.p
  have h2 : (m.procs.take k).length ≤ m.procs.length := by simp; omega
  unfold i2
  omega
theorem i3_le {m : Model} (h : Few m) (k : Nat) : 0 ≤ i3 m k ∧ i3 m k ≤ 4000004000000 := by
  have := sumI_le (fun p => pinsts m p * (1 + p.vars.length)) 4000004 (by decide) (m.procs.take k) fun p hp => mul_le (pinsts_le m p) (by have := (h.i p (mem_of_take hp)).1; omega)
  have h1 := h.p
  have h2 : (m.procs.take k).length ≤ m.procs.length := by simp; omega
  unfold i3
  omega
theorem c1_succ {m : Model} {k : Nat} (h : k < m.vars.length) : c1 m (k + 1) = c1 m k + cells m.vars[k] m.scalars := sumI_take _ _ h
theorem c2_succ {m : Model} {k : Nat} (h : k < m.chans.length) : c2 m (k + 1) = c2 m k + ccap m.chans[k] := sumI_take _ _ h
theorem i1_succ {m : Model} {k : Nat} (h : k < m.procs.length) : i1 m (k + 1) = i1 m k + pinsts m m.procs[k] := sumI_take _ _ h
theorem i2_succ {m : Model} {k : Nat} (h : k < m.procs.length) : i2 m (k + 1) = i2 m k + pinsts m m.procs[k] * m.procs[k].cmds.length := sumI_take _ _ h
theorem i3_succ {m : Model} {k : Nat} (h : k < m.procs.length) : i3 m (k + 1) = i3 m k + pinsts m m.procs[k] * (1 + m.procs[k].vars.length) := sumI_take _ _ h
theorem pieces_eq (m : Model) {a b c : Nat} (ha : m.vars.length ≤ a) (hb : m.chans.length ≤ b) (hc : m.procs.length ≤ c) : pieces m = (i1 m c, i2 m c, c1 m a + c2 m b + i3 m c) := by
  unfold pieces i1 i2 i3 c1 c2
  rw [List.take_of_length_le ha, List.take_of_length_le hb, List.take_of_length_le hc]
end Abs
namespace Go.Proofs.YtbbaokmelkiemaaGreatDoor
open Go Go.RowKit Lite
theorem pieces_r (cs : List Value) (m : Abs.Model) (w : World) (h : Abs.ModelIs w cs m) (hf : Abs.Few m) :
    Ret Tryz.prog F.model_Pieces #[.agg cs.toArray] w fun v w' => v = .tuple #[.int .i64 (Abs.pieces m).1, .int .i64 (Abs.pieces m).2.1, .int .i64 (Abs.pieces m).2.2] ∧ Ext w w' := by
  obtain ⟨o0, c0, o1, c1, o2, c2, o3, c3, o4, c4, rfl, h0, h1, h2, h3, h4, l0, l1, l2, l3, l4⟩ := h.form
  refine K.start hmix E.model_Pieces (args := [_]) (Nat.le_of_ble_eq_true rfl) ?_; dsimp only [C.model_Pieces,yt,yi,yb,yp,yr,ye,yc,yv,yg,ym,yw,ya,yl,yx,ys,yn]
  refine Sg ?_
  intro w1 b1 hb1 he1 hc1
  have hcw := hc1
  clear hc1
  refine Sg ?_
  refine K.forG 18 m.vars.length [1, 5, 6, 16, 17] (fun s : Int => [(7, .int .i64 s)]) 0 (fun k s w' => Ext w1 w' ∧ s = Abs.c1 m k) (by first | trivial | rfl | exact ⟨rfl, trivial⟩ | (simp -dsimp only [LL,slots_nil,slots_cons,keepV_nil,keepV_cons,has_nil,has_cons,Nat.reduceAdd,Nat.reduceEqDiff,reduceIte,and_self]; done) | (simp -dsimp only [LL,slots_nil,slots_cons,keepV_nil,keepV_cons,has_nil,has_cons,Nat.reduceAdd,Nat.reduceEqDiff,reduceIte,and_self]; exact ⟨rfl, trivial⟩)) (by first | trivial | rfl | exact ⟨rfl, trivial⟩ | (simp -dsimp only [LL,slots_nil,slots_cons,keepV_nil,keepV_cons,has_nil,has_cons,Nat.reduceAdd,Nat.reduceEqDiff,reduceIte,and_self]; done) | (simp -dsimp only [LL,slots_nil,slots_cons,keepV_nil,keepV_cons,has_nil,has_cons,Nat.reduceAdd,Nat.reduceEqDiff,reduceIte,and_self]; exact ⟨rfl, trivial⟩)) ⟨Ext.refl _, by simp [Abs.c1, Abs.sumI]⟩ ?_
  rintro k _ S w2 hk ⟨he2, rfl⟩
  have hc1 := he2.obj hcw
  have E2 : ∀ {w'}, Ext w2 w' → Ext w w' := fun e => (he1.trans he2).trans e
  refine Sg ?_
  refine K.cond (fun g1 => ?_) (fun g1 => ?_)
  · have hk' : k < m.vars.length := by omega
    obtain ⟨a, rfl⟩ := h1.addr (by omega)
    have hcv := ((h1.at k hk').cells).ext (E2 (Ext.refl _))
    refine Sg ?_
    intro w3 b3 hb3 he3 hc3
    replace hc1 := he3.obj hc1
    refine Sg ?_
    refine K.call (cells_r m.vars[k] _ m.scalars w3 (h0.ext (E2 he3))) ?_
    rintro _ w4 ⟨rfl, he4⟩
    have q1 := Abs.c1_le hf k
    have q2 := Abs.cells_le m.vars[k] m.scalars
    refine Sg ?_
    exact ⟨hk', by first | trivial | rfl, _, (by first | trivial | rfl | exact ⟨rfl, trivial⟩ | (simp -dsimp only [LL,slots_nil,slots_cons,keepV_nil,keepV_cons,has_nil,has_cons,Nat.reduceAdd,Nat.reduceEqDiff,reduceIte,and_self]; done) | (simp -dsimp only [LL,slots_nil,slots_cons,keepV_nil,keepV_cons,has_nil,has_cons,Nat.reduceAdd,Nat.reduceEqDiff,reduceIte,and_self]; exact ⟨rfl, trivial⟩)), (he2.trans he3).trans he4, (Abs.c1_succ hk').symm⟩
  have hkv : m.vars.length ≤ k := by omega
  refine Sg ?_
  refine K.forG 32 m.chans.length [1, 5, 6, 30, 31] (fun s : Int => [(7, .int .i64 s)]) (Abs.c1 m k) (fun j s w' => Ext w1 w' ∧ s = Abs.c1 m k + Abs.c2 m j) (by first | trivial | rfl | exact ⟨rfl, trivial⟩ | (simp -dsimp only [LL,slots_nil,slots_cons,keepV_nil,keepV_cons,has_nil,has_cons,Nat.reduceAdd,Nat.reduceEqDiff,reduceIte,and_self]; done) | (simp -dsimp only [LL,slots_nil,slots_cons,keepV_nil,keepV_cons,has_nil,has_cons,Nat.reduceAdd,Nat.reduceEqDiff,reduceIte,and_self]; exact ⟨rfl, trivial⟩)) (by first | trivial | rfl | exact ⟨rfl, trivial⟩ | (simp -dsimp only [LL,slots_nil,slots_cons,keepV_nil,keepV_cons,has_nil,has_cons,Nat.reduceAdd,Nat.reduceEqDiff,reduceIte,and_self]; done) | (simp -dsimp only [LL,slots_nil,slots_cons,keepV_nil,keepV_cons,has_nil,has_cons,Nat.reduceAdd,Nat.reduceEqDiff,reduceIte,and_self]; exact ⟨rfl, trivial⟩)) ⟨he2, by simp [Abs.c2, Abs.sumI]⟩ ?_
  clear hc1 E2
  rintro j _ S' w3 hj ⟨he3, rfl⟩
  have hc1 := he3.obj hcw
  have E3 : ∀ {w'}, Ext w3 w' → Ext w w' := fun e => (he1.trans he3).trans e
  refine Sg ?_
  refine K.cond (fun g2 => ?_) (fun g2 => ?_)
  · have hj' : j < m.chans.length := by omega
    obtain ⟨a, rfl⟩ := h2.addr (by omega)
    have hcv := ((h2.at j hj').cells).ext (E3 (Ext.refl _))
    refine Sg ?_
    intro w4 b3 hb3 he4 hc3
    have q1 := Abs.c1_le hf k
    have q2 := Abs.c2_le hf j
    have q3 := Abs.ccap_le m.chans[j]
    unfold Abs.ccap at q3
    refine Sg ?_
    exact ⟨hj', by first | trivial | rfl, _, (by first | trivial | rfl | exact ⟨rfl, trivial⟩ | (simp -dsimp only [LL,slots_nil,slots_cons,keepV_nil,keepV_cons,has_nil,has_cons,Nat.reduceAdd,Nat.reduceEqDiff,reduceIte,and_self]; done) | (simp -dsimp only [LL,slots_nil,slots_cons,keepV_nil,keepV_cons,has_nil,has_cons,Nat.reduceAdd,Nat.reduceEqDiff,reduceIte,and_self]; exact ⟨rfl, trivial⟩)), he3.trans he4, by rw [Abs.c2_succ hj']; unfold Abs.ccap; omega⟩
  have hjc : m.chans.length ≤ j := by omega
  refine Sg ?_
  refine K.forG 47 m.procs.length [1, 45, 46] (fun s : Int × Int × Int => [(5, .int .i64 s.1), (6, .int .i64 s.2.1), (7, .int .i64 s.2.2)]) (0, 0, Abs.c1 m k + Abs.c2 m j)
    (fun i s w' => Ext w1 w' ∧ s = (Abs.i1 m i, Abs.i2 m i, Abs.c1 m k + Abs.c2 m j + Abs.i3 m i)) (by first | trivial | rfl | exact ⟨rfl, trivial⟩ | (simp -dsimp only [LL,slots_nil,slots_cons,keepV_nil,keepV_cons,has_nil,has_cons,Nat.reduceAdd,Nat.reduceEqDiff,reduceIte,and_self]; done) | (simp -dsimp only [LL,slots_nil,slots_cons,keepV_nil,keepV_cons,has_nil,has_cons,Nat.reduceAdd,Nat.reduceEqDiff,reduceIte,and_self]; exact ⟨rfl, trivial⟩)) (by first | trivial | rfl | exact ⟨rfl, trivial⟩ | (simp -dsimp only [LL,slots_nil,slots_cons,keepV_nil,keepV_cons,has_nil,has_cons,Nat.reduceAdd,Nat.reduceEqDiff,reduceIte,and_self]; done) | (simp -dsimp only [LL,slots_nil,slots_cons,keepV_nil,keepV_cons,has_nil,has_cons,Nat.reduceAdd,Nat.reduceEqDiff,reduceIte,and_self]; exact ⟨rfl, trivial⟩)) ⟨he3, by simp [Abs.i1, Abs.i2, Abs.i3, Abs.sumI]⟩ ?_
  clear hc1 E3
  rintro i _ S'' w4 hi ⟨he4, rfl⟩
  have hc1 := he4.obj hcw
  have E4 : ∀ {w'}, Ext w4 w' → Ext w w' := fun e => (he1.trans he4).trans e
  refine Sg ?_
  refine K.cond (fun g3 => ?_) (fun g3 => ?_)
  · have hi' : i < m.procs.length := by omega
    obtain ⟨a, rfl⟩ := h3.addr (by omega)
    obtain ⟨_, vv, vc, hp, hpv, hpc⟩ := h3.at i hi'
    obtain ⟨ov, cv, rfl, lv⟩ := hpv.form
    obtain ⟨oc, cc, rfl, lc⟩ := hpc.form
    replace hp := hp.ext (E4 (Ext.refl _))
    have hfi := hf.i _ (List.getElem_mem hi')
    refine Sg ?_
    intro w5 b3 hb3 he5 hc3
    replace hc1 := he5.obj hc1
    refine Sg ?_
    refine K.call (cells_r ⟨⟨#[]⟩, 0, m.procs[i].over, 0, 0, 0⟩ _ m.scalars w5 (h0.ext (E4 he5))) ?_
    rintro _ w6 ⟨rfl, he6⟩
    have hpi : Abs.cells ⟨⟨#[]⟩, 0, m.procs[i].over, 0, 0, 0⟩ m.scalars = Abs.pinsts m m.procs[i] := rfl
    rw [hpi]
    replace hc3 := he6.obj hc3
    have q1 := Abs.c1_le hf k
    have q2 := Abs.c2_le hf j
    have q3 := Abs.i1_le hf i
    have q4 := Abs.i2_le hf i
    have q5 := Abs.i3_le hf i
    have q6 := Abs.pinsts_le m m.procs[i]
    have q7 := Abs.mul_le q6 (b := m.procs[i].cmds.length) (by omega)
    have q8 := Abs.mul_le q6 (b := 1 + m.procs[i].vars.length) (by omega)
    refine Sg ?_
    exact ⟨hi', by first | trivial | rfl, (_, _, _), (by first | exact ⟨rfl, rfl, rfl, trivial⟩ | exact ⟨rfl, rfl, trivial⟩ | (simp -dsimp only [LL,slots_nil,slots_cons,keepV_nil,keepV_cons,has_nil,has_cons,Nat.reduceAdd,Nat.reduceEqDiff,reduceIte,and_self]; exact ⟨rfl, rfl, rfl, trivial⟩) | (simp -dsimp only [LL,slots_nil,slots_cons,keepV_nil,keepV_cons,has_nil,has_cons,Nat.reduceAdd,Nat.reduceEqDiff,reduceIte,and_self]; exact ⟨rfl, rfl, trivial⟩)), (he4.trans he5).trans he6, by rw [Abs.i1_succ hi', Abs.i2_succ hi', Abs.i3_succ hi']; exact Prod.ext rfl (Prod.ext rfl (Int.add_assoc _ _ _))⟩
  have hip : m.procs.length ≤ i := by omega
  refine Sg ?_
  exact ⟨by rw [Abs.pieces_eq m hkv hjc hip], E4 (Ext.refl _)⟩
end Go.Proofs.YtbbaokmelkiemaaGreatDoor
end
section
/- Whole models: processes. -/
set_option maxRecDepth 8000
set_option maxHeartbeats 16000000
namespace Go.Proofs.YtbbaokmelkiemaaGreatDoor
open Go Go.RowKit Lite
theorem TakSt.wrN {w0 w w' w'' : World} {bt b1 k : Nat} {cs : List Value} {L : List ByteArray} (h : TakSt w0 w bt b1 cs w' L) (hsz : w0.heap.size ≤ w.heap.size) (hw : Wr k w' w'') (hk : w.heap.size ≤ k) (h1 : b1 ≠ k) (h2 : bt ≠ k) : TakSt w0 w bt b1 cs w'' L :=
  ⟨hw.ext h.ext (Nat.le_trans hsz hk), h.mod.then (hw.mod (A := fun j => j = k) rfl) fun i hi e => absurd e (by omega), hw.obj h.box h1, h.set.wr hw h2, h.low, h.ne⟩
theorem processes_r {w0 : World} (cs : List Value) (m : Abs.Model) (bt : Nat) (w : World) (h : Abs.ModelIs w0 cs m) (hg : m.good) (e0 : Ext w0 w) (hbt : w0.heap.size ≤ bt) (ho : OwnIs w0) (hd : (Abs.data m).why = 0) (hs : SetAt w bt (Abs.nSVC m m.chans.length)) :
    RetT Tryz.prog F.model_processes #[.agg cs.toArray, .map (some bt)] w (fun _ w' => (Abs.procsF m).why = 0 ∧ Ext w0 w' ∧ Mod (fun k => k = bt) w w' ∧ SetAt w' bt (Abs.nSVCP m m.procs.length))
      (fun c w' => (Abs.procsF m).why ≠ 0 ∧ c = thrown (Abs.procsF m) ∧ Ext w0 w' ∧ Mod (fun k => k = bt) w w') := by
  have hM := h
  obtain ⟨o0, c0, o1, c1, o2, c2, o3, c3, o4, c4, rfl, h0, h1, h2, h3, h4, l0, l1, l2, l3, l4⟩ := h.form
  have hsz := e0.size
  refine K.startT hmix E.model_processes (args := [_, _]) (Nat.le_of_ble_eq_true rfl) ?_; dsimp only [C.model_processes,yt,yi,yb,yp,yr,ye,yc,yv,yg,ym,yw,ya,yl,yx,ys,yn]
  refine Sg ?_
  intro w1 b1 hb1 he1 hc1
  have st1 : TakSt w0 w bt b1 _ w1 (Abs.nSVC m m.chans.length) := ⟨e0.trans he1, he1.mod, hc1, hs.ext he1, hbt, by have := hs.lt; omega⟩
  have zt := hs.lt
  have z1 := lt_of_heap hc1
  clear hs hc1
  refine Sg ?_
  refine K.newM fun w2 ba hba he2 hm2 => ?_
  replace st1 := st1.then he2
  have sa : SetAt w2 ba [] := SetAt.empty hm2
  have z0 := he1.size
  have z2 := sa.lt
  clear hm2
  refine Sg ?_
  refine K.rngM (b := bt) rfl (k := T.string) (e := T.bool) (by kernel_rfl) st1.set fun w3 r n hr he3 hit => ?_
  replace st1 := st1.then he3
  replace sa := sa.ext he3
  have z4 := he2.size
  have z5 := hit.lt
  refine Sg ?_
  refine K.whG [1, 2, 4, 20] (fun _ : List ByteArray × Nat => []) ([], n) (fun x w' => TakSt w0 w bt b1 _ w' (Abs.nSVC m m.chans.length) ∧ SetAt w' ba x.1 ∧ ∃ cur, IterAt w' r bt (Abs.nSVC m m.chans.length) x.1 x.2 cur) (fun x => x.2) (by first | trivial | rfl | exact ⟨rfl, trivial⟩ | (simp -dsimp only [LL,slots_nil,slots_cons,keepV_nil,keepV_cons,has_nil,has_cons,Nat.reduceAdd,Nat.reduceEqDiff,reduceIte,and_self]; done) | (simp -dsimp only [LL,slots_nil,slots_cons,keepV_nil,keepV_cons,has_nil,has_cons,Nat.reduceAdd,Nat.reduceEqDiff,reduceIte,and_self]; exact ⟨rfl, trivial⟩)) ⟨st1, sa, _, hit⟩ ?_
  clear st1 sa hit
  rintro ⟨D, n'⟩ S w4 ⟨st4, sa, cur, hit⟩
  have hc1 := st4.box
  refine Sg ?_
  refine K.nxtM rfl hit (fun hall => ?_) (fun y w5 n2 hy hlt hw5 hit5 => ?_)
  rotate_left
  · have st5 := st4.wrN hsz hw5 (by omega) (by omega) (by omega)
    have sa5 := sa.wr hw5 (by omega)
    refine Sg ?_
    refine K.entM rfl hit5 ?_
    refine Sg ?_
    refine K.mupS sa5 fun w6 hw6 sa6 => ?_
    have st6 := st5.wrN hsz hw6 (by omega) (by omega) (by omega)
    have hit6 := hit5.wr hw6 (by omega) (by omega)
    refine Sg ?_
    exact ⟨(D ++ [y], n2), trivial, ⟨st6, sa6, _, hit6⟩, hlt⟩
  have sb : SetAt w4 ba (Abs.nSVCP m 0) := sa.re fun x => by
    have hsub := hit.sub
    simp only [Abs.nSVCP, Abs.nP, List.take_zero, List.map_nil, List.append_nil]
    exact ⟨fun hx => hsub x hx, fun hx => hall x hx⟩
  clear sa hit hall
  refine Sg ?_
  refine K.forG 30 m.procs.length [1, 2, 4, 28, 29] (fun _ : Unit => []) () (fun k _ w' => TakSt w0 w bt b1 _ w' (Abs.nSVC m m.chans.length) ∧ SetAt w' ba (Abs.nSVCP m k)) (by first | trivial | rfl | exact ⟨rfl, trivial⟩ | (simp -dsimp only [LL,slots_nil,slots_cons,keepV_nil,keepV_cons,has_nil,has_cons,Nat.reduceAdd,Nat.reduceEqDiff,reduceIte,and_self]; done) | (simp -dsimp only [LL,slots_nil,slots_cons,keepV_nil,keepV_cons,has_nil,has_cons,Nat.reduceAdd,Nat.reduceEqDiff,reduceIte,and_self]; exact ⟨rfl, trivial⟩)) (by first | trivial | rfl | exact ⟨rfl, trivial⟩ | (simp -dsimp only [LL,slots_nil,slots_cons,keepV_nil,keepV_cons,has_nil,has_cons,Nat.reduceAdd,Nat.reduceEqDiff,reduceIte,and_self]; done) | (simp -dsimp only [LL,slots_nil,slots_cons,keepV_nil,keepV_cons,has_nil,has_cons,Nat.reduceAdd,Nat.reduceEqDiff,reduceIte,and_self]; exact ⟨rfl, trivial⟩)) ⟨st4, sb⟩ ?_
  clear hc1 st4 sb
  rintro k _ S' w5 hk ⟨st5, sb⟩
  have hc1 := st5.box
  have e5 := st5.ext
  refine Sg ?_
  refine K.cond (fun g1 => ?_) (fun g1 => ?_)
  · have hk' : k < m.procs.length := by omega
    obtain ⟨a, rfl⟩ := h3.addr (by omega)
    obtain ⟨_, vv, vc, hp, hpv, hpc⟩ := h3.at k hk'
    obtain ⟨ov, cv, rfl, lv⟩ := hpv.form
    obtain ⟨oc, cc, rfl, lc⟩ := hpc.form
    replace hp := hp.ext e5
    refine Sg ?_
    intro w6 b7 hb7 he6 hc7
    have st6 := st5.then he6
    replace sb := sb.ext he6
    refine Sg ?_
    refine K.mupS sb fun w7 hw7 sb7 => ?_
    have st7 := st6.wrN hsz hw7 (by omega) (by omega) (by omega)
    refine Sg ?_
    exact ⟨hk', by first | trivial | rfl, (), trivial, st7, by simp only [Abs.nSVCP, Abs.nP]; rw [Abs.take_snocN (fun x : Abs.Proc => x.name) _ hk', ← List.append_assoc]; exact sb7⟩
  have sA : ∀ {w'}, SetAt w' ba (Abs.nSVCP m k) → SetAt w' ba (Abs.nSVCP m m.procs.length) := fun h => h.re fun x => by
    simp only [Abs.nSVCP, Abs.nP]; rw [List.take_of_length_le (by omega), List.take_of_length_le (Nat.le_refl _)]
  replace sb := sA sb
  clear sA
  replace st5 := st5.re (show _ = Abs.nSVCP m 0 by simp [Abs.nSVCP])
  refine Sg ?_
  refine K.forG 41 m.procs.length [1, 2, 4, 39, 40] (fun _ : Unit => []) () (fun k _ w' => TakSt w0 w bt b1 _ w' (Abs.nSVCP m k) ∧ SetAt w' ba (Abs.nSVCP m m.procs.length) ∧ ∀ j, j < k → (Abs.eproc m j).1 = 0) (by first | trivial | rfl | exact ⟨rfl, trivial⟩ | (simp -dsimp only [LL,slots_nil,slots_cons,keepV_nil,keepV_cons,has_nil,has_cons,Nat.reduceAdd,Nat.reduceEqDiff,reduceIte,and_self]; done) | (simp -dsimp only [LL,slots_nil,slots_cons,keepV_nil,keepV_cons,has_nil,has_cons,Nat.reduceAdd,Nat.reduceEqDiff,reduceIte,and_self]; exact ⟨rfl, trivial⟩)) (by first | trivial | rfl | exact ⟨rfl, trivial⟩ | (simp -dsimp only [LL,slots_nil,slots_cons,keepV_nil,keepV_cons,has_nil,has_cons,Nat.reduceAdd,Nat.reduceEqDiff,reduceIte,and_self]; done) | (simp -dsimp only [LL,slots_nil,slots_cons,keepV_nil,keepV_cons,has_nil,has_cons,Nat.reduceAdd,Nat.reduceEqDiff,reduceIte,and_self]; exact ⟨rfl, trivial⟩)) ⟨st5, sb, fun j h => absurd h (Nat.not_lt_zero _)⟩ ?_
  clear hc1 e5 st5 sb
  rintro k _ S2 w6 hk ⟨st6, sb, hz⟩
  have hc1 := st6.box
  have e6 := st6.ext
  have z6 := st6.mod.size
  refine Sg ?_
  refine K.cond (fun g1 => ?_) (fun g1 => ?_)
  · have hk' : k < m.procs.length := by omega
    obtain ⟨a, rfl⟩ := h3.addr (by omega)
    obtain ⟨hsn, vv, vc, hp, hpv, hpc⟩ := h3.at k hk'
    obtain ⟨ov, cv, rfl, lv⟩ := hpv.form
    obtain ⟨oc, cc, rfl, lc⟩ := hpc.form
    have hpg := hg.proc _ (List.getElem_mem hk')
    have hget := Abs.eproc_get hk'
    replace hp := hp.ext e6
    refine Sg ?_
    intro wN b9 hb9 heN hcN
    refine Su ?_
    intro w7 hw7 hc9
    have he7 := hw7.ext heN hb9
    have st7 := st6.then he7
    replace sb := sb.ext he7
    replace hc1 := st7.box
    have zb9 := lt_of_heap hc9
    have za := sb.lt
    have e7 := st7.ext
    clear hcN heN hw7
    refine Sg ?_
    refine K.cond (fun g2 => ?_) (fun g2 => ?_)
    · have h6 : 6 ≤ k := by omega
      rw [if_pos h6] at hget
      have hd2 := Abs.procs_i hk' hz (by rw [hget]; decide)
      rw [hget] at hd2
      refine Sg ?_
      refine K.thr (throw_r 11 4 k 0 w7) ?_ ?_
      · rintro _ _ ⟨h00, _⟩
        exact absurd h00 (by decide)
      · rintro c _ ⟨_, rfl, rfl⟩
        refine Sg ?_
        rw [hd2]
        exact ⟨(show (11 : Int) ≠ 0 by decide), by first | trivial | rfl, e7, st7.mod⟩
    rw [if_neg (by omega)] at hget
    refine Sg ?_
    intro w8 he8
    replace hc1 := he8.obj hc1
    replace hc9 := he8.obj hc9
    refine Sg ?_
    refine K.call (scope_r _ m k w8 (hM.ext (e7.trans he8)) hg) ?_
    rintro _ w9 ⟨⟨cs9, rfl, hn9⟩, he9⟩
    refine ⟨he9, ?_⟩
    have hsc := hn9.here
    obtain ⟨x0, y0, x1, y1, x2, y2, x3, y3, x4, y4, rfl, _⟩ := hsc.form
    refine Sg ?_
    refine K.call (pcheck_r m.procs[k] _ _ (Abs.pscope m k) w9 (ho.ext (e7.trans (he8.trans he9))) ⟨hsn, _, _, rfl, hpv.ext (e7.trans (he8.trans he9)), hpc.ext (e7.trans (he8.trans he9))⟩ hsc (hg.pscope _) hpg) ?_
    rintro _ w10 ⟨rfl, he10⟩
    have e710 := (he8.trans he9).trans he10
    have st10 := st7.then e710
    replace sb := sb.ext e710
    replace hc1 := st10.box
    replace hc9 := (he9.trans he10).obj hc9
    have zb10 := lt_of_heap hc9
    have za10 := sb.lt
    clear hsc hn9 st7 e7
    have e10 := st10.ext
    have hin := Abs.procCheck_in m.procs[k] (Abs.pscope m k) 140737488351232 fun c hc => by have := (hpg.cmd c hc).acts; unfold Abs.big at this; omega
    have hvb : m.procs[k].vars.length ≤ 140737488351232 := by have := hpg.vars; unfold Abs.big at this; omega
    have hcb : m.procs[k].cmds.length ≤ 140737488351232 := by have := hpg.cmds; unfold Abs.big at this; omega
    refine Sg ?_
    refine K.thr (throw_r (Abs.procCheck m.procs[k] (Abs.pscope m k)).2.2 4 k (16 * (Abs.procCheck m.procs[k] (Abs.pscope m k)).1 + (Abs.procCheck m.procs[k] (Abs.pscope m k)).2.1) w10) ?_ ?_
    rotate_left
    · rintro c _ ⟨h00, rfl, rfl⟩
      rw [if_pos h00] at hget
      have hd2 := Abs.procs_i hk' hz (by rw [hget]; exact h00)
      rw [hget] at hd2
      refine Sg ?_
      rw [hd2]
      exact ⟨h00, by first | trivial | rfl, e10, st10.mod⟩
    rintro _ wA ⟨h00, rfl⟩
    rw [if_neg (by simpa using h00)] at hget
    refine Sg ?_
    refine K.thr (take_r bt (Abs.nSVCP m k) m.procs[k].name 4 k wA st10.set) ?_ ?_
    rotate_left
    · rintro c _ ⟨hn, rfl, rfl⟩
      rw [if_pos hn] at hget
      have hd2 := Abs.procs_i hk' hz (by rw [hget]; decide)
      rw [hget] at hd2
      refine Sg ?_
      rw [hd2]
      exact ⟨(show (7 : Int) ≠ 0 by decide), by first | trivial | rfl, e10, st10.mod⟩
    rintro _ w11 ⟨hn, hw11, hs11⟩
    rw [if_neg hn] at hget
    have st11 : TakSt w0 w bt b1 _ w11 (Abs.nSVCP m (k + 1)) := (st10.wr hw11 hs11).re (by simp only [Abs.nSVCP, Abs.nP]; rw [Abs.take_snocN (fun x : Abs.Proc => x.name) _ hk', List.append_assoc])
    replace sb := sb.wr hw11 (by omega)
    replace hc1 := st11.box
    replace hc9 := hw11.obj hc9 (by omega)
    have e11 := st11.ext
    have z11 := hw11.size
    clear st10 e10
    refine Sg ?_
    refine K.forG 74 m.procs[k].vars.length [1, 2, 4, 8, 9, 39, 40, 41, 72, 73] (fun _ : Unit => []) () (fun j _ w' => TakSt w0 w bt b1 _ w' (Abs.nSVCP m (k + 1)) ∧ SetAt w' ba (Abs.nSVCP m m.procs.length) ∧ Ext w11 w' ∧ ∀ i, i < j → Abs.elocs m m.procs[k] i = 0) (by first | trivial | rfl | exact ⟨rfl, trivial⟩ | (simp -dsimp only [LL,slots_nil,slots_cons,keepV_nil,keepV_cons,has_nil,has_cons,Nat.reduceAdd,Nat.reduceEqDiff,reduceIte,and_self]; done) | (simp -dsimp only [LL,slots_nil,slots_cons,keepV_nil,keepV_cons,has_nil,has_cons,Nat.reduceAdd,Nat.reduceEqDiff,reduceIte,and_self]; exact ⟨rfl, trivial⟩)) (by first | trivial | rfl | exact ⟨rfl, trivial⟩ | (simp -dsimp only [LL,slots_nil,slots_cons,keepV_nil,keepV_cons,has_nil,has_cons,Nat.reduceAdd,Nat.reduceEqDiff,reduceIte,and_self]; done) | (simp -dsimp only [LL,slots_nil,slots_cons,keepV_nil,keepV_cons,has_nil,has_cons,Nat.reduceAdd,Nat.reduceEqDiff,reduceIte,and_self]; exact ⟨rfl, trivial⟩)) ⟨st11, sb, Ext.refl _, fun j h => absurd h (Nat.not_lt_zero _)⟩ ?_
    have hc11 := hc9
    clear st11 sb hc1 hc9 e11
    rintro j _ S3 w12 hj ⟨st12, sb, he12, hz2⟩
    have hc1 := st12.box
    have hc9 := he12.obj hc11
    have e12 := st12.ext
    refine Sg ?_
    refine K.cond (fun g3 => ?_) (fun g3 => ?_)
    · have hj' : j < m.procs[k].vars.length := by omega
      obtain ⟨a', rfl⟩ := hpv.addr (by omega)
      have hcv := ((hpv.at j hj').cells).ext e12
      have hnm := Abs.nameAt_get (f := fun x : Abs.Var => x.name) hj'
      refine Sg ?_
      intro wM b14 hb14 heM hcM
      refine Su ?_
      intro w13 hw13 hc14
      have he13 := hw13.ext heM hb14
      have st13 := st12.then he13
      replace sb := sb.ext he13
      replace hc1 := st13.box
      clear hcM heM hw13
      refine Sg ?_
      refine K.lkpS sb ?_
      refine Sg ?_
      refine K.cond (fun g4 => ?_) (fun g4 => ?_)
      · have hel : Abs.elocs m m.procs[k] j = 7 := by unfold Abs.elocs; rw [hnm, if_pos g4]
        rw [Abs.first_stop hj' hz2 (by rw [hel]; decide), hel, if_pos (show (7 : Int) ≠ 0 by decide)] at hget
        have hd2 := Abs.procs_i hk' hz (by rw [hget]; exact (show (7 : Int) ≠ 0 by decide))
        rw [hget] at hd2
        refine Sg ?_
        refine K.thr (throw_r 7 4 k (16 + j) w13) ?_ ?_
        · rintro _ _ ⟨h01, _⟩
          exact absurd h01 (by decide)
        · rintro c _ ⟨_, rfl, rfl⟩
          refine Sg ?_
          rw [hd2]
          exact ⟨(show (7 : Int) ≠ 0 by decide), by first | trivial | rfl, st13.ext, st13.mod⟩
      · refine Sg ?_
        refine ⟨hj', by first | trivial | rfl, (), trivial, st13, sb, he12.trans he13, fun i hi => ?_⟩
        by_cases hij : i = j
        · subst hij
          unfold Abs.elocs
          rw [hnm, if_neg g4]
        · exact hz2 i (by omega)
    · rw [Abs.first_none fun i hi => hz2 i (by omega), if_neg (by simp)] at hget
      refine Sg ?_
      refine ⟨hk', by first | trivial | rfl, (), trivial, st12, sb, fun i hi => ?_⟩
      by_cases hik : i = k
      · subst hik
        rw [hget]
      · exact hz i (by omega)
  have hkp : m.procs.length ≤ k := by omega
  have hP : ∀ j, j < m.procs.length → (Abs.eproc m j).1 = 0 := fun j hj => hz j (by omega)
  have hdf := Abs.data_few hd
  have hpl : m.procs.length ≤ 6 := by
    apply Classical.byContradiction
    intro hn
    have := Abs.eproc_lt (i := 6) (by omega) (hP 6 (by omega))
    omega
  have hfew : Abs.Few m := ⟨by omega, by omega, by omega, fun p hp => by
    obtain ⟨j, hj, rfl⟩ := List.mem_iff_getElem.1 hp
    have := Abs.procCheck_few (Abs.eproc_ok hj (hP j hj)).2.1
    omega⟩
  refine Sg ?_
  refine K.call (pieces_r _ m w6 (hM.ext e6) hfew) ?_
  rintro _ w7 ⟨rfl, he7⟩
  have st7 := st6.then he7
  replace hc1 := st7.box
  have hpa := Abs.procs_all hP
  have hset : SetAt w7 bt (Abs.nSVCP m m.procs.length) := by
    have h := st7.set
    simp only [Abs.nSVCP, Abs.nP] at h ⊢
    rw [List.take_of_length_le hkp] at h
    rw [List.take_of_length_le (Nat.le_refl _)]
    exact h
  refine Sg ?_
  refine K.cond (fun g2 => ?_) (fun g2 => ?_)
  · rw [if_pos (.inl (by omega))] at hpa
    refine Sg ?_
    refine K.thr (throw_r 11 4 m.procs.length 0 w7) ?_ ?_
    · rintro _ _ ⟨h01, _⟩
      exact absurd h01 (by decide)
    · rintro c _ ⟨_, rfl, rfl⟩
      refine Sg ?_
      rw [hpa]
      exact ⟨(show (11 : Int) ≠ 0 by decide), by first | trivial | rfl, st7.ext, st7.mod⟩
  refine Sg ?_
  refine K.cond (fun g3 => ?_) (fun g3 => ?_)
  · rw [if_pos (.inr (by omega))] at hpa
    refine Sg ?_
    refine K.thr (throw_r 11 4 m.procs.length 0 w7) ?_ ?_
    · rintro _ _ ⟨h01, _⟩
      exact absurd h01 (by decide)
    · rintro c _ ⟨_, rfl, rfl⟩
      refine Sg ?_
      rw [hpa]
      exact ⟨(show (11 : Int) ≠ 0 by decide), by first | trivial | rfl, st7.ext, st7.mod⟩
  rw [if_neg (by omega)] at hpa
  refine Sg ?_
  exact ⟨by rw [hpa]; rfl, st7.ext, st7.mod, hset⟩
end Go.Proofs.YtbbaokmelkiemaaGreatDoor
end
section
/- Whole models: propositions. -/
set_option maxRecDepth 8000
set_option maxHeartbeats 16000000
namespace Go.Proofs.YtbbaokmelkiemaaGreatDoor
open Go Go.RowKit Lite
theorem propositions_r {w0 : World} (cs : List Value) (m : Abs.Model) (bt : Nat) (w : World) (h : Abs.ModelIs w0 cs m) (hg : m.good) (e0 : Ext w0 w) (hbt : w0.heap.size ≤ bt) (ho : OwnIs w0) (hs : SetAt w bt (Abs.nSVCP m m.procs.length)) :
    RetT Tryz.prog F.model_propositions #[.agg cs.toArray, .map (some bt)] w (fun _ w' => (Abs.propsF m).why = 0 ∧ Ext w0 w' ∧ Mod (fun k => k = bt) w w')
      (fun c w' => (Abs.propsF m).why ≠ 0 ∧ c = thrown (Abs.propsF m) ∧ Ext w0 w' ∧ Mod (fun k => k = bt) w w') := by
  have hM := h
  obtain ⟨o0, c0, o1, c1, o2, c2, o3, c3, o4, c4, rfl, h0, h1, h2, h3, h4, l0, l1, l2, l3, l4⟩ := h.form
  refine K.startT hmix E.model_propositions (args := [_, _]) (Nat.le_of_ble_eq_true rfl) ?_; dsimp only [C.model_propositions,yt,yi,yb,yp,yr,ye,yc,yv,yg,ym,yw,ya,yl,yx,ys,yn]
  refine Sg ?_
  intro w1 b1 hb1 he1 hc1
  have st1 : TakSt w0 w bt b1 _ w1 (Abs.nAll m 0) := ⟨e0.trans he1, he1.mod, hc1, by have := hs.ext he1; simpa [Abs.nAll] using this, hbt, by have := hs.lt; omega⟩
  have zt := hs.lt
  have z0 := he1.size
  clear hs
  refine Sg ?_
  refine K.call (scope_r _ m (-1) w1 (hM.ext st1.ext) hg) ?_
  rintro _ w2 ⟨⟨cs2, rfl, hn2⟩, he2⟩
  rw [Abs.pscope_none (.inl (by decide))] at hn2
  have hsc := hn2.here
  obtain ⟨x0, y0, x1, y1, x2, y2, x3, y3, x4, y4, rfl, _⟩ := hsc.form
  clear hsc
  have st2 := st1.then he2
  clear hc1 st1
  have z1 := he2.size
  refine Sg ?_
  intro w3 b4 hb4 he3 hc4
  have hn3 := hn2.ext he3 z1
  have st3 := st2.then he3
  have hc1 := st3.box
  clear hn2 st2
  refine Sg ?_
  refine K.forG 14 m.props.length [1, 2, 4, 12, 13] (fun _ : Unit => []) () (fun k _ w' => TakSt w0 w bt b1 _ w' (Abs.nAll m k) ∧ New w1 (fun w => Abs.ScopeIs w _ (Abs.mscope m)) w' ∧ w'.heap[b4]? = some (.cells (List.toArray [_, _, _, _, _, _]) T.api_Scope) ∧ w1.heap.size ≤ w'.heap.size ∧ ∀ j, j < k → Abs.eprop m j = 0) (by first | trivial | rfl | exact ⟨rfl, trivial⟩ | (simp -dsimp only [LL,slots_nil,slots_cons,keepV_nil,keepV_cons,has_nil,has_cons,Nat.reduceAdd,Nat.reduceEqDiff,reduceIte,and_self]; done) | (simp -dsimp only [LL,slots_nil,slots_cons,keepV_nil,keepV_cons,has_nil,has_cons,Nat.reduceAdd,Nat.reduceEqDiff,reduceIte,and_self]; exact ⟨rfl, trivial⟩)) (by first | trivial | rfl | exact ⟨rfl, trivial⟩ | (simp -dsimp only [LL,slots_nil,slots_cons,keepV_nil,keepV_cons,has_nil,has_cons,Nat.reduceAdd,Nat.reduceEqDiff,reduceIte,and_self]; done) | (simp -dsimp only [LL,slots_nil,slots_cons,keepV_nil,keepV_cons,has_nil,has_cons,Nat.reduceAdd,Nat.reduceEqDiff,reduceIte,and_self]; exact ⟨rfl, trivial⟩)) ⟨st3, hn3, hc4, by have := he3.size; omega, fun j h => absurd h (Nat.not_lt_zero _)⟩ ?_
  clear hc1 st3 hn3 hc4
  rintro k _ S w4 hk ⟨st4, hn4, hc4, z4, hz⟩
  have hc1 := st4.box
  have e4 := st4.ext
  refine Sg ?_
  refine K.cond (fun g1 => ?_) (fun g1 => ?_)
  · have hk' : k < m.props.length := by omega
    obtain ⟨a, rfl⟩ := h4.addr (by omega)
    obtain ⟨hsn, ve, hp, hpe⟩ := h4.at k hk'
    obtain ⟨oe, ce, rfl, le⟩ := hpe.form
    have hget := Abs.eprop_get hk'
    replace hp := hp.ext e4
    have z5 := st4.mod.size
    refine Sg ?_
    intro wN b6 hb6 heN hcN
    refine Su ?_
    intro w5 hw5 hc6
    have he5 := hw5.ext heN hb6
    have st5 := st4.then he5
    replace hn4 := hn4.ext he5 z4
    replace hc4 := he5.obj hc4
    replace hc1 := st5.box
    have e5 := st5.ext
    clear hcN heN hw5 st4
    have hd : Abs.eprop m k ≠ 0 → Abs.propsF m = ⟨Abs.eprop m k, 5, k, 0⟩ := Abs.props_i hk' hz
    refine Sg ?_
    refine K.cond (fun g2 => ?_) (fun g2 => ?_)
    · rw [if_pos (by omega)] at hget
      rw [hget] at hd
      replace hd := hd (by decide)
      refine Sg ?_
      refine K.thr (throw_r 11 5 k 0 w5) ?_ ?_
      · rintro _ _ ⟨h00, _⟩
        exact absurd h00 (by decide)
      · rintro c _ ⟨_, rfl, rfl⟩
        refine Sg ?_
        rw [hd]
        exact ⟨(show (11 : Int) ≠ 0 by decide), by first | trivial | rfl, e5, st5.mod⟩
    rw [if_neg (by omega)] at hget
    refine Sg ?_
    refine K.call (name_r m.props[k].name w5 (ho.ext e5) hsn) ?_
    rintro _ w6 ⟨rfl, he6⟩
    have st6 := st5.then he6
    replace hn4 := hn4.ext he6 (by have := he5.size; omega)
    replace hc4 := he6.obj hc4
    replace hc6 := he6.obj hc6
    replace hc1 := st6.box
    have e6 := st6.ext
    clear st5
    refine Sg ?_
    refine K.condb (fun g3 => ?_) (fun g3 => ?_)
    rotate_left
    · rw [if_pos g3] at hget
      rw [hget] at hd
      replace hd := hd (by decide)
      refine Sg ?_
      refine K.thr (throw_r 6 5 k 0 w6) ?_ ?_
      · rintro _ _ ⟨h00, _⟩
        exact absurd h00 (by decide)
      · rintro c _ ⟨_, rfl, rfl⟩
        refine Sg ?_
        rw [hd]
        exact ⟨(show (6 : Int) ≠ 0 by decide), by first | trivial | rfl, e6, st6.mod⟩
    rw [if_neg (by rw [g3]; decide)] at hget
    refine Sg ?_
    refine K.thr (take_r bt (Abs.nAll m k) m.props[k].name 5 k w6 st6.set) ?_ ?_
    rotate_left
    · rintro c _ ⟨hn, rfl, rfl⟩
      rw [if_pos hn] at hget
      rw [hget] at hd
      replace hd := hd (by decide)
      refine Sg ?_
      rw [hd]
      exact ⟨(show (7 : Int) ≠ 0 by decide), by first | trivial | rfl, st6.ext, st6.mod⟩
    rintro _ w7 ⟨hn, hw7, hs7⟩
    rw [if_neg hn] at hget
    have st7 : TakSt w0 w bt b1 _ w7 (Abs.nAll m (k + 1)) := (st6.wr hw7 hs7).re (by simp only [Abs.nAll, Abs.nR]; rw [Abs.take_snocN (fun x : Abs.Prp => x.name) _ hk', List.append_assoc])
    replace hn4 := hn4.wr hw7 (by omega)
    replace hc4 := hw7.obj hc4 (by omega)
    replace hc6 := hw7.obj hc6 (by omega)
    replace hc1 := st7.box
    have e7 := st7.ext
    clear st6 e6
    refine Sg ?_
    refine K.call (kind_r _ m.props[k].expr _ _ w7 (hpe.ext e7) hn4.here) ?_
    rintro _ w8 ⟨rfl, he8⟩
    have st8 := st7.then he8
    have z7 := hw7.size
    replace hn4 := hn4.ext he8 (by have := he5.size; have := he6.size; omega)
    replace hc4 := he8.obj hc4
    replace hc1 := st8.box
    have e8 := st8.ext
    clear st7
    refine Sg ?_
    refine K.thr (throw_r (Abs.kind m.props[k].expr (Abs.mscope m)).2 5 k 0 w8) ?_ ?_
    rotate_left
    · rintro c _ ⟨h00, rfl, rfl⟩
      rw [if_pos h00] at hget
      rw [hget] at hd
      replace hd := hd h00
      refine Sg ?_
      rw [hd]
      exact ⟨h00, by first | trivial | rfl, e8, st8.mod⟩
    rintro _ w9 ⟨h00, rfl⟩
    rw [if_neg (by simpa using h00)] at hget
    refine Sg ?_
    refine K.cond (fun g4 => ?_) (fun g4 => ?_)
    rotate_left
    · rw [if_pos g4] at hget
      rw [hget] at hd
      replace hd := hd (by decide)
      refine Sg ?_
      refine K.thr (throw_r 9 5 k 0 w9) ?_ ?_
      · rintro _ _ ⟨h01, _⟩
        exact absurd h01 (by decide)
      · rintro c _ ⟨_, rfl, rfl⟩
        refine Sg ?_
        rw [hd]
        exact ⟨(show (9 : Int) ≠ 0 by decide), by first | trivial | rfl, e8, st8.mod⟩
    rw [if_neg (by simpa using g4)] at hget
    refine Sg ?_
    refine ⟨hk', by first | trivial | rfl, (), trivial, st8, hn4, hc4, by have := he5.size; have := he6.size; have := he8.size; omega, fun i hi => ?_⟩
    by_cases hik : i = k
    · subst hik
      rw [hget]
    · exact hz i (by omega)
  refine Sg ?_
  exact ⟨by rw [Abs.props_0 fun j hj => hz j (by omega)]; rfl, e4, st4.mod⟩
end Go.Proofs.YtbbaokmelkiemaaGreatDoor
end
section
/- Lite: a function that defers one call; a deferred function that recovers. -/
set_option maxRecDepth 4000
namespace Lite
open Go Go.RowKit
/-- A function that first defers a call, and goes on. -/
structure DFn where
  n : Nat
  res : List LRes
  pre : LC
  ss : List Step
  fn : Operand
  rest : LC
def deferOf (o : Oper) : Option Operand :=
  match o.guard, o.dst, o.op with
  | none, none, .defer ⟨.value x, args, _⟩ => match args.toList with | [] => some x | _ => none
  | _, _, _ => none
def compD (P : Program) (fn : Func) : Code → Option DFn
  | .seq a (.seq (.region _ ops false) c) =>
    match ops.toList.getLast?.bind deferOf, comp P fn.ntmps a, compSteps P fn.ntmps ops ops.toList.dropLast, comp P fn.ntmps c, compResL P fn.results.toList with
    | some x, some la, some ss, some lc, some r => some ⟨fn.ntmps, r, la, ss, x, lc⟩
    | _, _, _, _, _ => none
  | _ => none
def compFD (P : Program) (f : FuncId) : Option DFn :=
  match P.funcs[f]? with
  | some fn => match fn.body with | some c => compD P fn c | none => none
  | none => none
/-- What the deferred call is to do. -/
def LeaveD (P : Program) (f : FuncId) (cap : Array Value) (u : FrameMode) (w : World) (R : World → Prop) : Prop :=
  CallsD P f cap u w fun e u' w' => (∃ v, e = .returned v) ∧ settle u' = .returning ∧ R w'
def endQD (P : Program) (res : List LRes) (f : FuncId) (cap : Array Value) (R : Value → World → Prop) : LX → Fr → World → Prop
  | .normal, S, w => LeaveD P f cap .returning w fun w' => resVC res S w' fun vs => R (tup vs) w'
  | .ret, S, w => LeaveD P f cap .returning w fun w' => resVC res S w' fun vs => R (tup vs) w'
  | .exit _, _, _ => False
  | .pan c, S, w => LeaveD P f cap (.panicking c) w fun w' => resVC res S w' fun vs => R (tup vs) w'
def vcD (P : Program) (L : DFn) (R : Value → World → Prop) (S : Fr) (w : World) : Prop :=
  vc P L.pre (thenQ (fun S w => steps P L.ss S w fun S w => ∃ f cap, ev S L.fn = .func (.func f) #[] cap ∧ okF P f = true ∧ vc P L.rest (endQD P L.res f cap R) S w) (fun _ _ _ => False)) S w
theorem deferOf_spec {o : Oper} {x : Operand} (h : deferOf o = some x) : ∃ ty pos after tys, o = ⟨none, .defer ⟨.value x, #[], tys⟩, ty, pos, after, none⟩ := by
  obtain ⟨dst, op, ty, pos, after, guard⟩ := o
  unfold deferOf at h
  split at h
  · rename_i h1 h2 h3
    simp only at h1 h2 h3
    split at h
    · rename_i h4
      injection h with h
      have h5 := Array.toList_eq_nil_iff.1 h4
      subst h1 h2 h3 h h5
      exact ⟨_, _, _, _, rfl⟩
    · cases h
  · cases h
theorem enterD {P : Program} {f : FuncId} {L : DFn} (hm : P.follows .mixedOrders = true) (hc : compFD P f = some L) {args : List Value} {w : World} {R : Value → World → Prop} (ha : args.length ≤ L.n)
    (h : vcD P L R (fr0 args 0) w) : Ret P f args.toArray w R := by
  unfold compFD at hc
  split at hc
  · rename_i fn hfn
    split at hc
    · rename_i c hb
      unfold compD at hc
      split at hc
      · rename_i a id ops c'
        split at hc
        · rename_i x la ss lc r h1 h2 h3 h4 h5
          injection hc with hc; subst hc
          obtain ⟨o, ho, hx⟩ := Option.bind_eq_some_iff.1 h1
          obtain ⟨ty, pos, after, tys, rfl⟩ := deferOf_spec hx
          have hlist : ops.toList = ops.toList.dropLast ++ [⟨none, .defer ⟨.value x, #[], tys⟩, ty, pos, after, none⟩] := by
            have hne : ops.toList ≠ [] := by intro e; rw [e] at ho; cases ho
            rw [List.getLast?_eq_some_getLast hne] at ho
            injection ho with ho
            rw [← ho, List.dropLast_concat_getLast hne]
          have fin : ∀ (g : FuncId) (cap : Array Value) (S : Fr) (a' : Act) (w' : World) (u : FrameMode), u ≠ .run → okF P g = true → Fits [{ target := .fn (.func g) cap, args := #[] }] a' S fn.ntmps → LeaveD P g cap u w' (fun w' => resVC r S w' fun vs => R (tup vs) w') →
              Leaves P fn a'.tmps (fun e w' => ∃ v, e = .returned v ∧ R v w') a'.defers u w' := by
            intro g cap S a' w' u hu hok hf hl
            rw [hf.1]
            refine leaves_cons hu (f := g) (args := cap) (by simp [invoke, run_callFunc hok]) (CallsD.mono hl ?_)
            rintro e u' w'' ⟨⟨v, rfl⟩, hs, hr⟩
            simp only [hs]
            obtain ⟨vs, h6, h7⟩ := sound_res hf _ _ _ h5 hr
            exact ⟨_, results_run h6, _, rfl, h7⟩
          refine calls_of_wp_defers hfn hb ((wpIn_wide (n := 0)).1 ?_)
          refine wpIn_seq (wpIn_mono (sound (ds := []) (r := none) (m := 0) hm a la h2 _ _ (fr0 args 0) w (fits0 ha) h) fun e a' w' hq => ?_)
          cases e with
          | normal =>
            obtain ⟨S, hf, hq⟩ := hq
            refine wpIn_seq (wpIn_region_list ?_)
            rw [hlist]
            refine sound_stepsT (r := none) (tl := [_]) ?_ ?_ _ ss a' S w' h3 hf hq
            · rintro a2 S2 w2 hf2 ⟨g, cap, he, hok, hv⟩
              have hw : Region.wanted (⟨none, .defer ⟨.value x, #[], tys⟩, ty, pos, after, none⟩ : Oper) (yielded ops a2.tmps) = true := rfl
              simp only [wpListIn, hw, if_true]
              have hrun : ∀ ρ : Operand → Value, ρ x = .func (.func g) #[] cap → ((⟨none, .defer ⟨.value x, #[], tys⟩, ty, pos, after, none⟩ : Oper).semAt none ρ).run P w2 = .ok (.defer { target := .fn (.func g) cap, args := #[] }) w2 := by
                intro ρ hρ
                simp [Oper.semAt, execOp, resolve, Deferred.ofValue, hρ, go_sem]
              refine ⟨fun _ _ => trivial, ?_⟩
              rw [show (FR none).round = none from rfl, hrun a2.eval (by rw [hf2.eval]; exact he)]
              have hf3 : Fits [{ target := .fn (.func g) cap, args := #[] }] ({ a2 with defers := { target := .fn (.func g) cap, args := #[] } :: a2.defers } : Act) S2 fn.ntmps := ⟨by rw [hf2.1], hf2.2⟩
              refine wpIn_mono (sound (ds := [{ target := .fn (.func g) cap, args := #[] }]) (r := none) (m := 0) hm c' lc h4 _ _ S2 w2 hf3 hv) fun e a4 w4 hq => ?_
              cases e with
              | normal => obtain ⟨S4, hf4, hq⟩ := hq; exact fin g cap S4 a4 w4 .returning (by simp) hok hf4 hq
              | ret => obtain ⟨S4, hf4, hq⟩ := hq; exact fin g cap S4 a4 w4 .returning (by simp) hok hf4 hq
              | exit i => obtain ⟨S4, hf4, hq⟩ := hq; exact hq.elim
              | panic ch => obtain ⟨S4, hf4, hq⟩ := hq; exact fin g cap S4 a4 w4 (.panicking ch) (by simp) hok hf4 hq
              | _ => exact hq.elim
            · rintro ⟨_, _, hx⟩
              obtain ⟨_, h1, _⟩ := hx
              cases h1
          | ret => obtain ⟨S, hf, hq⟩ := hq; exact hq.elim
          | exit i => obtain ⟨S, hf, hq⟩ := hq; exact hq.elim
          | panic ch => obtain ⟨S, hf, hq⟩ := hq; exact hq.elim
          | _ => exact hq.elim
        · cases hc
      · cases hc
    · cases hc
  · cases hc
/-! ### A deferred function that recovers -/
structure PFn where
  n : Nat
  res : List LRes
  d : Nat
  e : Nat
  rest : LC
def recOf (o : Oper) : Option Nat :=
  match o.guard, o.op, o.dst with
  | none, .call ⟨.builtin .recover, args, _⟩, some d => match args.toList with | [] => some d | _ => none
  | _, _, _ => none
def asgOf (o : Oper) : Option (Nat × Nat) :=
  match o.guard, o.op, o.dst with
  | none, .assign (.tmp d), some e => some (d, e)
  | _, _, _ => none
def compP' (P : Program) (fn : Func) : Code → Option PFn
  | .seq (.region _ ops false) c =>
    match ops.toList with
    | [o1, o2] => match recOf o1, asgOf o2, comp P fn.ntmps c, compResL P fn.results.toList with
      | some d, some (d', e), some lc, some r => if d = d' ∧ d < fn.ntmps ∧ e < fn.ntmps then some ⟨fn.ntmps, r, d, e, lc⟩ else none
      | _, _, _, _ => none
    | _ => none
  | _ => none
def compFP (P : Program) (f : FuncId) : Option PFn :=
  match P.funcs[f]? with
  | some fn => match fn.body with | some c => compP' P fn c | none => none
  | none => none
/-- What recover gives, and what becomes of the frame below. -/
def recV : FrameMode → Value × FrameMode
  | .panicking ({ v, recovered := false, goexit := false } :: older) => (v, .panicking ({ v, recovered := true } :: older))
  | u => (.nilIface, u)
theorem recoverD_eq (c : Frame) (cs : List Frame) : (match recoverD (c :: cs) with | some (v, cs') => (v, cs') | none => (.nilIface, c :: cs)) = ((recV c.mode).1, { c with mode := (recV c.mode).2 } :: cs) := by
  obtain ⟨fn, tmps, todo, defers, mode, kind, ro⟩ := c
  unfold recoverD recV
  cases mode with
  | run => rfl
  | returning => rfl
  | panicking l =>
    cases l with
    | nil => rfl
    | cons p r =>
      obtain ⟨v, rc, ge⟩ := p
      cases rc <;> cases ge <;> rfl
theorem recOf_spec {o : Oper} {d : Nat} (h : recOf o = some d) : ∃ tys ty pos after, o = ⟨some d, .call ⟨.builtin .recover, #[], tys⟩, ty, pos, after, none⟩ := by
  obtain ⟨dst, op, ty, pos, after, guard⟩ := o
  unfold recOf at h
  split at h
  · rename_i h1 h2 h3
    simp only at h1 h2 h3
    split at h
    · rename_i h4
      injection h with h
      have h5 := Array.toList_eq_nil_iff.1 h4
      subst h1 h2 h3 h h5
      exact ⟨_, _, _, _, rfl⟩
    · cases h
  · cases h
theorem asgOf_spec {o : Oper} {d e : Nat} (h : asgOf o = some (d, e)) : ∃ ty pos after, o = ⟨some e, .assign (.tmp d), ty, pos, after, none⟩ := by
  obtain ⟨dst, op, ty, pos, after, guard⟩ := o
  unfold asgOf at h
  split at h
  · rename_i h1 h2 h3
    simp only at h1 h2 h3
    injection h with h
    injection h with h5 h6
    subst h1 h2 h3 h5 h6
    exact ⟨_, _, _, rfl⟩
  · cases h
theorem enterP {P : Program} {f : FuncId} {L : PFn} (hm : P.follows .mixedOrders = true) (hc : compFP P f = some L) {args : List Value} {u : FrameMode} {w : World} {R : Value → World → Prop} (ha : args.length ≤ L.n)
    (h : vc P L.rest (endQ L.res R) (upd (upd (fr0 args 0) L.d (recV u).1) L.e (recV u).1) w) : CallsD P f args.toArray u w fun e u' w' => u' = (recV u).2 ∧ ∃ v, e = .returned v ∧ R v w' := by
  unfold compFP at hc
  split at hc
  · rename_i fn hfn
    split at hc
    · rename_i c hb
      unfold compP' at hc
      split at hc
      · rename_i id ops c'
        split at hc
        · rename_i o1 o2 hops
          split at hc
          · rename_i d d' e lc r h1 h2 h3 h4
            split at hc
            · rename_i hde
              obtain ⟨hdd, hd, he⟩ := hde
              subst hdd
              injection hc with hc; subst hc
              obtain ⟨tys, ty1, pos1, after1, rfl⟩ := recOf_spec h1
              obtain ⟨ty2, pos2, after2, rfl⟩ := asgOf_spec h2
              refine callsD_of_wpS hfn hb fun c₀ cs hu => ?_
              refine wpS_seq (wpS_region ?_)
              have hsz : ops.size = 2 := by rw [← Array.length_toList, hops]; rfl
              have hg0 : ops[0]? = ops.toList[0]? := by simp
              have hg1 : ops[1]? = ops.toList[1]? := by simp
              rw [hops] at hg0 hg1
              simp only [List.getElem?_cons_zero, List.getElem?_cons_succ] at hg0 hg1
              have hr : List.range ops.size = [0, 1] := by rw [hsz]; rfl
              rw [hr]
              have hrec : ∀ (ρ : Operand → Value), (execOp ρ ⟨some d, .call ⟨.builtin .recover, #[], tys⟩, ty1, pos1, after1, none⟩).run P w = .ok .recover w := by
                intro ρ; simp [execOp, resolve, invoke, builtin, go_sem]
              have hw0 : ∀ (dst : Option Nat) (op : Op) (ty : TypeId) (pos : String) (after : Array Edge) (y : Nat → Option Bool), Region.wanted (⟨dst, op, ty, pos, after, none⟩ : Oper) y = true := fun _ _ _ _ _ _ => rfl
              have hf0 := fits0 (n := fn.ntmps) ha
              have key : ∀ (v : Value) (cs' : List Frame), vc P lc (endQ r R) (upd (upd (fr0 args 0) d v) e v) w → (cs' = { c₀ with mode := (recV u).2 } :: cs) →
                  wpOpsS P ops (Exit.thenS (c'.wpS P (bodyPostS P fn c₀ cs fun e u' w' => u' = (recV u).2 ∧ ∃ v, e = .returned v ∧ R v w')) (bodyPostS P fn c₀ cs fun e u' w' => u' = (recV u).2 ∧ ∃ v, e = .returned v ∧ R v w')) [1]
                    (({ tmps := args.toArray ++ Array.replicate (fn.ntmps - args.toArray.size) undef, defers := [] } : Act).put (some d) v) cs' w := by
                intro v cs' hv hcs
                have hf1 := hf0.put (d := some d) (by simpa [dstOk] using hd) v
                have hx : (execOp (({ tmps := args.toArray ++ Array.replicate (fn.ntmps - args.toArray.size) undef, defers := [] } : Act).put (some d) v).eval ⟨some e, .assign (.tmp d), ty2, pos2, after2, none⟩).run P w = .ok (.value v) w := by
                  rw [hf1.eval]
                  simp [execOp, ev, Lite.put, upd]
                simp only [wpOpsS, hg1, hw0, if_true, hx]
                rw [Oper.upon_value]
                have hf2 := hf1.put (d := some e) (by simpa [dstOk] using he) v
                refine wpS_of_wp ((wpIn_wide (n := 0)).1 (wpIn_mono (sound (ds := []) (r := none) (m := 0) hm c' lc h3 _ _ _ w hf2 hv) fun x a4 w4 hq => ?_))
                cases x with
                | normal =>
                  obtain ⟨S4, hf4, hq⟩ := hq
                  obtain ⟨vs, h6, h7⟩ := sound_res hf4 _ _ _ h4 hq
                  exact ⟨hf4.1, _, hcs, _, results_run h6, rfl, _, rfl, h7⟩
                | ret =>
                  obtain ⟨S4, hf4, hq⟩ := hq
                  obtain ⟨vs, h6, h7⟩ := sound_res hf4 _ _ _ h4 hq
                  exact ⟨hf4.1, _, hcs, _, results_run h6, rfl, _, rfl, h7⟩
                | exit i => obtain ⟨S4, hf4, hq⟩ := hq; exact hq.elim
                | panic ch => obtain ⟨S4, hf4, hq⟩ := hq; exact hq.elim
                | _ => exact hq.elim
              have hrd := recoverD_eq c₀ cs
              rw [hu] at hrd
              unfold wpOpsS
              simp only [hg0, hw0, if_true, hrec]
              cases hrc : recoverD (c₀ :: cs) with
              | none =>
                rw [hrc] at hrd
                injection hrd with e1 e2
                exact key .nilIface (c₀ :: cs) (by rw [e1]; exact h) e2
              | some vc' =>
                obtain ⟨v, cs'⟩ := vc'
                rw [hrc] at hrd
                injection hrd with e1 e2
                exact key v cs' (by rw [e1]; exact h) e2
            · cases hc
          · cases hc
        · cases hc
      · cases hc
    · cases hc
  · cases hc
end Lite
namespace Lite
open Go Go.RowKit
def DeferVC (P : Program) (v : Value) (K : FuncId → Array Value → Prop) : Prop := ∃ f cap, v = .func (.func f) #[] cap ∧ okF P f = true ∧ K f cap
section
variable {P : Program} {S : Fr} {w : World} {res : List LRes} {R : Value → World → Prop}
theorem K.startD {f : FuncId} {L : DFn} (hm : P.follows .mixedOrders = true) (hc : compFD P f = some L) {args : List Value} (ha : args.length ≤ L.n)
    (h : vch P L.pre (thenQh (fun S w => stepsh P L.ss S w (fun S w => DeferVC P (ev S L.fn) fun g cap => vch P L.rest (endQD P L.res g cap R) S w ⟨⟩) ⟨⟩) (fun _ _ _ => False) ⟨⟩) (fr0 args 0) w ⟨⟩) : Ret P f args.toArray w R := by
  refine enterD hm hc ha ?_
  unfold vch thenQh stepsh DeferVC at h
  exact h
theorem K.defer {g : FuncId} {cap : Array Value} {K : FuncId → Array Value → Prop} (hok : okF P g = true) (h : K g cap) : DeferVC P (.func (.func g) #[] cap) K := ⟨g, cap, rfl, hok, h⟩
theorem K.dret {g : FuncId} {cap : Array Value} (h : LeaveD P g cap .returning w fun w' => resVCh res S w' (fun vs => R (tup vs) w') ⟨⟩) : endQD P res g cap R .ret S w := by
  unfold resVCh at h; exact h
theorem K.dpan {g : FuncId} {cap : Array Value} {c : List PanicEntry} (h : LeaveD P g cap (.panicking c) w fun w' => resVCh res S w' (fun vs => R (tup vs) w') ⟨⟩) : endQD P res g cap R (.pan c) S w := by
  unfold resVCh at h; exact h
theorem LeaveD.of {g : FuncId} {cap : Array Value} {u u2 : FrameMode} {R1 R2 : World → Prop} (h : CallsD P g cap u w fun e u' w' => u' = u2 ∧ ∃ v, e = .returned v ∧ R1 w') (hs : settle u2 = .returning) (hk : ∀ w', R1 w' → R2 w') : LeaveD P g cap u w R2 :=
  CallsD.mono h fun e u' w' ⟨h1, v, h2, h3⟩ => ⟨⟨v, h2⟩, by rw [h1]; exact hs, hk _ h3⟩
theorem K.startP {f : FuncId} {L : PFn} (hm : P.follows .mixedOrders = true) (hc : compFP P f = some L) {args : List Value} {u : FrameMode} (ha : args.length ≤ L.n)
    (h : vch P L.rest (endQh L.res R ⟨⟩) (upd (upd (fr0 args 0) L.d (recV u).1) L.e (recV u).1) w ⟨⟩) : CallsD P f args.toArray u w fun e u' w' => u' = (recV u).2 ∧ ∃ v, e = .returned v ∧ R v w' := by
  refine enterP hm hc ha ?_
  unfold vch endQh at h
  exact h
theorem run_eqi (d : Nat) {t : TypeId} {ms : Array (String × TypeId)} (h : P.underlying t = some (.interface ms)) (w : World) : (Op.equalIn (d + 1) t .nilIface .nilIface).run P w = .ok true w ∧ ∀ T v, (Op.equalIn (d + 1) t (.iface T v) .nilIface).run P w = .ok false w := by
  constructor
  · simp [Op.equalIn, run_underlying h]
  · intro T v
    simp [Op.equalIn, run_underlying h]
theorem ifOf {t : TypeId} (h : (P.underlying t).map isIfD = some true) : ∃ ms, P.underlying t = some (.interface ms) := by
  obtain ⟨d, hd, hi⟩ := Option.map_eq_some_iff.1 h
  cases d <;> first | exact ⟨_, hd⟩ | (simp [isIfD] at hi; done)
theorem K.neNil0 {t' : TypeId} {x : Operand} {v : Value} {K3 : Value → Prop} {t} (h : (P.underlying t').map isIfD = some true) (hk : K3 (.bool false)) : BinVCh P .neq t' x (.const v) .nilIface .nilIface K3 t :=
  K.bin (v := .bool false) (fun w => by
    obtain ⟨ms, h⟩ := ifOf h
    have h1 := (run_eqi 9999 h w).1
    have h2 : (Op.equalIn Op.maxDepth t' .nilIface .nilIface).run P w = .ok true w := h1
    cases x <;> simp [eqGuard, binOp, Op.equal, go_sem, h2, Result.andThen]) hk
theorem K.neNil1 {t' T : TypeId} {x y : Operand} {v : Value} {K3 : Value → Prop} {t} (h : (P.underlying t').map isIfD = some true) (hk : K3 (.bool true)) : BinVCh P .neq t' x y (.iface T v) .nilIface K3 t :=
  K.bin (v := .bool true) (fun w => by
    obtain ⟨ms, h⟩ := ifOf h
    have h2 : (Op.equalIn Op.maxDepth t' (.iface T v) .nilIface).run P w = .ok false w := (run_eqi 9999 h w).2 T v
    simp [eqGuard, binOp, Op.equal, go_sem, h2, Result.andThen]) hk
theorem K.asrt {x : Operand} {xt T ty : TypeId} {v : Value} {KK : Value → World → Prop} {t} (hx : ev S x = .iface T v) (h : (P.underlying T).map isIfD = some false) (hk : KK (.tuple #[v, .bool true]) w) : RawVCh P (.typeAssert x xt T true) ty S w KK t := by
  refine K.raw (v := .tuple #[v, .bool true]) (w' := w) ?_ hk
  obtain ⟨d, hd, hi⟩ := Option.map_eq_some_iff.1 h
  have h1 : (Instr.typeAssert (.iface T v) xt T true).run P w = .ok (.tuple #[v, .bool true]) w := by
    cases d <;> first | (simp [isIfD] at hi; done) | (simp [Instr.typeAssert, run_underlying hd])
  simp [execOp, hx, h1, Result.andThen]
end
end Lite
end
section
/- The light code of functions that defer, and of deferred ones that recover. -/
set_option maxRecDepth 100000
namespace Go.Proofs.YtbbaokmelkiemaaGreatDoor
open Go Lite Go.Proofs
abbrev F.model_Check_1 : FuncId := 42
def DD.model_Check : DFn := ⟨16, [.cellA 4 2],
 (.reg [ye 1 (.box T.api_Model (yt 0)), ye 2 (.new T.api_Fault (.agg #[(.int .i64 0), (.int .i64 0), (.int .i64 0), (.int .i64 0)]))]),
 [yp 4 (.mkF F.model_Check_1 [] [(yt 2)])], (yt 4),
 (.seq (.reg [ye 5 .mkM, ym 3 5])
 (.seq (.thr [yr 6 (.ldA 5 (yt 1)), ym 7 3] (some 8) F.model_globals [(yt 6), (yt 7)])
 (.seq (.thr [yr 9 (.ldA 5 (yt 1)), ym 10 3] (some 11) F.model_processes [(yt 9), (yt 10)])
 (.seq (.thr [yr 12 (.ldA 5 (yt 1)), ym 13 3] (some 14) F.model_propositions [(yt 12), (yt 13)])
 (.seq (.reg [yp 15 (.bld [(.int .i64 0), (.int .i64 0), (.int .i64 0), (.int .i64 0)] [(0, 1), (1, 1), (2, 1), (3, 1)] []), yv (.stA 4 (yt 2) (yt 15))])
 .ret)))))⟩
theorem ED.model_Check : compFD Tryz.prog F.model_Check = some DD.model_Check := by kernel_rfl
def DP.model_Check_1 : PFn := ⟨17, [], 4, 1,
 (.seq (.reg [ym 5 1, yp 6 (.bin .neq T.interface (yt 5) (.const .nilIface))])
 (.cond (yt 6) (.seq (.reg [ym 8 1, ye 9 (.raw (.typeAssert (yt 8) T.interface T.model_thrown true) T.model_thrown_bool), ym 7 9, yp 10 (.ext (yt 7) 0), yp 11 (.ext (yt 7) 1), ye 2 (.new T.model_thrown (.agg #[(.int .i64 0), (.int .i64 0), (.int .i64 0), (.int .i64 0)])), yv (.stA 4 (yt 2) (yt 10)), ym 3 11])
 (.seq (.seq (.reg [ym 12 3, yp 13 (.un .not (yt 12))])
 (.cond (yt 13) (.pnc [ym 14 1] (yt 14))
 .skip))
 (.reg [ya 15 0 2, yr 16 (.ldA 4 (yt 15)), yv (.stA 4 (yt 0) (yt 16))])))
 .skip))⟩
theorem EP.model_Check_1 : compFP Tryz.prog F.model_Check_1 = some DP.model_Check_1 := by kernel_rfl
end Go.Proofs.YtbbaokmelkiemaaGreatDoor
end
section
/- Whole models: what is wrong first. -/
set_option maxRecDepth 8000
set_option maxHeartbeats 16000000
namespace Abs
theorem props_fine {m : Model} (h : (propsF m).why = 0) : propsF m = fine := props_0 (props_ok h)
end Abs
namespace Go.Proofs.YtbbaokmelkiemaaGreatDoor
open Go Go.RowKit Lite
theorem check1_idle (b : Nat) (w : World) : CallsD Tryz.prog F.model_Check_1 #[.pointer (some ⟨b, 0, none⟩)] .returning w fun e u' w' => u' = .returning ∧ ∃ v, e = .returned v ∧ w' = w := by
  refine K.startP hmix EP.model_Check_1 (args := [_]) (Nat.le_of_ble_eq_true rfl) ?_; dsimp only [DP.model_Check_1,yt,yi,yb,yp,yr,ye,yc,yv,yg,ym,yw,ya,yl,yx,ys,yn]
  dsimp only [recV]
  refine Sg ?_
  refine K.neNil0 (by kernel_rfl) ?_
  (repeat' first
 | assumption
 | exact Ext.refl _
 | refine Ext.trans ?_ (by assumption)
 | refine K.wrap (by omega) ?_
 | refine K.ldb (by assumption) ?_ rfl ?_
 | refine K.ldb0 (by assumption) ?_ rfl ?_
 | refine K.ldE (by assumption) ?_ (by omega) rfl ?_
 | refine K.ldE0 (by assumption) ?_ (by omega) rfl ?_
 | refine K.ldAE (by assumption) ?_ (by omega) rfl ?_
 | refine K.iaC (by omega) ?_
 | refine K.condT (by first | assumption | omega) ?_
 | refine K.condF (by first | assumption | omega) ?_
 | refine K.condbT (by assumption) ?_
 | refine K.condbF (by assumption) ?_
 | simp -dsimp only [LL,B9,Nat.reduceAdd,Nat.reduceEqDiff,reduceIte,reduceCtorEq,Bool.false_eq_true])
theorem check1_caught (f : Abs.Fault) (b : Nat) (w : World) (hb : w.heap[b]? = some (.cells #[.int .i64 0, .int .i64 0, .int .i64 0, .int .i64 0] T.api_Fault)) :
    CallsD Tryz.prog F.model_Check_1 #[.pointer (some ⟨b, 0, none⟩)] (.panicking (thrown f)) w fun e u' w' => u' = (recV (.panicking (thrown f))).2 ∧ ∃ v, e = .returned v ∧
      (w'.heap[b]? = some (.cells #[.int .i64 f.why, .int .i64 f.part, .int .i64 f.item, .int .i64 f.sub] T.api_Fault) ∧ ∀ w0, Ext w0 w → w0.heap.size ≤ b → Ext w0 w') := by
  refine K.startP hmix EP.model_Check_1 (args := [_]) (Nat.le_of_ble_eq_true rfl) ?_; dsimp only [DP.model_Check_1,yt,yi,yb,yp,yr,ye,yc,yv,yg,ym,yw,ya,yl,yx,ys,yn]
  dsimp only [recV, thrown]
  refine Sg ?_
  refine K.neNil1 (by kernel_rfl) ?_
  refine Sg ?_
  refine K.asrt rfl (by kernel_rfl) ?_
  refine Sg ?_
  intro w1 b1 hb1 he1 hc1
  have zb := lt_of_heap hb
  replace hb := he1.obj hb
  refine Sg ?_
  intro w2 hw2 hc2
  refine Sg ?_
  exact ⟨hc2, fun w0 e hl => hw2.ext (e.trans he1) hl⟩
theorem mcheck_r (cs : List Value) (m : Abs.Model) (w : World) (h : Abs.ModelIs w cs m) (hg : m.good) (ho : OwnIs w) :
    Ret Tryz.prog F.model_Check #[.agg cs.toArray] w fun v w' => v = .agg #[.int .i64 (Abs.check m).why, .int .i64 (Abs.check m).part, .int .i64 (Abs.check m).item, .int .i64 (Abs.check m).sub] ∧ Ext w w' := by
  obtain ⟨o0, c0, o1, c1, o2, c2, o3, c3, o4, c4, rfl, _⟩ := h.form
  refine K.startD hmix ED.model_Check (args := [_]) (Nat.le_of_ble_eq_true rfl) ?_; dsimp only [DD.model_Check,yt,yi,yb,yp,yr,ye,yc,yv,yg,ym,yw,ya,yl,yx,ys,yn]
  refine Sg ?_
  intro w1 b1 hb1 he1 hc1
  refine Sg ?_
  intro w2 b2 hb2 he2 hc2
  replace hc1 := he2.obj hc1
  have z1 := lt_of_heap hc1
  have z5 := lt_of_heap hc2
  refine Sg ?_
  refine K.defer (by kernel_rfl) ?_
  refine Sg ?_
  refine K.newM fun w3 bt hbt he3 hm3 => ?_
  replace hc1 := he3.obj hc1
  replace hc2 := he3.obj hc2
  have z2 := lt_of_heap hc2
  have z3 := he2.size
  have z4 := he1.size
  have e3 := (he1.trans he2).trans he3
  have caught : ∀ (f : Abs.Fault) (w' : World) (S : Fr), Ext w w' → w'.heap[b2]? = some (.cells #[.int .i64 0, .int .i64 0, .int .i64 0, .int .i64 0] T.api_Fault) → S 2 = .pointer (some ⟨b2, 0, none⟩) → f = Abs.check m →
      endQD Tryz.prog [.cellA 4 2] F.model_Check_1 #[.pointer (some ⟨b2, 0, none⟩)] (fun v w' => v = .agg #[.int .i64 (Abs.check m).why, .int .i64 (Abs.check m).part, .int .i64 (Abs.check m).item, .int .i64 (Abs.check m).sub] ∧ Ext w w') (.pan (thrown f)) S w' := by
    rintro f w' S e hc hS rfl
    refine K.dpan (LeaveD.of (check1_caught (Abs.check m) b2 w' hc) rfl ?_)
    rintro w4 ⟨hb, he⟩
    simp -dsimp only [LL,B9,Nat.reduceAdd,Nat.reduceEqDiff,reduceIte,reduceCtorEq,Bool.false_eq_true,hS]
    refine K.ldAb hb (Ext.refl _) rfl ?_
    simp -dsimp only [LL,B9,Nat.reduceAdd,Nat.reduceEqDiff,reduceIte,reduceCtorEq,Bool.false_eq_true]
    exact ⟨by first | trivial | rfl, he _ e (by omega)⟩
  refine Sg ?_
  refine K.thr (globals_r _ m bt w3 h e3 (by omega) ho (SetAt.empty hm3)) ?_ ?_
  rotate_left
  · rintro c w4 ⟨h1, rfl, e4, m4⟩
    refine Sg ?_
    exact caught _ w4 _ e4 (m4.obj (by omega) hc2) rfl (by rw [Abs.check, if_pos h1])
  rintro _ w4 ⟨h1, e4, m4, s4⟩
  replace hc1 := m4.obj (by omega) hc1
  replace hc2 := m4.obj (by omega) hc2
  refine Sg ?_
  refine K.thr (processes_r _ m bt w4 h hg e4 (by omega) ho h1 s4) ?_ ?_
  rotate_left
  · rintro c w5 ⟨h2, rfl, e5, m5⟩
    refine Sg ?_
    exact caught _ w5 _ e5 (m5.obj (by omega) hc2) rfl (by rw [Abs.check, if_neg (by simpa using h1), if_pos h2])
  rintro _ w5 ⟨h2, e5, m5, s5⟩
  replace hc1 := m5.obj (by omega) hc1
  replace hc2 := m5.obj (by omega) hc2
  refine Sg ?_
  refine K.thr (propositions_r _ m bt w5 h hg e5 (by omega) ho s5) ?_ ?_
  rotate_left
  · rintro c w6 ⟨h3, rfl, e6, m6⟩
    refine Sg ?_
    exact caught _ w6 _ e6 (m6.obj (by omega) hc2) rfl (by rw [Abs.check, if_neg (by simpa using h1), if_neg (by simpa using h2)])
  rintro _ w6 ⟨h3, e6, m6⟩
  replace hc1 := m6.obj (by omega) hc1
  replace hc2 := m6.obj (by omega) hc2
  have hck : Abs.check m = Abs.fine := by rw [Abs.check, if_neg (by simpa using h1), if_neg (by simpa using h2), Abs.props_fine h3]
  refine Sg ?_
  intro w7 hw7 hc7
  refine Sg ?_
  refine K.dret (LeaveD.of (check1_idle b2 w7) rfl ?_)
  rintro _ rfl
  refine Sg ?_
  exact ⟨by rw [hck]; rfl, hw7.ext e6 (by omega)⟩
end Go.Proofs.YtbbaokmelkiemaaGreatDoor
end
section
/- Models compared: model.Same. -/
set_option maxRecDepth 4000
set_option maxHeartbeats 3200000
namespace Lite
open Go Go.RowKit
def eqfCode (t ti : TypeId) (sz : Nat) (z : Array Value) : LFn := ⟨32, [.tmp 6],
 (.seq (.reg [yw 6 (yb false)])
 (.seq (.seq (.reg [ym 10 0, yn 11 10, ym 12 1, yn 13 12, yp 14 (.bin .neq ti (yt 11) (yt 13))])
 (.cond (yt 14) (.seq (.reg [yw 6 (yb false)])
 .ret)
 .skip))
 (.seq (.seq (.reg [ym 15 0, yn 16 15, yw 17 (yi 0)])
 (.blk 0 (.loop (.seq (.reg [yp 18 (.bin .lss ti (yt 17) (yt 16))])
 (.seq (.cond (yt 18) .skip
 (.exit 0))
 (.seq (.blk 1 (.seq (.reg [ym 19 17, yx 20 sz 15 17, yr 21 (.ldA sz (yt 20)), ye 8 (.new t (.agg z)), ym 7 19, yv (.stA sz (yt 8) (yt 21))])
 (.seq (.reg [ym 22 1, ym 23 7, yx 24 sz 22 23, yr 25 (.ldA sz (yt 24)), ye 9 (.new t (.agg z)), yv (.stA sz (yt 9) (yt 25))])
 (.seq (.reg [ym 26 2, yr 27 (.ldA sz (yt 8)), yr 28 (.ldA sz (yt 9)), yc 29 (.val (yt 26) [(yt 27), (yt 28)]), yp 30 (.un .not (yt 29))])
 (.cond (yt 30) (.seq (.reg [yw 6 (yb false)])
 .ret)
 .skip)))))
 (.reg [yp 31 (.bin .add ti (yt 17) (yi 1)), ym 17 31])))))))
 (.seq (.reg [yw 6 (yb true)])
 .ret))))⟩
section
variable {α : Type} {P : Program} {f : FuncId} {t ti : TypeId} {sz : Nat} {z : Array Value}
theorem eqf_r {R : World → Addr → α → Prop} {C : World → List Value → α → Prop} [Rel R C sz] (hm : P.follows .mixedOrders = true) (hE : compF P f = some (eqfCode t ti sz z)) (hz : z.size = sz)
    (v1 v2 : Value) (l1 l2 : List α) (w : World) (h1 : SlR sz R w v1 l1) (h2 : SlR sz R w v2 l2) (g : FuncId) (hg : okF P g = true)
    (hp : ∀ (x y : α) (c1 c2 : List Value) (w' : World), C w' c1 x → C w' c2 y → Ret P g #[.agg c1.toArray, .agg c2.toArray] w' fun v w'' => (∃ b : Bool, v = .bool b ∧ (b = true ↔ x = y)) ∧ Ext w' w'') :
    Ret P f #[v1, v2, .func (.func g) #[] #[]] w fun v w' => (∃ b : Bool, v = .bool b ∧ (b = true ↔ l1 = l2)) ∧ Ext w w' := by
  obtain ⟨o1, c1, rfl, b1⟩ := h1.form
  obtain ⟨o2, c2, rfl, b2⟩ := h2.form
  refine K.start hm hE (args := [_, _, _]) (Nat.le_of_ble_eq_true rfl) ?_
  dsimp only [eqfCode,yt,yi,yb,yp,yr,ye,yc,yv,yg,ym,yw,ya,yl,yx,ys,yn]
  refine Sg ?_
  refine K.cond (fun g0 => ?_) (fun g0 => ?_)
  rotate_left
  · refine Sg ?_
    exact ⟨⟨false, rfl, by simp; intro e; subst e; exact g0 rfl⟩, Ext.refl _⟩
  have hlen : l1.length = l2.length := by omega
  refine Sg ?_
  refine K.forG 17 l1.length [0, 1, 2, 15, 16] (fun _ => []) () (fun k _ w' => Ext w w' ∧ l1.take k = l2.take k) (by first | trivial | rfl | exact ⟨rfl, trivial⟩ | (simp -dsimp only [LL,slots_nil,slots_cons,keepV_nil,keepV_cons,has_nil,has_cons,Nat.reduceAdd,Nat.reduceEqDiff,reduceIte,and_self]; done) | (simp -dsimp only [LL,slots_nil,slots_cons,keepV_nil,keepV_cons,has_nil,has_cons,Nat.reduceAdd,Nat.reduceEqDiff,reduceIte,and_self]; exact ⟨rfl, trivial⟩)) (by first | trivial | rfl | exact ⟨rfl, trivial⟩ | (simp -dsimp only [LL,slots_nil,slots_cons,keepV_nil,keepV_cons,has_nil,has_cons,Nat.reduceAdd,Nat.reduceEqDiff,reduceIte,and_self]; done) | (simp -dsimp only [LL,slots_nil,slots_cons,keepV_nil,keepV_cons,has_nil,has_cons,Nat.reduceAdd,Nat.reduceEqDiff,reduceIte,and_self]; exact ⟨rfl, trivial⟩)) ⟨Ext.refl _, by simp⟩ ?_
  rintro k _ S w2 hk ⟨he2, hI⟩
  refine Sg ?_
  refine K.cond (fun g1 => ?_) (fun g1 => ?_)
  · have hk' : k < l1.length := by omega
    have hk2 : k < l2.length := by omega
    obtain ⟨a1, rfl⟩ := h1.addr (by omega)
    obtain ⟨a2, rfl⟩ := h2.addr (by omega)
    obtain ⟨cs1, hc1, hC1⟩ := Rel.out (h1.at k hk')
    obtain ⟨cs2, hc2, hC2⟩ := Rel.out (h2.at k hk2)
    have hl1 := Rel.len (R := R) hC1
    have hl2 := Rel.len (R := R) hC2
    have ho1 := Rel.one (R := R) hC1
    have ho2 := Rel.one (R := R) hC2
    refine Sg ?_
    refine K.ldA (hc1.ext he2) hl1 ?_
    refine Sg ?_
    intro w3 b3 hb3 he3 hb
    refine K.stAb hb hz (by simpa using hl1) (by simpa using ho1) fun w4 hw4 hc4 => ?_
    have he4 := hw4.ext he3 hb3
    have hz4 := lt_of_heap hc4
    refine Sg ?_
    refine K.ldA (hc2.ext (he2.trans he4)) hl2 ?_
    refine Sg ?_
    intro w5 b5 hb5 he5 hb'
    refine K.stAb hb' hz (by simpa using hl2) (by simpa using ho2) fun w6 hw6 hc6 => ?_
    have he6 := hw6.ext he5 hb5
    have hc46 := he6.obj hc4
    refine Sg ?_
    refine K.ldAb hc46 (Ext.refl _) hl1 ?_
    refine Sg ?_
    refine K.ldAb hc6 (Ext.refl _) hl2 ?_
    refine Sg ?_
    refine K.callV (first := []) (cap := []) hg (hp _ _ cs1 cs2 w6 (Rel.ext (R := R) ((he2.trans he4).trans he6) hC1) (Rel.ext (R := R) ((he2.trans he4).trans he6) hC2)) ?_
    rintro _ w7 ⟨⟨b, rfl, hb7⟩, he7⟩
    have e7 := ((he2.trans he4).trans he6).trans he7
    cases b with
    | true =>
      refine Sg ?_
      exact ⟨hk', by first | trivial | rfl, (), trivial, e7, (take_succ_eq hk' hk2).2 ⟨hI, hb7.1 rfl⟩⟩
    | false =>
      refine Sg ?_
      refine ⟨⟨false, rfl, ?_⟩, e7⟩
      simp
      intro e
      subst e
      exact absurd (hb7.2 rfl) (by decide)
  · refine Sg ?_
    refine ⟨⟨true, rfl, by simp; rw [List.take_of_length_le (by omega), List.take_of_length_le (by omega)] at hI; exact hI⟩, he2⟩
end
end Lite
namespace Go.Proofs.YtbbaokmelkiemaaGreatDoor
open Go Go.RowKit Lite
theorem sameAct_r (x y : Abs.Act) (c1 c2 : List Value) (w : World) (h1 : Abs.ActIs w c1 x) (h2 : Abs.ActIs w c2 y) :
    Ret Tryz.prog F.model_sameAct #[.agg c1.toArray, .agg c2.toArray] w fun v w' => (∃ b : Bool, v = .bool b ∧ (b = true ↔ x = y)) ∧ Ext w w' := by
  obtain ⟨_, _, rfl, hi1, hv1⟩ := h1
  obtain ⟨_, _, rfl, hi2, hv2⟩ := h2
  obtain ⟨_, _, rfl, _⟩ := hi1.form
  obtain ⟨_, _, rfl, _⟩ := hv1.form
  obtain ⟨_, _, rfl, _⟩ := hi2.form
  obtain ⟨_, _, rfl, _⟩ := hv2.form
  unfold Abs.Act.enc
  refine K.start hmix E.model_sameAct (args := [_, _]) (Nat.le_of_ble_eq_true rfl) ?_; dsimp only [C.model_sameAct,yt,yi,yb,yp,yr,ye,yc,yv,yg,ym,yw,ya,yl,yx,ys,yn]
  refine Sg ?_
  intro w1 b1 hb1 he1 hc1
  refine Sg ?_
  intro w2 b2 hb2 he2 hc2
  replace hc1 := he2.obj hc1
  have e2 := he1.trans he2
  refine Sg ?_
  refine K.cond (fun g1 => ?_) (fun g1 => ?_)
  rotate_left
  · refine Sg ?_
    exact ⟨⟨false, rfl, by simp; intro e; subst e; exact g1 rfl⟩, e2⟩
  refine Sg ?_
  refine K.cond (fun g2 => ?_) (fun g2 => ?_)
  rotate_left
  · refine Sg ?_
    exact ⟨⟨false, rfl, by simp; intro e; subst e; exact g2 rfl⟩, e2⟩
  refine Sg ?_
  refine K.cond (fun g3 => ?_) (fun g3 => ?_)
  rotate_left
  · refine Sg ?_
    exact ⟨⟨false, rfl, by simp; intro e; subst e; exact g3 rfl⟩, e2⟩
  refine Sg ?_
  refine K.call (neq_r _ _ x.index y.index w2 (hi1.ext e2) (hi2.ext e2)) ?_
  rintro _ w3 ⟨⟨b, rfl, hb⟩, he3⟩
  replace hc1 := he3.obj hc1
  replace hc2 := he3.obj hc2
  have e3 := e2.trans he3
  clear e2 he2 he3
  cases b with
  | false =>
    refine Sg ?_
    exact ⟨⟨false, rfl, by simp; intro e; subst e; exact absurd (hb.2 rfl) (by decide)⟩, e3⟩
  | true =>
    refine Sg ?_
    refine K.call (neq_r _ _ x.value y.value w3 (hv1.ext e3) (hv2.ext e3)) ?_
    rintro _ w4 ⟨⟨b, rfl, hb'⟩, he4⟩
    refine Sg ?_
    refine ⟨⟨b, rfl, hb'.trans ⟨fun e => ?_, fun e => by rw [e]⟩⟩, e3.trans he4⟩
    cases x; cases y
    simp_all
theorem aeqf_r (v1 v2 : Value) (l1 l2 : List Abs.Act) (w : World) (h1 : Abs.Acts w v1 l1) (h2 : Abs.Acts w v2 l2) :
    Ret Tryz.prog F.slices_EqualFunc_sl_api_Act_sl_api_Act_api_Act_api_Act #[v1, v2, .func (.func F.model_sameAct) #[] #[]] w fun v w' => (∃ b : Bool, v = .bool b ∧ (b = true ↔ l1 = l2)) ∧ Ext w w' :=
  eqf_r hmix E.slices_EqualFunc_sl_api_Act_sl_api_Act_api_Act_api_Act rfl v1 v2 l1 l2 w h1 h2 F.model_sameAct (by kernel_rfl) sameAct_r
theorem sameCmd_r (x y : Abs.Cmd) (c1 c2 : List Value) (w : World) (h1 : Abs.CmdIs w c1 x) (h2 : Abs.CmdIs w c2 y) :
    Ret Tryz.prog F.model_sameCmd #[.agg c1.toArray, .agg c2.toArray] w fun v w' => (∃ b : Bool, v = .bool b ∧ (b = true ↔ x = y)) ∧ Ext w w' := by
  obtain ⟨_, _, _, rfl, hi1, hv1⟩ := h1
  obtain ⟨_, _, _, rfl, hi2, hv2⟩ := h2
  obtain ⟨_, _, rfl, _⟩ := hi1.form
  obtain ⟨_, _, rfl, _⟩ := hv1.form
  obtain ⟨_, _, rfl, _⟩ := hi2.form
  obtain ⟨_, _, rfl, _⟩ := hv2.form
  unfold Abs.Cmd.enc
  refine K.start hmix E.model_sameCmd (args := [_, _]) (Nat.le_of_ble_eq_true rfl) ?_; dsimp only [C.model_sameCmd,yt,yi,yb,yp,yr,ye,yc,yv,yg,ym,yw,ya,yl,yx,ys,yn]
  refine Sg ?_
  intro w1 b1 hb1 he1 hc1
  refine Sg ?_
  intro w2 b2 hb2 he2 hc2
  replace hc1 := he2.obj hc1
  have e2 := he1.trans he2
  clear he1 he2
  refine Sg ?_
  refine K.cond (fun g1 => ?_) (fun g1 => ?_)
  rotate_left
  · refine Sg ?_
    exact ⟨⟨false, rfl, by simp; intro e; subst e; exact g1 rfl⟩, e2⟩
  refine Sg ?_
  refine K.cond (fun g2 => ?_) (fun g2 => ?_)
  rotate_left
  · refine Sg ?_
    exact ⟨⟨false, rfl, by simp; intro e; subst e; exact g2 rfl⟩, e2⟩
  refine Sg ?_
  refine K.cond (fun g3 => ?_) (fun g3 => ?_)
  rotate_left
  · refine Sg ?_
    exact ⟨⟨false, rfl, by simp; intro e; subst e; exact g3 rfl⟩, e2⟩
  refine Sg ?_
  refine K.eqb (by kernel_rfl) ?_
  refine Sg ?_
  refine K.cond (fun g4 => ?_) (fun g4 => ?_)
  rotate_left
  · refine Sg ?_
    exact ⟨⟨false, rfl, by simp; intro e; subst e; exact g4 rfl⟩, e2⟩
  refine Sg ?_
  refine K.call (neq_r _ _ x.guard y.guard w2 (hi1.ext e2) (hi2.ext e2)) ?_
  rintro _ w3 ⟨⟨b, rfl, hb3⟩, he3⟩
  replace hc1 := he3.obj hc1
  replace hc2 := he3.obj hc2
  have e3 := e2.trans he3
  clear e2 he3
  rcases b with _ | _
  · refine Sg ?_
    exact ⟨⟨false, rfl, by simp; intro e; subst e; exact absurd (hb3.2 rfl) (by decide)⟩, e3⟩
  refine Sg ?_
  refine K.call (aeqf_r _ _ x.acts y.acts w3 (hv1.ext e3) (hv2.ext e3)) ?_
  rintro _ w4 ⟨⟨b, rfl, hb4⟩, he4⟩
  refine Sg ?_
  refine ⟨⟨b, rfl, hb4.trans ⟨fun e => ?_, fun e => by rw [e]⟩⟩, e3.trans he4⟩
  cases x; cases y
  simp_all
theorem ceqf_r (v1 v2 : Value) (l1 l2 : List Abs.Cmd) (w : World) (h1 : Abs.Cmds w v1 l1) (h2 : Abs.Cmds w v2 l2) :
    Ret Tryz.prog F.slices_EqualFunc_sl_api_Cmd_sl_api_Cmd_api_Cmd_api_Cmd #[v1, v2, .func (.func F.model_sameCmd) #[] #[]] w fun v w' => (∃ b : Bool, v = .bool b ∧ (b = true ↔ l1 = l2)) ∧ Ext w w' :=
  eqf_r hmix E.slices_EqualFunc_sl_api_Cmd_sl_api_Cmd_api_Cmd_api_Cmd rfl v1 v2 l1 l2 w h1 h2 F.model_sameCmd (by kernel_rfl) sameCmd_r
theorem sameProc_r (x y : Abs.Proc) (c1 c2 : List Value) (w : World) (h1 : Abs.ProcIs w c1 x) (h2 : Abs.ProcIs w c2 y) :
    Ret Tryz.prog F.model_sameProc #[.agg c1.toArray, .agg c2.toArray] w fun v w' => (∃ b : Bool, v = .bool b ∧ (b = true ↔ x = y)) ∧ Ext w w' := by
  obtain ⟨_, _, _, rfl, hi1, hv1⟩ := h1
  obtain ⟨_, _, _, rfl, hi2, hv2⟩ := h2
  obtain ⟨_, _, rfl, _⟩ := hi1.form
  obtain ⟨_, _, rfl, _⟩ := hv1.form
  obtain ⟨_, _, rfl, _⟩ := hi2.form
  obtain ⟨_, _, rfl, _⟩ := hv2.form
  unfold Abs.Proc.enc
  refine K.start hmix E.model_sameProc (args := [_, _]) (Nat.le_of_ble_eq_true rfl) ?_; dsimp only [C.model_sameProc,yt,yi,yb,yp,yr,ye,yc,yv,yg,ym,yw,ya,yl,yx,ys,yn]
  refine Sg ?_
  intro w1 b1 hb1 he1 hc1
  refine Sg ?_
  intro w2 b2 hb2 he2 hc2
  replace hc1 := he2.obj hc1
  have e2 := he1.trans he2
  clear he1 he2
  refine Sg ?_
  refine K.cond (fun g1 => ?_) (fun g1 => ?_)
  rotate_left
  · refine Sg ?_
    exact ⟨⟨false, rfl, by simp; intro e; subst e; exact g1 rfl⟩, e2⟩
  refine Sg ?_
  refine K.cond (fun g2 => ?_) (fun g2 => ?_)
  rotate_left
  · refine Sg ?_
    exact ⟨⟨false, rfl, by simp; intro e; subst e; exact g2 rfl⟩, e2⟩
  refine Sg ?_
  refine K.cond (fun g3 => ?_) (fun g3 => ?_)
  rotate_left
  · refine Sg ?_
    exact ⟨⟨false, rfl, by simp; intro e; subst e; exact g3 rfl⟩, e2⟩
  refine Sg ?_
  refine K.call (veq_r _ _ x.vars y.vars w2 (hi1.ext e2) (hi2.ext e2)) ?_
  rintro _ w3 ⟨⟨b, rfl, hb3⟩, he3⟩
  replace hc1 := he3.obj hc1
  replace hc2 := he3.obj hc2
  have e3 := e2.trans he3
  clear e2 he3
  rcases b with _ | _
  · refine Sg ?_
    exact ⟨⟨false, rfl, by simp; intro e; subst e; exact absurd (hb3.2 rfl) (by decide)⟩, e3⟩
  refine Sg ?_
  refine K.call (ceqf_r _ _ x.cmds y.cmds w3 (hv1.ext e3) (hv2.ext e3)) ?_
  rintro _ w4 ⟨⟨b, rfl, hb4⟩, he4⟩
  refine Sg ?_
  refine ⟨⟨b, rfl, hb4.trans ⟨fun e => ?_, fun e => by rw [e]⟩⟩, e3.trans he4⟩
  cases x; cases y
  simp_all
theorem peqf_r (v1 v2 : Value) (l1 l2 : List Abs.Proc) (w : World) (h1 : Abs.Procs w v1 l1) (h2 : Abs.Procs w v2 l2) :
    Ret Tryz.prog F.slices_EqualFunc_sl_api_Proc_sl_api_Proc_api_Proc_api_Proc #[v1, v2, .func (.func F.model_sameProc) #[] #[]] w fun v w' => (∃ b : Bool, v = .bool b ∧ (b = true ↔ l1 = l2)) ∧ Ext w w' :=
  eqf_r hmix E.slices_EqualFunc_sl_api_Proc_sl_api_Proc_api_Proc_api_Proc rfl v1 v2 l1 l2 w h1 h2 F.model_sameProc (by kernel_rfl) sameProc_r
theorem sameProp_r (x y : Abs.Prp) (c1 c2 : List Value) (w : World) (h1 : Abs.PrpIs w c1 x) (h2 : Abs.PrpIs w c2 y) :
    Ret Tryz.prog F.model_sameProp #[.agg c1.toArray, .agg c2.toArray] w fun v w' => (∃ b : Bool, v = .bool b ∧ (b = true ↔ x = y)) ∧ Ext w w' := by
  obtain ⟨_, _, rfl, hv1⟩ := h1
  obtain ⟨_, _, rfl, hv2⟩ := h2
  obtain ⟨_, _, rfl, _⟩ := hv1.form
  obtain ⟨_, _, rfl, _⟩ := hv2.form
  unfold Abs.Prp.enc
  refine K.start hmix E.model_sameProp (args := [_, _]) (Nat.le_of_ble_eq_true rfl) ?_; dsimp only [C.model_sameProp,yt,yi,yb,yp,yr,ye,yc,yv,yg,ym,yw,ya,yl,yx,ys,yn]
  refine Sg ?_
  intro w1 b1 hb1 he1 hc1
  refine Sg ?_
  intro w2 b2 hb2 he2 hc2
  replace hc1 := he2.obj hc1
  have e2 := he1.trans he2
  clear he1 he2
  refine Sg ?_
  refine K.cond (fun g1 => ?_) (fun g1 => ?_)
  rotate_left
  · refine Sg ?_
    exact ⟨⟨false, rfl, by simp; intro e; subst e; exact g1 rfl⟩, e2⟩
  refine Sg ?_
  refine K.call (neq_r _ _ x.expr y.expr w2 (hv1.ext e2) (hv2.ext e2)) ?_
  rintro _ w3 ⟨⟨b, rfl, hb3⟩, he3⟩
  refine Sg ?_
  refine ⟨⟨b, rfl, hb3.trans ⟨fun e => ?_, fun e => by rw [e]⟩⟩, e2.trans he3⟩
  cases x; cases y
  simp_all
theorem preqf_r (v1 v2 : Value) (l1 l2 : List Abs.Prp) (w : World) (h1 : Abs.Prps w v1 l1) (h2 : Abs.Prps w v2 l2) :
    Ret Tryz.prog F.slices_EqualFunc_sl_api_Prop_sl_api_Prop_api_Prop_api_Prop #[v1, v2, .func (.func F.model_sameProp) #[] #[]] w fun v w' => (∃ b : Bool, v = .bool b ∧ (b = true ↔ l1 = l2)) ∧ Ext w w' :=
  eqf_r hmix E.slices_EqualFunc_sl_api_Prop_sl_api_Prop_api_Prop_api_Prop rfl v1 v2 l1 l2 w h1 h2 F.model_sameProp (by kernel_rfl) sameProp_r
theorem same_r (c1 c2 : List Value) (x y : Abs.Model) (w : World) (h1 : Abs.ModelIs w c1 x) (h2 : Abs.ModelIs w c2 y) :
    Ret Tryz.prog F.model_Same #[.agg c1.toArray, .agg c2.toArray] w fun v w' => (∃ b : Bool, v = .bool b ∧ (b = true ↔ x = y)) ∧ Ext w w' := by
  obtain ⟨a0, d0, a1, d1, a2, d2, a3, d3, a4, d4, rfl, h0, h1, h2', h3, h4, _⟩ := h1.form
  obtain ⟨o0, e0, o1, e1, o2, e2', o3, e3', o4, e4', rfl, k0, k1, k2, k3, k4, _⟩ := h2.form
  refine K.start hmix E.model_Same (args := [_, _]) (Nat.le_of_ble_eq_true rfl) ?_; dsimp only [C.model_Same,yt,yi,yb,yp,yr,ye,yc,yv,yg,ym,yw,ya,yl,yx,ys,yn]
  refine Sg ?_
  intro w1 b1 hb1 he1 hc1
  refine Sg ?_
  intro w2 b2 hb2 he2 hc2
  replace hc1 := he2.obj hc1
  have e2 := he1.trans he2
  clear he1 he2
  refine Sg ?_
  refine K.call (seq_r _ _ x.scalars y.scalars w2 (h0.ext e2) (k0.ext e2)) ?_
  rintro _ w3 ⟨⟨b, rfl, hb3⟩, he3⟩
  replace hc1 := he3.obj hc1
  replace hc2 := he3.obj hc2
  have e3 := e2.trans he3
  clear e2 he3
  rcases b with _ | _
  · refine Sg ?_
    exact ⟨⟨false, rfl, by simp; intro e; subst e; exact absurd (hb3.2 rfl) (by decide)⟩, e3⟩
  refine Sg ?_
  refine K.call (veq_r _ _ x.vars y.vars w3 (h1.ext e3) (k1.ext e3)) ?_
  rintro _ w4 ⟨⟨b, rfl, hb4⟩, he4⟩
  replace hc1 := he4.obj hc1
  replace hc2 := he4.obj hc2
  have e4 := e3.trans he4
  clear e3 he4
  rcases b with _ | _
  · refine Sg ?_
    exact ⟨⟨false, rfl, by simp; intro e; subst e; exact absurd (hb4.2 rfl) (by decide)⟩, e4⟩
  refine Sg ?_
  refine K.call (cheq_r _ _ x.chans y.chans w4 (h2'.ext e4) (k2.ext e4)) ?_
  rintro _ w5 ⟨⟨b, rfl, hb5⟩, he5⟩
  replace hc1 := he5.obj hc1
  replace hc2 := he5.obj hc2
  have e5 := e4.trans he5
  clear e4 he5
  rcases b with _ | _
  · refine Sg ?_
    exact ⟨⟨false, rfl, by simp; intro e; subst e; exact absurd (hb5.2 rfl) (by decide)⟩, e5⟩
  refine Sg ?_
  refine K.call (peqf_r _ _ x.procs y.procs w5 (h3.ext e5) (k3.ext e5)) ?_
  rintro _ w6 ⟨⟨b, rfl, hb6⟩, he6⟩
  replace hc1 := he6.obj hc1
  replace hc2 := he6.obj hc2
  have e6 := e5.trans he6
  clear e5 he6
  rcases b with _ | _
  · refine Sg ?_
    exact ⟨⟨false, rfl, by simp; intro e; subst e; exact absurd (hb6.2 rfl) (by decide)⟩, e6⟩
  refine Sg ?_
  refine K.call (preqf_r _ _ x.props y.props w6 (h4.ext e6) (k4.ext e6)) ?_
  rintro _ w7 ⟨⟨b, rfl, hb7⟩, he7⟩
  refine Sg ?_
  refine ⟨⟨b, rfl, hb7.trans ⟨fun e => ?_, fun e => by rw [e]⟩⟩, e6.trans he7⟩
  cases x; cases y
  simp_all
end Go.Proofs.YtbbaokmelkiemaaGreatDoor
end
section
/- Arguments opened: scopes, what expressions speak of. -/
set_option maxRecDepth 4000
namespace Lite
open Go Go.RowKit Go.ChangeShapes Go.WideShapes Go.Deep
end Lite
namespace Go.Proofs.YtbbaokmelkiemaaGreatDoor
open Go Go.RowKit Lite Go.ChangeShapes
variable {H : Type} {enc : TypeId × Value → H} {w : World} {r : Reach} {b0 : Nat} {v : Value} {d : DataW H} {p : List MemPlace}
end Go.Proofs.YtbbaokmelkiemaaGreatDoor
end
section
/- Commands: the reference's communication; the example of the laws. -/
set_option maxRecDepth 4000
set_option maxHeartbeats 1600000
namespace Go.Proofs.YtbbaokmelkiemaaGreatDoor
open Go Go.RowKit Lite
end Go.Proofs.YtbbaokmelkiemaaGreatDoor
namespace Abs
open Go Go.RowKit Lite
theorem Nodes.blk {w : World} {b n : Nat} {e : TypeId} {f : Nat × Nat} {xs : List Node} (hb : w.heap[b]? = some (.cells (xs.flatMap Node.enc).toArray e f)) (hn : n = xs.length) (hm : xs.length ≤ maxLen) (hok : ∀ x ∈ xs, x.ok) :
    Nodes w (.slice (some ⟨b, 0, none⟩) n n) xs := SlR.blk (enc := Node.enc) (fun _ => rfl) hb hn hm fun _ x hx hc => ⟨hc, hok x hx⟩
end Abs
namespace Go.Proofs.YtbbaokmelkiemaaGreatDoor
open Go Go.RowKit Lite
end Go.Proofs.YtbbaokmelkiemaaGreatDoor
end
section
/- What every right program says of some models. -/
set_option maxRecDepth 4000
set_option maxHeartbeats 16000000
namespace Abs
open Go
def pNodes : List Node := [⟨1, 0⟩, ⟨1, 0⟩, ⟨14, 0⟩]
def awX : Var := ⟨⟨#[120]⟩, 0, 0, 0, 1, 0⟩
def awP : Prp := ⟨⟨#[112]⟩, pNodes⟩
def aw0 : Model := ⟨[], [], [], [], []⟩
def aw1 : Model := ⟨[], [awX], [], [], [awP, awP]⟩
def aw2 : Model := ⟨[], [⟨⟨#[]⟩, 0, 0, 0, 0, 0⟩], [], [], []⟩
theorem aw0_check : check aw0 = ⟨0, 0, 0, 0⟩ := by decide +kernel
theorem aw1_check : check aw1 = ⟨7, 5, 1, 0⟩ := by decide +kernel
theorem aw2_check : check aw2 = ⟨6, 2, 0, 0⟩ := by decide +kernel
theorem aw1_pieces : pieces aw1 = (0, 0, 1) := by decide +kernel
theorem aw_ok (p : Prp) (h : p = awP) : strOk p.name := by subst h; decide +kernel
theorem awX_good : awX.good := by constructor <;> (unfold inI; decide)
theorem aw0_good : aw0.good := ⟨by unfold big aw0; decide, by unfold big aw0; decide, by unfold big aw0; decide, by unfold big aw0; decide, by unfold big aw0; decide, by simp [aw0], by simp [aw0], by simp [aw0], by simp [aw0], by simp [aw0]⟩
theorem aw1_good : aw1.good := ⟨by unfold big aw1; decide, by unfold big aw1; decide, by unfold big aw1; decide, by unfold big aw1; decide, by unfold big aw1; decide, by simp [aw1], by simp [aw1]; exact awX_good, by simp [aw1], by simp [aw1], by simp [aw1]; exact ⟨by unfold big awP pNodes; decide⟩⟩
theorem aw2_good : aw2.good := ⟨by unfold big aw2; decide, by unfold big aw2; decide, by unfold big aw2; decide, by unfold big aw2; decide, by unfold big aw2; decide, by simp [aw2], by simp [aw2]; constructor <;> (unfold inI; decide), by simp [aw2], by simp [aw2], by simp [aw2]⟩
theorem aw1_few : Few aw1 := ⟨by decide, by decide, by decide, by simp [aw1]⟩
theorem aw_ne : aw1 ≠ aw0 := fun h => by injection h with h1 h2; cases h2
end Abs
namespace Go.Proofs.YtbbaokmelkiemaaGreatDoor
open Go Go.RowKit Lite
theorem p_r (s : ByteArray) (w : World) :
    Ret Tryz.prog F.lariatlaw15_p #[.string s] w fun v w' => (∃ b, v = .agg #[.string s, .slice (some ⟨b, 0, none⟩) 3 3] ∧ w.heap.size ≤ b ∧ Abs.Nodes w' (.slice (some ⟨b, 0, none⟩) 3 3) Abs.pNodes) ∧ Ext w w' := by
  refine K.start hmix E.lariatlaw15_p (args := [_]) (Nat.le_of_ble_eq_true rfl) ?_; dsimp only [C.lariatlaw15_p,yt,yi,yb,yp,yr,ye,yc,yv,yg,ym,yw,ya,yl,yx,ys,yn]
  refine Sg ?_
  intro w1 b1 hb1 he1 hc1
  refine Sg ?_
  intro w2 b2 hb2 he2 hc2
  have z0 := lt_of_heap hc1
  replace hc1 := he2.obj hc1
  have e2 := he1.trans he2
  have hne : b2 ≠ b1 := by omega
  refine Sg ?_
  intro w3 hw3 hc3
  have e3 := hw3.ext e2 (by omega)
  refine Sg ?_
  replace hc2 : w2.heap[b2]? = some (.cells (Abs.pNodes.flatMap Abs.Node.enc).toArray T.api_Node) := hc2
  have z2 := he1.size
  replace hb2 := Nat.le_trans z2 hb2
  have hn : Abs.Nodes w2 (.slice (some ⟨b2, 0, none⟩) 3 3) Abs.pNodes := Abs.Nodes.blk hc2 rfl (by decide) (by simp [Abs.pNodes]; refine ⟨⟨?_, ?_⟩, ⟨?_, ?_⟩⟩ <;> (unfold Abs.inI; decide))
  refine ⟨⟨b2, rfl, hb2, ?_⟩, e3⟩
  exact Abs.Nodes.blk (hw3.obj hc2 hne) rfl (by decide) (by simp [Abs.pNodes]; refine ⟨⟨?_, ?_⟩, ⟨?_, ?_⟩⟩ <;> (unfold Abs.inI; decide))
def awCells (b1 b2 : Nat) : List Value := [.slice none 0 0, .slice (some ⟨b1, 0, none⟩) 1 1, .slice none 0 0, .slice none 0 0, .slice (some ⟨b2, 0, none⟩) 2 2]
theorem awM {w : World} {bv bp n1 n2 : Nat} (h1 : w.heap[bv]? = some (.cells (([Abs.awX]).flatMap Abs.Var.enc).toArray T.api_Var)) (h2 : w.heap[bp]? = some (.cells #[.string ⟨#[112]⟩, .slice (some ⟨n1, 0, none⟩) 3 3, .string ⟨#[112]⟩, .slice (some ⟨n2, 0, none⟩) 3 3] T.api_Prop))
    (h3 : Abs.Nodes w (.slice (some ⟨n1, 0, none⟩) 3 3) Abs.pNodes) (h4 : Abs.Nodes w (.slice (some ⟨n2, 0, none⟩) 3 3) Abs.pNodes) : Abs.ModelIs w (awCells bv bp) Abs.aw1 :=
  ⟨_, _, _, _, _, rfl, SlR.nil, Abs.Vars.blk h1 rfl (by decide) (by decide +kernel), SlR.nil, SlR.nil, SlR.blkC [⟨[.string ⟨#[112]⟩, .slice (some ⟨n1, 0, none⟩) 3 3], rfl, by simp [Value.oneCell']⟩, ⟨[.string ⟨#[112]⟩, .slice (some ⟨n2, 0, none⟩) 3 3], rfl, by simp [Value.oneCell']⟩] h2 rfl rfl rfl (by decide) (by
    intro i h1 h2
    match i, h1, h2 with
    | 0, _, _ => exact ⟨Abs.aw_ok _ rfl, _, rfl, h3⟩
    | 1, _, _ => exact ⟨Abs.aw_ok _ rfl, _, rfl, h4⟩)⟩
abbrev nil5 : List Value := [.slice none 0 0, .slice none 0 0, .slice none 0 0, .slice none 0 0, .slice none 0 0]
theorem aw0M (w : World) : Abs.ModelIs w nil5 Abs.aw0 := ⟨_, _, _, _, _, rfl, SlR.nil, SlR.nil, SlR.nil, SlR.nil, SlR.nil⟩
theorem aw2M {w : World} {b : Nat} (h : w.heap[b]? = some (.cells #[.string ⟨#[]⟩, .int .i64 0, .int .i64 0, .int .i64 0, .int .i64 0, .int .i64 0] T.api_Var)) : Abs.ModelIs w [.slice none 0 0, .slice (some ⟨b, 0, none⟩) 1 1, .slice none 0 0, .slice none 0 0, .slice none 0 0] Abs.aw2 :=
  ⟨_, _, _, _, _, rfl, SlR.nil, Abs.Vars.blk (xs := Abs.aw2.vars) h rfl (by decide) (by decide +kernel), SlR.nil, SlR.nil, SlR.nil⟩
theorem awc0_r (w : World) (ho : OwnIs w) : Ret Tryz.prog F.model_Check #[.agg nil5.toArray] w fun v w' => v = .agg #[.int .i64 0, .int .i64 0, .int .i64 0, .int .i64 0] ∧ Ext w w' :=
  (mcheck_r _ _ w (aw0M w) Abs.aw0_good ho).mono fun v w' h => ⟨by rw [h.1, Abs.aw0_check], h.2⟩
theorem awc1_r (cs : List Value) (w : World) (ho : OwnIs w) (h : Abs.ModelIs w cs Abs.aw1) : Ret Tryz.prog F.model_Check #[.agg cs.toArray] w fun v w' => v = .agg #[.int .i64 7, .int .i64 5, .int .i64 1, .int .i64 0] ∧ Ext w w' :=
  (mcheck_r _ _ w h Abs.aw1_good ho).mono fun v w' h => ⟨by rw [h.1, Abs.aw1_check], h.2⟩
theorem awc2_r (cs : List Value) (w : World) (ho : OwnIs w) (h : Abs.ModelIs w cs Abs.aw2) : Ret Tryz.prog F.model_Check #[.agg cs.toArray] w fun v w' => v = .agg #[.int .i64 6, .int .i64 2, .int .i64 0, .int .i64 0] ∧ Ext w w' :=
  (mcheck_r _ _ w h Abs.aw2_good ho).mono fun v w' h => ⟨by rw [h.1, Abs.aw2_check], h.2⟩
theorem awp_r (cs : List Value) (w : World) (h : Abs.ModelIs w cs Abs.aw1) : Ret Tryz.prog F.model_Pieces #[.agg cs.toArray] w fun v w' => v = .tuple #[.int .i64 0, .int .i64 0, .int .i64 1] ∧ Ext w w' :=
  (pieces_r _ _ w h Abs.aw1_few).mono fun v w' h => ⟨by rw [h.1, Abs.aw1_pieces], h.2⟩
theorem aws1_r (c1 c2 : List Value) (w : World) (h1 : Abs.ModelIs w c1 Abs.aw1) (h2 : Abs.ModelIs w c2 Abs.aw1) : Ret Tryz.prog F.model_Same #[.agg c1.toArray, .agg c2.toArray] w fun v w' => v = .bool true ∧ Ext w w' :=
  (same_r _ _ _ _ w h1 h2).mono fun v w' ⟨⟨b, h, hb⟩, he⟩ => ⟨by rw [h, hb.2 rfl], he⟩
theorem aws0_r (c1 : List Value) (w : World) (h1 : Abs.ModelIs w c1 Abs.aw1) : Ret Tryz.prog F.model_Same #[.agg c1.toArray, .agg nil5.toArray] w fun v w' => v = .bool false ∧ Ext w w' :=
  (same_r _ _ _ _ w h1 (aw0M w)).mono fun v w' ⟨⟨b, h, hb⟩, he⟩ => ⟨by cases b with | false => exact h | true => exact absurd (hb.1 rfl) Abs.aw_ne, he⟩
theorem awcp_r (cs : List Value) (w : World) (h : Abs.ModelIs w cs Abs.aw1) : Ret Tryz.prog F.model_Copy #[.agg cs.toArray] w fun v w' => (∃ a0 c0 a1 c1 a2 c2 a3 c3 a4 c4, v = .agg #[.slice a0 0 c0, .slice a1 1 c1, .slice a2 0 c2, .slice a3 0 c3, .slice a4 2 c4] ∧ Abs.ModelIs w' [.slice a0 0 c0, .slice a1 1 c1, .slice a2 0 c2, .slice a3 0 c3, .slice a4 2 c4] Abs.aw1) ∧ Ext w w' :=
  (copy_r _ _ w h Abs.aw1_good rfl).mono fun v w' ⟨⟨cs', h1, hn⟩, he⟩ => ⟨by
    have hm := hn.here
    obtain ⟨a0, c0, a1, c1, a2, c2, a3, c3, a4, c4, rfl, _⟩ := Abs.ModelIs.form hm
    exact ⟨_, _, _, _, _, _, _, _, _, _, h1, hm⟩, he⟩
theorem conf4 (a b c d : Int) : conf [.i, .i, .i, .i] [.int .i64 a, .int .i64 b, .int .i64 c, .int .i64 d] := ⟨⟨a, rfl⟩, ⟨b, rfl⟩, ⟨c, rfl⟩, ⟨d, rfl⟩, trivial⟩
theorem awake15_r (w : World) (ho : OwnIs w) : Ret Tryz.prog F.lariatlaw15_awake #[] w fun v w' => v = .bool true ∧ Ext w w' := by
  refine K.start hmix E.lariatlaw15_awake (args := []) (Nat.le_of_ble_eq_true rfl) ?_; dsimp only [C.lariatlaw15_awake,yt,yi,yb,yp,yr,ye,yc,yv,yg,ym,yw,ya,yl,yx,ys,yn]
  refine Sg ?_
  refine K.call (p_r _ w) ?_
  rintro _ w1 ⟨⟨n1, rfl, hn1, hN1⟩, he1⟩
  refine Sg ?_
  refine K.call (p_r _ w1) ?_
  rintro _ w2 ⟨⟨n2, rfl, hn2, hN2⟩, he2⟩
  replace hN1 := hN1.ext he2
  have e2 := he1.trans he2
  refine Sg ?_
  intro w3 b3 hb3 he3 hc3
  replace hN1 := hN1.ext he3
  replace hN2 := hN2.ext he3
  have e3 := e2.trans he3
  refine Sg ?_
  intro w4 b4 hb4 he4 hc4
  replace hN1 := hN1.ext he4
  replace hN2 := hN2.ext he4
  replace hc3 := he4.obj hc3
  have e4 := e3.trans he4
  refine Sg ?_
  intro w5 b5 hb5 he5 hc5
  have y3 := lt_of_heap hc3
  have y4 := lt_of_heap hc4
  replace hN1 := hN1.ext he5
  replace hN2 := hN2.ext he5
  replace hc3 := he5.obj hc3
  replace hc4 := he5.obj hc4
  have e5 := e4.trans he5
  have y1 := e4.size
  have hM : Abs.ModelIs w5 (awCells b4 b3) Abs.aw1 := awM hc4 hc3 hN1 hN2
  replace hc5 : w5.heap[b5]? = some (.cells #[.slice none 0 0, .slice (some ⟨b4, 0, none⟩) 1 1, .slice none 0 0, .slice none 0 0, .slice (some ⟨b3, 0, none⟩) 2 2] T.api_Model) := hc5
  have E5 := e5
  clear hc3 hc4 hN1 hN2 he1 he2 he3 he4 he5 e2 e3 e4 e5
  unfold awCells at hM
  refine Sg ?_
  refine K.call (awp_r _ w5 hM) ?_
  rintro _ w6 ⟨rfl, he6⟩
  replace hc5 := he6.obj hc5
  replace hM := hM.ext he6
  replace E5 := E5.trans he6
  clear he6
  refine Sg ?_
  refine K.call (awcp_r _ w6 hM) ?_
  rintro _ w7 ⟨⟨a0, c0, a1, c1, a2, c2, a3, c3, a4, c4, rfl, hC⟩, he7⟩
  replace hc5 := he7.obj hc5
  replace hM := hM.ext he7
  replace E5 := E5.trans he7
  clear he7
  refine Sg ?_
  intro w8 b8 hb8 he8 hc8
  replace hc5 := he8.obj hc5
  replace hM := hM.ext he8
  replace hC := hC.ext he8
  replace E5 := E5.trans he8
  clear he8
  refine Sg ?_
  refine K.call (awc0_r w8 (ho.ext E5)) ?_
  rintro _ w9 ⟨rfl, he9⟩
  replace hc5 := he9.obj hc5
  replace hc8 := he9.obj hc8
  replace hM := hM.ext he9
  replace hC := hC.ext he9
  replace E5 := E5.trans he9
  clear he9
  refine Sg ?_
  refine K.eqS (sig := [.i, .i, .i, .i]) (xs := [_, _, _, _]) (ys := [_, _, _, _]) (by kernel_rfl) (conf4 _ _ _ _) (conf4 _ _ _ _) fun r hr => ?_
  obtain rfl : r = true := hr.2 rfl
  refine Sg ?_
  refine K.call (awc1_r _ w9 (ho.ext E5) hM) ?_
  rintro _ w10 ⟨rfl, he10⟩
  replace hc5 := he10.obj hc5
  replace hc8 := he10.obj hc8
  replace hM := hM.ext he10
  replace hC := hC.ext he10
  replace E5 := E5.trans he10
  clear he10
  refine Sg ?_
  refine K.eqS (sig := [.i, .i, .i, .i]) (xs := [_, _, _, _]) (ys := [_, _, _, _]) (by kernel_rfl) (conf4 _ _ _ _) (conf4 _ _ _ _) fun r hr => ?_
  obtain rfl : r = true := hr.2 rfl
  refine Sg ?_
  intro w11 b11 hb11 he11 hc11
  replace hc5 := he11.obj hc5
  replace hc8 := he11.obj hc8
  replace hM := hM.ext he11
  replace hC := hC.ext he11
  replace E5 := E5.trans he11
  clear he11
  refine Sg ?_
  refine K.call (awc2_r _ w11 (ho.ext E5) (aw2M hc11)) ?_
  rintro _ w12 ⟨rfl, he12⟩
  replace hc5 := he12.obj hc5
  replace hc8 := he12.obj hc8
  replace hM := hM.ext he12
  replace hC := hC.ext he12
  replace E5 := E5.trans he12
  clear he12
  refine Sg ?_
  refine K.eqS (sig := [.i, .i, .i, .i]) (xs := [_, _, _, _]) (ys := [_, _, _, _]) (by kernel_rfl) (conf4 _ _ _ _) (conf4 _ _ _ _) fun r hr => ?_
  obtain rfl : r = true := hr.2 rfl
  refine Sg ?_
  refine K.call (aws1_r _ _ w12 hC hM) ?_
  rintro _ w13 ⟨rfl, he13⟩
  replace hc8 := he13.obj hc8
  replace hC := hC.ext he13
  replace E5 := E5.trans he13
  clear he13
  refine Sg ?_
  refine K.call (aws0_r _ w13 hC) ?_
  rintro _ w14 ⟨rfl, he14⟩
  replace hc8 := he14.obj hc8
  replace E5 := E5.trans he14
  clear he14
  refine Sg ?_
  exact ⟨by first | trivial | rfl, E5⟩
end Go.Proofs.YtbbaokmelkiemaaGreatDoor
end
section
/- Whole models: Light. -/
set_option maxRecDepth 4000
set_option maxHeartbeats 6400000
namespace Abs
structure LightM (m : Model) : Prop where
  s : m.scalars.length ≤ 8
  v : m.vars.length ≤ 20
  c : m.chans.length ≤ 8
  p : m.procs.length ≤ 10
  q : m.props.length ≤ 16
  i : ∀ (j : Nat) (h : j < m.procs.length), m.procs[j].vars.length ≤ 10 ∧ m.procs[j].cmds.length ≤ 16
end Abs
namespace Go.Proofs.YtbbaokmelkiemaaGreatDoor
open Go Go.RowKit Lite
theorem lightC_r (cs : List Value) (c : Abs.Cmd) (w : World) (h : Abs.CmdIs w cs c) :
    Ret Tryz.prog F.lariatref15_light #[.agg cs.toArray] w fun v w' => (∃ b : Bool, v = .bool b) ∧ Ext w w' := by
  obtain ⟨h0, _, _, rfl, hg, ha⟩ := h
  obtain ⟨_, _, rfl, _⟩ := hg.form
  obtain ⟨oa, ca, rfl, la⟩ := ha.form
  unfold Abs.Cmd.enc
  refine K.start hmix E.lariatref15_light (args := [_]) (Nat.le_of_ble_eq_true rfl) ?_; dsimp only [C.lariatref15_light,yt,yi,yb,yp,yr,ye,yc,yv,yg,ym,yw,ya,yl,yx,ys,yn]
  refine Sg ?_
  intro w1 b1 hb1 he1 hc1
  refine Sg ?_
  refine K.cond (fun g0 => ?_) (fun g0 => ?_)
  · refine Sg ?_
    exact ⟨⟨_, rfl⟩, he1⟩
  refine Sg ?_
  refine K.cond (fun g1 => ?_) (fun g1 => ?_)
  · refine Sg ?_
    exact ⟨⟨_, rfl⟩, he1⟩
  refine Sg ?_
  refine K.cond (fun g2 => ?_) (fun g2 => ?_)
  · refine Sg ?_
    exact ⟨⟨_, rfl⟩, he1⟩
  refine Sg ?_
  refine K.forG 3 c.acts.length [1] (fun _ => []) () (fun k _ w' => w' = w1) (by first | trivial | rfl | exact ⟨rfl, trivial⟩ | (simp -dsimp only [LL,slots_nil,slots_cons,keepV_nil,keepV_cons,has_nil,has_cons,Nat.reduceAdd,Nat.reduceEqDiff,reduceIte,and_self]; done) | (simp -dsimp only [LL,slots_nil,slots_cons,keepV_nil,keepV_cons,has_nil,has_cons,Nat.reduceAdd,Nat.reduceEqDiff,reduceIte,and_self]; exact ⟨rfl, trivial⟩)) (by first | trivial | rfl | exact ⟨rfl, trivial⟩ | (simp -dsimp only [LL,slots_nil,slots_cons,keepV_nil,keepV_cons,has_nil,has_cons,Nat.reduceAdd,Nat.reduceEqDiff,reduceIte,and_self]; done) | (simp -dsimp only [LL,slots_nil,slots_cons,keepV_nil,keepV_cons,has_nil,has_cons,Nat.reduceAdd,Nat.reduceEqDiff,reduceIte,and_self]; exact ⟨rfl, trivial⟩)) rfl ?_
  rintro k _ S w2 hk rfl
  refine Sg ?_
  refine K.cond (fun g5 => ?_) (fun g5 => ?_)
  · have hk' : k < c.acts.length := by omega
    obtain ⟨a, rfl⟩ := ha.addr (by omega)
    obtain ⟨vv, vc, hp, hpv, hpc⟩ := ha.at k hk'
    obtain ⟨ov, cv, rfl, lv⟩ := hpv.form
    obtain ⟨oc, cc, rfl, lc⟩ := hpc.form
    refine Sg ?_
    refine K.cond (fun g6 => ?_) (fun g6 => ?_)
    · refine Sg ?_
      exact ⟨⟨_, rfl⟩, he1⟩
    refine Sg ?_
    refine K.cond (fun g7 => ?_) (fun g7 => ?_)
    · refine Sg ?_
      exact ⟨⟨_, rfl⟩, he1⟩
    refine Sg ?_
    exact ⟨hk', by first | trivial | rfl, (), trivial, by first | trivial | rfl⟩
  refine Sg ?_
  exact ⟨⟨_, rfl⟩, he1⟩
theorem light15_r (cs : List Value) (m : Abs.Model) (w : World) (h : Abs.ModelIs w cs m) :
    Ret Tryz.prog F.lariatref15_Light #[.agg cs.toArray] w fun v w' => (∃ b, v = .bool b ∧ (b = true → Abs.LightM m)) ∧ Ext w w' := by
  obtain ⟨o0, c0, o1, c1, o2, c2, o3, c3, o4, c4, rfl, h0, h1, h2, h3, h4, l0, l1, l2, l3, l4⟩ := h.form
  refine K.start hmix E.lariatref15_Light (args := [_]) (Nat.le_of_ble_eq_true rfl) ?_; dsimp only [C.lariatref15_Light,yt,yi,yb,yp,yr,ye,yc,yv,yg,ym,yw,ya,yl,yx,ys,yn]
  refine Sg ?_
  intro w1 b1 hb1 he1 hc1
  refine Sg ?_
  refine K.cond (fun g0 => ?_) (fun g0 => ?_)
  · refine Sg ?_
    exact ⟨⟨false, rfl, fun h => by cases h⟩, he1⟩
  refine Sg ?_
  refine K.cond (fun g1 => ?_) (fun g1 => ?_)
  · refine Sg ?_
    exact ⟨⟨false, rfl, fun h => by cases h⟩, he1⟩
  refine Sg ?_
  refine K.cond (fun g2 => ?_) (fun g2 => ?_)
  · refine Sg ?_
    exact ⟨⟨false, rfl, fun h => by cases h⟩, he1⟩
  refine Sg ?_
  refine K.cond (fun g3 => ?_) (fun g3 => ?_)
  · refine Sg ?_
    exact ⟨⟨false, rfl, fun h => by cases h⟩, he1⟩
  refine Sg ?_
  refine K.cond (fun g4 => ?_) (fun g4 => ?_)
  · refine Sg ?_
    exact ⟨⟨false, rfl, fun h => by cases h⟩, he1⟩
  have hc0 := hc1
  refine Sg ?_
  refine K.forG 3 m.procs.length [1] (fun _ => []) () (fun k _ w' => Ext w1 w' ∧ ∀ j (h : j < m.procs.length), j < k → m.procs[j].vars.length ≤ 10 ∧ m.procs[j].cmds.length ≤ 16) (by first | trivial | rfl | exact ⟨rfl, trivial⟩ | (simp -dsimp only [LL,slots_nil,slots_cons,keepV_nil,keepV_cons,has_nil,has_cons,Nat.reduceAdd,Nat.reduceEqDiff,reduceIte,and_self]; done) | (simp -dsimp only [LL,slots_nil,slots_cons,keepV_nil,keepV_cons,has_nil,has_cons,Nat.reduceAdd,Nat.reduceEqDiff,reduceIte,and_self]; exact ⟨rfl, trivial⟩)) (by first | trivial | rfl | exact ⟨rfl, trivial⟩ | (simp -dsimp only [LL,slots_nil,slots_cons,keepV_nil,keepV_cons,has_nil,has_cons,Nat.reduceAdd,Nat.reduceEqDiff,reduceIte,and_self]; done) | (simp -dsimp only [LL,slots_nil,slots_cons,keepV_nil,keepV_cons,has_nil,has_cons,Nat.reduceAdd,Nat.reduceEqDiff,reduceIte,and_self]; exact ⟨rfl, trivial⟩)) ⟨Ext.refl _, fun j _ h => absurd h (Nat.not_lt_zero _)⟩ ?_
  rintro k _ S w2 hk ⟨he2, hall⟩
  replace hc1 := he2.obj hc0
  have e2 := he1.trans he2
  refine Sg ?_
  refine K.cond (fun g5 => ?_) (fun g5 => ?_)
  · have hk' : k < m.procs.length := by omega
    obtain ⟨a, rfl⟩ := h3.addr (by omega)
    obtain ⟨_, vv, vc, hp, hpv, hpc⟩ := h3.at k hk'
    obtain ⟨ov, cv, rfl, lv⟩ := hpv.form
    obtain ⟨oc, cc, rfl, lc⟩ := hpc.form
    refine Sg ?_
    refine K.cond (fun g6 => ?_) (fun g6 => ?_)
    · refine Sg ?_
      exact ⟨⟨false, rfl, fun h => by cases h⟩, e2⟩
    refine Sg ?_
    refine K.cond (fun g7 => ?_) (fun g7 => ?_)
    · refine Sg ?_
      exact ⟨⟨false, rfl, fun h => by cases h⟩, e2⟩
    refine Sg ?_
    refine K.forG 4 m.procs[k].cmds.length [1, 3] (fun _ => []) () (fun i _ w' => Ext w1 w') (by first | trivial | rfl | exact ⟨rfl, trivial⟩ | (simp -dsimp only [LL,slots_nil,slots_cons,keepV_nil,keepV_cons,has_nil,has_cons,Nat.reduceAdd,Nat.reduceEqDiff,reduceIte,and_self]; done) | (simp -dsimp only [LL,slots_nil,slots_cons,keepV_nil,keepV_cons,has_nil,has_cons,Nat.reduceAdd,Nat.reduceEqDiff,reduceIte,and_self]; exact ⟨rfl, trivial⟩)) (by first | trivial | rfl | exact ⟨rfl, trivial⟩ | (simp -dsimp only [LL,slots_nil,slots_cons,keepV_nil,keepV_cons,has_nil,has_cons,Nat.reduceAdd,Nat.reduceEqDiff,reduceIte,and_self]; done) | (simp -dsimp only [LL,slots_nil,slots_cons,keepV_nil,keepV_cons,has_nil,has_cons,Nat.reduceAdd,Nat.reduceEqDiff,reduceIte,and_self]; exact ⟨rfl, trivial⟩)) he2 ?_
    clear hc1 e2 he2
    rintro i _ S w3 hi he2
    have hc1 := he2.obj hc0
    have e2 := he1.trans he2
    refine Sg ?_
    refine K.cond (fun g8 => ?_) (fun g8 => ?_)
    · have hi' : i < m.procs[k].cmds.length := by omega
      obtain ⟨ac, rfl⟩ := hpc.addr (by omega)
      obtain ⟨cc1, hcc, hC⟩ := Rel.out (hpc.at i hi')
      obtain ⟨_, _, _, rfl, _, _⟩ := id hC
      refine Sg ?_
      refine K.call (lightC_r _ m.procs[k].cmds[i] w3 (hC.ext e2)) ?_
      rintro _ w4 ⟨⟨b, rfl⟩, he4⟩
      cases b with
      | false =>
        refine Sg ?_
        exact ⟨⟨false, rfl, fun h => by cases h⟩, e2.trans he4⟩
      | true =>
        refine Sg ?_
        exact ⟨hi', by first | trivial | rfl, (), trivial, he2.trans he4⟩
    · refine Sg ?_
      refine ⟨hk', by first | trivial | rfl, (), trivial, he2, fun j hj hjk => ?_⟩
      by_cases hjj : j = k
      · subst hjj; exact ⟨by omega, by omega⟩
      · exact hall j hj (by omega)
  refine Sg ?_
  refine K.forG 5 m.props.length [1] (fun _ => []) () (fun i _ w' => w' = w2) (by first | trivial | rfl | exact ⟨rfl, trivial⟩ | (simp -dsimp only [LL,slots_nil,slots_cons,keepV_nil,keepV_cons,has_nil,has_cons,Nat.reduceAdd,Nat.reduceEqDiff,reduceIte,and_self]; done) | (simp -dsimp only [LL,slots_nil,slots_cons,keepV_nil,keepV_cons,has_nil,has_cons,Nat.reduceAdd,Nat.reduceEqDiff,reduceIte,and_self]; exact ⟨rfl, trivial⟩)) (by first | trivial | rfl | exact ⟨rfl, trivial⟩ | (simp -dsimp only [LL,slots_nil,slots_cons,keepV_nil,keepV_cons,has_nil,has_cons,Nat.reduceAdd,Nat.reduceEqDiff,reduceIte,and_self]; done) | (simp -dsimp only [LL,slots_nil,slots_cons,keepV_nil,keepV_cons,has_nil,has_cons,Nat.reduceAdd,Nat.reduceEqDiff,reduceIte,and_self]; exact ⟨rfl, trivial⟩)) rfl ?_
  rintro i _ S w3 hi rfl
  refine Sg ?_
  refine K.cond (fun g8 => ?_) (fun g8 => ?_)
  · have hi' : i < m.props.length := by omega
    obtain ⟨ac, rfl⟩ := h4.addr (by omega)
    obtain ⟨_, ve, hcc, hve⟩ := h4.at i hi'
    obtain ⟨ov, cv, rfl, lv⟩ := hve.form
    refine Sg ?_
    refine K.cond (fun g9 => ?_) (fun g9 => ?_)
    · refine Sg ?_
      exact ⟨⟨false, rfl, fun h => by cases h⟩, e2⟩
    refine Sg ?_
    exact ⟨hi', by first | trivial | rfl, (), trivial, by first | trivial | rfl⟩
  refine Sg ?_
  exact ⟨⟨true, rfl, fun _ => ⟨by omega, by omega, by omega, by omega, by omega, fun j hj => hall j hj (by omega)⟩⟩, e2⟩
end Go.Proofs.YtbbaokmelkiemaaGreatDoor
end
section
/- Names: rows of strings of one's own; join; light. -/
set_option maxRecDepth 4000
set_option maxHeartbeats 3200000
namespace Go.Proofs.YtbbaokmelkiemaaGreatDoor
open Go Go.RowKit Lite
/-- A slice's word. -/
abbrev SlN := Option Addr × Nat × Nat
def slvN (x : SlN) : Value := .slice x.1 x.2.1 x.2.2
def encS (x : ByteArray) : List Value := [.string x]
theorem encS_one (y : ByteArray) : ∀ u ∈ encS y, u.oneCell' = true := by
  intro u hu
  simp only [encS, List.mem_cons, List.not_mem_nil, or_false] at hu
  subst hu; rfl
abbrev OwnN (base : Nat) (w : World) (v : SlN) (ss : List ByteArray) : Prop := OwR encS T.string 1 base w (slvN v) ss
/-- A model that may be gone through. -/
structure LightM (m : Abs.Model) : Prop where
  s : m.scalars.length ≤ 20
  v : m.vars.length ≤ 20
  c : m.chans.length ≤ 20
  p : m.procs.length ≤ 20
  q : m.props.length ≤ 20
  i : ∀ (j : Nat) (h : j < m.procs.length), m.procs[j].vars.length ≤ 20 ∧ m.procs[j].cmds.length ≤ 20
end Go.Proofs.YtbbaokmelkiemaaGreatDoor
end
section
/- What stands while names are gathered. -/
set_option maxRecDepth 4000
set_option maxHeartbeats 6400000
namespace Go.Proofs.YtbbaokmelkiemaaGreatDoor
open Go Go.RowKit Lite
/-- What stands while names are gathered. -/
structure NamSt (w w' : World) (b1 : Nat) (cs : List Value) (v : SlN) (ss : List ByteArray) : Prop where
  ext : Ext w w'
  h1 : w'.heap[b1]? = some (.cells cs.toArray T.api_Model)
  own : OwnN w.heap.size w' v ss
theorem NamSt.then {w w' w'' : World} {b1 : Nat} {cs : List Value} {v : SlN} {ss : List ByteArray} (h : NamSt w w' b1 cs v ss) (he : Ext w' w'') : NamSt w w'' b1 cs v ss := ⟨h.ext.trans he, he.obj h.h1, h.own.ext he⟩
theorem NamSt.grown {w w' w'' : World} {b1 : Nat} {cs : List Value} {v v' : SlN} {ss ss' : List ByteArray} (h : NamSt w w' b1 cs v ss) (hg : w'.grownBy w'' (slvN v).ownBlock) (ho : OwnN w.heap.size w'' v' ss') : NamSt w w'' b1 cs v' ss' := by
  refine ⟨Ext.grown h.ext hg fun k hk => (h.own.lt k hk).1, ?_, ho⟩
  rw [hg.block b1 (lt_of_heap h.h1) fun e' => ?_]
  · exact h.h1
  rcases h.own.2 with ⟨e, _⟩ | ⟨g, cap, c2, e, _, hgg, _⟩
  · rw [e] at e'; cases e'
  · rw [e] at e'
    simp only [Value.ownBlock, Option.some.injEq] at e'
    subst e'
    have := h.h1.symm.trans hgg
    injection this with this
    injection this with _ this
    revert this; decide
theorem NamSt.re {w w' : World} {b1 : Nat} {cs : List Value} {v : SlN} {ss ss' : List ByteArray} (h : NamSt w w' b1 cs v ss) (e : ss = ss') : NamSt w w' b1 cs v ss' := e ▸ h
theorem take_snoc {α β : Type} (f : α → β) (pre : List β) (l : List α) (k : Nat) (h : k < l.length) : pre ++ (l.take k).map f ++ [f l[k]] = pre ++ (l.take (k + 1)).map f := by
  rw [List.take_succ_eq_append_getElem h, List.map_append, ← List.append_assoc]; rfl
end Go.Proofs.YtbbaokmelkiemaaGreatDoor
end
section
/- All names, walked. -/
set_option maxRecDepth 4000
set_option maxHeartbeats 6400000
namespace Go.Proofs.YtbbaokmelkiemaaGreatDoor
open Go Go.RowKit Lite
end Go.Proofs.YtbbaokmelkiemaaGreatDoor
end
section
/- The document's names, walked. -/
set_option maxRecDepth 4000
set_option maxHeartbeats 6400000
namespace Go.Proofs.YtbbaokmelkiemaaGreatDoor
open Go Go.RowKit Lite
end Go.Proofs.YtbbaokmelkiemaaGreatDoor
end
section
/- Whole models: names ahead, the document's (printed by ahead.py). -/
set_option maxRecDepth 4000
set_option maxHeartbeats 6400000
namespace Abs
end Abs
namespace Go.Proofs.YtbbaokmelkiemaaGreatDoor
open Go Go.RowKit Lite
theorem app_s2 {P : Program} {v : SlN} {ss : List ByteArray} {x : ByteArray} {b c base : Nat} {w : World} {KK : Value → World → Prop} {ty : TypeId} {t} (h : OwnN base w v ss) (hc : w.heap[b]? = some (.cells #[.string x] T.string)) (hm : ss.length + 1 ≤ 8796093022208) (hbase : base ≤ w.heap.size)
    (hk : ∀ (v' : SlN) w', OwnN base w' v' (ss ++ [x]) → w.grownBy w' (slvN v).ownBlock → KK (.slice v'.1 v'.2.1 v'.2.2) w') : AppVCh P ty T.string 1 16 (.slice v.1 v.2.1 v.2.2) (.slice (some ⟨b, 0, none⟩) 1 c) w KK t := by
  have q5 : (ss.length + 1) * 16 ≤ 140737488355328 := by omega
  have q6 : ss.length + 1 ≤ maxLen := by unfold maxLen; omega
  refine K.appO (b := 16) (s := slvN v) (ys := [x]) h (fun _ => rfl) (cellsAt_blk hc) rfl encS_one q5 q6 hbase fun v' w' ho hg => ?_
  obtain ⟨oa, cap, rfl, _⟩ := ho.form
  exact hk (oa, _, cap) w' ho hg
end Go.Proofs.YtbbaokmelkiemaaGreatDoor
end
section
/- Plain: a right model without its propositions, and with a name twice. -/
namespace Abs
open Go
def mNodes : List Node := [⟨1, 0⟩, ⟨1, 0⟩, ⟨14, 0⟩]
def names4 (m : Model) : List ByteArray := m.vars.map (·.name) ++ m.chans.map (·.name) ++ m.procs.map (·.name) ++ m.props.map (·.name)
def less (m : Model) : Model := ⟨m.scalars, m.vars, m.chans, m.procs, []⟩
def more (m : Model) (s : ByteArray) : Model := ⟨m.scalars, m.vars, m.chans, m.procs, m.props ++ [⟨s, mNodes⟩]⟩
theorem check_split {m : Model} (h : (check m).why = 0) : (data m).why = 0 ∧ (procsF m).why = 0 ∧ (propsF m).why = 0 := by
  unfold check at h
  by_cases h1 : (data m).why ≠ 0
  · rw [if_pos h1] at h; exact absurd h h1
  rw [if_neg h1] at h
  by_cases h2 : (procsF m).why ≠ 0
  · rw [if_pos h2] at h; exact absurd h h2
  rw [if_neg h2] at h
  exact ⟨by simpa using h1, by simpa using h2, h⟩
theorem check_less {m : Model} (h : (check m).why = 0) : (check (less m)).why = 0 := by
  obtain ⟨h1, h2, _⟩ := check_split h
  have e1 : data (less m) = data m := rfl
  have e2 : procsF (less m) = procsF m := rfl
  unfold check
  rw [e1, e2, if_neg (by simpa using h1), if_neg (by simpa using h2)]
  rfl
theorem isName_of {most : Int} {nm : Nat → ByteArray} {mo : Nat → Int} {i : Nat} (h : err most nm mo i = 0) : isName (nm i) = true := by
  unfold err at h
  by_cases h1 : most ≤ i
  · rw [if_pos h1] at h; cases h
  rw [if_neg h1] at h
  by_cases h2 : isName (nm i) = false
  · rw [if_pos h2] at h; cases h
  · simpa using h2
theorem names_ok {m : Model} (h : (check m).why = 0) {s : ByteArray} (hs : s ∈ names4 m) : isName s = true := by
  obtain ⟨h1, h2, h3⟩ := check_split h
  obtain ⟨_, hv, hc⟩ := data_ok h1
  obtain ⟨hp, _, _⟩ := procs_ok h2
  have hr := props_ok h3
  unfold names4 at hs
  simp only [List.mem_append, List.mem_map] at hs
  rcases hs with ((⟨x, hx, rfl⟩ | ⟨x, hx, rfl⟩) | ⟨x, hx, rfl⟩) | ⟨x, hx, rfl⟩
  · obtain ⟨j, hj, rfl⟩ := List.mem_iff_getElem.1 hx
    have := isName_of (verr_of (hv j hj))
    rwa [nameAt_get hj] at this
  · obtain ⟨j, hj, rfl⟩ := List.mem_iff_getElem.1 hx
    have := isName_of (cerr_of (hc j hj))
    rwa [nameAt_get hj] at this
  · obtain ⟨j, hj, rfl⟩ := List.mem_iff_getElem.1 hx
    have := (procCheck_few (eproc_ok hj (hp j hj)).2.1).2.2.1
    unfold whole at this
    by_cases h2 : isName m.procs[j].name = false
    · rw [if_pos h2] at this; cases this
    · simpa using h2
  · obtain ⟨j, hj, rfl⟩ := List.mem_iff_getElem.1 hx
    have := hr j hj
    rw [eprop_get hj] at this
    by_cases h1 : 8 ≤ j
    · rw [if_pos h1] at this; cases this
    rw [if_neg h1] at this
    by_cases h2 : isName m.props[j].name = false
    · rw [if_pos h2] at this; cases this
    · simpa using h2
theorem check_more {m : Model} (h : (check m).why = 0) {s : ByteArray} (hs : s ∈ names4 m) (hn : m.props.length < 8) : check (more m s) = ⟨7, 5, m.props.length, 0⟩ := by
  obtain ⟨h1, h2, h3⟩ := check_split h
  have hr := props_ok h3
  have e1 : data (more m s) = data m := rfl
  have e2 : procsF (more m s) = procsF m := rfl
  have hl : (more m s).props.length = m.props.length + 1 := by simp [more]
  have hold : ∀ j, j < m.props.length → eprop (more m s) j = 0 := fun j hj => by
    have e : eprop (more m s) j = eprop m j := by
      unfold eprop
      have e3 : (more m s).props[j]? = m.props[j]? := by simp [more, List.getElem?_append_left hj]
      have e4 : nAll (more m s) j = nAll m j := by
        unfold nAll nR
        have e5 : (more m s).props.take j = m.props.take j := by simp [more, List.take_append_of_le_length (by omega : j ≤ m.props.length)]
        rw [e5]
        rfl
      rw [e3, e4]
      rfl
    rw [e]; exact hr j hj
  have hnew : eprop (more m s) m.props.length = 7 := by
    rw [eprop_get (by omega)]
    have e3 : ((more m s).props[m.props.length]'(by omega)).name = s := by simp [more]
    rw [if_neg (by omega), e3, if_neg (by rw [names_ok h hs]; decide), if_pos]
    unfold nAll nR nSVCP nSVC nSV nS nV nC nP
    have e5 : (more m s).props.take m.props.length = m.props := by simp [more]
    rw [e5]
    unfold names4 at hs
    simp only [List.mem_append] at hs
    simp only [List.mem_append, List.take_length]
    rcases hs with ((hs | hs) | hs) | hs
    · exact .inl (.inl (.inl (.inr hs)))
    · exact .inl (.inl (.inr hs))
    · exact .inl (.inr hs)
    · exact .inr hs
  unfold check
  rw [e1, e2, if_neg (by simpa using h1), if_neg (by simpa using h2), props_i (i := m.props.length) (by omega) hold (by rw [hnew]; decide), hnew]
end Abs
end
section
/- Lite: any list, be it nil, put behind a row of one's own. -/
set_option maxRecDepth 4000
set_option maxHeartbeats 1600000
namespace Lite
open Go Go.RowKit
section
variable {P : Program} {KK : Value → World → Prop} {e : TypeId} {sz base : Nat} {w : World} {s x : Value} {xs ys : List (Cs sz)}
theorem K.appL {ty : TypeId} {b : Nat} {t} (hs : OwC e sz base w s xs) (hx : SlR sz (Flat encC) w x ys) (hb : (xs.length + ys.length) * b ≤ 140737488355328) (h63 : xs.length + ys.length ≤ maxLen) (hbase : base ≤ w.heap.size)
    (hk : ∀ v' w', OwC e sz base w' v' (xs ++ ys) → w.grownBy w' s.ownBlock → KK v' w') : AppVCh P ty e sz b s x w KK t := by
  obtain ⟨oa, cap, rfl, h1, h2, h3, h4⟩ := hx.ex
  cases oa with
  | some a => exact K.appAt hs encC_len (SlR.flat encC_len (fun _ _ h => h) ⟨some a, cap, rfl, h1, h2, h3, h4⟩) rfl encC_one hb h63 hbase fun v' w' h5 h6 _ => hk v' w' h5 h6
  | none =>
    have : ys = [] := Classical.byContradiction fun hn => by have := h3 hn; cases this
    subst this
    rw [List.append_nil] at hk
    refine K.app fun ⟨ht, i, z, hi, hz, hsize, hby, hzs, hsz'⟩ => ?_
    refine ⟨ty, s, w, ?_, hk s w hs ⟨rfl, rfl, rfl, Nat.le_refl _, fun _ _ _ => rfl⟩⟩
    rcases hs.2 with ⟨rfl, h0⟩ | ⟨g, cap, cur, rfl, _, _, hnc, _⟩
    · simp [Builtin.append_, run_underlying ht, Go.sizeOf, typeInfo, hi, Builtin.lenOf, Builtin.firstCells]
    · simp [Builtin.append_, run_underlying ht, Go.sizeOf, typeInfo, hi, Builtin.lenOf, Builtin.firstCells, hnc, storeCells]
end
end Lite
end
